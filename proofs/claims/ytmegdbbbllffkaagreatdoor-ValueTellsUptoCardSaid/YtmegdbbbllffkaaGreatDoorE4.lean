/- The proof, part E4: Mh, Mi. -/
import Derived.Test.YtmegdbbbllffkaaGreatDoorE3
namespace Go.Slot
open Go Go.RowKit
variable {P:Program}
variable {M:Nat->Nat->Prop} {w:World} {v:Value} {av:AV} {lo hi:Option Operand} {l cap es:Nat} {I:List AV} {o:Oper} {T:TypeId} {x:Operand} {ti te:TI} {r:List Nat×List (Nat×AV)} {parts:List (Nat×Operand)}
def Cell.isSl:Cell->Bool
 | .ints _ _ | .sl _ _ | .zc=>true
 | _=>false
def natA:AV->Option Nat
 | .one (.raw (.int _ n))=>if 0<=n then some n.toNat else none
 | _=>none
def ytz (I:List AV) (d:Nat):Option Operand->Option Nat
 | none=>some d
 | some x=>natA (opd I x)
def orrO:Option Operand->List Nat
 | none=>[]
 | some x=>orr x
def cutC (c:Cell) (lo:Nat) (hi:Option Nat):Option Cell:=
 match c with
 | .ints k l=>let h:=hi.getD l.length
  if lo<=h/\h<=l.length then some (.ints k ((l.drop lo).take (h-lo))) else none
 | .sl n rows=>let h:=hi.getD rows.length
  if lo<=h/\h<=rows.length then some (.sl n ((rows.drop lo).take (h-lo))) else none
 | _=>none
def w6c (I:List AV) (ti:TI) (x:Operand) (lo hi mx:Option Operand):Option AV:=
 match ytz I 0 lo,(match hi with | none=>some none | some h=>(natA (opd I h)).map some) with
 | some l,some h=>
  match mx with
  | none=>match opd I x with
   | .one (.raw (.string s))=>match ti.sh with
    | .string=>if l<=h.getD s.size/\h.getD s.size<=s.size then some (.one (.raw (.string (s.extract l (h.getD s.size))))) else none
    | _=>none
   | .one c=>match ti.sh with
    | .slice _ _ _ _=>(cutC c.bare l h).map .one
    | _=>none
   | _=>none
  | some m=>match ti.sh,opd I x with
   | .slice _ _ _ _,.one c=>if c.bare.isSl=true/\l=0/\h=some 0/\natA (opd I m)=some 0 then some (.one .zc) else none
   | _,_=>none
 | _,_=>none
theorem xnh {τ:Nat->TV} {tm:Array Value} {n:Nat} (h:vi6 M w τ tm v av) (hn:natA av=some n):∃ k,v=.int k n:=by
 unfold natA at hn;split at hn
 . rename_i k m;split at hn
   . rename_i h0
     cases hn;have e:v=.int k m:=RdC.zb5 h;exact ⟨k,by rw [e];congr 1;omega⟩
   . cases hn
 . cases hn
theorem z2f {n y:Nat} {k:IntKind} (hv:v=.int k n) (h:n<=y) (code:BoundsCode) (w:World):(Instr.sliceBound v y code).run P w=.ok n w:=by
 subst hv
 have:(n:Int)<=(y:Int):=by omega
 simp [Instr.sliceBound,asIntOf,this]
theorem yqw (k:IntKind) (y:Nat) (code:BoundsCode) (w:World):(Instr.sliceBound (.int k 0) y code).run P w=.ok 0 w:=by
 simp [Instr.sliceBound,asIntOf]
theorem yin {lo hi:Option Value} {h len:Nat} {isS:Bool} (hl:match lo with | none=>l=0 | some v=>∃ k,v=.int k l) (hh:match hi with | none=>h=len | some v=>∃ k,v=.int k h)
 (h1:l<=h) (h2:h<=cap) (w:World):(Instr.sliceBounds isS len cap lo hi none).run P w=.ok (l,h,cap) w:=by
 unfold Instr.sliceBounds
 cases hi with
 | none=>
  simp only at hh;subst hh
  cases lo with
  | none=>simp only at hl;subst hl;simp
  | some v=>obtain ⟨k,hv⟩:=hl;simp [z2f hv h1]
 | some u=>
  obtain ⟨k',hu⟩:=hh
  cases lo with
  | none=>simp only at hl;subst hl;simp [z2f hu h2]
  | some v=>obtain ⟨k,hv⟩:=hl;simp [z2f hu h2,z2f hv h1]
theorem RdC.cut {ad:Option Addr} {len:Nat} {c c':Cell} {h:Option Nat} (hr:RdC M w (.slice ad len cap) c) (hc:cutC c l h=some c')
 (hes:∀ k L,c=.ints k L->es=1) (hes':∀ n rows,c=.sl n rows->es=n) :
 l<=h.getD len/\h.getD len<=len/\len<=cap/\RdC M w (.slice (if cap=l then ad else ad.map (·.add (l*es))) (h.getD len-l) (cap-l)) c':=by
 cases hr with
 | raw h=>cases hc
 | zc=>cases hc
 | nn=>cases hc
 | fnp=>cases hc
 | @ints _ _ _ k L b off hl hcap ha hcell=>
  simp only [cutC] at hc;split at hc
  . rename_i hb
    cases hc;subst hl;have he:=hes k L rfl;subst he;refine ⟨hb.1,hb.2,hcap,?_⟩;refine .ints b (off+l) (by simp;omega) (by omega) (fun hne=>?_) (fun i hi=>?_)
    . have:L≠[]:=fun e=>by subst e;simp at hne
      have hlt:¬cap=l:=fun e=>by
       apply hne
       have:h.getD L.length=l:=by omega
       simp [this]
      rw [if_neg hlt,ha this];simp [v1c]
    . simp only [List.length_take,List.length_drop] at hi
      have:=hcell (l+i) (by omega)
      rw [Nat.add_assoc];simpa using this
  . cases hc
 | @sl _ _ _ n rows b off u hl hcap ha hn hm hr=>
  simp only [cutC] at hc;split at hc
  . rename_i hb
    cases hc;subst hl;have he:=hes' n rows rfl;subst he;refine ⟨hb.1,hb.2,hcap,?_⟩;refine .sl b (off+l*es) (fun i j=>u (l+i) j) (by simp;omega) (by omega) (fun hne=>?_) (fun r hr'=>hn r (List.mem_of_mem_drop (List.mem_of_mem_take hr'))) (fun i hi j hj=>?_) (fun i hi j hj=>?_)
    . have:rows≠[]:=fun e=>by subst e;simp at hne
      have hlt:¬cap=l:=fun e=>by
       apply hne
       have:h.getD rows.length=l:=by omega
       simp [this]
      rw [if_neg hlt,ha this];simp [v1c]
    . simp only [List.length_take,List.length_drop] at hi
      have:=hm (l+i) (by omega) j hj
      rw [Nat.add_mul] at this
      have e:off+l*es+i*es+j=off+(l*es+i*es)+j:=by omega
      rw [e];exact this
    . simp only [List.length_take,List.length_drop] at hi
      have hlen:l+i<rows.length:=by omega
      have hj':j<rows[l+i].length:=by simpa using hj
      have:=hr (l+i) hlen j hj'
      simpa using this
  . cases hc
theorem RdC.wpt {c:Cell} (h:RdC M w v c) (hc:c.isSl=true):∃ ad len cap,v=.slice ad len cap:=by
 cases h with
 | raw _=>cases hc
 | fnp=>cases hc
 | _=>exact ⟨_,_,_,rfl⟩
theorem y8g {mx:Option Operand} (ho:o.op=.slice T x lo hi mx) (hti:mkTI P T=some ti)
 (hes:∀ e es eb ik,ti.sh=.slice e es eb ik->∀ c,opd I x=.one c->(∀ k L,c.bare=.ints k L->es=1)/\(∀ n rows,c.bare=.sl n rows->es=n))
 (hs:w6c I ti x lo hi mx=some av) (h:val I o (orr x++orrO lo++orrO hi++orrO mx) av=some r):yh6 P o I r.1 [] r.2:=by
 have hok:=vnz hti;obtain ⟨d,i,z,hd,hi',hz,_,_,_,_,_,hsh'⟩:=hok.ex
 have hprops:av.vy8=false/\av.rf=none:=by
  unfold w6c at hs
  repeat' split at hs
  all_goals first
   | (cases hs;exact ⟨rfl,rfl⟩)
   | (simp only [Option.map_eq_some_iff] at hs;obtain ⟨_,_,rfl⟩:=hs;exact ⟨rfl,rfl⟩)
   | cases hs
 refine yh6.pure h hprops.1 hprops.2 (fun E τ M I' a w hop hgt hI=>?_);have sx:=hI.opd x;rw [hop x (fun t ht=>by simp [ht])] at sx
 have bnd:∀(u:Option Operand) (dflt n:Nat),(∀ y,u=some y->opd I' y=opd I y)->ytz I dflt u=some n->match u.map a.eval with | none=>n=dflt | some v=>∃ k,v=.int k n:=fun u dflt n hu hb=>by
  cases u with
  | none=>simp [ytz] at hb;exact hb.symm
  | some y=>
   have sy:=hI.opd y;rw [hu y rfl] at sy;exact xnh sy hb
 have hlo:∀ y,lo=some y->opd I' y=opd I y:=fun y e=>hop y (fun t ht=>by subst e;simp [orrO,ht])
 have hhi:∀ y,hi=some y->opd I' y=opd I y:=fun y e=>hop y (fun t ht=>by subst e;simp [orrO,ht])
 have hmx:∀ y,mx=some y->opd I' y=opd I y:=fun y e=>hop y (fun t ht=>by subst e;simp [orrO,ht])
 unfold w6c at hs;split at hs
 case h_2=>cases hs
 rename_i l hh hl hhb;have bl:=bnd lo 0 l hlo hl
 have bh:∀ len:Nat,match hi.map a.eval with | none=>hh.getD len=len | some v=>∃ k,v=.int k (hh.getD len):=fun len=>by
  cases hi with
  | none=>simp at hhb;subst hhb;rfl
  | some y=>
   simp only [Option.map_eq_some_iff] at hhb;obtain ⟨n,hn,rfl⟩:=hhb;have sy:=hI.opd y;rw [hhi y rfl] at sy;exact xnh sy hn
 split at hs
 ·
  split at hs
  . rename_i s hxs;rw [hxs] at sx;have ex:a.eval x=.string s:=RdC.zb5 sx;split at hs
    . rename_i hsh;split at hs
      . rename_i hb
        cases hs;have hds:=zms (hsh'.symm.trans hsh);subst hds;refine ⟨.string (s.extract l (hh.getD s.size)),?_,RdC.raw rfl,fun t ht=>ht.elim⟩;have hrb:=yin (P:=P) (isS:=false) (len:=s.size) (cap:=s.size) bl (bh s.size) hb.1 hb.2 w;simp [execOp,ho,ex,Instr.sliceAt,voj hd,Instr.slice,hrb]
      . cases hs
    . cases hs
  . rename_i c hnot hxc;rw [hxc] at sx;split at hs
    . rename_i e es eb ik hsh;simp only [Option.map_eq_some_iff] at hs;obtain ⟨c',hc',rfl⟩:=hs;obtain ⟨rfl,j,z',hj,hz',hjs,_⟩:=wqb (hsh'.symm.trans hsh);have hrb:=RdT.bare (show RdT M w τ _ c from sx)
      have hsv:∃ ad len cap,a.eval x=.slice ad len cap:=hrb.wpt (by
       generalize c.bare=cb at hc'
       cases cb<;>first | rfl | cases hc')
      obtain ⟨ad,len,cap,ex⟩:=hsv;rw [ex] at hrb;have hcut:=hrb.cut hc' (hes e es eb ik hsh c hxc).1 (hes e es eb ik hsh c hxc).2;refine ⟨_,?_,RdT.of hcut.2.2.2,fun t ht=>?_⟩
      . have hrbs:=yin (P:=P) (isS:=true) (len:=len) (cap:=cap) bl (bh len) hcut.1 (by omega) w;simp [execOp,ho,ex,Instr.sliceAt,voj hd,Instr.slice,hrbs,xvo hj,hjs]
      . have hnt:∀ t,¬c'.vjg t:=fun t ht=>by
         cases c' with
         | tok d' c''=>exact hcut.2.2.2.z3m
         | _=>exact ht
        exact absurd ht (hnt t)
    . cases hs
  . cases hs
 . rename_i m;split at hs
   . rename_i e es eb ik c hsh hxc;rw [hxc] at sx;split at hs
     . rename_i hb;obtain ⟨hsl,rfl,rfl,hm⟩:=hb
       cases hs;obtain ⟨rfl,j,z',hj,hz',hjs,_⟩:=wqb (hsh'.symm.trans hsh);have hrb:=RdT.bare (show RdT M w τ _ c from sx);have sm:=hI.opd m;rw [hmx m rfl] at sm;obtain ⟨km,em⟩:=xnh sm hm;obtain ⟨ad,len,cap,ex⟩:=hrb.wpt hsl;have hhv:=bh 0;have hlv:∀(lv:Option Value),(match lv with | none=>0=0 | some v=>∃ k,v=.int k (0:Nat))->∀ hv:Value,(∃ k,hv=.int k (0:Nat))->
        (Instr.sliceBounds true len cap lv (some hv) (some (.int km (0:Nat)))).run P w=.ok (0,0,0) w:=fun lv h1 hv ⟨k2,h2⟩=>by
        unfold Instr.sliceBounds
        cases lv with
        | none=>subst h2;simp [yqw]
        | some v=>obtain ⟨k3,h3⟩:=h1;subst h2;subst h3;simp [yqw]
       cases hi with
       | none=>simp at hhb
       | some hy=>
        have hres:=hlv (lo.map a.eval) bl (a.eval hy) hhv;have hmv:a.eval m=.int km (0:Nat):=em;refine ⟨.slice ad 0 0,?_,RdC.zc,fun t ht=>ht.elim⟩;simp only [execOp,ho,ex,Instr.sliceAt,Option.map_some,hmv,Sem.run_bind,voj hd,Result.andThen_ok,Instr.slice,hres,xvo hj];simp
     . cases hs
   . cases hs
def yla (I:List AV) (ti:TI) (x:Operand) (lo hi:Option Operand):Option (List Nat×AV):=
 match ytz I 0 lo,(match hi with | none=>some none | some h=>(natA (opd I h)).map some) with
 | some l,some h=>match ti.sh,x with
  | .slice _ es _ _,.tmp t=>match gt I t with
   | .arr _ c _=>if es=c.esz/\l<=h.getD c.cnt/\h.getD c.cnt<=c.cnt then some (t::(orrO lo++orrO hi),.awn t es l (h.getD c.cnt-l)) else none
   | .asl s=>match gt I s with
    | .arr _ c _=>if es=c.esz/\l<=h.getD c.cnt/\h.getD c.cnt<=c.cnt then some (t::s::(orrO lo++orrO hi),.awn s es l (h.getD c.cnt-l)) else none
    | _=>none
   | .awn s m lo' n=>if es=m/\l<=h.getD n/\h.getD n<=n then some (t::(orrO lo++orrO hi),.awn s m (lo'+l) (h.getD n-l)) else none
   | _=>none
  | _,_=>none
 | _,_=>none
theorem vyc (ho:o.op=.slice T x lo hi none) (hti:mkTI P T=some ti) {rd:List Nat}
 (hs:yla I ti x lo hi=some (rd,av)) (h:val I o rd av=some r):yh6 P o I r.1 [] r.2:=by
 obtain ⟨d,hdst,hn,rfl⟩:=xj7 h;have hok:=vnz hti;obtain ⟨ds,i,z,hd,hi',hz,_,_,_,_,_,hsh'⟩:=hok.ex;unfold yla at hs;split at hs
 case h_2=>cases hs
 rename_i l hh hl hhb;split at hs
 case h_2=>cases hs
 rename_i e es eb ik t hsh;obtain ⟨rfl,j,z',hj,hz',hjs,_⟩:=wqb (hsh'.symm.trans hsh)
 have hrd:(∀ u∈orrO lo,u∈rd)/\(∀ u∈orrO hi,u∈rd)/\t∈rd/\av.vy8=false/\(∀ u,¬av.vjg u):=by
  repeat' split at hs
  all_goals first
   | (cases hs;exact ⟨fun u hu=>by simp [hu],fun u hu=>by simp [hu],by simp,rfl,fun u h=>h⟩)
   | cases hs
 refine yh6.val hdst (by simp) hn hrd.2.2.2.1 (fun E τ M I' a w hag hI=>?_)
 have bnd:∀(u:Option Operand) (dflt n:Nat),(∀ y,u=some y->opd I' y=opd I y)->ytz I dflt u=some n->match u.map a.eval with | none=>n=dflt | some v=>∃ k,v=.int k n:=fun u dflt n hu hb=>by
  cases u with
  | none=>simp [ytz] at hb;exact hb.symm
  | some y=>
   have sy:=hI.opd y;rw [hu y rfl] at sy;exact xnh sy hb
 have hlo:∀ y,lo=some y->opd I' y=opd I y:=fun y e=>hag.opd (fun t ht=>by subst e;exact List.mem_cons_of_mem _ (hrd.1 t (by simpa [orrO] using ht)))
 have hhi:∀ y,hi=some y->opd I' y=opd I y:=fun y e=>hag.opd (fun t ht=>by subst e;exact List.mem_cons_of_mem _ (hrd.2.1 t (by simpa [orrO] using ht)))
 have bl:=bnd lo 0 l hlo hl
 have bh:∀ len:Nat,match hi.map a.eval with | none=>hh.getD len=len | some v=>∃ k,v=.int k (hh.getD len):=fun len=>by
  cases hi with
  | none=>simp at hhb;subst hhb;rfl
  | some y=>
   simp only [Option.map_eq_some_iff] at hhb;obtain ⟨n,hn,rfl⟩:=hhb;have sy:=hI.opd y;rw [hhi y rfl] at sy;exact xnh sy hn
 have hgt:gt I' t=gt I t:=hag.2 t (List.mem_cons_of_mem _ hrd.2.2.1);have fin:∀(ad:Option Addr) (len cap:Nat),a.tmps.getD t Go.undef=.slice ad len cap->l<=hh.getD len->hh.getD len<=len->len<=cap->
  vi6 M w τ a.tmps (.slice (if cap=l then ad else ad.map (·.add (l*es))) (hh.getD len-l) (cap-l)) av->
  (∀(s:Nat) (b:Bool),av.rf=some (s,b)->∃ hv:AV,I'[s]? = some hv/\hv.fits b=true)->
  ∃ v w',(execOp a.eval o).run P w=.ok (.value v) w'/\Below w.heap.size w w'/\vi6 M w' τ a.tmps v av/\(∀ t,av.vjg t->live I' t)/\
   (∀(s:Nat) (b:Bool),av.rf=some (s,b)->∃ hv:AV,I'[s]? = some hv/\hv.fits b=true):=fun ad len cap ex h1 h2 h3 hsl hrf=>by
  refine ⟨_,w,?_,zgs w,hsl,fun u hu=>absurd hu (hrd.2.2.2.2 u),hrf⟩;have hrbs:=yin (P:=P) (isS:=true) (len:=len) (cap:=cap) bl (bh len) h1 (by omega) w;have ex':a.eval (.tmp t)=.slice ad len cap:=ex;simp [execOp,ho,ex',Instr.sliceAt,voj hd,Instr.slice,hrbs,xvo hj,hjs]
 split at hs
 . rename_i pre c post hg;split at hs
   . rename_i hc
     cases hs;obtain ⟨rfl,h1,h2⟩:=hc;have hss:=hI.gt t;rw [hgt,hg] at hss;obtain ⟨b,Tb,vs,q,cap,e1,hb,_,_,_,hcap,_⟩:=hss;refine fin _ _ _ e1 h1 h2 hcap ⟨_,_,rfl,fun hne=>?_,by omega,by rw [e1];simp only [capV];omega⟩ (fun s' b' hr=>?_)
     . by_cases hcl:cap=l
       . have:l=0:=by omega
         subst this;subst hcl;rw [if_pos rfl,e1];simp [blk,offV]
       . rw [if_neg hcl,e1];simp [blk,offV,v1c]
     . simp only [AV.rf,Option.some.injEq,Prod.mk.injEq] at hr;obtain ⟨rfl,rfl⟩:=hr;exact ⟨_,vxi (hgt.trans hg) (by simp),rfl⟩
   . cases hs
 . rename_i s hg;split at hs
   . rename_i pre c post hg2;split at hs
     . rename_i hc
       cases hs;obtain ⟨rfl,h1,h2⟩:=hc;have hs1:=hI.gt t;rw [hgt,hg] at hs1;have hs1:a.tmps.getD t Go.undef=a.tmps.getD s Go.undef:=hs1;have hss:=hI.gt s
       have hgs:gt I' s=.arr pre c post:=by rw [hag.2 s (by simp)];exact hg2
       rw [hgs] at hss;obtain ⟨b,Tb,vs,q,cap,e1,hb,_,_,_,hcap,_⟩:=hss;refine fin _ _ _ (hs1.trans e1) h1 h2 hcap ⟨_,_,rfl,fun hne=>?_,by omega,by rw [e1];simp only [capV];omega⟩ (fun s' b' hr=>?_)
       . by_cases hcl:cap=l
         . have:l=0:=by omega
           subst this;subst hcl;rw [if_pos rfl,e1];simp [blk,offV]
         . rw [if_neg hcl,e1];simp [blk,offV,v1c]
       . simp only [AV.rf,Option.some.injEq,Prod.mk.injEq] at hr;obtain ⟨rfl,rfl⟩:=hr;exact ⟨_,vxi hgs (by simp),rfl⟩
     . cases hs
   . cases hs
 . rename_i s m lo' n hg;split at hs
   . rename_i hc
     cases hs;obtain ⟨rfl,h1,h2⟩:=hc;have hs1:=hI.gt t;rw [hgt,hg] at hs1;obtain ⟨ad,cap,e1,had,hcap,hcap'⟩:=hs1;refine fin _ _ _ e1 h1 h2 hcap ⟨_,_,rfl,fun hne=>?_,by omega,by omega⟩ (fun s' b' hr=>hI.refs t _ s' b' (vxi (hgt.trans hg) (by simp)) (by simpa [AV.rf] using hr));by_cases hcl:cap=l
     . have:l=0:=by omega
       subst this;subst hcl;rw [if_pos rfl,had (.inr (by omega))];simp
     . rw [if_neg hcl,had (.inl (by omega))];simp only [Option.map_some,v1c,Option.some.injEq,Addr.mk.injEq,and_true,true_and];rw [Nat.add_mul,Nat.add_assoc]
   . cases hs
 . cases hs
def vzm (I:List AV) (ti te:TI) (x y:Operand):Option AV:=
 match ti.sh,opd I x,opd I y with
 | .slice _ es eb ik,.one (.raw (.int _ n)),.one (.raw (.int _ m))=>
  if 0<=n/\n<=m/\(eb:Int)*m<=281474976710656/\m<=9223372036854775807 then match ik with
   | some k=>match te.zc with
    | [.raw (.int k' z)]=>if es=1/\k=k'/\z=0 then some (.arr [] (.ints k (List.replicate n.toNat 0)) none) else none
    | _=>none
   | none=>some (.arr [] (.sl es (List.replicate n.toNat te.zc)) none)
  else none
 | _,_,_=>none
theorem xbi (z:Array Value) (n:Nat):(madeCells z (n*z.size)).toList=(List.replicate n z.toList).flatten:=by
 induction n with
 | zero=>simp [madeCells]
 | succ n ih=>
  rw [List.replicate_succ',List.flatten_append,<-ih];simp only [madeCells,List.flatten_cons,List.flatten_nil,List.append_nil,Nat.succ_mul];apply List.ext_getElem
  . simp
  . intro i h1 h2;simp only [Array.toList_map,Array.toList_range,List.getElem_map,List.getElem_range];by_cases hi:i<n*z.size
    . rw [List.getElem_append_left (by simpa using hi)];simp
    . rw [List.getElem_append_right (by simpa using hi)];simp only [List.length_map,List.length_range,Array.getElem_toList]
      have hlt:i-n*z.size<z.size:=by simp at h1;omega
      have:i % z.size=i-n*z.size:=by
       rw [show i=(i-n*z.size)+z.size*n by rw [Nat.mul_comm z.size n];omega,Nat.add_mul_mod_self_left,Nat.mod_eq_of_lt hlt];rw [Nat.mul_comm z.size n];omega
      rw [this];rw [getElem!_pos z _ hlt]
theorem RdD.w1e {M:Nat->Nat->Prop} {w:World} {vs:List Value} {cs:List Cell} (h:RdD M w vs cs):∀ n:Nat,RdD M w (List.replicate n vs).flatten (List.replicate n cs).flatten
 | 0=>trivial
 | n+1=>by rw [List.replicate_succ,List.replicate_succ,List.flatten_cons,List.flatten_cons];exact h.append (h.w1e n)
theorem wjy {M:Nat->Nat->Prop} {w:World}:∀{l:List Value},(∀ v∈l,v.oneCell'=true)->RdD M w l (l.map wqc)
 | [],_=>trivial
 | v::l,h=>⟨yb5 (h v (by simp)),wjy (fun u hu=>h u (by simp [hu]))⟩
theorem yws {y:Operand} (ho:o.op=.makeSlice T x y) (hti:mkTI P T=some ti) (hte:∀ e es eb ik,ti.sh=.slice e es eb ik->mkTI P e=some te) (hb:vzm I ti te x y=some av)
 (h:val I o (orr x++orr y) av=some r):yh6 P o I r.1 [] r.2:=by
 obtain ⟨d,hdst,hn,rfl⟩:=xj7 h;have hok:=vnz hti;unfold vzm at hb;split at hb
 case h_2=>cases hb
 rename_i e es eb ik kx n ky m hsh hx hy;split at hb
 case isFalse=>cases hb
 rename_i hc;obtain ⟨h0,hnm,hby,h63⟩:=hc;obtain ⟨ds,i,z,hd,hi,hz,_,_,_,_,_,hsh'⟩:=hok.ex;obtain ⟨rfl,j,z',hj,hz',hjs,hjb,hes0,hzs,hik⟩:=wqb (hsh'.symm.trans hsh);obtain ⟨de,je,ze,hde,hje,hze,_,_,_,hone,hzce,_⟩:=(vnz (hte _ _ _ _ hsh)).ex;rw [hj] at hje;cases hje;rw [hz'] at hze;cases hze
 have key:∀ c:Cell,c.uni->c.cnt=n.toNat->c.esz=es->c.flat=(List.replicate n.toNat (z'.cells.toList.map wqc)).flatten->yh6 P o I (d::(orr x++orr y)) [] [(d,.arr [] c none)]:=fun c hu hcnt hesz hflat=>by
  refine yh6.new hdst (by simp) hn rfl rfl (fun E τ M I' a w hag hI=>?_);have sx:=hI.opd x;have sy:=hI.opd y;rw [hag.opd (fun t ht=>by simp [ht]),hx] at sx;rw [hag.opd (fun t ht=>by simp [ht]),hy] at sy;have ex:a.eval x=.int kx n:=RdC.zb5 sx;have ey:a.eval y=.int ky m:=RdC.zb5 sy;have hrun:=run_make (P:=P) w T e j z' hd hj hz' kx ky n m h0 hnm (by rw [hjb];exact hby) h63;refine ⟨.slice (some ⟨w.heap.size,0,none⟩) n.toNat m.toNat,.cells (madeCells z'.cells (m.toNat*j.size)) e,by simp [execOp,ho,ex,ey,hrun],rfl,?_,fun t ht=>ht.elim⟩
  have hcells:madeCells z'.cells (m.toNat*j.size)=([]++((List.replicate n.toNat z'.cells.toList).flatten++(List.replicate (m.toNat-n.toNat) z'.cells.toList).flatten)).toArray:=by
   rw [hjs,<-hzs,<-Array.toArray_toList (xs:=madeCells _ _),xbi,List.nil_append,<-List.flatten_append,List.replicate_append_replicate]
   congr 3;omega
  refine ⟨w.heap.size,e,(List.replicate n.toNat z'.cells.toList).flatten,(List.replicate (m.toNat-n.toNat) z'.cells.toList).flatten,m.toNat,by rw [hcnt];rfl,by rw [zuf,hcells],?_,(by intro p hp;cases hp),hu,by rw [hcnt];omega,?_⟩
  . rw [hflat];exact (wjy hone).w1e _
  . rw [hesz,w2q (m:=es) _ (fun r hr=>by rw [List.eq_of_mem_replicate hr];simpa using hzs),w2q (m:=es) _ (fun r hr=>by rw [List.eq_of_mem_replicate hr];simpa using hzs)];simp only [List.length_replicate,<-Nat.add_mul];exact Nat.mul_le_mul_right _ (by omega)
 split at hb
 . rename_i k _;split at hb
   . rename_i k' z0 hzc;split at hb
     . rename_i hc;obtain ⟨rfl,rfl,rfl⟩:=hc
       cases hb;refine key _ trivial (by simp [Cell.cnt]) rfl ?_;rw [<-hzce,hzc]
       have:∀(kk:IntKind) (n:Nat),(List.replicate n ([.raw (.int kk 0)]:List Cell)).flatten=List.replicate n (.raw (.int kk 0)):=fun kk n=>by
        induction n with
        | zero=>rfl
        | succ n ih=>rw [List.replicate_succ,List.flatten_cons,ih];rfl
       rw [this];simp [Cell.flat]
     . cases hb
   . cases hb
 . cases hb;refine key _ (fun r hr=>by rw [List.eq_of_mem_replicate hr,hzce];simpa using hzs) (by simp [Cell.cnt]) rfl ?_;rw [hzce];rfl
def wiu (place:Nat->Option (Nat×Nat)) (cs:List Cell):List (Nat×AV)->Option (List Cell)
 | []=>some cs
 | (i,av)::r=>match place i,zj8 av with
  | some (off,size),some us=>if us.length=size/\off+size<=cs.length then wiu place (cs.take off++us++cs.drop (off+size)) r else none
  | _,_=>none
def vn5 (I:List AV):List (Nat×Operand)->List (Nat×AV)
 | []=>[]
 | (i,x)::r=>(i,opd I x)::vn5 I r
def orrs:List (Nat×Operand)->List Nat
 | []=>[]
 | (_,x)::r=>orr x++orrs r
theorem z01 (off:Nat):∀(vs:List Value) (k:Nat) (cells:Array Value),off+k+vs.length<=cells.size->
 ((vs.zipIdx k).foldl (fun (cs:Array Value) (p:Value×Nat)=>cs.setIfInBounds (off+p.2) p.1) cells).toList=cells.toList.take (off+k)++vs++cells.toList.drop (off+k+vs.length)
 | [],k,cells,h=>by simp
 | v::vs,k,cells,h=>by
  simp only [List.zipIdx_cons,List.foldl_cons]
  have hlen:off+k<cells.size:=by simp at h;omega
  rw [z01 off vs (k+1) _ (by simp at h ⊢;omega)];simp only [Array.toList_setIfInBounds];rw [xwq _ _ _ (by simpa using hlen)]
  have h1:off+(k+1)=(cells.toList.take (off+k)++[v]).length:=by simp;omega
  rw [h1,List.take_left];have h2:(cells.toList.take (off+k)++[v]).length+vs.length=(cells.toList.take (off+k)++[v]).length+vs.length:=rfl;rw [List.drop_append];simp only [List.drop_drop]
  have h3:(cells.toList.take (off+k)++[v]).drop ((cells.toList.take (off+k)++[v]).length+vs.length)=[]:=by
   apply List.drop_eq_nil_of_le;omega
  rw [h3];simp only [List.nil_append,List.append_assoc,List.cons_append,List.length_cons]
  congr 3
  congr 1
  simp;omega
theorem y9v {E:Env} {τ:Nat->TV} {M:Nat->Nat->Prop} {I:List AV} {a:Act} {w:World} (hI:RelI E τ M I a w) (place:Nat->Option (Nat×Nat)):∀(ps:List (Nat×Operand)) (cells:Array Value) (cs cs':List Cell),
 RdL M w τ cells.toList cs->wiu place cs (vn5 I ps)=some cs'->∃ cells',Instr.fill place cells (ps.map fun p=>(p.1,a.eval p.2))=some cells'/\RdL M w τ cells'.toList cs'
 | [],cells,cs,cs',hr,h=>by
  simp only [vn5,wiu,Option.some.injEq] at h;subst h;exact ⟨cells,rfl,hr⟩
 | (i, x) :: ps, cells, cs, cs', hr, h => by
  simp only [vn5,wiu] at h;split at h
  . rename_i off size us hp hu;split at h
    . rename_i hc;obtain ⟨h1,h2⟩:=hc;have hv:=v3g hu (hI.opd x)
      have hvl:(a.eval x).cells.size=size:=by rw [<-h1,<-hv.length];simp
      have hcl:cells.size=cs.length:=by rw [<-hr.length];simp
      have hfold:((a.eval x).cells.zipIdx.foldl (fun cs (p:Value×Nat)=>cs.setIfInBounds (off+p.2) p.1) cells).toList=cells.toList.take off++(a.eval x).cells.toList++cells.toList.drop (off+size):=by
       have:=z01 off (a.eval x).cells.toList 0 cells (by simp [hvl];omega)
       rw [<-Array.foldl_toList];simpa [hvl] using this
      obtain ⟨cells',hf,hr'⟩:=y9v hI place ps ((a.eval x).cells.zipIdx.foldl (fun cs (p:Value×Nat)=>cs.setIfInBounds (off+p.2) p.1) cells) _ cs' (by
       rw [hfold]
       exact ((hr.take off).append hv).append (hr.drop _)) h
      refine ⟨cells',?_,hr'⟩;simp only [List.map_cons,Instr.fill,hp];rw [if_neg]
      . exact hf
      . simp only [hvl,ne_eq,not_true_eq_false,decide_false,Bool.false_or,decide_eq_true_eq];omega
    . cases h
  . cases h
theorem xs2 {place:Nat->Option (Nat×Nat)} {I:List AV} {t:Nat}:∀(ps:List (Nat×Operand)) (cs cs':List Cell),wiu place cs (vn5 I ps)=some cs'->vxw t cs'->vxw t cs\/live I t
 | [],cs,cs',h,ht=>by
  simp only [vn5,wiu,Option.some.injEq] at h;subst h;exact .inl ht
 | (i, x) :: ps, cs, cs', h, ht => by
  simp only [vn5,wiu] at h;split at h
  . rename_i off size us hp hu;split at h
    . rcases xs2 ps _ cs' h ht with h' | h'
      . rcases yzb h' with h' | h'
        . rcases yzb h' with h' | h'
          . exact .inl (vc9 h')
          . exact .inr (y1e (xni hu h'))
        . exact .inl (v6v h')
      . exact .inr h'
    . cases h
  . cases h
def placeOf (sh:Sh):Nat->Option (Nat×Nat):=match sh with
 | .struct fs=>fun i=>(fs[i]?).map fun f=>(f.1,f.2.1)
 | .array _ _ es=>fun i=>some (i*es,es)
 | _=>fun _=>none
def yzs (I:List AV) (ti:TI) (parts:List (Nat×Operand)):Option AV:=
 (wiu (placeOf ti.sh) ti.zc (vn5 I parts)).map .agg
theorem mapM_some {α β:Type} (f:α->Option β) (g:α->β):∀(l:List α),(∀ x∈l,f x=some (g x))->l.mapM f=some (l.map g)
 | [],_=>rfl
 | x::l,h=>by simp [List.mapM_cons,h x (by simp),mapM_some f g l (fun y hy=>h y (by simp [hy]))]
theorem xax {I I':List AV}:∀(ps:List (Nat×Operand)),(∀ x:Operand,(∀ t∈orr x,t∈orrs ps)->opd I' x=opd I x)->vn5 I' ps=vn5 I ps
 | [],_=>rfl
 | (i,x)::ps,h=>by
  simp only [vn5];rw [h x (fun t ht=>by simp [orrs,ht]),xax ps (fun y hy=>h y (fun t ht=>by simp [orrs,hy t ht]))]
theorem zii (ho:o.op=.build T parts.toArray) (hti:mkTI P T=some ti)
 (harr:∀ n e es,ti.sh=.array n e es->es≠0) (hb:yzs I ti parts=some av) (hagg:ti.sh.agg=true)
 (h:val I o (orrs parts) av=some r):yh6 P o I r.1 [] r.2:=by
 have hok:=vnz hti;obtain ⟨d,i,z,hd,hi,hz,hsz,_,hzs,hone,hzc,hsh⟩:=hok.ex;unfold yzs at hb;simp only [Option.map_eq_some_iff] at hb;obtain ⟨cs',hf,rfl⟩:=hb;refine yh6.pure h rfl rfl (fun E τ M I' a w hop hgt hI=>?_);have hav:vn5 I' parts=vn5 I parts:=xax parts hop
 have hz0:RdL M w τ z.cells.toList ti.zc:=by rw [hzc];exact zal hone
 obtain ⟨cells',hfill,hrd⟩:=y9v hI (placeOf ti.sh) parts z.cells ti.zc cs' hz0 (by rw [hav];exact hf)
 have hbuilt:P.built T (parts.map fun p=>(p.1,a.eval p.2))=some cells':=by
  unfold Program.built;rw [hi,hd];rw [hsh] at hagg
  rcases wdi hagg with ⟨fl,rfl⟩ | ⟨n,e,rfl⟩
  . have hst:∃ fs,ti.sh=.struct fs:=by
     rw [hsh];unfold shOf at hagg ⊢;dsimp only at hagg ⊢;split at hagg
     . exact ⟨_,by rename_i hc;rw [if_pos hc]⟩
     . cases hagg
    obtain ⟨fs,hfs⟩:=hst;obtain ⟨fl',e1,rfl,hne⟩:=zhd (hsh.symm.trans hfs)
    cases e1;have hpl:fl.toList.mapM (fun f=>(P.info? f.type).map fun i=>(f.offset,i.size))=some (fl.toList.map fun f=>(f.offset,P.cellsOf f.type)):=
     mapM_some _ _ _ (fun f hf=>by
      obtain ⟨j,hj,hjs⟩:=zbv (hne f hf)
      simp [hj,hjs])
    simp only [hz,hpl];rw [hfs] at hfill;rw [<-hfill]
    congr 1
    funext x
    simp [placeOf];rfl
  . have har:ti.sh=.array n e (P.cellsOf e):=hsh;obtain ⟨j,hj,hjs⟩:=zbv (harr _ _ _ har);simp only [hz,hj];rw [har] at hfill;rw [<-hfill,hjs];rfl
 refine ⟨.agg cells',?_,⟨cells'.toList,by simp,hrd⟩,fun t ht=>?_⟩
 . have hrun:=run_build (P:=P) w T (parts.map fun p=>(p.1,a.eval p.2)).toArray cells' (by simpa using hbuilt);simp only [execOp,ho]
   have he:(parts.toArray.map fun (p:Nat×Operand)=>(p.1,a.eval p.2))=(parts.map fun p=>(p.1,a.eval p.2)).toArray:=by simp
   have:(Array.map (fun x=>match x with | (i,x)=>(i,a.eval x)) parts.toArray)=(parts.map fun p=>(p.1,a.eval p.2)).toArray:=by rw [<-he]
   rw [this];simp [hrun]
 . rcases xs2 (I:=I') parts ti.zc cs' (by rw [hav];exact hf) ht with h' | h'
   . rw [hzc] at h';exact absurd h' (y72 _)
   . exact h'
def xdp (k:IntKind):List Cell->Option (List Int)
 | []=>some []
 | .raw (.int k' n)::r=>if k'=k then (xdp k r).map (n::·) else none
 | _::_=>none
def chunk (es:Nat):Nat->List Cell->List (List Cell)
 | 0,_=>[]
 | n+1,cs=>cs.take es::chunk es n (cs.drop es)
def v8c {α:Type} (l:List α):Nat->List α
 | 0=>[]
 | n+1=>l++v8c l n
def zi5 (I:List AV) (ti te:TI) (n:Nat) (parts:List (Nat×Operand)):Option AV:=
 match ti.sh with
 | .slice _ es _ ik=>
  if n*es<=16777216/\n≠0 then
   match wiu (fun i=>some (i*es,es)) (v8c te.zc n) (vn5 I parts) with
   | none=>none
   | some cs=>match ik with
    | some k=>if es=1 then (xdp k (zcr cs)).map fun l=>.one (.ints k l) else none
    | none=>some (.one (.sl es (chunk es n (zcr cs))))
  else none
 | _=>none
theorem zpu {M:Nat->Nat->Prop} {w:World} {τ:Nat->TV} {vs:List Value} {cs:List Cell} (h:RdL M w τ vs cs):∀ n,RdL M w τ (v8c vs n) (v8c cs n)
 | 0=>trivial
 | n+1=>h.append (zpu h n)
theorem y3g {α:Type} (l:List α):∀ n,(v8c l n).length=n*l.length
 | 0=>by simp [v8c]
 | n+1=>by simp [v8c,y3g l n,Nat.add_mul];omega
theorem vfz {α:Type} (l:List α):∀(n i:Nat),i<n*l.length->(v8c l n)[i]? = l[i % l.length]?
 | 0,i,h=>by simp at h
 | n+1,i,h=>by
  simp only [v8c];by_cases hi:i<l.length
  . rw [List.getElem?_append_left hi,Nat.mod_eq_of_lt hi]
  . rw [List.getElem?_append_right (by omega),vfz l n (i-l.length) (by rw [Nat.add_mul] at h;omega)]
    congr 1
    rw [<-Nat.mod_eq_sub_mod (by omega)]
theorem xe3 {M:Nat->Nat->Prop} {w:World} {k:IntKind}:∀{vs:List Value} {cs:List Cell} {l:List Int},RdD M w vs cs->xdp k cs=some l->vs=l.map (Value.int k)
 | [],[],l,_,h=>by simp [xdp] at h;simp [h]
 | v::vs,c::cs,l,hr,h=>by
  unfold xdp at h;split at h
  . rename_i heq;cases heq
  . rename_i k' n r heq;simp only [List.cons.injEq] at heq;obtain ⟨rfl,rfl⟩:=heq;split at h
    . rename_i hk;subst hk;simp only [Option.map_eq_some_iff] at h;obtain ⟨l',h1,rfl⟩:=h;rw [RdC.zb5 hr.1,xe3 hr.2 h1];rfl
    . cases h
  . cases h
theorem w0y (es:Nat):∀(n:Nat) (cs:List Cell),(chunk es n cs).length=n
 | 0,_=>rfl
 | n+1,cs=>by simp [chunk,w0y es n]
theorem ztr (es:Nat):∀(n:Nat) (cs:List Cell) (i:Nat) (h:i<(chunk es n cs).length),(chunk es n cs)[i]=(cs.drop (i*es)).take es
 | 0,cs,i,h=>by simp [chunk] at h
 | n+1,cs,0,h=>by simp [chunk]
 | n+1,cs,i+1,h=>by
  simp only [chunk,List.getElem_cons_succ];rw [ztr es n];rw [List.drop_drop,Nat.add_mul,Nat.one_mul,Nat.add_comm]
theorem y0w {M':Nat->Nat->Prop} {w':World} {b len:Nat} {vs:List Value} {cs:List Cell} {n:Nat} (hr:RdD M w vs cs) (hk:ya3 M M' w w') (hb:w'.heap[b]? = some (.cells vs.toArray T (0,0)))
 (hM:∀ o,¬M' b o) (hlen:cs.length=n*es) (hn:len=n) (hcap:len<=cap):RdC M' w' (.slice (some ⟨b,0,none⟩) len cap) (.sl es (chunk es n cs)):=by
 have hvl:vs.length=n*es:=by rw [hr.length,hlen]
 have hin:∀ i,i<n->∀ j,j<es->i*es+j<n*es:=fun i hi j hj=>by
  calc i*es+j<i*es+es:=by omega
   _=(i+1)*es:=by rw [Nat.add_mul,Nat.one_mul]
   _<=n*es:=Nat.mul_le_mul_right _ hi
 refine .sl b 0 (fun i j=>vs.getD (i*es+j) Go.undef) (by rw [w0y,hn]) hcap (fun _=>rfl) (fun r hr'=>?_) (fun i hi j hj=>?_) (fun i hi j hj=>?_)
 . obtain ⟨i,hi,rfl⟩:=List.getElem_of_mem hr';rw [ztr];rw [w0y] at hi;simp only [List.length_take,List.length_drop,hlen];have h1:(i+1)*es<=n*es:=Nat.mul_le_mul_right _ hi;rw [Nat.add_mul,Nat.one_mul] at h1;omega
 . rw [w0y] at hi
   have:=hin i hi j hj
   refine ⟨hM _,?_⟩;simp only [World.cell?,hb,Nat.zero_add];simp [hvl,this]
 . have hi':=hi;rw [w0y] at hi';simp only [ztr] at hj ⊢;simp only [List.length_take,List.length_drop,hlen] at hj;have hlt:=hin i hi' j (by omega)
   have gen:∀(vs:List Value) (cs:List Cell),RdD M w vs cs->∀ q (hq:q<cs.length),RdC M w (vs.getD q Go.undef) cs[q]:=by
    intro vs
    induction vs with
    | nil=>intro cs h q hq;cases cs with
     | nil=>simp at hq
     | cons _ _=>exact h.elim
    | cons v vs ih=>intro cs h q hq;cases cs with
     | nil=>exact h.elim
     | cons c cs=>cases q with
      | zero=>exact h.1
      | succ q=>simpa using ih cs h.2 q (by simpa using hq)
   have:=(gen vs cs hr (i*es+j) (by omega)).keep hk
   simpa using this
theorem vkx:∀ cs:List Cell,(zcr cs).length=cs.length
 | []=>rfl
 | c::cs=>by simp [zcr,vkx cs]
theorem w8b {place : Nat → Option (Nat × Nat)} : ∀ (ps : List (Nat × AV)) (cs cs' : List Cell), wiu place cs ps = some cs' → cs'.length = cs.length
 | [],cs,cs',h=>by simp only [wiu,Option.some.injEq] at h;rw [h]
 | (i, av) :: ps, cs, cs', h => by
  simp only [wiu] at h;split at h
  . rename_i off size us hp hu;split at h
    . rename_i hc;rw [w8b ps _ _ h];simp;omega
    . cases h
  . cases h
theorem zry {n:Nat} (ho:o.op=.buildSlice T n parts.toArray) (hti:mkTI P T=some ti)
 (hte:∀ e es eb ik,ti.sh=.slice e es eb ik->mkTI P e=some te) (hb:zi5 I ti te n parts=some av)
 (h:val I o (orrs parts) av=some r):yh6 P o I r.1 [] r.2:=by
 obtain ⟨d,hdst,hn,rfl⟩:=xj7 h;have hok:=vnz hti;obtain ⟨ds,i,z,hd,hi,hz,_,_,_,_,_,hsh'⟩:=hok.ex;unfold zi5 at hb;split at hb
 case h_2=>cases hb
 rename_i e es eb ik hsh;split at hb
 case isFalse=>cases hb
 rename_i hsmall;split at hb
 . cases hb
 rename_i cs hfill;obtain ⟨rfl,j,z',hj,hz',hjs,hjb,hes0,hzs,hik⟩:=wqb (hsh'.symm.trans hsh);obtain ⟨de,je,ze,hde,hje,hze,_,_,_,hone,hzce,_⟩:=(vnz (hte _ _ _ _ hsh)).ex;rw [hj] at hje;cases hje;rw [hz'] at hze;cases hze
 have hnh:av.vy8=false/\av.rf=none/\∀ t,¬av.vjg t:=by
  repeat' split at hb
  all_goals first
   | (simp only [Option.map_eq_some_iff] at hb;obtain ⟨_,_,rfl⟩:=hb;exact ⟨rfl,rfl,fun t h=>h⟩)
   | (cases hb;exact ⟨rfl,rfl,fun t h=>h⟩)
   | cases hb
 refine yh6.val hdst (by simp) hn hnh.1 (fun E τ M I' a w hag hI=>?_);have hav:vn5 I' parts=vn5 I parts:=xax parts (fun x hx=>hag.opd (fun t ht=>by simp [hx t ht]));have hz0:RdL M w τ (v8c z'.cells.toList n) (v8c te.zc n):=zpu (by rw [hzce];exact zal hone) n
 have hinit:(Array.range (n*es)).map (z'.cells[· % z'.cells.size]!)=(v8c z'.cells.toList n).toArray:=by
  apply Array.ext
  . simp [y3g,hzs]
  . intro q h1 h2;simp only [Array.size_map,Array.size_range] at h1;have hq:=vfz z'.cells.toList n q (by simpa [hzs] using h1);have hlt:q % z'.cells.size<z'.cells.size:=Nat.mod_lt _ (by rw [hzs];omega);simp only [Array.getElem_map,Array.getElem_range,List.getElem_toArray];simp only [Array.length_toList,Array.getElem?_toList] at hq;rw [Array.getElem?_eq_getElem hlt,List.getElem?_eq_getElem (by simpa using h2)] at hq;simp at hq;rw [hq];simp [hlt]
 obtain ⟨cells',hf,hrd⟩:=y9v hI (fun i=>some (i*es,es)) parts (v8c z'.cells.toList n).toArray _ cs (by simpa using hz0) (by rw [hav];exact hfill)
 have hrun:(execOp a.eval o).run P w=.ok (.value (.slice (some ⟨w.heap.size,0,none⟩) n n)) (w.alloc (.cells cells' e)):=by
  have hpe:(Array.map (fun x=>match x with | (i,x)=>(i,a.eval x)) parts.toArray).toList=parts.map fun p=>(p.1,a.eval p.2):=by simp
  have h24:¬(16777216<n*es):=by omega
  have hne:¬(n*es=0):=by
   intro h0
   rcases Nat.mul_eq_zero.1 h0 with h0 | h0
   . exact hsmall.2 h0
   . exact hes0 h0
  simp only [execOp,ho,Instr.buildSlice,Sem.run_bind,voj hd,Result.andThen_ok,xvo hj,hjs];rw [if_neg (by simpa using h24),if_neg hne];simp only [Sem.run_bind,xt1 hj hz',Result.andThen_ok,Sem.run_pure,hinit];rw [hpe,hf];simp [newRow]
 have hk:ya3 M M w (w.alloc (.cells cells' e)):=ya3.below ((Below.refl _ _).alloc (Nat.le_refl _) _)
 have hM:∀ o,¬M w.heap.size o:=fun o hm=>by have:=hI.mb _ _ hm;omega
 have hheap:(w.alloc (.cells cells' e)).heap[w.heap.size]? = some (.cells cells'.toList.toArray e (0,0)):=by rw [Array.toArray_toList];exact zuf w _
 have hcl:(zcr cs).length=n*es:=by
  rw [vkx,w8b _ _ _ hfill,y3g,hzce];simp [hzs]
 refine ⟨_,_,hrun,(Below.refl _ _).alloc (Nat.le_refl _) _,?_,fun t ht=>absurd ht (hnh.2.2 t),fun s b hr=>by rw [hnh.2.1] at hr;cases hr⟩;split at hb
 . rename_i k;split at hb
   . rename_i he1;subst he1;simp only [Option.map_eq_some_iff] at hb;obtain ⟨l,hl,rfl⟩:=hb;have hvs:=xe3 hrd.bare hl
     have hll:l.length=n:=by
      have h1:=congrArg List.length hvs;have h2:=hrd.bare.length;simp only [List.length_map] at h1;omega
     refine RdC.ints w.heap.size 0 hll.symm (Nat.le_refl _) (fun _=>rfl) (fun q hq=>⟨hM _,?_⟩);rw [hvs] at hheap;simp only [World.cell?,hheap,Nat.zero_add];simp [hq]
   . cases hb
 . cases hb;exact y0w (n:=n) hrd.bare hk hheap hM hcl rfl (Nat.le_refl _)
def xd4 (ti:TI) (parts:List (Nat×Operand)):Option AV:=match ti.sh,parts with
 | .slice _ _ _ _,[]=>some (.one .zc)
 | _,_=>none
theorem wdl {n:Nat} (ho:o.op=.buildSlice T n parts.toArray) (hn0:n=0) (hti:mkTI P T=some ti) (hb:xd4 ti parts=some av)
 (h:val I o [] av=some r):yh6 P o I r.1 [] r.2:=by
 obtain ⟨d,hdst,hn,rfl⟩:=xj7 h;obtain ⟨ds,i,z,hd,hi,hz,_,_,_,_,_,hsh'⟩:=(vnz hti).ex;unfold xd4 at hb;split at hb
 case h_2=>cases hb
 rename_i e es eb ik hsh
 cases hb;obtain ⟨rfl,j,z',hj,hz',hjs,hjb,hes0,hzs,hik⟩:=wqb (hsh'.symm.trans hsh);refine yh6.val hdst (by simp) hn rfl (fun E τ M I' a w hag hI=>?_)
 have hrun:(execOp a.eval o).run P w=.ok (.value (.slice (some ⟨w.heap.size,0,none⟩) 0 0)) (w.alloc (.cells #[] e)):=by
  simp [execOp,ho,Instr.buildSlice,voj hd,xvo hj,hn0,Instr.fill,newRow]
  congr 2
  exact Array.ext (by simp) (fun q h1 h2=>absurd h2 (Nat.not_lt_zero q))
 exact ⟨_,_,hrun,(Below.refl _ _).alloc (Nat.le_refl _) _,RdC.zc,fun t ht=>ht.elim,fun s b hr=>by cases hr⟩
end Go.Slot
