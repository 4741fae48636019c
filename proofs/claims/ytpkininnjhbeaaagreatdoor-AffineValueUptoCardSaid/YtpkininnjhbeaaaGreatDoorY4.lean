import Derived.Test.YtpkininnjhbeaaaGreatDoorY0
namespace Go.Slot
open Go Go.RowKit
variable {P:Program}
variable {I:List AV} {o:Oper} {T e:TypeId} {parts:List (Nat×Operand)} {ti:TI} {av:AV} {r:List Nat×List (Nat×AV)} {M M':Nat->Nat->Prop} {w w':World} {cap es m:Nat} {E:Env} {i:TypeInfo} {xs news:List Value}
def yys (place:Nat->Option (Nat×Nat)) (cs:List Cell):List (Nat×AV)->Option (List Cell)
 | []=>some cs
 | (i,av)::r=>match place i,xwy av with
  | some (off,size),some us=>if us.length=size/\off+size<=cs.length then yys place (cs.take off++us++cs.drop (off+size)) r else none
  | _,_=>none
def xsx (I:List AV):List (Nat×Operand)->List (Nat×AV)
 | []=>[]
 | (i,x)::r=>(i,opd I x)::xsx I r
def orrs:List (Nat×Operand)->List Nat
 | []=>[]
 | (_,x)::r=>orr x++orrs r
theorem ye2 (off:Nat):∀(vs:List Value) (k:Nat) (cells:Array Value),off+k+vs.length<=cells.size->
 ((vs.zipIdx k).foldl (fun (cs:Array Value) (p:Value×Nat)=>cs.setIfInBounds (off+p.2) p.1) cells).toList=cells.toList.take (off+k)++vs++cells.toList.drop (off+k+vs.length)
 | [],k,cells,h=>by simp
 | v::vs,k,cells,h=>by
  simp only [List.zipIdx_cons,List.foldl_cons]
  have hlen:off+k<cells.size:=by simp at h;omega
  rw [ye2 off vs (k+1) _ (by simp at h ⊢;omega)];simp only [Array.toList_setIfInBounds];rw [vue _ _ _ (by simpa using hlen)]
  have h1:off+(k+1)=(cells.toList.take (off+k)++[v]).length:=by simp;omega
  rw [h1,List.take_left];have h2:(cells.toList.take (off+k)++[v]).length+vs.length=(cells.toList.take (off+k)++[v]).length+vs.length:=rfl;rw [List.drop_append];simp only [List.drop_drop]
  have h3:(cells.toList.take (off+k)++[v]).drop ((cells.toList.take (off+k)++[v]).length+vs.length)=[]:=by
   apply List.drop_eq_nil_of_le;omega
  rw [h3];simp only [List.nil_append,List.append_assoc,List.cons_append,List.length_cons]
  congr 3
  congr 1
  simp;omega
theorem x1d {E:Env} {τ:Nat->TV} {M:Nat->Nat->Prop} {I:List AV} {a:Act} {w:World} (hI:RelI E τ M I a w) (place:Nat->Option (Nat×Nat)):∀(ps:List (Nat×Operand)) (cells:Array Value) (cs cs':List Cell),
 RdL M w τ cells.toList cs->yys place cs (xsx I ps)=some cs'->∃ cells',Instr.fill place cells (ps.map fun p=>(p.1,a.eval p.2))=some cells'/\RdL M w τ cells'.toList cs'
 | [],cells,cs,cs',hr,h=>by
  simp only [xsx,yys,Option.some.injEq] at h;subst h;exact ⟨cells,rfl,hr⟩
 | (i, x) :: ps, cells, cs, cs', hr, h => by
  simp only [xsx,yys] at h;split at h
  . rename_i off size us hp hu;split at h
    . rename_i hc;obtain ⟨h1,h2⟩:=hc;have hv:=vur hu (hI.opd x)
      have hvl:(a.eval x).cells.size=size:=by rw [<-h1,<-hv.length];simp
      have hcl:cells.size=cs.length:=by rw [<-hr.length];simp
      have hfold:((a.eval x).cells.zipIdx.foldl (fun cs (p:Value×Nat)=>cs.setIfInBounds (off+p.2) p.1) cells).toList=cells.toList.take off++(a.eval x).cells.toList++cells.toList.drop (off+size):=by
       have:=ye2 off (a.eval x).cells.toList 0 cells (by simp [hvl];omega)
       rw [<-Array.foldl_toList];simpa [hvl] using this
      obtain ⟨cells',hf,hr'⟩:=x1d hI place ps ((a.eval x).cells.zipIdx.foldl (fun cs (p:Value×Nat)=>cs.setIfInBounds (off+p.2) p.1) cells) _ cs' (by
       rw [hfold]
       exact ((hr.take off).append hv).append (hr.drop _)) h
      refine ⟨cells',?_,hr'⟩;simp only [List.map_cons,Instr.fill,hp];rw [if_neg]
      . exact hf
      . simp only [hvl,ne_eq,not_true_eq_false,decide_false,Bool.false_or,decide_eq_true_eq];omega
    . cases h
  . cases h
theorem x8v {place:Nat->Option (Nat×Nat)} {I:List AV} {t:Nat}:∀(ps:List (Nat×Operand)) (cs cs':List Cell),yys place cs (xsx I ps)=some cs'->w9q t cs'->w9q t cs\/live I t
 | [],cs,cs',h,ht=>by
  simp only [xsx,yys,Option.some.injEq] at h;subst h;exact .inl ht
 | (i, x) :: ps, cs, cs', h, ht => by
  simp only [xsx,yys] at h;split at h
  . rename_i off size us hp hu;split at h
    . rcases x8v ps _ cs' h ht with h' | h'
      . rcases yqu h' with h' | h'
        . rcases yqu h' with h' | h'
          . exact .inl (vb0 h')
          . exact .inr (y29 (x2v hu h'))
        . exact .inl (yd1 h')
      . exact .inr h'
    . cases h
  . cases h
def placeOf (sh:Sh):Nat->Option (Nat×Nat):=match sh with
 | .struct fs=>fun i=>(fs[i]?).map fun f=>(f.1,f.2.1)
 | .array _ _ es=>fun i=>some (i*es,es)
 | _=>fun _=>none
def v7w (I:List AV) (ti:TI) (parts:List (Nat×Operand)):Option AV:=
 (yys (placeOf ti.sh) ti.zc (xsx I parts)).map .agg
theorem mapM_some {α β:Type} (f:α->Option β) (g:α->β):∀(l:List α),(∀ x∈l,f x=some (g x))->l.mapM f=some (l.map g)
 | [],_=>rfl
 | x::l,h=>by simp [List.mapM_cons,h x (by simp),mapM_some f g l (fun y hy=>h y (by simp [hy]))]
theorem yzt {I I':List AV}:∀(ps:List (Nat×Operand)),(∀ x:Operand,(∀ t∈orr x,t∈orrs ps)->opd I' x=opd I x)->xsx I' ps=xsx I ps
 | [],_=>rfl
 | (i,x)::ps,h=>by
  simp only [xsx];rw [h x (fun t ht=>by simp [orrs,ht]),yzt ps (fun y hy=>h y (fun t ht=>by simp [orrs,hy t ht]))]
theorem zqu (ho:o.op=.build T parts.toArray) (hti:mkTI P T=some ti)
 (harr:∀ n e es,ti.sh=.array n e es->es≠0) (hb:v7w I ti parts=some av) (hagg:ti.sh.agg=true)
 (h:val I o (orrs parts) av=some r):vni P o I r.1 [] r.2:=by
 have hok:=wgk hti;obtain ⟨d,i,z,hd,hi,hz,hsz,_,hzs,hone,hzc,hsh⟩:=hok.ex;unfold v7w at hb;simp only [Option.map_eq_some_iff] at hb;obtain ⟨cs',hf,rfl⟩:=hb;refine vni.pure h rfl rfl (fun E τ M I' a w hop hgt hI=>?_);have hav:xsx I' parts=xsx I parts:=yzt parts hop
 have hz0:RdL M w τ z.cells.toList ti.zc:=by rw [hzc];exact zs3 hone
 obtain ⟨cells',hfill,hrd⟩:=x1d hI (placeOf ti.sh) parts z.cells ti.zc cs' hz0 (by rw [hav];exact hf)
 have hbuilt:P.built T (parts.map fun p=>(p.1,a.eval p.2))=some cells':=by
  unfold Program.built;rw [hi,hd];rw [hsh] at hagg
  rcases zc8 hagg with ⟨fl,rfl⟩ | ⟨n,e,rfl⟩
  . have hst:∃ fs,ti.sh=.struct fs:=by
     rw [hsh];unfold shOf at hagg ⊢;dsimp only at hagg ⊢;split at hagg
     . exact ⟨_,by rename_i hc;rw [if_pos hc]⟩
     . cases hagg
    obtain ⟨fs,hfs⟩:=hst;obtain ⟨fl',e1,rfl,hne⟩:=xzn (hsh.symm.trans hfs)
    cases e1;have hpl:fl.toList.mapM (fun f=>(P.info? f.type).map fun i=>(f.offset,i.size))=some (fl.toList.map fun f=>(f.offset,P.cellsOf f.type)):=
     mapM_some _ _ _ (fun f hf=>by
      obtain ⟨j,hj,hjs⟩:=vpg (hne f hf)
      simp [hj,hjs])
    simp only [hz,hpl];rw [hfs] at hfill;rw [<-hfill]
    congr 1
    funext x
    simp [placeOf];rfl
  . have har:ti.sh=.array n e (P.cellsOf e):=hsh;obtain ⟨j,hj,hjs⟩:=vpg (harr _ _ _ har);simp only [hz,hj];rw [har] at hfill;rw [<-hfill,hjs];rfl
 refine ⟨.agg cells',?_,⟨cells'.toList,by simp,hrd⟩,fun t ht=>?_⟩
 . have hrun:=run_build (P:=P) w T (parts.map fun p=>(p.1,a.eval p.2)).toArray cells' (by simpa using hbuilt);simp only [execOp,ho]
   have he:(parts.toArray.map fun (p:Nat×Operand)=>(p.1,a.eval p.2))=(parts.map fun p=>(p.1,a.eval p.2)).toArray:=by simp
   have:(Array.map (fun x=>match x with | (i,x)=>(i,a.eval x)) parts.toArray)=(parts.map fun p=>(p.1,a.eval p.2)).toArray:=by rw [<-he]
   rw [this];simp [hrun]
 . rcases x8v (I:=I') parts ti.zc cs' (by rw [hav];exact hf) ht with h' | h'
   . rw [hzc] at h';exact absurd h' (xa4 _)
   . exact h'
def w6n (k:IntKind):List Cell->Option (List Int)
 | []=>some []
 | .raw (.int k' n)::r=>if k'=k then (w6n k r).map (n::·) else none
 | _::_=>none
def chunk (es:Nat):Nat->List Cell->List (List Cell)
 | 0,_=>[]
 | n+1,cs=>cs.take es::chunk es n (cs.drop es)
def yql {α:Type} (l:List α):Nat->List α
 | 0=>[]
 | n+1=>l++yql l n
def xw9 (I:List AV) (ti te:TI) (n:Nat) (parts:List (Nat×Operand)):Option AV:=
 match ti.sh with
 | .slice _ es _ ik=>
  if n*es<=16777216/\n≠0 then
   match yys (fun i=>some (i*es,es)) (yql te.zc n) (xsx I parts) with
   | none=>none
   | some cs=>match ik with
    | some k=>if es=1 then (w6n k (vc2 cs)).map fun l=>.one (.ints k l) else none
    | none=>some (.one (.sl es (chunk es n (vc2 cs))))
  else none
 | _=>none
theorem vrl {M:Nat->Nat->Prop} {w:World} {τ:Nat->TV} {vs:List Value} {cs:List Cell} (h:RdL M w τ vs cs):∀ n,RdL M w τ (yql vs n) (yql cs n)
 | 0=>trivial
 | n+1=>h.append (vrl h n)
theorem vww {α:Type} (l:List α):∀ n,(yql l n).length=n*l.length
 | 0=>by simp [yql]
 | n+1=>by simp [yql,vww l n,Nat.add_mul];omega
theorem vp8 {α:Type} (l:List α):∀(n i:Nat),i<n*l.length->(yql l n)[i]? = l[i % l.length]?
 | 0,i,h=>by simp at h
 | n+1,i,h=>by
  simp only [yql];by_cases hi:i<l.length
  . rw [List.getElem?_append_left hi,Nat.mod_eq_of_lt hi]
  . rw [List.getElem?_append_right (by omega),vp8 l n (i-l.length) (by rw [Nat.add_mul] at h;omega)]
    congr 1
    rw [<-Nat.mod_eq_sub_mod (by omega)]
theorem xrp {M:Nat->Nat->Prop} {w:World} {k:IntKind}:∀{vs:List Value} {cs:List Cell} {l:List Int},RdD M w vs cs->w6n k cs=some l->vs=l.map (Value.int k)
 | [],[],l,_,h=>by simp [w6n] at h;simp [h]
 | v::vs,c::cs,l,hr,h=>by
  unfold w6n at h;split at h
  . rename_i heq;cases heq
  . rename_i k' n r heq;simp only [List.cons.injEq] at heq;obtain ⟨rfl,rfl⟩:=heq;split at h
    . rename_i hk;subst hk;simp only [Option.map_eq_some_iff] at h;obtain ⟨l',h1,rfl⟩:=h;rw [RdC.x18 hr.1,xrp hr.2 h1];rfl
    . cases h
  . cases h
theorem v3j (es:Nat):∀(n:Nat) (cs:List Cell),(chunk es n cs).length=n
 | 0,_=>rfl
 | n+1,cs=>by simp [chunk,v3j es n]
theorem z6f (es:Nat):∀(n:Nat) (cs:List Cell) (i:Nat) (h:i<(chunk es n cs).length),(chunk es n cs)[i]=(cs.drop (i*es)).take es
 | 0,cs,i,h=>by simp [chunk] at h
 | n+1,cs,0,h=>by simp [chunk]
 | n+1,cs,i+1,h=>by
  simp only [chunk,List.getElem_cons_succ];rw [z6f es n];rw [List.drop_drop,Nat.add_mul,Nat.one_mul,Nat.add_comm]
theorem wjg {b len:Nat} {vs:List Value} {cs:List Cell} {n:Nat} (hr:RdD M w vs cs) (hk:wf2 M M' w w') (hb:w'.heap[b]? = some (.cells vs.toArray T (0,0)))
 (hM:∀ o,¬M' b o) (hlen:cs.length=n*es) (hn:len=n) (hcap:len<=cap):RdC M' w' (.slice (some ⟨b,0,none⟩) len cap) (.sl es (chunk es n cs)):=by
 have hvl:vs.length=n*es:=by rw [hr.length,hlen]
 have hin:∀ i,i<n->∀ j,j<es->i*es+j<n*es:=fun i hi j hj=>by
  calc i*es+j<i*es+es:=by omega
   _=(i+1)*es:=by rw [Nat.add_mul,Nat.one_mul]
   _<=n*es:=Nat.mul_le_mul_right _ hi
 refine .sl b 0 (fun i j=>vs.getD (i*es+j) Go.undef) (by rw [v3j,hn]) hcap (fun _=>rfl) (fun r hr'=>?_) (fun i hi j hj=>?_) (fun i hi j hj=>?_)
 . obtain ⟨i,hi,rfl⟩:=List.getElem_of_mem hr';rw [z6f];rw [v3j] at hi;simp only [List.length_take,List.length_drop,hlen];have h1:(i+1)*es<=n*es:=Nat.mul_le_mul_right _ hi;rw [Nat.add_mul,Nat.one_mul] at h1;omega
 . rw [v3j] at hi
   have:=hin i hi j hj
   refine ⟨hM _,?_⟩;simp only [World.cell?,hb,Nat.zero_add];simp [hvl,this]
 . have hi':=hi;rw [v3j] at hi';simp only [z6f] at hj ⊢;simp only [List.length_take,List.length_drop,hlen] at hj;have hlt:=hin i hi' j (by omega)
   have gen:∀(vs:List Value) (cs:List Cell),RdD M w vs cs->∀ q (hq:q<cs.length),RdC M w (vs.getD q Go.undef) cs[q]:=by
    intro vs
    induction vs with
    | nil=>intro cs h q hq;cases cs with
     | nil=>simp at hq
     | cons _ _=>exact h.elim
    | cons v vs ih=>intro cs h q hq;cases cs with
     | nil=>exact h.elim
     | cons c cs=>cases q with
      | zero=>exact h.1
      | succ q=>simpa using ih cs h.2 q (by simpa using hq)
   have:=(gen vs cs hr (i*es+j) (by omega)).keep hk
   simpa using this
theorem v5h:∀ cs:List Cell,(vc2 cs).length=cs.length
 | []=>rfl
 | c::cs=>by simp [vc2,v5h cs]
theorem xsc {place : Nat → Option (Nat × Nat)} : ∀ (ps : List (Nat × AV)) (cs cs' : List Cell), yys place cs ps = some cs' → cs'.length = cs.length
 | [],cs,cs',h=>by simp only [yys,Option.some.injEq] at h;rw [h]
 | (i, av) :: ps, cs, cs', h => by
  simp only [yys] at h;split at h
  . rename_i off size us hp hu;split at h
    . rename_i hc;rw [xsc ps _ _ h];simp;omega
    . cases h
  . cases h
theorem xyq {n:Nat} (ho:o.op=.buildSlice T n parts.toArray) {te:TI} (hti:mkTI P T=some ti)
 (hte:∀ e es eb ik,ti.sh=.slice e es eb ik->mkTI P e=some te) (hb:xw9 I ti te n parts=some av)
 (h:val I o (orrs parts) av=some r):vni P o I r.1 [] r.2:=by
 obtain ⟨d,hdst,hn,rfl⟩:=y56 h;have hok:=wgk hti;obtain ⟨ds,i,z,hd,hi,hz,_,_,_,_,_,hsh'⟩:=hok.ex;unfold xw9 at hb;split at hb
 case h_2=>cases hb
 rename_i e es eb ik hsh;split at hb
 case isFalse=>cases hb
 rename_i hsmall;split at hb
 . cases hb
 rename_i cs hfill;obtain ⟨rfl,j,z',hj,hz',hjs,hjb,hes0,hzs,hik⟩:=zu3 (hsh'.symm.trans hsh);obtain ⟨de,je,ze,hde,hje,hze,_,_,_,hone,hzce,_⟩:=(wgk (hte _ _ _ _ hsh)).ex;rw [hj] at hje;cases hje;rw [hz'] at hze;cases hze
 have hnh:av.xeo=false/\av.rf=none/\∀ t,¬av.v7d t:=by
  repeat' split at hb
  all_goals first
   | (simp only [Option.map_eq_some_iff] at hb;obtain ⟨_,_,rfl⟩:=hb;exact ⟨rfl,rfl,fun t h=>h⟩)
   | (cases hb;exact ⟨rfl,rfl,fun t h=>h⟩)
   | cases hb
 refine vni.val hdst (by simp) hn hnh.1 (fun E τ M I' a w hag hI=>?_);have hav:xsx I' parts=xsx I parts:=yzt parts (fun x hx=>hag.opd (fun t ht=>by simp [hx t ht]));have hz0:RdL M w τ (yql z'.cells.toList n) (yql te.zc n):=vrl (by rw [hzce];exact zs3 hone) n
 have hinit:(Array.range (n*es)).map (z'.cells[· % z'.cells.size]!)=(yql z'.cells.toList n).toArray:=by
  apply Array.ext
  . simp [vww,hzs]
  . intro q h1 h2;simp only [Array.size_map,Array.size_range] at h1;have hq:=vp8 z'.cells.toList n q (by simpa [hzs] using h1);have hlt:q % z'.cells.size<z'.cells.size:=Nat.mod_lt _ (by rw [hzs];omega);simp only [Array.getElem_map,Array.getElem_range,List.getElem_toArray];simp only [Array.length_toList,Array.getElem?_toList] at hq;rw [Array.getElem?_eq_getElem hlt,List.getElem?_eq_getElem (by simpa using h2)] at hq;simp at hq;rw [hq];simp [hlt]
 obtain ⟨cells',hf,hrd⟩:=x1d hI (fun i=>some (i*es,es)) parts (yql z'.cells.toList n).toArray _ cs (by simpa using hz0) (by rw [hav];exact hfill)
 have hrun:(execOp a.eval o).run P w=.ok (.value (.slice (some ⟨w.heap.size,0,none⟩) n n)) (w.alloc (.cells cells' e)):=by
  have hpe:(Array.map (fun x=>match x with | (i,x)=>(i,a.eval x)) parts.toArray).toList=parts.map fun p=>(p.1,a.eval p.2):=by simp
  have h24:¬(16777216<n*es):=by omega
  have hne:¬(n*es=0):=by
   intro h0
   rcases Nat.mul_eq_zero.1 h0 with h0 | h0
   . exact hsmall.2 h0
   . exact hes0 h0
  simp only [execOp,ho,Instr.buildSlice,Sem.run_bind,w9c hd,Result.andThen_ok,yyt hj,hjs];rw [if_neg (by simpa using h24),if_neg hne];simp only [Sem.run_bind,wx4 hj hz',Result.andThen_ok,Sem.run_pure,hinit];rw [hpe,hf];simp [newRow]
 have hk:wf2 M M w (w.alloc (.cells cells' e)):=wf2.below ((Below.refl _ _).alloc (Nat.le_refl _) _)
 have hM:∀ o,¬M w.heap.size o:=fun o hm=>by have:=hI.mb _ _ hm;omega
 have hheap:(w.alloc (.cells cells' e)).heap[w.heap.size]? = some (.cells cells'.toList.toArray e (0,0)):=by rw [Array.toArray_toList];exact xp1 w _
 have hcl:(vc2 cs).length=n*es:=by
  rw [v5h,xsc _ _ _ hfill,vww,hzce];simp [hzs]
 refine ⟨_,_,hrun,(Below.refl _ _).alloc (Nat.le_refl _) _,?_,fun t ht=>absurd ht (hnh.2.2 t),fun s b hr=>by rw [hnh.2.1] at hr;cases hr⟩;split at hb
 . rename_i k;split at hb
   . rename_i he1;subst he1;simp only [Option.map_eq_some_iff] at hb;obtain ⟨l,hl,rfl⟩:=hb;have hvs:=xrp hrd.bare hl
     have hll:l.length=n:=by
      have h1:=congrArg List.length hvs;have h2:=hrd.bare.length;simp only [List.length_map] at h1;omega
     refine RdC.ints w.heap.size 0 hll.symm (Nat.le_refl _) (fun _=>rfl) (fun q hq=>⟨hM _,?_⟩);rw [hvs] at hheap;simp only [World.cell?,hheap,Nat.zero_add];simp [hq]
   . cases hb
 . cases hb;exact wjg (n:=n) hrd.bare hk hheap hM hcl rfl (Nat.le_refl _)
def x5m (ti:TI) (parts:List (Nat×Operand)):Option AV:=match ti.sh,parts with
 | .slice _ _ _ _,[]=>some (.one .zc)
 | _,_=>none
theorem wkq {n:Nat} (ho:o.op=.buildSlice T n parts.toArray) (hn0:n=0) (hti:mkTI P T=some ti) (hb:x5m ti parts=some av)
 (h:val I o [] av=some r):vni P o I r.1 [] r.2:=by
 obtain ⟨d,hdst,hn,rfl⟩:=y56 h;obtain ⟨ds,i,z,hd,hi,hz,_,_,_,_,_,hsh'⟩:=(wgk hti).ex;unfold x5m at hb;split at hb
 case h_2=>cases hb
 rename_i e es eb ik hsh
 cases hb;obtain ⟨rfl,j,z',hj,hz',hjs,hjb,hes0,hzs,hik⟩:=zu3 (hsh'.symm.trans hsh);refine vni.val hdst (by simp) hn rfl (fun E τ M I' a w hag hI=>?_)
 have hrun:(execOp a.eval o).run P w=.ok (.value (.slice (some ⟨w.heap.size,0,none⟩) 0 0)) (w.alloc (.cells #[] e)):=by
  simp [execOp,ho,Instr.buildSlice,w9c hd,yyt hj,hn0,Instr.fill,newRow]
  congr 2
  exact Array.ext (by simp) (fun q h1 h2=>absurd h2 (Nat.not_lt_zero q))
 exact ⟨_,_,hrun,(Below.refl _ _).alloc (Nat.le_refl _) _,RdC.zc,fun t ht=>ht.elim,fun s b hr=>by cases hr⟩
section
variable {E:Env} {τ:Nat->TV} {M:Nat->Nat->Prop} {I:List AV} {a:Act}
theorem RelI.grow (h:RelI E τ M I a w) {d:Nat} {old:AV} (hd:I[d]? = some old) (hnh:old.xeo=false) (hnl:¬live I d)
 (hk:wf2 M M' w w') (hm0:∀ b o,E.M b o->M' b o) (hmb:∀ b o,M' b o->b<w'.heap.size) (hsize:w.heap.size<=w'.heap.size) (hos:w'.os=w.os) (htape:w'.tape=w.tape) (hout:w'.output=w.output)
 (hfr:∀ k,k<E.N->w'.heap[k]? = w.heap[k]?)
 (hhold:∀ i av,I[i]? = some av->av.xeo=true->w'.heap[blk (a.tmps.getD i Go.undef)]? = w.heap[blk (a.tmps.getD i Go.undef)]?/\∀ o,M' (blk (a.tmps.getD i Go.undef)) o)
 (htoks:∀ t,live I t->zal E M' w' (τ t)) (v:Value) (c:Cell) (hv:zal E M' w' ⟨v,c.esz⟩) (hvh:∀ i av,I[i]? = some av->av.xeo=true->tokB v≠some (blk (a.tmps.getD i Go.undef)))
 (hvt:∀ t g,live I t->tokB (τ t).v=some g->tokB v≠some g) (hr:RdC M' w' v c) :
 RelI E (fun t=>if t=d then ⟨v,c.esz⟩ else τ t) M' (I.set d (.one (.tok d c))) (a.put (some d) v) w':=by
 have hlt:d<a.tmps.size:=h.lt hd
 have hns:∀(s:Nat) (b:Bool) (hv:AV),I[s]? = some hv->hv.fits b=true->d≠s:=fun s b hv hs hf e=>by
  subst e;rw [hd] at hs;cases hs;have:=AV.x61 hf;rw [hnh] at this;cases this
 have hself:(a.tmps.setIfInBounds d v).getD d Go.undef=v:=by simp [hlt]
 have hne:∀ t,live I t->(if t=d then (⟨v,c.esz⟩:TV) else τ t)=τ t:=fun t ht=>if_neg (fun e=>hnl (by rw [<-e];exact ht))
 have hlive:∀ t,live (I.set d (.one (.tok d c))) t->t=d\/(t≠d/\live I t):=fun t ⟨i,x,hi,hx⟩=>by
  rcases getElem?_set_cases hi with ⟨_,rfl⟩ | ⟨_,hi⟩
  . rcases hx with hx | hx
    . exact .inl hx.symm
    . have:∀ c:Cell,RdC M' w' v c->¬c.v7d t:=fun c hc ht=>by
       cases c with
       | tok _ _=>exact hc.xxy
       | _=>exact ht
      exact absurd hx (this c hr)
  . by_cases e:t=d
    . exact .inl e
    . exact .inr ⟨e,i,x,hi,hx⟩
 refine RelI.mk h.hd (by simpa [Act.put] using h.hs) ?_ hm0 hmb ?_ ?_ ?_ ?_ ?_ ?_ (Nat.le_trans h.size hsize) (hos.trans h.os) (htape.trans h.tape) (hout.trans h.output) (fun k hk' hx=>(hfr k hk').trans (h.frame k hk' hx))
 . intro i x hi;show xb1 M' w' _ (a.tmps.setIfInBounds d v) ((a.tmps.setIfInBounds d v).getD i Go.undef) x
   rcases getElem?_set_cases hi with ⟨rfl,rfl⟩ | ⟨hne',hi⟩
   . rw [hself];exact ⟨⟨by simp,by simp⟩,hr⟩
   . rw [getD_set_ne (Ne.symm hne')];exact (h.slot i x hi).keep hk (fun t ht=>hne t ⟨i,x,hi,ht⟩) (fun s b hr=>by obtain ⟨hv,h1,h2⟩:=h.refs i x s b hi hr;exact getD_set_ne (hns s b hv h1 h2) v) (fun hh=>(hhold i x hi hh).1)
 . intro i x hi hh;show (∀ o',M' (blk ((a.tmps.setIfInBounds d v).getD i Go.undef)) o')/\(_<=blk ((a.tmps.setIfInBounds d v).getD i Go.undef)\/E.X (blk ((a.tmps.setIfInBounds d v).getD i Go.undef)))/\(_->_<=blk ((a.tmps.setIfInBounds d v).getD i Go.undef))/\(_->(a.tmps.setIfInBounds d v).getD i Go.undef=_)
   rcases getElem?_set_cases hi with ⟨rfl,rfl⟩ | ⟨hne',hi⟩
   . cases hh
   . rw [getD_set_ne (Ne.symm hne')];exact ⟨(hhold i x hi hh).2,(h.hold i x hi hh).2⟩
 . intro i j x y hi hj hx hy;show blk ((a.tmps.setIfInBounds d v).getD i Go.undef)=blk ((a.tmps.setIfInBounds d v).getD j Go.undef)->_
   rcases getElem?_set_cases hi with ⟨rfl,rfl⟩ | ⟨hne1,hi'⟩
   . cases hx
   . rcases getElem?_set_cases hj with ⟨rfl,rfl⟩ | ⟨hne2,hj'⟩
     . cases hy
     . rw [getD_set_ne (Ne.symm hne1),getD_set_ne (Ne.symm hne2)];exact h.inj i j x y hi' hj' hx hy
 . intro i x s b hi hr'
   have:∃ hv:AV,I[s]? = some hv/\hv.fits b=true:=by
    rcases getElem?_set_cases hi with ⟨rfl,rfl⟩ | ⟨hne',hi⟩
    . cases hr'
    . exact h.refs i x s b hi hr'
   obtain ⟨hv,h1,h2⟩:=this;exact ⟨hv,by rw [List.getElem?_set_ne (hns s b hv h1 h2)];exact h1,h2⟩
 . intro t ht
   rcases hlive t ht with rfl | ⟨hne',hl⟩
   . simpa using hv
   . rw [hne t hl];exact htoks t hl
 . intro t t' g ht ht' htt hg
   rcases hlive t ht with rfl | ⟨hne1,hl⟩
   . rcases hlive t' ht' with rfl | ⟨hne2,hl'⟩
     . exact absurd rfl htt
     . rw [hne t' hl'];simp only [if_true] at hg
       exact fun hg'=>hvt t' g hl' hg' hg
   . rw [hne t hl] at hg
     rcases hlive t' ht' with rfl | ⟨hne2,hl'⟩
     . simp only [if_true];exact hvt t g hl hg
     . rw [hne t' hl'];exact h.tinj t t' g hl hl' htt hg
 . intro t i x ht hi hx;show _≠some (blk ((a.tmps.setIfInBounds d v).getD i Go.undef))
   rcases getElem?_set_cases hi with ⟨rfl,rfl⟩ | ⟨hne',hi'⟩
   . cases hx
   . rw [getD_set_ne (Ne.symm hne')]
     rcases hlive t ht with rfl | ⟨hne1,hl⟩
     . simp only [if_true];exact hvh i x hi' hx
     . rw [hne t hl];exact h.tbox t i x hl hi' hx
end
structure Grew (E:Env) (M:Nat->Nat->Prop) (w w':World) (M':Nat->Nat->Prop) (v v':Value) (es n:Nat) (all:List Value):Prop where
 keeps:wf2 M M' w w'
 size:w.heap.size<=w'.heap.size
 os:w'.os=w.os
 tape:w'.tape=w.tape
 output:w'.output=w.output
 block:∀ k,k<w.heap.size->tokB v≠some k->w'.heap[k]? = w.heap[k]?
 mem:∀ b o,M b o->tokB v≠some b->M' b o
 mb:∀ b o,M' b o->b<w'.heap.size
 tok:zal E M' w' ⟨v',es⟩
 blk':∀ g,tokB v'=some g->tokB v=some g\/w.heap.size<=g
 cells:all=[]\/∃ g cap,v'=.slice (some ⟨g,0,none⟩) n cap/\n<=cap/\∀ j u,all[j]? = some u->¬M' g j/\w'.cell? ⟨g,j,none⟩=some u
 len:∃ ad cap,v'=.slice ad n cap/\n<=cap
theorem v78 (hN:E.N<=w.heap.size) (hmb:∀ b o,M b o->b<w.heap.size) (v:Value) (e:TypeId) (es n cap:Nat) (all:List Value) (rest:Array Value)
 (_hes:0<es) (hall:all.length=n*es) (hcap:n<=cap) (hcm:cap<=maxLen) (hrest:rest.size=(cap-n)*es) :
 Grew E M w (w.drew.alloc (.cells (all.toArray++rest) e)) (fun b o=>M b o\/(b=w.heap.size/\n*es<=o)) v (.slice (some ⟨w.heap.size,0,none⟩) n cap) es n all:=by
 have hb:Below w.heap.size w (w.drew.alloc (.cells (all.toArray++rest) e)):=((Below.refl _ _).drew).alloc (Nat.le_refl _) _;have hheap:(w.drew.alloc (.cells (all.toArray++rest) e)).heap[w.heap.size]? = some (.cells (all.toArray++rest) e (0,0)):=xp1 w.drew _;refine { keeps:=?_,size:=hb.size,os:=rfl,tape:=rfl,output:=rfl,block:=fun k hk _=>hb.block k hk,mem:=fun b o hm _=>.inl hm,mb:=?_,tok:=?_,blk':=?_,cells:=?_,len:=⟨_,_,rfl,hcap⟩ }
 . intro b o u hm hc;have hl:=World.block_lt_of_cell? w _ hc;exact ⟨fun hh=>hh.elim hm (fun hh=>by have:=hh.1;simp only at hl;omega),(wf2.below hb b o u hm hc).2⟩
 . rintro b o (hm | ⟨rfl,_⟩)
   . exact Nat.lt_of_lt_of_le (hmb b o hm) hb.size
   . simp
 . refine .inr ⟨e,n,all,⟨hall,.inr ⟨w.heap.size,cap,_,rfl,hN,hheap,hcap,hcm,?_,?_⟩⟩,fun g hg o ho=>?_⟩
   . simp only [Array.size_append,List.size_toArray,hall,hrest,<-Nat.add_mul]
     congr 1;omega
   . simp [<-hall]
   . simp [Value.ownBlock] at hg;exact .inr ⟨hg.symm,ho⟩
 . intro g hg
   cases cap with
   | zero=>simp [tokB] at hg
   | succ cap=>simp [tokB] at hg;exact .inr (by omega)
 . by_cases h0:all=[]
   . exact .inl h0
   . refine .inr ⟨w.heap.size,cap,rfl,hcap,fun j u hj=>⟨?_,?_⟩⟩
     . have hjl:j<all.length:=(List.getElem?_eq_some_iff.1 hj).1;rintro (hm | ⟨_,ho⟩)
       . have:=hmb _ _ hm;omega
       . omega
     . simp only [World.cell?,hheap];have hjl:j<all.length:=(List.getElem?_eq_some_iff.1 hj).1;simp [Array.getElem?_append,hjl];simpa [hjl] using hj
theorem w7e (ht:P.underlying T=some (.slice e)) (hi:P.info? e=some i) (w:World) (ty:TypeId)
 (g Tb n cap:Nat) (cur:Array Value) (hg:w.heap[g]? = some (.cells cur Tb (0,0))) (m:Nat) (y:Value) (news:List Value) (hyv:∃ ad c,y=.slice ad m c) (_hl:news.length=m*i.size)
 (hf:(Builtin.firstCells i.size m y).run P w=.ok news.toArray w) (h1:∀ u∈news,u.oneCell'=true)
 (hroom:n+m<=cap) (hfit:n*i.size+news.length<=cur.size) :
 (Builtin.append_ #[T,T] ty #[.slice (some ⟨g,0,none⟩) n cap,y]).run P w =
   .ok (.slice (some ⟨g,0,none⟩) (n+m) cap) (w.setRow g (cur.toList.take (n*i.size)++news++cur.toList.drop (n*i.size+news.length)).toArray):=by
 obtain ⟨ad,c,rfl⟩:=hyv;have hst:=run_storeCells_at P g (n*i.size) Tb news 0 cur w hg (by simpa using hfit) h1;simp only [Nat.add_zero] at hst;simp [Builtin.append_,run_underlying ht,sizeOf,typeInfo,hi,Builtin.lenOf,hroom,hf,Addr.add_lit,hst]
theorem waf (w:World) (m:Nat) (y:Value) (news:List Value) (hy:∃ ad cap,y=.slice ad m cap) (hnl:news.length=m*i.size)
 (hnews:news=[]\/∃ b off cap,y=.slice (some ⟨b,off,none⟩) m cap/\∀ j u,news[j]? = some u->w.cell? ⟨b,off+j,none⟩=some u) :
 (Builtin.firstCells i.size m y).run P w=.ok news.toArray w:=by
 rcases hnews with rfl | ⟨b,off,cap,rfl,hc⟩
 . obtain ⟨ad,cap,rfl⟩:=hy
   cases ad with
   | none=>simp [Builtin.firstCells]
   | some b=>
    simp only [List.length_nil] at hnl;simp [Builtin.firstCells,<-hnl,loadCells,loadCellsFrom]
 . exact run_firstCells_some w i.size m _ m cap news hnl (fun j v hj=>by rw [v4h];exact hc j v hj)
theorem w2r (hmb:∀ b o,M b o->b<w.heap.size) {g Tb n:Nat} {cur:Array Value} (hbg:E.N<=g)
 (hg:w.heap[g]? = some (.cells cur Tb (0,0))) (hMg:∀ o,n*es<=o->M g o) (hxs:xs.length=n*es) (hxs':∀(j:Nat) (u:Value),xs[j]? = some u->cur[j]? = some u) (hnl:news.length=m*es) (hcs:cur.size=cap*es)
 (hroom:n+m<=cap) (hcap0:cap≠0) (hcm:cap<=maxLen) :
 Grew E M w (w.setRow g (cur.toList.take (n*es)++news++cur.toList.drop (n*es+news.length)).toArray) (fun b o=>M b o/\¬(b=g/\o<(n+m)*es)) (.slice (some ⟨g,0,none⟩) n cap)
  (.slice (some ⟨g,0,none⟩) (n+m) cap) es (n+m) (xs++news):=by
 have hall:(xs++news).length=(n+m)*es:=by rw [List.length_append,hxs,hnl,Nat.add_mul]
 have hfit:n*es+news.length<=cur.size:=by rw [hnl,hcs,<-Nat.add_mul];exact Nat.mul_le_mul_right _ hroom
 obtain ⟨cap,rfl⟩:∃ c,cap=c+1:=⟨cap-1,by omega⟩;generalize hnew:(cur.toList.take (n*es)++news++cur.toList.drop (n*es+news.length)).toArray=new;have hheap:(w.setRow g new).heap[g]? = some (.cells new Tb (0,0)):=setRow_heap w g cur new Tb (0,0) hg
 have hget1:∀ j,j<n*es->new[j]? = cur[j]?:=fun j hj=>by
  rw [<-hnew];simp only [List.getElem?_toArray,List.append_assoc];rw [List.getElem?_append_left (by simp;omega),List.getElem?_take,if_pos hj];simp
 have hsize:new.size=(cap+1)*es:=by
  rw [<-hnew];simp only [List.size_toArray,List.length_append,List.length_take,List.length_drop,Array.length_toList];omega
 have hget2:∀ j,j<news.length->new[n*es+j]? = news[j]?:=fun j hj=>by
  rw [<-hnew];simp only [List.getElem?_toArray,List.append_assoc];rw [List.getElem?_append_right (by simp;omega)]
  have e1:n*es+j-(List.take (n*es) cur.toList).length=j:=by
   simp only [List.length_take,Array.length_toList];omega
  rw [e1,List.getElem?_append_left hj]
 have hcells:∀(j:Nat) (u:Value),(xs++news)[j]? = some u->new[j]? = some u:=fun j u hj=>by
  by_cases hjx:j<xs.length
  . rw [hget1 j (by omega)];rw [List.getElem?_append_left hjx] at hj;exact hxs' j u hj
  . have hjl:=(List.getElem?_eq_some_iff.1 hj).1;rw [List.getElem?_append_right (by omega)] at hj
    have:=hget2 (j-xs.length) (by simp at hjl;omega)
    rw [hj] at this
    rwa [show n*es+(j-xs.length)=j by omega] at this
 refine { keeps := ?_, size := by simp, os := rfl, tape := rfl, output := rfl, block := fun k _ hk => setRow_other w g k _ (fun e' => hk (by simp [tokB, e'])), mem := fun b o hm hb => ⟨hm, fun h => hb (by rw [h.1]; rfl)⟩, mb := fun b o h => by simpa using hmb b o h.1,
          tok:=?_,blk':=fun g' hg'=>.inl (by simpa [tokB] using hg'),cells:=.inr ⟨g,cap+1,rfl,hroom,fun j u hj=>?_⟩,len:=⟨_,_,rfl,hroom⟩ }
 . intro b o u hm hc;refine ⟨fun h=>hm h.1,?_⟩;by_cases hbg':b=g
   . subst hbg';have ho:o<n*es:=Nat.lt_of_not_le (fun h=>hm (hMg o h));simp only [World.cell?,hheap];simp only [World.cell?,hg] at hc;rw [hget1 o ho];exact hc
   . rw [cell_setRow_other _ _ _ _ hbg'];exact hc
 . refine .inr ⟨Tb,n+m,xs++news,⟨hall,.inr ⟨g,cap+1,new,rfl,hbg,hheap,hroom,hcm,hsize,?_⟩⟩,fun g' hg' o ho=>?_⟩
   . apply List.ext_getElem?;intro j;rw [List.getElem?_take];by_cases hj:j<(n+m)*es
     . rw [if_pos hj]
       have hjx:j<(xs++news).length:=by omega
       rw [Array.getElem?_toList,hcells j _ (List.getElem?_eq_getElem hjx),List.getElem?_eq_getElem hjx]
     . rw [if_neg hj,List.getElem?_eq_none (by omega)]
   . simp [Value.ownBlock] at hg';subst hg';have ho2:(n+m)*es<=o:=ho;refine ⟨hMg o ?_,fun h=>by omega⟩;have ho:(n+m)*es<=o:=ho;rw [Nat.add_mul] at ho;omega
 . have hjl:j<(xs++news).length:=(List.getElem?_eq_some_iff.1 hj).1;rw [hall] at hjl;refine ⟨fun h=>h.2 ⟨rfl,hjl⟩,?_⟩;simp only [World.cell?,hheap];exact hcells j u hj
theorem zs0 {eb:Nat} {z:Value} (ht:P.underlying T=some (.slice e)) (hi:P.info? e=some i) (hz:i.zero=some z) (hsz:i.size=es) (hby:i.bytes=eb) (hzs:z.cells.size=es) (hes:0<es)
 (hN:E.N<=w.heap.size) (hmb:∀ b o,M b o->b<w.heap.size) (ty:TypeId) {v:Value} (hv:zal E M w ⟨v,es⟩) {n:Nat} (hlen:∃ ad cap,v=.slice ad n cap)
 (hxs:xs.length=n*es) (hx:xs=[]\/∃ g cap,v=.slice (some ⟨g,0,none⟩) n cap/\∀ j u,xs[j]? = some u->¬M g j/\w.cell? ⟨g,j,none⟩=some u)
 {y:Value} (hy:∃ ad cap,y=.slice ad m cap) (hnl:news.length=m*es) (hn1:∀ u∈news,u.oneCell'=true)
 (hnews:news=[]\/∃ b off cap,y=.slice (some ⟨b,off,none⟩) m cap/\∀ j u,news[j]? = some u->¬M b (off+j)/\w.cell? ⟨b,off+j,none⟩=some u)
 (hbound:(n+m)*eb<=140737488355328) (h63:n+m<=9223372036854775807) :
 ∃ v' w' M',(Builtin.append_ #[T,T] ty #[v,y]).run P w=.ok v' w'/\Grew E M w w' M' v v' es (n+m) (xs++news):=by
 subst hsz;subst hby
 have hall:(xs++news).length=(n+m)*i.size:=by rw [List.length_append,hxs,hnl,Nat.add_mul]
 have hf:(Builtin.firstCells i.size m y).run P w=.ok news.toArray w:=waf w m y news hy hnl (hnews.imp id fun ⟨b,off,cap,e,h⟩=>⟨b,off,cap,e,fun j u hj=>(h j u hj).2⟩);have hfd:(Builtin.firstCells i.size m y).run P w.drew=.ok news.toArray w.drew:=waf w.drew m y news hy hnl (hnews.imp id fun ⟨b,off,cap,e,h⟩=>⟨b,off,cap,e,fun j u hj=>(h j u hj).2⟩);obtain ⟨ad0,cap0,hv0⟩:=hlen;have hfo:(Builtin.firstCells i.size n v).run P w.drew=.ok xs.toArray w.drew:=waf w.drew n v xs ⟨_,_,hv0⟩ hxs (hx.imp id fun ⟨g,cap,e,h⟩=>⟨g,0,cap,e,fun j u hj=>by rw [Nat.zero_add];exact (h j u hj).2⟩);obtain ⟨yad,ycap,rfl⟩:=hy;have growth:∀ old,v=.slice ad0 n old->old<n+m->
  ∃ v' w' M',(Builtin.append_ #[T,T] ty #[v,.slice yad m ycap]).run P w=.ok v' w'/\Grew E M w w' M' v v' i.size (n+m) (xs++news):=fun old hvo ho=>by
  have hge:=grownCap_ge w (n+m) old e;have hcm:grownCap w (n+m) old e<=maxLen:=grownCap_le_maxLen w (n+m) old e (by unfold maxLen;omega);refine ⟨.slice (some ⟨w.heap.size,0,none⟩) (n+m) (grownCap w (n+m) old e),_,_,?_,v78 hN hmb v e i.size (n+m) (grownCap w (n+m) old e) (xs++news) (Builtin.zeroCells z.cells (grownCap w (n+m) old e-(n+m))) hes hall hge hcm (by rw [size_zeroCells,hzs])⟩
  have hn:¬(n+m<=old):=by omega
  have h63':¬(9223372036854775807<((n:Int)+(m:Int))):=by omega
  have hfit:=growslice_fits (need:=n+m) (old:=old) (bytes:=i.bytes) ho hbound
  have h48':¬(281474976710656<Builtin.nextslicecap (n+m) old*i.bytes):=by omega
  rw [hvo] at hfo ⊢;simp [Builtin.append_,run_underlying ht,sizeOf,typeInfo,zeroValue,hi,hz,Builtin.lenOf,hn,h63',h48',Question.forced,hfd,hfo,newRow,grownCap]
  congr 2
  apply Array.ext';simp [List.append_assoc]
 by_cases hzero:∃ ad,v=.slice ad 0 0
 ·
  obtain ⟨ad,hva⟩:=hzero
  have hn00:n=0:=by rw [hva] at hv0;cases hv0;rfl
  subst hn00;by_cases hm:m=0
  . subst hm;have hx0:xs=[]:=List.eq_nil_of_length_eq_zero (by simpa using hxs);have hn0:news=[]:=List.eq_nil_of_length_eq_zero (by simpa using hnl);subst hx0;subst hn0;refine ⟨.slice ad 0 0,w,M,?_,?_⟩
    . rw [hva]
      cases ad with
      | none=>simp [Builtin.append_,run_underlying ht,sizeOf,typeInfo,hi,Builtin.lenOf,hf]
      | some b=>simp [Builtin.append_,run_underlying ht,sizeOf,typeInfo,hi,Builtin.lenOf,hf,storeCells]
    . exact { keeps := fun _ _ _ h1 h2 => ⟨h1, h2⟩, size := Nat.le_refl _, os := rfl, tape := rfl, output := rfl, block := fun _ _ _ => rfl, mem := fun _ _ h _ => h, mb := hmb, tok := .inl ⟨ad, rfl⟩,
              blk':=fun g hg=>by cases ad<;>simp [tokB] at hg,cells:=.inl rfl,len:=⟨_,_,rfl,Nat.le_refl _⟩ }
  . have:ad0=ad:=by rw [hva] at hv0;cases hv0;rfl
    exact growth 0 (by rw [this];exact hva) (by omega)
 . rcases hv with hv | ⟨Tb,n',xs',hown,hMg⟩
   . exact absurd hv hzero
   have hown:w.ownsRow E.N Tb i.size v n' xs':=hown;have hMg:∀ g,v.ownBlock=some g->∀ o,n'*i.size<=o->M g o:=hMg
   rcases hown.2 with ⟨hva,hn'⟩ | ⟨g,cap,cur,hva,hbg,hg,hnc,hcm,hcs,htake⟩
   . exact absurd ⟨none,hva⟩ hzero
   . have hnn:n'=n:=by rw [hva] at hv0;cases hv0;rfl
     subst hnn
     have had:ad0=some ⟨g,0,none⟩:=by rw [hva] at hv0;cases hv0;rfl
     by_cases hroom:n'+m<=cap
     . have hfit:n'*i.size+news.length<=cur.size:=by rw [hnl,hcs,<-Nat.add_mul];exact Nat.mul_le_mul_right _ hroom
       have hrun:=w7e (P:=P) ht hi w ty g Tb n' cap cur hg m _ news ⟨_,_,rfl⟩ hnl hf hn1 hroom hfit
       have hcap0:cap≠0:=fun h0=>hzero ⟨_,by rw [hva,h0,show n'=0 by omega]⟩
       have hxs':∀(j:Nat) (u:Value),xs[j]? = some u->cur[j]? = some u:=fun j u hj=>by
        rcases hx with rfl | ⟨g',cap',e1,hc⟩
        . simp at hj
        . rw [hva] at e1
          cases e1
          have:=(hc j u hj).2
          simpa [World.cell?,hg] using this
       have hgrew:=w2r (E:=E) hmb hbg hg (hMg g (by rw [hva];rfl)) hxs hxs' hnl hcs hroom hcap0 hcm;rw [hva];exact ⟨_,_,_,hrun,hgrew⟩
     . exact growth cap (by rw [had];exact hva) (by omega)
end Go.Slot
namespace Go.Slot
open Go Go.RowKit
variable {P:Program}
variable {t es:Nat} {tk rd:List Nat} {M:Nat->Nat->Prop} {w w':World} {v v':Value} {E:Env} {all:List Value} {o:Oper} {τ:Nat->TV} {od:Option Nat} {tm:Array Value} {f:FuncId} {xs:List Operand} {ts:Array TypeId}
def wxa (k:IntKind):Cell->Option (List Int)
 | .ints k' l=>if k'=k then some l else none
 | .zc=>some []
 | .nn _=>some []
 | .raw (.slice none 0 0)=>some []
 | _=>none
def vbz (n:Nat):Cell->Option (List (List Cell))
 | .sl n' rows=>if n'=n then some rows else none
 | .zc=>some []
 | .nn _=>some []
 | .raw (.slice none 0 0)=>some []
 | _=>none
def wch (es eb:Nat) (ik:Option IntKind) (c cy:Cell):Option Cell:=
 match ik with
 | some k=>match wxa k c,wxa k cy with
  | some l,some l'=>if es=1/\(l.length+l'.length)*eb<=140737488355328/\l.length+l'.length<=9223372036854775807 then some (.ints k (l++l')) else none
  | _,_=>none
 | none=>match vbz es c,vbz es cy with
  | some l,some l'=>if (l.length+l'.length)*eb<=140737488355328/\l.length+l'.length<=9223372036854775807 then some (.sl es (l++l')) else none
  | _,_=>none
def ownC:Cell->Option (Option Nat×Cell)
 | .tok d (.ints k l)=>some (some d,.ints k l)
 | .tok d (.sl n r)=>some (some d,.sl n r)
 | .zc=>some (none,.zc)
 | .raw (.slice none 0 0)=>some (none,.zc)
 | _=>none
def vtf (tk:List Nat) (I:List AV):List AV:=tk.foldl (fun I t=>x7y t I) I
def AV.vtf (tk:List Nat) (x:AV):AV:=tk.foldl (fun x t=>x.strip t) x
variable {I I':List AV} {res:AV} {F:List AV->AV->Prop}
def zcm (tk:List Nat):Nat->List AV->List (Nat×AV)
 | _,[]=>[]
 | i,x::r=>if tk.all (fun t=>x.wi1 t) then zcm tk (i+1) r else (i,x.vtf tk)::zcm tk (i+1) r
def w0m (I : List AV) (ti : TI) (d : Nat) (x y : Operand) : Option (List Nat × List Nat × List (Nat × AV)) :=
 match ti.sh with
 | .slice _ es eb ik=>match opd I x,opd I y with
  | .one cx,.one cy=>match ownC cx with
   | some (od,c)=>match wch es eb ik c cy.bare with
    | some c'=>if nh I d then
     let tk:=od.toList++[d]
     let se:=zcm tk 0 I
     some (d::(orr x++orr y++se.map (·.1)),tk,se++[(d,.one (.tok d c'))])
     else none
    | none=>none
   | none=>none
  | _,_=>none
 | _=>none
theorem y4h (eff:List (Nat×AV)):∀(I:List AV) (i:Nat),i<I.length->gt (app eff I) i=((eff.reverse.find? (fun p=>p.1==i)).map (·.2)).getD (gt I i):=by
 induction eff with
 | nil=>intro I i _;rfl
 | cons p eff ih=>
  intro I i hi;obtain ⟨s,v⟩:=p;simp only [app];rw [ih (I.set s v) i (by simpa using hi)];simp only [List.reverse_cons,List.find?_append]
  cases hf:eff.reverse.find? (fun p=>p.1==i) with
  | some q=>simp
  | none=>
   simp only [Option.map_none,Option.getD_none,Option.none_or];by_cases hs:s=i
   . subst hs;simp [gt,hi]
   . simp [gt,hs]
theorem wge (eff:List (Nat×AV)):∀ I:List AV,(app eff I).length=I.length:=by
 induction eff with
 | nil=>intro I;rfl
 | cons p eff ih=>intro I;simp only [app];rw [ih];simp
theorem wkl (e1 e2:List (Nat×AV)):∀ I:List AV,app (e1++e2) I=app e2 (app e1 I):=by
 induction e1 with
 | nil=>intro I;rfl
 | cons p e1 ih=>intro I;simp only [List.cons_append,app];exact ih _
theorem wq0 (hl:I.length=I'.length) (h:∀ i,i<I.length->gt I i=gt I' i):I=I':=by
 apply List.ext_getElem hl;intro i h1 h2
 have:=h i h1
 simpa [gt,h1,h2] using this
theorem Cell.wl3 {t:Nat}:∀{c:Cell},c.wi1 t=true->c.strip t=c
 | .tok d c,h=>by
  simp only [Cell.wi1,Bool.and_eq_true,bne_iff_ne] at h;simp [Cell.strip,h.1,Cell.wl3 h.2]
 | .raw _,_ | .ints _ _,_ | .sl _ _,_ | .zc,_ | .nn _,_ | .fnp _,_=>rfl
variable {c c' cx:Cell}
theorem va0 {t:Nat}:∀{cs:List Cell},z3p t cs=true->yvb t cs=cs
 | [],_=>rfl
 | c::cs,h=>by
  simp only [z3p,Bool.and_eq_true] at h;simp [yvb,Cell.wl3 h.1,va0 h.2]
theorem AV.wl3 {t:Nat} {x:AV} (h:x.wi1 t=true):x.strip t=x:=by
 cases x with
 | one c=>simp [AV.strip,Cell.wl3 (show c.wi1 t=true from h)]
 | agg cs=>simp [AV.strip,va0 (show z3p t cs=true from h)]
 | box cs=>simp [AV.strip,va0 (show z3p t cs=true from h)]
 | obx cs=>simp [AV.strip,va0 (show z3p t cs=true from h)]
 | _=>rfl
theorem Cell.zz5 {t:Nat}:∀{c:Cell},¬c.wi1 t=true->c.v7d t
 | .tok d c,h=>by
  simp only [Cell.wi1,Bool.and_eq_true,bne_iff_ne,not_and] at h;by_cases hd:d=t
  . exact .inl hd
  . exact .inr (Cell.zz5 (h hd))
 | .raw _,h | .ints _ _,h | .sl _ _,h | .zc,h | .fnp _,h=>absurd rfl h
theorem xwt {t:Nat}:∀{cs:List Cell},¬z3p t cs=true->w9q t cs
 | [],h=>absurd rfl h
 | c::cs,h=>by
  simp only [z3p,Bool.and_eq_true,not_and] at h;by_cases hc:c.wi1 t=true
  . exact .inr (xwt (h hc))
  . exact .inl (Cell.zz5 hc)
theorem AV.zz5 {t:Nat} {x:AV} (h:¬x.wi1 t=true):x.v7d t:=by
 cases x with
 | one c=>exact Cell.zz5 h
 | agg cs=>exact xwt h
 | box cs=>exact xwt h
 | obx cs=>exact xwt h
 | _=>exact absurd rfl h
theorem Cell.xbp {t s:Nat}:∀{c:Cell},c.wi1 t=true->(c.strip s).wi1 t=true
 | .tok d c,h=>by
  simp only [Cell.wi1,Bool.and_eq_true] at h;unfold Cell.strip
  split
  . exact Cell.xbp h.2
  . simp [Cell.wi1,h.1,Cell.xbp h.2]
 | .raw _,_ | .ints _ _,_ | .sl _ _,_ | .zc,_ | .nn _,_ | .fnp _,_=>rfl
theorem x76 {t s:Nat}:∀{cs:List Cell},z3p t cs=true->z3p t (yvb s cs)=true
 | [],_=>rfl
 | c::cs,h=>by
  simp only [z3p,Bool.and_eq_true] at h;simp [z3p,yvb,Cell.xbp h.1,x76 h.2]
theorem AV.xbp {t s:Nat} {x:AV} (h:x.wi1 t=true):(x.strip s).wi1 t=true:=by
 cases x with
 | one c=>exact Cell.xbp h
 | agg cs=>exact x76 h
 | box cs=>exact x76 h
 | obx cs=>exact x76 h
 | _=>rfl
theorem AV.vws (tk:List Nat):∀{x:AV},(t∈tk\/x.wi1 t=true)->(x.vtf tk).wi1 t=true:=by
 unfold AV.vtf
 induction tk with
 | nil=>intro x h;exact h.resolve_left (by simp)
 | cons s tk ih=>
  intro x h;simp only [List.foldl_cons];refine ih ?_
  rcases h with h | h
  . rcases List.mem_cons.1 h with rfl | h
    . exact .inr (AV.yrf _ x)
    . exact .inl h
  . exact .inr (AV.xbp h)
theorem AV.xcw (tk:List Nat):∀{x:AV},(∀ t∈tk,x.wi1 t=true)->x.vtf tk=x:=by
 unfold AV.vtf
 induction tk with
 | nil=>intro x _;rfl
 | cons s tk ih=>
  intro x h;simp only [List.foldl_cons,AV.wl3 (h s (by simp))];exact ih (fun t ht=>h t (by simp [ht]))
theorem AV.wmk (tk:List Nat):∀(x:AV),(x.vtf tk).xeo=x.xeo:=by
 unfold AV.vtf
 induction tk with
 | nil=>intro x;rfl
 | cons s tk ih=>intro x;simp only [List.foldl_cons];rw [ih,AV.vl0]
theorem zfq (tk:List Nat):∀ I:List AV,(vtf tk I).length=I.length:=by
 unfold vtf
 induction tk with
 | nil=>intro I;rfl
 | cons s tk ih=>intro I;simp only [List.foldl_cons];rw [ih,(LeS.strip s I).length]
theorem zfc (tk:List Nat):∀(I:List AV) (i:Nat),(vtf tk I)[i]? = (I[i]?).map (AV.vtf tk):=by
 unfold vtf
 induction tk with
 | nil=>intro I i;simp only [List.foldl_nil];cases I[i]?<;>simp [AV.vtf]
 | cons s tk ih=>
  intro I i;simp only [List.foldl_cons];rw [ih,vbc]
  cases I[i]?<;>rfl
theorem RelI.vtf {E:Env} {τ:Nat->TV} {M:Nat->Nat->Prop} {a:Act} {w:World} (tk:List Nat):∀{I:List AV},RelI E τ M I a w->RelI E τ M (vtf tk I) a w:=by
 unfold Slot.vtf
 induction tk with
 | nil=>intro I h;exact h
 | cons s tk ih=>intro I h;exact ih (h.strip s)
theorem v9j (tk:List Nat) (ht:t∈tk) (I:List AV):¬live (vtf tk I) t:=fun ⟨i,x,hi,hx⟩=>by
 rw [zfc] at hi
 cases hs:I[i]? with
 | none=>rw [hs] at hi;cases hi
 | some y=>
  rw [hs] at hi;simp at hi;subst hi;exact AV.z1t (AV.vws tk (.inl ht)) hx
theorem xd1 (tk:List Nat) (h:live (vtf tk I) t):live I t:=by
 obtain ⟨i,x,hi,hx⟩:=h;rw [zfc] at hi
 cases hs:I[i]? with
 | none=>rw [hs] at hi;cases hi
 | some y=>
  rw [hs] at hi;simp at hi;subst hi;refine ⟨i,y,hs,?_⟩;by_cases hn:y.wi1 t=true
  . exact absurd hx (AV.z1t (AV.vws tk (.inr hn)))
  . exact AV.zz5 hn
theorem zgq (tk : List Nat) : ∀ (I : List AV) (k i : Nat), i < I.length →
 ((zcm tk k I).reverse.find? (fun p=>p.1==k+i))=if tk.all (fun t=>(gt I i).wi1 t) then none else some (k+i,(gt I i).vtf tk)
 | [],_,i,h=>by simp at h
 | x::r,k,0,_=>by
  have hnone:(zcm tk (k+1) r).reverse.find? (fun p=>p.1==k)=none:=by
   rw [List.find?_eq_none];intro p hp
   have:∀(I:List AV) (k:Nat),∀ p∈zcm tk k I,k<=p.1:=by
    intro I
    induction I with
    | nil=>intro k p hp;simp [zcm] at hp
    | cons y I ih=>
     intro k p hp;unfold zcm at hp;split at hp
     . have:=ih (k+1) p hp;omega
     . rcases List.mem_cons.1 hp with rfl | hp
       . exact Nat.le_refl _
       . have:=ih (k+1) p hp;omega
   have:=this r (k+1) p (by simpa using hp)
   simp;omega
  unfold zcm;have hg:gt (x::r) 0=x:=rfl;rw [hg]
  split
  . simpa using hnone
  . simp only [List.reverse_cons,List.find?_append,Nat.add_zero,hnone];simp
 | x::r,k,i+1,h=>by
  have ih:=zgq tk r (k+1) i (by simpa using h)
  have hg:gt (x::r) (i+1)=gt r i:=by simp [gt]
  rw [hg,show k+(i+1)=k+1+i by omega];unfold zcm
  split
  . exact ih
  . simp only [List.reverse_cons,List.find?_append,ih]
    split
    . simp;omega
    . rfl
theorem yfn (hl:I'.length=I.length) (hag:∀ r∈(zcm tk 0 I).map (·.1),gt I' r=gt I r)
 (hex:∀ t∈tk,∀ i,(gt I' i).v7d t->gt I' i=gt I i):app (zcm tk 0 I) I'=vtf tk I':=by
 apply wq0
 . rw [wge,zfq]
 . intro i hi;rw [wge] at hi;rw [y4h _ _ _ hi];have hf:=zgq tk I 0 i (by omega);simp only [Nat.zero_add] at hf
   have hsa:gt (vtf tk I') i=(gt I' i).vtf tk:=by
    unfold gt;rw [zfc,List.getElem?_eq_getElem hi];simp
   rw [hsa,hf]
   split
   . rename_i hno;simp only [Option.map_none,Option.getD_none];rw [AV.xcw];intro t ht;by_cases hc:(gt I' i).wi1 t=true
     . exact hc
     . have:=hex t ht i (AV.zz5 hc)
       rw [this];exact (List.all_eq_true.1 hno) t ht
   . rename_i hsome;simp only [Option.map_some,Option.getD_some];rw [hag i]
     have hm:((zcm tk 0 I).reverse.find? (fun p=>p.1==i))=some (i,(gt I i).vtf tk):=by rw [hf,if_neg hsome]
     have:=List.mem_of_find?_eq_some hm
     exact List.mem_map.2 ⟨_,by simpa using this,rfl⟩
theorem RdC.v7h {k:IntKind} {l:List Int} (h:RdC M w v c) (hc:wxa k c=some l) :
 (∃ ad cap,v=.slice ad l.length cap)/\(l.map (Value.int k)=[]\/∃ b off cap,v=.slice (some ⟨b,off,none⟩) l.length cap/\∀ j u,(l.map (Value.int k))[j]? = some u->¬M b (off+j)/\w.cell? ⟨b,off+j,none⟩=some u):=by
 cases h with
 | raw h=>
  unfold wxa at hc;split at hc
  . rename_i heq;cases heq
  . rename_i heq;cases heq
  . rename_i heq;cases heq
  . rename_i heq;cases heq;cases hc;exact ⟨⟨_,_,rfl⟩,.inl rfl⟩
  . cases hc
 | zc=>cases hc;exact ⟨⟨_,_,rfl⟩,.inl rfl⟩
 | nn=>cases hc;exact ⟨⟨_,_,rfl⟩,.inl rfl⟩
 | fnp=>cases hc
 | @ints a len cap k' l' b off hl hcap ha hcell=>
  simp only [wxa] at hc;split at hc
  . rename_i hk
    cases hc;subst hk;subst hl;refine ⟨⟨_,_,rfl⟩,?_⟩;by_cases h0:l=[]
    . exact .inl (by rw [h0];rfl)
    . refine .inr ⟨b,off,cap,by rw [ha h0],fun j u hj=>?_⟩
      have hjl:j<l.length:=by simpa using (List.getElem?_eq_some_iff.1 hj).1
      have:=hcell j hjl
      simp [hjl] at hj;rw [<-hj];exact this
  . cases hc
 | sl=>cases hc
theorem RdC.vy2 {n:Nat} {rows:List (List Cell)} (hn0:0<n) (h:RdC M w v c) (hc:vbz n c=some rows) :
 (∃ ad cap,v=.slice ad rows.length cap)/\(∀ r∈rows,r.length=n)/\∃ vs:List Value,vs.length=rows.length*n/\RdD M w vs rows.flatten/\
   (vs=[]\/∃ b off cap,v=.slice (some ⟨b,off,none⟩) rows.length cap/\∀ j u,vs[j]? = some u->¬M b (off+j)/\w.cell? ⟨b,off+j,none⟩=some u):=by
 cases h with
 | raw h=>
  unfold vbz at hc;split at hc
  . rename_i heq;cases heq
  . rename_i heq;cases heq
  . rename_i heq;cases heq
  . rename_i heq;cases heq;cases hc;exact ⟨⟨_,_,rfl⟩,by simp,[],by simp,trivial,.inl rfl⟩
  . cases hc
 | zc=>cases hc;exact ⟨⟨_,_,rfl⟩,by simp,[],by simp,trivial,.inl rfl⟩
 | nn=>cases hc;exact ⟨⟨_,_,rfl⟩,by simp,[],by simp,trivial,.inl rfl⟩
 | fnp=>cases hc
 | ints=>cases hc
 | @sl a len cap n' rows' b off u hl hcap ha hn hm hr =>
  simp only [vbz] at hc;split at hc
  . rename_i hk
    cases hc;subst hk;subst hl;refine ⟨⟨_,_,rfl⟩,hn,(List.range (rows.length*n')).map (fun q=>u (q / n') (q % n')),by simp,?_,?_⟩
    . have gen:∀(rs:List (List Cell)) (f:Nat->Nat->Value),(∀ r∈rs,r.length=n')->(∀ i (hi:i<rs.length) j (hj:j<rs[i].length),RdC M w (f i j) rs[i][j])->
       RdD M w ((List.range (rs.length*n')).map (fun q=>f (q / n') (q % n'))) rs.flatten:=by
       intro rs
       induction rs with
       | nil=>intro f _ _;simp;exact trivial
       | cons r rs ih=>
        intro f hlen hf;have hrl:r.length=n':=hlen r (by simp)
        have hsplit:List.range ((r::rs).length*n')=List.range n'++(List.range (rs.length*n')).map (n' + ·):=by
         rw [List.length_cons,Nat.add_mul,Nat.one_mul,Nat.add_comm,List.range_add]
        rw [hsplit,List.map_append,List.map_map,List.flatten_cons]
        have happ:∀{vs:List Value} {cs:List Cell} {us:List Value} {ds:List Cell},RdD M w vs cs->RdD M w us ds->RdD M w (vs++us) (cs++ds):=by
         intro vs
         induction vs with
         | nil=>intro cs us ds h1 h2;cases cs with
          | nil=>exact h2
          | cons _ _=>exact h1.elim
         | cons v vs ihv=>intro cs us ds h1 h2;cases cs with
          | nil=>exact h1.elim
          | cons c cs=>exact ⟨h1.1,ihv h1.2 h2⟩
        refine happ ?_ ?_
        . have e:(List.range n').map (fun q=>f (q / n') (q % n'))=(List.range r.length).map (f 0):=by
           rw [hrl];apply List.map_congr_left;intro q hq
           have:=List.mem_range.1 hq
           rw [Nat.div_eq_of_lt this,Nat.mod_eq_of_lt this]
          rw [e]
          have g2:∀(cs:List Cell) (g:Nat->Value),(∀ j (hj:j<cs.length),RdC M w (g j) cs[j])->RdD M w ((List.range cs.length).map g) cs:=by
           intro cs
           induction cs with
           | nil=>intro g _;exact trivial
           | cons c cs ihc=>
            intro g hg;rw [List.length_cons,List.range_succ_eq_map,List.map_cons,List.map_map];exact ⟨hg 0 (by simp),ihc (g∘Nat.succ) (fun j hj=>hg (j+1) (by simpa using hj))⟩
          exact g2 r (f 0) (fun j hj=>hf 0 (by simp) j hj)
        . have e:(List.range (rs.length*n')).map ((fun q=>f (q / n') (q % n'))∘(n' + ·))=(List.range (rs.length*n')).map (fun q=>f (q / n'+1) (q % n')):=by
           apply List.map_congr_left;intro q _;simp only [Function.comp];rw [Nat.add_comm n' q,Nat.add_div_right _ hn0,Nat.add_mod_right]
          rw [e];exact ih (fun i j=>f (i+1) j) (fun r' hr'=>hlen r' (by simp [hr'])) (fun i hi j hj=>hf (i+1) (by simpa using hi) j hj)
      exact gen rows u hn hr
    . by_cases h0:rows=[]
      . exact .inl (by simp [h0])
      . refine .inr ⟨b,off,cap,by rw [ha h0],fun j x hj=>?_⟩
        have hjl:j<rows.length*n':=by simpa using (List.getElem?_eq_some_iff.1 hj).1
        have h1:j / n'<rows.length:=Nat.div_lt_of_lt_mul (by rw [Nat.mul_comm];exact hjl);have h2:j % n'<n':=Nat.mod_lt _ hn0
        have:=hm (j / n') h1 (j % n') h2
        have e:off+j / n'*n'+j % n'=off+j:=by
         have:=Nat.div_add_mod j n'
         rw [Nat.mul_comm] at this;omega
        rw [e] at this;simp [hjl] at hj;rw [<-hj];exact this
  . cases hc
theorem RdD.oneL {M:Nat->Nat->Prop} {w:World}:∀{vs:List Value} {cs:List Cell},RdD M w vs cs->∀ v∈vs,v.oneCell'=true
 | [],[],_,v,hv=>by simp at hv
 | u::vs,_::_,h,v,hv=>by
  rcases List.mem_cons.1 hv with rfl | hv
  . exact h.1.one
  . exact RdD.oneL h.2 v hv
theorem RdD.app {M:Nat->Nat->Prop} {w:World}:∀{vs:List Value} {cs:List Cell} {us:List Value} {ds:List Cell},RdD M w vs cs->RdD M w us ds->RdD M w (vs++us) (cs++ds)
 | [],[],_,_,_,h=>h
 | _::_,_::_,_,_,h,h'=>⟨h.1,h.2.app h'⟩
theorem xce (es:Nat):∀ rows:List (List Cell),(∀ r∈rows,r.length=es)->chunk es rows.length rows.flatten=rows
 | [],_=>rfl
 | r::rows,h=>by
  have hr:=h r (by simp);simp only [List.length_cons,chunk,List.flatten_cons];rw [<-hr,List.take_left,List.drop_left,hr,xce es rows (fun r' hr'=>h r' (by simp [hr']))]
theorem Grew.ints {E:Env} {M M':Nat->Nat->Prop} {w w':World} {v v':Value} {k:IntKind} {l:List Int} (h:Grew E M w w' M' v v' 1 l.length (l.map (Value.int k))):RdC M' w' v' (.ints k l):=by
 obtain ⟨ad,cap,hv,hc⟩:=h.len;by_cases h0:l=[]
 . subst h0;rw [hv];exact .ints 0 0 rfl hc (fun h=>absurd rfl h) (fun i hi=>absurd hi (Nat.not_lt_zero i))
 . rcases h.cells with h1 | ⟨g,cap',hv',hc',hcell⟩
   . exact absurd (List.map_eq_nil_iff.1 h1) h0
   . rw [hv'];refine .ints g 0 rfl hc' (fun _=>rfl) (fun i hi=>?_)
     have:=hcell i (.int k l[i]) (by simp [hi])
     simpa using this
theorem Grew.rows {E:Env} {M M':Nat->Nat->Prop} {w w':World} {v v':Value} {es:Nat} {rows:List (List Cell)} {vs:List Value} (h:Grew E M w w' M' v v' es rows.length vs) (hr:RdD M w vs rows.flatten)
 (hlen:∀ r∈rows,r.length=es) (hvl:vs.length=rows.length*es) (hes:0<es):RdC M' w' v' (.sl es rows):=by
 obtain ⟨ad,cap,hv,hc⟩:=h.len;have hr':RdD M' w' vs rows.flatten:=hr.keep h.keeps;by_cases h0:rows=[]
 . subst h0;rw [hv];exact .sl 0 0 (fun _ _=>Go.undef) rfl hc (fun h=>absurd rfl h) (fun r hr=>by cases hr) (fun i hi=>absurd hi (Nat.not_lt_zero i)) (fun i hi=>absurd hi (Nat.not_lt_zero i))
 . have hfl:rows.flatten.length=rows.length*es:=by rw [<-hvl,hr.length]
   have hpos:0<rows.length:=List.length_pos_iff.2 h0
   rcases h.cells with h1 | ⟨g,cap',hv',hc',hcell⟩
   . rw [h1] at hvl
     have:0<rows.length*es:=Nat.mul_pos hpos hes
     rw [<-hvl] at this;simp at this
   . rw [hv']
     have hin:∀ i,i<rows.length->∀ j,j<es->i*es+j<rows.length*es:=fun i hi j hj=>by
      calc i*es+j<i*es+es:=by omega
       _=(i+1)*es:=by rw [Nat.add_mul,Nat.one_mul]
       _<=rows.length*es:=Nat.mul_le_mul_right _ hi
     have gen:∀(vs:List Value) (cs:List Cell),RdD M' w' vs cs->∀ q (hq:q<cs.length),RdC M' w' (vs.getD q Go.undef) cs[q]:=by
      intro vs
      induction vs with
      | nil=>intro cs h q hq;cases cs with
       | nil=>simp at hq
       | cons _ _=>exact h.elim
      | cons v vs ih=>intro cs h q hq;cases cs with
       | nil=>exact h.elim
       | cons c cs=>cases q with
        | zero=>exact h.1
        | succ q=>simpa using ih cs h.2 q (by simpa using hq)
     refine .sl g 0 (fun i j=>vs.getD (i*es+j) Go.undef) rfl hc' (fun _=>rfl) hlen (fun i hi j hj=>?_) (fun i hi j hj=>?_)
     . have hlt:=hin i hi j hj
       have:=hcell (i*es+j) (vs.getD (i*es+j) Go.undef) (by rw [List.getElem?_eq_getElem (by omega)];simp [show i*es+j<vs.length by omega])
       rw [Nat.zero_add];exact this
     . have hrl:rows[i].length=es:=hlen _ (List.getElem_mem hi);have hlt:=hin i hi j (by omega);have hg:=gen vs rows.flatten hr' (i*es+j) (by omega);have hck:=xce es rows hlen
       have e:rows.flatten[i*es+j]=rows[i][j]:=by
        have h1:(chunk es rows.length rows.flatten)[i]? = rows[i]?:=by rw [hck]
        rw [List.getElem?_eq_getElem (by rw [v3j];exact hi),List.getElem?_eq_getElem hi] at h1;simp only [Option.some.injEq,z6f] at h1
        have h2:((rows.flatten.drop (i*es)).take es)[j]? = rows[i][j]?:=by rw [h1]
        rw [List.getElem?_take,if_pos (by omega),List.getElem?_drop,List.getElem?_eq_getElem (by omega),List.getElem?_eq_getElem hj] at h2;simpa using h2
       rw [e] at hg;exact hg
theorem vp0 {b off n cap sz:Nat} (h:zal E M w ⟨.slice (some ⟨b,off,none⟩) n cap,sz⟩) (hn:n≠0):off=0:=by
 rcases h with ⟨a,ha⟩ | ⟨e,n',xs,ho,_⟩
 . simp only [Value.slice.injEq] at ha;exact absurd ha.2.1 hn
 . rcases ho.2 with ⟨h1,_⟩ | ⟨g,c,cur,hv,_⟩
   . simp at h1
   . simp only [Value.slice.injEq,Option.some.injEq,Addr.mk.injEq] at hv;exact hv.1.2.1
theorem zal.grew {M M' : Nat → Nat → Prop} {n:Nat} (hg : Grew E M w w' M' v v' es n all) {t : TV} (h : zal E M w t) (hne : ∀ g, tokB t.v = some g → tokB v ≠ some g) : zal E M' w' t := by
 rcases h with h | ⟨e,n',xs,ho,hm⟩
 . exact .inl h
 . rcases ho.2 with ⟨h1,_⟩ | ⟨g,cap,cur,hv,hN,hh,hnc,r⟩
   . exact .inl ⟨none,h1⟩
   . cases cap with
     | zero=>exact .inl ⟨some ⟨g,0,none⟩,by rw [hv];simp at hnc;rw [hnc]⟩
     | succ cap=>
      have hb:=hne g (by rw [hv];rfl);refine .inr ⟨e,n',xs,⟨ho.1,.inr ⟨g,cap+1,cur,hv,hN,?_,hnc,r⟩⟩,fun g' hg' o ho'=>?_⟩
      . rw [hg.block g (Array.getElem?_eq_some_iff.1 hh).1 hb];exact hh
      . have e1:g'=g:=by rw [hv] at hg';simp [Value.ownBlock] at hg';exact hg'.symm
        exact hg.mem _ _ (hm g' hg' o ho') (by rw [e1];exact hb)
theorem xeg {d:Nat} (hdst:o.dst=some d) (hdt:d∈tk) {a:Act} (hI:RelI E τ M I' a w)
 {old:AV} (hd:I'[d]? = some old) (hnh:old.xeo=false) {n:Nat} {M':Nat->Nat->Prop} (hes:c'.esz=es) (hg:Grew E M w w' M' v v' es n all)
 (hr:RdC M' w' v' c') (hrun:(execOp a.eval o).run P w=.ok (.value v') w') (hv:zal E M w ⟨v,es⟩)
 (ht:∀ t g,live (vtf tk I') t->tokB (τ t).v=some g->tokB v≠some g) (hh:∀ i av,I'[i]? = some av->av.xeo=true->tokB v≠some (blk (a.tmps.getD i Go.undef)))
 {K:Act->World->Prop} {Q:Exit->Act->World->Prop} {σ2:List AV} (he:σ2=(vtf tk I').set d (.one (.tok d c'))) (hK:∀ a' w',Rel E σ2 a' w'->K a' w'):o.wp P a w K Q:=by
 have hS:=hI.vtf tk
 have hget:∀ i av,(vtf tk I')[i]? = some av->∃ x:AV,I'[i]? = some x/\av=x.vtf tk:=fun i av hi=>by
  rw [zfc] at hi
  cases hx:I'[i]? with
  | none=>rw [hx] at hi;cases hi
  | some x=>rw [hx] at hi;refine ⟨x,?_,by simpa using hi.symm⟩;first | rfl | exact hx
 have hN:∀ g,tokB v=some g->E.N<=g/\g<w.heap.size:=fun g hg'=>vv5 hv hg'
 have hgrow:=hS.grow (d:=d) (old:=old.vtf tk) (by rw [zfc,hd];rfl) (by rw [AV.wmk];exact hnh) (v9j tk hdt I') hg.keeps
  (fun b o' hm=>hg.mem b o' (hI.m0 b o' hm) (fun hb=>by have h1:E.w0.heap.size<=b:=(hN b hb).1;have:=E.hM b o' hm;omega)) hg.mb hg.size hg.os hg.tape hg.output
  (fun k hk=>hg.block k (Nat.lt_of_lt_of_le hk hI.size) (fun hb=>by have h1:E.w0.heap.size<=k:=(hN k hb).1;have h2:k<E.w0.heap.size:=hk;omega))
  (fun i av hi hhold=>by
    obtain ⟨x,hx,rfl⟩:=hget i av hi;rw [AV.wmk] at hhold;have hne:=hh i x hx hhold
    exact ⟨hg.block _ ((hI.slot i x hx).whw hhold) hne,fun o'=>hg.mem _ _ ((hI.hold i x hx hhold).1 o') hne⟩)
  (fun t htl=>(hS.toks t htl).grew hg (fun g h1=>ht t g htl h1)) v' c' (by rw [hes];exact hg.tok)
  (fun i av hi hhold=>by
    obtain ⟨x,hx,rfl⟩:=hget i av hi;rw [AV.wmk] at hhold;intro hb
    rcases hg.blk' _ hb with h1 | h1
    . exact hh i x hx hhold h1
    . have:=(hI.slot i x hx).whw hhold;omega)
  (fun t g htl h1=>fun hb=>by
    rcases hg.blk' _ hb with h2 | h2
    . exact ht t g htl h1 h2
    . have:=(vv5 (hS.toks t htl) h1).2;omega) hr
 unfold Oper.wp;rw [hrun];show K (a.put o.dst v') w';rw [hdst];exact hK _ _ (by rw [he];exact ⟨_,M',hgrow⟩)
theorem yyh (h:ownC cx=some (od,c)):(∃ d0,od=some d0/\cx=.tok d0 c)\/(od=none/\c=.zc/\(cx=.zc\/cx=.raw (.slice none 0 0))):=by
 unfold ownC at h;split at h
 . cases h;exact .inl ⟨_,rfl,rfl⟩
 . cases h;exact .inl ⟨_,rfl,rfl⟩
 . cases h;exact .inr ⟨rfl,rfl,.inl rfl⟩
 . cases h;exact .inr ⟨rfl,rfl,.inr rfl⟩
 . cases h
theorem wvm {eb:Nat} {ik : Option IntKind} {cy:Cell} (h : wch es eb ik c cy = some c') : c'.esz = es ∧ (c.isSl = true → c = .zc ∨ c.esz = es) := by
 unfold wch at h;split at h
 . split at h
   . rename_i l l' h1 h2;split at h
     . rename_i hc
       cases h;refine ⟨hc.1.symm,fun hs=>?_⟩
       cases c with
       | ints=>exact .inr hc.1.symm
       | zc=>exact .inl rfl
       | sl=>cases h1
       | _=>cases hs
     . cases h
   . cases h
 . split at h
   . rename_i l l' h1 h2;split at h
     . cases h;refine ⟨rfl,fun hs=>?_⟩
       cases c with
       | ints=>cases h1
       | zc=>exact .inl rfl
       | sl n r=>simp only [vbz] at h1;split at h1<;>first | (rename_i hn;exact .inr hn) | cases h1
       | _=>cases hs
     . cases h
   . cases h
theorem x4m (h:ownC cx=some (od,c)):c.isSl=true:=by
 unfold ownC at h
 split at h<;>first | (cases h;rfl) | cases h
theorem zq4 {ad:Option Addr} {g:Nat}:tokB (.slice ad 0 0)≠some g:=by cases ad<;>simp [tokB]
theorem vfb {T:TypeId} {x y:Operand} (ho:o.op=.call { callee:=.builtin .append,args:=#[x,y],argTypes:=#[T,T] }) {d:Nat} (hdst:o.dst=some d) {ti:TI} (hti:mkTI P T=some ti)
 {eff:List (Nat×AV)} (hA:w0m I ti d x y=some (rd,tk,eff)):vni P o I rd tk eff:=by
 have hok:=wgk hti;obtain ⟨ds,i0,z0,hd0,hi0,hz0,_,_,_,_,_,hsh'⟩:=hok.ex;unfold w0m at hA;split at hA
 case h_2=>cases hA
 rename_i e es eb ik hsh;split at hA
 case h_2=>cases hA
 rename_i cx cy hx hy;split at hA
 case h_2=>cases hA
 rename_i od c hown;split at hA
 case h_2=>cases hA
 rename_i c' wvz;split at hA
 case isFalse=>cases hA
 rename_i hn;simp only [Option.some.injEq,Prod.mk.injEq] at hA;obtain ⟨rfl,rfl,rfl⟩:=hA;obtain ⟨rfl,j,z',hj,hz',hjs,hjb,hes0,hzs,hik⟩:=zu3 (hsh'.symm.trans hsh);have hes:0<es:=Nat.pos_of_ne_zero hes0;intro E I' a w hag htk ⟨τ,M,hI⟩ K Q hK;have hox:opd I' x=opd I x:=hag.opd (fun t ht=>by simp [ht]);have hoy:opd I' y=opd I y:=hag.opd (fun t ht=>by simp [ht]);have sx:=hI.opd x;have sy:=hI.opd y;rw [hox,hx] at sx;rw [hoy,hy] at sy;have sx:RdT M w τ (a.eval x) cx:=sx;have sy:RdT M w τ (a.eval y) cy:=sy;have sby:=sy.bare;obtain ⟨hce,hcs⟩:=wvm wvz;generalize htkd:od.toList++[d]=tk at *
 have hdt:d∈tk:=by rw [<-htkd];simp
 have hxc:RdC M w (a.eval x) c/\zal E M w ⟨a.eval x,es⟩/\(∀ t g,live (vtf tk I') t->tokB (τ t).v=some g->tokB (a.eval x)≠some g)/\
  (∀ i av,I'[i]? = some av->av.xeo=true->tokB (a.eval x)≠some (blk (a.tmps.getD i Go.undef))):=by
  rcases yyh hown with ⟨d0,rfl,rfl⟩ | ⟨rfl,rfl,hcx⟩
  . have hlv:live I' d0:=y29 (x:=x) (by rw [hox,hx];exact .inl rfl);have he:=sx.1.1;have hsz:=sx.1.2;have hok':=hI.toks d0 hlv;have hc0:c=.zc\/c.esz=es:=hcs (x4m hown)
    have hd0t:d0∈tk:=by rw [<-htkd];simp
    refine ⟨sx.2,?_,fun t g hl hg=>?_,fun i av hi hh=>by rw [he];exact hI.tbox d0 i av hlv hi hh⟩
    . rcases hc0 with rfl | hc0
      . have h2:=sx.2
        have:∃ ad,a.eval x=.slice ad 0 0:=by
         generalize a.eval x=v at h2
         cases h2;exact ⟨_,rfl⟩
        exact .inl this
      . have:(⟨a.eval x,es⟩:TV)=τ d0:=by rw [he,<-hc0,<-hsz]
        rw [this];exact hok'
    . rw [he]
      have hne:t≠d0:=fun e'=>v9j tk hd0t I' (by rw [<-e'];exact hl)
      exact hI.tinj t d0 g (xd1 tk hl) hlv hne hg
  . have:∃ ad,a.eval x=.slice ad 0 0:=by
     rcases hcx with rfl | rfl
     . have h2:RdC M w (a.eval x) .zc:=sx;generalize a.eval x=v at h2
       cases h2;exact ⟨_,rfl⟩
     . exact ⟨none,RdC.x18 sx⟩
    obtain ⟨ad,hv⟩:=this;rw [hv];exact ⟨RdC.zc,.inl ⟨ad,rfl⟩,fun _ _ _ _=>zq4,fun _ _ _ _=>zq4⟩
 obtain ⟨hxr,hxt,hxs1,hxs2⟩:=hxc;obtain ⟨old,h1,h2⟩:=xd0 (hag.nh (by simp) hn)
 have hfin:app (zcm tk 0 I++[(d,.one (.tok d c'))]) I'=(vtf tk I').set d (.one (.tok d c')):=by
  rw [wkl,yfn hag.1 (fun r hr=>hag.2 r (by simp only [List.mem_cons,List.mem_append];exact .inr (.inr hr))) (fun t ht i hi=>hag.2 i (htk t ht i hi))];rfl
 have hrunop:∀ v' w',(Builtin.append_ #[T,T] o.type #[a.eval x,a.eval y]).run P w=.ok v' w'->(execOp a.eval o).run P w=.ok (.value v') w':=fun v' w' hr=>by
  simp [execOp,ho,resolve,invoke,builtin,hr]
 have hoff:∀(xs:List Value) (n:Nat),xs.length=n*es->(xs=[]\/∃ b off cap,a.eval x=.slice (some ⟨b,off,none⟩) n cap/\∀ j u,xs[j]? = some u->¬M b (off+j)/\w.cell? ⟨b,off+j,none⟩=some u)->
  (xs=[]\/∃ g cap,a.eval x=.slice (some ⟨g,0,none⟩) n cap/\∀ j u,xs[j]? = some u->¬M g j/\w.cell? ⟨g,j,none⟩=some u):=fun xs n hl hx'=>by
  by_cases h0:xs=[]
  . exact .inl h0
  . rcases hx' with h | ⟨b,off,cap,hv,hc⟩
    . exact .inl h
    . have hn0:n≠0:=fun e'=>h0 (List.eq_nil_of_length_eq_zero (by rw [hl,e'];simp))
      have ho0:off=0:=vp0 (by rw [<-hv];exact hxt) hn0;subst ho0;exact .inr ⟨b,cap,hv,fun j u hj=>by simpa using hc j u hj⟩
 unfold wch at wvz;split at wvz
 . rename_i k;split at wvz
   . rename_i l l' hl hl';split at wvz
     . rename_i hc;obtain ⟨rfl,hb1,hb2⟩:=hc
       cases wvz;obtain ⟨hxl,hxcells⟩:=hxr.v7h hl;obtain ⟨hyl,hycells⟩:=sby.v7h hl';obtain ⟨v',w',M',hr,hg⟩:=zs0 (P:=P) hd0 hj hz' hjs hjb hzs hes hI.size hI.mb o.type hxt hxl (by simp) (hoff _ _ (by simp) hxcells) hyl (by simp) (by simp [Value.oneCell']) hycells hb1 hb2
       have hg':Grew E M w w' M' (a.eval x) v' 1 (l++l').length ((l++l').map (Value.int k)):=by simpa using hg
       exact xeg hdst hdt hI h1 h2 rfl hg' hg'.ints (hrunop v' w' hr) hxt hxs1 hxs2 hfin hK
     . cases wvz
   . cases wvz
 . split at wvz
   . rename_i l l' hl hl';split at wvz
     . rename_i hc;obtain ⟨hb1,hb2⟩:=hc
       cases wvz;obtain ⟨hxl,hxn,vs,hvl,hvr,hxcells⟩:=hxr.vy2 hes hl;obtain ⟨hyl,hyn,us,hul,hur,hycells⟩:=sby.vy2 hes hl';obtain ⟨v',w',M',hr,hg⟩:=zs0 (P:=P) hd0 hj hz' hjs hjb hzs hes hI.size hI.mb o.type hxt hxl hvl (hoff _ _ hvl hxcells) hyl hul hur.oneL hycells hb1 hb2
       have hg':Grew E M w w' M' (a.eval x) v' es (l++l').length (vs++us):=by simpa using hg
       refine xeg hdst hdt hI h1 h2 rfl hg' (hg'.rows (by rw [List.flatten_append];exact hvr.app hur) (fun r hr'=>?_) (by simp [hvl,hul,Nat.add_mul]) hes) (hrunop v' w' hr) hxt hxs1 hxs2 hfin hK
       rcases List.mem_append.1 hr' with h | h
       . exact hxn r h
       . exact hyn r h
     . cases wvz
   . cases wvz
def OwnR (M:Nat->Nat->Prop) (w:World) (v:Value) (c:Cell):Prop:=
 ∃(b:Nat) (T:TypeId) (vs q:List Value) (cap:Nat),v=.slice (some ⟨b,0,none⟩) c.cnt cap/\w.heap[b]? = some (.cells (vs++q).toArray T (0,0))/\RdD (fun b' o=>M b' o\/b'=b) w vs c.flat/\
  c.uni/\c.cnt<=cap/\cap*c.esz<=vs.length+q.length/\∀ o,¬M b o
def RdR (M:Nat->Nat->Prop) (w:World) (v:Value):AV->Prop
 | .tup l=>∃ vs:List Value,v=.tuple vs.toArray/\RdBL M w vs l
 | .arr pre c post=>pre=[]/\post=none/\OwnR M w v c
 | av=>RdB M w v av
def yss (P:Program) (f:FuncId):Prop:=∃ fn,P.funcs[f]? = some fn/\(fn.name == "runtime.NumGoroutine")=false/\fn.body.isNone=false
def Bounded (M:Nat->Nat->Prop) (w:World):Prop:=∀ b o,M b o->b<w.heap.size
def Back (M:Nat->Nat->Prop) (w:World) (res:AV):Ending->World->Prop:=fun e w'=>∃ v,e=.returned v/\Below w.heap.size w w'/\RdR M w' v res/\(res.xeo=true->w.heap.size<=blk v)
def y4n (P:Program) (f:FuncId) (args:List AV) (res:AV):Prop:=
 yss P f/\∀(M:Nat->Nat->Prop) (w:World) (vs:List Value),Bounded M w->RdBL M w vs args->Calls P f vs.toArray w (Back M w res)
def wxs (P:Program) (F:List AV->AV->Prop) (M:Nat->Nat->Prop) (w:World) (v:Value):Prop:=
 ∃ f caps,v=.func (.func f) #[] caps/\yss P f/\∀ args res vs,F args res->Bounded M w->RdBL M w vs args->Calls P f (vs.toArray++caps) w (Back M w res)
def argA:AV->Option AV
 | .one c=>some (.one c.bare)
 | .agg cs=>some (.agg (vc2 cs))
 | .elt cs=>some (.elt cs)
 | .any=>some .any
 | _=>none
def zvb (I:List AV):List Operand->Option (List AV)
 | []=>some []
 | x::r=>match argA (opd I x),zvb I r with
  | some av,some l=>some (av::l)
  | _,_=>none
def orrL:List Operand->List Nat
 | []=>[]
 | x::r=>orr x++orrL r
theorem vkm {av b:AV} (h:argA av=some b) (hs:xb1 M w τ tm v av):RdB M w v b:=by
 cases av with
 | one c=>cases h;exact RdT.bare hs
 | agg cs=>cases h;obtain ⟨vs,rfl,hr⟩:=hs;exact ⟨vs,rfl,hr.bare⟩
 | elt cs=>cases h;exact hs
 | any=>cases h;exact trivial
 | _=>cases h
theorem zpb {E:Env} {τ:Nat->TV} {M:Nat->Nat->Prop} {I:List AV} {a:Act} {w:World} (hI:RelI E τ M I a w):∀(xs:List Operand) (args:List AV),zvb I xs=some args->RdBL M w (xs.map a.eval) args
 | [],args,h=>by simp only [zvb,Option.some.injEq] at h;subst h;exact trivial
 | x::r,args,h=>by
  simp only [zvb] at h;split at h
  . rename_i av l h1 h2
    cases h;exact ⟨vkm h1 (hI.opd x),zpb hI r l h2⟩
  . cases h
theorem ytm {I I':List AV}:∀(xs:List Operand),(∀ x:Operand,(∀ t∈orr x,t∈orrL xs)->opd I' x=opd I x)->zvb I' xs=zvb I xs
 | [],_=>rfl
 | x::r,h=>by
  simp only [zvb];rw [h x (fun t ht=>by simp [orrL,ht]),ytm r (fun y hy=>h y (fun t ht=>by simp [orrL,hy t ht]))]
theorem OwnR.slot (h:OwnR M w v c):xb1 (fun b o=>M b o\/b=blk v) w τ tm v (.arr [] c none)/\blk v<w.heap.size:=by
 obtain ⟨b,T,vs,q,cap,rfl,hb,hr,hu,h1,h2,_⟩:=h;exact ⟨⟨b,T,vs,q,cap,rfl,by simpa using hb,hr,(by intro p hp;cases hp),hu,h1,h2⟩,(Array.getElem?_eq_some_iff.1 hb).1⟩
theorem OwnR.read (h:OwnR M w v c):RdC M w v c:=by
 obtain ⟨b,T,vs,q,cap,rfl,hb,hr,hu,h1,h2,h3⟩:=h;exact viy (pre:=[]) (by simpa using hb) (hr.keep (fun b' o u hm hc=>⟨fun h=>hm (.inl h),hc⟩)) hu h1 h3
theorem RdR.slot {M:Nat->Nat->Prop} {w:World} {τ:Nat->TV} {tm:Array Value} {v:Value} {av:AV} (hnh:av.xeo=false) (h:RdR M w v av):xb1 M w τ tm v av/\(∀ t,¬av.v7d t)/\av.xeo=false/\av.rf=none:=by
 cases av with
 | tup l=>exact ⟨h,fun t ht=>ht,rfl,rfl⟩
 | one c=>have:=RdB.slot (τ:=τ) (tm:=tm) (show RdB M w v (.one c) from h);exact ⟨this.1,this.2,rfl,rfl⟩
 | agg cs=>have:=RdB.slot (τ:=τ) (tm:=tm) (show RdB M w v (.agg cs) from h);exact ⟨this.1,this.2,rfl,rfl⟩
 | elt cs=>exact ⟨h,fun t ht=>ht,rfl,rfl⟩
 | any=>exact ⟨trivial,fun t ht=>ht,rfl,rfl⟩
 | undef=>exact ⟨h,fun t ht=>ht,rfl,rfl⟩
 | arr _ _ _=>cases hnh
 | _=>exact (show False from h).elim
theorem x5k (hd:∀ d,o.dst=some d->d∈rd/\nh I d=true)
 (hrun:∀(E:Env) (τ:Nat->TV) (M:Nat->Nat->Prop) (I':List AV) (a:Act) (w:World),x2j rd I I'->RelI E τ M I' a w->
   ∃ f args,(execOp a.eval o).run P w=.ok (.enter f args) w/\Calls P f args w (Back M w res)):vni P o I rd [] (match o.dst with | some d=>[(d,res)] | none=>[]):=by
 intro E I' a w hag _ ⟨τ,M,hI⟩ K Q hK;obtain ⟨f,args,hr,hc⟩:=hrun E τ M I' a w hag hI;unfold Oper.wp;rw [hr];show Calls P f args w _;refine hc.mono ?_;rintro e w' ⟨v,rfl,hb,hrd,hfr⟩;show K (a.put o.dst v) w'
 cases hdst:o.dst with
 | none=>
  rw [hdst] at hK;exact hK _ _ ⟨τ,M,hI.below hb⟩
 | some d=>
  rw [hdst] at hK;obtain ⟨h1,h2⟩:=hd d hdst;obtain ⟨old,h3,h4⟩:=xd0 (hag.nh h1 h2)
  cases hh:res.xeo with
  | false=>
   have hs:=hrd.slot (τ:=τ) (tm:=a.tmps) hh;exact hK _ _ ⟨τ,M,(hI.below hb).put h3 h4 v res hs.2.2.1 hs.1 (fun s b hr=>by rw [hs.2.2.2] at hr;cases hr) (fun t ht=>absurd ht (hs.2.1 t))⟩
  | true=>
   cases res with
   | arr pre c post=>
    obtain ⟨rfl,rfl,how⟩:=hrd;have hs:=how.slot (τ:=τ) (tm:=a.tmps);exact hK _ _ ⟨τ,_,hI.ylj hb h3 h4 v _ rfl rfl (hfr rfl) hs.2 hs.1 (fun t ht=>ht.elim)⟩
   | box _=>exact hrd.elim
   | obx _=>exact hrd.elim
   | _=>cases hh
theorem yfb (h:yss P f) (args:Array Value) (w:World):(callFunc f args).run P w=.ok (.enter f args) w:=by
 obtain ⟨fn,h1,h2,h3⟩:=h
 have h2':¬fn.name = "runtime.NumGoroutine" :=by simpa using h2
 have h3':¬fn.body=none:=fun e=>by rw [e] at h3;cases h3
 simp [callFunc,program,Sem.run,h1,h2',h3']
def xl0 (o:Oper):List Nat:=match o.dst with
 | some d=>[d]
 | none=>[]
def xas (o:Oper) (res:AV):List (Nat×AV):=match o.dst with
 | some d=>[(d,res)]
 | none=>[]
def ydq (I:List AV) (o:Oper):Bool:=match o.dst with
 | some d=>nh I d
 | none=>true
theorem vfn (ho:o.op=.call { callee:=.value (.func f),args:=xs.toArray,argTypes:=ts }) {args:List AV} (ha:zvb I xs=some args)
 (hn:ydq I o=true) (hc:y4n P f args res):vni P o I (xl0 o++orrL xs) [] (xas o res):=by
 refine x5k (fun d hd=>⟨by simp [xl0,hd],by simpa [ydq,hd] using hn⟩) (fun E τ M I' a w hag hI=>?_)
 have ha':zvb I' xs=some args:=by rw [ytm xs (fun x hx=>hag.opd (fun t ht=>by simp [hx t ht]))];exact ha
 refine ⟨f,(xs.map a.eval).toArray,?_,hc.2 M w _ hI.mb (zpb hI xs args ha')⟩;simp [execOp,ho,resolve,Deferred.ofValue,Act.eval,invoke,yfb hc.1]
theorem xm1 (ho:o.op=.call { callee:=.value (.tmp t),args:=xs.toArray,argTypes:=ts }) (ht:gt I t=.one (.raw (.func (.func f) #[] #[])))
 {args:List AV} (ha:zvb I xs=some args) (hn:ydq I o=true) (hc:y4n P f args res):vni P o I (xl0 o++t::orrL xs) [] (xas o res):=by
 refine x5k (fun d hd=>⟨by simp [xl0,hd],by simpa [ydq,hd] using hn⟩) (fun E τ M I' a w hag hI=>?_)
 have ha':zvb I' xs=some args:=by rw [ytm xs (fun x hx=>hag.opd (fun t ht=>by simp [hx t ht]))];exact ha
 have hs:=hI.gt t;rw [hag.2 t (by simp),ht] at hs;have e:a.tmps.getD t Go.undef=.func (.func f) #[] #[]:=RdC.x18 hs;refine ⟨f,(xs.map a.eval).toArray,?_,hc.2 M w _ hI.mb (zpb hI xs args ha')⟩;have he:a.eval (.tmp t)=.func (.func f) #[] #[]:=e;simp [execOp,ho,resolve,Deferred.ofValue,he,invoke,yfb hc.1]
theorem yb9 (ho:o.op=.call { callee:=.value (.tmp t),args:=xs.toArray,argTypes:=ts }) (ht:gt I t=.one (.fnp (wxs P F)))
 {args:List AV} (ha:zvb I xs=some args) (hn:ydq I o=true) (hc:F args res):vni P o I (xl0 o++t::orrL xs) [] (xas o res):=by
 refine x5k (fun d hd=>⟨by simp [xl0,hd],by simpa [ydq,hd] using hn⟩) (fun E τ M I' a w hag hI=>?_)
 have ha':zvb I' xs=some args:=by rw [ytm xs (fun x hx=>hag.opd (fun t ht=>by simp [hx t ht]))];exact ha
 have hs:=hI.gt t;rw [hag.2 t (by simp),ht] at hs;have hs:RdC M w (a.tmps.getD t Go.undef) (.fnp (wxs P F)):=hs;generalize hv:a.tmps.getD t Go.undef=v at hs
 cases hs with
 | fnp h hp=>
  obtain ⟨f,caps,rfl,wml,hspec⟩:=hp M w (fun _ _ _ h1 h2=>⟨h1,h2⟩);refine ⟨f,(xs.map a.eval).toArray++caps,?_,hspec args res _ hc hI.mb (zpb hI xs args ha')⟩;have he:a.eval (.tmp t)=.func (.func f) #[] caps:=hv;simp [execOp,ho,resolve,Deferred.ofValue,he,invoke,yfb wml]
theorem RdBL.append {M:Nat->Nat->Prop} {w:World}:∀{vs:List Value} {l:List AV} {us:List Value} {r:List AV},RdBL M w vs l->RdBL M w us r->RdBL M w (vs++us) (l++r)
 | [],[],_,_,_,h=>h
 | _::_,_::_,_,_,h,h'=>⟨h.1,h.2.append h'⟩
theorem vky (ho:o.op=.makeFunc (.func f) #[] xs.toArray) {caps:List AV} (ha:zvb I xs=some caps) (wml:yss P f)
 (hF:∀ args res,F args res->y4n P f (args++caps) res) {r:List Nat×List (Nat×AV)} (h:val I o (orrL xs) (.one (.fnp (wxs P F)))=some r):vni P o I r.1 [] r.2:=by
 refine vni.pure h rfl rfl (fun E τ M I' a w hop hgt hI=>?_)
 have ha':zvb I' xs=some caps:=by rw [ytm xs hop];exact ha
 have hr:=zpb hI xs caps ha';refine ⟨.func (.func f) #[] (xs.map a.eval).toArray,by simp [execOp,ho,Instr.makeFunc],RdC.fnp rfl (fun M' w' hk=>⟨f,_,rfl,wml,fun args res vs hres hb hrd=>?_⟩),fun t ht=>ht.elim⟩
 have:=(hF args res hres).2 M' w' (vs++xs.map a.eval) hb (hrd.append (hr.keep hk))
 simpa using this
end Go.Slot
namespace Go.Slot
open Go Go.RowKit
variable {P:Program}
variable {ops:Array Oper} {o:Oper} {I:List AV} {rd:List Nat} {j r i:Nat} {E:Env} {a:Act} {w:World} {b:Bool} {X:Nat->Bool} {l:List Oper} {K:List AV->Prop} {Q:Exit->Act->World->Prop}
def GStep (P:Program) (ops:Array Oper) (o:Oper) (I:List AV) (rd tk:List Nat) (eff:List (Nat×AV)):Prop:=
 (∀ t∈tk,∀ i,(gt I i).v7d t->i∈rd)/\
 ∀(E:Env) (I':List AV) (a:Act) (w:World),x2j rd I I'->(∀ t∈tk,∀ i,(gt I' i).v7d t->i∈rd)->Rel E I' a w->∀(K:Act->World->Prop) (Q:Exit->Act->World->Prop),
  (∀ a' w',Rel E (app eff I') a' w'->K a' w')->if Region.wanted o (yielded ops a.tmps) then o.wp P a w K Q else K (a.put o.dst Go.undef) w
theorem GStep.plain {tk:List Nat} {eff:List (Nat×AV)} (hg:o.guard=none) (ht:∀ t∈tk,∀ i,(gt I i).v7d t->i∈rd) (h:vni P o I rd tk eff):GStep P ops o I rd tk eff:=
 ⟨ht,fun E I' a w hag htk hR K Q hK=>by simp only [Region.wanted,hg,if_true];exact h E I' a w hag htk hR K Q hK⟩
theorem x2j.sub {rd':List Nat} {I':List AV} (h:x2j rd I I') (hs:∀ r∈rd',r∈rd):x2j rd' I I':=⟨h.1,fun r hr=>h.2 r (hs r hr)⟩
theorem yje {d:Nat} (hj:(ops[j]?).bind (·.dst)=some d) {τ:Nat->TV} {M:Nat->Nat->Prop} (hI:RelI E τ M I a w) :
 (∀ b,gt I d=.one (.raw (.bool b))->yielded ops a.tmps j=some b)/\(gt I d=.undef->yielded ops a.tmps j=none):=by
 have hs:=hI.gt d;unfold yielded;rw [hj];simp only [Option.bind_some];constructor
 . intro b hb;rw [hb] at hs;have e:a.tmps.getD d Go.undef=.bool b:=RdC.x18 hs;have hlt:d<a.tmps.size:=hI.lt (y94 hb (by simp));rw [Array.getElem?_eq_getElem hlt];rw [Array.getD_eq_getD_getElem?,Array.getElem?_eq_getElem hlt] at e;simp at e;rw [e]
 . intro hb;rw [hb] at hs;have e:a.tmps.getD d Go.undef=Go.undef:=hs;have hlt:d<a.tmps.size:=hI.lt (y94 hb (by simp));rw [Array.getElem?_eq_getElem hlt];rw [Array.getD_eq_getD_getElem?,Array.getElem?_eq_getElem hlt] at e;simp at e;rw [e];rfl
theorem GStep.taken {eff:List (Nat×AV)} {d:Nat} (hg:o.guard=some (j,b)) (hj:(ops[j]?).bind (·.dst)=some d)
 (hd:gt I d=.one (.raw (.bool b))) (h:vni P o I rd [] eff):GStep P ops o I (d::rd) [] eff:=by
 refine ⟨(by intro t ht;cases ht),?_⟩;intro E I' a w hag _ hR K Q hK;obtain ⟨τ,M,hI⟩:=hR;have hy:=(yje hj hI).1 b (by rw [hag.2 d (by simp)];exact hd);simp only [Region.wanted,hg,hy,beq_self_eq_true,if_true];exact h E I' a w (hag.sub (fun r hr=>by simp [hr])) (fun t ht=>by cases ht) ⟨τ,M,hI⟩ K Q hK
theorem GStep.vyy {d:Nat} (hg:o.guard=some (j,b)) (hj:(ops[j]?).bind (·.dst)=some d)
 (hd:gt I d=.one (.raw (.bool (!b)))\/gt I d=.undef) {e:Nat} (ho:o.dst=some e) (hn:nh I e=true):GStep P ops o I [d,e] [] [(e,.undef)]:=by
 refine ⟨(by intro t ht;cases ht),?_⟩;intro E I' a w hag _ hR K Q hK;obtain ⟨τ,M,hI⟩:=hR
 have hw:Region.wanted o (yielded ops a.tmps)=false:=by
  rcases hd with hd | hd
  . have hy:=(yje hj hI).1 (!b) (by rw [hag.2 d (by simp)];exact hd);simp only [Region.wanted,hg,hy]
    cases b<;>rfl
  . have hy:=(yje hj hI).2 (by rw [hag.2 d (by simp)];exact hd);simp only [Region.wanted,hg,hy];rfl
 simp only [hw,Bool.false_eq_true,if_false];obtain ⟨old,h1,h2⟩:=xd0 (hag.nh (by simp) hn);rw [ho];exact hK _ _ ⟨τ,M,hI.put h1 h2 Go.undef .undef rfl rfl (fun s b hr=>by cases hr) (fun t ht=>ht.elim)⟩
def Run (P:Program) (ops:Array Oper):List Oper->List AV->(List AV->Prop)->Prop
 | [],I,K=>K I
 | o::r,I,K=>∃ rd tk eff,GStep P ops o I rd tk eff/\Run P ops r (app eff I) K
theorem Run.wpList {ops:Array Oper} {E:Env} {Q:Exit->Act->World->Prop} {K:List AV->Prop} (hQ:∀ I a w,K I->Rel E I a w->Q .normal a w):∀(l:List Oper) (I:List AV) (a:Act) (w:World),
 Run P ops l I K->Rel E I a w->Go.wpList P ops Q l a w
 | [],I,a,w,h,hR=>hQ I a w h hR
 | o::r,I,a,w,⟨rd,tk,eff,hg,hr⟩,hR=>by
  refine wpList_step (fun K' hK'=>?_);exact hg.2 E I a w ⟨rfl,fun _ _=>rfl⟩ hg.1 hR K' Q (fun a' w' hR'=>hK' _ _ (Run.wpList hQ r (app eff I) a' w' hr hR'))
structure SR where
 rd:List Nat
 tk:List Nat
 eff:List (Nat×AV)
def SR.writes (s:SR):List Nat:=s.eff.map (·.1)
def direct (o:Oper):List Nat:=(o.after.toList.filter (Region.binds .any)).map (·.on)
def befs:List Oper->List (List Nat)->List (List Nat)
 | [],acc=>acc
 | o::r,acc=>befs r (acc++[(direct o++(direct o).flatMap fun d=>acc.getD d []).eraseDups])
def vr5 (s t:SR) (σi σj:List AV):Bool:=
 (s.writes.all fun x=>!t.rd.contains x)&&(t.writes.all fun x=>!s.rd.contains x)&&
 (t.tk.all fun x=>s.eff.all fun p=>p.2.wi1 x&&(gt σi p.1).wi1 x)&&(s.tk.all fun x=>t.eff.all fun p=>p.2.wi1 x&&(gt σj p.1).wi1 x)
def xk3:List SR->List AV->List (SR×List AV)
 | [],_=>[]
 | s::r,I=>(s,I)::xk3 r (app s.eff I)
def w5h (bs:List (List Nat)):Nat->List (SR×List AV)->List (SR×List AV)->Bool
 | _,_,[]=>true
 | j,before,x::r=>(before.zipIdx.all fun (y,i)=>(bs.getD j []).contains i||vr5 y.1 x.1 y.2 x.2)&&w5h bs (j+1) (before++[x]) r
def wl7:Nat->List Oper->Bool
 | _,[]=>true
 | j,o::r=>(direct o).all (· < j)&&wl7 (j+1) r
def indep (l:List Oper) (recs:List SR) (I:List AV):Bool:=
 wl7 0 l&&(recs.all fun s=>s.writes.all fun x=>s.rd.contains x)&&w5h (befs l []) 0 [] (xk3 recs I)
def RunD (P:Program) (ops:Array Oper) (l:List Oper) (σ0:List AV):List Oper->List SR->List AV->(List AV->Prop)->Prop
 | [],acc,I,K=>indep l acc σ0=true/\K I
 | o::r,acc,I,K=>∃ rd tk eff,GStep P ops o I rd tk eff/\RunD P ops l σ0 r (acc++[⟨rd,tk,eff⟩]) (app eff I) K
def ev (eff:List (Nat×AV)) (r:Nat):Option AV:=(eff.reverse.find? (fun p=>p.1==r)).map (·.2)
theorem wl8 (eff:List (Nat×AV)) (h:r<I.length):gt (app eff I) r=(ev eff r).getD (gt I r):=y4h eff I r h
theorem xoz {eff:List (Nat×AV)} (h:r∉eff.map (·.1)):ev eff r=none:=by
 unfold ev;rw [Option.map_eq_none_iff,List.find?_eq_none];intro p hp;simp only [beq_iff_eq]
 exact fun e=>h (List.mem_map.2 ⟨p,by simpa using hp,e⟩)
theorem y2j {eff:List (Nat×AV)} (h:r∈eff.map (·.1)):∃ v,ev eff r=some v/\(r,v)∈eff:=by
 unfold ev;obtain ⟨p,hp,he⟩:=List.mem_map.1 h
 cases hf:eff.reverse.find? (fun p=>p.1==r) with
 | none=>rw [List.find?_eq_none] at hf;exact absurd (by simpa using he) (hf p (by simpa using hp))
 | some q=>
  refine ⟨q.2,rfl,?_⟩;have h1:=List.find?_some hf;have h2:=List.mem_of_find?_eq_some hf;simp only [beq_iff_eq] at h1;rw [<-h1];simpa using h2
section any
variable (recs:List SR) (σ0:List AV)
def st (X:Nat->Bool):Nat->List AV
 | 0=>σ0
 | n+1=>if X n then app (recs.getD n ⟨[],[],[]⟩).eff (st X n) else st X n
theorem zxn (X:Nat->Bool):∀ n,(st recs σ0 X n).length=σ0.length
 | 0=>rfl
 | n+1=>by
  unfold st
  split
  . rw [wge,zxn X n]
  . exact zxn X n
def wr (i:Nat):List Nat:=(recs.getD i ⟨[],[],[]⟩).writes
theorem y06 {X Y:Nat->Bool} {r:Nat} (hr:r<σ0.length):∀ n,(∀ i,i<n->r∈wr recs i->X i=Y i)->gt (st recs σ0 X n) r=gt (st recs σ0 Y n) r
 | 0,_=>rfl
 | n+1,h=>by
  have ih:=y06 hr n (fun i hi=>h i (by omega));by_cases hw:r∈wr recs n
  . have e:=h n (by omega) hw;unfold st;rw [<-e]
    split
    . rw [wl8 _ (by rw [zxn];exact hr),wl8 _ (by rw [zxn];exact hr),ih]
    . exact ih
  . have hn:ev (recs.getD n ⟨[],[],[]⟩).eff r=none:=xoz hw
    have one:∀ Z,gt (st recs σ0 Z (n+1)) r=gt (st recs σ0 Z n) r:=fun Z=>by
     show gt (if Z n then _ else _) r=_
     split
     . rw [wl8 _ (by rw [zxn];exact hr),hn];rfl
     . rfl
    rw [one,one,ih]
theorem z0e {Z:Nat->Bool} {r j:Nat} (hr:r<σ0.length) (hj:Z j=true) {v:AV} (hv:ev (recs.getD j ⟨[],[],[]⟩).eff r=some v):∀ n,j<n->(∀ i,j<i->i<n->Z i=true->r∉wr recs i)->gt (st recs σ0 Z n) r=v
 | 0,h,_=>absurd h (by omega)
 | n + 1, h, ha => by
  by_cases e:j=n
  . subst e;unfold st;rw [if_pos hj,wl8 _ (by rw [zxn];exact hr),hv];rfl
  . have ih:=z0e hr hj hv n (by omega) (fun i h1 h2=>ha i h1 (by omega));unfold st
    split
    . rename_i hz;rw [wl8 _ (by rw [zxn];exact hr),xoz (ha n (by omega) (by omega) hz)];exact ih
    . exact ih
theorem w5z {X:Nat->Bool} {j:Nat}:∀ n,j<=n->(∀ i,j<=i->i<n->X i=false)->st recs σ0 X n=st recs σ0 X j
 | 0,h,_=>by rw [show j=0 by omega]
 | n+1,h,ha=>by
  by_cases e:j=n+1
  . rw [e]
  . rw [<-w5z n (by omega) (fun i h1 h2=>ha i h1 (by omega))];show (if X n then _ else _)=_;rw [ha n (by omega) (by omega)];rfl
theorem yqx {X Y:Nat->Bool}:∀ n,(∀ i,i<n->X i=Y i)->st recs σ0 X n=st recs σ0 Y n
 | 0,_=>rfl
 | n+1,h=>by
  unfold st;rw [h n (by omega),yqx n (fun i hi=>h i (by omega))]
variable (N:Nat) (bef:Nat->List Nat)
structure zve:Prop where
 lt:∀ j i,i∈bef j->i<j
 rdw:∀ j,j<N->∀ x∈wr recs j,x∈(recs.getD j ⟨[],[],[]⟩).rd
 ap:∀ i j,i<j->j<N->i∉bef j->vr5 (recs.getD i ⟨[],[],[]⟩) (recs.getD j ⟨[],[],[]⟩) (st recs σ0 (fun _=>true) i) (st recs σ0 (fun _=>true) j)=true
variable {recs σ0 N bef}
theorem zve.disj (h:zve recs σ0 N bef) (hi:i<N) (hj:j<N) (hne:i≠j) (h1:i∉bef j) (h2:j∉bef i) (hr:r∈(recs.getD j ⟨[],[],[]⟩).rd):r∉wr recs i:=by
 intro hw
 rcases Nat.lt_or_ge i j with hlt | hge
 . have:=h.ap i j hlt hj h1
   simp only [vr5,Bool.and_eq_true] at this;have h3:=(List.all_eq_true.1 this.1.1.1) r hw;simp at h3;exact h3 hr
 . have:=h.ap j i (by omega) hi h2
   simp only [vr5,Bool.and_eq_true] at this;have h3:=(List.all_eq_true.1 this.1.1.2) r hw;simp at h3;exact h3 hr
theorem zve.tok (h:zve recs σ0 N bef) (hi:i<N) (hj:j<N) (hne:i≠j) (h1:i∉bef j) (h2:j∉bef i) {t:Nat} (ht:t∈(recs.getD j ⟨[],[],[]⟩).tk) {v:AV} (hv:(r,v)∈(recs.getD i ⟨[],[],[]⟩).eff) :
 ¬v.v7d t/\¬(gt (st recs σ0 (fun _=>true) i) r).v7d t:=by
 have key:(v.wi1 t&&(gt (st recs σ0 (fun _=>true) i) r).wi1 t)=true:=by
  rcases Nat.lt_or_ge i j with hlt | hge
  . have:=h.ap i j hlt hj h1
    simp only [vr5,Bool.and_eq_true] at this;exact (List.all_eq_true.1 ((List.all_eq_true.1 this.1.2) t ht)) (r,v) hv
  . have:=h.ap j i (by omega) hi h2
    simp only [vr5,Bool.and_eq_true] at this;exact (List.all_eq_true.1 ((List.all_eq_true.1 this.2) t ht)) (r,v) hv
 simp only [Bool.and_eq_true] at key;exact ⟨AV.z1t key.1,AV.z1t key.2⟩
structure Next (bef:Nat->List Nat) (X:Nat->Bool) (j:Nat):Prop where
 closed:∀ k,X k=true->∀ i∈bef k,X i=true
 out:X j=false
 all:∀ i∈bef j,X i=true
theorem wkm (j:Nat) (hj:j<=N):st recs σ0 (fun i=>decide (i<j)) N=st recs σ0 (fun _=>true) j:=by
 rw [w5z recs σ0 N hj (fun i h1 _=>by simp;omega)];exact yqx recs σ0 j (fun i hi=>by simp [hi])
theorem Next.x2j (h:zve recs σ0 N bef) {X:Nat->Bool} {j:Nat} (hj:j<N) (hX:Next bef X j):x2j (recs.getD j ⟨[],[],[]⟩).rd (st recs σ0 (fun _=>true) j) (st recs σ0 X N):=by
 refine ⟨by rw [zxn,zxn],fun r hr=>?_⟩;by_cases hlen:r<σ0.length
 . rw [← wkm (N := N) j (by omega)];refine y06 recs σ0 hlen N (fun i hi hw=>?_);by_cases e:i=j
   . subst e;rw [hX.out];simp
   . by_cases h1:i∈bef j
     . rw [hX.all i h1];simp [h.lt j i h1]
     . by_cases h2:j∈bef i
       . have h3:X i=false:=by
          cases hx:X i with
          | false=>rfl
          | true=>have:=hX.closed i hx j h2;rw [hX.out] at this;cases this
         have:=h.lt i j h2
         rw [h3];simp;omega
       . exact absurd hw (h.disj hi hj e h1 h2 hr)
 . have e1:∀ Z n,gt (st recs σ0 Z n) r=.any:=fun Z n=>by
    unfold gt;rw [List.getElem?_eq_none (by rw [zxn];omega)];rfl
   rw [e1,e1]
theorem Next.tok (h : zve recs σ0 N bef) {X : Nat → Bool} {j : Nat} (hj : j < N) (hX : Next bef X j) {t : Nat} (ht : t ∈ (recs.getD j ⟨[], [], []⟩).tk) {r : Nat} (hr : (gt (st recs σ0 X N) r).v7d t) :
 (gt (st recs σ0 (fun _=>true) j) r).v7d t:=by
 by_cases hlen:r<σ0.length
 . rw [← wkm (N := N) j (by omega)]
   have key:∀ n,n<=N->(gt (st recs σ0 X n) r).v7d t->(gt (st recs σ0 (fun i=>decide (i<j)) n) r).v7d t:=by
    intro n
    induction n with
    | zero=>exact fun _ h=>h
    | succ n ih=>
     intro hn hh;have ih:=ih (by omega)
     have hX1:gt (st recs σ0 X (n+1)) r=if X n then (ev (recs.getD n ⟨[],[],[]⟩).eff r).getD (gt (st recs σ0 X n) r) else gt (st recs σ0 X n) r:=by
      show gt (if X n then _ else _) r=_
      split
      . rw [wl8 _ (by rw [zxn];exact hlen)]
      . rfl
     have hY1:gt (st recs σ0 (fun i=>decide (i<j)) (n+1)) r=if decide (n<j) then (ev (recs.getD n ⟨[],[],[]⟩).eff r).getD (gt (st recs σ0 (fun i=>decide (i<j)) n) r) else gt (st recs σ0 (fun i=>decide (i<j)) n) r:=by
      show gt (if decide (n<j) then _ else _) r=_
      split
      . rw [wl8 _ (by rw [zxn];exact hlen)]
      . rfl
     rw [hX1] at hh;rw [hY1];by_cases hw:r∈wr recs n
     . obtain ⟨v,hv,hvm⟩:=y2j hw;rw [hv] at hh ⊢;simp only [Option.getD_some] at hh ⊢;by_cases e:n=j
       . subst e;rw [hX.out] at hh;simp only [Bool.false_eq_true,if_false] at hh;simpa using ih hh
       . by_cases h1:n∈bef j
         . rw [hX.all n h1] at hh
           have:=h.lt j n h1
           simp only [this,decide_true,if_true];simpa using hh
         . by_cases h2:j∈bef n
           . have hlt:=h.lt n j h2
             have h3:X n=false:=by
              cases hx:X n with
              | false=>rfl
              | true=>have:=hX.closed n hx j h2;rw [hX.out] at this;cases this
             rw [h3] at hh
             have h4:¬n<j:=by omega
             simp only [h4,decide_false,Bool.false_eq_true,if_false];simp only [Bool.false_eq_true,if_false] at hh;exact ih hh
           . obtain ⟨hnv,hno⟩:=h.tok (by omega) hj e h1 h2 ht hvm
             cases hx:X n with
             | true=>rw [hx] at hh;exact absurd hh hnv
             | false=>
              rw [hx] at hh;simp only [Bool.false_eq_true,if_false] at hh;have hih:=ih hh
              split
              . rename_i hlt;exfalso;refine hno ?_
                have hlt':n<j:=by simpa using hlt
                have:st recs σ0 (fun i=>decide (i<j)) n=st recs σ0 (fun _=>true) n:=yqx recs σ0 n (fun i hi=>by simp;omega)
                rw [<-this];exact hih
              . exact hih
     . have hn':ev (recs.getD n ⟨[],[],[]⟩).eff r=none:=xoz hw;rw [hn'] at hh ⊢;simp only [Option.getD_none,ite_self] at hh ⊢;exact ih hh
   exact key N (Nat.le_refl _) hr
 . exfalso;unfold gt at hr;rw [List.getElem?_eq_none (by rw [zxn];omega)] at hr;exact hr
theorem Next.step (h:zve recs σ0 N bef) (hj:j<N) (hX:Next bef X j):app (recs.getD j ⟨[],[],[]⟩).eff (st recs σ0 X N)=st recs σ0 (fun i=>X i||i==j) N:=by
 apply wq0
 . rw [wge,zxn,zxn]
 . intro r hr;rw [wge,zxn] at hr;rw [wl8 _ (by rw [zxn];exact hr)];by_cases hw:r∈wr recs j
   . obtain ⟨v,hv,_⟩:=y2j hw;rw [hv];refine (z0e recs σ0 hr (by simp) hv N hj (fun i hji hi hz=>?_)).symm;simp only [Bool.or_eq_true,beq_iff_eq] at hz;have hXi:X i=true:=hz.resolve_right (by omega);refine h.disj hi hj (by omega) (fun hb=>by have:=h.lt j i hb;omega) (fun hb=>?_) (h.rdw j hj r hw)
     have:=hX.closed i hXi j hb
     rw [hX.out] at this;cases this
   . rw [xoz hw];refine y06 recs σ0 hr N (fun i _ hwi=>?_)
     have:i≠j:=fun e=>hw (e▸hwi)
     simp [this]
theorem Next.grow (hX:Next bef X j):∀ k,(X k||k==j)=true->∀ i∈bef k,(X i||i==j)=true:=fun k hk i hi=>by
 simp only [Bool.or_eq_true,beq_iff_eq] at hk ⊢
 rcases hk with hk | rfl
 . exact .inl (hX.closed k hk i hi)
 . exact .inl (hX.all i hi)
end any
theorem y1e (l:List Oper):∀(acc:List (List Nat)) (j:Nat),(∀ i∈(befs l acc).getD j [],j<acc.length->i∈acc.getD j [])/\(j<acc.length->(befs l acc).getD j []=acc.getD j []):=by
 induction l with
 | nil=>intro acc j;exact ⟨fun i hi _=>hi,fun _=>rfl⟩
 | cons o l ih=>
  intro acc j
  have hkeep:j<acc.length->(befs (o::l) acc).getD j []=acc.getD j []:=fun hj=>by
   simp only [befs];rw [(ih _ j).2 (by simp;omega)];simp [List.getD,List.getElem?_append_left hj]
  exact ⟨fun i hi hj=>by rw [<-hkeep hj];exact hi,hkeep⟩
theorem wgx (l:List Oper):∀ acc,(befs l acc).length=acc.length+l.length:=by
 induction l with
 | nil=>intro acc;simp [befs]
 | cons o l ih=>intro acc;simp only [befs];rw [ih];simp;omega
theorem w9h (l:List Oper):∀(acc:List (List Nat)) (j:Nat) (o:Oper),l[j]? = some o->
 ∀ i,i∈(befs l acc).getD (acc.length+j) []↔i∈direct o\/∃ d∈direct o,d<acc.length+j/\i∈(befs l acc).getD d []:=by
 induction l with
 | nil=>intro acc j o h;simp at h
 | cons o' l ih=>
  intro acc j o h i
  cases j with
  | zero=>
   simp at h;subst h
   have hb:(befs (o'::l) acc).getD acc.length []=(direct o'++(direct o').flatMap fun d=>acc.getD d []).eraseDups:=by
    simp only [befs];rw [(y1e l _ acc.length).2 (by simp)];simp [List.getD]
   rw [Nat.add_zero,hb];simp only [List.mem_eraseDups,List.mem_append,List.mem_flatMap];constructor
   . rintro (h | ⟨d,hd,hi⟩)
     . exact .inl h
     . refine .inr ⟨d,hd,?_⟩;by_cases hdl:d<acc.length
       . refine ⟨hdl,?_⟩;rw [show (befs (o'::l) acc).getD d []=acc.getD d [] from (y1e (o'::l) acc d).2 hdl];exact hi
       . simp [List.getD,List.getElem?_eq_none (show acc.length<=d by omega)] at hi
   . rintro (h | ⟨d,hd,hdl,hi⟩)
     . exact .inl h
     . refine .inr ⟨d,hd,?_⟩;rw [show (befs (o'::l) acc).getD d []=acc.getD d [] from (y1e (o'::l) acc d).2 hdl] at hi;exact hi
  | succ j=>
   have:=ih (acc++[(direct o'++(direct o').flatMap fun d=>acc.getD d []).eraseDups]) j o (by simpa using h) i
   simp only [List.length_append,List.length_cons,List.length_nil,Nat.zero_add] at this;simp only [befs];rw [show acc.length+(j+1)=acc.length+1+j by omega];exact this
theorem yxv:∀(l:List Oper) (k:Nat),wl7 k l=true->∀(j:Nat) (o:Oper),l[j]? = some o->∀ d∈direct o,d<k+j
 | [],k,_,j,o,h=>by simp at h
 | o'::l,k,h,j,o,ho=>by
  simp only [wl7,Bool.and_eq_true] at h
  cases j with
  | zero=>
   simp at ho;subst ho;intro d hd
   have:=(List.all_eq_true.1 h.1) d hd
   simpa using this
  | succ j=>
   intro d hd
   have:=yxv l (k+1) h.2 j o (by simpa using ho) d hd
   omega
theorem vpu : ∀ (recs : List SR) (I : List AV) (k : Nat) (s : SR), recs[k]? = some s → (xk3 recs I)[k]? = some (s, st recs I (fun _ => true) k) := by
 have gen:∀(recs pre:List SR) (σ0:List AV) (k:Nat) (s:SR),recs[k]? = some s->(xk3 recs (st (pre++recs) σ0 (fun _=>true) pre.length))[k]? = some (s,st (pre++recs) σ0 (fun _=>true) (pre.length+k)):=by
  intro recs
  induction recs with
  | nil=>intro pre σ0 k s h;simp at h
  | cons r recs ih=>
   intro pre σ0 k s h
   cases k with
   | zero=>simp at h;subst h;rfl
   | succ k=>
    have h':recs[k]? = some s:=by simpa using h
    have:=ih (pre++[r]) σ0 k s h'
    simp only [List.append_assoc,List.cons_append,List.nil_append,List.length_append,List.length_cons,List.length_nil,Nat.zero_add] at this
    have hst:st (pre++r::recs) σ0 (fun _=>true) (pre.length+1)=app r.eff (st (pre++r::recs) σ0 (fun _=>true) pre.length):=by
     show (if true then _ else _)=_;simp [List.getD]
    rw [hst] at this;simp only [xk3,List.getElem?_cons_succ];rw [this,show pre.length+1+k=pre.length+(k+1) by omega]
 intro recs I k s h
 have:=gen recs [] I k s h
 simpa [st] using this
theorem x93 (bs:List (List Nat)):∀(l before:List (SR×List AV)) (j0:Nat),w5h bs j0 before l=true->j0=before.length->
 ∀(i j:Nat) (x y:SR×List AV),i<j->j0<=j->(before++l)[i]? = some x->(before++l)[j]? = some y->i∈bs.getD j []\/vr5 x.1 y.1 x.2 y.2=true:=by
 intro l
 induction l with
 | nil=>
  intro before j0 _ hj0 i j x y hij hj hx hy
  have:=(List.getElem?_eq_some_iff.1 hy).1
  simp at this;omega
 | cons z l ih=>
  intro before j0 h hj0 i j x y hij hj hx hy;simp only [w5h,Bool.and_eq_true] at h;by_cases e:j=j0
  . subst e;subst hj0;rw [List.getElem?_append_right (Nat.le_refl _)] at hy;simp at hy;subst hy;rw [List.getElem?_append_left hij] at hx
    have hm:(x,i)∈before.zipIdx:=by
     rw [List.mem_zipIdx_iff_getElem?];simpa using hx
    have:=(List.all_eq_true.1 h.1) (x,i) hm
    simp only [Bool.or_eq_true,List.contains_iff_mem] at this;simpa using this
  . refine ih (before++[z]) (j0+1) h.2 (by simp [hj0]) i j x y hij (by omega) ?_ ?_
    . simpa using hx
    . simpa using hy
theorem xyh {recs:List SR} {σ0:List AV} (hlen:recs.length=l.length) (h:indep l recs σ0=true):zve recs σ0 l.length (fun j=>(befs l []).getD j []):=by
 simp only [indep,Bool.and_eq_true] at h;obtain ⟨⟨h1,h2⟩,h3⟩:=h
 have hget:∀ j,j<recs.length->recs[j]? = some (recs.getD j (⟨[],[],[]⟩:SR)):=fun j hj=>by simp [List.getD,List.getElem?_eq_getElem hj]
 refine ⟨?_,fun j hj x hx=>?_,fun i j hij hj hb=>?_⟩
 . intro j
   induction j using Nat.strongRecOn with
   | _ j ih =>
    intro i hi;by_cases hj:j<l.length
    . have hs:=(w9h l [] j l[j] (List.getElem?_eq_getElem hj) i).1 (by simpa using hi);have he:=yxv l 0 h1 j l[j] (List.getElem?_eq_getElem hj)
      rcases hs with hd | ⟨d,hd,hdl,hi'⟩
      . have:=he i hd;omega
      . have h4:=he d hd;have h5:=ih d (by omega) i hi';omega
    . simp [List.getD,List.getElem?_eq_none (show (befs l []).length<=j by rw [wgx];simp;omega)] at hi
 . have hm:recs.getD j (⟨[],[],[]⟩:SR)∈recs:=List.mem_of_getElem? (hget j (by omega))
   have:=(List.all_eq_true.1 ((List.all_eq_true.1 h2) _ hm)) x hx
   simpa using this
 . have hi':=vpu recs σ0 i _ (hget i (by omega));have hj':=vpu recs σ0 j _ (hget j (by omega));exact (x93 (befs l []) (xk3 recs σ0) [] 0 h3 rfl i j _ _ hij (Nat.zero_le _) (by simpa using hi') (by simpa using hj')).resolve_left hb
theorem RunD.chain {σ0:List AV}:∀(r pre:List Oper) (acc:List SR) (I:List AV),RunD P ops l σ0 r acc I K->pre++r=l->acc.length=pre.length->
 I=st acc σ0 (fun _=>true) acc.length->(∀(j:Nat) (o:Oper) (s:SR),pre[j]? = some o->acc[j]? = some s->GStep P ops o (st acc σ0 (fun _=>true) j) s.rd s.tk s.eff)->
 ∃ recs:List SR,recs.length=l.length/\indep l recs σ0=true/\K (st recs σ0 (fun _=>true) recs.length)/\∀(j:Nat) (o:Oper) (s:SR),l[j]? = some o->recs[j]? = some s->GStep P ops o (st recs σ0 (fun _=>true) j) s.rd s.tk s.eff:=by
 intro r
 induction r with
 | nil=>
  intro pre acc I h hl hlen hσ hsteps;simp only [List.append_nil] at hl;subst hl;exact ⟨acc,hlen,h.1,by rw [<-hσ];exact h.2,hsteps⟩
 | cons o r ih=>
  intro pre acc I h hl hlen hσ hsteps;obtain ⟨rd,tk,eff,hg,hr⟩:=h
  have hpre:∀ n,n<=acc.length->st (acc++[(⟨rd,tk,eff⟩:SR)]) σ0 (fun _=>true) n=st acc σ0 (fun _=>true) n:=by
   intro n
   induction n with
   | zero=>intro _;rfl
   | succ n ihn=>
    intro hn;show (if true then app ((acc++[(⟨rd,tk,eff⟩:SR)]).getD n (⟨[],[],[]⟩:SR)).eff _ else _)=(if true then app (acc.getD n (⟨[],[],[]⟩:SR)).eff _ else _);rw [ihn (by omega)];simp [List.getD,List.getElem?_append_left (show n<acc.length by omega)]
  refine ih (pre++[o]) (acc++[⟨rd,tk,eff⟩]) (app eff I) hr (by rw [<-hl];simp) (by simp [hlen]) ?_ ?_
  . simp only [List.length_append,List.length_cons,List.length_nil];show _=(if true then app ((acc++[(⟨rd,tk,eff⟩:SR)]).getD acc.length (⟨[],[],[]⟩:SR)).eff (st _ σ0 _ acc.length) else _);rw [hpre acc.length (Nat.le_refl _),hσ];simp [List.getD]
  . intro j o' s ho hs;by_cases e:j<pre.length
    . rw [List.getElem?_append_left e] at ho;rw [List.getElem?_append_left (by omega)] at hs;rw [hpre j (by omega)];exact hsteps j o' s ho hs
    . have hj:j=pre.length:=by
       have:=(List.getElem?_eq_some_iff.1 ho).1
       simp at this;omega
      subst hj;simp at ho;subst ho;rw [<-hlen] at hs ⊢;simp at hs;subst hs;rw [hpre _ (Nat.le_refl _),<-hσ];exact hg
theorem vn9 {recs:List SR} {σ0:List AV} (hind:zve recs σ0 ops.size (fun j=>(befs ops.toList []).getD j [])) (hlen:recs.length=ops.size) (hedge:wl7 0 ops.toList=true)
 (hsteps:∀(j:Nat) (o:Oper) (s:SR),ops.toList[j]? = some o->recs[j]? = some s->GStep P ops o (st recs σ0 (fun _=>true) j) s.rd s.tk s.eff)
 (hQ:∀ a w,Rel E (st recs σ0 (fun _=>true) ops.size) a w->Q .normal a w):∀(fuel:Nat) (listed:Array Bool) (a:Act) (w:World),listed.size=ops.size->
   (listed.toList.filter (! ·)).length<=fuel->(∀ k,listed.getD k false=true->∀ i∈(befs ops.toList []).getD k [],listed.getD i false=true)->
   Rel E (st recs σ0 (fun i=>listed.getD i false) ops.size) a w->wpAny P .any ops Q fuel listed a w:=by
 have done:∀(listed:Array Bool),listed.size=ops.size->Region.ready .any ops listed=[]->∀ i,i<ops.size->listed.getD i false=true:=by
  intro listed hsz hr i
  induction i using Nat.strongRecOn with
  | _ i ih =>
   intro hi
   cases hx:listed.getD i false with
   | true=>rfl
   | false=>
    exfalso
    have hmem:i∈Region.ready .any ops listed:=by
     rw [mem_ready];refine ⟨?_,ops[i],by simp [hi],fun e he hb=>?_⟩
     . simp only [Array.getD_eq_getD_getElem?,Array.getElem?_eq_getElem (show i<listed.size by omega),Option.getD_some] at hx ⊢;exact hx
     . have hd:e.on∈direct ops[i]:=List.mem_map.2 ⟨e,by simp [List.mem_filter,hb];exact he,rfl⟩
       have:=yxv ops.toList 0 hedge i ops[i] (by simp [hi]) e.on hd
       exact ih e.on (by omega) (by omega)
    rw [hr] at hmem
    cases hmem
 intro fuel
 induction fuel with
 | zero=>
  intro listed a w hsz hf hcl hR
  have hall:∀ i,i<ops.size->listed.getD i false=true:=fun i hi=>by
   have hnil:listed.toList.filter (! ·)=[]:=List.eq_nil_of_length_eq_zero (by omega);rw [List.filter_eq_nil_iff] at hnil
   have:=hnil listed[i] (by simp)
   simp only [Bool.not_eq_true',Bool.not_eq_false] at this;simp [show i<listed.size by omega,this]
  have hready:Region.ready .any ops listed=[]:=by
   cases hr:Region.ready .any ops listed with
   | nil=>rfl
   | cons j _=>
    exfalso
    have hj:j∈Region.ready .any ops listed:=by rw [hr];simp
    obtain ⟨h1,o,ho,_⟩:=mem_ready.1 hj;have hjl:j<ops.size:=(Array.getElem?_eq_some_iff.1 ho).1
    have:=hall j hjl
    simp only [Array.getD_eq_getD_getElem?,Array.getElem?_eq_getElem (show j<listed.size by omega),Option.getD_some] at this h1;rw [this] at h1;cases h1
  refine ⟨hready,hQ a w ?_⟩;rw [<-yqx recs σ0 ops.size (fun i hi=>hall i hi)];exact hR
 | succ fuel ih=>
  intro listed a w hsz hf hcl hR;refine ⟨fun hready=>hQ a w ?_,fun j hj=>?_⟩
  . rw [<-yqx recs σ0 ops.size (fun i hi=>done listed hsz hready i hi)];exact hR
  . obtain ⟨h1,o,ho,hall⟩:=mem_ready.1 hj;have hjl:j<ops.size:=(Array.getElem?_eq_some_iff.1 ho).1
    have hout:listed.getD j false=false:=by
     simp only [Array.getD_eq_getD_getElem?,Array.getElem?_eq_getElem (show j<listed.size by omega),Option.getD_some] at h1 ⊢;exact h1
    have hdir:∀ d∈direct o,listed.getD d false=true:=fun d hd=>by
     obtain ⟨e,he,rfl⟩:=List.mem_map.1 hd;rw [List.mem_filter] at he;exact hall e (by simpa using he.1) he.2
    have hnext:Next (fun j=>(befs ops.toList []).getD j []) (fun i=>listed.getD i false) j:=by
     refine ⟨hcl,hout,fun i hi=>?_⟩;have hs:=(w9h ops.toList [] j o (by simpa using ho) i).1 (by simpa using hi)
     rcases hs with hd | ⟨d,hd,_,hi'⟩
     . exact hdir i hd
     . exact hcl d (hdir d hd) i hi'
    have hs:recs[j]? = some (recs.getD j (⟨[],[],[]⟩:SR)):=by simp [List.getD,List.getElem?_eq_getElem (show j<recs.length by omega)]
    have hg:=hsteps j o _ (by simpa using ho) hs;have hag:=hnext.x2j hind hjl;have hstep:=hg.2 E _ a w hag (fun t ht i hi=>hg.1 t ht i (hnext.tok hind hjl ht hi)) hR (wpAny P .any ops Q fuel (listed.setIfInBounds j true)) Q ?_
    . unfold wpOp;rw [ho];dsimp only
      split
      . rename_i hw;rw [if_pos hw] at hstep;exact .inl hstep
      . rename_i hw;rw [if_neg hw] at hstep;exact hstep
    . intro a' w' hR';rw [hnext.step hind hjl] at hR'
      have hX:∀ i,(listed.setIfInBounds j true).getD i false=(listed.getD i false||i==j):=fun i=>by
       by_cases e:i=j
       . subst e;simp [show i<listed.size by omega]
       . simp only [Array.getD_eq_getD_getElem?,Array.getElem?_setIfInBounds_ne (Ne.symm e)];simp [e]
      refine ih _ a' w' (by simpa using hsz) ?_ ?_ ?_
      . have hcount:∀(l:List Bool) (j:Nat),l[j]? = some false->((l.set j true).filter (! ·)).length+1=(l.filter (! ·)).length:=by
         intro l
         induction l with
         | nil=>intro j h;simp at h
         | cons b l ihl=>
          intro j h
          cases j with
          | zero=>simp at h;subst h;simp
          | succ j=>
           have:=ihl j (by simpa using h)
           cases b<;>simp<;>omega
        have hjb:listed.toList[j]? = some false:=by
         simp only [Array.getD_eq_getD_getElem?,Array.getElem?_eq_getElem (show j<listed.size by omega),Option.getD_some] at hout;simp [Array.getElem?_eq_getElem (show j<listed.size by omega),hout]
        have:=hcount listed.toList j hjb
        simp only [Array.toList_setIfInBounds];omega
      . intro k hk i hi;rw [hX] at hk ⊢;exact hnext.grow k hk i hi
      . rw [yqx recs σ0 ops.size (fun i _=>hX i)];exact hR'
theorem xzd {id:Nat} (hm:P.follows .mixedOrders=true) (hQ:∀ I a w,K I->Rel E I a w->Q .normal a w)
 (h:RunD P ops ops.toList I ops.toList [] I K) (hR:Rel E I a w):(Code.region id ops true).wp P Q a w:=by
 obtain ⟨recs,hlen,hind,hK,hsteps⟩:=RunD.chain ops.toList [] [] I h rfl rfl rfl (fun j o s ho=>by simp at ho)
 have hedge:wl7 0 ops.toList=true:=by
  simp only [indep,Bool.and_eq_true] at hind;exact hind.1.1
 have hI:=xyh hlen hind;simp only [Array.length_toList] at hlen hI;refine wp_region_any hm (vn9 hI hlen hedge hsteps (fun a w hR=>hQ _ a w (by rw [hlen] at hK;exact hK) hR) ops.size _ a _ (by simp) (by simp) ?_ ?_)
 . intro k hk;exfalso;rw [Array.getD_eq_getD_getElem?] at hk;by_cases hk':k<ops.size
   . simp [hk'] at hk
   . rw [Array.getElem?_eq_none (by simp;omega)] at hk
     cases hk
 . have hb:Below w.heap.size w { w with drawn:=w.drawn+1 }:=(Below.refl _ w).drew
   have h0:st recs I (fun i=>(Array.replicate ops.size false).getD i false) ops.size=I:=by
    have:st recs I (fun i=>(Array.replicate ops.size false).getD i false) ops.size=st recs I (fun _=>false) ops.size:=yqx recs I ops.size (fun i hi=>by simp [hi])
    rw [this]
    have:∀ n,st recs I (fun _=>false) n=I:=fun n=>by
     induction n with
     | zero=>rfl
     | succ n ih=>show (if false then _ else _)=_;exact ih
    exact this _
   rw [h0];exact hR.below hb
end Go.Slot
namespace Go.Slot
open Go Go.RowKit
variable {P:Program}
variable {c x y:Code} {Q:Exit->List AV->Prop} {I I':List AV} {id:Nat} {ops:Array Oper} {M:Nat->Nat->Prop} {E:Env} {τ:Nat->TV} {a:Act} {w:World} {fn:Func} {res:AV}
def lift (E:Env) (Q:Exit->List AV->Prop) (e:Exit) (a:Act) (w:World):Prop:=∃ I,Q e I/\Rel E I a w
def zus (P:Program) (c:Code) (Q:Exit->List AV->Prop) (I:List AV):Prop:=∀(E:Env) (a:Act) (w:World),Rel E I a w->c.wp P (lift E Q) a w
def zb2 (next:List AV->Prop) (Q:Exit->List AV->Prop):Exit->List AV->Prop
 | .normal,I=>next I
 | e,I=>Q e I
def zeh (id:Nat) (Q:Exit->List AV->Prop):Exit->List AV->Prop
 | .exit id',I=>if id'=id then Q .normal I else Q (.exit id') I
 | e,I=>Q e I
theorem zus.mono {Q':Exit->List AV->Prop} (h:zus P c Q I) (hq:∀ e I,Q e I->Q' e I):zus P c Q' I:=fun E a w hR=>
 wp_mono (h E a w hR) (fun e _a _w ⟨I,h1,h2⟩=>⟨I,hq e I h1,h2⟩)
theorem wv2 (h:Q .normal I):zus P .skip Q I:=fun _ _ _ hR=>wp_skip ⟨I,h,hR⟩
theorem xpa (h:Q (.exit id) I):zus P (.exit id) Q I:=fun _ _ _ hR=>wp_exit ⟨I,h,hR⟩
theorem x3t (h:Q .ret I):zus P .ret Q I:=fun _ _ _ hR=>wp_ret ⟨I,h,hR⟩
theorem wga (h:zus P x (zb2 (fun I=>zus P y Q I) Q) I):zus P (.seq x y) Q I:=fun E a w hR=>
 wp_seq (wp_mono (h E a w hR) (fun e a w ⟨I,h1,h2⟩=>by
  cases e<;>first | exact h1 E a w h2 | exact ⟨I,h1,h2⟩))
theorem yb7 (h:zus P c (zeh id Q) I):zus P (.block id c) Q I:=fun E a w hR=>
 wp_block (wp_mono (h E a w hR) (fun e a w ⟨I,h1,h2⟩=>by
  cases e with
  | exit id'=>
   simp only [Exit.inBlock];simp only [zeh] at h1;split at h1
   . rename_i hi;rw [if_pos hi];exact ⟨I,h1,h2⟩
   . rename_i hi;rw [if_neg hi];exact ⟨I,h1,h2⟩
  | _=>exact ⟨I,h1,h2⟩))
theorem wjz {c:Operand} {b:Bool} (hc:opd I c=.one (.raw (.bool b))) (ht:b=true->zus P x Q I) (hf:b=false->zus P y Q I):zus P (.cond c x y) Q I:=fun E a w hR=>by
 obtain ⟨τ,M,hI⟩:=hR;have hs:=hI.opd c;rw [hc] at hs;have e:a.eval c=.bool b:=RdC.x18 hs;exact wp_cond_split e (fun h=>ht h E a w ⟨τ,M,hI⟩) (fun h=>hf h E a w ⟨τ,M,hI⟩)
theorem z1s (h:Run P ops ops.toList I (Q .normal)):zus P (.region id ops false) Q I:=fun _E a w hR=>
 wp_region_list (Run.wpList (fun I _a _w h1 h2=>⟨I,h1,h2⟩) _ I a w h hR)
theorem wm5 (hm:P.follows .mixedOrders=true) (h:RunD P ops ops.toList I ops.toList [] I (Q .normal)):zus P (.region id ops true) Q I:=fun _E _a _w hR=>
 xzd hm (fun I _a _w h1 h2=>⟨I,h1,h2⟩) h hR
def StLe (I I':List AV):Prop:=∀(E:Env) (a:Act) (w:World),Rel E I a w->Rel E I' a w
theorem StLe.refl (I:List AV):StLe I I:=fun _ _ _ h=>h
theorem StLe.trans {I'':List AV} (h:StLe I I') (h':StLe I' I''):StLe I I'':=fun E a w hR=>h' E a w (h E a w hR)
theorem zus.le (h:StLe I I') (hc:zus P c Q I'):zus P c Q I:=fun E a w hR=>hc E a w (h E a w hR)
def zb3 (P:Program) (I:List AV):ResultVar->Option AV
 | .tmp t=>match gt I t with
  | .one c=>some (.one c.bare)
  | .agg cs=>some (.agg (vc2 cs))
  | .elt cs=>some (.elt cs)
  | .box cs=>some (.elt (vc2 cs))
  | .ptr s off=>match gt I s with
   | .box cs=>some (.elt (vc2 (cs.drop off)))
   | _=>none
  | .arr _ c none=>some (.one c)
  | .asl s=>match gt I s with
   | .arr _ c none=>some (.one c)
   | _=>none
  | .awn s m lo n=>match gt I s with
   | .arr _ c none=>if lo+n<=c.cnt/\m=c.esz then some (.one (c.sub lo n)) else none
   | _=>none
  | _=>none
 | .cell a t=>match mkTI P t with
  | some ti=>match gt I a with
   | .box cs=>match v72 ti cs with
    | some (.one c)=>some (.one c.bare)
    | some (.agg cs)=>some (.agg (vc2 cs))
    | _=>none
   | _=>none
  | none=>none
def x3g (P:Program) (I:List AV):List ResultVar->Option (List AV)
 | []=>some []
 | r::rs=>match zb3 P I r,x3g P I rs with
  | some x,some l=>some (x::l)
  | _,_=>none
def x8a (I:List AV):List ResultVar->Option Cell
 | [.tmp t]=>match gt I t with
  | .arr [] c none=>some c
  | .asl s=>match gt I s with
   | .arr [] c none=>some c
   | _=>none
  | .awn s m lo n=>match gt I s with
   | .arr [] c none=>if lo=0/\n<=c.cnt/\m=c.esz then some (c.sub 0 n) else none
   | _=>none
  | .one (.tok _ (.ints k l))=>if 0<l.length then some (.ints k l) else none
  | _=>none
 | _=>none
def yhv (P:Program) (I:List AV) (rs:List ResultVar):Option AV:=
 match x8a I rs with
 | some c=>some (.arr [] c none)
 | none=>match x3g P I rs with
  | some [x]=>some x
  | some l=>some (.tup l)
  | none=>none
inductive RLe:AV->AV->Prop
 | own {c:Cell}:RLe (.arr [] c none) (.one c)
 | one {x y:AV} (h:AV.Le x y):RLe x y
 | tup {l l':List AV} (h:LeS l l'):RLe (.tup l) (.tup l')
theorem RdB.le {M:Nat->Nat->Prop} {w:World} {v:Value} {x y:AV} (h:AV.Le x y) (hr:RdB M w v x):RdB M w v y:=by
 cases h with
 | refl=>exact hr
 | any=>exact trivial
 | one h=>exact RdC.le h hr
 | agg h =>
  obtain ⟨vs,rfl,hr⟩:=hr;refine ⟨vs,rfl,?_⟩
  have:∀{vs:List Value} {cs cs':List Cell},LeL cs cs'->RdD M w vs cs->RdD M w vs cs':=by
   intro vs
   induction vs with
   | nil=>intro cs cs' h hr;cases h with
    | nil=>trivial
    | cons _ _=>exact hr.elim
   | cons v vs ih=>intro cs cs' h hr;cases h with
    | nil=>exact hr.elim
    | cons h t=>exact ⟨hr.1.le h,ih t hr.2⟩
  exact this h hr
 | box h=>exact hr.elim
 | obx h=>exact hr.elim
theorem RdBL.le {M:Nat->Nat->Prop} {w:World}:∀{vs:List Value} {l l':List AV},LeS l l'->RdBL M w vs l->RdBL M w vs l'
 | [],_,_,.nil,_=>trivial
 | _::_,_,_,.cons h t,hr=>⟨hr.1.le h,RdBL.le t hr.2⟩
 | [],_,_,.cons _ _,hr=>hr.elim
 | _::_,_,_,.nil,hr=>hr.elim
theorem RLe.xeo {x y:AV} (h:RLe x y) (hy:y.xeo=true):x.xeo=true:=by
 cases h with
 | own=>cases hy
 | one h=>exact h.xeo hy
 | tup h=>cases hy
theorem RdR.le {M:Nat->Nat->Prop} {w:World} {v:Value} {x y:AV} (h:RLe x y) (hr:RdR M w v x):RdR M w v y:=by
 cases h with
 | own=>exact hr.2.2.read
 | tup h=>obtain ⟨vs,rfl,hr⟩:=hr;exact ⟨vs,rfl,hr.le h⟩
 | one h=>
  cases h with
  | refl=>exact hr
  | any=>exact trivial
  | one h=>exact RdB.le (.one h) hr
  | agg h=>exact RdB.le (.agg h) hr
  | box h=>exact hr.elim
  | obx h=>exact hr.elim
def retA (P:Program) (rs:List ResultVar) (res:AV):Exit->List AV->Prop
 | .ret,I | .normal,I=>∃ av,yhv P I rs=some av/\RLe av res
 | _,_=>False
def wyt (tm:Array Value):ResultVar->Sem Value
 | .tmp t=>pure (tm.getD t Go.undef)
 | .cell a t=>do loadVar t (<-asAddr (tm.getD a Go.undef))
theorem wf2.shrink {M':Nat->Nat->Prop} (w:World) (h:∀ b o,M' b o->M b o):wf2 M M' w w:=fun b o _u hm hc=>⟨fun h'=>hm (h b o h'),hc⟩
theorem Cell.x3n {c:Cell} (hu:c.uni) {n:Nat} (hn:n<=c.cnt):(c.sub 0 n).uni/\(c.sub 0 n).cnt=n/\(c.sub 0 n).esz=c.esz/\(c.sub 0 n).flat=c.flat.take (n*c.esz):=by
 cases c with
 | ints k l=>
  simp only [Cell.cnt] at hn;refine ⟨trivial,by simp [Cell.sub,Cell.cnt];omega,rfl,?_⟩;simp [Cell.sub,Cell.flat,Cell.esz,List.map_take]
 | sl m rows=>
  simp only [Cell.cnt] at hn;have hu:∀ r∈rows,r.length=m:=hu;refine ⟨fun r hr=>hu r (List.mem_of_mem_take (by simpa [Cell.sub] using hr)),by simp [Cell.sub,Cell.cnt];omega,rfl,?_⟩;simp only [Cell.sub,Cell.flat,Cell.esz,List.drop_zero];rw [ybp rows n hu]
 | _=>exact hu.elim
theorem frE (hI:RelI E τ M I a w) {s:Nat} {hv:AV} (hs:I[s]? = some hv) (hf:hv.fresh=true) :
 E.N<=blk (a.tmps.getD s Go.undef)/\∀ o,¬E.M (blk (a.tmps.getD s Go.undef)) o:=by
 have hh:hv.xeo=true:=by cases hv<;>first | rfl | cases hf
 have:=(hI.hold s hv hs hh).2.2.1 hf
 exact ⟨this,fun o hm=>by have:=E.hM _ _ hm;unfold Env.N at *;omega⟩
theorem arrE (hI:RelI E τ M I a w) {s:Nat} {pre:List Value} {c:Cell} (hg:gt I s=.arr pre c none) :
 ∃ b cap,a.tmps.getD s Go.undef=.slice (some ⟨b,pre.length,none⟩) c.cnt cap/\c.uni/\RdC E.M w (.slice (some ⟨b,pre.length,none⟩) c.cnt cap) c:=by
 have hgs:=y94 hg (by simp);have hss:=hI.gt s;rw [hg] at hss;obtain ⟨b,T,vs,q,cap,e1,hb,hr,_,hu,hcap,_⟩:=hss;have hfr:=frE hI hgs rfl;rw [e1] at hfr;exact ⟨b,cap,e1,hu,viy hb (hr.keep (wf2.shrink w hI.m0)) hu hcap hfr.2⟩
theorem boxE (hI:RelI E τ M I a w) {s:Nat} {cs:List Cell} (hg:gt I s=.box cs) (off:Nat) :
 ∃ b,a.tmps.getD s Go.undef=.pointer (some ⟨b,0,none⟩)/\RdB E.M w (.pointer (some ⟨b,off,none⟩)) (.elt (vc2 (cs.drop off))):=by
 have hgs:=y94 hg (by simp);have hss:=hI.gt s;rw [hg] at hss;obtain ⟨b,vs,T,e1,hb,hr⟩:=hss;have hfr:=frE hI hgs rfl;rw [e1] at hfr;refine ⟨b,e1,b,off,vs.drop off,rfl,fun j u hj=>⟨hfr.2 _,xk2 hb off j u hj⟩,?_⟩;rw [yot];exact ((hr.bare.keep (wf2.shrink w hI.m0)).drop off)
theorem zm6 (hI:RelI E τ M I a w) {r:ResultVar} {x:AV} (h:zb3 P I r=some x) :
 ∃ v,(wyt a.tmps r).run P w=.ok v w/\RdB E.M w v x:=by
 have hsh:∀{v:Value} {y:AV},RdB M w v y->RdB E.M w v y:=fun hr=>hr.keep (wf2.shrink w hI.m0)
 cases r with
 | tmp t=>
  have hs:=hI.gt t;refine ⟨a.tmps.getD t Go.undef,rfl,?_⟩;simp only [zb3] at h;split at h
  . rename_i c hc;rw [hc] at hs;cases h;exact hsh (RdT.bare hs)
  . rename_i cs hc;rw [hc] at hs;cases h;obtain ⟨vs,e,hr⟩:=hs;exact hsh ⟨vs,e,hr.bare⟩
  . rename_i cs hc;rw [hc] at hs;cases h;exact hsh hs
  . rename_i cs hc
    cases h;obtain ⟨b,e1,hr⟩:=boxE hI hc 0;rw [e1];exact hr
  . rename_i s off hc;split at h
    . rename_i cs hg
      cases h;obtain ⟨b,e1,hr⟩:=boxE hI hg off;rw [hc] at hs;have hs:a.tmps.getD t Go.undef=.pointer (some ⟨blk (a.tmps.getD s Go.undef),off,none⟩):=hs;rw [hs,e1];exact hr
    . cases h
  . rename_i pre c hc
    cases h;obtain ⟨b,cap,e1,_,hr⟩:=arrE hI hc;rw [e1];exact hr
  . rename_i s hc;split at h
    . rename_i pre c hg
      cases h;obtain ⟨b,cap,e1,_,hr⟩:=arrE hI hg;rw [hc] at hs;have hs:a.tmps.getD t Go.undef=a.tmps.getD s Go.undef:=hs;rw [hs,e1];exact hr
    . cases h
  . rename_i s m lo n hc;split at h
    . rename_i pre c hg;split at h
      . rename_i hfit;obtain ⟨hfit,rfl⟩:=hfit
        cases h;obtain ⟨b,cap,e1,hu,hr⟩:=arrE hI hg;rw [hc] at hs;obtain ⟨ad,cap',e2,had,hn,_⟩:=hs;rw [e1] at had;rw [e2];exact hr.sub hu hfit (fun hne=>had (.inl hne)) hn
      . cases h
    . cases h
  . cases h
 | cell b t=>
  simp only [zb3] at h;split at h
  . rename_i ti hti;split at h
    . rename_i cs hg;have hs:=hI.gt b;rw [hg] at hs;obtain ⟨bl,vs,T,e,hb,hr⟩:=hs
      have key:∀ av,v72 ti cs=some av->∃ v,(loadVar t ⟨bl,0,none⟩).run P w=.ok v w/\RdA M w τ v av:=fun av hl=>
       xij (wgk hti) (b:=bl) (off:=0) (vs:=vs) (fun j u hj=>by simpa using xk2 hb 0 j u (by simpa using hj)) hr hl
      split at h
      . rename_i c hl
        cases h;obtain ⟨v,hrun,hrd⟩:=key _ hl;exact ⟨v,by simp [wyt,e,asAddr,hrun],hsh (RdT.bare hrd)⟩
      . rename_i cs' hl
        cases h;obtain ⟨v,hrun,hrd⟩:=key _ hl;obtain ⟨us,e2,hr2⟩:=hrd;exact ⟨v,by simp [wyt,e,asAddr,hrun],hsh ⟨us,e2,hr2.bare⟩⟩
      . cases h
    . cases h
  . cases h
theorem wvn {M:Nat->Nat->Prop} {w:World} (k:IntKind):∀ l:List Int,RdD M w (l.map (Value.int k)) (l.map fun n=>.raw (.int k n))
 | []=>trivial
 | _::l=>⟨.raw rfl,wvn k l⟩
theorem x25 (hI:RelI E τ M I a w) {rs:List ResultVar} {c:Cell} (h:x8a I rs=some c) :
 ∃ t,rs=[.tmp t]/\OwnR E.M w (a.tmps.getD t Go.undef) c/\E.N<=blk (a.tmps.getD t Go.undef):=by
 have main:∀(s:Nat) (c0:Cell) (v:Value) (n:Nat),gt I s=.arr [] c0 none->n<=c0.cnt->(∃ b capS cap,a.tmps.getD s Go.undef=.slice (some ⟨b,0,none⟩) c0.cnt capS/\v=.slice (some ⟨b,0,none⟩) n cap/\n<=cap/\cap<=capS)->
  OwnR E.M w v (c0.sub 0 n)/\E.N<=blk v:=fun s c0 v n hg hn ⟨b,capS,cap,e1,e2,h1,h2⟩=>by
  have hgs:=y94 hg (by simp);have hss:=hI.gt s;rw [hg] at hss;obtain ⟨b',T,vs,q,cap0,e3,hb,hr,_,hu,hcap,hcap'⟩:=hss;rw [e1] at e3;simp only [List.length_nil,Value.slice.injEq,Option.some.injEq,Addr.mk.injEq,and_true,true_and] at e3;obtain ⟨rfl,rfl⟩:=e3;have hfr:=frE hI hgs rfl;have hM:=(hI.hold s _ hgs rfl).1;rw [e1] at hfr hM;obtain ⟨su,scnt,sesz,sflat⟩:=Cell.x3n hu hn;have hvl:=hr.length;have hfl:=Cell.wg8 hu;refine ⟨⟨b,T,vs.take (n*c0.esz),vs.drop (n*c0.esz)++q,cap,by rw [scnt];exact e2,by rw [hb,<-List.append_assoc (List.take _ vs),List.take_append_drop];rfl,?_,su,by rw [scnt];exact h1,?_,hfr.2⟩,by rw [e2];exact hfr.1⟩
  . rw [sflat];exact (hr.take _).keep (wf2.shrink w (fun b' o=>by rintro (h | rfl);exact hI.m0 b' o h;exact hM o))
  . rw [sesz];simp only [List.length_take,List.length_append,List.length_drop]
    have:cap*c0.esz<=capS*c0.esz:=Nat.mul_le_mul_right _ h2
    have:n*c0.esz<=c0.cnt*c0.esz:=Nat.mul_le_mul_right _ hn
    omega
 have whole:∀(s:Nat) (c0:Cell),gt I s=.arr [] c0 none->OwnR E.M w (a.tmps.getD s Go.undef) c0/\E.N<=blk (a.tmps.getD s Go.undef):=fun s c0 hg=>by
  have hgs:=y94 hg (by simp);have hss:=hI.gt s;rw [hg] at hss;obtain ⟨b,T,vs,q,cap,e1,hb,hr,_,hu,hcap,hcap'⟩:=hss;have hfr:=frE hI hgs rfl;have hM:=(hI.hold s _ hgs rfl).1;rw [e1] at hfr hM ⊢;exact ⟨⟨b,T,vs,q,cap,rfl,by simpa using hb,hr.keep (wf2.shrink w (fun b' o=>by rintro (h | rfl);exact hI.m0 b' o h;exact hM o)),hu,hcap,hcap',hfr.2⟩,hfr.1⟩
 unfold x8a at h;split at h
 . rename_i t;refine ⟨t,rfl,?_⟩;have hs:=hI.gt t;split at h
   . rename_i c0 hg
     cases h;exact whole t _ hg
   . rename_i s hg0;split at h
     . rename_i c0 hg
       cases h;rw [hg0] at hs;have hs:a.tmps.getD t Go.undef=a.tmps.getD s Go.undef:=hs;rw [hs];exact whole s _ hg
     . cases h
   . rename_i s m lo n hg0;split at h
     . rename_i c0 hg;split at h
       . rename_i hc;obtain ⟨rfl,hn,rfl⟩:=hc
         cases h;rw [hg0] at hs;obtain ⟨ad,cap,e2,had,h1,h2⟩:=hs;have hss:=hI.gt s;rw [hg] at hss;obtain ⟨b,T,vs,q,cap0,e3,_⟩:=hss;have had:=had (.inr rfl);rw [e3] at had h2;subst had;exact main s c0 _ n hg hn ⟨b,cap0,cap,e3,by rw [e2];simp [blk,offV],h1,by simpa [capV] using h2⟩
       . cases h
     . cases h
   . rename_i d k l hg;split at h
     . rename_i hl
       cases h;rw [hg] at hs;have hs:(a.tmps.getD t Go.undef=(τ d).v/\(τ d).sz=1)/\RdC M w (a.tmps.getD t Go.undef) (.ints k l):=hs;obtain ⟨⟨hv,hsz⟩,hrd⟩:=hs;have htok:=hI.toks d ⟨t,_,y94 hg (by simp),.inl rfl⟩;generalize hu:a.tmps.getD t Go.undef=u at hv hrd ⊢;have hne:l≠[]:=List.length_pos_iff.1 hl
       cases hrd with
       | @ints ad len cap _ _ b off hlen hcap ha hcell=>
        have ha:=ha hne;subst ha
        rcases htok with ⟨ad',hz⟩ | ⟨e,n,xs,⟨hxl,hrow⟩,_⟩
        . rw [<-hv] at hz;simp only [Value.slice.injEq] at hz;omega
        . rw [← hv] at hrow
          rcases hrow with ⟨hz,_⟩ | ⟨g,cap',cur,hz,hN,hg',hn,_,hsize,_⟩
          . cases hz
          . simp only [Value.slice.injEq,Option.some.injEq,Addr.mk.injEq,and_true] at hz;obtain ⟨⟨rfl,rfl⟩,rfl,rfl⟩:=hz;rw [hsz,Nat.mul_one] at hsize
            have hcur:∀ i (hi:i<l.length),cur.toList[i]? = some (.int k l[i]):=fun i hi=>by
             have h1:=(hcell i hi).2;rw [Nat.zero_add] at h1;simp only [World.cell?,hg'] at h1;simpa using h1
            have htake:cur.toList.take l.length=l.map (Value.int k):=by
             apply List.ext_getElem?;intro i;by_cases hi:i<l.length
             . rw [List.getElem?_take_of_lt hi,hcur i hi];simp [hi]
             . rw [List.getElem?_take_eq_none (by omega),List.getElem?_eq_none (by simp only [List.length_map];omega)]
            have hblk:blk (.slice (some ⟨b,0,none⟩) len cap)=b:=rfl;refine ⟨⟨b,e,l.map (Value.int k),cur.toList.drop l.length,cap,by rw [hlen];rfl,?_,?_,trivial,by simp only [Cell.cnt];omega,?_,fun o hm=>Nat.not_lt.2 hN (E.hM b o hm)⟩,by rw [hblk];exact hN⟩
            . rw [<-htake,List.take_append_drop,Array.toArray_toList];exact hg'
            . simp only [Cell.flat];exact wvn k l
            . simp only [Cell.esz,List.length_map,List.length_drop,Array.length_toList];omega
     . cases h
   . cases h
 . cases h
theorem v7j {E:Env} {τ:Nat->TV} {M:Nat->Nat->Prop} {I:List AV} {a:Act} {w:World} (hI:RelI E τ M I a w):∀(rs:List ResultVar) (l:List AV),x3g P I rs=some l->
 ∃ vs:List Value,(rs.mapM (wyt a.tmps)).run P w=.ok vs w/\RdBL E.M w vs l
 | [],l,h=>by simp only [x3g,Option.some.injEq] at h;subst h;exact ⟨[],rfl,trivial⟩
 | r::rs,l,h=>by
  simp only [x3g] at h;split at h
  . rename_i x l' h1 h2
    cases h;obtain ⟨v,hv,hrv⟩:=zm6 hI h1;obtain ⟨vs,hvs,hrs⟩:=v7j hI rs l' h2;refine ⟨v::vs,?_,hrv,hrs⟩;rw [List.mapM_cons];simp only [Sem.run_bind,hv,Result.andThen_ok,hvs,Sem.run_pure]
  . cases h
theorem x3p (hR:Rel E I a w) {av:AV} (h:yhv P I fn.results.toList=some av) (hle:RLe av res) :
 ∃ v,(results fn a.tmps).run P w=.ok v w/\RdR E.M w v res/\(res.xeo=true->E.N<=blk v):=by
 obtain ⟨τ,M,hI⟩:=hR;unfold yhv at h
 have key:∀ l,x3g P I fn.results.toList=some l->∃ vs:List Value,(results fn a.tmps).run P w=.ok (if h:vs.toArray.size=1 then vs.toArray[0] else .tuple vs.toArray) w/\RdBL E.M w vs l:=fun l hl=>by
  obtain ⟨vs,hvs,hrs⟩:=v7j hI fn.results.toList l hl;refine ⟨vs,?_,hrs⟩
  have hres:results fn a.tmps=(fn.results.mapM (wyt a.tmps) >>= fun vs=>pure (if h:vs.size=1 then vs[0] else .tuple vs)):=by
   unfold results;refine congrArg (fun g:ResultVar->Sem Value=>(fn.results.mapM g >>= fun vs=>(pure (if h:vs.size=1 then vs[0] else .tuple vs):Sem Value))) (funext fun r=>?_)
   cases r<;>rfl
  rw [hres,Array.mapM_eq_mapM_toList];simp only [Sem.run_bind,Sem.run_map,hvs];rfl
 split at h
 . rename_i c hown
   cases h;obtain ⟨t,hrs,how,hN⟩:=x25 hI hown
   have hres:fn.results=#[.tmp t]:=by rw [<-Array.toArray_toList (xs:=fn.results),hrs]
   refine ⟨a.tmps.getD t Go.undef,?_,RdR.le hle ⟨rfl,rfl,how⟩,fun _=>hN⟩;unfold results;rw [hres];simp
 . split at h
   . rename_i x hl
     cases h;obtain ⟨vs,hrun,hrs⟩:=key _ hl
     cases vs with
     | nil=>exact hrs.elim
     | cons v vs=>
      cases vs with
      | cons _ _=>exact hrs.2.elim
      | nil=>
       have h1:=hrs.1;refine ⟨v,hrun,RdR.le hle ?_,fun hh=>?_⟩
       . cases av with
         | tup l=>exact h1.elim
         | arr _ _ _=>exact h1.elim
         | _=>exact h1
       . have:=hle.xeo hh
         cases av<;>first | exact h1.elim | cases this
   . rename_i l hne hl
     cases h;obtain ⟨vs,hrun,hrs⟩:=key _ hl;have hlen:=hrs.length
     have h1:¬vs.toArray.size=1:=fun e=>by
      rw [List.size_toArray,hlen] at e
      match l,e with
      | [x],_=>exact hne x rfl
     rw [dif_neg h1] at hrun;exact ⟨_,hrun,RdR.le hle ⟨vs,rfl,hrs⟩,fun hh=>by have:=hle.xeo hh;cases this⟩
   . cases h
theorem yh5 {vs:List Value} {args:List AV} (hM:Bounded M w) (h:RdBL M w vs args) (n:Nat) :
 Rel ⟨w,M,fun _=>False,#[],hM⟩ (args++List.replicate n .undef) { tmps:=vs.toArray++Array.replicate n Go.undef,defers:=[] } w:=by
 have hlen:=h.length
 have hnot:∀(i:Nat) (av:AV),(args++List.replicate n AV.undef)[i]? = some av->(∃ v,(vs.toArray++Array.replicate n Go.undef).getD i Go.undef=v/\RdB M w v av):=by
  intro i av hi;by_cases hlt:i<args.length
  . rw [List.getElem?_append_left hlt] at hi;obtain ⟨v,hv,hr⟩:=h.get i av hi;refine ⟨v,?_,hr⟩
    have hvl:i<vs.length:=by omega
    rw [List.getElem?_eq_getElem hvl] at hv;simp at hv;simp [Array.getD_eq_getD_getElem?,Array.getElem?_append,hvl,hv]
  . rw [List.getElem?_append_right (by omega)] at hi
    have hav:av=.undef:=by
     have:=List.mem_of_getElem? hi
     exact (List.mem_replicate.1 this).2
    subst hav;refine ⟨Go.undef,?_,rfl⟩;simp only [Array.getD_eq_getD_getElem?,Array.getElem?_append];rw [if_neg (by simp;omega)];simp only [Array.getElem?_replicate]
    split<;>rfl
 have props:∀(v:Value) (av:AV),RdB M w v av->av.xeo=false/\av.rf=none/\(∀ t,¬av.v7d t):=fun v av hr=>by
  cases av with
  | one c=>exact ⟨rfl,rfl,(RdB.slot (τ:=fun _=>⟨Go.undef,0⟩) (tm:=#[]) hr).2⟩
  | agg c=>exact ⟨rfl,rfl,(RdB.slot (τ:=fun _=>⟨Go.undef,0⟩) (tm:=#[]) hr).2⟩
  | elt c=>exact ⟨rfl,rfl,fun t ht=>ht⟩
  | any=>exact ⟨rfl,rfl,fun t ht=>ht⟩
  | undef=>exact ⟨rfl,rfl,fun t ht=>ht⟩
  | _=>exact hr.elim
 have nolive:∀ t,¬live (args++List.replicate n AV.undef) t:=fun t ⟨i,x,hi,hx⟩=>by
  obtain ⟨v,_,hr⟩:=hnot i x hi;exact (props v x hr).2.2 t hx
 refine ⟨fun _=>⟨Go.undef,0⟩,M,RelI.mk rfl (by simp [hlen]) ?_ (fun _ _ h=>h) hM ?_ ?_ ?_ (fun t ht=>absurd ht (nolive t)) (fun t _ _ ht=>absurd ht (nolive t)) (fun t _ _ ht=>absurd ht (nolive t)) (Nat.le_refl _) rfl rfl rfl (fun _ _ _=>rfl)⟩
 . intro i av hi;obtain ⟨v,hv,hr⟩:=hnot i av hi;show xb1 M w _ _ ((vs.toArray++Array.replicate n Go.undef).getD i Go.undef) av;rw [hv];exact (RdB.slot hr).1
 . intro i av hi hh;obtain ⟨v,_,hr⟩:=hnot i av hi;rw [(props v av hr).1] at hh;cases hh
 . intro i j x y hi hj hx;obtain ⟨v,_,hr⟩:=hnot i x hi;rw [(props v x hr).1] at hx;cases hx
 . intro i av s b hi hr';obtain ⟨v,_,hr⟩:=hnot i av hi;rw [(props v av hr).2.1] at hr';cases hr'
theorem y4n.of {f:FuncId} {args:List AV} (hf:P.funcs[f]? = some fn) (hb:fn.body=some c) (hname:(fn.name == "runtime.NumGoroutine")=false)
 (h:zus P c (retA P fn.results.toList res) (args++List.replicate (fn.ntmps-args.length) .undef)):y4n P f args res:=by
 refine ⟨⟨fn,hf,hname,by rw [hb];rfl⟩,fun M w vs hM hrd=>?_⟩;have hlen:=hrd.length;refine calls_of_wp hf hb ?_;have hstart:=yh5 hM hrd (fn.ntmps-args.length)
 have hsz:vs.toArray.size=args.length:=by simp [hlen]
 rw [hsz];refine wp_mono (h _ _ w hstart) ?_;rintro e a w' ⟨I,hq,hR⟩
 have fin:∀ av,yhv P I fn.results.toList=some av->RLe av res->a.defers=[]/\∃ v,(results fn a.tmps).run P w'=.ok v w'/\Back M w res (.returned v) w':=fun av h1 h2=>by
  obtain ⟨v,hrun,hrd',hfr⟩:=x3p (fn:=fn) hR h1 h2;obtain ⟨τ,M',hI⟩:=hR;exact ⟨hI.hd,v,hrun,v,rfl,⟨hI.os,hI.tape,hI.output,hI.size,fun k hk=>hI.frame k hk (fun h=>h)⟩,hrd',hfr⟩
 cases e with
 | normal=>obtain ⟨av,h1,h2⟩:=hq;exact fin av h1 h2
 | ret=>obtain ⟨av,h1,h2⟩:=hq;exact fin av h1 h2
 | _=>exact hq.elim
end Go.Slot
