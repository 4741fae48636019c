/- The proof, part Z9: Mv, Mw. -/
import Derived.Test.YtocdljjhobaabaaGreatDoorZ8
namespace Go.Slot
open Go Go.RowKit
variable {P:Program}
inductive OV where
 | bx (cs:List Cell)
 | wn (c:Cell) (lo n:Nat)
def wyi (σ:List AV) (x:Operand):Option (Nat×OV):=match x with
 | .tmp t=>match gt σ t with
  | .box cs=>some (t,.bx (yf8 cs))
  | .obx cs=>some (t,.bx (yf8 cs))
  | .ptr s off=>if off=0 then match gt σ s with
   | .box cs=>some (s,.bx (yf8 cs))
   | .obx cs=>some (s,.bx (yf8 cs))
   | _=>none
   else none
  | .arr _ c _=>some (t,.wn c 0 c.cnt)
  | .asl s=>match gt σ s with
   | .arr _ c _=>some (s,.wn c 0 c.cnt)
   | _=>none
  | .awn s m lo n=>match gt σ s with
   | .arr _ c _=>if m=c.esz/\lo+n<=c.cnt/\(n≠0\/lo=0) then some (s,.wn c lo n) else none
   | _=>none
  | _=>none
 | _=>none
def xk7 (σ:List AV) (x:Operand):List Nat:=match wyi σ x with
 | some (s,_)=>s::orr x
 | none=>orr x
def wu1 (σ:List AV):List Operand->Option (List AV×Nat×Nat×OV)
 | []=>none
 | x::r=>match wyi σ x with
  | some (s,ov)=>match zk4 σ r with
   | some l=>some (.any::l,0,s,ov)
   | none=>none
  | none=>match argA (opd σ x),wu1 σ r with
   | some av,some (l,j,s,ov)=>some (av::l,j+1,s,ov)
   | _,_=>none
def Cell.vvh (c:Cell) (lo:Nat) (c':Cell):Option Cell:=match c,c' with
 | .ints k l,.ints k' l'=>if k=k' then some (.ints k (l.take lo++l'++l.drop (lo+l'.length))) else none
 | .sl m rows,.sl m' rows'=>if m=m' then some (.sl m (rows.take lo++rows'++rows.drop (lo+rows'.length))) else none
 | _,_=>none
theorem Cell.y8u {c c' c2 : Cell} {lo : Nat} (hu : c.uni) (hu' : c'.uni) (h : c.vvh lo c' = some c2) (hfit : lo + c'.cnt ≤ c.cnt) :
 c2.uni/\c2.cnt=c.cnt/\c2.esz=c.esz/\c'.esz=c.esz/\c2.flat=c.flat.take (lo*c.esz)++c'.flat++c.flat.drop ((lo+c'.cnt)*c.esz):=by
 cases c with
 | ints k l=>
  cases c' with
  | ints k' l'=>
   simp only [Cell.vvh] at h;split at h
   . rename_i hk;subst hk
     cases h;simp only [Cell.cnt] at hfit;refine ⟨trivial,by simp [Cell.cnt];omega,rfl,rfl,?_⟩;simp [Cell.flat,Cell.esz,Cell.cnt,List.map_take,List.map_drop]
   . cases h
  | _=>cases h
 | sl m rows=>
  cases c' with
  | sl m' rows'=>
   simp only [Cell.vvh] at h;split at h
   . rename_i hk;subst hk
     cases h;simp only [Cell.cnt] at hfit;have hu:∀ r∈rows,r.length=m:=hu;have hu':∀ r∈rows',r.length=m:=hu';refine ⟨fun r hr=>?_,by simp [Cell.cnt];omega,rfl,rfl,?_⟩
     . simp only [List.mem_append] at hr
       rcases hr with (hr | hr) | hr
       . exact hu r (List.mem_of_mem_take hr)
       . exact hu' r hr
       . exact hu r (List.mem_of_mem_drop hr)
     . simp only [Cell.flat,Cell.esz,Cell.cnt];rw [z4s rows lo hu,vvg rows _ hu];simp
   . cases h
  | _=>cases h
 | _=>exact hu.elim
theorem Cell.yrm {c:Cell} (hu:c.uni) {lo n:Nat} (hfit:lo+n<=c.cnt):(c.sub lo n).uni/\(c.sub lo n).cnt=n/\(c.sub lo n).esz=c.esz/\(c.sub lo n).flat=(c.flat.drop (lo*c.esz)).take (n*c.esz):=by
 cases c with
 | ints k l=>
  simp only [Cell.cnt] at hfit;refine ⟨trivial,by simp [Cell.sub,Cell.cnt];omega,rfl,?_⟩;simp [Cell.sub,Cell.flat,Cell.esz,List.map_take,List.map_drop]
 | sl m rows=>
  simp only [Cell.cnt] at hfit;have hu:∀ r∈rows,r.length=m:=hu;refine ⟨fun r hr=>hu r (List.mem_of_mem_drop (List.mem_of_mem_take (by simpa [Cell.sub] using hr))),by simp [Cell.sub,Cell.cnt];omega,rfl,?_⟩;simp only [Cell.sub,Cell.flat,Cell.esz];rw [vvg rows lo hu,z4s _ n (fun r hr=>hu r (List.mem_of_mem_drop hr))]
 | _=>exact hu.elim
def x5m (P:Program) (f:FuncId) (l:List AV) (j:Nat) (ov:OV) (new:OV) (res:AV):Prop:=match ov,new with
 | .bx cs,.bx cs'=>xwl P f (l.set j (.obx cs)) j (.obx cs') res
 | .wn c lo n,.wn c' _ _=>∀ pre q,xwl P f (l.set j (.arr pre (c.sub lo n) (some q))) j (.arr pre c' (some q)) res
 | _,_=>False
def w9l (old:AV) (ov new:OV):Option AV:=match ov,new with
 | .bx _,.bx cs'=>some (old.v1t cs')
 | .wn c lo _,.wn c' _ _=>match old with
  | .arr pre _ post=>(c.vvh lo c').map fun c2=>.arr pre c2 post
  | _=>none
 | _,_=>none
def yd2 (s:Nat) (ov:OV) (res:AV):Option AV:=match res with
 | .awn _ m lo' n'=>match ov with
  | .wn c lo _=>if m=c.esz then some (.awn s m (lo+lo') n') else none
  | _=>none
 | .asl _=>none
 | res=>some res
theorem yzx {σ σ':List AV} {x:Operand} {s:Nat} {ov:OV} (h:wyi σ x=some (s,ov)) (hx:∀ t∈orr x,gt σ' t=gt σ t) (hs:gt σ' s=gt σ s):wyi σ' x=some (s,ov):=by
 cases x with
 | tmp t=>
  have hxt:=hx t (by simp [orr]);simp only [wyi] at h ⊢;rw [hxt]
  repeat' split at h
  all_goals first | (cases h;done) | skip
  all_goals (cases h;simp_all)
 | _=>cases h
theorem z0l {σ:List AV} {x:Operand} {av:AV} (h:argA (opd σ x)=some av):wyi σ x=none:=by
 cases x with
 | tmp t=>
  have h:argA (gt σ t)=some av:=h;simp only [wyi]
  cases hg:gt σ t<;>rw [hg] at h<;>first | rfl | cases h
 | _=>rfl
theorem zx9 {σ σ':List AV}:∀(xs:List Operand) (l:List AV) (j s:Nat) (ov:OV),wu1 σ xs=some (l,j,s,ov)->(∀ t∈orrL xs,gt σ' t=gt σ t)->gt σ' s=gt σ s->wu1 σ' xs=some (l,j,s,ov)
 | [],_,_,_,_,h,_,_=>by cases h
 | x::r,l,j,s,ov,h,hx,hs=>by
  have hop:∀ y:Operand,(∀ t∈orr y,t∈orrL (x::r))->opd σ' y=opd σ y:=fun y hy=>by
   cases y with
   | tmp t=>exact hx t (hy t (by simp [orr]))
   | _=>rfl
  have hx1:∀ t∈orr x,t∈orrL (x::r):=fun t ht=>by simp [orrL,ht]
  simp only [wu1] at h ⊢;split at h
  . rename_i s' ov' hv;split at h
    . rename_i l' hl
      cases h;rw [yzx hv (fun t ht=>hx t (hx1 t ht)) hs];simp only;rw [xqk (σ:=σ) (σ':=σ') r (fun y hy=>hop y (fun t ht=>by simp [orrL,hy t ht])),hl]
    . cases h
  . rename_i hv;split at h
    . rename_i av l' j' s' ov' ha hr
      cases h;have hop1:=hop x hx1;have hnone:wyi σ' x=none:=z0l (by rw [hop1];exact ha);rw [hnone];simp only;rw [hop1,ha,zx9 r l' j' s ov hr (fun t ht=>hx t (by simp [orrL,ht])) hs]
    . cases h
theorem xjy {E:Env} {τ:Nat->TV} {M:Nat->Nat->Prop} {σ:List AV} {a:Act} {w:World} (hI:RelI E τ M σ a w):∀(xs:List Operand) (l:List AV),zk4 σ xs=some l->
 l.length=xs.length/\∀(i:Nat) (x:Operand) (av:AV),xs[i]? = some x->l[i]? = some av->RdB M w (a.eval x) av
 | [],l,h=>by simp only [zk4,Option.some.injEq] at h;subst h;exact ⟨rfl,fun i x av hx=>by simp at hx⟩
 | x::r,l,h=>by
  simp only [zk4] at h;split at h
  . rename_i av l' h1 h2
    cases h;obtain ⟨hl,hg⟩:=xjy hI r l' h2;refine ⟨by simp [hl],fun i y av' hy hav=>?_⟩
    cases i with
    | zero=>simp at hy hav;subst hy;subst hav;exact yiy h1 (hI.opd x)
    | succ i=>exact hg i y av' (by simpa using hy) (by simpa using hav)
  . cases h
theorem x04 {E : Env} {τ : Nat → TV} {M : Nat → Nat → Prop} {σ : List AV} {a : Act} {w : World} (hI : RelI E τ M σ a w) : ∀ (xs : List Operand) (l : List AV) (j s : Nat) (ov : OV), wu1 σ xs = some (l, j, s, ov) →
 l.length=xs.length/\(∃ x,xs[j]? = some x/\wyi σ x=some (s,ov))/\∀(i:Nat) (x:Operand) (av:AV),xs[i]? = some x->l[i]? = some av->i≠j->RdB M w (a.eval x) av
 | [],_,_,_,_,h=>by cases h
 | x::r,l,j,s,ov,h=>by
  simp only [wu1] at h;split at h
  . rename_i s' ov' hv;split at h
    . rename_i l' hl
      cases h;obtain ⟨hlen,hg⟩:=xjy hI r l' hl;refine ⟨by simp [hlen],⟨x,rfl,hv⟩,fun i y av hy hav hne=>?_⟩
      cases i with
      | zero=>exact absurd rfl hne
      | succ i=>exact hg i y av (by simpa using hy) (by simpa using hav)
    . cases h
  . split at h
    . rename_i av l' j' s' ov' ha hr
      cases h;obtain ⟨hlen,⟨y,hy,hyv⟩,hg⟩:=x04 hI r l' j' s ov hr;refine ⟨by simp [hlen],⟨y,by simpa using hy,hyv⟩,fun i z av' hz hav hne=>?_⟩
      cases i with
      | zero=>simp at hz hav;subst hz;subst hav;exact yiy ha (hI.opd x)
      | succ i=>exact hg i z av' (by simpa using hz) (by simpa using hav) (fun e=>hne (by rw [e]))
    . cases h
theorem zv8 {E:Env} {τ:Nat->TV} {M:Nat->Nat->Prop} {σ:List AV} {a:Act} {w:World} (hI:RelI E τ M σ a w) {x:Operand} {s:Nat} {ov:OV} (h:wyi σ x=some (s,ov)) :
 (∃ cs0,ov=.bx (yf8 cs0)/\(gt σ s).v41=some cs0/\a.eval x=a.tmps.getD s Go.undef)\/
 (∃ pre c post lo n cap,ov=.wn c lo n/\gt σ s=.arr pre c post/\lo+n<=c.cnt/\a.eval x=.slice (some ⟨blk (a.tmps.getD s Go.undef),pre.length+lo*c.esz,none⟩) n cap/\n<=cap/\lo+cap<=capV (a.tmps.getD s Go.undef)):=by
 cases x with
 | tmp t=>
  have hs:=hI.gt t
  have arr:∀ s0 pre c post,gt σ s0=.arr pre c post->∃ cap,a.tmps.getD s0 Go.undef=.slice (some ⟨blk (a.tmps.getD s0 Go.undef),pre.length,none⟩) c.cnt cap/\c.cnt<=cap/\cap=capV (a.tmps.getD s0 Go.undef)/\pre.length=offV (a.tmps.getD s0 Go.undef):=fun s0 pre c post hg=>by
   have hss:=hI.gt s0;rw [hg] at hss;obtain ⟨b,T,vs,q,cap,e1,_,_,_,_,hcap,_⟩:=hss;rw [e1];exact ⟨cap,rfl,hcap,rfl,rfl⟩
  simp only [wyi] at h;split at h
  . rename_i cs hg;cases h;exact .inl ⟨cs,rfl,by rw [hg];rfl,rfl⟩
  . rename_i cs hg;cases h;exact .inl ⟨cs,rfl,by rw [hg];rfl,rfl⟩
  . rename_i s' off hg;split at h
    . rename_i h0;subst h0;rw [hg] at hs;have hs:a.tmps.getD t Go.undef=.pointer (some ⟨blk (a.tmps.getD s' Go.undef),0,none⟩):=hs
      have fin:∀ cs,(gt σ s').v41=some cs->a.eval (.tmp t)=a.tmps.getD s' Go.undef:=fun cs hb=>by
       obtain ⟨b,vs,T,e1,_⟩:=xsv (hI.gt s') hb;show a.tmps.getD t Go.undef=_;rw [hs,e1];rfl
      split at h
      . rename_i cs hg2;cases h;exact .inl ⟨cs,rfl,by rw [hg2];rfl,fin cs (by rw [hg2];rfl)⟩
      . rename_i cs hg2;cases h;exact .inl ⟨cs,rfl,by rw [hg2];rfl,fin cs (by rw [hg2];rfl)⟩
      . cases h
    . cases h
  . rename_i pre c post hg
    cases h;obtain ⟨cap,e1,h1,h2,h3⟩:=arr s pre c post hg;refine .inr ⟨pre,c,post,0,c.cnt,cap,rfl,hg,by omega,?_,h1,by omega⟩;show a.tmps.getD s Go.undef=_;rw [Nat.zero_mul,Nat.add_zero];exact e1
  . rename_i s' hg;split at h
    . rename_i pre c post hg2
      cases h;obtain ⟨cap,e1,h1,h2,h3⟩:=arr s pre c post hg2;rw [hg] at hs;have hs:a.tmps.getD t Go.undef=a.tmps.getD s Go.undef:=hs;refine .inr ⟨pre,c,post,0,c.cnt,cap,rfl,hg2,by omega,?_,h1,by omega⟩;show a.tmps.getD t Go.undef=_;rw [Nat.zero_mul,Nat.add_zero,hs];exact e1
    . cases h
  . rename_i s' m lo n hg;split at h
    . rename_i pre c post hg2;split at h
      . rename_i hc;obtain ⟨rfl,hfit,hnz⟩:=hc
        cases h;obtain ⟨capS,e1,h1,h2,h3⟩:=arr s pre c post hg2;rw [hg] at hs;obtain ⟨ad,cap,e2,had,hn,hcap⟩:=hs;refine .inr ⟨pre,c,post,lo,n,cap,rfl,hg2,hfit,?_,hn,hcap⟩;show a.tmps.getD t Go.undef=_;rw [e2,had (by omega),<-h3]
      . cases h
    . cases h
  . cases h
 | _=>cases h
theorem xwf {σ:List AV} {o:Oper} {f:FuncId} {xs:List Operand} {ts:Array TypeId} (ho:o.op=.call { callee:=.value (.func f),args:=xs.toArray,argTypes:=ts }) {l:List AV} {j s:Nat} {ov new:OV}
 (hx:wu1 σ xs=some (l,j,s,ov)) (hn:x9b σ o=true) {res nw res':AV} (hc:x5m P f l j ov new res) (hs:w9l (gt σ s) ov new=some nw) (hr:yd2 s ov res=some res') :
 ztu P o σ (zny o++s::orrL xs) [] ((s,nw)::v29 o res'):=by
 intro E σ' a w hag _ ⟨τ,M,hI⟩ K Q hK;have hgs:gt σ' s=gt σ s:=hag.2 s (by simp);have hx':=zx9 xs l j s ov hx (fun t ht=>hag.2 t (by simp [ht])) hgs;obtain ⟨hlen,⟨x,hxj,hview⟩,hdat⟩:=x04 hI xs l j s ov hx'
 have hjl:j<l.length:=by rw [hlen];exact (List.getElem?_eq_some_iff.1 hxj).1
 have hvj:(xs.map a.eval)[j]? = some (a.eval x):=by simp [hxj]
 have mk:∀ av:AV,XOk M w (a.eval x) av->RdXL M w (xs.map a.eval) (l.set j av) j:=fun av hX=>
  ⟨by simp [hlen],fun i v av' hv hav hne=>by
   rw [List.getElem?_set_ne (Ne.symm hne)] at hav;rw [List.getElem?_map] at hv;simp only [Option.map_eq_some_iff] at hv;obtain ⟨y,hy,rfl⟩:=hv
   exact hdat i y av' hy hav hne,a.eval x,av,hvj,by simp [hjl],hX⟩
 have fin:∀(w':World) (v:Value),RelI E τ M (σ'.set s nw) a w'->nw.xeo=true->x5d M w' τ a.tmps v res'->(∀ t,¬res'.y1a t)->res'.xeo=false->
  (∀(s':Nat) (b:Bool),res'.rf=some (s',b)->s'=s/\b=false/\nw.y20=true)->K (a.put o.dst v) w':=fun w' v hI' hnw h1 h2 h3 h4=>by
  cases hdst:o.dst with
  | none=>
   refine hK _ _ ⟨τ,M,?_⟩;simp only [v29,hdst,app];exact hI'
  | some d=>
   have hnd:nh σ' d=true:=hag.nh (by simp [zny,hdst]) (by simpa [x9b,hdst] using hn);obtain ⟨old,h5,h6⟩:=z5w hnd
   have hsl:s<σ'.length:=by
    rcases zv8 hI hview with ⟨cs0,_,hb,_⟩ | ⟨pre,c,post,lo,n,cap,_,hg,_⟩
    . exact (List.getElem?_eq_some_iff.1 (w3d rfl (xdi hb).2.2)).1
    . exact (List.getElem?_eq_some_iff.1 (w3d hg (by simp))).1
   have hds:d≠s:=fun e=>by
    subst e
    have hold:(gt σ' d).xeo=true:=by
     rcases zv8 hI hview with ⟨cs0,_,hb,_⟩ | ⟨pre,c,post,lo,n,cap,_,hg,_⟩
     . exact (xdi hb).1
     . rw [hg];rfl
    have:gt σ' d=old:=by unfold gt;rw [h5];rfl
    rw [this,h6] at hold;cases hold
   refine hK _ _ ⟨τ,M,?_⟩;simp only [v29,hdst,app];refine hI'.put (by rw [List.getElem?_set_ne (Ne.symm hds)];exact h5) h6 v res' h3 h1 (fun s' b hr'=>?_) (fun t ht=>absurd ht (h2 t));obtain ⟨rfl,rfl,harr⟩:=h4 s' b hr';exact ⟨nw,by simp [hsl],by simpa [AV.fits] using harr⟩
 have data:res'.xeo=false->∀(w':World) (v:Value),RdR M w' v res'->x5d M w' τ a.tmps v res'/\(∀ t,¬res'.y1a t)/\res'.rf=none:=fun hh w' v hr=>by
  have:=hr.slot (τ:=τ) (tm:=a.tmps) hh
  exact ⟨this.1,this.2.1,this.2.2.2⟩
 have hM:∀ av,gt σ' s=av->av.xeo=true->∀ o,M (blk (a.tmps.getD s Go.undef)) o:=fun av hg hh=>
  (hI.hold s av (w3d hg (fun e=>by rw [e] at hh;cases hh)) hh).1
 unfold Oper.wp
 have henter:∀ v47:za1 P f,(execOp a.eval o).run P w=.ok (.enter f (xs.map a.eval).toArray) w:=fun v47=>by
  simp [execOp,ho,resolve,Deferred.ofValue,Act.eval,invoke,vbs v47]
 rcases zv8 hI hview with ⟨cs0,rfl,hb,hex⟩ | ⟨pre,c,post,lo,n,cap,rfl,hg,hfit,hex,hncap,hcap⟩
 . cases new with
   | wn _ _ _=>exact hc.elim
   | bx cs'=>
    have hc:xwl P f (l.set j (.obx (yf8 cs0))) j (.obx cs') res:=hc;rw [henter hc.1];obtain ⟨b,vs,T,e1,hheap,hrd⟩:=xsv (hI.gt s) hb;have hh:=(xdi hb).1;have hX:XOk M w (a.eval x) (.obx (yf8 cs0)):=⟨⟨b,vs,T,hex.trans e1,hheap,hrd.bare.z5e⟩,rfl,rfl,fun t ht=>hrd.bare.x6p ht,by rw [hex];exact hM _ rfl hh⟩;refine (hc.2 M w _ hI.mb (mk _ hX)).mono ?_;rintro e w' ⟨v,vj,rfl,hvj',hbx,hX',hres⟩;rw [hvj] at hvj';cases hvj';show K (a.put o.dst v) w';rw [hex] at hbx hX';rw [hgs] at hb hh
    have hnw:nw=(gt σ s).v1t cs':=by simp [w9l] at hs;exact hs.symm
    have hkind:nw.v41=some cs'/\nw.xeo=true/\(∀ b,(gt σ s).fits b=true->nw.fits b=true)/\nw.fresh=(gt σ s).fresh:=by
     rw [hnw];generalize gt σ s=g at hb
     cases g<;>first | exact ⟨rfl,rfl,fun b hf=>by cases b<;>first | exact hf | rfl,rfl⟩ | cases hb
    have hsl:=hX'.slot τ a.tmps
    have hI':=hI.turn (s:=s) (old:=gt σ s) (new:=nw) (w3d hgs (xdi hb).2.2) hh hkind.2.1 hkind.2.2.1 hkind.2.2.2 hbx (by
     have h1:=hkind.1
     cases nw<;>first | (cases h1;exact hsl) | cases h1) (fun t ht=>by
     rw [z9w hkind.1] at ht
     exact absurd ht (hX'.2.2.2.1 t))
    cases res with
    | awn _ _ _ _=>cases hr
    | asl _=>cases hr
    | _=>
     cases hr;obtain ⟨h1,h2,h3⟩:=data hres.1 w' v hres.2;exact fin w' v hI' hkind.2.1 h1 h2 hres.1 (fun s' b hr'=>by rw [h3] at hr';cases hr')
 . cases new with
   | bx _=>exact hc.elim
   | wn c' lo2 n2=>
    have hc:∀ pre q,xwl P f (l.set j (.arr pre (c.sub lo n) (some q))) j (.arr pre c' (some q)) res:=hc;have hss:=hI.gt s;rw [hg] at hss;obtain ⟨b,T,vs,q,capS,e1,hheap,hrd,hpost,hu,hcS,hcS'⟩:=hss;obtain ⟨su,scnt,sesz,sflat⟩:=Cell.yrm hu hfit;have hfl:=Cell.zjv hu;have hvl:=hrd.length;have hle:(lo+n)*c.esz<=c.cnt*c.esz:=Nat.mul_le_mul_right _ hfit;have hmul:(lo+n)*c.esz=lo*c.esz+n*c.esz:=Nat.add_mul _ _ _;have hcap2:(lo+cap)*c.esz<=capS*c.esz:=Nat.mul_le_mul_right _ (by rw [e1] at hcap;exact hcap);have hmul2:(lo+cap)*c.esz=lo*c.esz+cap*c.esz:=Nat.add_mul _ _ _
    have hbb:blk (a.tmps.getD s Go.undef)=b:=by rw [e1];rfl
    rw [hbb] at hex;have hc1:=hc (pre++vs.take (lo*c.esz)) (vs.drop ((lo+n)*c.esz)++q);rw [henter hc1.1]
    have hpl:(pre++vs.take (lo*c.esz)).length=pre.length+lo*c.esz:=by simp;omega
    have hsplit:pre++(vs++q)=(pre++vs.take (lo*c.esz))++((vs.drop (lo*c.esz)).take (n*c.esz)++(vs.drop ((lo+n)*c.esz)++q)):=by
     have e2:vs=vs.take (lo*c.esz)++((vs.drop (lo*c.esz)).take (n*c.esz)++vs.drop ((lo+n)*c.esz)):=by
      rw [hmul,<-List.drop_drop,List.take_append_drop,List.take_append_drop]
     conv=>lhs;rw [e2]
     simp
    have hMb:∀ o,M b o:=by have:=hM _ hg rfl;rw [hbb] at this;exact this
    have hX:XOk M w (a.eval x) (.arr (pre++vs.take (lo*c.esz)) (c.sub lo n) (some (vs.drop ((lo+n)*c.esz)++q))):=by
     refine ⟨⟨b,T,(vs.drop (lo*c.esz)).take (n*c.esz),vs.drop ((lo+n)*c.esz)++q,cap,by rw [hex,hpl,scnt],by rw [hheap,hsplit],?_,(by intro p hp;cases hp;rfl),su,by rw [scnt];exact hncap,?_⟩,rfl,rfl,fun t ht=>ht,by rw [hex];exact hMb⟩
     . rw [sflat];exact (hrd.drop _).take _
     . rw [sesz];simp only [List.length_take,List.length_drop,List.length_append];omega
    refine (hc1.2 M w _ hI.mb (mk _ hX)).mono ?_;rintro e w' ⟨v,vj,rfl,hvj',hbx,hX',hres⟩;rw [hvj] at hvj';cases hvj';show K (a.put o.dst v) w';have hgS:gt σ s=.arr pre c post:=hgs▸hg;simp only [w9l,hgS,Option.map_eq_some_iff] at hs;obtain ⟨c2,hspl,rfl⟩:=hs;obtain ⟨⟨b',T',us,q',cap',e3,hheap',hrd',hq',hu',hcnt',hcap'⟩,_⟩:=hX';rw [hex] at e3;simp only [hpl,Value.slice.injEq,Option.some.injEq,Addr.mk.injEq,and_true] at e3;obtain ⟨rfl,hcn,rfl⟩:=e3
    have:=hq' _ rfl
    subst this;obtain ⟨u2,cnt2,esz2,esz',flat2⟩:=Cell.y8u hu hu' hspl (by omega)
    have hbx':wuw (blk (a.tmps.getD s Go.undef)) w w':=by rw [hbb];rw [hex] at hbx;exact hbx
    have hk:=hbx'.keeps (M:=M) (by rw [hbb];exact hMb)
    have hul:us.length=n*c.esz:=by rw [hrd'.length,Cell.zjv hu',<-hcn,esz']
    have hsl:x5d M w' τ a.tmps (a.tmps.getD s Go.undef) (.arr pre c2 post):=by
     refine ⟨b,T',vs.take (lo*c.esz)++us++vs.drop ((lo+n)*c.esz),q,capS,by rw [e1,cnt2],?_,?_,hpost,u2,by rw [cnt2];exact hcS,?_⟩
     . rw [hheap'];simp
     . rw [flat2,<-hcn];exact (((hrd.keep hk).take _).append hrd').append ((hrd.keep hk).drop _)
     . rw [esz2];simp only [List.length_append,List.length_take,List.length_drop,hul];omega
    have hI':=hI.turn (s:=s) (old:=.arr pre c post) (new:=.arr pre c2 post) (w3d hg (by simp)) rfl rfl (fun b hf=>by cases b<;>first | exact hf | rfl) (by cases post<;>rfl) hbx' hsl (fun t ht=>ht.elim)
    cases res with
    | asl _=>cases hr
    | awn s0 m lo' n'=>
     simp only [yd2] at hr;split at hr
     . rename_i hm;subst hm
       cases hr;obtain ⟨ad,cap2,e4,had,h1,h2⟩:=hres;rw [hex] at had h2;simp only [blk,offV,capV] at had h2;refine fin w' v hI' rfl ⟨ad,cap2,e4,fun hor=>?_,h1,by rw [e1];rw [e1] at hcap;simp only [capV] at hcap ⊢;omega⟩ (fun t ht=>ht) rfl (fun s' b' hr'=>?_)
       . rw [had (by omega),hbb,e1];simp only [offV];rw [Nat.add_mul,<-Nat.add_assoc]
       . simp only [AV.rf,Option.some.injEq,Prod.mk.injEq] at hr';exact ⟨hr'.1.symm,hr'.2.symm,rfl⟩
     . cases hr
    | _=>
     cases hr;obtain ⟨h1,h2,h3⟩:=data hres.1 w' v hres.2;exact fin w' v hI' rfl h1 h2 hres.1 (fun s' b hr'=>by rw [h3] at hr';cases hr')
def yg5 (s:Nat):Nat->List AV->List (Nat×AV)
 | _,[]=>[]
 | i,av::r=>if hitB s i av=true then (i,.any)::yg5 s (i+1) r else yg5 s (i+1) r
theorem w8z (s:Nat):∀(σ:List AV) (k:Nat) (p:Nat×AV),p∈yg5 s k σ->k<=p.1
 | [],_,p,h=>by cases h
 | av::r,k,p,h=>by
  have ih:=w8z s r (k+1) p;unfold yg5 at h;split at h
  . rcases List.mem_cons.1 h with rfl | h
    . exact Nat.le_refl _
    . exact Nat.le_of_succ_le (ih h)
  . exact Nat.le_of_succ_le (ih h)
theorem z1d (s:Nat):∀(σ:List AV) (k i:Nat),i<σ.length->
 ((yg5 s k σ).reverse.find? (fun p=>p.1==k+i))=if hitB s (k+i) (gt σ i)=true then some (k+i,AV.any) else none
 | [],_,i,h=>by simp at h
 | av::r,k,i,h=>by
  have none_of:(yg5 s (k+1) r).reverse.find? (fun p=>p.1==k)=none:=by
   rw [List.find?_eq_none];intro p hp
   have:=w8z s r (k+1) p (List.mem_reverse.1 hp)
   simp only [beq_iff_eq];omega
  cases i with
  | zero=>
   have hg:gt (av::r) 0=av:=rfl;rw [hg,Nat.add_zero];unfold yg5
   split
   . rw [List.reverse_cons,List.find?_append,none_of];simp
   . exact none_of
  | succ i=>
   have ih:=z1d s r (k+1) i (by simpa using h);have hg:gt (av::r) (i+1)=gt r i:=rfl;rw [hg,show k+(i+1)=k+1+i by omega,<-ih]
   have hd:yg5 s k (av::r)=if hitB s k av=true then (k,.any)::yg5 s (k+1) r else yg5 s (k+1) r:=rfl
   rw [hd]
   split
   . rw [List.reverse_cons,List.find?_append];simp [show ¬k=k+1+i by omega]
   . rfl
theorem v9o (s:Nat) (σ:List AV):app (yg5 s 0 σ) σ=yov s σ:=by
 apply y8c (by rw [v7o,wx9]);intro i hi;rw [v7o] at hi;have h1:=ze6 (yg5 s 0 σ) σ i hi;have h2:=z1d s σ 0 i hi;simp only [Nat.zero_add] at h2
 have h3:gt (yov s σ) i=ve8 s i (gt σ i):=by
  unfold yov Slot.gt;rw [v2r]
  cases hh:σ[i]? with
  | none=>rw [List.getElem?_eq_none_iff] at hh;omega
  | some x=>simp
 rw [h1,h2,h3];unfold ve8
 split<;>rfl
theorem y4x {s i:Nat}:yg5 s i []=[]:=rfl
theorem y00 {tk:List Nat} {i:Nat}:xv8 tk i []=[]:=rfl
theorem yoe {T e:TypeId} {i:TypeInfo} {z:Value} (ht:P.underlying T=some (.slice e)) (hi:P.info? e=some i) (hz:i.zero=some z) (w:World) (ty:TypeId) {ad0:Option Addr} {n old:Nat} {xs:List Value} {yad:Option Addr} {m ycap:Nat} {news:List Value}
 (hfd:(Builtin.firstCells i.size m (.slice yad m ycap)).run P w.drew=.ok news.toArray w.drew) (hfo:(Builtin.firstCells i.size n (.slice ad0 n old)).run P w.drew=.ok xs.toArray w.drew)
 (ho:old<n+m) (hbound:(n+m)*i.bytes<=140737488355328) (h63:n+m<=9223372036854775807) :
 (Builtin.append_ #[T,T] ty #[.slice ad0 n old,.slice yad m ycap]).run P w=.ok (.slice (some ⟨w.heap.size,0,none⟩) (n+m) (grownCap w (n+m) old e))
   (w.drew.alloc (.cells ((xs++news).toArray++Builtin.zeroCells z.cells (grownCap w (n+m) old e-(n+m))) e)):=by
 have hn:¬(n+m<=old):=by omega
 have h63':¬(9223372036854775807<((n:Int)+(m:Int))):=by omega
 have hfit:=growslice_fits (need:=n+m) (old:=old) (bytes:=i.bytes) ho hbound
 have h48':¬(281474976710656<Builtin.nextslicecap (n+m) old*i.bytes):=by omega
 simp [Builtin.append_,run_underlying ht,sizeOf,typeInfo,zeroValue,hi,hz,Builtin.lenOf,hn,h63',h48',Question.forced,hfd,hfo,newRow,grownCap]
 congr 2
 apply Array.ext';simp [List.append_assoc]
def va0 (σ:List AV) (x:Operand):Option (Nat×Cell):=match x with
 | .tmp t=>match gt σ t with
  | .arr [] c none=>some (t,c)
  | .asl s=>match gt σ s with
   | .arr [] c none=>some (s,c)
   | _=>none
  | _=>none
 | _=>none
def vbr (σ:List AV) (ti:TI) (d:Nat) (x y:Operand):Option (List Nat×List (Nat×AV)):=
 match ti.sh with
 | .slice _ es eb ik=>match va0 σ x,opd σ y with
  | some (s,c),.one cy=>match wek es eb ik c cy.bare with
   | some c'=>if nh σ d&&c.isSl then some (List.range σ.length,yg5 s 0 σ++[(d,.arr [] c' none)]) else none
   | none=>none
  | _,_=>none
 | _=>none
theorem xaw {M : Nat → Nat → Prop} {w : World} {es eb : Nat} {ik : Option IntKind} {c cy c' : Cell} (hes : 0 < es) (h : wek es eb ik c cy = some c') (hu : c.uni) {vy : Value} (hy : RdC M w vy cy) :
 ∃(m:Nat) (news:List Value) (fy:List Cell),(∃ ad cap,vy=.slice ad m cap)/\news.length=m*es/\RdD M w news fy/\(news=[]\/∃ b off cap,vy=.slice (some ⟨b,off,none⟩) m cap/\∀ j u,news[j]? = some u->¬M b (off+j)/\w.cell? ⟨b,off+j,none⟩=some u)/\
  c'.uni/\c'.cnt=c.cnt+m/\c'.esz=es/\c.esz=es/\c'.flat=c.flat++fy/\(c.cnt+m)*eb<=140737488355328/\c.cnt+m<=9223372036854775807:=by
 unfold wek at h;split at h
 . rename_i k;split at h
   . rename_i l l' hl hl';split at h
     . rename_i hc;obtain ⟨rfl,hb1,hb2⟩:=hc
       cases h
       have hcc:c=.ints k l:=by
        cases c with
        | ints k' l0=>simp only [wei] at hl;split at hl<;>first | (rename_i e;subst e;cases hl;rfl) | cases hl
        | sl=>cases hl
        | _=>exact hu.elim
       subst hcc;obtain ⟨hyl,hyc⟩:=hy.zh8 hl';exact ⟨l'.length,l'.map (Value.int k),l'.map fun n=>.raw (.int k n),hyl,by simp,whs k l',hyc,trivial,by simp [Cell.cnt],rfl,rfl,by simp [Cell.flat],hb1,hb2⟩
     . cases h
   . cases h
 . split at h
   . rename_i l l' hl hl';split at h
     . rename_i hc;obtain ⟨hb1,hb2⟩:=hc
       cases h
       have hcc:c=.sl es l:=by
        cases c with
        | sl n0 l0=>simp only [wuv] at hl;split at hl<;>first | (rename_i e;subst e;cases hl;rfl) | cases hl
        | ints=>cases hl
        | _=>exact hu.elim
       subst hcc;obtain ⟨hyl,hyn,us,hul,hur,hyc⟩:=hy.xov hes hl';refine ⟨l'.length,us,l'.flatten,hyl,hul,hur,hyc,fun r hr=>?_,by simp [Cell.cnt],rfl,rfl,by simp [Cell.flat],hb1,hb2⟩
       rcases List.mem_append.1 hr with h | h
       . exact hu r h
       . exact hyn r h
     . cases h
   . cases h
theorem xt0 {E:Env} {τ:Nat->TV} {M:Nat->Nat->Prop} {σ:List AV} {a:Act} {w:World} (hI:RelI E τ M σ a w) {x:Operand} {s:Nat} {c:Cell} (h:va0 σ x=some (s,c)) :
 σ[s]? = some (.arr [] c none)/\a.eval x=a.tmps.getD s Go.undef:=by
 unfold va0 at h;split at h
 case h_2=>cases h
 rename_i t;split at h
 . rename_i c0 hg
   cases h;exact ⟨w3d hg (by simp),rfl⟩
 . rename_i s0 hg0;split at h
   . rename_i c0 hg
     cases h
     have:=hI.gt t
     rw [hg0] at this;exact ⟨w3d hg (by simp),this⟩
   . cases h
 . cases h
theorem ve9 {σ:List AV} {o:Oper} {T:TypeId} {x y:Operand} (ho:o.op=.call { callee:=.builtin .append,args:=#[x,y],argTypes:=#[T,T] }) {d:Nat} (hdst:o.dst=some d) {ti:TI} (hti:mkTI P T=some ti)
 {rd:List Nat} {eff:List (Nat×AV)} (hA:vbr σ ti d x y=some (rd,eff)):ztu P o σ rd [] eff:=by
 obtain ⟨ds,i0,z0,hd0,hi0,hz0,_,_,_,_,_,hsh'⟩:=(xky hti).ex;unfold vbr at hA;split at hA
 case h_2=>cases hA
 rename_i e es eb ik hsh;split at hA
 case h_2=>cases hA
 rename_i s c cy hx hy;split at hA
 case h_2=>cases hA
 rename_i c' z1o;split at hA
 case isFalse=>cases hA
 rename_i hn;simp only [Bool.and_eq_true] at hn;simp only [Option.some.injEq,Prod.mk.injEq] at hA;obtain ⟨rfl,rfl⟩:=hA;obtain ⟨rfl,j,z',hj,hz',hjs,hjb,hes0,hzs,hik⟩:=wit (hsh'.symm.trans hsh);have hes:0<es:=Nat.pos_of_ne_zero hes0;intro E σ' a w hag _ ⟨τ,M,hI⟩ K Q hK;have hσ:σ'=σ:=y8c hag.1 (fun i hi=>hag.2 i (List.mem_range.2 (by rw [<-hag.1];exact hi)));subst hσ;obtain ⟨hs,hev⟩:=xt0 hI hx;have sy:=hI.opd y;rw [hy] at sy;have sy:RdT M w τ (a.eval y) cy:=sy;obtain ⟨b,Tb,vs,q,cap,e1,hheap,hr,_,hu,hcap,hcap'⟩:=hI.slot s _ hs;simp only [List.length_nil,List.nil_append] at e1 hheap;obtain ⟨m,news,fy,⟨yad,ycap,hyv⟩,hnl,hnr,hnc,hu',hcnt',hesz',hesz,hflat',hb1,hb2⟩:=xaw hes z1o hu sy.bare;have hold:=hI.hold s _ hs rfl
 have hblk:blk (a.tmps.getD s Go.undef)=b:=by rw [e1];rfl
 rw [hblk] at hold
 have hvl:vs.length=c.cnt*es:=by rw [hr.length,Cell.zjv hu,hesz]
 rw [hesz] at hcap';obtain ⟨old,h1,h2⟩:=z5w hn.1
 have hne:d≠s:=fun e=>by subst e;rw [hs] at h1;cases h1;cases h2
 have hfin:app (yg5 s 0 σ'++[(d,.arr [] c' none)]) σ'=(yov s σ').set d (.arr [] c' none):=by
  rw [y56,v9o];rfl
 have hd1:∃ old1,(yov s σ')[d]? = some old1/\old1.xeo=false:=by
  unfold yov;rw [v2r,h1];refine ⟨_,rfl,?_⟩
  rcases wln s (0+d) old with e | ⟨e,_⟩
  . rw [e];rfl
  . rw [e];exact h2
 obtain ⟨old1,hd1,hd2⟩:=hd1
 have hfree:∀(i:Nat) (x:AV),(yov s σ')[i]? = some x->x.xeo=true->blk (a.tmps.getD i Go.undef)≠b:=fun i x hi hx e=>by
  obtain ⟨y,hy,rfl⟩:=xx2 hi
  rcases wln s i y with e' | ⟨e',hne',_⟩
  . rw [e'] at hx;cases hx
  . rw [e'] at hx;exact hne' (hI.inj i s y _ hy hs hx rfl (e.trans hblk.symm))
 have hfreet:∀ t,live (yov s σ') t->tokB (τ t).v≠some b:=fun t ⟨i,y,hi,hy⟩=>by
  obtain ⟨x,hx,rfl⟩:=xx2 hi
  rcases wln s i x with e' | ⟨e',_⟩
  . rw [e'] at hy;exact hy.elim
  . rw [e'] at hy
    have:=hI.tbox t s _ ⟨i,x,hx,hy⟩ hs rfl
    rw [hblk] at this;exact this
 have hrunop:∀ v' w',(Builtin.append_ #[T,T] o.type #[.slice (some ⟨b,0,none⟩) c.cnt cap,.slice yad m ycap]).run P w=.ok v' w'->(execOp a.eval o).run P w=.ok (.value v') w':=fun v' w' hr'=>by
  simp [execOp,ho,resolve,invoke,builtin,hev,e1,hyv,hr']
 have hn1:∀ u∈news,u.oneCell'=true:=hnr.oneL
 have hnc':news=[]\/∃ b off cap,Value.slice yad m ycap=.slice (some ⟨b,off,none⟩) m cap/\∀ j u,news[j]? = some u->w.cell? ⟨b,off+j,none⟩=some u:=hnc.imp id fun ⟨b',off,cap',e',hh⟩=>⟨b',off,cap',by rw [<-hyv];exact e',fun j u hj=>(hh j u hj).2⟩
 have put:∀ v' w' (E':Env) (M':Nat->Nat->Prop),(execOp a.eval o).run P w=.ok (.value v') w'->RelI E τ M' ((yov s σ').set d (.arr [] c' none)) (a.put (some d) v') w'->o.wp P a w K Q:=fun v' w' _ M' hr' hR=>by
  unfold Oper.wp;rw [hr'];show K (a.put o.dst v') w';rw [hdst];exact hK _ _ ⟨τ,M',by rw [hfin];exact hR⟩
 by_cases hroom:c.cnt+m<=cap
 ·
  have hf:(Builtin.firstCells j.size m (.slice yad m ycap)).run P w=.ok news.toArray w:=yqx w m _ news ⟨_,_,rfl⟩ (by rw [hjs];exact hnl) hnc'
  have hfit:c.cnt*es+news.length<=(vs++q).length:=by
   rw [hnl,<-Nat.add_mul];refine Nat.le_trans (Nat.mul_le_mul_right _ hroom) ?_;rw [List.length_append];exact hcap'
  have hrun:=z9o (P:=P) hd0 hj w o.type b Tb c.cnt cap _ hheap m (.slice yad m ycap) news ⟨_,_,rfl⟩ (by rw [hjs];exact hnl) hf hn1 hroom (by rw [hjs];simpa using hfit);rw [hjs] at hrun;simp only at hrun;generalize hnew:((vs++q).take (c.cnt*es)++news++(vs++q).drop (c.cnt*es+news.length)).toArray=new at hrun
  have hnew':new=(([]:List Value)++((vs++news)++(vs++q).drop (c.cnt*es+news.length))).toArray:=by
   rw [<-hnew,<-hvl,List.take_left];simp
  have hb0:b<w.heap.size:=(Array.getElem?_eq_some_iff.1 hheap).1;have hbx:wuw b w (w.setRow b new):=⟨rfl,rfl,rfl,by simp,fun k _ hk=>setRow_other w b k _ hk⟩
  have hI':RelI E τ M σ' a (w.setRow b new):=by
   have h3:=hI.turn (new:=.arr [] c none) hs rfl rfl (fun _ h=>h) rfl (by rw [hblk];exact hbx) (by
    refine ⟨b,Tb,vs,news++(vs++q).drop (c.cnt*es+news.length),cap,e1,?_,hr.keep (hbx.keeps hold.1),fun p hp=>(by cases hp),hu,hcap,?_⟩
    . rw [setRow_heap w b _ new Tb (0,0) hheap,hnew'];simp
    . rw [hesz];simp only [List.length_append,List.length_drop]
      omega) (fun t ht=>ht.elim)
   have:σ'.set s (.arr [] c none)=σ':=by
    apply List.ext_getElem?;intro i;rw [List.getElem?_set]
    split
    . rename_i e;subst e;rw [hs];simp [(List.getElem?_eq_some_iff.1 hs).1]
    . rfl
   rwa [this] at h3
  refine put _ _ E _ (hrunop _ _ hrun) ((hI'.yov s).take hd1 hd2 (.slice (some ⟨b,0,none⟩) (c.cnt+m) cap) (.arr [] c' none) rfl rfl (hold.2.2.1 rfl) hold.1 hfree hfreet ?_ (fun t ht=>ht.elim));refine ⟨b,Tb,vs++news,(vs++q).drop (c.cnt*es+news.length),cap,by rw [hcnt'];rfl,?_,?_,fun p hp=>(by cases hp),hu',by rw [hcnt'];exact hroom,?_⟩
  . rw [setRow_heap w b _ new Tb (0,0) hheap,hnew']
  . rw [hflat'];exact (hr.app hnr).keep (hbx.keeps hold.1)
  . rw [hesz'];simp only [List.length_append,List.length_drop] at hfit ⊢;omega
 ·
  have hfd:(Builtin.firstCells j.size m (.slice yad m ycap)).run P w.drew=.ok news.toArray w.drew:=yqx w.drew m _ news ⟨_,_,rfl⟩ (by rw [hjs];exact hnl) hnc'
  have hfo:(Builtin.firstCells j.size c.cnt (.slice (some ⟨b,0,none⟩) c.cnt cap)).run P w.drew=.ok vs.toArray w.drew:=yqx w.drew c.cnt _ vs ⟨_,_,rfl⟩ (by rw [hjs];exact hvl) (.inr ⟨b,0,cap,rfl,fun j u hj=>by
   rw [Nat.zero_add];have hlt:j<vs.length:=(List.getElem?_eq_some_iff.1 hj).1
   have:w.drew.heap[b]? = some (.cells (vs++q).toArray Tb (0,0)):=hheap
   simp only [World.cell?,this,List.getElem?_toArray]
   rw [List.getElem?_append_left hlt];exact hj⟩)
  have hrun:=yoe (P:=P) hd0 hj hz' w o.type hfd hfo (by omega) (by rw [hjb];exact hb1) hb2;generalize hgc:grownCap w (c.cnt+m) cap e=gc at hrun
  have hge:c.cnt+m<=gc:=by rw [<-hgc];exact grownCap_ge w (c.cnt+m) cap e
  have hbl:Below w.heap.size w (w.drew.alloc (.cells ((vs++news).toArray++Builtin.zeroCells z'.cells (gc-(c.cnt+m))) e)):=((Below.refl _ _).drew).alloc (Nat.le_refl _) _;have hheap':(w.drew.alloc (.cells ((vs++news).toArray++Builtin.zeroCells z'.cells (gc-(c.cnt+m))) e)).heap[w.heap.size]? = some (.cells ((vs++news).toArray++Builtin.zeroCells z'.cells (gc-(c.cnt+m))) e (0,0)):=wm8 w.drew _;refine put _ _ E _ (hrunop _ _ hrun) ((hI.yov s).vfk hbl hd1 hd2 (.slice (some ⟨w.heap.size,0,none⟩) (c.cnt+m) gc) (.arr [] c' none) rfl rfl (Nat.le_refl _) (by simp [blk]) ?_ (fun t ht=>ht.elim));refine ⟨w.heap.size,e,vs++news,(Builtin.zeroCells z'.cells (gc-(c.cnt+m))).toList,gc,by rw [hcnt'];rfl,?_,?_,fun p hp=>(by cases hp),hu',by rw [hcnt'];exact hge,?_⟩
  . rw [hheap']
    congr 2
    apply Array.ext';simp
  . rw [hflat'];refine (hr.app hnr).keep (fun b' o u hm hc=>?_);have hl:=World.block_lt_of_cell? w _ hc;exact ⟨fun hh=>hh.elim hm (fun hh=>by simp only [blk] at hh;simp only at hl;omega),(xhx.below hbl b' o u hm hc).2⟩
  . rw [hesz',List.length_append,hvl,hnl,Array.length_toList,size_zeroCells,hzs,<-Nat.add_mul,<-Nat.add_mul];exact Nat.mul_le_mul_right _ (by omega)
def nilV:Value->Bool
 | .slice none 0 0=>true
 | _=>false
def nilO:Operand->Bool
 | .const v=>nilV v
 | .tmp _=>false
 | .global _=>false
 | .func _=>false
theorem vi3 {x:Operand} (h:nilO x=true):x=.const (.slice none 0 0):=by
 cases x with
 | const v=>
  simp only [nilO] at h;unfold nilV at h;split at h
  . rfl
  . cases h
 | _=>cases h
def tiX {α:Type} (P:Program) (t:TypeId) (k:TI->Option α):Option α:=match mkTI P t with
 | some ti=>k ti
 | none=>none
theorem y08 {α:Type} {t:TypeId} {k:TI->Option α} {r:α} (h:tiX P t k=some r):∃ ti,mkTI P t=some ti/\k ti=some r:=by
 unfold tiX at h;split at h
 . rename_i ti hti;exact ⟨ti,hti,h⟩
 . cases h
def zx0 (σ:List AV) (x:Operand):Bool:=match x with
 | .tmp t=>match gt σ t with
  | .arr _ _ _ | .asl _=>true
  | _=>false
 | _=>false
def eqOp:BinOp->Bool
 | .eql=>true
 | .neq=>true
 | _=>false
def ws9:AV->AV->Bool
 | .one (.raw (.bool _)),.one (.raw (.bool _))=>true
 | _,_=>false
def bbA (ti:TI) (op:BinOp) (x y:AV):Option AV:=match ti.sh with
 | .bool=>match x,y with
  | .one (.raw (.bool a)),.one (.raw (.bool b))=>match op with
   | .eql=>some (.one (.raw (.bool (a==b))))
   | .neq=>some (.one (.raw (.bool (a != b))))
   | _=>none
  | _,_=>none
 | _=>none
theorem z5t {d:TypeDesc} (h:shOf P d=.bool):d=.bool:=by
 cases d with
 | bool=>rfl
 | slice e=>
  exfalso;revert h;unfold shOf;dsimp only
  split
  . split
    . split<;>simp
    . simp
  . simp
 | struct fl=>
  exfalso;revert h;unfold shOf;dsimp only;split<;>simp
 | _=>simp [shOf] at h
theorem zf0 {σ:List AV} {o:Oper} {op:BinOp} {T U:TypeId} {x y:Operand} (ho:o.op=.binOp op T x y U) {ti:TI} (hti:mkTI P T=some ti) {av:AV} (hb:bbA ti op (opd σ x) (opd σ y)=some av) {r:List Nat×List (Nat×AV)}
 (h:val σ o (orr x++orr y) av=some r):ztu P o σ r.1 [] r.2:=by
 unfold bbA at hb;split at hb
 case h_2=>cases hb
 rename_i hsh;split at hb
 case h_2=>cases hb
 rename_i u v hx hy;obtain ⟨d,i,z,hd,hi,hz,_,_,_,_,_,hsh'⟩:=(xky hti).ex;obtain rfl:=z5t (hsh'.symm.trans hsh)
 have heq:∀ w:World,(Op.equal T (.bool u) (.bool v)).run P w=.ok (u==v) w:=fun w=>by
  show (Op.equalIn (9999+1) T (.bool u) (.bool v)).run P w=_;unfold Op.equalIn;simp [z6x hd]
 have eva:∀(E:Env) (τ:Nat->TV) (M:Nat->Nat->Prop) (σ':List AV) (a:Act) (w:World),(∀ x':Operand,(∀ t∈orr x',t∈orr x++orr y)->opd σ' x'=opd σ x')->RelI E τ M σ' a w->a.eval x=.bool u/\a.eval y=.bool v:=fun E τ M σ' a w hop hI=>by
  have sx:=hI.opd x;have sy:=hI.opd y;rw [hop x (fun t ht=>by simp [ht]),hx] at sx;rw [hop y (fun t ht=>by simp [ht]),hy] at sy;exact ⟨RdC.xcn sx,RdC.xcn sy⟩
 split at hb
 . cases hb;refine ztu.pure h rfl rfl (fun E τ M σ' a w hop _ hI=>⟨.bool (u==v),?_,RdC.raw rfl,fun t ht=>ht.elim⟩);obtain ⟨ex,ey⟩:=eva E τ M σ' a w hop hI;simp [execOp,ho,ex,ey,eqGuard,binOp,heq]
 . cases hb;refine ztu.pure h rfl rfl (fun E τ M σ' a w hop _ hI=>⟨.bool (u != v),?_,RdC.raw rfl,fun t ht=>ht.elim⟩);obtain ⟨ex,ey⟩:=eva E τ M σ' a w hop hI;simp [execOp,ho,ex,ey,eqGuard,binOp,heq,bne]
 . cases hb
def isX (σ:List AV):Op->Bool
 | .binOp op _ x y _=>match nilO y with
  | true=>true
  | false=>match eqOp op with
   | true=>ws9 (opd σ x) (opd σ y)
   | false=>false
 | .buildSlice _ n _=>n==0
 | .call c=>match c.callee with
  | .builtin .append=>match c.args.toList with
   | [x,_]=>zx0 σ x
   | _=>false
  | .builtin .max=>true
  | .builtin .min=>true
  | _=>false
 | _=>false
def maxV (b:Bool):AV->AV->Option AV
 | .one (.raw (.int k x)),.one (.raw (.int k' y))=>if k=k' then some (.one (.raw (.int k (match b with | true=>max x y | false=>min x y)))) else none
 | _,_=>none
theorem zv0 {σ:List AV} {o:Oper} {b:Bool} {x y:Operand} {ts:Array TypeId} (ho:o.op=.call { callee:=.builtin (match b with | true=>.max | false=>.min),args:=#[x,y],argTypes:=ts }) {av:AV} (hb:maxV b (opd σ x) (opd σ y)=some av)
 {r:List Nat×List (Nat×AV)} (h:val σ o (orr x++orr y) av=some r):ztu P o σ r.1 [] r.2:=by
 unfold maxV at hb;split at hb
 . rename_i k u k' v hx hy;split at hb
   . rename_i hkk;subst hkk
     cases hb;refine ztu.pure h rfl rfl (fun E τ M σ' a w hop hgt hI=>⟨_,?_,RdC.raw rfl,fun t ht=>ht.elim⟩);have sx:=hI.opd x;rw [hop x (fun t ht=>List.mem_append.2 (.inl ht)),hx] at sx;have sy:=hI.opd y;rw [hop y (fun t ht=>List.mem_append.2 (.inr ht)),hy] at sy;have ex:a.eval x=.int k u:=RdC.xcn sx;have ey:a.eval y=.int k v:=RdC.xcn sy
     cases b with
     | true=>
      have:(if v > u then v else u)=max u v:=by split<;>omega
      simp [execOp,ho,resolve,invoke,builtin,Builtin.max_,Builtin.max2,ex,ey,this]
     | false=>
      have:(if v<u then v else u)=min u v:=by split<;>omega
      simp [execOp,ho,resolve,invoke,builtin,Builtin.min_,Builtin.min2,ex,ey,this]
   . cases hb
 . cases hb
def valX (σ:List AV) (o:Oper) (rd:List Nat) (a:Option AV):Option (List Nat×List (Nat×AV)):=match a with
 | some av=>val σ o rd av
 | none=>none
def opX (P:Program) (σ:List AV) (o:Oper):Option (List Nat×List (Nat×AV)):=
 match o.op with
 | .binOp op T x y _=>match nilO y with
  | true=>tiX P T fun ti=>valX σ o (orr x) (nilA σ ti op x)
  | false=>tiX P T fun ti=>valX σ o (orr x++orr y) (bbA ti op (opd σ x) (opd σ y))
 | .buildSlice T n ps=>if n=0 then tiX P T fun ti=>valX σ o [] (wpp ti ps.toList) else none
 | .call c=>match c.callee with
  | .builtin .append=>match c.args.toList,c.argTypes.toList,o.dst with
   | [x,y],[T,U],some d=>if T=U then tiX P T fun ti=>vbr σ ti d x y else none
   | _,_,_=>none
  | .builtin .max=>match c.args.toList with
   | [x,y]=>valX σ o (orr x++orr y) (maxV true (opd σ x) (opd σ y))
   | _=>none
  | .builtin .min=>match c.args.toList with
   | [x,y]=>valX σ o (orr x++orr y) (maxV false (opd σ x) (opd σ y))
   | _=>none
  | _=>none
 | _=>none
theorem vfz {σ:List AV} {o:Oper} {rd:List Nat} {a:Option AV} {r:List Nat×List (Nat×AV)} (h:valX σ o rd a=some r):∃ av,a=some av/\val σ o rd av=some r:=by
 unfold valX at h;split at h
 . rename_i av;exact ⟨av,rfl,h⟩
 . cases h
theorem wti {σ:List AV} {o:Oper} {r:List Nat×List (Nat×AV)} (h:opX P σ o=some r):ztu P o σ r.1 [] r.2:=by
 unfold opX at h;split at h
 . rename_i op T x y U ho;split at h
   . rename_i hnil;obtain ⟨ti,hti,hk⟩:=y08 h;obtain ⟨av,hav,hr⟩:=vfz hk;rw [vi3 hnil] at ho;exact ydx ho hti hav hr
   . obtain ⟨ti,hti,hk⟩:=y08 h;obtain ⟨av,hav,hr⟩:=vfz hk;exact zf0 ho hti hav hr
 . rename_i T n ps ho;split at h
   . rename_i hn;obtain ⟨ti,hti,hk⟩:=y08 h;obtain ⟨av,hav,hr⟩:=vfz hk;exact zxk (by rw [ho]) hn hti hav hr
   . cases h
 . rename_i c ho;obtain ⟨callee,args,argTypes⟩:=c;simp only at h;split at h
   . split at h
     . rename_i x y T U d ha ht hd;split at h
       . rename_i hTU;subst hTU;obtain ⟨ti,hti,hk⟩:=y08 h
         have ea:args=#[x,y]:=by cases args;simp at ha;rw [ha]
         have et:argTypes=#[T,T]:=by cases argTypes;simp at ht;rw [ht]
         rw [ea,et] at ho;exact ve9 ho hd hti hk
       . cases h
     . cases h
   . split at h
     . rename_i x y ha;obtain ⟨av,hav,hr⟩:=vfz h
       have ea:args=#[x,y]:=by cases args;simp at ha;rw [ha]
       rw [ea] at ho;exact zv0 (b:=true) ho hav hr
     . cases h
   . split at h
     . rename_i x y ha;obtain ⟨av,hav,hr⟩:=vfz h
       have ea:args=#[x,y]:=by cases args;simp at ha;rw [ha]
       rw [ea] at ho;exact zv0 (b:=false) ho hav hr
     . cases h
   . cases h
 . cases h
theorem yvo {E:Env} {M:Nat->Nat->Prop} {w:World} (hN:E.N<=w.heap.size) (hmb:∀ b o,M b o->b<w.heap.size) (v:Value) (e:TypeId) (es n:Nat) (all:List Value)
 (hall:all.length=n*es) (hcm:n<=maxLen) :
 Grew E M w (w.alloc (.cells all.toArray e)) (fun b o=>M b o\/(b=w.heap.size/\n*es<=o)) v (.slice (some ⟨w.heap.size,0,none⟩) n n) es n all:=by
 have hb:Below w.heap.size w (w.alloc (.cells all.toArray e)):=(Below.refl _ _).alloc (Nat.le_refl _) _;have hheap:(w.alloc (.cells all.toArray e)).heap[w.heap.size]? = some (.cells all.toArray e (0,0)):=wm8 w _;refine { keeps:=?_,size:=hb.size,os:=rfl,tape:=rfl,output:=rfl,block:=fun k hk _=>hb.block k hk,mem:=fun b o hm _=>.inl hm,mb:=?_,tok:=?_,blk':=?_,cells:=?_,len:=⟨_,_,rfl,Nat.le_refl _⟩ }
 . intro b o u hm hc;have hl:=World.block_lt_of_cell? w _ hc;exact ⟨fun hh=>hh.elim hm (fun hh=>by have:=hh.1;simp only at hl;omega),(xhx.below hb b o u hm hc).2⟩
 . rintro b o (hm | ⟨rfl,_⟩)
   . exact Nat.lt_of_lt_of_le (hmb b o hm) hb.size
   . simp
 . refine .inr ⟨e,n,all,⟨hall,.inr ⟨w.heap.size,n,_,rfl,hN,hheap,Nat.le_refl _,hcm,?_,?_⟩⟩,fun g hg o ho=>?_⟩
   . simp [hall]
   . simp [<-hall]
   . simp [Value.ownBlock] at hg;exact .inr ⟨hg.symm,ho⟩
 . intro g hg
   cases n with
   | zero=>simp [tokB] at hg
   | succ n=>simp [tokB] at hg;exact .inr (by omega)
 . by_cases h0:all=[]
   . exact .inl h0
   . refine .inr ⟨w.heap.size,n,rfl,Nat.le_refl _,fun j u hj=>⟨?_,?_⟩⟩
     . have hjl:j<all.length:=(List.getElem?_eq_some_iff.1 hj).1;rintro (hm | ⟨_,ho⟩)
       . have:=hmb _ _ hm;omega
       . omega
     . simp only [World.cell?,hheap];simpa using hj
end Go.Slot
