/- The proof, part Z10: Mv. -/
import Derived.Test.YtjhbbadljohadaaGreatDoorZ9
namespace Go.Slot
open Go Go.RowKit
variable {P:Program}
inductive OV where
 | bx (cs:List Cell)
 | wn (c:Cell) (lo n:Nat)
def ownView (σ:List AV) (x:Operand):Option (Nat×OV):=match x with
 | .tmp t=>match gt σ t with
  | .box cs=>some (t,.bx (bareL cs))
  | .obx cs=>some (t,.bx (bareL cs))
  | .ptr s off=>if off=0 then match gt σ s with
   | .box cs=>some (s,.bx (bareL cs))
   | .obx cs=>some (s,.bx (bareL cs))
   | _=>none
   else none
  | .arr _ c _=>some (t,.wn c 0 c.cnt)
  | .asl s=>match gt σ s with
   | .arr _ c _=>some (s,.wn c 0 c.cnt)
   | _=>none
  | .awn s m lo n=>match gt σ s with
   | .arr _ c _=>if m=c.esz∧lo+n≤c.cnt∧(n≠0∨lo=0) then some (s,.wn c lo n) else none
   | _=>none
  | _=>none
 | _=>none
def ownRd (σ:List AV) (x:Operand):List Nat:=match ownView σ x with
 | some (s,_)=>s::orr x
 | none=>orr x
def argsXA (σ:List AV):List Operand→Option (List AV×Nat×Nat×OV)
 | []=>none
 | x::r=>match ownView σ x with
  | some (s,ov)=>match argsA σ r with
   | some l=>some (.any::l,0,s,ov)
   | none=>none
  | none=>match argA (opd σ x),argsXA σ r with
   | some av,some (l,j,s,ov)=>some (av::l,j+1,s,ov)
   | _,_=>none
def Cell.splice (c:Cell) (lo:Nat) (c':Cell):Option Cell:=match c,c' with
 | .ints k l,.ints k' l'=>if k=k' then some (.ints k (l.take lo++l'++l.drop (lo+l'.length))) else none
 | .sl m rows,.sl m' rows'=>if m=m' then some (.sl m (rows.take lo++rows'++rows.drop (lo+rows'.length))) else none
 | _,_=>none
theorem Cell.splice_ok {c c' c2 : Cell} {lo : Nat} (hu : c.uni) (hu' : c'.uni) (h : c.splice lo c' = some c2) (hfit : lo + c'.cnt ≤ c.cnt) :
 c2.uni∧c2.cnt=c.cnt∧c2.esz=c.esz∧c'.esz=c.esz∧c2.flat=c.flat.take (lo*c.esz)++c'.flat++c.flat.drop ((lo+c'.cnt)*c.esz):=by
 cases c with
 | ints k l=>
  cases c' with
  | ints k' l'=>
   simp only [Cell.splice] at h
   split at h
   · rename_i hk
     subst hk
     cases h
     simp only [Cell.cnt] at hfit
     refine ⟨trivial,by simp [Cell.cnt];omega,rfl,rfl,?_⟩
     simp [Cell.flat,Cell.esz,Cell.cnt,List.map_take,List.map_drop]
   · cases h
  | _=>cases h
 | sl m rows=>
  cases c' with
  | sl m' rows'=>
   simp only [Cell.splice] at h
   split at h
   · rename_i hk
     subst hk
     cases h
     simp only [Cell.cnt] at hfit
     have hu:∀ r∈rows,r.length=m:=hu
     have hu':∀ r∈rows',r.length=m:=hu'
     refine ⟨fun r hr=>?_,by simp [Cell.cnt];omega,rfl,rfl,?_⟩
     · simp only [List.mem_append] at hr
       rcases hr with (hr | hr) | hr
       · exact hu r (List.mem_of_mem_take hr)
       · exact hu' r hr
       · exact hu r (List.mem_of_mem_drop hr)
     · simp only [Cell.flat,Cell.esz,Cell.cnt]
       rw [flatten_take rows lo hu,flatten_drop rows _ hu]
       simp
   · cases h
  | _=>cases h
 | _=>exact hu.elim
theorem Cell.sub_flat {c:Cell} (hu:c.uni) {lo n:Nat} (hfit:lo+n≤c.cnt):(c.sub lo n).uni∧(c.sub lo n).cnt=n∧(c.sub lo n).esz=c.esz∧(c.sub lo n).flat=(c.flat.drop (lo*c.esz)).take (n*c.esz):=by
 cases c with
 | ints k l=>
  simp only [Cell.cnt] at hfit
  refine ⟨trivial,by simp [Cell.sub,Cell.cnt];omega,rfl,?_⟩
  simp [Cell.sub,Cell.flat,Cell.esz,List.map_take,List.map_drop]
 | sl m rows=>
  simp only [Cell.cnt] at hfit
  have hu:∀ r∈rows,r.length=m:=hu
  refine ⟨fun r hr=>hu r (List.mem_of_mem_drop (List.mem_of_mem_take (by simpa [Cell.sub] using hr))),by simp [Cell.sub,Cell.cnt];omega,rfl,?_⟩
  simp only [Cell.sub,Cell.flat,Cell.esz]
  rw [flatten_drop rows lo hu,flatten_take _ n (fun r hr=>hu r (List.mem_of_mem_drop hr))]
 | _=>exact hu.elim
def CallX (P:Program) (f:FuncId) (l:List AV) (j:Nat) (ov:OV) (new:OV) (res:AV):Prop:=match ov,new with
 | .bx cs,.bx cs'=>CallsX P f (l.set j (.obx cs)) j (.obx cs') res
 | .wn c lo n,.wn c' _ _=>∀ pre q,CallsX P f (l.set j (.arr pre (c.sub lo n) (some q))) j (.arr pre c' (some q)) res
 | _,_=>False
def newSlot (old:AV) (ov new:OV):Option AV:=match ov,new with
 | .bx _,.bx cs'=>some (old.reBox cs')
 | .wn c lo _,.wn c' _ _=>match old with
  | .arr pre _ post=>(c.splice lo c').map fun c2=>.arr pre c2 post
  | _=>none
 | _,_=>none
def newRes (s:Nat) (ov:OV) (res:AV):Option AV:=match res with
 | .awn _ m lo' n'=>match ov with
  | .wn c lo _=>if m=c.esz then some (.awn s m (lo+lo') n') else none
  | _=>none
 | .asl _=>none
 | res=>some res
theorem ownView_congr {σ σ':List AV} {x:Operand} {s:Nat} {ov:OV} (h:ownView σ x=some (s,ov)) (hx:∀ t∈orr x,gt σ' t=gt σ t) (hs:gt σ' s=gt σ s):ownView σ' x=some (s,ov):=by
 cases x with
 | tmp t=>
  have hxt:=hx t (by simp [orr])
  simp only [ownView] at h ⊢
  rw [hxt]
  repeat' split at h
  all_goals first | (cases h;done) | skip
  all_goals (cases h;simp_all)
 | _=>cases h
theorem ownView_data {σ:List AV} {x:Operand} {av:AV} (h:argA (opd σ x)=some av):ownView σ x=none:=by
 cases x with
 | tmp t=>
  have h:argA (gt σ t)=some av:=h
  simp only [ownView]
  cases hg:gt σ t<;>rw [hg] at h<;>first | rfl | cases h
 | _=>rfl
theorem argsXA_congr {σ σ':List AV}:∀(xs:List Operand) (l:List AV) (j s:Nat) (ov:OV),argsXA σ xs=some (l,j,s,ov)→(∀ t∈orrL xs,gt σ' t=gt σ t)→gt σ' s=gt σ s→argsXA σ' xs=some (l,j,s,ov)
 | [],_,_,_,_,h,_,_=>by cases h
 | x::r,l,j,s,ov,h,hx,hs=>by
  have hop:∀ y:Operand,(∀ t∈orr y,t∈orrL (x::r))→opd σ' y=opd σ y:=fun y hy=>by
   cases y with
   | tmp t=>exact hx t (hy t (by simp [orr]))
   | _=>rfl
  have hx1:∀ t∈orr x,t∈orrL (x::r):=fun t ht=>by simp [orrL,ht]
  simp only [argsXA] at h ⊢
  split at h
  · rename_i s' ov' hv
    split at h
    · rename_i l' hl
      cases h
      rw [ownView_congr hv (fun t ht=>hx t (hx1 t ht)) hs]
      simp only
      rw [argsA_congr (σ:=σ) (σ':=σ') r (fun y hy=>hop y (fun t ht=>by simp [orrL,hy t ht])),hl]
    · cases h
  · rename_i hv
    split at h
    · rename_i av l' j' s' ov' ha hr
      cases h
      have hop1:=hop x hx1
      have hnone:ownView σ' x=none:=ownView_data (by rw [hop1];exact ha)
      rw [hnone]
      simp only
      rw [hop1,ha,argsXA_congr r l' j' s ov hr (fun t ht=>hx t (by simp [orrL,ht])) hs]
    · cases h
theorem argsA_get {E:Env} {τ:Nat→TV} {M:Nat→Nat→Prop} {σ:List AV} {a:Act} {w:World} (hI:RelI E τ M σ a w):∀(xs:List Operand) (l:List AV),argsA σ xs=some l→
 l.length=xs.length∧∀(i:Nat) (x:Operand) (av:AV),xs[i]? = some x→l[i]? = some av→RdB M w (a.eval x) av
 | [],l,h=>by simp only [argsA,Option.some.injEq] at h;subst h;exact ⟨rfl,fun i x av hx=>by simp at hx⟩
 | x::r,l,h=>by
  simp only [argsA] at h
  split at h
  · rename_i av l' h1 h2
    cases h
    obtain ⟨hl,hg⟩:=argsA_get hI r l' h2
    refine ⟨by simp [hl],fun i y av' hy hav=>?_⟩
    cases i with
    | zero=>simp at hy hav;subst hy;subst hav;exact argA_ok h1 (hI.opd x)
    | succ i=>exact hg i y av' (by simpa using hy) (by simpa using hav)
  · cases h
theorem argsXA_get {E : Env} {τ : Nat → TV} {M : Nat → Nat → Prop} {σ : List AV} {a : Act} {w : World} (hI : RelI E τ M σ a w) : ∀ (xs : List Operand) (l : List AV) (j s : Nat) (ov : OV), argsXA σ xs = some (l, j, s, ov) →
 l.length=xs.length∧(∃ x,xs[j]? = some x∧ownView σ x=some (s,ov))∧∀(i:Nat) (x:Operand) (av:AV),xs[i]? = some x→l[i]? = some av→i≠j→RdB M w (a.eval x) av
 | [],_,_,_,_,h=>by cases h
 | x::r,l,j,s,ov,h=>by
  simp only [argsXA] at h
  split at h
  · rename_i s' ov' hv
    split at h
    · rename_i l' hl
      cases h
      obtain ⟨hlen,hg⟩:=argsA_get hI r l' hl
      refine ⟨by simp [hlen],⟨x,rfl,hv⟩,fun i y av hy hav hne=>?_⟩
      cases i with
      | zero=>exact absurd rfl hne
      | succ i=>exact hg i y av (by simpa using hy) (by simpa using hav)
    · cases h
  · split at h
    · rename_i av l' j' s' ov' ha hr
      cases h
      obtain ⟨hlen,⟨y,hy,hyv⟩,hg⟩:=argsXA_get hI r l' j' s ov hr
      refine ⟨by simp [hlen],⟨y,by simpa using hy,hyv⟩,fun i z av' hz hav hne=>?_⟩
      cases i with
      | zero=>simp at hz hav;subst hz;subst hav;exact argA_ok ha (hI.opd x)
      | succ i=>exact hg i z av' (by simpa using hz) (by simpa using hav) (fun e=>hne (by rw [e]))
    · cases h
theorem ownView_ok {E:Env} {τ:Nat→TV} {M:Nat→Nat→Prop} {σ:List AV} {a:Act} {w:World} (hI:RelI E τ M σ a w) {x:Operand} {s:Nat} {ov:OV} (h:ownView σ x=some (s,ov)) :
 (∃ cs0,ov=.bx (bareL cs0)∧(gt σ s).boxOf=some cs0∧a.eval x=a.tmps.getD s Go.undef)∨
 (∃ pre c post lo n cap,ov=.wn c lo n∧gt σ s=.arr pre c post∧lo+n≤c.cnt∧a.eval x=.slice (some ⟨blk (a.tmps.getD s Go.undef),pre.length+lo*c.esz,none⟩) n cap∧n≤cap∧lo+cap≤capV (a.tmps.getD s Go.undef)):=by
 cases x with
 | tmp t=>
  have hs:=hI.gt t
  have arr:∀ s0 pre c post,gt σ s0=.arr pre c post→∃ cap,a.tmps.getD s0 Go.undef=.slice (some ⟨blk (a.tmps.getD s0 Go.undef),pre.length,none⟩) c.cnt cap∧c.cnt≤cap∧cap=capV (a.tmps.getD s0 Go.undef)∧pre.length=offV (a.tmps.getD s0 Go.undef):=fun s0 pre c post hg=>by
   have hss:=hI.gt s0
   rw [hg] at hss
   obtain ⟨b,T,vs,q,cap,e1,_,_,_,_,hcap,_⟩:=hss
   rw [e1]
   exact ⟨cap,rfl,hcap,rfl,rfl⟩
  simp only [ownView] at h
  split at h
  · rename_i cs hg;cases h;exact .inl ⟨cs,rfl,by rw [hg];rfl,rfl⟩
  · rename_i cs hg;cases h;exact .inl ⟨cs,rfl,by rw [hg];rfl,rfl⟩
  · rename_i s' off hg
    split at h
    · rename_i h0
      subst h0
      rw [hg] at hs
      have hs:a.tmps.getD t Go.undef=.pointer (some ⟨blk (a.tmps.getD s' Go.undef),0,none⟩):=hs
      have fin:∀ cs,(gt σ s').boxOf=some cs→a.eval (.tmp t)=a.tmps.getD s' Go.undef:=fun cs hb=>by
       obtain ⟨b,vs,T,e1,_⟩:=boxOf_ok (hI.gt s') hb
       show a.tmps.getD t Go.undef=_
       rw [hs,e1];rfl
      split at h
      · rename_i cs hg2;cases h;exact .inl ⟨cs,rfl,by rw [hg2];rfl,fin cs (by rw [hg2];rfl)⟩
      · rename_i cs hg2;cases h;exact .inl ⟨cs,rfl,by rw [hg2];rfl,fin cs (by rw [hg2];rfl)⟩
      · cases h
    · cases h
  · rename_i pre c post hg
    cases h
    obtain ⟨cap,e1,h1,h2,h3⟩:=arr s pre c post hg
    refine .inr ⟨pre,c,post,0,c.cnt,cap,rfl,hg,by omega,?_,h1,by omega⟩
    show a.tmps.getD s Go.undef=_
    rw [Nat.zero_mul,Nat.add_zero];exact e1
  · rename_i s' hg
    split at h
    · rename_i pre c post hg2
      cases h
      obtain ⟨cap,e1,h1,h2,h3⟩:=arr s pre c post hg2
      rw [hg] at hs
      have hs:a.tmps.getD t Go.undef=a.tmps.getD s Go.undef:=hs
      refine .inr ⟨pre,c,post,0,c.cnt,cap,rfl,hg2,by omega,?_,h1,by omega⟩
      show a.tmps.getD t Go.undef=_
      rw [Nat.zero_mul,Nat.add_zero,hs];exact e1
    · cases h
  · rename_i s' m lo n hg
    split at h
    · rename_i pre c post hg2
      split at h
      · rename_i hc
        obtain ⟨rfl,hfit,hnz⟩:=hc
        cases h
        obtain ⟨capS,e1,h1,h2,h3⟩:=arr s pre c post hg2
        rw [hg] at hs
        obtain ⟨ad,cap,e2,had,hn,hcap⟩:=hs
        refine .inr ⟨pre,c,post,lo,n,cap,rfl,hg2,hfit,?_,hn,hcap⟩
        show a.tmps.getD t Go.undef=_
        rw [e2,had (by omega),←h3]
      · cases h
    · cases h
  · cases h
 | _=>cases h
theorem sound_callx {σ:List AV} {o:Oper} {f:FuncId} {xs:List Operand} {ts:Array TypeId} (ho:o.op=.call { callee:=.value (.func f),args:=xs.toArray,argTypes:=ts }) {l:List AV} {j s:Nat} {ov new:OV}
 (hx:argsXA σ xs=some (l,j,s,ov)) (hn:nhDst σ o=true) {res nw res':AV} (hc:CallX P f l j ov new res) (hs:newSlot (gt σ s) ov new=some nw) (hr:newRes s ov res=some res') :
 AStep P o σ (dstRd o++s::orrL xs) [] ((s,nw)::callEff o res'):=by
 intro E σ' a w hag _ ⟨τ,M,hI⟩ K Q hK
 have hgs:gt σ' s=gt σ s:=hag.2 s (by simp)
 have hx':=argsXA_congr xs l j s ov hx (fun t ht=>hag.2 t (by simp [ht])) hgs
 obtain ⟨hlen,⟨x,hxj,hview⟩,hdat⟩:=argsXA_get hI xs l j s ov hx'
 have hjl:j<l.length:=by rw [hlen];exact (List.getElem?_eq_some_iff.1 hxj).1
 have hvj:(xs.map a.eval)[j]? = some (a.eval x):=by simp [hxj]
 have mk:∀ av:AV,XOk M w (a.eval x) av→RdXL M w (xs.map a.eval) (l.set j av) j:=fun av hX=>
  ⟨by simp [hlen],fun i v av' hv hav hne=>by
   rw [List.getElem?_set_ne (Ne.symm hne)] at hav
   rw [List.getElem?_map] at hv
   simp only [Option.map_eq_some_iff] at hv
   obtain ⟨y,hy,rfl⟩:=hv
   exact hdat i y av' hy hav hne,a.eval x,av,hvj,by simp [hjl],hX⟩
 have fin:∀(w':World) (v:Value),RelI E τ M (σ'.set s nw) a w'→nw.holder=true→SlotOk M w' τ a.tmps v res'→(∀ t,¬res'.hasTok t)→res'.holder=false→
  (∀(s':Nat) (b:Bool),res'.rf=some (s',b)→s'=s∧b=false∧nw.isArr=true)→K (a.put o.dst v) w':=fun w' v hI' hnw h1 h2 h3 h4=>by
  cases hdst:o.dst with
  | none=>
   refine hK _ _ ⟨τ,M,?_⟩
   simp only [callEff,hdst,app]
   exact hI'
  | some d=>
   have hnd:nh σ' d=true:=hag.nh (by simp [dstRd,hdst]) (by simpa [nhDst,hdst] using hn)
   obtain ⟨old,h5,h6⟩:=nh_spec hnd
   have hsl:s<σ'.length:=by
    rcases ownView_ok hI hview with ⟨cs0,_,hb,_⟩ | ⟨pre,c,post,lo,n,cap,_,hg,_⟩
    · exact (List.getElem?_eq_some_iff.1 (gt_some rfl (boxOf_holder hb).2.2)).1
    · exact (List.getElem?_eq_some_iff.1 (gt_some hg (by simp))).1
   have hds:d≠s:=fun e=>by
    subst e
    have hold:(gt σ' d).holder=true:=by
     rcases ownView_ok hI hview with ⟨cs0,_,hb,_⟩ | ⟨pre,c,post,lo,n,cap,_,hg,_⟩
     · exact (boxOf_holder hb).1
     · rw [hg];rfl
    have:gt σ' d=old:=by unfold gt;rw [h5];rfl
    rw [this,h6] at hold;cases hold
   refine hK _ _ ⟨τ,M,?_⟩
   simp only [callEff,hdst,app]
   refine hI'.put (by rw [List.getElem?_set_ne (Ne.symm hds)];exact h5) h6 v res' h3 h1 (fun s' b hr'=>?_) (fun t ht=>absurd ht (h2 t))
   obtain ⟨rfl,rfl,harr⟩:=h4 s' b hr'
   exact ⟨nw,by simp [hsl],by simpa [AV.fits] using harr⟩
 have data:res'.holder=false→∀(w':World) (v:Value),RdR M w' v res'→SlotOk M w' τ a.tmps v res'∧(∀ t,¬res'.hasTok t)∧res'.rf=none:=fun hh w' v hr=>by
  have:=hr.slot (τ:=τ) (tm:=a.tmps) hh
  exact ⟨this.1,this.2.1,this.2.2.2⟩
 have hM:∀ av,gt σ' s=av→av.holder=true→∀ o,M (blk (a.tmps.getD s Go.undef)) o:=fun av hg hh=>
  (hI.hold s av (gt_some hg (fun e=>by rw [e] at hh;cases hh)) hh).1
 unfold Oper.wp
 have henter:∀ hcall:Callable P f,(execOp a.eval o).run P w=.ok (.enter f (xs.map a.eval).toArray) w:=fun hcall=>by
  simp [execOp,ho,resolve,Deferred.ofValue,Act.eval,invoke,run_callFunc hcall]
 rcases ownView_ok hI hview with ⟨cs0,rfl,hb,hex⟩ | ⟨pre,c,post,lo,n,cap,rfl,hg,hfit,hex,hncap,hcap⟩
 · cases new with
   | wn _ _ _=>exact hc.elim
   | bx cs'=>
    have hc:CallsX P f (l.set j (.obx (bareL cs0))) j (.obx cs') res:=hc
    rw [henter hc.1]
    obtain ⟨b,vs,T,e1,hheap,hrd⟩:=boxOf_ok (hI.gt s) hb
    have hh:=(boxOf_holder hb).1
    have hX:XOk M w (a.eval x) (.obx (bareL cs0)):=⟨⟨b,vs,T,hex.trans e1,hheap,hrd.bare.noTokRd⟩,rfl,rfl,fun t ht=>hrd.bare.noTok ht,by rw [hex];exact hM _ rfl hh⟩
    refine (hc.2 M w _ hI.mb (mk _ hX)).mono ?_
    rintro e w' ⟨v,vj,rfl,hvj',hbx,hX',hres⟩
    rw [hvj] at hvj';cases hvj'
    show K (a.put o.dst v) w'
    rw [hex] at hbx hX'
    rw [hgs] at hb hh
    have hnw:nw=(gt σ s).reBox cs':=by simp [newSlot] at hs;exact hs.symm
    have hkind:nw.boxOf=some cs'∧nw.holder=true∧(∀ b,(gt σ s).fits b=true→nw.fits b=true)∧nw.fresh=(gt σ s).fresh:=by
     rw [hnw]
     generalize gt σ s=g at hb
     cases g<;>first | exact ⟨rfl,rfl,fun b hf=>by cases b<;>first | exact hf | rfl,rfl⟩ | cases hb
    have hsl:=hX'.slot τ a.tmps
    have hI':=hI.turn (s:=s) (old:=gt σ s) (new:=nw) (gt_some hgs (boxOf_holder hb).2.2) hh hkind.2.1 hkind.2.2.1 hkind.2.2.2 hbx (by
     have h1:=hkind.1
     cases nw<;>first | (cases h1;exact hsl) | cases h1) (fun t ht=>by
     rw [boxOf_tok hkind.1] at ht
     exact absurd ht (hX'.2.2.2.1 t))
    cases res with
    | awn _ _ _ _=>cases hr
    | asl _=>cases hr
    | _=>
     cases hr
     obtain ⟨h1,h2,h3⟩:=data hres.1 w' v hres.2
     exact fin w' v hI' hkind.2.1 h1 h2 hres.1 (fun s' b hr'=>by rw [h3] at hr';cases hr')
 · cases new with
   | bx _=>exact hc.elim
   | wn c' lo2 n2=>
    have hc:∀ pre q,CallsX P f (l.set j (.arr pre (c.sub lo n) (some q))) j (.arr pre c' (some q)) res:=hc
    have hss:=hI.gt s
    rw [hg] at hss
    obtain ⟨b,T,vs,q,capS,e1,hheap,hrd,hpost,hu,hcS,hcS'⟩:=hss
    obtain ⟨su,scnt,sesz,sflat⟩:=Cell.sub_flat hu hfit
    have hfl:=Cell.flat_len hu
    have hvl:=hrd.length
    have hle:(lo+n)*c.esz≤c.cnt*c.esz:=Nat.mul_le_mul_right _ hfit
    have hmul:(lo+n)*c.esz=lo*c.esz+n*c.esz:=Nat.add_mul _ _ _
    have hcap2:(lo+cap)*c.esz≤capS*c.esz:=Nat.mul_le_mul_right _ (by rw [e1] at hcap;exact hcap)
    have hmul2:(lo+cap)*c.esz=lo*c.esz+cap*c.esz:=Nat.add_mul _ _ _
    have hbb:blk (a.tmps.getD s Go.undef)=b:=by rw [e1];rfl
    rw [hbb] at hex
    have hc1:=hc (pre++vs.take (lo*c.esz)) (vs.drop ((lo+n)*c.esz)++q)
    rw [henter hc1.1]
    have hpl:(pre++vs.take (lo*c.esz)).length=pre.length+lo*c.esz:=by simp;omega
    have hsplit:pre++(vs++q)=(pre++vs.take (lo*c.esz))++((vs.drop (lo*c.esz)).take (n*c.esz)++(vs.drop ((lo+n)*c.esz)++q)):=by
     have e2:vs=vs.take (lo*c.esz)++((vs.drop (lo*c.esz)).take (n*c.esz)++vs.drop ((lo+n)*c.esz)):=by
      rw [hmul,←List.drop_drop,List.take_append_drop,List.take_append_drop]
     conv=>lhs;rw [e2]
     simp
    have hMb:∀ o,M b o:=by have:=hM _ hg rfl;rw [hbb] at this;exact this
    have hX:XOk M w (a.eval x) (.arr (pre++vs.take (lo*c.esz)) (c.sub lo n) (some (vs.drop ((lo+n)*c.esz)++q))):=by
     refine ⟨⟨b,T,(vs.drop (lo*c.esz)).take (n*c.esz),vs.drop ((lo+n)*c.esz)++q,cap,by rw [hex,hpl,scnt],by rw [hheap,hsplit],?_,(by intro p hp;cases hp;rfl),su,by rw [scnt];exact hncap,?_⟩,rfl,rfl,fun t ht=>ht,by rw [hex];exact hMb⟩
     · rw [sflat];exact (hrd.drop _).take _
     · rw [sesz]
       simp only [List.length_take,List.length_drop,List.length_append]
       omega
    refine (hc1.2 M w _ hI.mb (mk _ hX)).mono ?_
    rintro e w' ⟨v,vj,rfl,hvj',hbx,hX',hres⟩
    rw [hvj] at hvj';cases hvj'
    show K (a.put o.dst v) w'
    have hgS:gt σ s=.arr pre c post:=hgs▸hg
    simp only [newSlot,hgS,Option.map_eq_some_iff] at hs
    obtain ⟨c2,hspl,rfl⟩:=hs
    obtain ⟨⟨b',T',us,q',cap',e3,hheap',hrd',hq',hu',hcnt',hcap'⟩,_⟩:=hX'
    rw [hex] at e3
    simp only [hpl,Value.slice.injEq,Option.some.injEq,Addr.mk.injEq,and_true] at e3
    obtain ⟨rfl,hcn,rfl⟩:=e3
    have:=hq' _ rfl
    subst this
    obtain ⟨u2,cnt2,esz2,esz',flat2⟩:=Cell.splice_ok hu hu' hspl (by omega)
    have hbx':BelowX (blk (a.tmps.getD s Go.undef)) w w':=by rw [hbb];rw [hex] at hbx;exact hbx
    have hk:=hbx'.keeps (M:=M) (by rw [hbb];exact hMb)
    have hul:us.length=n*c.esz:=by rw [hrd'.length,Cell.flat_len hu',←hcn,esz']
    have hsl:SlotOk M w' τ a.tmps (a.tmps.getD s Go.undef) (.arr pre c2 post):=by
     refine ⟨b,T',vs.take (lo*c.esz)++us++vs.drop ((lo+n)*c.esz),q,capS,by rw [e1,cnt2],?_,?_,hpost,u2,by rw [cnt2];exact hcS,?_⟩
     · rw [hheap'];simp
     · rw [flat2,←hcn]
       exact (((hrd.keep hk).take _).append hrd').append ((hrd.keep hk).drop _)
     · rw [esz2]
       simp only [List.length_append,List.length_take,List.length_drop,hul]
       omega
    have hI':=hI.turn (s:=s) (old:=.arr pre c post) (new:=.arr pre c2 post) (gt_some hg (by simp)) rfl rfl (fun b hf=>by cases b<;>first | exact hf | rfl) (by cases post<;>rfl) hbx' hsl (fun t ht=>ht.elim)
    cases res with
    | asl _=>cases hr
    | awn s0 m lo' n'=>
     simp only [newRes] at hr
     split at hr
     · rename_i hm
       subst hm
       cases hr
       obtain ⟨ad,cap2,e4,had,h1,h2⟩:=hres
       rw [hex] at had h2
       simp only [blk,offV,capV] at had h2
       refine fin w' v hI' rfl ⟨ad,cap2,e4,fun hor=>?_,h1,by rw [e1];rw [e1] at hcap;simp only [capV] at hcap ⊢;omega⟩ (fun t ht=>ht) rfl (fun s' b' hr'=>?_)
       · rw [had (by omega),hbb,e1]
         simp only [offV]
         rw [Nat.add_mul,←Nat.add_assoc]
       · simp only [AV.rf,Option.some.injEq,Prod.mk.injEq] at hr'
         exact ⟨hr'.1.symm,hr'.2.symm,rfl⟩
     · cases hr
    | _=>
     cases hr
     obtain ⟨h1,h2,h3⟩:=data hres.1 w' v hres.2
     exact fin w' v hI' rfl h1 h2 hres.1 (fun s' b hr'=>by rw [h3] at hr';cases hr')
end Go.Slot
