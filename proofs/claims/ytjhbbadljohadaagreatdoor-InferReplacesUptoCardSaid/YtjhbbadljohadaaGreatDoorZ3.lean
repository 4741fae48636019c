/- The proof, part Z3: Mm, Mn, Mt. -/
import Derived.Test.YtjhbbadljohadaaGreatDoorZ2
namespace Go.Slot
open Go Go.RowKit
variable {P:Program}
def GStep (P:Program) (ops:Array Oper) (o:Oper) (σ:List AV) (rd tk:List Nat) (eff:List (Nat×AV)):Prop:=
 (∀ t∈tk,∀ i,(gt σ i).hasTok t→i∈rd)∧
 ∀(E:Env) (σ':List AV) (a:Act) (w:World),agree rd σ σ'→(∀ t∈tk,∀ i,(gt σ' i).hasTok t→i∈rd)→Rel E σ' a w→∀(K:Act→World→Prop) (Q:Exit→Act→World→Prop),
  (∀ a' w',Rel E (app eff σ') a' w'→K a' w')→if Region.wanted o (yielded ops a.tmps) then o.wp P a w K Q else K (a.put o.dst Go.undef) w
theorem GStep.plain {ops:Array Oper} {o:Oper} {σ:List AV} {rd tk:List Nat} {eff:List (Nat×AV)} (hg:o.guard=none) (ht:∀ t∈tk,∀ i,(gt σ i).hasTok t→i∈rd) (h:AStep P o σ rd tk eff):GStep P ops o σ rd tk eff:=
 ⟨ht,fun E σ' a w hag htk hR K Q hK=>by simp only [Region.wanted,hg,if_true];exact h E σ' a w hag htk hR K Q hK⟩
theorem agree.sub {rd rd':List Nat} {σ σ':List AV} (h:agree rd σ σ') (hs:∀ r∈rd',r∈rd):agree rd' σ σ':=⟨h.1,fun r hr=>h.2 r (hs r hr)⟩
theorem yielded_of {ops:Array Oper} {j d:Nat} (hj:(ops[j]?).bind (·.dst)=some d) {E:Env} {τ:Nat→TV} {M:Nat→Nat→Prop} {σ:List AV} {a:Act} {w:World} (hI:RelI E τ M σ a w) :
 (∀ b,gt σ d=.one (.raw (.bool b))→yielded ops a.tmps j=some b)∧(gt σ d=.undef→yielded ops a.tmps j=none):=by
 have hs:=hI.gt d
 unfold yielded
 rw [hj]
 simp only [Option.bind_some]
 constructor
 · intro b hb
   rw [hb] at hs
   have e:a.tmps.getD d Go.undef=.bool b:=RdC.raw_inv hs
   have hlt:d<a.tmps.size:=hI.lt (gt_some hb (by simp))
   rw [Array.getElem?_eq_getElem hlt]
   rw [Array.getD_eq_getD_getElem?,Array.getElem?_eq_getElem hlt] at e
   simp at e
   rw [e]
 · intro hb
   rw [hb] at hs
   have e:a.tmps.getD d Go.undef=Go.undef:=hs
   have hlt:d<a.tmps.size:=hI.lt (gt_some hb (by simp))
   rw [Array.getElem?_eq_getElem hlt]
   rw [Array.getD_eq_getD_getElem?,Array.getElem?_eq_getElem hlt] at e
   simp at e
   rw [e]
   rfl
theorem GStep.taken {ops:Array Oper} {o:Oper} {σ:List AV} {rd:List Nat} {eff:List (Nat×AV)} {j d:Nat} {b:Bool} (hg:o.guard=some (j,b)) (hj:(ops[j]?).bind (·.dst)=some d)
 (hd:gt σ d=.one (.raw (.bool b))) (h:AStep P o σ rd [] eff):GStep P ops o σ (d::rd) [] eff:=by
 refine ⟨(by intro t ht;cases ht),?_⟩
 intro E σ' a w hag _ hR K Q hK
 obtain ⟨τ,M,hI⟩:=hR
 have hy:=(yielded_of hj hI).1 b (by rw [hag.2 d (by simp)];exact hd)
 simp only [Region.wanted,hg,hy,beq_self_eq_true,if_true]
 exact h E σ' a w (hag.sub (fun r hr=>by simp [hr])) (fun t ht=>by cases ht) ⟨τ,M,hI⟩ K Q hK
theorem GStep.skipped {ops:Array Oper} {o:Oper} {σ:List AV} {j d:Nat} {b:Bool} (hg:o.guard=some (j,b)) (hj:(ops[j]?).bind (·.dst)=some d)
 (hd:gt σ d=.one (.raw (.bool (!b)))∨gt σ d=.undef) {e:Nat} (ho:o.dst=some e) (hn:nh σ e=true):GStep P ops o σ [d,e] [] [(e,.undef)]:=by
 refine ⟨(by intro t ht;cases ht),?_⟩
 intro E σ' a w hag _ hR K Q hK
 obtain ⟨τ,M,hI⟩:=hR
 have hw:Region.wanted o (yielded ops a.tmps)=false:=by
  rcases hd with hd | hd
  · have hy:=(yielded_of hj hI).1 (!b) (by rw [hag.2 d (by simp)];exact hd)
    simp only [Region.wanted,hg,hy]
    cases b<;>rfl
  · have hy:=(yielded_of hj hI).2 (by rw [hag.2 d (by simp)];exact hd)
    simp only [Region.wanted,hg,hy]
    rfl
 simp only [hw,Bool.false_eq_true,if_false]
 obtain ⟨old,h1,h2⟩:=nh_spec (hag.nh (by simp) hn)
 rw [ho]
 exact hK _ _ ⟨τ,M,hI.put h1 h2 Go.undef .undef rfl rfl (fun s b hr=>by cases hr) (fun t ht=>ht.elim)⟩
def Run (P:Program) (ops:Array Oper):List Oper→List AV→(List AV→Prop)→Prop
 | [],σ,K=>K σ
 | o::r,σ,K=>∃ rd tk eff,GStep P ops o σ rd tk eff∧Run P ops r (app eff σ) K
theorem Run.wpList {ops:Array Oper} {E:Env} {Q:Exit→Act→World→Prop} {K:List AV→Prop} (hQ:∀ σ a w,K σ→Rel E σ a w→Q .normal a w):∀(l:List Oper) (σ:List AV) (a:Act) (w:World),
 Run P ops l σ K→Rel E σ a w→Go.wpList P ops Q l a w
 | [],σ,a,w,h,hR=>hQ σ a w h hR
 | o::r,σ,a,w,⟨rd,tk,eff,hg,hr⟩,hR=>by
  refine wpList_step (fun K' hK'=>?_)
  exact hg.2 E σ a w ⟨rfl,fun _ _=>rfl⟩ hg.1 hR K' Q (fun a' w' hR'=>hK' _ _ (Run.wpList hQ r (app eff σ) a' w' hr hR'))
structure SR where
 rd:List Nat
 tk:List Nat
 eff:List (Nat×AV)
def SR.writes (s:SR):List Nat:=s.eff.map (·.1)
def direct (o:Oper):List Nat:=(o.after.toList.filter (Region.binds .any)).map (·.on)
def befs:List Oper→List (List Nat)→List (List Nat)
 | [],acc=>acc
 | o::r,acc=>befs r (acc++[(direct o++(direct o).flatMap fun d=>acc.getD d []).eraseDups])
def apartB (s t:SR) (σi σj:List AV):Bool:=
 (s.writes.all fun x=>!t.rd.contains x)&&(t.writes.all fun x=>!s.rd.contains x)&&
 (t.tk.all fun x=>s.eff.all fun p=>p.2.noTok x&&(gt σi p.1).noTok x)&&(s.tk.all fun x=>t.eff.all fun p=>p.2.noTok x&&(gt σj p.1).noTok x)
def states:List SR→List AV→List (SR×List AV)
 | [],_=>[]
 | s::r,σ=>(s,σ)::states r (app s.eff σ)
def indepB (bs:List (List Nat)):Nat→List (SR×List AV)→List (SR×List AV)→Bool
 | _,_,[]=>true
 | j,before,x::r=>(before.zipIdx.all fun (y,i)=>(bs.getD j []).contains i||apartB y.1 x.1 y.2 x.2)&&indepB bs (j+1) (before++[x]) r
def edgesOk:Nat→List Oper→Bool
 | _,[]=>true
 | j,o::r=>(direct o).all (· < j)&&edgesOk (j+1) r
def indep (l:List Oper) (recs:List SR) (σ:List AV):Bool:=
 edgesOk 0 l&&(recs.all fun s=>s.writes.all fun x=>s.rd.contains x)&&indepB (befs l []) 0 [] (states recs σ)
def RunD (P:Program) (ops:Array Oper) (l:List Oper) (σ0:List AV):List Oper→List SR→List AV→(List AV→Prop)→Prop
 | [],acc,σ,K=>indep l acc σ0=true∧K σ
 | o::r,acc,σ,K=>∃ rd tk eff,GStep P ops o σ rd tk eff∧RunD P ops l σ0 r (acc++[⟨rd,tk,eff⟩]) (app eff σ) K
def ev (eff:List (Nat×AV)) (r:Nat):Option AV:=(eff.reverse.find? (fun p=>p.1==r)).map (·.2)
theorem gt_app' (eff:List (Nat×AV)) {σ:List AV} {r:Nat} (h:r<σ.length):gt (app eff σ) r=(ev eff r).getD (gt σ r):=gt_app eff σ r h
theorem ev_none {eff:List (Nat×AV)} {r:Nat} (h:r∉eff.map (·.1)):ev eff r=none:=by
 unfold ev
 rw [Option.map_eq_none_iff,List.find?_eq_none]
 intro p hp
 simp only [beq_iff_eq]
 exact fun e=>h (List.mem_map.2 ⟨p,by simpa using hp,e⟩)
theorem ev_some {eff:List (Nat×AV)} {r:Nat} (h:r∈eff.map (·.1)):∃ v,ev eff r=some v∧(r,v)∈eff:=by
 unfold ev
 obtain ⟨p,hp,he⟩:=List.mem_map.1 h
 cases hf:eff.reverse.find? (fun p=>p.1==r) with
 | none=>rw [List.find?_eq_none] at hf;exact absurd (by simpa using he) (hf p (by simpa using hp))
 | some q=>
  refine ⟨q.2,rfl,?_⟩
  have h1:=List.find?_some hf
  have h2:=List.mem_of_find?_eq_some hf
  simp only [beq_iff_eq] at h1
  rw [←h1]
  simpa using h2
section any
variable (recs:List SR) (σ0:List AV)
def st (X:Nat→Bool):Nat→List AV
 | 0=>σ0
 | n+1=>if X n then app (recs.getD n ⟨[],[],[]⟩).eff (st X n) else st X n
theorem st_length (X:Nat→Bool):∀ n,(st recs σ0 X n).length=σ0.length
 | 0=>rfl
 | n+1=>by
  unfold st
  split
  · rw [app_length,st_length X n]
  · exact st_length X n
def wr (i:Nat):List Nat:=(recs.getD i ⟨[],[],[]⟩).writes
theorem st_agree {X Y:Nat→Bool} {r:Nat} (hr:r<σ0.length):∀ n,(∀ i,i<n→r∈wr recs i→X i=Y i)→gt (st recs σ0 X n) r=gt (st recs σ0 Y n) r
 | 0,_=>rfl
 | n+1,h=>by
  have ih:=st_agree hr n (fun i hi=>h i (by omega))
  by_cases hw:r∈wr recs n
  · have e:=h n (by omega) hw
    unfold st
    rw [←e]
    split
    · rw [gt_app' _ (by rw [st_length];exact hr),gt_app' _ (by rw [st_length];exact hr),ih]
    · exact ih
  · have hn:ev (recs.getD n ⟨[],[],[]⟩).eff r=none:=ev_none hw
    have one:∀ Z,gt (st recs σ0 Z (n+1)) r=gt (st recs σ0 Z n) r:=fun Z=>by
     show gt (if Z n then _ else _) r=_
     split
     · rw [gt_app' _ (by rw [st_length];exact hr),hn];rfl
     · rfl
    rw [one,one,ih]
theorem st_last {Z:Nat→Bool} {r j:Nat} (hr:r<σ0.length) (hj:Z j=true) {v:AV} (hv:ev (recs.getD j ⟨[],[],[]⟩).eff r=some v):∀ n,j<n→(∀ i,j<i→i<n→Z i=true→r∉wr recs i)→gt (st recs σ0 Z n) r=v
 | 0,h,_=>absurd h (by omega)
 | n + 1, h, ha => by
  by_cases e:j=n
  · subst e
    unfold st
    rw [if_pos hj,gt_app' _ (by rw [st_length];exact hr),hv];rfl
  · have ih:=st_last hr hj hv n (by omega) (fun i h1 h2=>ha i h1 (by omega))
    unfold st
    split
    · rename_i hz
      rw [gt_app' _ (by rw [st_length];exact hr),ev_none (ha n (by omega) (by omega) hz)]
      exact ih
    · exact ih
theorem st_below {X:Nat→Bool} {j:Nat}:∀ n,j≤n→(∀ i,j≤i→i<n→X i=false)→st recs σ0 X n=st recs σ0 X j
 | 0,h,_=>by rw [show j=0 by omega]
 | n+1,h,ha=>by
  by_cases e:j=n+1
  · rw [e]
  · rw [←st_below n (by omega) (fun i h1 h2=>ha i h1 (by omega))]
    show (if X n then _ else _)=_
    rw [ha n (by omega) (by omega)]
    rfl
theorem st_congr {X Y:Nat→Bool}:∀ n,(∀ i,i<n→X i=Y i)→st recs σ0 X n=st recs σ0 Y n
 | 0,_=>rfl
 | n+1,h=>by
  unfold st
  rw [h n (by omega),st_congr n (fun i hi=>h i (by omega))]
variable (N:Nat) (bef:Nat→List Nat)
structure Indep:Prop where
 lt:∀ j i,i∈bef j→i<j
 rdw:∀ j,j<N→∀ x∈wr recs j,x∈(recs.getD j ⟨[],[],[]⟩).rd
 ap:∀ i j,i<j→j<N→i∉bef j→apartB (recs.getD i ⟨[],[],[]⟩) (recs.getD j ⟨[],[],[]⟩) (st recs σ0 (fun _=>true) i) (st recs σ0 (fun _=>true) j)=true
variable {recs σ0 N bef}
theorem Indep.disj (h:Indep recs σ0 N bef) {i j:Nat} (hi:i<N) (hj:j<N) (hne:i≠j) (h1:i∉bef j) (h2:j∉bef i) {r:Nat} (hr:r∈(recs.getD j ⟨[],[],[]⟩).rd):r∉wr recs i:=by
 intro hw
 rcases Nat.lt_or_ge i j with hlt | hge
 · have:=h.ap i j hlt hj h1
   simp only [apartB,Bool.and_eq_true] at this
   have h3:=(List.all_eq_true.1 this.1.1.1) r hw
   simp at h3
   exact h3 hr
 · have:=h.ap j i (by omega) hi h2
   simp only [apartB,Bool.and_eq_true] at this
   have h3:=(List.all_eq_true.1 this.1.1.2) r hw
   simp at h3
   exact h3 hr
theorem Indep.tok (h:Indep recs σ0 N bef) {i j:Nat} (hi:i<N) (hj:j<N) (hne:i≠j) (h1:i∉bef j) (h2:j∉bef i) {t:Nat} (ht:t∈(recs.getD j ⟨[],[],[]⟩).tk) {r:Nat} {v:AV} (hv:(r,v)∈(recs.getD i ⟨[],[],[]⟩).eff) :
 ¬v.hasTok t∧¬(gt (st recs σ0 (fun _=>true) i) r).hasTok t:=by
 have key:(v.noTok t&&(gt (st recs σ0 (fun _=>true) i) r).noTok t)=true:=by
  rcases Nat.lt_or_ge i j with hlt | hge
  · have:=h.ap i j hlt hj h1
    simp only [apartB,Bool.and_eq_true] at this
    exact (List.all_eq_true.1 ((List.all_eq_true.1 this.1.2) t ht)) (r,v) hv
  · have:=h.ap j i (by omega) hi h2
    simp only [apartB,Bool.and_eq_true] at this
    exact (List.all_eq_true.1 ((List.all_eq_true.1 this.2) t ht)) (r,v) hv
 simp only [Bool.and_eq_true] at key
 exact ⟨AV.noTok_spec key.1,AV.noTok_spec key.2⟩
structure Next (bef:Nat→List Nat) (X:Nat→Bool) (j:Nat):Prop where
 closed:∀ k,X k=true→∀ i∈bef k,X i=true
 out:X j=false
 all:∀ i∈bef j,X i=true
theorem text_state (j:Nat) (hj:j≤N):st recs σ0 (fun i=>decide (i<j)) N=st recs σ0 (fun _=>true) j:=by
 rw [st_below recs σ0 N hj (fun i h1 _=>by simp;omega)]
 exact st_congr recs σ0 j (fun i hi=>by simp [hi])
theorem Next.agree (h:Indep recs σ0 N bef) {X:Nat→Bool} {j:Nat} (hj:j<N) (hX:Next bef X j):agree (recs.getD j ⟨[],[],[]⟩).rd (st recs σ0 (fun _=>true) j) (st recs σ0 X N):=by
 refine ⟨by rw [st_length,st_length],fun r hr=>?_⟩
 by_cases hlen:r<σ0.length
 · rw [← text_state (N := N) j (by omega)]
   refine st_agree recs σ0 hlen N (fun i hi hw=>?_)
   by_cases e:i=j
   · subst e;rw [hX.out];simp
   · by_cases h1:i∈bef j
     · rw [hX.all i h1];simp [h.lt j i h1]
     · by_cases h2:j∈bef i
       · have h3:X i=false:=by
          cases hx:X i with
          | false=>rfl
          | true=>have:=hX.closed i hx j h2;rw [hX.out] at this;cases this
         have:=h.lt i j h2
         rw [h3];simp;omega
       · exact absurd hw (h.disj hi hj e h1 h2 hr)
 · have e1:∀ Z n,gt (st recs σ0 Z n) r=.any:=fun Z n=>by
    unfold gt;rw [List.getElem?_eq_none (by rw [st_length];omega)];rfl
   rw [e1,e1]
theorem Next.tok (h : Indep recs σ0 N bef) {X : Nat → Bool} {j : Nat} (hj : j < N) (hX : Next bef X j) {t : Nat} (ht : t ∈ (recs.getD j ⟨[], [], []⟩).tk) {r : Nat} (hr : (gt (st recs σ0 X N) r).hasTok t) :
 (gt (st recs σ0 (fun _=>true) j) r).hasTok t:=by
 by_cases hlen:r<σ0.length
 · rw [← text_state (N := N) j (by omega)]
   have key:∀ n,n≤N→(gt (st recs σ0 X n) r).hasTok t→(gt (st recs σ0 (fun i=>decide (i<j)) n) r).hasTok t:=by
    intro n
    induction n with
    | zero=>exact fun _ h=>h
    | succ n ih=>
     intro hn hh
     have ih:=ih (by omega)
     have hX1:gt (st recs σ0 X (n+1)) r=if X n then (ev (recs.getD n ⟨[],[],[]⟩).eff r).getD (gt (st recs σ0 X n) r) else gt (st recs σ0 X n) r:=by
      show gt (if X n then _ else _) r=_
      split
      · rw [gt_app' _ (by rw [st_length];exact hlen)]
      · rfl
     have hY1:gt (st recs σ0 (fun i=>decide (i<j)) (n+1)) r=if decide (n<j) then (ev (recs.getD n ⟨[],[],[]⟩).eff r).getD (gt (st recs σ0 (fun i=>decide (i<j)) n) r) else gt (st recs σ0 (fun i=>decide (i<j)) n) r:=by
      show gt (if decide (n<j) then _ else _) r=_
      split
      · rw [gt_app' _ (by rw [st_length];exact hlen)]
      · rfl
     rw [hX1] at hh
     rw [hY1]
     by_cases hw:r∈wr recs n
     · obtain ⟨v,hv,hvm⟩:=ev_some hw
       rw [hv] at hh ⊢
       simp only [Option.getD_some] at hh ⊢
       by_cases e:n=j
       · subst e
         rw [hX.out] at hh
         simp only [Bool.false_eq_true,if_false] at hh
         simpa using ih hh
       · by_cases h1:n∈bef j
         · rw [hX.all n h1] at hh
           have:=h.lt j n h1
           simp only [this,decide_true,if_true]
           simpa using hh
         · by_cases h2:j∈bef n
           · have hlt:=h.lt n j h2
             have h3:X n=false:=by
              cases hx:X n with
              | false=>rfl
              | true=>have:=hX.closed n hx j h2;rw [hX.out] at this;cases this
             rw [h3] at hh
             have h4:¬n<j:=by omega
             simp only [h4,decide_false,Bool.false_eq_true,if_false]
             simp only [Bool.false_eq_true,if_false] at hh
             exact ih hh
           · obtain ⟨hnv,hno⟩:=h.tok (by omega) hj e h1 h2 ht hvm
             cases hx:X n with
             | true=>rw [hx] at hh;exact absurd hh hnv
             | false=>
              rw [hx] at hh
              simp only [Bool.false_eq_true,if_false] at hh
              have hih:=ih hh
              split
              · rename_i hlt
                exfalso
                refine hno ?_
                have hlt':n<j:=by simpa using hlt
                have:st recs σ0 (fun i=>decide (i<j)) n=st recs σ0 (fun _=>true) n:=st_congr recs σ0 n (fun i hi=>by simp;omega)
                rw [←this];exact hih
              · exact hih
     · have hn':ev (recs.getD n ⟨[],[],[]⟩).eff r=none:=ev_none hw
       rw [hn'] at hh ⊢
       simp only [Option.getD_none,ite_self] at hh ⊢
       exact ih hh
   exact key N (Nat.le_refl _) hr
 · exfalso
   unfold gt at hr
   rw [List.getElem?_eq_none (by rw [st_length];omega)] at hr
   exact hr
theorem Next.step (h:Indep recs σ0 N bef) {X:Nat→Bool} {j:Nat} (hj:j<N) (hX:Next bef X j):app (recs.getD j ⟨[],[],[]⟩).eff (st recs σ0 X N)=st recs σ0 (fun i=>X i||i==j) N:=by
 apply ext_gt
 · rw [app_length,st_length,st_length]
 · intro r hr
   rw [app_length,st_length] at hr
   rw [gt_app' _ (by rw [st_length];exact hr)]
   by_cases hw:r∈wr recs j
   · obtain ⟨v,hv,_⟩:=ev_some hw
     rw [hv]
     refine (st_last recs σ0 hr (by simp) hv N hj (fun i hji hi hz=>?_)).symm
     simp only [Bool.or_eq_true,beq_iff_eq] at hz
     have hXi:X i=true:=hz.resolve_right (by omega)
     refine h.disj hi hj (by omega) (fun hb=>by have:=h.lt j i hb;omega) (fun hb=>?_) (h.rdw j hj r hw)
     have:=hX.closed i hXi j hb
     rw [hX.out] at this;cases this
   · rw [ev_none hw]
     refine st_agree recs σ0 hr N (fun i _ hwi=>?_)
     have:i≠j:=fun e=>hw (e▸hwi)
     simp [this]
theorem Next.grow {X:Nat→Bool} {j:Nat} (hX:Next bef X j):∀ k,(X k||k==j)=true→∀ i∈bef k,(X i||i==j)=true:=fun k hk i hi=>by
 simp only [Bool.or_eq_true,beq_iff_eq] at hk ⊢
 rcases hk with hk | rfl
 · exact .inl (hX.closed k hk i hi)
 · exact .inl (hX.all i hi)
end any
theorem befs_get (l:List Oper):∀(acc:List (List Nat)) (j:Nat),(∀ i∈(befs l acc).getD j [],j<acc.length→i∈acc.getD j [])∧(j<acc.length→(befs l acc).getD j []=acc.getD j []):=by
 induction l with
 | nil=>intro acc j;exact ⟨fun i hi _=>hi,fun _=>rfl⟩
 | cons o l ih=>
  intro acc j
  have hkeep:j<acc.length→(befs (o::l) acc).getD j []=acc.getD j []:=fun hj=>by
   simp only [befs]
   rw [(ih _ j).2 (by simp;omega)]
   simp [List.getD,List.getElem?_append_left hj]
  exact ⟨fun i hi hj=>by rw [←hkeep hj];exact hi,hkeep⟩
theorem befs_length (l:List Oper):∀ acc,(befs l acc).length=acc.length+l.length:=by
 induction l with
 | nil=>intro acc;simp [befs]
 | cons o l ih=>intro acc;simp only [befs];rw [ih];simp;omega
theorem befs_spec (l:List Oper):∀(acc:List (List Nat)) (j:Nat) (o:Oper),l[j]? = some o→
 ∀ i,i∈(befs l acc).getD (acc.length+j) []↔i∈direct o∨∃ d∈direct o,d<acc.length+j∧i∈(befs l acc).getD d []:=by
 induction l with
 | nil=>intro acc j o h;simp at h
 | cons o' l ih=>
  intro acc j o h i
  cases j with
  | zero=>
   simp at h
   subst h
   have hb:(befs (o'::l) acc).getD acc.length []=(direct o'++(direct o').flatMap fun d=>acc.getD d []).eraseDups:=by
    simp only [befs]
    rw [(befs_get l _ acc.length).2 (by simp)]
    simp [List.getD]
   rw [Nat.add_zero,hb]
   simp only [List.mem_eraseDups,List.mem_append,List.mem_flatMap]
   constructor
   · rintro (h | ⟨d,hd,hi⟩)
     · exact .inl h
     · refine .inr ⟨d,hd,?_⟩
       by_cases hdl:d<acc.length
       · refine ⟨hdl,?_⟩
         rw [show (befs (o'::l) acc).getD d []=acc.getD d [] from (befs_get (o'::l) acc d).2 hdl]
         exact hi
       · simp [List.getD,List.getElem?_eq_none (show acc.length≤d by omega)] at hi
   · rintro (h | ⟨d,hd,hdl,hi⟩)
     · exact .inl h
     · refine .inr ⟨d,hd,?_⟩
       rw [show (befs (o'::l) acc).getD d []=acc.getD d [] from (befs_get (o'::l) acc d).2 hdl] at hi
       exact hi
  | succ j=>
   have:=ih (acc++[(direct o'++(direct o').flatMap fun d=>acc.getD d []).eraseDups]) j o (by simpa using h) i
   simp only [List.length_append,List.length_cons,List.length_nil,Nat.zero_add] at this
   simp only [befs]
   rw [show acc.length+(j+1)=acc.length+1+j by omega]
   exact this
theorem edgesOk_spec:∀(l:List Oper) (k:Nat),edgesOk k l=true→∀(j:Nat) (o:Oper),l[j]? = some o→∀ d∈direct o,d<k+j
 | [],k,_,j,o,h=>by simp at h
 | o'::l,k,h,j,o,ho=>by
  simp only [edgesOk,Bool.and_eq_true] at h
  cases j with
  | zero=>
   simp at ho
   subst ho
   intro d hd
   have:=(List.all_eq_true.1 h.1) d hd
   simpa using this
  | succ j=>
   intro d hd
   have:=edgesOk_spec l (k+1) h.2 j o (by simpa using ho) d hd
   omega
theorem states_get : ∀ (recs : List SR) (σ : List AV) (k : Nat) (s : SR), recs[k]? = some s → (states recs σ)[k]? = some (s, st recs σ (fun _ => true) k) := by
 have gen:∀(recs pre:List SR) (σ0:List AV) (k:Nat) (s:SR),recs[k]? = some s→(states recs (st (pre++recs) σ0 (fun _=>true) pre.length))[k]? = some (s,st (pre++recs) σ0 (fun _=>true) (pre.length+k)):=by
  intro recs
  induction recs with
  | nil=>intro pre σ0 k s h;simp at h
  | cons r recs ih=>
   intro pre σ0 k s h
   cases k with
   | zero=>simp at h;subst h;rfl
   | succ k=>
    have h':recs[k]? = some s:=by simpa using h
    have:=ih (pre++[r]) σ0 k s h'
    simp only [List.append_assoc,List.cons_append,List.nil_append,List.length_append,List.length_cons,List.length_nil,Nat.zero_add] at this
    have hst:st (pre++r::recs) σ0 (fun _=>true) (pre.length+1)=app r.eff (st (pre++r::recs) σ0 (fun _=>true) pre.length):=by
     show (if true then _ else _)=_
     simp [List.getD]
    rw [hst] at this
    simp only [states,List.getElem?_cons_succ]
    rw [this,show pre.length+1+k=pre.length+(k+1) by omega]
 intro recs σ k s h
 have:=gen recs [] σ k s h
 simpa [st] using this
theorem indepB_spec (bs:List (List Nat)):∀(l before:List (SR×List AV)) (j0:Nat),indepB bs j0 before l=true→j0=before.length→
 ∀(i j:Nat) (x y:SR×List AV),i<j→j0≤j→(before++l)[i]? = some x→(before++l)[j]? = some y→i∈bs.getD j []∨apartB x.1 y.1 x.2 y.2=true:=by
 intro l
 induction l with
 | nil=>
  intro before j0 _ hj0 i j x y hij hj hx hy
  have:=(List.getElem?_eq_some_iff.1 hy).1
  simp at this;omega
 | cons z l ih=>
  intro before j0 h hj0 i j x y hij hj hx hy
  simp only [indepB,Bool.and_eq_true] at h
  by_cases e:j=j0
  · subst e
    subst hj0
    rw [List.getElem?_append_right (Nat.le_refl _)] at hy
    simp at hy
    subst hy
    rw [List.getElem?_append_left hij] at hx
    have hm:(x,i)∈before.zipIdx:=by
     rw [List.mem_zipIdx_iff_getElem?];simpa using hx
    have:=(List.all_eq_true.1 h.1) (x,i) hm
    simp only [Bool.or_eq_true,List.contains_iff_mem] at this
    simpa using this
  · refine ih (before++[z]) (j0+1) h.2 (by simp [hj0]) i j x y hij (by omega) ?_ ?_
    · simpa using hx
    · simpa using hy
theorem indep_spec {l:List Oper} {recs:List SR} {σ0:List AV} (hlen:recs.length=l.length) (h:indep l recs σ0=true):Indep recs σ0 l.length (fun j=>(befs l []).getD j []):=by
 simp only [indep,Bool.and_eq_true] at h
 obtain ⟨⟨h1,h2⟩,h3⟩:=h
 have hget:∀ j,j<recs.length→recs[j]? = some (recs.getD j (⟨[],[],[]⟩:SR)):=fun j hj=>by simp [List.getD,List.getElem?_eq_getElem hj]
 refine ⟨?_,fun j hj x hx=>?_,fun i j hij hj hb=>?_⟩
 · intro j
   induction j using Nat.strongRecOn with
   | _ j ih =>
    intro i hi
    by_cases hj:j<l.length
    · have hs:=(befs_spec l [] j l[j] (List.getElem?_eq_getElem hj) i).1 (by simpa using hi)
      have he:=edgesOk_spec l 0 h1 j l[j] (List.getElem?_eq_getElem hj)
      rcases hs with hd | ⟨d,hd,hdl,hi'⟩
      · have:=he i hd;omega
      · have h4:=he d hd
        have h5:=ih d (by omega) i hi'
        omega
    · simp [List.getD,List.getElem?_eq_none (show (befs l []).length≤j by rw [befs_length];simp;omega)] at hi
 · have hm:recs.getD j (⟨[],[],[]⟩:SR)∈recs:=List.mem_of_getElem? (hget j (by omega))
   have:=(List.all_eq_true.1 ((List.all_eq_true.1 h2) _ hm)) x hx
   simpa using this
 · have hi':=states_get recs σ0 i _ (hget i (by omega))
   have hj':=states_get recs σ0 j _ (hget j (by omega))
   exact (indepB_spec (befs l []) (states recs σ0) [] 0 h3 rfl i j _ _ hij (Nat.zero_le _) (by simpa using hi') (by simpa using hj')).resolve_left hb
theorem RunD.chain {ops:Array Oper} {l:List Oper} {σ0:List AV} {K:List AV→Prop}:∀(r pre:List Oper) (acc:List SR) (σ:List AV),RunD P ops l σ0 r acc σ K→pre++r=l→acc.length=pre.length→
 σ=st acc σ0 (fun _=>true) acc.length→(∀(j:Nat) (o:Oper) (s:SR),pre[j]? = some o→acc[j]? = some s→GStep P ops o (st acc σ0 (fun _=>true) j) s.rd s.tk s.eff)→
 ∃ recs:List SR,recs.length=l.length∧indep l recs σ0=true∧K (st recs σ0 (fun _=>true) recs.length)∧∀(j:Nat) (o:Oper) (s:SR),l[j]? = some o→recs[j]? = some s→GStep P ops o (st recs σ0 (fun _=>true) j) s.rd s.tk s.eff:=by
 intro r
 induction r with
 | nil=>
  intro pre acc σ h hl hlen hσ hsteps
  simp only [List.append_nil] at hl
  subst hl
  exact ⟨acc,hlen,h.1,by rw [←hσ];exact h.2,hsteps⟩
 | cons o r ih=>
  intro pre acc σ h hl hlen hσ hsteps
  obtain ⟨rd,tk,eff,hg,hr⟩:=h
  have hpre:∀ n,n≤acc.length→st (acc++[(⟨rd,tk,eff⟩:SR)]) σ0 (fun _=>true) n=st acc σ0 (fun _=>true) n:=by
   intro n
   induction n with
   | zero=>intro _;rfl
   | succ n ihn=>
    intro hn
    show (if true then app ((acc++[(⟨rd,tk,eff⟩:SR)]).getD n (⟨[],[],[]⟩:SR)).eff _ else _)=(if true then app (acc.getD n (⟨[],[],[]⟩:SR)).eff _ else _)
    rw [ihn (by omega)]
    simp [List.getD,List.getElem?_append_left (show n<acc.length by omega)]
  refine ih (pre++[o]) (acc++[⟨rd,tk,eff⟩]) (app eff σ) hr (by rw [←hl];simp) (by simp [hlen]) ?_ ?_
  · simp only [List.length_append,List.length_cons,List.length_nil]
    show _=(if true then app ((acc++[(⟨rd,tk,eff⟩:SR)]).getD acc.length (⟨[],[],[]⟩:SR)).eff (st _ σ0 _ acc.length) else _)
    rw [hpre acc.length (Nat.le_refl _),hσ]
    simp [List.getD]
  · intro j o' s ho hs
    by_cases e:j<pre.length
    · rw [List.getElem?_append_left e] at ho
      rw [List.getElem?_append_left (by omega)] at hs
      rw [hpre j (by omega)]
      exact hsteps j o' s ho hs
    · have hj:j=pre.length:=by
       have:=(List.getElem?_eq_some_iff.1 ho).1
       simp at this;omega
      subst hj
      simp at ho
      subst ho
      rw [←hlen] at hs ⊢
      simp at hs
      subst hs
      rw [hpre _ (Nat.le_refl _),←hσ]
      exact hg
theorem wpAny_of {ops:Array Oper} {recs:List SR} {σ0:List AV} (hind:Indep recs σ0 ops.size (fun j=>(befs ops.toList []).getD j [])) (hlen:recs.length=ops.size) (hedge:edgesOk 0 ops.toList=true)
 (hsteps:∀(j:Nat) (o:Oper) (s:SR),ops.toList[j]? = some o→recs[j]? = some s→GStep P ops o (st recs σ0 (fun _=>true) j) s.rd s.tk s.eff) {E:Env} {Q:Exit→Act→World→Prop}
 (hQ:∀ a w,Rel E (st recs σ0 (fun _=>true) ops.size) a w→Q .normal a w):∀(fuel:Nat) (listed:Array Bool) (a:Act) (w:World),listed.size=ops.size→
   (listed.toList.filter (! ·)).length≤fuel→(∀ k,listed.getD k false=true→∀ i∈(befs ops.toList []).getD k [],listed.getD i false=true)→
   Rel E (st recs σ0 (fun i=>listed.getD i false) ops.size) a w→wpAny P .any ops Q fuel listed a w:=by
 have done:∀(listed:Array Bool),listed.size=ops.size→Region.ready .any ops listed=[]→∀ i,i<ops.size→listed.getD i false=true:=by
  intro listed hsz hr i
  induction i using Nat.strongRecOn with
  | _ i ih =>
   intro hi
   cases hx:listed.getD i false with
   | true=>rfl
   | false=>
    exfalso
    have hmem:i∈Region.ready .any ops listed:=by
     rw [mem_ready]
     refine ⟨?_,ops[i],by simp [hi],fun e he hb=>?_⟩
     · simp only [Array.getD_eq_getD_getElem?,Array.getElem?_eq_getElem (show i<listed.size by omega),Option.getD_some] at hx ⊢
       exact hx
     · have hd:e.on∈direct ops[i]:=List.mem_map.2 ⟨e,by simp [List.mem_filter,hb];exact he,rfl⟩
       have:=edgesOk_spec ops.toList 0 hedge i ops[i] (by simp [hi]) e.on hd
       exact ih e.on (by omega) (by omega)
    rw [hr] at hmem
    cases hmem
 intro fuel
 induction fuel with
 | zero=>
  intro listed a w hsz hf hcl hR
  have hall:∀ i,i<ops.size→listed.getD i false=true:=fun i hi=>by
   have hnil:listed.toList.filter (! ·)=[]:=List.eq_nil_of_length_eq_zero (by omega)
   rw [List.filter_eq_nil_iff] at hnil
   have:=hnil listed[i] (by simp)
   simp only [Bool.not_eq_true',Bool.not_eq_false] at this
   simp [show i<listed.size by omega,this]
  have hready:Region.ready .any ops listed=[]:=by
   cases hr:Region.ready .any ops listed with
   | nil=>rfl
   | cons j _=>
    exfalso
    have hj:j∈Region.ready .any ops listed:=by rw [hr];simp
    obtain ⟨h1,o,ho,_⟩:=mem_ready.1 hj
    have hjl:j<ops.size:=(Array.getElem?_eq_some_iff.1 ho).1
    have:=hall j hjl
    simp only [Array.getD_eq_getD_getElem?,Array.getElem?_eq_getElem (show j<listed.size by omega),Option.getD_some] at this h1
    rw [this] at h1;cases h1
  refine ⟨hready,hQ a w ?_⟩
  rw [←st_congr recs σ0 ops.size (fun i hi=>hall i hi)]
  exact hR
 | succ fuel ih=>
  intro listed a w hsz hf hcl hR
  refine ⟨fun hready=>hQ a w ?_,fun j hj=>?_⟩
  · rw [←st_congr recs σ0 ops.size (fun i hi=>done listed hsz hready i hi)]
    exact hR
  · obtain ⟨h1,o,ho,hall⟩:=mem_ready.1 hj
    have hjl:j<ops.size:=(Array.getElem?_eq_some_iff.1 ho).1
    have hout:listed.getD j false=false:=by
     simp only [Array.getD_eq_getD_getElem?,Array.getElem?_eq_getElem (show j<listed.size by omega),Option.getD_some] at h1 ⊢
     exact h1
    have hdir:∀ d∈direct o,listed.getD d false=true:=fun d hd=>by
     obtain ⟨e,he,rfl⟩:=List.mem_map.1 hd
     rw [List.mem_filter] at he
     exact hall e (by simpa using he.1) he.2
    have hnext:Next (fun j=>(befs ops.toList []).getD j []) (fun i=>listed.getD i false) j:=by
     refine ⟨hcl,hout,fun i hi=>?_⟩
     have hs:=(befs_spec ops.toList [] j o (by simpa using ho) i).1 (by simpa using hi)
     rcases hs with hd | ⟨d,hd,_,hi'⟩
     · exact hdir i hd
     · exact hcl d (hdir d hd) i hi'
    have hs:recs[j]? = some (recs.getD j (⟨[],[],[]⟩:SR)):=by simp [List.getD,List.getElem?_eq_getElem (show j<recs.length by omega)]
    have hg:=hsteps j o _ (by simpa using ho) hs
    have hag:=hnext.agree hind hjl
    have hstep:=hg.2 E _ a w hag (fun t ht i hi=>hg.1 t ht i (hnext.tok hind hjl ht hi)) hR (wpAny P .any ops Q fuel (listed.setIfInBounds j true)) Q ?_
    · unfold wpOp
      rw [ho]
      dsimp only
      split
      · rename_i hw;rw [if_pos hw] at hstep;exact .inl hstep
      · rename_i hw;rw [if_neg hw] at hstep;exact hstep
    · intro a' w' hR'
      rw [hnext.step hind hjl] at hR'
      have hX:∀ i,(listed.setIfInBounds j true).getD i false=(listed.getD i false||i==j):=fun i=>by
       by_cases e:i=j
       · subst e;simp [show i<listed.size by omega]
       · simp only [Array.getD_eq_getD_getElem?,Array.getElem?_setIfInBounds_ne (Ne.symm e)]
         simp [e]
      refine ih _ a' w' (by simpa using hsz) ?_ ?_ ?_
      · have hcount:∀(l:List Bool) (j:Nat),l[j]? = some false→((l.set j true).filter (! ·)).length+1=(l.filter (! ·)).length:=by
         intro l
         induction l with
         | nil=>intro j h;simp at h
         | cons b l ihl=>
          intro j h
          cases j with
          | zero=>simp at h;subst h;simp
          | succ j=>
           have:=ihl j (by simpa using h)
           cases b<;>simp<;>omega
        have hjb:listed.toList[j]? = some false:=by
         simp only [Array.getD_eq_getD_getElem?,Array.getElem?_eq_getElem (show j<listed.size by omega),Option.getD_some] at hout
         simp [Array.getElem?_eq_getElem (show j<listed.size by omega),hout]
        have:=hcount listed.toList j hjb
        simp only [Array.toList_setIfInBounds]
        omega
      · intro k hk i hi
        rw [hX] at hk ⊢
        exact hnext.grow k hk i hi
      · rw [st_congr recs σ0 ops.size (fun i _=>hX i)]
        exact hR'
theorem wp_regionD {ops:Array Oper} {σ:List AV} {E:Env} {Q:Exit→Act→World→Prop} {K:List AV→Prop} {id:Nat} (hm:P.follows .mixedOrders=true) (hQ:∀ σ a w,K σ→Rel E σ a w→Q .normal a w)
 (h:RunD P ops ops.toList σ ops.toList [] σ K) {a:Act} {w:World} (hR:Rel E σ a w):(Code.region id ops true).wp P Q a w:=by
 obtain ⟨recs,hlen,hind,hK,hsteps⟩:=RunD.chain ops.toList [] [] σ h rfl rfl rfl (fun j o s ho=>by simp at ho)
 have hedge:edgesOk 0 ops.toList=true:=by
  simp only [indep,Bool.and_eq_true] at hind
  exact hind.1.1
 have hI:=indep_spec hlen hind
 simp only [Array.length_toList] at hlen hI
 refine wp_region_any hm (wpAny_of hI hlen hedge hsteps (fun a w hR=>hQ _ a w (by rw [hlen] at hK;exact hK) hR) ops.size _ a _ (by simp) (by simp) ?_ ?_)
 · intro k hk
   exfalso
   rw [Array.getD_eq_getD_getElem?] at hk
   by_cases hk':k<ops.size
   · simp [hk'] at hk
   · rw [Array.getElem?_eq_none (by simp;omega)] at hk
     cases hk
 · have hb:Below w.heap.size w { w with drawn:=w.drawn+1 }:=(Below.refl _ w).drew
   have h0:st recs σ (fun i=>(Array.replicate ops.size false).getD i false) ops.size=σ:=by
    have:st recs σ (fun i=>(Array.replicate ops.size false).getD i false) ops.size=st recs σ (fun _=>false) ops.size:=st_congr recs σ ops.size (fun i hi=>by simp [hi])
    rw [this]
    have:∀ n,st recs σ (fun _=>false) n=σ:=fun n=>by
     induction n with
     | zero=>rfl
     | succ n ih=>show (if false then _ else _)=_;exact ih
    exact this _
   rw [h0]
   exact hR.below hb
end Go.Slot

namespace Go.Slot
open Go Go.RowKit
variable {P:Program}
def lift (E:Env) (Q:Exit→List AV→Prop) (e:Exit) (a:Act) (w:World):Prop:=∃ σ,Q e σ∧Rel E σ a w
def ACode (P:Program) (c:Code) (Q:Exit→List AV→Prop) (σ:List AV):Prop:=∀(E:Env) (a:Act) (w:World),Rel E σ a w→c.wp P (lift E Q) a w
def thenA (next:List AV→Prop) (Q:Exit→List AV→Prop):Exit→List AV→Prop
 | .normal,σ=>next σ
 | e,σ=>Q e σ
def inBlockA (id:Nat) (Q:Exit→List AV→Prop):Exit→List AV→Prop
 | .exit id',σ=>if id'=id then Q .normal σ else Q (.exit id') σ
 | e,σ=>Q e σ
theorem ACode.mono {c:Code} {Q Q':Exit→List AV→Prop} {σ:List AV} (h:ACode P c Q σ) (hq:∀ e σ,Q e σ→Q' e σ):ACode P c Q' σ:=fun E a w hR=>
 wp_mono (h E a w hR) (fun e _a _w ⟨σ,h1,h2⟩=>⟨σ,hq e σ h1,h2⟩)
theorem acode_skip {Q:Exit→List AV→Prop} {σ:List AV} (h:Q .normal σ):ACode P .skip Q σ:=fun _ _ _ hR=>wp_skip ⟨σ,h,hR⟩
theorem acode_exit {Q:Exit→List AV→Prop} {σ:List AV} {id:Nat} (h:Q (.exit id) σ):ACode P (.exit id) Q σ:=fun _ _ _ hR=>wp_exit ⟨σ,h,hR⟩
theorem acode_ret {Q:Exit→List AV→Prop} {σ:List AV} (h:Q .ret σ):ACode P .ret Q σ:=fun _ _ _ hR=>wp_ret ⟨σ,h,hR⟩
theorem acode_seq {x y:Code} {Q:Exit→List AV→Prop} {σ:List AV} (h:ACode P x (thenA (fun σ=>ACode P y Q σ) Q) σ):ACode P (.seq x y) Q σ:=fun E a w hR=>
 wp_seq (wp_mono (h E a w hR) (fun e a w ⟨σ,h1,h2⟩=>by
  cases e<;>first | exact h1 E a w h2 | exact ⟨σ,h1,h2⟩))
theorem acode_block {id:Nat} {c:Code} {Q:Exit→List AV→Prop} {σ:List AV} (h:ACode P c (inBlockA id Q) σ):ACode P (.block id c) Q σ:=fun E a w hR=>
 wp_block (wp_mono (h E a w hR) (fun e a w ⟨σ,h1,h2⟩=>by
  cases e with
  | exit id'=>
   simp only [Exit.inBlock]
   simp only [inBlockA] at h1
   split at h1
   · rename_i hi;rw [if_pos hi];exact ⟨σ,h1,h2⟩
   · rename_i hi;rw [if_neg hi];exact ⟨σ,h1,h2⟩
  | _=>exact ⟨σ,h1,h2⟩))
theorem acode_cond {c:Operand} {x y:Code} {Q:Exit→List AV→Prop} {σ:List AV} {b:Bool} (hc:opd σ c=.one (.raw (.bool b))) (ht:b=true→ACode P x Q σ) (hf:b=false→ACode P y Q σ):ACode P (.cond c x y) Q σ:=fun E a w hR=>by
 obtain ⟨τ,M,hI⟩:=hR
 have hs:=hI.opd c
 rw [hc] at hs
 have e:a.eval c=.bool b:=RdC.raw_inv hs
 exact wp_cond_split e (fun h=>ht h E a w ⟨τ,M,hI⟩) (fun h=>hf h E a w ⟨τ,M,hI⟩)
theorem acode_region {id:Nat} {ops:Array Oper} {Q:Exit→List AV→Prop} {σ:List AV} (h:Run P ops ops.toList σ (Q .normal)):ACode P (.region id ops false) Q σ:=fun _E a w hR=>
 wp_region_list (Run.wpList (fun σ _a _w h1 h2=>⟨σ,h1,h2⟩) _ σ a w h hR)
theorem acode_regionD {id:Nat} {ops:Array Oper} {Q:Exit→List AV→Prop} {σ:List AV} (hm:P.follows .mixedOrders=true) (h:RunD P ops ops.toList σ ops.toList [] σ (Q .normal)):ACode P (.region id ops true) Q σ:=fun _E _a _w hR=>
 wp_regionD hm (fun σ _a _w h1 h2=>⟨σ,h1,h2⟩) h hR
def StLe (σ σ':List AV):Prop:=∀(E:Env) (a:Act) (w:World),Rel E σ a w→Rel E σ' a w
theorem StLe.refl (σ:List AV):StLe σ σ:=fun _ _ _ h=>h
theorem StLe.trans {σ σ' σ'':List AV} (h:StLe σ σ') (h':StLe σ' σ''):StLe σ σ'':=fun E a w hR=>h' E a w (h E a w hR)
theorem StLe.weaken {σ σ':List AV} (h:LeS σ σ') (hr:refsOk σ'=true):StLe σ σ':=fun _ _ _ ⟨τ,M,hI⟩=>⟨τ,M,hI.weaken h hr⟩
theorem ACode.le {c:Code} {Q:Exit→List AV→Prop} {σ σ':List AV} (h:StLe σ σ') (hc:ACode P c Q σ'):ACode P c Q σ:=fun E a w hR=>hc E a w (h E a w hR)
theorem acode_loop {α : Type} {c : Code} {Q : Exit → List AV → Prop} {σ : List AV} (inv : α → List AV) (pre : α → Prop) (μ : α → Nat) (x0 : α) (h0 : pre x0) (hle : StLe σ (inv x0))
 (round:∀ x,pre x→ACode P c (thenA (fun σ'=>∃ y,pre y∧μ y<μ x∧StLe σ' (inv y)) Q) (inv x)):ACode P (.loop c) Q σ:=fun E a w hR=>by
 have key:∀ n x a w,pre x→μ x=n→Rel E (inv x) a w→∀(b:Frame) (k:List Item) (cs:List Frame),∃ e a' w',lift E Q e a' w'∧Arrives P (lone (b.at a (.code c::.inLoop c::k)) cs w) b k cs e a' w':=by
  intro n
  induction n using Nat.strongRecOn with
  | _ n ih=>
   intro x a w hp hn hR b k cs
   obtain ⟨e,a1,w1,⟨σ',hq,hR'⟩,harr⟩:=round x hp E a w hR b (.inLoop c::k) cs
   cases e with
   | normal=>
    obtain ⟨y,hy,hlt,hle'⟩:=hq
    obtain ⟨e2,a2,w2,hq2,harr2⟩:=ih (μ y) (by omega) y a1 w1 hy rfl (hle' E a1 w1 hR') b k cs
    exact ⟨e2,a2,w2,hq2,.of_steps (Steps.trans harr (.one step_inLoop)) harr2⟩
   | exit id=>exact ⟨_,a1,w1,⟨σ',hq,hR'⟩,.pass (x:=.inLoop c) rfl (fun _ _=>.inl (by simp)) harr⟩
   | goto l=>exact ⟨_,a1,w1,⟨σ',hq,hR'⟩,.pass (x:=.inLoop c) rfl (fun _ _=>.inl (by simp)) harr⟩
   | ret=>exact ⟨_,a1,w1,⟨σ',hq,hR'⟩,.pass (x:=.inLoop c) rfl (fun _ _=>.inl (by simp)) harr⟩
   | panic ch=>exact ⟨_,a1,w1,⟨σ',hq,hR'⟩,.pass (x:=.inLoop c) rfl (fun _ _=>.inl (by simp)) harr⟩
   | outgrown=>exact ⟨_,a1,w1,⟨σ',hq,hR'⟩,.pass (x:=.inLoop c) rfl (fun _ _=>.inl (by simp)) harr⟩
 intro b k cs
 obtain ⟨e,a',w',hq,harr⟩:=key _ x0 a w h0 rfl (hle E a w hR) b k cs
 exact ⟨e,a',w',hq,.of_steps (.one step_loop) harr⟩
def resOne (P:Program) (σ:List AV):ResultVar→Option AV
 | .tmp t=>match gt σ t with
  | .one c=>some (.one c.bare)
  | .agg cs=>some (.agg (bareL cs))
  | .elt cs=>some (.elt cs)
  | .box cs=>some (.elt (bareL cs))
  | .ptr s off=>match gt σ s with
   | .box cs=>some (.elt (bareL (cs.drop off)))
   | _=>none
  | .arr _ c none=>some (.one c)
  | .asl s=>match gt σ s with
   | .arr _ c none=>some (.one c)
   | _=>none
  | .awn s m lo n=>match gt σ s with
   | .arr _ c none=>if lo+n≤c.cnt∧m=c.esz then some (.one (c.sub lo n)) else none
   | _=>none
  | _=>none
 | .cell a t=>match mkTI P t with
  | some ti=>match gt σ a with
   | .box cs=>match loadC ti cs with
    | some (.one c)=>some (.one c.bare)
    | some (.agg cs)=>some (.agg (bareL cs))
    | _=>none
   | _=>none
  | none=>none
def resAll (P:Program) (σ:List AV):List ResultVar→Option (List AV)
 | []=>some []
 | r::rs=>match resOne P σ r,resAll P σ rs with
  | some x,some l=>some (x::l)
  | _,_=>none
def ownRes (σ:List AV):List ResultVar→Option Cell
 | [.tmp t]=>match gt σ t with
  | .arr [] c none=>some c
  | .asl s=>match gt σ s with
   | .arr [] c none=>some c
   | _=>none
  | .awn s m lo n=>match gt σ s with
   | .arr [] c none=>if lo=0∧n≤c.cnt∧m=c.esz then some (c.sub 0 n) else none
   | _=>none
  | .one (.tok _ (.ints k l))=>if 0<l.length then some (.ints k l) else none
  | _=>none
 | _=>none
def resAV (P:Program) (σ:List AV) (rs:List ResultVar):Option AV:=
 match ownRes σ rs with
 | some c=>some (.arr [] c none)
 | none=>match resAll P σ rs with
  | some [x]=>some x
  | some l=>some (.tup l)
  | none=>none
inductive RLe:AV→AV→Prop
 | own {c:Cell}:RLe (.arr [] c none) (.one c)
 | one {x y:AV} (h:AV.Le x y):RLe x y
 | tup {l l':List AV} (h:LeS l l'):RLe (.tup l) (.tup l')
theorem RdB.le {M:Nat→Nat→Prop} {w:World} {v:Value} {x y:AV} (h:AV.Le x y) (hr:RdB M w v x):RdB M w v y:=by
 cases h with
 | refl=>exact hr
 | any=>exact trivial
 | one h=>exact RdC.le h hr
 | agg h =>
  obtain ⟨vs,rfl,hr⟩:=hr
  refine ⟨vs,rfl,?_⟩
  have:∀{vs:List Value} {cs cs':List Cell},LeL cs cs'→RdD M w vs cs→RdD M w vs cs':=by
   intro vs
   induction vs with
   | nil=>intro cs cs' h hr;cases h with
    | nil=>trivial
    | cons _ _=>exact hr.elim
   | cons v vs ih=>intro cs cs' h hr;cases h with
    | nil=>exact hr.elim
    | cons h t=>exact ⟨hr.1.le h,ih t hr.2⟩
  exact this h hr
 | box h=>exact hr.elim
 | obx h=>exact hr.elim
theorem RdBL.le {M:Nat→Nat→Prop} {w:World}:∀{vs:List Value} {l l':List AV},LeS l l'→RdBL M w vs l→RdBL M w vs l'
 | [],_,_,.nil,_=>trivial
 | _::_,_,_,.cons h t,hr=>⟨hr.1.le h,RdBL.le t hr.2⟩
 | [],_,_,.cons _ _,hr=>hr.elim
 | _::_,_,_,.nil,hr=>hr.elim
theorem RLe.holder {x y:AV} (h:RLe x y) (hy:y.holder=true):x.holder=true:=by
 cases h with
 | own=>cases hy
 | one h=>exact h.holder hy
 | tup h=>cases hy
theorem RdR.le {M:Nat→Nat→Prop} {w:World} {v:Value} {x y:AV} (h:RLe x y) (hr:RdR M w v x):RdR M w v y:=by
 cases h with
 | own=>exact hr.2.2.read
 | tup h=>obtain ⟨vs,rfl,hr⟩:=hr;exact ⟨vs,rfl,hr.le h⟩
 | one h=>
  cases h with
  | refl=>exact hr
  | any=>exact trivial
  | one h=>exact RdB.le (.one h) hr
  | agg h=>exact RdB.le (.agg h) hr
  | box h=>exact hr.elim
  | obx h=>exact hr.elim
def retA (P:Program) (rs:List ResultVar) (res:AV):Exit→List AV→Prop
 | .ret,σ | .normal,σ=>∃ av,resAV P σ rs=some av∧RLe av res
 | _,_=>False
def resSem (tm:Array Value):ResultVar→Sem Value
 | .tmp t=>pure (tm.getD t Go.undef)
 | .cell a t=>do loadVar t (←asAddr (tm.getD a Go.undef))
theorem Keeps.shrink {M M':Nat→Nat→Prop} (w:World) (h:∀ b o,M' b o→M b o):Keeps M M' w w:=fun b o _u hm hc=>⟨fun h'=>hm (h b o h'),hc⟩
theorem Cell.sub_ok {c:Cell} (hu:c.uni) {n:Nat} (hn:n≤c.cnt):(c.sub 0 n).uni∧(c.sub 0 n).cnt=n∧(c.sub 0 n).esz=c.esz∧(c.sub 0 n).flat=c.flat.take (n*c.esz):=by
 cases c with
 | ints k l=>
  simp only [Cell.cnt] at hn
  refine ⟨trivial,by simp [Cell.sub,Cell.cnt];omega,rfl,?_⟩
  simp [Cell.sub,Cell.flat,Cell.esz,List.map_take]
 | sl m rows=>
  simp only [Cell.cnt] at hn
  have hu:∀ r∈rows,r.length=m:=hu
  refine ⟨fun r hr=>hu r (List.mem_of_mem_take (by simpa [Cell.sub] using hr)),by simp [Cell.sub,Cell.cnt];omega,rfl,?_⟩
  simp only [Cell.sub,Cell.flat,Cell.esz,List.drop_zero]
  rw [flatten_take rows n hu]
 | _=>exact hu.elim
theorem frE {E:Env} {τ:Nat→TV} {M:Nat→Nat→Prop} {σ:List AV} {a:Act} {w:World} (hI:RelI E τ M σ a w) {s:Nat} {hv:AV} (hs:σ[s]? = some hv) (hf:hv.fresh=true) :
 E.N≤blk (a.tmps.getD s Go.undef)∧∀ o,¬E.M (blk (a.tmps.getD s Go.undef)) o:=by
 have hh:hv.holder=true:=by cases hv<;>first | rfl | cases hf
 have:=(hI.hold s hv hs hh).2.2.1 hf
 exact ⟨this,fun o hm=>by have:=E.hM _ _ hm;unfold Env.N at *;omega⟩
theorem arrE {E:Env} {τ:Nat→TV} {M:Nat→Nat→Prop} {σ:List AV} {a:Act} {w:World} (hI:RelI E τ M σ a w) {s:Nat} {pre:List Value} {c:Cell} (hg:gt σ s=.arr pre c none) :
 ∃ b cap,a.tmps.getD s Go.undef=.slice (some ⟨b,pre.length,none⟩) c.cnt cap∧c.uni∧RdC E.M w (.slice (some ⟨b,pre.length,none⟩) c.cnt cap) c:=by
 have hgs:=gt_some hg (by simp)
 have hss:=hI.gt s
 rw [hg] at hss
 obtain ⟨b,T,vs,q,cap,e1,hb,hr,_,hu,hcap,_⟩:=hss
 have hfr:=frE hI hgs rfl
 rw [e1] at hfr
 exact ⟨b,cap,e1,hu,arr_read hb (hr.keep (Keeps.shrink w hI.m0)) hu hcap hfr.2⟩
theorem boxE {E:Env} {τ:Nat→TV} {M:Nat→Nat→Prop} {σ:List AV} {a:Act} {w:World} (hI:RelI E τ M σ a w) {s:Nat} {cs:List Cell} (hg:gt σ s=.box cs) (off:Nat) :
 ∃ b,a.tmps.getD s Go.undef=.pointer (some ⟨b,0,none⟩)∧RdB E.M w (.pointer (some ⟨b,off,none⟩)) (.elt (bareL (cs.drop off))):=by
 have hgs:=gt_some hg (by simp)
 have hss:=hI.gt s
 rw [hg] at hss
 obtain ⟨b,vs,T,e1,hb,hr⟩:=hss
 have hfr:=frE hI hgs rfl
 rw [e1] at hfr
 refine ⟨b,e1,b,off,vs.drop off,rfl,fun j u hj=>⟨hfr.2 _,box_cells hb off j u hj⟩,?_⟩
 rw [bareL_drop]
 exact ((hr.bare.keep (Keeps.shrink w hI.m0)).drop off)
theorem resOne_ok {E:Env} {τ:Nat→TV} {M:Nat→Nat→Prop} {σ:List AV} {a:Act} {w:World} (hI:RelI E τ M σ a w) {r:ResultVar} {x:AV} (h:resOne P σ r=some x) :
 ∃ v,(resSem a.tmps r).run P w=.ok v w∧RdB E.M w v x:=by
 have hsh:∀{v:Value} {y:AV},RdB M w v y→RdB E.M w v y:=fun hr=>hr.keep (Keeps.shrink w hI.m0)
 cases r with
 | tmp t=>
  have hs:=hI.gt t
  refine ⟨a.tmps.getD t Go.undef,rfl,?_⟩
  simp only [resOne] at h
  split at h
  · rename_i c hc;rw [hc] at hs;cases h;exact hsh (RdT.bare hs)
  · rename_i cs hc;rw [hc] at hs;cases h;obtain ⟨vs,e,hr⟩:=hs;exact hsh ⟨vs,e,hr.bare⟩
  · rename_i cs hc;rw [hc] at hs;cases h;exact hsh hs
  · rename_i cs hc
    cases h
    obtain ⟨b,e1,hr⟩:=boxE hI hc 0
    rw [e1];exact hr
  · rename_i s off hc
    split at h
    · rename_i cs hg
      cases h
      obtain ⟨b,e1,hr⟩:=boxE hI hg off
      rw [hc] at hs
      have hs:a.tmps.getD t Go.undef=.pointer (some ⟨blk (a.tmps.getD s Go.undef),off,none⟩):=hs
      rw [hs,e1];exact hr
    · cases h
  · rename_i pre c hc
    cases h
    obtain ⟨b,cap,e1,_,hr⟩:=arrE hI hc
    rw [e1];exact hr
  · rename_i s hc
    split at h
    · rename_i pre c hg
      cases h
      obtain ⟨b,cap,e1,_,hr⟩:=arrE hI hg
      rw [hc] at hs
      have hs:a.tmps.getD t Go.undef=a.tmps.getD s Go.undef:=hs
      rw [hs,e1];exact hr
    · cases h
  · rename_i s m lo n hc
    split at h
    · rename_i pre c hg
      split at h
      · rename_i hfit
        obtain ⟨hfit,rfl⟩:=hfit
        cases h
        obtain ⟨b,cap,e1,hu,hr⟩:=arrE hI hg
        rw [hc] at hs
        obtain ⟨ad,cap',e2,had,hn,_⟩:=hs
        rw [e1] at had
        rw [e2]
        exact hr.sub hu hfit (fun hne=>had (.inl hne)) hn
      · cases h
    · cases h
  · cases h
 | cell b t=>
  simp only [resOne] at h
  split at h
  · rename_i ti hti
    split at h
    · rename_i cs hg
      have hs:=hI.gt b
      rw [hg] at hs
      obtain ⟨bl,vs,T,e,hb,hr⟩:=hs
      have key:∀ av,loadC ti cs=some av→∃ v,(loadVar t ⟨bl,0,none⟩).run P w=.ok v w∧RdA M w τ v av:=fun av hl=>
       run_loadVar_at (mkTI_ok hti) (b:=bl) (off:=0) (vs:=vs) (fun j u hj=>by simpa using box_cells hb 0 j u (by simpa using hj)) hr hl
      split at h
      · rename_i c hl
        cases h
        obtain ⟨v,hrun,hrd⟩:=key _ hl
        exact ⟨v,by simp [resSem,e,asAddr,hrun],hsh (RdT.bare hrd)⟩
      · rename_i cs' hl
        cases h
        obtain ⟨v,hrun,hrd⟩:=key _ hl
        obtain ⟨us,e2,hr2⟩:=hrd
        exact ⟨v,by simp [resSem,e,asAddr,hrun],hsh ⟨us,e2,hr2.bare⟩⟩
      · cases h
    · cases h
  · cases h
theorem raws_rd {M:Nat→Nat→Prop} {w:World} (k:IntKind):∀ l:List Int,RdD M w (l.map (Value.int k)) (l.map fun n=>.raw (.int k n))
 | []=>trivial
 | _::l=>⟨.raw rfl,raws_rd k l⟩
theorem ownRes_ok {E:Env} {τ:Nat→TV} {M:Nat→Nat→Prop} {σ:List AV} {a:Act} {w:World} (hI:RelI E τ M σ a w) {rs:List ResultVar} {c:Cell} (h:ownRes σ rs=some c) :
 ∃ t,rs=[.tmp t]∧OwnR E.M w (a.tmps.getD t Go.undef) c∧E.N≤blk (a.tmps.getD t Go.undef):=by
 have main:∀(s:Nat) (c0:Cell) (v:Value) (n:Nat),gt σ s=.arr [] c0 none→n≤c0.cnt→(∃ b capS cap,a.tmps.getD s Go.undef=.slice (some ⟨b,0,none⟩) c0.cnt capS∧v=.slice (some ⟨b,0,none⟩) n cap∧n≤cap∧cap≤capS)→
  OwnR E.M w v (c0.sub 0 n)∧E.N≤blk v:=fun s c0 v n hg hn ⟨b,capS,cap,e1,e2,h1,h2⟩=>by
  have hgs:=gt_some hg (by simp)
  have hss:=hI.gt s
  rw [hg] at hss
  obtain ⟨b',T,vs,q,cap0,e3,hb,hr,_,hu,hcap,hcap'⟩:=hss
  rw [e1] at e3
  simp only [List.length_nil,Value.slice.injEq,Option.some.injEq,Addr.mk.injEq,and_true,true_and] at e3
  obtain ⟨rfl,rfl⟩:=e3
  have hfr:=frE hI hgs rfl
  have hM:=(hI.hold s _ hgs rfl).1
  rw [e1] at hfr hM
  obtain ⟨su,scnt,sesz,sflat⟩:=Cell.sub_ok hu hn
  have hvl:=hr.length
  have hfl:=Cell.flat_len hu
  refine ⟨⟨b,T,vs.take (n*c0.esz),vs.drop (n*c0.esz)++q,cap,by rw [scnt];exact e2,by rw [hb,←List.append_assoc (List.take _ vs),List.take_append_drop];rfl,?_,su,by rw [scnt];exact h1,?_,hfr.2⟩,by rw [e2];exact hfr.1⟩
  · rw [sflat]
    exact (hr.take _).keep (Keeps.shrink w (fun b' o=>by rintro (h | rfl);exact hI.m0 b' o h;exact hM o))
  · rw [sesz]
    simp only [List.length_take,List.length_append,List.length_drop]
    have:cap*c0.esz≤capS*c0.esz:=Nat.mul_le_mul_right _ h2
    have:n*c0.esz≤c0.cnt*c0.esz:=Nat.mul_le_mul_right _ hn
    omega
 have whole:∀(s:Nat) (c0:Cell),gt σ s=.arr [] c0 none→OwnR E.M w (a.tmps.getD s Go.undef) c0∧E.N≤blk (a.tmps.getD s Go.undef):=fun s c0 hg=>by
  have hgs:=gt_some hg (by simp)
  have hss:=hI.gt s
  rw [hg] at hss
  obtain ⟨b,T,vs,q,cap,e1,hb,hr,_,hu,hcap,hcap'⟩:=hss
  have hfr:=frE hI hgs rfl
  have hM:=(hI.hold s _ hgs rfl).1
  rw [e1] at hfr hM ⊢
  exact ⟨⟨b,T,vs,q,cap,rfl,by simpa using hb,hr.keep (Keeps.shrink w (fun b' o=>by rintro (h | rfl);exact hI.m0 b' o h;exact hM o)),hu,hcap,hcap',hfr.2⟩,hfr.1⟩
 unfold ownRes at h
 split at h
 · rename_i t
   refine ⟨t,rfl,?_⟩
   have hs:=hI.gt t
   split at h
   · rename_i c0 hg
     cases h
     exact whole t _ hg
   · rename_i s hg0
     split at h
     · rename_i c0 hg
       cases h
       rw [hg0] at hs
       have hs:a.tmps.getD t Go.undef=a.tmps.getD s Go.undef:=hs
       rw [hs];exact whole s _ hg
     · cases h
   · rename_i s m lo n hg0
     split at h
     · rename_i c0 hg
       split at h
       · rename_i hc
         obtain ⟨rfl,hn,rfl⟩:=hc
         cases h
         rw [hg0] at hs
         obtain ⟨ad,cap,e2,had,h1,h2⟩:=hs
         have hss:=hI.gt s
         rw [hg] at hss
         obtain ⟨b,T,vs,q,cap0,e3,_⟩:=hss
         have had:=had (.inr rfl)
         rw [e3] at had h2
         subst had
         exact main s c0 _ n hg hn ⟨b,cap0,cap,e3,by rw [e2];simp [blk,offV],h1,by simpa [capV] using h2⟩
       · cases h
     · cases h
   · rename_i d k l hg
     split at h
     · rename_i hl
       cases h
       rw [hg] at hs
       have hs:(a.tmps.getD t Go.undef=(τ d).v∧(τ d).sz=1)∧RdC M w (a.tmps.getD t Go.undef) (.ints k l):=hs
       obtain ⟨⟨hv,hsz⟩,hrd⟩:=hs
       have htok:=hI.toks d ⟨t,_,gt_some hg (by simp),.inl rfl⟩
       generalize hu:a.tmps.getD t Go.undef=u at hv hrd ⊢
       have hne:l≠[]:=List.length_pos_iff.1 hl
       cases hrd with
       | @ints ad len cap _ _ b off hlen hcap ha hcell=>
        have ha:=ha hne
        subst ha
        rcases htok with ⟨ad',hz⟩ | ⟨e,n,xs,⟨hxl,hrow⟩,_⟩
        · rw [←hv] at hz
          simp only [Value.slice.injEq] at hz
          omega
        · rw [← hv] at hrow
          rcases hrow with ⟨hz,_⟩ | ⟨g,cap',cur,hz,hN,hg',hn,_,hsize,_⟩
          · cases hz
          · simp only [Value.slice.injEq,Option.some.injEq,Addr.mk.injEq,and_true] at hz
            obtain ⟨⟨rfl,rfl⟩,rfl,rfl⟩:=hz
            rw [hsz,Nat.mul_one] at hsize
            have hcur:∀ i (hi:i<l.length),cur.toList[i]? = some (.int k l[i]):=fun i hi=>by
             have h1:=(hcell i hi).2
             rw [Nat.zero_add] at h1
             simp only [World.cell?,hg'] at h1
             simpa using h1
            have htake:cur.toList.take l.length=l.map (Value.int k):=by
             apply List.ext_getElem?
             intro i
             by_cases hi:i<l.length
             · rw [List.getElem?_take_of_lt hi,hcur i hi]
               simp [hi]
             · rw [List.getElem?_take_eq_none (by omega),List.getElem?_eq_none (by simp only [List.length_map];omega)]
            have hblk:blk (.slice (some ⟨b,0,none⟩) len cap)=b:=rfl
            refine ⟨⟨b,e,l.map (Value.int k),cur.toList.drop l.length,cap,by rw [hlen];rfl,?_,?_,trivial,by simp only [Cell.cnt];omega,?_,fun o hm=>Nat.not_lt.2 hN (E.hM b o hm)⟩,by rw [hblk];exact hN⟩
            · rw [←htake,List.take_append_drop,Array.toArray_toList];exact hg'
            · simp only [Cell.flat]
              exact raws_rd k l
            · simp only [Cell.esz,List.length_map,List.length_drop,Array.length_toList];omega
     · cases h
   · cases h
 · cases h
theorem resAll_ok {E:Env} {τ:Nat→TV} {M:Nat→Nat→Prop} {σ:List AV} {a:Act} {w:World} (hI:RelI E τ M σ a w):∀(rs:List ResultVar) (l:List AV),resAll P σ rs=some l→
 ∃ vs:List Value,(rs.mapM (resSem a.tmps)).run P w=.ok vs w∧RdBL E.M w vs l
 | [],l,h=>by simp only [resAll,Option.some.injEq] at h;subst h;exact ⟨[],rfl,trivial⟩
 | r::rs,l,h=>by
  simp only [resAll] at h
  split at h
  · rename_i x l' h1 h2
    cases h
    obtain ⟨v,hv,hrv⟩:=resOne_ok hI h1
    obtain ⟨vs,hvs,hrs⟩:=resAll_ok hI rs l' h2
    refine ⟨v::vs,?_,hrv,hrs⟩
    rw [List.mapM_cons]
    simp only [Sem.run_bind,hv,Result.andThen_ok,hvs,Sem.run_pure]
  · cases h
theorem results_ok {fn:Func} {E:Env} {σ:List AV} {a:Act} {w:World} {res:AV} (hR:Rel E σ a w) {av:AV} (h:resAV P σ fn.results.toList=some av) (hle:RLe av res) :
 ∃ v,(results fn a.tmps).run P w=.ok v w∧RdR E.M w v res∧(res.holder=true→E.N≤blk v):=by
 obtain ⟨τ,M,hI⟩:=hR
 unfold resAV at h
 have key:∀ l,resAll P σ fn.results.toList=some l→∃ vs:List Value,(results fn a.tmps).run P w=.ok (if h:vs.toArray.size=1 then vs.toArray[0] else .tuple vs.toArray) w∧RdBL E.M w vs l:=fun l hl=>by
  obtain ⟨vs,hvs,hrs⟩:=resAll_ok hI fn.results.toList l hl
  refine ⟨vs,?_,hrs⟩
  have hres:results fn a.tmps=(fn.results.mapM (resSem a.tmps) >>= fun vs=>pure (if h:vs.size=1 then vs[0] else .tuple vs)):=by
   unfold results
   refine congrArg (fun g:ResultVar→Sem Value=>(fn.results.mapM g >>= fun vs=>(pure (if h:vs.size=1 then vs[0] else .tuple vs):Sem Value))) (funext fun r=>?_)
   cases r<;>rfl
  rw [hres,Array.mapM_eq_mapM_toList]
  simp only [Sem.run_bind,Sem.run_map,hvs]
  rfl
 split at h
 · rename_i c hown
   cases h
   obtain ⟨t,hrs,how,hN⟩:=ownRes_ok hI hown
   have hres:fn.results=#[.tmp t]:=by rw [←Array.toArray_toList (xs:=fn.results),hrs]
   refine ⟨a.tmps.getD t Go.undef,?_,RdR.le hle ⟨rfl,rfl,how⟩,fun _=>hN⟩
   unfold results
   rw [hres]
   simp
 · split at h
   · rename_i x hl
     cases h
     obtain ⟨vs,hrun,hrs⟩:=key _ hl
     cases vs with
     | nil=>exact hrs.elim
     | cons v vs=>
      cases vs with
      | cons _ _=>exact hrs.2.elim
      | nil=>
       have h1:=hrs.1
       refine ⟨v,hrun,RdR.le hle ?_,fun hh=>?_⟩
       · cases av with
         | tup l=>exact h1.elim
         | arr _ _ _=>exact h1.elim
         | _=>exact h1
       · have:=hle.holder hh
         cases av<;>first | exact h1.elim | cases this
   · rename_i l hne hl
     cases h
     obtain ⟨vs,hrun,hrs⟩:=key _ hl
     have hlen:=hrs.length
     have h1:¬vs.toArray.size=1:=fun e=>by
      rw [List.size_toArray,hlen] at e
      match l,e with
      | [x],_=>exact hne x rfl
     rw [dif_neg h1] at hrun
     exact ⟨_,hrun,RdR.le hle ⟨vs,rfl,hrs⟩,fun hh=>by have:=hle.holder hh;cases this⟩
   · cases h
theorem rel_start {M:Nat→Nat→Prop} {w:World} {vs:List Value} {args:List AV} (hM:Bounded M w) (h:RdBL M w vs args) (n:Nat) :
 Rel ⟨w,M,fun _=>False,#[],hM⟩ (args++List.replicate n .undef) { tmps:=vs.toArray++Array.replicate n Go.undef,defers:=[] } w:=by
 have hlen:=h.length
 have hnot:∀(i:Nat) (av:AV),(args++List.replicate n AV.undef)[i]? = some av→(∃ v,(vs.toArray++Array.replicate n Go.undef).getD i Go.undef=v∧RdB M w v av):=by
  intro i av hi
  by_cases hlt:i<args.length
  · rw [List.getElem?_append_left hlt] at hi
    obtain ⟨v,hv,hr⟩:=h.get i av hi
    refine ⟨v,?_,hr⟩
    have hvl:i<vs.length:=by omega
    rw [List.getElem?_eq_getElem hvl] at hv
    simp at hv
    simp [Array.getD_eq_getD_getElem?,Array.getElem?_append,hvl,hv]
  · rw [List.getElem?_append_right (by omega)] at hi
    have hav:av=.undef:=by
     have:=List.mem_of_getElem? hi
     exact (List.mem_replicate.1 this).2
    subst hav
    refine ⟨Go.undef,?_,rfl⟩
    simp only [Array.getD_eq_getD_getElem?,Array.getElem?_append]
    rw [if_neg (by simp;omega)]
    simp only [Array.getElem?_replicate]
    split<;>rfl
 have props:∀(v:Value) (av:AV),RdB M w v av→av.holder=false∧av.rf=none∧(∀ t,¬av.hasTok t):=fun v av hr=>by
  cases av with
  | one c=>exact ⟨rfl,rfl,(RdB.slot (τ:=fun _=>⟨Go.undef,0⟩) (tm:=#[]) hr).2⟩
  | agg c=>exact ⟨rfl,rfl,(RdB.slot (τ:=fun _=>⟨Go.undef,0⟩) (tm:=#[]) hr).2⟩
  | elt c=>exact ⟨rfl,rfl,fun t ht=>ht⟩
  | any=>exact ⟨rfl,rfl,fun t ht=>ht⟩
  | undef=>exact ⟨rfl,rfl,fun t ht=>ht⟩
  | _=>exact hr.elim
 have nolive:∀ t,¬live (args++List.replicate n AV.undef) t:=fun t ⟨i,x,hi,hx⟩=>by
  obtain ⟨v,_,hr⟩:=hnot i x hi
  exact (props v x hr).2.2 t hx
 refine ⟨fun _=>⟨Go.undef,0⟩,M,RelI.mk rfl (by simp [hlen]) ?_ (fun _ _ h=>h) hM ?_ ?_ ?_ (fun t ht=>absurd ht (nolive t)) (fun t _ _ ht=>absurd ht (nolive t)) (fun t _ _ ht=>absurd ht (nolive t)) (Nat.le_refl _) rfl rfl rfl (fun _ _ _=>rfl)⟩
 · intro i av hi
   obtain ⟨v,hv,hr⟩:=hnot i av hi
   show SlotOk M w _ _ ((vs.toArray++Array.replicate n Go.undef).getD i Go.undef) av
   rw [hv]
   exact (RdB.slot hr).1
 · intro i av hi hh
   obtain ⟨v,_,hr⟩:=hnot i av hi
   rw [(props v av hr).1] at hh;cases hh
 · intro i j x y hi hj hx
   obtain ⟨v,_,hr⟩:=hnot i x hi
   rw [(props v x hr).1] at hx;cases hx
 · intro i av s b hi hr'
   obtain ⟨v,_,hr⟩:=hnot i av hi
   rw [(props v av hr).2.1] at hr';cases hr'
theorem CallsTo.of {f:FuncId} {fn:Func} {c:Code} {args:List AV} {res:AV} (hf:P.funcs[f]? = some fn) (hb:fn.body=some c) (hname:(fn.name == "runtime.NumGoroutine")=false)
 (h:ACode P c (retA P fn.results.toList res) (args++List.replicate (fn.ntmps-args.length) .undef)):CallsTo P f args res:=by
 refine ⟨⟨fn,hf,hname,by rw [hb];rfl⟩,fun M w vs hM hrd=>?_⟩
 have hlen:=hrd.length
 refine calls_of_wp hf hb ?_
 have hstart:=rel_start hM hrd (fn.ntmps-args.length)
 have hsz:vs.toArray.size=args.length:=by simp [hlen]
 rw [hsz]
 refine wp_mono (h _ _ w hstart) ?_
 rintro e a w' ⟨σ,hq,hR⟩
 have fin:∀ av,resAV P σ fn.results.toList=some av→RLe av res→a.defers=[]∧∃ v,(results fn a.tmps).run P w'=.ok v w'∧Back M w res (.returned v) w':=fun av h1 h2=>by
  obtain ⟨v,hrun,hrd',hfr⟩:=results_ok (fn:=fn) hR h1 h2
  obtain ⟨τ,M',hI⟩:=hR
  exact ⟨hI.hd,v,hrun,v,rfl,⟨hI.os,hI.tape,hI.output,hI.size,fun k hk=>hI.frame k hk (fun h=>h)⟩,hrd',hfr⟩
 cases e with
 | normal=>obtain ⟨av,h1,h2⟩:=hq;exact fin av h1 h2
 | ret=>obtain ⟨av,h1,h2⟩:=hq;exact fin av h1 h2
 | _=>exact hq.elim
end Go.Slot

namespace Go.Slot
open Go Go.RowKit
variable {P:Program}
def ch (a0 a1 a2 a3 a4 a5 a6 a7 a8 a9 a10 a11 a12 a13 a14 a15:AV) (r:List AV):List AV:=a0::a1::a2::a3::a4::a5::a6::a7::a8::a9::a10::a11::a12::a13::a14::a15::r
def packS:List AV→List AV
 | a0::a1::a2::a3::a4::a5::a6::a7::a8::a9::a10::a11::a12::a13::a14::a15::r=>ch a0 a1 a2 a3 a4 a5 a6 a7 a8 a9 a10 a11 a12 a13 a14 a15 (packS r)
 | l=>l
theorem packS_eq:∀ l:List AV,packS l=l
 | []=>rfl
 | [a0]=>rfl
 | [a0,a1]=>rfl
 | [a0,a1,a2]=>rfl
 | [a0,a1,a2,a3]=>rfl
 | [a0,a1,a2,a3,a4]=>rfl
 | [a0,a1,a2,a3,a4,a5]=>rfl
 | [a0,a1,a2,a3,a4,a5,a6]=>rfl
 | [a0,a1,a2,a3,a4,a5,a6,a7]=>rfl
 | [a0,a1,a2,a3,a4,a5,a6,a7,a8]=>rfl
 | [a0,a1,a2,a3,a4,a5,a6,a7,a8,a9]=>rfl
 | [a0,a1,a2,a3,a4,a5,a6,a7,a8,a9,a10]=>rfl
 | [a0,a1,a2,a3,a4,a5,a6,a7,a8,a9,a10,a11]=>rfl
 | [a0,a1,a2,a3,a4,a5,a6,a7,a8,a9,a10,a11,a12]=>rfl
 | [a0,a1,a2,a3,a4,a5,a6,a7,a8,a9,a10,a11,a12,a13]=>rfl
 | [a0,a1,a2,a3,a4,a5,a6,a7,a8,a9,a10,a11,a12,a13,a14]=>rfl
 | a0::a1::a2::a3::a4::a5::a6::a7::a8::a9::a10::a11::a12::a13::a14::a15::r=>by
  have ih:=packS_eq r
  show ch a0 a1 a2 a3 a4 a5 a6 a7 a8 a9 a10 a11 a12 a13 a14 a15 (packS r)=_
  rw [ih];rfl
def AV.frzd:AV→AV
 | .box cs=>.elt (bareL cs)
 | .arr _ c none=>.one c
 | av=>av
def frzOne (s:Nat) (hv:AV) (i:Nat) (av:AV):AV:=
 if i=s then hv.frzd else match av with
 | .ptr s' off=>if s'=s then (match hv with | .box cs=>.elt (bareL (cs.drop off)) | _=>.any) else av
 | .asl s'=>if s'=s then (match hv with | .arr _ c none=>.one c | _=>.any) else av
 | .awn s' m lo n=>if s'=s then (match hv with | .arr _ c none=>if lo+n≤c.cnt∧m=c.esz then .one (c.sub lo n) else .any | _=>.any) else av
 | .pel s' m i f=>if s'=s then (match hv with | .arr _ c none=>if m=c.esz then (match c.at i f with | some cs=>.elt cs | none=>.any) else .any | _=>.any) else av
 | _=>av
def frzFrom (s:Nat) (hv:AV):Nat→List AV→List AV
 | _,[]=>[]
 | i,av::r=>frzOne s hv i av::frzFrom s hv (i+1) r
def frz (s:Nat) (σ:List AV):List AV:=match gt σ s with
 | .box cs=>frzFrom s (.box cs) 0 σ
 | .arr pre c none=>frzFrom s (.arr pre c none) 0 σ
 | _=>σ
theorem frzFrom_get (s:Nat) (hv:AV):∀(k:Nat) (σ:List AV) (i:Nat),(frzFrom s hv k σ)[i]? = (σ[i]?).map (frzOne s hv (k+i))
 | _,[],i=>by simp [frzFrom]
 | k,av::r,0=>by simp [frzFrom]
 | k,av::r,i+1=>by
  have:=frzFrom_get s hv (k+1) r i
  simpa [frzFrom,Nat.add_assoc,Nat.add_comm 1 i] using this
theorem frzFrom_length (s:Nat) (hv:AV):∀(k:Nat) (σ:List AV),(frzFrom s hv k σ).length=σ.length
 | _,[]=>rfl
 | k,av::r=>by simp [frzFrom,frzFrom_length s hv (k+1) r]
theorem RelI.freeze {E:Env} {τ:Nat→TV} {M:Nat→Nat→Prop} {σ:List AV} {a:Act} {w:World} (h:RelI E τ M σ a w) {s:Nat} {hv:AV} (hs:σ[s]? = some hv) (hf:hv.fresh=true) :
 ∃ M',RelI E τ M' (frzFrom s hv 0 σ) a w:=by
 have hh:hv.holder=true:=by cases hv<;>first | rfl | cases hf
 obtain ⟨b,hb⟩:∃ b,blk (a.tmps.getD s Go.undef)=b:=⟨_,rfl⟩
 have hold:=h.hold s hv hs hh
 rw [hb] at hold
 have hN:=hold.2.2.1 hf
 refine ⟨fun b' o=>M b' o∧b'≠b,?_⟩
 have hk:Keeps M (fun b' o=>M b' o∧b'≠b) w w:=Keeps.shrink w (fun _ _ h=>h.1)
 have hMb:∀ o,¬(M b o∧b≠b):=fun o h=>h.2 rfl
 have hget:∀(i:Nat) (y:AV),(frzFrom s hv 0 σ)[i]? = some y→∃ x,σ[i]? = some x∧y=frzOne s hv i x:=fun i y hi=>by
  rw [frzFrom_get] at hi
  simp only [Nat.zero_add,Option.map_eq_some_iff] at hi
  obtain ⟨x,hx,rfl⟩:=hi
  exact ⟨x,hx,rfl⟩
 have hss:=h.slot s hv hs
 have boxrd:∀ cs,hv=.box cs→∃ vs:List Value,a.tmps.getD s Go.undef=.pointer (some ⟨b,0,none⟩)∧(∀ off j u,(vs.drop off)[j]? = some u→w.cell? ⟨b,off+j,none⟩=some u)∧RdD (fun b' o=>M b' o∧b'≠b) w vs (bareL cs):=fun cs e=>by
  subst e
  obtain ⟨b',vs,T,e1,hheap,hr⟩:=hss
  have:b'=b:=by rw [e1] at hb;exact hb
  subst this
  exact ⟨vs,e1,fun off j u hj=>box_cells hheap off j u hj,hr.bare.keep hk⟩
 have arrrd:∀ pre c,hv=.arr pre c none→∃ cap,a.tmps.getD s Go.undef=.slice (some ⟨b,pre.length,none⟩) c.cnt cap∧RdC (fun b' o=>M b' o∧b'≠b) w (.slice (some ⟨b,pre.length,none⟩) c.cnt cap) c∧c.uni∧
  ∃ vs,RdD (fun b' o=>M b' o∧b'≠b) w vs c.flat∧∀ i u,vs[i]? = some u→w.cell? ⟨b,pre.length+i,none⟩=some u:=fun pre c e=>by
  subst e
  obtain ⟨b',T,vs,q,cap,e1,hheap,hr,_,hu,hcap,_⟩:=hss
  have:b'=b:=by rw [e1] at hb;exact hb
  subst this
  refine ⟨cap,e1,arr_read hheap (hr.keep hk) hu hcap hMb,hu,vs,hr.keep hk,fun i u hi=>?_⟩
  have hlt:i<vs.length:=(List.getElem?_eq_some_iff.1 hi).1
  simp only [World.cell?,hheap]
  simp only [List.getElem?_toArray]
  rw [List.getElem?_append_right (by omega),List.getElem?_append_left (by omega)]
  rw [show pre.length+i-pre.length=i by omega]
  exact hi
 have hslot:∀(i:Nat) (x:AV),σ[i]? = some x→SlotOk (fun b' o=>M b' o∧b'≠b) w τ a.tmps (a.tmps.getD i Go.undef) (frzOne s hv i x)∧(∀ t,(frzOne s hv i x).hasTok t→live σ t)∧
  ((frzOne s hv i x).holder=true→i≠s∧frzOne s hv i x=x)∧(∀ s' b',(frzOne s hv i x).rf=some (s',b')→s'≠s∧i≠s∧frzOne s hv i x=x):=fun i x hi=>by
  have same:i≠s→(∀ s' b',x.rf=some (s',b')→s'≠s)→SlotOk (fun b' o=>M b' o∧b'≠b) w τ a.tmps (a.tmps.getD i Go.undef) x∧(∀ t,x.hasTok t→live σ t)∧(x.holder=true→i≠s∧x=x)∧(∀ s' b',x.rf=some (s',b')→s'≠s∧i≠s∧x=x):=fun his hrf=>
   ⟨(h.slot i x hi).keep hk (fun _ _=>rfl) (fun _ _ _=>rfl) (fun _=>rfl),fun t ht=>⟨i,x,hi,ht⟩,fun _=>⟨his,rfl⟩,fun s' b' hr=>⟨hrf s' b' hr,his,rfl⟩⟩
  have dat:∀ y:AV,SlotOk (fun b' o=>M b' o∧b'≠b) w τ a.tmps (a.tmps.getD i Go.undef) y→(∀ t,¬y.hasTok t)→y.holder=false→y.rf=none→
   SlotOk (fun b' o=>M b' o∧b'≠b) w τ a.tmps (a.tmps.getD i Go.undef) y∧(∀ t,y.hasTok t→live σ t)∧(y.holder=true→i≠s∧y=x)∧(∀ s' b',y.rf=some (s',b')→s'≠s∧i≠s∧y=x):=fun y h1 h2 h3 h4=>
   ⟨h1,fun t ht=>absurd ht (h2 t),fun e=>(by rw [h3] at e;cases e),fun s' b' e=>(by rw [h4] at e;cases e)⟩
  have anyc:=dat .any trivial (fun _ ht=>ht) rfl rfl
  unfold frzOne
  by_cases his:i=s
  · rw [if_pos his]
    subst his
    cases hv with
    | box cs=>
     obtain ⟨vs,e1,hc,hr⟩:=boxrd cs rfl
     exact dat _ ⟨b,0,vs,e1,fun j u hj=>⟨fun hx=>hx.2 rfl,hc 0 j u (by simpa using hj)⟩,hr⟩ (fun _ ht=>ht) rfl rfl
    | arr pre c post=>
     cases post with
     | some _=>cases hf
     | none=>
      obtain ⟨cap,e1,hr,_⟩:=arrrd pre c rfl
      exact dat (.one c) (by rw [e1];exact RdT.of hr) (fun t ht=>hr.noTok t ht) rfl rfl
    | _=>cases hf
  · rw [if_neg his]
    have hx:=h.slot i x hi
    cases x with
    | ptr s' off =>
     simp only
     split
     · rename_i e;subst e
       cases hv with
       | box cs=>
        obtain ⟨vs,e1,hc,hr⟩:=boxrd cs rfl
        have hx:a.tmps.getD i Go.undef=.pointer (some ⟨blk (a.tmps.getD s' Go.undef),off,none⟩):=hx
        rw [hb] at hx
        refine dat _ ⟨b,off,vs.drop off,hx,fun j u hj=>⟨fun hx=>hx.2 rfl,hc off j u hj⟩,?_⟩ (fun _ ht=>ht) rfl rfl
        rw [bareL_drop];exact hr.drop off
       | _=>exact anyc
     · rename_i e;exact same his (fun s' b' hr=>by simp only [AV.rf,Option.some.injEq,Prod.mk.injEq] at hr;rw [←hr.1];exact e)
    | asl s' =>
     simp only
     split
     · rename_i e;subst e
       cases hv with
       | arr pre c post=>
        cases post with
        | some _=>cases hf
        | none=>
         obtain ⟨cap,e1,hr,_⟩:=arrrd pre c rfl
         have hx:a.tmps.getD i Go.undef=a.tmps.getD s' Go.undef:=hx
         exact dat (.one c) (by rw [hx,e1];exact RdT.of hr) (fun t ht=>hr.noTok t ht) rfl rfl
       | _=>exact anyc
     · rename_i e;exact same his (fun s' b' hr=>by simp only [AV.rf,Option.some.injEq,Prod.mk.injEq] at hr;rw [←hr.1];exact e)
    | awn s' m lo n =>
     simp only
     split
     · rename_i e;subst e
       cases hv with
       | arr pre c post =>
        cases post with
        | some _=>cases hf
        | none=>
         simp only
         split
         · rename_i hc
           obtain ⟨hfit,rfl⟩:=hc
           obtain ⟨cap,e1,hr,hu,_⟩:=arrrd pre c rfl
           obtain ⟨ad,cap',e2,had,hn,_⟩:=hx
           rw [e1] at had
           have:=hr.sub hu hfit (ad:=ad) (fun hne=>had (.inl hne)) hn
           exact dat (.one (c.sub lo n)) (by rw [e2];exact RdT.of this) (fun t ht=>this.noTok t ht) rfl rfl
         · exact anyc
       | _=>exact anyc
     · rename_i e;exact same his (fun s' b' hr=>by simp only [AV.rf,Option.some.injEq,Prod.mk.injEq] at hr;rw [←hr.1];exact e)
    | pel s' m i' f =>
     simp only
     split
     · rename_i e;subst e
       cases hv with
       | arr pre c post =>
        cases post with
        | some _=>cases hf
        | none=>
         simp only
         split
         · rename_i hm
           subst hm
           split
           · rename_i cs hat
             obtain ⟨cap,e1,_,hu,vs,hr,hcl⟩:=arrrd pre c rfl
             obtain ⟨hi',r,hdrop⟩:=Cell.at_ok hu hat
             have hx:a.tmps.getD i Go.undef=.pointer (some ⟨blk (a.tmps.getD s' Go.undef),offV (a.tmps.getD s' Go.undef)+i'*c.esz+f,none⟩):=hx
             rw [e1] at hx
             have hfull:=hr.drop (i'*c.esz+f)
             rw [hdrop] at hfull
             have hrd':=hfull.take cs.length
             rw [List.take_left] at hrd'
             refine dat (.elt cs) ⟨b,pre.length+i'*c.esz+f,_,hx,fun j u hj=>⟨fun hx=>hx.2 rfl,?_⟩,hrd'⟩ (fun _ ht=>ht) rfl rfl
             rw [List.getElem?_take] at hj
             split at hj
             · rw [List.getElem?_drop] at hj
               have:=hcl _ u hj
               rw [show pre.length+i'*c.esz+f+j=pre.length+(i'*c.esz+f+j) by omega]
               exact this
             · cases hj
           · exact anyc
         · exact anyc
       | _=>exact anyc
     · rename_i e;exact same his (fun s' b' hr=>by simp only [AV.rf,Option.some.injEq,Prod.mk.injEq] at hr;rw [←hr.1];exact e)
    | _=>exact same his (fun s' b' hr=>by cases hr)
 have hlive:∀ t,live (frzFrom s hv 0 σ) t→live σ t:=fun t ⟨i,y,hi,hy⟩=>by
  obtain ⟨x,hx,rfl⟩:=hget i y hi
  exact (hslot i x hx).2.1 t hy
 refine RelI.mk h.hd (by rw [frzFrom_length];exact h.hs) ?_ ?_ (fun b' o hm=>h.mb b' o hm.1) ?_ ?_ ?_ ?_ ?_ ?_ h.size h.os h.tape h.output h.frame
 · intro i y hi
   obtain ⟨x,hx,rfl⟩:=hget i y hi
   exact (hslot i x hx).1
 · intro b' o hm
   refine ⟨h.m0 b' o hm,fun e=>?_⟩
   have:=E.hM b' o hm
   rw [e] at this
   exact absurd this (by have:=hN;unfold Env.N at this;omega)
 · intro i y hi hy
   obtain ⟨x,hx,rfl⟩:=hget i y hi
   obtain ⟨hne,he⟩:=(hslot i x hx).2.2.1 hy
   rw [he] at hy ⊢
   have h1:=h.hold i x hx hy
   refine ⟨fun o=>⟨h1.1 o,fun e=>hne ?_⟩,h1.2⟩
   exact h.inj i s x hv hx hs hy hh (e.trans hb.symm)
 · intro i j y z hi hj hy hz
   obtain ⟨x,hx,rfl⟩:=hget i y hi
   obtain ⟨x',hx',rfl⟩:=hget j z hj
   obtain ⟨_,he⟩:=(hslot i x hx).2.2.1 hy
   obtain ⟨_,he'⟩:=(hslot j x' hx').2.2.1 hz
   rw [he] at hy;rw [he'] at hz
   exact h.inj i j x x' hx hx' hy hz
 · intro i y s' b' hi hr
   obtain ⟨x,hx,rfl⟩:=hget i y hi
   obtain ⟨hne,_,he⟩:=(hslot i x hx).2.2.2 s' b' hr
   rw [he] at hr
   obtain ⟨hv',h1,h2⟩:=h.refs i x s' b' hx hr
   refine ⟨hv',?_,h2⟩
   rw [frzFrom_get,h1]
   simp only [Option.map_some,Nat.zero_add,Option.some.injEq]
   unfold frzOne
   rw [if_neg hne]
   cases hv'<;>first | rfl | (cases b'<;>cases h2)
 · intro t ht
   rcases h.toks t (hlive t ht) with h' | ⟨e,n,xs,ho,hm⟩
   · exact .inl h'
   · rcases ho.2 with ⟨h1,_⟩ | ⟨g,cap,cur,hv',hg,hh',hnc,r⟩
     · exact .inl ⟨none,h1⟩
     · cases cap with
       | zero=>exact .inl ⟨some ⟨g,0,none⟩,by rw [hv'];simp at hnc;rw [hnc]⟩
       | succ cap=>
        refine .inr ⟨e,n,xs,⟨ho.1,.inr ⟨g,cap+1,cur,hv',hg,hh',hnc,r⟩⟩,fun g' hg' o ho'=>⟨hm g' hg' o ho',fun e=>?_⟩⟩
        subst e
        have hgg:g'=g:=by rw [hv'] at hg';simpa [Value.ownBlock] using hg'.symm
        exact h.tbox t s hv (hlive t ht) hs hh (by rw [hv',hb,hgg];rfl)
 · exact fun t t' g ht ht'=>h.tinj t t' g (hlive t ht) (hlive t' ht')
 · intro t i y ht hi hy
   obtain ⟨x,hx,rfl⟩:=hget i y hi
   obtain ⟨_,he⟩:=(hslot i x hx).2.2.1 hy
   rw [he] at hy
   exact h.tbox t i x (hlive t ht) hx hy
theorem StLe.frz (s:Nat) (σ:List AV):StLe σ (Go.Slot.frz s σ):=by
 unfold Go.Slot.frz
 split
 · rename_i cs hg
   intro E a w ⟨τ,M,hI⟩
   obtain ⟨M',h'⟩:=hI.freeze (gt_some hg (by simp)) rfl
   exact ⟨τ,M',h'⟩
 · rename_i pre c hg
   intro E a w ⟨τ,M,hI⟩
   obtain ⟨M',h'⟩:=hI.freeze (gt_some hg (by simp)) rfl
   exact ⟨τ,M',h'⟩
 · exact StLe.refl σ
inductive Gh where
 | frz (s:Nat)
 | any (s:Nat)
 | mv (s t:Nat)
 | join
 | lit
def setAny (s:Nat) (σ:List AV):List AV:=if nh σ s then σ.set s .any else σ
theorem LeS.setAny (s:Nat) (σ:List AV):LeS σ (σ.set s .any):=by
 induction σ generalizing s with
 | nil=>exact .nil
 | cons a σ ih=>
  cases s with
  | zero=>exact .cons (.any a) (LeS.refl σ)
  | succ s=>exact .cons (.refl a) (ih s)
theorem StLe.setAny (s:Nat) (σ:List AV):StLe σ (Go.Slot.setAny s σ):=by
 unfold Go.Slot.setAny
 split
 · rename_i hn
   intro E a w ⟨τ,M,hI⟩
   obtain ⟨old,hs,ho⟩:=nh_spec hn
   have hlt:s<σ.length:=(List.getElem?_eq_some_iff.1 hs).1
   have hnot:∀ i x,σ[i]? = some x→x.holder=true→i≠s:=fun i x hi hx e=>by
    subst e;rw [hs] at hi;cases hi;rw [ho] at hx;cases hx
   have hlive:∀ t,live (σ.set s .any) t→live σ t:=fun t ⟨i,x,hi,hx⟩=>by
    rcases getElem?_set_cases hi with ⟨_,rfl⟩ | ⟨_,hi⟩
    · exact hx.elim
    · exact ⟨i,x,hi,hx⟩
   refine ⟨τ,M,RelI.mk hI.hd (by simpa using hI.hs) ?_ hI.m0 hI.mb ?_ ?_ ?_ (fun t ht=>hI.toks t (hlive t ht)) (fun t t' g h1 h2=>hI.tinj t t' g (hlive t h1) (hlive t' h2)) ?_ hI.size hI.os hI.tape hI.output hI.frame⟩
   · intro i x hi
     rcases getElem?_set_cases hi with ⟨_,rfl⟩ | ⟨_,hi⟩
     · exact trivial
     · exact hI.slot i x hi
   · intro i x hi hx
     rcases getElem?_set_cases hi with ⟨_,rfl⟩ | ⟨_,hi⟩
     · cases hx
     · exact hI.hold i x hi hx
   · intro i j x y hi hj hx hy
     rcases getElem?_set_cases hi with ⟨_,rfl⟩ | ⟨_,hi⟩
     · cases hx
     · rcases getElem?_set_cases hj with ⟨_,rfl⟩ | ⟨_,hj⟩
       · cases hy
       · exact hI.inj i j x y hi hj hx hy
   · intro i x s' b hi hr
     rcases getElem?_set_cases hi with ⟨_,rfl⟩ | ⟨_,hi⟩
     · cases hr
     · obtain ⟨hv,h1,h2⟩:=hI.refs i x s' b hi hr
       exact ⟨hv,by rw [List.getElem?_set_ne (Ne.symm (hnot s' hv h1 (AV.fits_holder h2)))];exact h1,h2⟩
   · intro t i x ht hi hx
     rcases getElem?_set_cases hi with ⟨_,rfl⟩ | ⟨_,hi⟩
     · cases hx
     · exact hI.tbox t i x (hlive t ht) hi hx
 · exact StLe.refl σ
def hitB (s i:Nat) (av:AV):Bool:=if i=s then true else match av.rf with
 | some (s',_)=>s'==s
 | none=>false
def dropOne (s i:Nat) (av:AV):AV:=if hitB s i av=true then .any else av
def dropFrom (s:Nat):Nat→List AV→List AV
 | _,[]=>[]
 | i,av::r=>dropOne s i av::dropFrom s (i+1) r
def dropS (s:Nat) (σ:List AV):List AV:=dropFrom s 0 σ
theorem dropFrom_get (s:Nat):∀(k:Nat) (σ:List AV) (i:Nat),(dropFrom s k σ)[i]? = (σ[i]?).map (dropOne s (k+i))
 | _,[],i=>by simp [dropFrom]
 | k,av::r,0=>by simp [dropFrom]
 | k,av::r,i+1=>by
  simp only [dropFrom,List.getElem?_cons_succ]
  rw [dropFrom_get s (k+1) r i,show k+1+i=k+(i+1) by omega]
theorem dropFrom_length (s:Nat):∀(k:Nat) (σ:List AV),(dropFrom s k σ).length=σ.length
 | _,[]=>rfl
 | k,av::r=>by simp [dropFrom,dropFrom_length s (k+1) r]
theorem dropS_length (s:Nat) (σ:List AV):(dropS s σ).length=σ.length:=dropFrom_length s 0 σ
theorem dropS_get {s:Nat} {σ:List AV} {i:Nat} {y:AV} (h:(dropS s σ)[i]? = some y):∃ x,σ[i]? = some x∧y=dropOne s i x:=by
 unfold dropS at h
 rw [dropFrom_get] at h
 simp only [Nat.zero_add,Option.map_eq_some_iff] at h
 obtain ⟨x,hx,rfl⟩:=h
 exact ⟨x,hx,rfl⟩
theorem dropOne_cases (s i:Nat) (x:AV):(dropOne s i x=.any)∨(dropOne s i x=x∧i≠s∧∀ s' b,x.rf=some (s',b)→s'≠s):=by
 unfold dropOne
 split
 · exact .inl rfl
 · rename_i h
   unfold hitB at h
   split at h
   · exact absurd rfl h
   · rename_i hne
     refine .inr ⟨rfl,hne,fun s' b e=>?_⟩
     rw [e] at h
     simpa using h
theorem RelI.dropS {E:Env} {τ:Nat→TV} {M:Nat→Nat→Prop} {σ:List AV} {a:Act} {w:World} (h:RelI E τ M σ a w) (s:Nat):RelI E τ M (Go.Slot.dropS s σ) a w:=by
 have hlive:∀ t,live (Go.Slot.dropS s σ) t→live σ t:=fun t ⟨i,y,hi,hy⟩=>by
  obtain ⟨x,hx,rfl⟩:=dropS_get hi
  rcases dropOne_cases s i x with e | ⟨e,_⟩
  · rw [e] at hy;exact hy.elim
  · rw [e] at hy;exact ⟨i,x,hx,hy⟩
 have hh:∀(i:Nat) (y:AV),(Go.Slot.dropS s σ)[i]? = some y→y.holder=true→σ[i]? = some y:=fun (i:Nat) (y:AV) hi hy=>by
  obtain ⟨x,hx,rfl⟩:=dropS_get hi
  rcases dropOne_cases s i x with e | ⟨e,_⟩
  · rw [e] at hy;cases hy
  · rw [e];exact hx
 refine RelI.mk h.hd (by rw [dropS_length];exact h.hs) ?_ h.m0 h.mb (fun i y hi hy=>h.hold i y (hh i y hi hy) hy) (fun i j y z hi hj hy hz=>h.inj i j y z (hh i y hi hy) (hh j z hj hz) hy hz) ?_
  (fun t ht=>h.toks t (hlive t ht)) (fun t t' g ht ht'=>h.tinj t t' g (hlive t ht) (hlive t' ht')) (fun t i y ht hi hy=>h.tbox t i y (hlive t ht) (hh i y hi hy) hy) h.size h.os h.tape h.output h.frame
 · intro i y hi
   obtain ⟨x,hx,rfl⟩:=dropS_get hi
   rcases dropOne_cases s i x with e | ⟨e,_⟩
   · rw [e];exact trivial
   · rw [e];exact h.slot i x hx
 · intro i y s' b hi hr
   obtain ⟨x,hx,rfl⟩:=dropS_get hi
   rcases dropOne_cases s i x with e | ⟨e,hne,hrf⟩
   · rw [e] at hr;cases hr
   · rw [e] at hr
     obtain ⟨hv,h1,h2⟩:=h.refs i x s' b hx hr
     have hs':=hrf s' b hr
     refine ⟨hv,?_,h2⟩
     unfold Go.Slot.dropS
     rw [dropFrom_get,h1]
     simp only [Nat.zero_add,Option.map_some,Option.some.injEq]
     have:hv.rf=none:=by cases hv<;>first | rfl | (cases b<;>cases h2)
     unfold dropOne hitB
     rw [if_neg hs',this]
     simp
theorem RelI.take {E:Env} {τ:Nat→TV} {M:Nat→Nat→Prop} {σ:List AV} {a:Act} {w:World} (h:RelI E τ M σ a w) {d:Nat} {old:AV} (hd:σ[d]? = some old) (hnh:old.holder=false) (v:Value) (av:AV) (hav:av.holder=true) (hfrs:av.fresh=true)
 (hN:E.N≤blk v) (hM:∀ o,M (blk v) o) (hfree:∀(i:Nat) (x:AV),σ[i]? = some x→x.holder=true→blk (a.tmps.getD i Go.undef)≠blk v) (hfreet:∀ t,live σ t→tokB (τ t).v≠some (blk v))
 (hok:SlotOk M w τ a.tmps v av) (htok:∀ t,av.hasTok t→live σ t):RelI E τ M (σ.set d av) (a.put (some d) v) w:=by
 have hlt:d<a.tmps.size:=h.lt hd
 have hns:∀(s:Nat) (b:Bool) (hv:AV),σ[s]? = some hv→hv.fits b=true→d≠s:=fun s b hv hs hf e=>by
  subst e;rw [hd] at hs;cases hs;have:=AV.fits_holder hf;rw [hnh] at this;cases this
 have hself:(a.tmps.setIfInBounds d v).getD d Go.undef=v:=by simp [hlt]
 have hlive:∀ t,live (σ.set d av) t→live σ t:=fun t ⟨i,x,hi,hx⟩=>by
  rcases getElem?_set_cases hi with ⟨_,rfl⟩ | ⟨_,hi⟩
  · exact htok t hx
  · exact ⟨i,x,hi,hx⟩
 refine RelI.mk h.hd (by simpa [Act.put] using h.hs) ?_ h.m0 h.mb ?_ ?_ ?_ (fun t ht=>h.toks t (hlive t ht)) (fun t t' g ht ht'=>h.tinj t t' g (hlive t ht) (hlive t' ht')) ?_ h.size h.os h.tape h.output h.frame
 · intro i x hi
   show SlotOk _ w τ (a.tmps.setIfInBounds d v) ((a.tmps.setIfInBounds d v).getD i Go.undef) x
   rcases getElem?_set_cases hi with ⟨rfl,rfl⟩ | ⟨hne,hi⟩
   · rw [hself]
     exact hok.keep (fun _ _ _ h1 h2=>⟨h1,h2⟩) (fun _ _=>rfl) (fun s b hr=>by cases x<;>simp [AV.rf,AV.holder] at hr hav) (fun _=>rfl)
   · rw [getD_set_ne (Ne.symm hne)]
     exact (h.slot i x hi).keep (fun _ _ _ h1 h2=>⟨h1,h2⟩) (fun _ _=>rfl) (fun s b hr=>by obtain ⟨hv,h1,h2⟩:=h.refs i x s b hi hr;exact getD_set_ne (hns s b hv h1 h2) v) (fun _=>rfl)
 · intro i x hi hh
   show (∀ o',M (blk ((a.tmps.setIfInBounds d v).getD i Go.undef)) o')∧(_≤blk ((a.tmps.setIfInBounds d v).getD i Go.undef)∨E.X (blk ((a.tmps.setIfInBounds d v).getD i Go.undef)))∧(_→_≤blk ((a.tmps.setIfInBounds d v).getD i Go.undef))∧(_→(a.tmps.setIfInBounds d v).getD i Go.undef=_)
   rcases getElem?_set_cases hi with ⟨rfl,rfl⟩ | ⟨hne,hi⟩
   · rw [hself];exact ⟨hM,.inl hN,fun _=>hN,fun e=>by rw [hfrs] at e;cases e⟩
   · rw [getD_set_ne (Ne.symm hne)];exact h.hold i x hi hh
 · intro i j x y hi hj hx hy
   show blk ((a.tmps.setIfInBounds d v).getD i Go.undef)=blk ((a.tmps.setIfInBounds d v).getD j Go.undef)→_
   rcases getElem?_set_cases hi with ⟨rfl,rfl⟩ | ⟨hne,hi'⟩
   · rcases getElem?_set_cases hj with ⟨rfl,rfl⟩ | ⟨hne',hj⟩
     · exact fun _=>rfl
     · rw [hself,getD_set_ne (Ne.symm hne')]
       exact fun e=>absurd e.symm (hfree j y hj hy)
   · rcases getElem?_set_cases hj with ⟨rfl,rfl⟩ | ⟨hne',hj⟩
     · rw [hself,getD_set_ne (Ne.symm hne)]
       exact fun e=>absurd e (hfree i x hi' hx)
     · rw [getD_set_ne (Ne.symm hne),getD_set_ne (Ne.symm hne')];exact h.inj i j x y hi' hj hx hy
 · intro i x s b hi hr
   have:∃ hv:AV,σ[s]? = some hv∧hv.fits b=true:=by
    rcases getElem?_set_cases hi with ⟨rfl,rfl⟩ | ⟨hne,hi⟩
    · cases x<;>simp [AV.rf,AV.holder] at hr hav
    · exact h.refs i x s b hi hr
   obtain ⟨hv,h1,h2⟩:=this
   exact ⟨hv,by rw [List.getElem?_set_ne (hns s b hv h1 h2)];exact h1,h2⟩
 · intro t i x ht hi hx
   show _≠some (blk ((a.tmps.setIfInBounds d v).getD i Go.undef))
   rcases getElem?_set_cases hi with ⟨rfl,rfl⟩ | ⟨hne,hi⟩
   · rw [hself];exact hfreet t (hlive t ht)
   · rw [getD_set_ne (Ne.symm hne)];exact h.tbox t i x (hlive t ht) hi hx
def mvS (s t:Nat) (σ:List AV):List AV:=match gt σ t with
 | .asl s'=>if s'=s then match gt σ s with
  | .arr pre c none=>(dropS s σ).set t (.arr pre c none)
  | _=>σ
  else σ
 | _=>σ
theorem put_self {a:Act} {d:Nat}:a.put (some d) (a.tmps.getD d Go.undef)=a:=by
 unfold Act.put
 cases a with
 | mk tmps defers=>
  simp only
  congr 1
  apply Array.ext
  · simp
  · intro i h1 h2
    rw [Array.getElem_setIfInBounds]
    split
    · rename_i e;subst e;simp [h2]
    · rfl
theorem StLe.mvS (s t : Nat) (σ : List AV) : StLe σ (Go.Slot.mvS s t σ) := by
 unfold Go.Slot.mvS
 split
 · rename_i s' hgt
   split
   · rename_i e
     subst e
     split
     · rename_i pre c hgs
       intro E a w ⟨τ,M,hI⟩
       have hs:=gt_some hgs (by simp)
       have ht:=gt_some hgt (by simp)
       have hne:t≠s':=fun e=>by subst e;rw [hs] at ht;cases ht
       have hv:a.tmps.getD t Go.undef=a.tmps.getD s' Go.undef:=by have:=hI.gt t;rw [hgt] at this;exact this
       have hold:=hI.hold s' _ hs rfl
       have h1:=hI.dropS s'
       have ht1:(dropS s' σ)[t]? = some .any:=by
        unfold dropS
        rw [dropFrom_get,ht]
        simp only [Nat.zero_add,Option.map_some,Option.some.injEq]
        unfold dropOne hitB
        rw [if_neg hne]
        simp [AV.rf]
       have h2:=h1.take ht1 rfl (a.tmps.getD t Go.undef) (.arr pre c none) rfl rfl (by rw [hv];exact hold.2.2.1 rfl) (by rw [hv];exact hold.1) (fun i x hi hx e=>by
        obtain ⟨y,hy,rfl⟩:=dropS_get hi
        rcases dropOne_cases s' i y with e' | ⟨e',hne',_⟩
        · rw [e'] at hx;cases hx
        · rw [e'] at hx
          rw [hv] at e
          exact hne' (hI.inj i s' y _ hy hs hx rfl e)) (fun d hd=>by
        rw [hv]
        obtain ⟨i,y,hi,hy⟩:=hd
        obtain ⟨x,hx,rfl⟩:=dropS_get hi
        rcases dropOne_cases s' i x with e' | ⟨e',_⟩
        · rw [e'] at hy;exact hy.elim
        · rw [e'] at hy
          exact hI.tbox d s' _ ⟨i,x,hx,hy⟩ hs rfl) (by rw [hv];have:=hI.slot s' _ hs;exact this) (fun d hd=>hd.elim)
       rw [put_self] at h2
       exact ⟨τ,M,h2⟩
     · exact StLe.refl σ
   · exact StLe.refl σ
 · exact StLe.refl σ
theorem RelI.tokI {E:Env} {τ:Nat→TV} {M:Nat→Nat→Prop} {σ:List AV} {a:Act} {w:World} (h0:RelI E τ M σ a w) {s d:Nat} {old:AV} (hs:σ[s]? = some old) (hnh:old.holder=false) (hnl:¬live σ d) (c:Cell)
 (htok:TokOk E M w ⟨a.tmps.getD s Go.undef,c.esz⟩) (hnb:∀ g,tokB (a.tmps.getD s Go.undef)≠some g) (hr:RdC M w (a.tmps.getD s Go.undef) c) :
 ∃ τ',RelI E τ' M (σ.set s (.one (.tok d c))) a w:=by
 have h:=h0.retok hnl ⟨a.tmps.getD s Go.undef,c.esz⟩
 generalize hτ:(fun t=>if t=d then (⟨a.tmps.getD s Go.undef,c.esz⟩:TV) else τ t)=τ' at h
 have hd:τ' d=⟨a.tmps.getD s Go.undef,c.esz⟩:=by rw [←hτ];simp
 refine ⟨τ',?_⟩
 have hlt:s<σ.length:=(List.getElem?_eq_some_iff.1 hs).1
 have hnot:∀(i:Nat) (x:AV),σ[i]? = some x→x.holder=true→i≠s:=fun i x hi hx e=>by
  subst e;rw [hs] at hi;cases hi;rw [hnh] at hx;cases hx
 have hlive:∀ t,live (σ.set s (.one (.tok d c))) t→t=d∨live σ t:=fun t ⟨i,x,hi,hx⟩=>by
  rcases getElem?_set_cases hi with ⟨_,rfl⟩ | ⟨_,hi⟩
  · rcases hx with hx | hx
    · exact .inl hx.symm
    · exact absurd hx (hr.noTok t)
  · exact .inr ⟨i,x,hi,hx⟩
 refine RelI.mk h.hd (by simpa using h.hs) ?_ h.m0 h.mb ?_ ?_ ?_ ?_ ?_ ?_ h.size h.os h.tape h.output h.frame
 · intro i x hi
   rcases getElem?_set_cases hi with ⟨rfl,rfl⟩ | ⟨_,hi⟩
   · exact ⟨by rw [hd];exact ⟨rfl,rfl⟩,hr⟩
   · exact h.slot i x hi
 · intro i x hi hx
   rcases getElem?_set_cases hi with ⟨_,rfl⟩ | ⟨_,hi⟩
   · cases hx
   · exact h.hold i x hi hx
 · intro i j x y hi hj hx hy
   rcases getElem?_set_cases hi with ⟨_,rfl⟩ | ⟨_,hi⟩
   · cases hx
   · rcases getElem?_set_cases hj with ⟨_,rfl⟩ | ⟨_,hj⟩
     · cases hy
     · exact h.inj i j x y hi hj hx hy
 · intro i x s' b hi hrf
   rcases getElem?_set_cases hi with ⟨_,rfl⟩ | ⟨_,hi⟩
   · cases hrf
   · obtain ⟨hv,h1,h2⟩:=h.refs i x s' b hi hrf
     exact ⟨hv,by rw [List.getElem?_set_ne (Ne.symm (hnot s' hv h1 (AV.fits_holder h2)))];exact h1,h2⟩
 · intro t ht
   rcases hlive t ht with rfl | ht
   · rw [hd];exact htok
   · exact h.toks t ht
 · intro t t' g ht ht' hne hg
   rcases hlive t ht with rfl | ht1
   · rw [hd] at hg;exact absurd hg (hnb g)
   · rcases hlive t' ht' with rfl | ht2
     · rw [hd];exact hnb g
     · exact h.tinj t t' g ht1 ht2 hne hg
 · intro t i x ht hi hx
   rcases getElem?_set_cases hi with ⟨_,rfl⟩ | ⟨_,hi⟩
   · cases hx
   · rcases hlive t ht with rfl | ht
     · rw [hd];exact hnb _
     · exact h.tbox t i x ht hi hx
def emptyC:Cell→Bool
 | .ints _ []=>true
 | .sl _ []=>true
 | _=>false
def noRoom:AV→Bool
 | .one (.raw (.slice none 0 0))=>true
 | .one .zc=>true
 | _=>false
theorem StLe.tokI (s d:Nat) (c:Cell) {σ:List AV} (hc:emptyC c=true) (hn:noTokS d σ=true) (hs:noRoom (gt σ s)=true):StLe σ (σ.set s (.one (.tok d c))):=by
 intro E a w ⟨τ,M,hI⟩
 have key:∃ ad,a.tmps.getD s Go.undef=.slice ad 0 0∧∃ old,σ[s]? = some old∧old.holder=false:=by
  have h:=hI.gt s
  unfold noRoom at hs
  split at hs
  · rename_i hg
    rw [hg] at h
    exact ⟨none,RdC.raw_inv h,_,gt_some hg (by simp),rfl⟩
  · rename_i hg
    rw [hg] at h
    have h:RdC M w (a.tmps.getD s Go.undef) .zc:=h
    generalize hv:a.tmps.getD s Go.undef=v at h
    cases h
    exact ⟨_,rfl,_,gt_some hg (by simp),rfl⟩
  · cases hs
 obtain ⟨ad,hv,old,h1,h2⟩:=key
 have hr:RdC M w (.slice ad 0 0) c:=by
  unfold emptyC at hc
  split at hc
  · exact RdC.zcInts _
  · exact RdC.zcSl _
  · cases hc
 obtain ⟨τ',h'⟩:=hI.tokI h1 h2 (noTokS_spec hn) c (by rw [hv];exact .inl ⟨ad,rfl⟩) (by rw [hv];intro g;cases ad<;>simp [tokB]) (by rw [hv];exact hr)
 exact ⟨τ',M,h'⟩
def ghA:Gh→List AV→List AV
 | .frz s,σ=>frz s σ
 | .any s,σ=>setAny s σ
 | .mv s t,σ=>mvS s t σ
 | .join,σ=>σ
 | .lit,σ=>σ
def ghL:List Gh→List AV→List AV
 | [],σ=>σ
 | g::r,σ=>ghL r (packS (ghA g σ))
theorem StLe.ghA (g:Gh) (σ:List AV):StLe σ (Go.Slot.ghA g σ):=by
 cases g with
 | frz s=>exact StLe.frz s σ
 | any s=>exact StLe.setAny s σ
 | mv s t=>exact StLe.mvS s t σ
 | join=>exact StLe.refl σ
 | lit=>exact StLe.refl σ
theorem StLe.ghL:∀(l:List Gh) (σ:List AV),StLe σ (Go.Slot.ghL l σ)
 | [],σ=>StLe.refl σ
 | g::r,σ=>(StLe.ghA g σ).trans (by unfold Go.Slot.ghL;rw [packS_eq];exact StLe.ghL r _)
def anyH (av:AV):AV:=match av.holder with
 | true=>av
 | false=>.any
def nextK:Bool→List Nat→List Nat
 | true,[]=>[]
 | true,_::ks=>ks
 | false,ks=>ks
def pickK:Bool→AV→AV
 | true,av=>av
 | false,av=>anyH av
def isK:List Nat→Nat→Bool
 | [],_=>false
 | k::_,i=>i==k
def onlyFrom:List Nat→Nat→List AV→List AV
 | _,_,[]=>[]
 | ks,i,av::r=>pickK (isK ks i) av::onlyFrom (nextK (isK ks i) ks) (i+1) r
def onlyS (keep:List Nat) (σ:List AV):List AV:=onlyFrom keep 0 σ
theorem anyH_cases (av:AV):anyH av=av∨(anyH av=.any∧av.holder=false):=by
 unfold anyH
 cases h:av.holder with
 | true=>exact .inl rfl
 | false=>exact .inr ⟨rfl,rfl⟩
theorem onlyFrom_get:∀(keep:List Nat) (k:Nat) (σ:List AV) (i:Nat),∃ f:AV→AV,(onlyFrom keep k σ)[i]? = (σ[i]?).map f∧∀ x,f x=x∨(f x=.any∧x.holder=false)
 | _,_,[],i=>⟨id,by simp [onlyFrom],fun x=>.inl rfl⟩
 | ks,k,av::r,0=>by
  refine ⟨pickK (isK ks k),by simp [onlyFrom],fun x=>?_⟩
  cases isK ks k with
  | true=>exact .inl rfl
  | false=>exact anyH_cases x
 | ks,k,av::r,i+1=>by
  obtain ⟨f,h1,h2⟩:=onlyFrom_get (nextK (isK ks k) ks) (k+1) r i
  exact ⟨f,by simpa [onlyFrom] using h1,h2⟩
theorem onlyFrom_length:∀(keep:List Nat) (k:Nat) (σ:List AV),(onlyFrom keep k σ).length=σ.length
 | _,_,[]=>by simp [onlyFrom]
 | ks,k,av::r=>by simp [onlyFrom,onlyFrom_length (nextK (isK ks k) ks) (k+1) r]
theorem StLe.only (keep:List Nat) (σ:List AV):StLe σ (onlyS keep σ):=by
 intro E a w ⟨τ,M,h⟩
 have get:∀(i:Nat) (y:AV),(onlyS keep σ)[i]? = some y→∃ x,σ[i]? = some x∧(y=x∨(y=.any∧x.holder=false)):=fun i y hi=>by
  obtain ⟨f,h1,h2⟩:=onlyFrom_get keep 0 σ i
  unfold onlyS at hi
  rw [h1] at hi
  simp only [Option.map_eq_some_iff] at hi
  obtain ⟨x,hx,rfl⟩:=hi
  exact ⟨x,hx,h2 x⟩
 have hh:∀(i:Nat) (y:AV),(onlyS keep σ)[i]? = some y→y.holder=true→σ[i]? = some y:=fun i y hi hy=>by
  obtain ⟨x,hx,rfl | ⟨rfl,_⟩⟩:=get i y hi
  · exact hx
  · cases hy
 have hlive:∀ t,live (onlyS keep σ) t→live σ t:=fun t ⟨i,y,hi,hy⟩=>by
  obtain ⟨x,hx,rfl | ⟨rfl,_⟩⟩:=get i y hi
  · exact ⟨i,y,hx,hy⟩
  · exact hy.elim
 refine ⟨τ,M,RelI.mk h.hd (by unfold onlyS;rw [onlyFrom_length];exact h.hs) ?_ h.m0 h.mb (fun i y hi hy=>h.hold i y (hh i y hi hy) hy) (fun i j y z hi hj hy hz=>h.inj i j y z (hh i y hi hy) (hh j z hj hz) hy hz) ?_
  (fun t ht=>h.toks t (hlive t ht)) (fun t t' g ht ht'=>h.tinj t t' g (hlive t ht) (hlive t' ht')) (fun t i y ht hi hy=>h.tbox t i y (hlive t ht) (hh i y hi hy) hy) h.size h.os h.tape h.output h.frame⟩
 · intro i y hi
   obtain ⟨x,hx,rfl | ⟨rfl,_⟩⟩:=get i y hi
   · exact h.slot i y hx
   · exact trivial
 · intro i y s' b hi hr
   obtain ⟨x,hx,rfl | ⟨rfl,_⟩⟩:=get i y hi
   · obtain ⟨hv,h1,h2⟩:=h.refs i y s' b hx hr
     obtain ⟨f,h3,h4⟩:=onlyFrom_get keep 0 σ s'
     refine ⟨hv,?_,h2⟩
     unfold onlyS
     rw [h3,h1]
     rcases h4 hv with e | ⟨_,e⟩
     · simp [e]
     · rw [AV.fits_holder h2] at e;cases e
   · cases hr
end Go.Slot
