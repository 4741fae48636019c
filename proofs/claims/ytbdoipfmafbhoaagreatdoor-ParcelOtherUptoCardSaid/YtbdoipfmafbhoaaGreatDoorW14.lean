/- The proof, part W14: Hq, Hr. -/
import Derived.Test.YtbdoipfmafbhoaaGreatDoorW13
namespace Go.Hp
open Go Go.RowKit Go.Slot
variable {P:Program} {Γ:List (Nat×List Cell)}
structure At (Γ:List (Nat×List Cell)) (e:List SB) (E:HEnv):Prop where
 eq:E.η0=e
 inv:HInv Γ E.Mo E.ρ0 E.η0 E.w0
def yas (Γ:List (Nat×List Cell)) (E:HEnv) (Q:Exit->List SV->List SB->Prop) (x:Exit) (a:Act) (w:World):Prop:=∃ J η ρ,Q x J η/\RI Γ E ρ J η a w
def z1o (Γ:List (Nat×List Cell)) (P:Program) (e:List SB) (c:Code) (Q:Exit->List SV->List SB->Prop) (J:List SV) (η:List SB):Prop:=
 ∀(E:HEnv) (ρ:Nat->Value) (a:Act) (w:World),At Γ e E->RI Γ E ρ J η a w->c.wp P (yas Γ E Q) a w
def vxb (next:List SV->List SB->Prop) (Q:Exit->List SV->List SB->Prop):Exit->List SV->List SB->Prop
 | .normal,J,η=>next J η
 | e,J,η=>Q e J η
def xdw (id:Nat) (Q:Exit->List SV->List SB->Prop):Exit->List SV->List SB->Prop
 | .exit id',J,η=>if id'=id then Q .normal J η else Q (.exit id') J η
 | e,J,η=>Q e J η
section
variable {e:List SB} {Q Q':Exit->List SV->List SB->Prop} {J J' J'':List SV} {η η' η'':List SB}
theorem z1o.mono {c:Code} (h:z1o Γ P e c Q J η) (hq:∀ x J η,Q x J η->Q' x J η):z1o Γ P e c Q' J η:=fun E ρ a w hE hR=>
 wp_mono (h E ρ a w hE hR) (fun x _a _w ⟨J,η,ρ,h1,h2⟩=>⟨J,η,ρ,hq x J η h1,h2⟩)
theorem wyv (h:Q .normal J η):z1o Γ P e .skip Q J η:=fun _ ρ _ _ _ hR=>wp_skip ⟨J,η,ρ,h,hR⟩
theorem wmv {id:Nat} (h:Q (.exit id) J η):z1o Γ P e (.exit id) Q J η:=fun _ ρ _ _ _ hR=>wp_exit ⟨J,η,ρ,h,hR⟩
theorem yf6 (h:Q .ret J η):z1o Γ P e .ret Q J η:=fun _ ρ _ _ _ hR=>wp_ret ⟨J,η,ρ,h,hR⟩
theorem zx8 {x y:Code} (h:z1o Γ P e x (vxb (fun J η=>z1o Γ P e y Q J η) Q) J η):z1o Γ P e (.seq x y) Q J η:=fun E ρ a w hE hR=>
 wp_seq (wp_mono (h E ρ a w hE hR) (fun x a w ⟨J,η,ρ,h1,h2⟩=>by
  cases x<;>first | exact h1 E ρ a w hE h2 | exact ⟨J,η,ρ,h1,h2⟩))
theorem xax {id:Nat} {c:Code} (h:z1o Γ P e c (xdw id Q) J η):z1o Γ P e (.block id c) Q J η:=fun E ρ a w hE hR=>
 wp_block (wp_mono (h E ρ a w hE hR) (fun x a w ⟨J,η,ρ,h1,h2⟩=>by
  cases x with
  | exit id'=>
   simp only [Exit.inBlock];simp only [xdw] at h1;split at h1
   . rename_i hi;rw [if_pos hi];exact ⟨J,η,ρ,h1,h2⟩
   . rename_i hi;rw [if_neg hi];exact ⟨J,η,ρ,h1,h2⟩
  | _=>exact ⟨J,η,ρ,h1,h2⟩))
theorem wxn {c:Operand} {x y:Code} {b:Bool} (hc:opdS Γ J c=.one (.dat (.raw (.bool b)))) (ht:b=true->z1o Γ P e x Q J η) (hf:b=false->z1o Γ P e y Q J η):z1o Γ P e (.cond c x y) Q J η:=fun E ρ a w hE hR=>by
 have hs:=hR.opd c;rw [hc] at hs;have e1:a.eval c=.bool b:=RdC.y6j hs;exact wp_cond_split e1 (fun h=>ht h E ρ a w hE hR) (fun h=>hf h E ρ a w hE hR)
theorem yit {id:Nat} {ops:Array Oper} (h:RunP Γ P ops ops.toList J η (Q .normal)):z1o Γ P e (.region id ops false) Q J η:=fun _E ρ a w _ hR=>
 wp_region_list (RunP.wpList (fun J η ρ _a _w h1 h2=>⟨J,η,ρ,h1,h2⟩) _ J η ρ a w h hR)
theorem y62 {id:Nat} {ops:Array Oper} (hm:P.follows .mixedOrders=true) (h:wgd Γ P ops ops.toList ops.toList [] J η (Q .normal)):z1o Γ P e (.region id ops true) Q J η:=fun _E _ρ _a _w _ hR=>
 vdc hm (fun J η ρ _a _w h1 h2=>⟨J,η,ρ,h1,h2⟩) h hR
def StH (Γ:List (Nat×List Cell)) (e:List SB) (J:List SV) (η:List SB) (J':List SV) (η':List SB):Prop:=∀(E:HEnv) (ρ:Nat->Value) (a:Act) (w:World),At Γ e E->RI Γ E ρ J η a w->∃ ρ',RI Γ E ρ' J' η' a w
theorem StH.refl:StH Γ e J η J η:=fun _ ρ _ _ _ h=>⟨ρ,h⟩
theorem StH.trans (h:StH Γ e J η J' η') (h':StH Γ e J' η' J'' η''):StH Γ e J η J'' η'':=fun E ρ a w hE hR=>let ⟨ρ',h1⟩:=h E ρ a w hE hR;h' E ρ' a w hE h1
theorem z1o.le {c:Code} (h:StH Γ e J η J' η') (hc:z1o Γ P e c Q J' η'):z1o Γ P e c Q J η:=fun E ρ a w hE hR=>let ⟨ρ',h1⟩:=h E ρ a w hE hR;hc E ρ' a w hE h1
end
inductive HCle:HC->HC->Prop
 | refl (h:HC):HCle h h
 | any (h:HC):HCle h .any
 | dat {c c':Cell} (h:Cell.Le c c'):HCle (.dat c) (.dat c')
inductive xcl:List HC->List HC->Prop
 | nil:xcl [] []
 | cons {h h':HC} {l l':List HC} (a:HCle h h') (t:xcl l l'):xcl (h::l) (h'::l')
inductive SVle:SV->SV->Prop
 | refl (x:SV):SVle x x
 | any (x:SV):SVle x .any
 | one {h h':HC} (a:HCle h h'):SVle (.one h) (.one h')
 | agg {l l':List HC} (a:xcl l l'):SVle (.agg l) (.agg l')
inductive vi2:List SV->List SV->Prop
 | nil:vi2 [] []
 | cons {x x':SV} {l l':List SV} (a:SVle x x') (t:vi2 l l'):vi2 (x::l) (x'::l')
section
variable {η:List SB} {ρ:Nat->Value} {M:Nat->Nat->Prop} {w:World}
theorem HRd.le {v:Value} {h h':HC} (hl:HCle h h') (hr:HRd η ρ M w v h):HRd η ρ M w v h':=by
 cases hl with
 | refl=>exact hr
 | any=>exact HRd.one hr
 | dat h=>exact RdC.le h hr
theorem HRL.le:∀{vs:List Value} {l l':List HC},xcl l l'->HRL η ρ M w vs l->HRL η ρ M w vs l'
 | _vs,_,_,.nil,h=>h
 | [],_,_,.cons _ _,h=>h.elim
 | _::_,_,_,.cons a t,h=>⟨h.1.le a,HRL.le t h.2⟩
theorem SVR.le {v:Value} {x x':SV} (hl:SVle x x') (hr:SVR η ρ M w v x):SVR η ρ M w v x':=by
 cases hl with
 | refl=>exact hr
 | any=>trivial
 | one a=>exact HRd.le a hr
 | agg a=>obtain ⟨vs,e,h⟩:=hr;exact ⟨vs,e,h.le a⟩
end
theorem vi2.length:∀{l l':List SV},vi2 l l'->l.length=l'.length
 | _,_,.nil=>rfl
 | _,_,.cons _ t=>by simp [t.length]
theorem vi2.get:∀{l l':List SV},vi2 l l'->∀(i:Nat) (y:SV),l'[i]? = some y->∃ x,l[i]? = some x/\SVle x y
 | _,_,.nil,i,y,h=>by simp at h
 | _,_,.cons a t,0,y,h=>by simp at h;subst h;exact ⟨_,by simp,a⟩
 | _,_,.cons a t,i+1,y,h=>by simpa using t.get i y (by simpa using h)
theorem StH.vrv {e:List SB} {J J':List SV} {η:List SB} (h:vi2 J J'):StH Γ e J η J' η:=fun E ρ a w _ hR=>
 ⟨ρ,hR.hd,by rw [hR.hs,h.length],fun i y hi=>by
  obtain ⟨x,hx,hl⟩:=h.get i y hi
  exact (hR.slot i x hx).le hl,hR.went⟩
def zkc:List Nat->Nat->List SV->List SV
 | _,_,[]=>[]
 | [],i,_::l=>.any::zkc [] (i+1) l
 | k::ks,i,x::l=>match k==i with
  | true=>x::zkc ks (i+1) l
  | false=>.any::zkc (k::ks) (i+1) l
theorem wb0:∀(l:List SV) (ks:List Nat) (i:Nat),vi2 l (zkc ks i l)
 | [],_,_=>by unfold zkc;exact .nil
 | x::l,[],i=>by unfold zkc;exact .cons (.any _) (wb0 l [] (i+1))
 | x::l,k::ks,i=>by
  unfold zkc
  split
  . exact .cons (.refl _) (wb0 l ks (i+1))
  . exact .cons (.any _) (wb0 l (k::ks) (i+1))
theorem StH.only {e:List SB} {J:List SV} {η:List SB} (ks:List Nat):StH Γ e J η (zkc ks 0 J) η:=StH.vrv (wb0 J ks 0)
inductive SBle:SB->SB->Prop
 | dead (x:SB):SBle x .dead
 | box {l l':List HC} {T:Option TypeId} (a:xcl l l'):SBle (.box l T) (.box l' T)
 | boxT {l:List HC} {T:Option TypeId}:SBle (.box l T) (.box l none)
 | arrT {c:Cell} {k:Nat} {T:Option TypeId}:SBle (.arr c k T) (.arr c k none)
theorem Went.sble {Mo:Nat->Nat->Prop} {ρ:Nat->Value} {η:List SB} {w:World} (h:HInv Γ Mo ρ η w) {b:Nat} {x x':SB} (hx:η[b]? = some x) (hl:SBle x x'):Went Γ Mo ρ η w ρ (η.set b x') w:=by
 have hs:=h.blk b x hx
 cases hl with
 | dead=>exact Went.kill h hx
 | box a=>exact Went.less h hx (by simp) (fun _=>rfl) (fun o h=>h) (fun m=>by
  obtain ⟨bb,vs,T,e,hh,hr,ht⟩:=hs.mv m (fun _ _=>rfl)
  exact ⟨bb,vs,T,e,hh,hr.le a,ht⟩)
 | boxT=>exact Went.less h hx (by simp) (fun _=>rfl) (fun o h=>h) (fun m=>by
  obtain ⟨bb,vs,T,e,hh,hr,ht⟩:=hs.mv m (fun _ _=>rfl)
  exact ⟨bb,vs,T,e,hh,hr,fun t' ht'=>by cases ht'⟩)
 | arrT=>exact Went.less h hx (by simp) (fun _=>rfl) (fun o h=>h) (fun m=>by
  obtain ⟨hu,h0 | ⟨bb,vs,q,T,e,hh,hr,ht⟩⟩:=hs.mv m (fun _ _=>rfl)
  . exact ⟨hu,.inl h0⟩
  . exact ⟨hu,.inr ⟨bb,vs,q,T,e,hh,hr,fun t' ht'=>by cases ht'⟩⟩)
theorem StH.block {e:List SB} {J:List SV} {η:List SB} {b:Nat} {x x':SB} (hx:η[b]? = some x) (hl:SBle x x'):StH Γ e J η J (η.set b x'):=fun _E ρ _a _w _ hR=>⟨ρ,hR.go (Went.sble hR.inv hx hl)⟩
theorem StH.empty {e:List SB} {J:List SV} {η:List SB} {d:Nat} {c0 c:Cell} {es:Nat} {T:Option TypeId} (hd:gtS J d=.one (.dat c0)) (hz:isZc c0=true) (hu:c.uni) (hc:c.cnt=0):StH Γ e J η (J.set d (.one (.sl η.length es 0 0))) (η++[.arr c 0 T]):=fun E ρ a w _ hR=>by
 have h1:=hR.go (Went.extend hR.inv 1)
 have hf:(η++[SB.fresh])[η.length]? = some .fresh:=by simp
 have hw:=Went.new h1.inv (wxm w) hf (v:=.pointer none) (x:=.arr c 0 T) (by simp) (fun _ hr=>absurd rfl hr) (fun m=>⟨⟨hu,Nat.zero_le _⟩,.inl ⟨hc,rfl⟩⟩);have h2:=h1.go hw;rw [show (η++List.replicate 1 SB.fresh).set η.length (.arr c 0 T)=η++[.arr c 0 T] by simp] at h2;refine ⟨upd ρ η.length (.pointer none),?_⟩;have hs:=h2.gt d;rw [hd] at hs;obtain ⟨ad,hv⟩:=x9p (τ:=fun _=>⟨Go.undef,0⟩) hz (RdT.of (show RdC _ w (a.tmps.getD d Go.undef) c0 from hs));have hlt:d<J.length:=yp9 hd (by simp);have hp:=h2.put (d:=d) (v:=a.tmps.getD d Go.undef) (x:=.one (.sl η.length es 0 0)) ⟨⟨_,by simp;rfl,by simp⟩,ad,0,hv,Nat.le_refl _,fun h=>absurd rfl h⟩
 have ha:a.put (some d) (a.tmps.getD d Go.undef)=a:=by
  unfold Act.put
  have:a.tmps.setIfInBounds d (a.tmps.getD d Go.undef)=a.tmps:=by
   apply Array.ext
   . simp
   . intro i h1 h2;rw [Array.getElem_setIfInBounds]
     split
     . rename_i e1;subst e1;simp [h2]
     . rfl
  simp only [this]
 rw [ha] at hp;exact hp
def yfx:HC->List Nat
 | .ptr b _ | .pel b _ _ _ | .sl b _ _ _ | .mp b | .fnr b=>[b]
 | _=>[]
def ycp:SV->List Nat
 | .one h=>yfx h
 | .agg l=>l.flatMap yfx
 | .tup l=>l.flatMap fun x=>match x with
  | .one h=>yfx h
  | .agg l=>l.flatMap yfx
  | _=>[]
 | _=>[]
def xoj:SB->List Nat
 | .box l _=>l.flatMap yfx
 | .map es=>es.flatMap fun p=>ycp p.2
 | .clo _ l=>l.flatMap ycp
 | _=>[]
theorem xcp {η:List SB} {b:Nat} (h:okB η b):b<η.length:=by
 obtain ⟨x,hx,_⟩:=h;exact (List.getElem?_eq_some_iff.1 hx).1
section
variable {η:List SB} {ρ:Nat->Value} {M:Nat->Nat->Prop} {w:World}
theorem HRd.refs {v:Value} {h:HC} (hr:HRd η ρ M w v h):∀ b∈yfx h,okB η b:=by
 intro b hb
 cases h<;>simp only [yfx,List.mem_singleton,List.not_mem_nil] at hb<;>first | (subst hb;exact hr.1) | exact hb.elim
theorem HRL.refs:∀{vs:List Value} {l:List HC},HRL η ρ M w vs l->∀ b∈l.flatMap yfx,okB η b
 | [],[],_,b,hb=>by simp at hb
 | _::_,_::_,h,b,hb=>by
  rw [List.flatMap_cons,List.mem_append] at hb;exact hb.elim (h.1.refs b) (h.2.refs b)
theorem SVR0.refs {v:Value} {x:SV} (hr:SVR0 η ρ M w v x):∀ b∈ycp x,okB η b:=by
 cases x with
 | one h=>exact HRd.refs hr
 | agg l=>obtain ⟨vs,_,h⟩:=hr;exact h.refs
 | tup l=>exact hr.elim
 | _=>intro b hb;cases hb
theorem SRL.refs:∀{vs:List Value} {l:List SV},SRL η ρ M w vs l->∀ b∈l.flatMap ycp,okB η b
 | [],[],_,b,hb=>by simp at hb
 | _::_,_::_,h,b,hb=>by
  rw [List.flatMap_cons,List.mem_append] at hb;exact hb.elim (h.1.refs b) (h.2.refs b)
theorem EnR.refs:∀{es:List MapEntry} {l:List (Value×SV)},EnR η ρ M w es l->∀ b∈l.flatMap (fun p=>ycp p.2),okB η b
 | [],[],_,b,hb=>by simp at hb
 | _::_,_::_,h,b,hb=>by
  rw [List.flatMap_cons,List.mem_append] at hb;exact hb.elim (h.1.2.refs b) (h.2.refs b)
theorem SBR.refs {v:Value} {x:SB} (hr:SBR η ρ M w v x):∀ b∈xoj x,okB η b:=by
 cases x with
 | box l T=>obtain ⟨_,_,_,_,_,h,_⟩:=hr;exact h.refs
 | map es=>obtain ⟨_,_,_,_,_,h⟩:=hr;exact h.1.refs
 | clo f l=>obtain ⟨_,_,h⟩:=hr;exact h.refs
 | _=>intro b hb;cases hb
theorem HRd.at {η':List SB} {ρ':Nat->Value} {M':Nat->Nat->Prop} (hM:∀ b o,M' b o->M b o) {v:Value} {h:HC} (hr:HRd η ρ M w v h) (hb:∀ b∈yfx h,okB η' b/\ρ' b=ρ b):HRd η' ρ' M' w v h:=by
 cases h with
 | any=>exact hr
 | dat c=>exact RdC.keep (zg8.shrink w hM) hr
 | ptr b off=>obtain ⟨h1,h2⟩:=hb b (by simp [yfx]);exact ⟨h1,by rw [h2];exact hr.2⟩
 | pel b es i f=>obtain ⟨h1,h2⟩:=hb b (by simp [yfx]);exact ⟨h1,by rw [h2];exact hr.2⟩
 | sl b es lo n=>obtain ⟨h1,h2⟩:=hb b (by simp [yfx]);exact ⟨h1,by rw [h2];exact hr.2⟩
 | mp b=>obtain ⟨h1,h2⟩:=hb b (by simp [yfx]);exact ⟨h1,by rw [h2];exact hr.2⟩
 | fnr b=>obtain ⟨h1,h2⟩:=hb b (by simp [yfx]);exact ⟨h1,by rw [h2];exact hr.2⟩
theorem HRL.at {η':List SB} {ρ':Nat->Value} {M':Nat->Nat->Prop} (hM:∀ b o,M' b o->M b o):∀{vs:List Value} {l:List HC},HRL η ρ M w vs l->(∀ b∈l.flatMap yfx,okB η' b/\ρ' b=ρ b)->HRL η' ρ' M' w vs l
 | [],[],_,_=>trivial
 | _::_,_::_,h,hb=>⟨h.1.at hM (fun b hh=>hb b (by rw [List.flatMap_cons,List.mem_append];exact .inl hh)),HRL.at hM h.2 (fun b hh=>hb b (by rw [List.flatMap_cons,List.mem_append];exact .inr hh))⟩
theorem SVR0.at {η':List SB} {ρ':Nat->Value} {M':Nat->Nat->Prop} (hM:∀ b o,M' b o->M b o) {v:Value} {x:SV} (hr:SVR0 η ρ M w v x) (hb:∀ b∈ycp x,okB η' b/\ρ' b=ρ b):SVR0 η' ρ' M' w v x:=by
 cases x with
 | one h=>exact HRd.at hM hr hb
 | agg l=>obtain ⟨vs,e,h⟩:=hr;exact ⟨vs,e,h.at hM hb⟩
 | tup l=>exact hr.elim
 | any=>trivial
 | undef=>exact hr
 | elt cs=>obtain ⟨b,off,vs,e,h1,h2⟩:=hr;exact ⟨b,off,vs,e,fun j u hj=>⟨fun h=>(h1 j u hj).1 (hM _ _ h),(h1 j u hj).2⟩,h2.keep (zg8.shrink w hM)⟩
theorem SRL.at {η':List SB} {ρ':Nat->Value} {M':Nat->Nat->Prop} (hM:∀ b o,M' b o->M b o):∀{vs:List Value} {l:List SV},SRL η ρ M w vs l->(∀ b∈l.flatMap ycp,okB η' b/\ρ' b=ρ b)->SRL η' ρ' M' w vs l
 | [],[],_,_=>trivial
 | _::_,_::_,h,hb=>⟨h.1.at hM (fun b hh=>hb b (by rw [List.flatMap_cons,List.mem_append];exact .inl hh)),SRL.at hM h.2 (fun b hh=>hb b (by rw [List.flatMap_cons,List.mem_append];exact .inr hh))⟩
theorem ys2 {l:List SV}:ycp (.tup l)=l.flatMap fun x=>match x with
 | .one h=>yfx h
 | .agg l=>l.flatMap yfx
 | _=>[]:=rfl
theorem SRL.ys2:∀{vs:List Value} {l:List SV},SRL η ρ M w vs l->(l.flatMap fun x=>match x with
 | .one h=>yfx h
 | .agg l=>l.flatMap yfx
 | _=>[])=l.flatMap ycp
 | [],[],_=>rfl
 | _::_,x::_,h=>by
  rw [List.flatMap_cons,List.flatMap_cons,h.2.ys2]
  congr 1
  cases x<;>first | rfl | exact h.1.elim
theorem SVR.at {η':List SB} {ρ':Nat->Value} {M':Nat->Nat->Prop} (hM:∀ b o,M' b o->M b o) {v:Value} {x:SV} (hr:SVR η ρ M w v x) (hb:∀ b∈ycp x,okB η' b/\ρ' b=ρ b):SVR η' ρ' M' w v x:=by
 cases x with
 | tup l=>
  obtain ⟨vs,e,h⟩:=hr;rw [Hp.ys2,h.ys2] at hb;exact ⟨vs,e,h.at hM hb⟩
 | any=>trivial
 | one h=>exact SVR0.at (x:=.one h) hM hr hb
 | agg l=>exact SVR0.at (x:=.agg l) hM hr hb
 | undef=>exact hr
 | elt cs=>exact SVR0.at (η:=η) (η':=η') (ρ':=ρ') (x:=.elt cs) hM hr hb
theorem EnR.at {η':List SB} {ρ':Nat->Value} {M':Nat->Nat->Prop} (hM:∀ b o,M' b o->M b o):∀{es:List MapEntry} {l:List (Value×SV)},EnR η ρ M w es l->(∀ b∈l.flatMap (fun p=>ycp p.2),okB η' b/\ρ' b=ρ b)->EnR η' ρ' M' w es l
 | [],[],_,_=>trivial
 | _::_,_::_,h,hb=>⟨⟨h.1.1,h.1.2.at hM (fun b hh=>hb b (by rw [List.flatMap_cons,List.mem_append];exact .inl hh))⟩,EnR.at hM h.2 (fun b hh=>hb b (by rw [List.flatMap_cons,List.mem_append];exact .inr hh))⟩
theorem SBR.at {η':List SB} {ρ':Nat->Value} {M':Nat->Nat->Prop} (hM:∀ b o,M' b o->M b o) {v:Value} {x:SB} (hr:SBR η ρ M w v x) (hb:∀ b∈xoj x,okB η' b/\ρ' b=ρ b):SBR η' ρ' M' w v x:=by
 cases x with
 | fresh=>trivial
 | dead=>trivial
 | box l T=>obtain ⟨b,vs,T',e,h1,h2,h3⟩:=hr;exact ⟨b,vs,T',e,h1,h2.at hM hb,h3⟩
 | arr c k T=>
  obtain ⟨hu,h0 | ⟨b,vs,q,T',e,h1,h2,h3⟩⟩:=hr
  . exact ⟨hu,.inl h0⟩
  . exact ⟨hu,.inr ⟨b,vs,q,T',e,h1,h2.keep (zg8.shrink w hM),h3⟩⟩
 | map es=>obtain ⟨b,ents,clk,e,h1,h2,h3⟩:=hr;exact ⟨b,ents,clk,e,h1,h2.at hM hb,h3⟩
 | clo f l=>obtain ⟨cv,e,h⟩:=hr;exact ⟨cv,e,h.at hM hb⟩
end
theorem Went.cut {E:HEnv} {e:List SB} (hE:At Γ e E) {ρ:Nat->Value} {η:List SB} {w:World} (h:Went Γ E.Mo E.ρ0 E.η0 E.w0 ρ η w) {m:Nat} (hm:e.length<=m) (hr:∀(i:Nat) (x:SB),i<m->η[i]? = some x->e[i]? = some x\/∀ b∈xoj x,b<m) :
 Went Γ E.Mo E.ρ0 E.η0 E.w0 ρ (η.take m) w:=by
 have hget:∀ i x,(η.take m)[i]? = some x->i<m/\η[i]? = some x:=fun i x hi=>by
  rw [List.getElem?_take] at hi;split at hi
  . rename_i hlt;exact ⟨hlt,hi⟩
  . cases hi
 have hM:∀ b o,MX E.Mo ρ (η.take m) b o->MX E.Mo ρ η b o:=by
  rintro b o (hm | ⟨i,x,hi,hx⟩)
  . exact .inl hm
  . exact .inr ⟨i,x,(hget i x hi).2,hx⟩
 have hok:∀ b,b<m->okB η b->okB (η.take m) b:=fun b hb ⟨x,hx,hf⟩=>⟨x,by rw [List.getElem?_take,if_pos hb];exact hx,hf⟩
 refine ⟨fun b hb=>hok b (Nat.lt_of_lt_of_le (xcp hb) (by rw [hE.eq];exact hm)) (h.ok b hb),h.rho,h.keep.trans (zg8.shrink w hM),h.grow,⟨h.inv.bnd,fun i x hi=>?_,fun i j x y hi hj=>h.inv.inj i j x y (hget i x hi).2 (hget j y hj).2,fun i x hi=>h.inv.sep i x (hget i x hi).2,h.inv.glob.keep (zg8.shrink w hM)⟩,h.size,h.os,h.tape,h.output,h.frame,fun k ⟨i,x,hi,hx⟩=>h.fresh k ⟨i,x,(hget i x hi).2,hx⟩⟩;obtain ⟨hlt,hi'⟩:=hget i x hi;have hsb:=h.inv.blk i x hi';refine hsb.at hM (fun b hb=>⟨hok b ?_ (hsb.refs b hb),rfl⟩)
 rcases hr i x hlt hi' with h1 | h1
 . have h2:=(hE.inv.blk i x (by rw [hE.eq];exact h1)).refs b hb
   have:=xcp h2
   rw [hE.eq] at this;omega
 . exact h1 b hb
theorem StH.cut {e:List SB} {J:List SV} {η:List SB} {m:Nat} (hm:e.length<=m) (hs:∀(i:Nat) (x:SV),J[i]? = some x->∀ b∈ycp x,b<m) (hr:∀(i:Nat) (x:SB),i<m->η[i]? = some x->e[i]? = some x\/∀ b∈xoj x,b<m):StH Γ e J η J (η.take m):=fun E ρ a w hE hR=>by
 have hw:=Went.cut hE hR.went hm hr;refine ⟨ρ,hR.hd,hR.hs,fun i x hi=>?_,hw⟩
 have hM:∀ b o,MX E.Mo ρ (η.take m) b o->MX E.Mo ρ η b o:=by
  rintro b o (hm | ⟨i,x,hi,hx⟩)
  . exact .inl hm
  . rw [List.getElem?_take] at hi;split at hi
    . exact .inr ⟨i,x,hi,hx⟩
    . cases hi
 have hsl:=hR.slot i x hi;refine hsl.at hM (fun b hb=>⟨?_,rfl⟩)
 have hok:okB η b:=by
  cases x with
  | tup l=>
   obtain ⟨vs,_,h⟩:=hsl;rw [Hp.ys2,h.ys2] at hb;exact h.refs b hb
  | one h=>exact SVR0.refs (x:=.one h) hsl b hb
  | agg l=>exact SVR0.refs (x:=.agg l) hsl b hb
  | _=>cases hb
 obtain ⟨y,hy,hf⟩:=hok;exact ⟨y,by rw [List.getElem?_take,if_pos (hs i x hi b hb)];exact hy,hf⟩
def sw (i j b:Nat):Nat:=if b=i then j else if b=j then i else b
theorem y9w (i j b:Nat):sw i j (sw i j b)=b:=by
 unfold sw;by_cases h1:b=i
 . subst h1;by_cases h2:j=b
   . simp [h2]
   . simp [h2]
 . by_cases h2:b=j
   . subst h2;simp [h1]
   . simp [h1,h2]
def swHC (i j:Nat):HC->HC
 | .ptr b o=>.ptr (sw i j b) o
 | .pel b es k f=>.pel (sw i j b) es k f
 | .sl b es lo n=>.sl (sw i j b) es lo n
 | .mp b=>.mp (sw i j b)
 | .fnr b=>.fnr (sw i j b)
 | h=>h
def wut (i j:Nat):SV->SV
 | .one h=>.one (swHC i j h)
 | .agg l=>.agg (l.map (swHC i j))
 | x=>x
def swSV (i j:Nat):SV->SV
 | .tup l=>.tup (l.map (wut i j))
 | x=>wut i j x
def swSB (i j:Nat):SB->SB
 | .box l T=>.box (l.map (swHC i j)) T
 | .map es=>.map (es.map fun p=>(p.1,wut i j p.2))
 | .clo f l=>.clo f (l.map (wut i j))
 | x=>x
theorem ys9 {i j:Nat} {x:SB}:(swSB i j x).own=x.own:=by cases x<;>rfl
theorem v5v {i j o:Nat} {x:SB}:(swSB i j x).mut o↔x.mut o:=by cases x<;>exact Iff.rfl
theorem y0k {i j:Nat} {x:SB} (h:x≠.fresh):swSB i j x≠.fresh:=by cases x<;>first | exact absurd rfl h | simp [swSB]
section
variable {i j:Nat} {η η':List SB} {ρ:Nat->Value} {M:Nat->Nat->Prop} {w:World}
theorem HRd.sw (hok:∀ b,okB η b->okB η' (Hp.sw i j b)) {v:Value} {h:HC} (hr:HRd η ρ M w v h):HRd η' (fun b=>ρ (Hp.sw i j b)) M w v (swHC i j h):=by
 cases h with
 | any=>exact hr
 | dat c=>exact hr
 | ptr b o=>exact ⟨hok b hr.1,by show v=_;simp only [y9w];exact hr.2⟩
 | pel b es k f=>exact ⟨hok b hr.1,by show v=_;simp only [y9w];exact hr.2⟩
 | sl b es lo n=>exact ⟨hok b hr.1,by simp only [y9w];exact hr.2⟩
 | mp b=>exact ⟨hok b hr.1,by simp only [y9w];exact hr.2⟩
 | fnr b=>exact ⟨hok b hr.1,by simp only [y9w];exact hr.2⟩
theorem HRL.sw (hok:∀ b,okB η b->okB η' (Hp.sw i j b)):∀{vs:List Value} {l:List HC},HRL η ρ M w vs l->HRL η' (fun b=>ρ (Hp.sw i j b)) M w vs (l.map (swHC i j))
 | [],[],_=>trivial
 | _::_,_::_,h=>⟨h.1.sw hok,h.2.sw hok⟩
theorem SVR0.sw (hok:∀ b,okB η b->okB η' (Hp.sw i j b)) {v:Value} {x:SV} (hr:SVR0 η ρ M w v x):SVR0 η' (fun b=>ρ (Hp.sw i j b)) M w v (wut i j x):=by
 cases x with
 | one h=>exact HRd.sw hok hr
 | agg l=>obtain ⟨vs,e,h⟩:=hr;exact ⟨vs,e,h.sw hok⟩
 | _=>exact hr
theorem SRL.sw (hok:∀ b,okB η b->okB η' (Hp.sw i j b)):∀{vs:List Value} {l:List SV},SRL η ρ M w vs l->SRL η' (fun b=>ρ (Hp.sw i j b)) M w vs (l.map (wut i j))
 | [],[],_=>trivial
 | _::_,_::_,h=>⟨h.1.sw hok,h.2.sw hok⟩
theorem SVR.sw (hok:∀ b,okB η b->okB η' (Hp.sw i j b)) {v:Value} {x:SV} (hr:SVR η ρ M w v x):SVR η' (fun b=>ρ (Hp.sw i j b)) M w v (swSV i j x):=by
 cases x with
 | tup l=>obtain ⟨vs,e,h⟩:=hr;exact ⟨vs,e,h.sw hok⟩
 | one h=>exact HRd.sw hok hr
 | agg l=>obtain ⟨vs,e,h⟩:=hr;exact ⟨vs,e,h.sw hok⟩
 | any=>trivial
 | undef=>exact hr
 | elt cs=>exact hr
theorem EnR.sw (hok:∀ b,okB η b->okB η' (Hp.sw i j b)):∀{es:List MapEntry} {l:List (Value×SV)},EnR η ρ M w es l->EnR η' (fun b=>ρ (Hp.sw i j b)) M w es (l.map fun p=>(p.1,wut i j p.2))
 | [],[],_=>trivial
 | _::_,_::_,h=>⟨⟨h.1.1,h.1.2.sw hok⟩,h.2.sw hok⟩
theorem SBR.sw (hok:∀ b,okB η b->okB η' (Hp.sw i j b)) {v:Value} {x:SB} (hr:SBR η ρ M w v x):SBR η' (fun b=>ρ (Hp.sw i j b)) M w v (swSB i j x):=by
 cases x with
 | fresh=>trivial
 | dead=>trivial
 | box l T=>obtain ⟨b,vs,T',e,h1,h2,h3⟩:=hr;exact ⟨b,vs,T',e,h1,h2.sw hok,h3⟩
 | arr c k T=>exact hr
 | map es=>obtain ⟨b,ents,clk,e,h1,h2,h3⟩:=hr;exact ⟨b,ents,clk,e,h1,h2.sw hok,h3⟩
 | clo f l=>obtain ⟨cv,e,h⟩:=hr;exact ⟨cv,e,h.sw hok⟩
end
theorem xdt {i j n:Nat} (hi:n<=i) (hj:n<=j) {h:HC} (hb:∀ b∈yfx h,b<n):swHC i j h=h:=by
 have key:∀ b,b<n->sw i j b=b:=fun b hb=>by unfold sw;rw [if_neg (by omega),if_neg (by omega)]
 cases h<;>simp only [swHC]<;>rw [key _ (hb _ (by simp [yfx]))]
theorem vct {i j n:Nat} (hi:n<=i) (hj:n<=j) {l:List HC} (hb:∀ b∈l.flatMap yfx,b<n):l.map (swHC i j)=l:=by
 induction l with
 | nil=>rfl
 | cons h l ih=>
  simp only [List.flatMap_cons,List.mem_append] at hb;simp only [List.map_cons];rw [xdt hi hj (fun b hh=>hb b (.inl hh)),ih (fun b hh=>hb b (.inr hh))]
theorem y3f {i j n:Nat} (hi:n<=i) (hj:n<=j) {x:SV} (hb:∀ b∈ycp x,b<n):wut i j x=x:=by
 cases x with
 | one h=>simp only [wut];rw [xdt hi hj hb]
 | agg l=>simp only [wut];rw [vct hi hj hb]
 | _=>rfl
theorem xn2 {i j n:Nat} (hi:n<=i) (hj:n<=j) {x:SB} (hb:∀ b∈xoj x,b<n):swSB i j x=x:=by
 cases x with
 | box l T=>simp only [swSB];rw [vct hi hj hb]
 | map es=>
  simp only [swSB]
  congr 1
  simp only [xoj,List.mem_flatMap] at hb
  have:∀ p∈es,(p.1,wut i j p.2)=p:=fun p hp=>by
   rw [y3f hi hj (fun b hh=>hb b ⟨p,hp,hh⟩)]
  exact (List.map_congr_left this).trans (List.map_id es)
 | clo f l=>
  simp only [swSB]
  congr 1
  simp only [xoj,List.mem_flatMap] at hb
  have:∀ x∈l,wut i j x=x:=fun x hx=>y3f hi hj (fun b hh=>hb b ⟨x,hx,hh⟩)
  exact (List.map_congr_left this).trans (List.map_id l)
 | _=>rfl
theorem StH.swap {e:List SB} {J:List SV} {η η':List SB} {i j:Nat} (hi:e.length<=i) (hj:e.length<=j) (hil:i<η.length) (hjl:j<η.length)
 (hη:∀ b x,η[b]? = some x->(η'[sw i j b]? = some (swSB i j x)\/(e[b]? = some x/\η'[b]? = some x))) (hlen:η'.length=η.length):StH Γ e J η (J.map (swSV i j)) η':=fun E ρ a w hE hR=>by
 have hlow:∀ b,b<e.length->sw i j b=b:=fun b hb=>by unfold sw;rw [if_neg (by omega),if_neg (by omega)]
 have hswl:∀ b,b<η.length->sw i j b<η.length:=fun b hb=>by
  unfold sw
  split
  . exact hjl
  . split
    . exact hil
    . exact hb
 have fwd:∀ b x,η[b]? = some x->η'[sw i j b]? = some (swSB i j x):=fun b x hx=>by
  rcases hη b x hx with h | ⟨h1,h2⟩
  . exact h
  . have hb:b<e.length:=(List.getElem?_eq_some_iff.1 h1).1;rw [hlow b hb,h2];have hrefs:=(hE.inv.blk b x (by rw [hE.eq];exact h1)).refs;rw [xn2 hi hj (fun c hc=>by have:=xcp (hrefs c hc);rw [hE.eq] at this;exact this)]
 have bwd:∀ b y,η'[b]? = some y->∃ x,η[sw i j b]? = some x/\y=swSB i j x:=fun b y hy=>by
  have hb:b<η.length:=by rw [<-hlen];exact (List.getElem?_eq_some_iff.1 hy).1
  obtain ⟨x,hx⟩:∃ x,η[sw i j b]? = some x:=⟨_,List.getElem?_eq_getElem (hswl b hb)⟩
  have:=fwd _ _ hx
  rw [y9w,hy] at this
  cases this;exact ⟨x,hx,rfl⟩
 have hok:∀ b,okB η b->okB η' (sw i j b):=fun b ⟨x,hx,hf⟩=>⟨_,fwd b x hx,y0k hf⟩
 have hM:∀ b o,MX E.Mo (fun b=>ρ (sw i j b)) η' b o↔MX E.Mo ρ η b o:=fun b o=>by
  constructor
  . rintro (hm | ⟨c,y,hc,hy,hr,hb⟩)
    . exact .inl hm
    . obtain ⟨x,hx,rfl⟩:=bwd c y hc;exact .inr ⟨_,x,hx,v5v.1 hy,hr,hb⟩
  . rintro (hm | ⟨c,x,hc,hx,hr,hb⟩)
    . exact .inl hm
    . exact .inr ⟨sw i j c,_,fwd c x hc,v5v.2 hx,by simp only [y9w];exact hr,by simp only [y9w];exact hb⟩
 have hMe:MX E.Mo (fun b=>ρ (sw i j b)) η'=MX E.Mo ρ η:=funext fun b=>funext fun o=>propext (hM b o)
 have hX:∀ k,Xb (fun b=>ρ (sw i j b)) η' k->Xb ρ η k:=fun k ⟨c,y,hc,hy,hr,hb⟩=>by
  obtain ⟨x,hx,rfl⟩:=bwd c y hc;exact ⟨_,x,hx,by rw [<-ys9 (i:=i) (j:=j)];exact hy,hr,hb⟩
 have hw:=hR.went;refine ⟨fun b=>ρ (sw i j b),hR.hd,by simpa using hR.hs,fun d x hd=>?_,⟨fun b hb=>?_,fun b hb=>?_,?_,hw.grow,⟨hw.inv.bnd,fun b y hb=>?_,fun b c y z hb hc hy hz hrb hrc he=>?_,fun b y hb hy hr=>?_,?_⟩,hw.size,hw.os,hw.tape,hw.output,hw.frame,fun k hk=>hw.fresh k (hX k hk)⟩⟩
 . rw [List.getElem?_map] at hd;obtain ⟨x0,hx0,rfl⟩:=Option.map_eq_some_iff.1 hd;rw [hMe];exact (hR.slot d x0 hx0).sw hok
 . have hb':=xcp hb;rw [hE.eq] at hb'
   have:=hok b (hw.ok b hb)
   rw [hlow b hb'] at this;exact this
 . have hb':=xcp hb;rw [hE.eq] at hb';show ρ (sw i j b)=_;rw [hlow b hb'];exact hw.rho b hb
 . rw [hMe];exact hw.keep
 . obtain ⟨x,hx,rfl⟩:=bwd b y hb;rw [hMe]
   have:=(hw.inv.blk _ x hx).sw (i:=i) (j:=j) hok
   exact this
 . obtain ⟨x,hx,rfl⟩:=bwd b y hb;obtain ⟨x',hx',rfl⟩:=bwd c z hc
   have:=hw.inv.inj _ _ x x' hx hx' (by rw [<-ys9 (i:=i) (j:=j)];exact hy) (by rw [<-ys9 (i:=i) (j:=j)];exact hz) hrb hrc he
   have h2:=congrArg (sw i j) this;rw [y9w,y9w] at h2;exact h2
 . obtain ⟨x,hx,rfl⟩:=bwd b y hb;exact hw.inv.sep _ x hx (by rw [<-ys9 (i:=i) (j:=j)];exact hy) hr
 . rw [hMe];exact hw.inv.glob
def w1s (P:Program) (J:List SV) (η:List SB):ResultVar->Option SV
 | .tmp t=>match gtS J t with
  | .tup _=>none
  | x=>some x
 | .cell a T=>match mkTI P T,seeH η (gtS J a) with
  | some ti,some (_,hs)=>ybx ti hs
  | _,_=>none
def xct (P:Program) (J:List SV) (η:List SB):List ResultVar->Option (List SV)
 | []=>some []
 | r::rs=>match w1s P J η r,xct P J η rs with
  | some x,some l=>some (x::l)
  | _,_=>none
def xn6 (P:Program) (J:List SV) (η:List SB) (rs:List ResultVar):Option SV:=match xct P J η rs with
 | some [x]=>some x
 | some l=>some (.tup l)
 | none=>none
theorem zdz {E:HEnv} {ρ:Nat->Value} {J:List SV} {η:List SB} {a:Act} {w:World} (hI:RI Γ E ρ J η a w) {r:ResultVar} {x:SV} (h:w1s P J η r=some x):∃ v,(yee a.tmps r).run P w=.ok v w/\SVR0 η ρ (MX E.Mo ρ η) w v x:=by
 cases r with
 | tmp t=>
  have ht:=hI.gt t;simp only [w1s] at h;split at h
  . cases h
  . rename_i y hne
    cases h;refine ⟨_,rfl,ht.to0 ?_⟩;generalize gtS J t=z at hne
    cases z<;>first | rfl | exact absurd rfl (hne _)
 | cell t T=>
  have ht:=hI.gt t;simp only [w1s] at h;split at h
  . rename_i ti rh hs hti hsee;obtain ⟨b,off,vs,e,hc,hr⟩:=x12 hI ht hsee;obtain ⟨v,h1,h2⟩:=run_load (x03 hti) hc hr h;refine ⟨v,by simp [yee,e,asAddr,h1],h2.to0 ?_⟩;unfold ybx at h;split at h
    . split at h<;>cases h;rfl
    . split at h<;>cases h;rfl
    . cases h
  . cases h
theorem zex {E:HEnv} {ρ:Nat->Value} {J:List SV} {η:List SB} {a:Act} {w:World} (hI:RI Γ E ρ J η a w):∀(rs:List ResultVar) (l:List SV),xct P J η rs=some l->∃ vs:List Value,(rs.mapM (yee a.tmps)).run P w=.ok vs w/\SRL η ρ (MX E.Mo ρ η) w vs l
 | [],l,h=>by cases h;exact ⟨[],rfl,trivial⟩
 | r::rs,l,h=>by
  simp only [xct] at h;split at h
  . rename_i x l' h1 h2
    cases h;obtain ⟨v,h3,h4⟩:=zdz hI h1;obtain ⟨vs,h5,h6⟩:=zex hI rs l' h2;refine ⟨v::vs,?_,h4,h6⟩;simp only [List.mapM_cons,Sem.run_bind,h3,Result.andThen_ok,h5];rfl
  . cases h
theorem xp2 {fn:Func} {E:HEnv} {ρ:Nat->Value} {J:List SV} {η:List SB} {a:Act} {w:World} (hI:RI Γ E ρ J η a w) {x:SV} (h:xn6 P J η fn.results.toList=some x):∃ v,(results fn a.tmps).run P w=.ok v w/\SVR η ρ (MX E.Mo ρ η) w v x:=by
 have key:∀ l,xct P J η fn.results.toList=some l->∃ vs:List Value,(results fn a.tmps).run P w=.ok (if h:vs.toArray.size=1 then vs.toArray[0] else .tuple vs.toArray) w/\SRL η ρ (MX E.Mo ρ η) w vs l:=fun l hl=>by
  obtain ⟨vs,hvs,hrs⟩:=zex hI fn.results.toList l hl;refine ⟨vs,?_,hrs⟩
  have hres:results fn a.tmps=(fn.results.mapM (yee a.tmps) >>= fun vs=>pure (if h:vs.size=1 then vs[0] else .tuple vs)):=by
   unfold results;refine congrArg (fun g:ResultVar->Sem Value=>(fn.results.mapM g >>= fun vs=>(pure (if h:vs.size=1 then vs[0] else .tuple vs):Sem Value))) (funext fun r=>?_)
   cases r<;>rfl
  rw [hres,Array.mapM_eq_mapM_toList];simp only [Sem.run_bind,Sem.run_map,hvs];rfl
 unfold xn6 at h;split at h
 . rename_i y hl
   cases h;obtain ⟨vs,hrun,hrs⟩:=key _ hl
   cases vs with
   | nil=>exact hrs.elim
   | cons v vs=>
    cases vs with
    | cons _ _=>exact hrs.2.elim
    | nil=>exact ⟨v,hrun,SVR.of0 hrs.1⟩
 . rename_i l hne hl
   cases h;obtain ⟨vs,hrun,hrs⟩:=key _ hl;have hlen:=hrs.length
   have hn1:vs.toArray.size≠1:=fun e1=>by
    simp only [List.size_toArray] at e1
    have:l.length=1:=by omega
    match l,this,hne with
    | [z],_,hne=>exact hne z rfl
   rw [dif_neg hn1] at hrun;exact ⟨_,hrun,vs,rfl,hrs⟩
 . cases h
def xek (η:List SB):SV->Option (AV×List Nat)
 | .tup l=>(vc1 η l).map fun p=>(.tup p.1,p.2)
 | x=>argD η x
theorem xgu {η:List SB} {x:SV} {av:AV} {bs:List Nat} (h:argD η x=some (av,bs)):av.yco=false:=by
 unfold argD at h;split at h
 . obtain ⟨p,hp,e⟩:=Option.map_eq_some_iff.1 h;cases e;rfl
 . obtain ⟨p,hp,e⟩:=Option.map_eq_some_iff.1 h;cases e;rfl
 . cases h;rfl
 . cases h;rfl
 . cases h
theorem wyr {η:List SB} {x:SV} {av:AV} {bs:List Nat} (h:xek η x=some (av,bs)):av.yco=false:=by
 unfold xek at h;split at h
 . obtain ⟨p,hp,e⟩:=Option.map_eq_some_iff.1 h;cases e;rfl
 . exact xgu h
def retD (P:Program) (rs:List ResultVar) (res:AV):Exit->List SV->List SB->Prop
 | .ret,J,η | .normal,J,η=>∃ x av bs,xn6 P J η rs=some x/\xek η x=some (av,bs)/\RLe av res
 | _,_,_=>False
theorem wr2 {η:List SB} {ρ:Nat->Value} {M:Nat->Nat->Prop} {w:World}:∀{l:List AV} {r:List SV} {vs:List Value},x7f l=some r->RdBL M w vs l->SRL η ρ M w vs r:=z2z
theorem RI.start {Mo:Nat->Nat->Prop} {ρ:Nat->Value} {η:List SB} {w:World} (h:HInv Γ Mo ρ η w) {vs:List Value} {l:List SV} (hr:SRL η ρ (MX Mo ρ η) w vs l) (n:Nat) :
 RI Γ ⟨w,Mo,ρ,η,[]⟩ ρ (l++List.replicate n .undef) η { tmps:=vs.toArray++Array.replicate n Go.undef,defers:=[] } w:=by
 have hlen:=hr.length;refine ⟨rfl,by simp [hlen],fun i x hi=>?_,Went.refl h⟩;by_cases hlt:i<l.length
 . rw [List.getElem?_append_left hlt] at hi;obtain ⟨v,hv,hx⟩:=hr.get i x hi
   have hvl:i<vs.length:=by omega
   rw [List.getElem?_eq_getElem hvl] at hv;simp at hv
   have:(vs.toArray++Array.replicate n Go.undef).getD i Go.undef=v:=by
    simp [Array.getD_eq_getD_getElem?,Array.getElem?_append,hvl,hv]
   show SVR _ _ _ _ ((vs.toArray++Array.replicate n Go.undef).getD i Go.undef) x;rw [this];exact SVR.of0 hx
 . rw [List.getElem?_append_right (by omega)] at hi;have hx:x=.undef:=(List.mem_replicate.1 (List.mem_of_getElem? hi)).2;subst hx
   have:(vs.toArray++Array.replicate n Go.undef).getD i Go.undef=Go.undef:=by
    simp only [Array.getD_eq_getD_getElem?,Array.getElem?_append];rw [if_neg (by simp;omega)];simp only [Array.getElem?_replicate]
    split<;>rfl
   show SVR _ _ _ _ ((vs.toArray++Array.replicate n Go.undef).getD i Go.undef) .undef;rw [this];exact rfl
theorem HInv.nil {Mo:Nat->Nat->Prop} {w:World} (hb:Bounded Mo w) (hg:yf2 Γ Mo w):HInv Γ Mo (fun _=>Go.undef) [] w:=by
 have hM:∀ b o,MX Mo (fun _=>Go.undef) [] b o->Mo b o:=by
  rintro b o (h | ⟨i,x,hi,_⟩)
  . exact h
  . simp at hi
 exact ⟨hb,fun i x hi=>by simp at hi,fun i j x y hi=>by simp at hi,fun i x hi=>by simp at hi,hg.keep (zg8.shrink w hM)⟩
theorem CallsD.of {f:FuncId} {fn:Func} {c:Code} {args:List AV} {sl:List SV} {res:AV} (hf:P.funcs[f]? = some fn) (hb:fn.body=some c) (hname:(fn.name == "runtime.NumGoroutine")=false) (ha:x7f args=some sl)
 (h:z1o Γ P [] c (retD P fn.results.toList res) (sl++List.replicate (fn.ntmps-sl.length) .undef) []):CallsD Γ P f args res:=by
 refine ⟨⟨fn,hf,hname,by rw [hb];rfl⟩,fun M w vs hM hg hrd=>?_⟩;have hinv:=HInv.nil hM hg
 have hM0:∀ b o,MX M (fun _=>Go.undef) [] b o->M b o:=by
  rintro b o (h | ⟨i,x,hi,_⟩)
  . exact h
  . simp at hi
 have hsr:SRL [] (fun _=>Go.undef) (MX M (fun _=>Go.undef) []) w vs sl:=z2z ha (hrd.keep (zg8.shrink w hM0));have hlen:=hsr.length;refine calls_of_wp hf hb ?_
 have hsz:vs.toArray.size=sl.length:=by simp [hlen]
 rw [hsz];have hst:=RI.start hinv hsr (fn.ntmps-sl.length);refine wp_mono (h _ _ _ w ⟨rfl,hinv⟩ hst) ?_;rintro e a w' ⟨J,η,ρ,hq,hR⟩
 have fin:(∃ x av bs,xn6 P J η fn.results.toList=some x/\xek η x=some (av,bs)/\RLe av res)->a.defers=[]/\∃ v,(results fn a.tmps).run P w'=.ok v w'/\Back M w res (.returned v) w':=by
  rintro ⟨x,av,bs,h1,h2,h3⟩;obtain ⟨v,hrun,hv⟩:=xp2 (fn:=fn) hR h1
  have harr:∀ b∈bs,wm5 (gB η b)=true:=by
   unfold xek at h2;split at h2
   . obtain ⟨p,hp,e⟩:=Option.map_eq_some_iff.1 h2;cases e;exact xen hp
   . exact vsv h2
  obtain ⟨hw1,_,hfz⟩:=Went.frz bs η hR.inv rfl harr (fun _=>.inl rfl)
  have hMM:∀ b o,M b o->MX M ρ (appL (frzE η bs) η) b o:=fun b o hm=>.inl hm
  have hrd:RdR M w' v av:=by
   have hv1:=hv.mv hw1.mv;unfold xek at h2;split at h2
   . obtain ⟨p,hp,e⟩:=Option.map_eq_some_iff.1 h2
     cases e;obtain ⟨vs',e,hl⟩:=hv1;exact ⟨vs',e,(yrc hw1.inv hp hfz hl).keep (zg8.shrink w' hMM)⟩
   . rename_i hnt;have hr0:SVR0 (appL (frzE η bs) η) ρ (MX M ρ (appL (frzE η bs) η)) w' v x:=hv1.to0 (by cases x<;>first | rfl | exact absurd rfl (hnt _))
     have:=(zi9 hw1.inv h2 hfz hr0).keep (zg8.shrink w' hMM)
     cases av with
     | tup l=>exact this.elim
     | arr _ _ _=>exact this.elim
     | _=>exact this
  have hw:=hR.went;refine ⟨hR.hd,v,hrun,v,rfl,⟨hw.os,hw.tape,hw.output,hw.size,fun k hk=>hw.frame k hk (fun ⟨i,x,hi,_⟩=>by simp at hi)⟩,hrd.le h3,fun hh=>?_⟩
  have:=h3.yco hh
  rw [wyr h2] at this
  cases this
 cases e with
 | normal=>exact fin hq
 | ret=>exact fin hq
 | _=>exact hq.elim
def retH (Γ:List (Nat×List Cell)) (P:Program) (e:List SB) (rs:List ResultVar) (η':List SB) (res:SV):Exit->List SV->List SB->Prop
 | .ret,J,η | .normal,J,η=>∃ x,xn6 P J η rs=some x/\StH Γ e [x] η [res] η'
 | _,_,_=>False
theorem wod.of {f:FuncId} {fn:Func} {c:Code} {η η':List SB} {args:List SV} {res:SV} (hf:P.funcs[f]? = some fn) (hb:fn.body=some c) (hname:(fn.name == "runtime.NumGoroutine")=false)
 (h:z1o Γ P η c (retH Γ P η fn.results.toList η' res) (args++List.replicate (fn.ntmps-args.length) .undef) η):wod Γ P f η args η' res:=by
 refine ⟨⟨fn,hf,hname,by rw [hb];rfl⟩,fun Mo ρ w vs hinv hsr=>?_⟩;have hlen:=hsr.length;refine calls_of_wp hf hb ?_
 have hsz:vs.toArray.size=args.length:=by simp [hlen]
 rw [hsz];have hst:=RI.start hinv hsr (fn.ntmps-args.length);refine wp_mono (h _ _ _ w ⟨rfl,hinv⟩ hst) ?_;rintro e a w' ⟨J,η1,ρ1,hq,hR⟩
 have fin:(∃ x,xn6 P J η1 fn.results.toList=some x/\StH Γ η [x] η1 [res] η')->a.defers=[]/\∃ v,(results fn a.tmps).run P w'=.ok v w'/\wmh Γ Mo ρ η w η' res (.returned v) w':=by
  rintro ⟨x,h1,h3⟩;obtain ⟨v,hrun,hv⟩:=xp2 (fn:=fn) hR h1
  have hI1:RI Γ ⟨w,Mo,ρ,η,[]⟩ ρ1 [x] η1 { tmps:=#[v],defers:=[] } w':=⟨rfl,rfl,fun i y hi=>by
   cases i with
   | zero=>simp at hi;subst hi;exact hv
   | succ i=>simp at hi,hR.went⟩
  obtain ⟨ρ2,hI2⟩:=h3 _ ρ1 _ w' ⟨rfl,hinv⟩ hI1;exact ⟨hR.hd,v,hrun,v,ρ2,rfl,hI2.went,hI2.slot 0 res rfl⟩
 cases e with
 | normal=>exact fin hq
 | ret=>exact fin hq
 | _=>exact hq.elim
end Go.Hp
