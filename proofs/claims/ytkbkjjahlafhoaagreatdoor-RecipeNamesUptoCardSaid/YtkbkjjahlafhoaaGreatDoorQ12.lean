/- The proof, part Q12: Hq, Hr. -/
import Derived.Test.YtkbkjjahlafhoaaGreatDoorQ11
namespace Go.Hp
open Go Go.RowKit Go.Slot
variable {P:Program} {Γ:List (Nat×List Cell)}
variable {c y:Code} {id b i j:Nat} {x x':SB} {ops:Array Oper} {e η η':List SB} {J l:List SV} {ρ:Nat->Value} {w:World} {v:Value} {h:HC} {E:HEnv} {a:Act} {fn:Func} {av:AV} {bs:List Nat} {f:FuncId}
structure At (Γ:List (Nat×List Cell)) (e:List SB) (E:HEnv):Prop where
 eq:E.η0=e
 inv:HInv Γ E.Mo E.ρ0 E.η0 E.w0
def wl4 (Γ:List (Nat×List Cell)) (E:HEnv) (Q:Exit->List SV->List SB->Prop) (x:Exit) (a:Act) (w:World):Prop:=∃ J η ρ,Q x J η/\RI Γ E ρ J η a w
def xty (Γ:List (Nat×List Cell)) (P:Program) (e:List SB) (c:Code) (Q:Exit->List SV->List SB->Prop) (J:List SV) (η:List SB):Prop:=
 ∀(E:HEnv) (ρ:Nat->Value) (a:Act) (w:World),At Γ e E->RI Γ E ρ J η a w->c.wp P (wl4 Γ E Q) a w
def vcv (next:List SV->List SB->Prop) (Q:Exit->List SV->List SB->Prop):Exit->List SV->List SB->Prop
 | .normal,J,η=>next J η
 | e,J,η=>Q e J η
def vka (id:Nat) (Q:Exit->List SV->List SB->Prop):Exit->List SV->List SB->Prop
 | .exit id',J,η=>if id'=id then Q .normal J η else Q (.exit id') J η
 | e,J,η=>Q e J η
section
variable {e:List SB} {Q Q':Exit->List SV->List SB->Prop} {J J' J'':List SV} {η η' η'':List SB}
theorem xty.mono (h:xty Γ P e c Q J η) (hq:∀ x J η,Q x J η->Q' x J η):xty Γ P e c Q' J η:=fun E ρ a w hE hR=>
 wp_mono (h E ρ a w hE hR) (fun x _a _w ⟨J,η,ρ,h1,h2⟩=>⟨J,η,ρ,hq x J η h1,h2⟩)
theorem wx4 (h:Q .normal J η):xty Γ P e .skip Q J η:=fun _ ρ _ _ _ hR=>wp_skip ⟨J,η,ρ,h,hR⟩
theorem ziz (h:Q (.exit id) J η):xty Γ P e (.exit id) Q J η:=fun _ ρ _ _ _ hR=>wp_exit ⟨J,η,ρ,h,hR⟩
theorem yf3 (h:Q .ret J η):xty Γ P e .ret Q J η:=fun _ ρ _ _ _ hR=>wp_ret ⟨J,η,ρ,h,hR⟩
theorem vtt {x:Code} (h:xty Γ P e x (vcv (fun J η=>xty Γ P e y Q J η) Q) J η):xty Γ P e (.seq x y) Q J η:=fun E ρ a w hE hR=>
 wp_seq (wp_mono (h E ρ a w hE hR) (fun x a w ⟨J,η,ρ,h1,h2⟩=>by
  cases x<;>first | exact h1 E ρ a w hE h2 | exact ⟨J,η,ρ,h1,h2⟩))
theorem v2q (h:xty Γ P e c (vka id Q) J η):xty Γ P e (.block id c) Q J η:=fun E ρ a w hE hR=>
 wp_block (wp_mono (h E ρ a w hE hR) (fun x a w ⟨J,η,ρ,h1,h2⟩=>by
  cases x with
  | exit id'=>
   simp only [Exit.inBlock];simp only [vka] at h1;split at h1
   . rename_i hi;rw [if_pos hi];exact ⟨J,η,ρ,h1,h2⟩
   . rename_i hi;rw [if_neg hi];exact ⟨J,η,ρ,h1,h2⟩
  | _=>exact ⟨J,η,ρ,h1,h2⟩))
theorem wqw {c:Operand} {x:Code} {b:Bool} (hc:opdS Γ J c=.one (.dat (.raw (.bool b)))) (ht:b=true->xty Γ P e x Q J η) (hf:b=false->xty Γ P e y Q J η):xty Γ P e (.cond c x y) Q J η:=fun E ρ a w hE hR=>by
 have hs:=hR.opd c;rw [hc] at hs;have e1:a.eval c=.bool b:=RdC.v7q hs;exact wp_cond_split e1 (fun h=>ht h E ρ a w hE hR) (fun h=>hf h E ρ a w hE hR)
theorem zfk (h:RunP Γ P ops ops.toList J η (Q .normal)):xty Γ P e (.region id ops false) Q J η:=fun _E ρ a w _ hR=>
 wp_region_list (RunP.wpList (fun J η ρ _a _w h1 h2=>⟨J,η,ρ,h1,h2⟩) _ J η ρ a w h hR)
theorem yhn (hm:P.follows .mixedOrders=true) (h:zd8 Γ P ops ops.toList ops.toList [] J η (Q .normal)):xty Γ P e (.region id ops true) Q J η:=fun _E _ρ _a _w _ hR=>
 wlr hm (fun J η ρ _a _w h1 h2=>⟨J,η,ρ,h1,h2⟩) h hR
def StH (Γ:List (Nat×List Cell)) (e:List SB) (J:List SV) (η:List SB) (J':List SV) (η':List SB):Prop:=∀(E:HEnv) (ρ:Nat->Value) (a:Act) (w:World),At Γ e E->RI Γ E ρ J η a w->∃ ρ',RI Γ E ρ' J' η' a w
theorem StH.refl:StH Γ e J η J η:=fun _ ρ _ _ _ h=>⟨ρ,h⟩
theorem StH.trans (h:StH Γ e J η J' η') (h':StH Γ e J' η' J'' η''):StH Γ e J η J'' η'':=fun E ρ a w hE hR=>let ⟨ρ',h1⟩:=h E ρ a w hE hR;h' E ρ' a w hE h1
theorem xty.le (h:StH Γ e J η J' η') (hc:xty Γ P e c Q J' η'):xty Γ P e c Q J η:=fun E ρ a w hE hR=>let ⟨ρ',h1⟩:=h E ρ a w hE hR;hc E ρ' a w hE h1
end
inductive HCle:HC->HC->Prop
 | refl (h:HC):HCle h h
 | any (h:HC):HCle h .any
 | dat {c c':Cell} (h:Cell.Le c c'):HCle (.dat c) (.dat c')
inductive xhy:List HC->List HC->Prop
 | nil:xhy [] []
 | cons {h h':HC} {l l':List HC} (a:HCle h h') (t:xhy l l'):xhy (h::l) (h'::l')
inductive SVle:SV->SV->Prop
 | refl (x:SV):SVle x x
 | any (x:SV):SVle x .any
 | one {h h':HC} (a:HCle h h'):SVle (.one h) (.one h')
 | agg {l l':List HC} (a:xhy l l'):SVle (.agg l) (.agg l')
inductive zow:List SV->List SV->Prop
 | nil:zow [] []
 | cons {x x':SV} {l l':List SV} (a:SVle x x') (t:zow l l'):zow (x::l) (x'::l')
section
variable {η:List SB} {ρ:Nat->Value} {M:Nat->Nat->Prop} {w:World}
theorem HRd.le {v:Value} {h h':HC} (hl:HCle h h') (hr:HRd η ρ M w v h):HRd η ρ M w v h':=by
 cases hl with
 | refl=>exact hr
 | any=>exact HRd.one hr
 | dat h=>exact RdC.le h hr
theorem HRL.le:∀{vs:List Value} {l l':List HC},xhy l l'->HRL η ρ M w vs l->HRL η ρ M w vs l'
 | _vs,_,_,.nil,h=>h
 | [],_,_,.cons _ _,h=>h.elim
 | _::_,_,_,.cons a t,h=>⟨h.1.le a,HRL.le t h.2⟩
theorem SVR.le {v:Value} {x x':SV} (hl:SVle x x') (hr:SVR η ρ M w v x):SVR η ρ M w v x':=by
 cases hl with
 | refl=>exact hr
 | any=>trivial
 | one a=>exact HRd.le a hr
 | agg a=>obtain ⟨vs,e,h⟩:=hr;exact ⟨vs,e,h.le a⟩
end
theorem zow.length:∀{l l':List SV},zow l l'->l.length=l'.length
 | _,_,.nil=>rfl
 | _,_,.cons _ t=>by simp [t.length]
theorem zow.get:∀{l l':List SV},zow l l'->∀(i:Nat) (y:SV),l'[i]? = some y->∃ x,l[i]? = some x/\SVle x y
 | _,_,.nil,i,y,h=>by simp at h
 | _,_,.cons a t,0,y,h=>by simp at h;subst h;exact ⟨_,by simp,a⟩
 | _,_,.cons a t,i+1,y,h=>by simpa using t.get i y (by simpa using h)
theorem StH.xof {J':List SV} (h:zow J J'):StH Γ e J η J' η:=fun E ρ a w _ hR=>
 ⟨ρ,hR.hd,by rw [hR.hs,h.length],fun i y hi=>by
  obtain ⟨x,hx,hl⟩:=h.get i y hi
  exact (hR.slot i x hx).le hl,hR.went⟩
def vjn:List Nat->Nat->List SV->List SV
 | _,_,[]=>[]
 | [],i,_::l=>.any::vjn [] (i+1) l
 | k::ks,i,x::l=>match k==i with
  | true=>x::vjn ks (i+1) l
  | false=>.any::vjn (k::ks) (i+1) l
theorem xpt:∀(l:List SV) (ks:List Nat) (i:Nat),zow l (vjn ks i l)
 | [],_,_=>by unfold vjn;exact .nil
 | x::l,[],i=>by unfold vjn;exact .cons (.any _) (xpt l [] (i+1))
 | x::l,k::ks,i=>by
  unfold vjn
  split
  . exact .cons (.refl _) (xpt l ks (i+1))
  . exact .cons (.any _) (xpt l (k::ks) (i+1))
theorem StH.only (ks:List Nat):StH Γ e J η (vjn ks 0 J) η:=StH.xof (xpt J ks 0)
inductive SBle:SB->SB->Prop
 | dead (x:SB):SBle x .dead
 | box {l l':List HC} {T:Option TypeId} (a:xhy l l'):SBle (.box l T) (.box l' T)
 | boxT {l:List HC} {T:Option TypeId}:SBle (.box l T) (.box l none)
 | arrT {c:Cell} {k:Nat} {T:Option TypeId}:SBle (.arr c k T) (.arr c k none)
theorem Went.sble {Mo:Nat->Nat->Prop} (h:HInv Γ Mo ρ η w) (hx:η[b]? = some x) (hl:SBle x x'):Went Γ Mo ρ η w ρ (η.set b x') w:=by
 have hs:=h.blk b x hx
 cases hl with
 | dead=>exact Went.kill h hx
 | box a=>exact Went.less h hx (by simp) (fun _=>rfl) (fun o h=>h) (fun m=>by
  obtain ⟨bb,vs,T,e,hh,hr,ht⟩:=hs.mv m (fun _ _=>rfl)
  exact ⟨bb,vs,T,e,hh,hr.le a,ht⟩)
 | boxT=>exact Went.less h hx (by simp) (fun _=>rfl) (fun o h=>h) (fun m=>by
  obtain ⟨bb,vs,T,e,hh,hr,ht⟩:=hs.mv m (fun _ _=>rfl)
  exact ⟨bb,vs,T,e,hh,hr,fun t' ht'=>by cases ht'⟩)
 | arrT=>exact Went.less h hx (by simp) (fun _=>rfl) (fun o h=>h) (fun m=>by
  obtain ⟨hu,h0 | ⟨bb,vs,q,T,e,hh,hr,ht⟩⟩:=hs.mv m (fun _ _=>rfl)
  . exact ⟨hu,.inl h0⟩
  . exact ⟨hu,.inr ⟨bb,vs,q,T,e,hh,hr,fun t' ht'=>by cases ht'⟩⟩)
theorem StH.block (hx:η[b]? = some x) (hl:SBle x x'):StH Γ e J η J (η.set b x'):=fun _E ρ _a _w _ hR=>⟨ρ,hR.go (Went.sble hR.inv hx hl)⟩
theorem StH.empty {d:Nat} {c0 c:Cell} {es:Nat} {T:Option TypeId} (hd:gtS J d=.one (.dat c0)) (hz:isZc c0=true) (hu:c.uni) (hc:c.cnt=0):StH Γ e J η (J.set d (.one (.sl η.length es 0 0))) (η++[.arr c 0 T]):=fun E ρ a w _ hR=>by
 have h1:=hR.go (Went.extend hR.inv 1)
 have hf:(η++[SB.fresh])[η.length]? = some .fresh:=by simp
 have hw:=Went.new h1.inv (xr1 w) hf (v:=.pointer none) (x:=.arr c 0 T) (by simp) (fun _ hr=>absurd rfl hr) (fun m=>⟨⟨hu,Nat.zero_le _⟩,.inl ⟨hc,rfl⟩⟩);have h2:=h1.go hw;rw [show (η++List.replicate 1 SB.fresh).set η.length (.arr c 0 T)=η++[.arr c 0 T] by simp] at h2;refine ⟨upd ρ η.length (.pointer none),?_⟩;have hs:=h2.gt d;rw [hd] at hs;obtain ⟨ad,hv⟩:=zr9 (τ:=fun _=>⟨Go.undef,0⟩) hz (RdT.of (show RdC _ w (a.tmps.getD d Go.undef) c0 from hs));have hlt:d<J.length:=vhw hd (by simp);have hp:=h2.put (d:=d) (v:=a.tmps.getD d Go.undef) (x:=.one (.sl η.length es 0 0)) ⟨⟨_,by simp;rfl,by simp⟩,ad,0,hv,Nat.le_refl _,fun h=>absurd rfl h⟩
 have ha:a.put (some d) (a.tmps.getD d Go.undef)=a:=by
  unfold Act.put
  have:a.tmps.setIfInBounds d (a.tmps.getD d Go.undef)=a.tmps:=by
   apply Array.ext
   . simp
   . intro i h1 h2;rw [Array.getElem_setIfInBounds]
     split
     . rename_i e1;subst e1;simp [h2]
     . rfl
  simp only [this]
 rw [ha] at hp;exact hp
def v79:HC->List Nat
 | .ptr b _ | .pel b _ _ _ | .sl b _ _ _ | .mp b | .fnr b=>[b]
 | _=>[]
def x3b:SV->List Nat
 | .one h=>v79 h
 | .agg l=>l.flatMap v79
 | .tup l=>l.flatMap fun x=>match x with
  | .one h=>v79 h
  | .agg l=>l.flatMap v79
  | _=>[]
 | _=>[]
def ze4:SB->List Nat
 | .box l _=>l.flatMap v79
 | .map es=>es.flatMap fun p=>x3b p.2
 | .clo _ l=>l.flatMap x3b
 | _=>[]
theorem x1p (h:okB η b):b<η.length:=by
 obtain ⟨x,hx,_⟩:=h;exact (List.getElem?_eq_some_iff.1 hx).1
section
variable {η:List SB} {ρ:Nat->Value} {M:Nat->Nat->Prop} {w:World}
theorem HRd.refs (hr:HRd η ρ M w v h):∀ b∈v79 h,okB η b:=by
 intro b hb
 cases h<;>simp only [v79,List.mem_singleton,List.not_mem_nil] at hb<;>first | (subst hb;exact hr.1) | exact hb.elim
theorem HRL.refs:∀{vs:List Value} {l:List HC},HRL η ρ M w vs l->∀ b∈l.flatMap v79,okB η b
 | [],[],_,b,hb=>by simp at hb
 | _::_,_::_,h,b,hb=>by
  rw [List.flatMap_cons,List.mem_append] at hb;exact hb.elim (h.1.refs b) (h.2.refs b)
theorem SVR0.refs {v:Value} {x:SV} (hr:SVR0 η ρ M w v x):∀ b∈x3b x,okB η b:=by
 cases x with
 | one h=>exact HRd.refs hr
 | agg l=>obtain ⟨vs,_,h⟩:=hr;exact h.refs
 | tup l=>exact hr.elim
 | _=>intro b hb;cases hb
theorem SRL.refs:∀{vs:List Value} {l:List SV},SRL η ρ M w vs l->∀ b∈l.flatMap x3b,okB η b
 | [],[],_,b,hb=>by simp at hb
 | _::_,_::_,h,b,hb=>by
  rw [List.flatMap_cons,List.mem_append] at hb;exact hb.elim (h.1.refs b) (h.2.refs b)
theorem EnR.refs:∀{es:List MapEntry} {l:List (Value×SV)},EnR η ρ M w es l->∀ b∈l.flatMap (fun p=>x3b p.2),okB η b
 | [],[],_,b,hb=>by simp at hb
 | _::_,_::_,h,b,hb=>by
  rw [List.flatMap_cons,List.mem_append] at hb;exact hb.elim (h.1.2.refs b) (h.2.refs b)
theorem SBR.refs {v:Value} {x:SB} (hr:SBR η ρ M w v x):∀ b∈ze4 x,okB η b:=by
 cases x with
 | box l T=>obtain ⟨_,_,_,_,_,h,_⟩:=hr;exact h.refs
 | map es=>obtain ⟨_,_,_,_,_,h⟩:=hr;exact h.1.refs
 | clo f l=>obtain ⟨_,_,h⟩:=hr;exact h.refs
 | _=>intro b hb;cases hb
theorem HRd.at {ρ':Nat->Value} {M':Nat->Nat->Prop} (hM:∀ b o,M' b o->M b o) (hr:HRd η ρ M w v h) (hb:∀ b∈v79 h,okB η' b/\ρ' b=ρ b):HRd η' ρ' M' w v h:=by
 cases h with
 | any=>exact hr
 | dat c=>exact RdC.keep (ydx.shrink w hM) hr
 | ptr b off=>obtain ⟨h1,h2⟩:=hb b (by simp [v79]);exact ⟨h1,by rw [h2];exact hr.2⟩
 | pel b es i f=>obtain ⟨h1,h2⟩:=hb b (by simp [v79]);exact ⟨h1,by rw [h2];exact hr.2⟩
 | sl b es lo n=>obtain ⟨h1,h2⟩:=hb b (by simp [v79]);exact ⟨h1,by rw [h2];exact hr.2⟩
 | mp b=>obtain ⟨h1,h2⟩:=hb b (by simp [v79]);exact ⟨h1,by rw [h2];exact hr.2⟩
 | fnr b=>obtain ⟨h1,h2⟩:=hb b (by simp [v79]);exact ⟨h1,by rw [h2];exact hr.2⟩
theorem HRL.at {η':List SB} {ρ':Nat->Value} {M':Nat->Nat->Prop} (hM:∀ b o,M' b o->M b o):∀{vs:List Value} {l:List HC},HRL η ρ M w vs l->(∀ b∈l.flatMap v79,okB η' b/\ρ' b=ρ b)->HRL η' ρ' M' w vs l
 | [],[],_,_=>trivial
 | _::_,_::_,h,hb=>⟨h.1.at hM (fun b hh=>hb b (by rw [List.flatMap_cons,List.mem_append];exact .inl hh)),HRL.at hM h.2 (fun b hh=>hb b (by rw [List.flatMap_cons,List.mem_append];exact .inr hh))⟩
theorem SVR0.at {η':List SB} {ρ':Nat->Value} {M':Nat->Nat->Prop} (hM:∀ b o,M' b o->M b o) {v:Value} {x:SV} (hr:SVR0 η ρ M w v x) (hb:∀ b∈x3b x,okB η' b/\ρ' b=ρ b):SVR0 η' ρ' M' w v x:=by
 cases x with
 | one h=>exact HRd.at hM hr hb
 | agg l=>obtain ⟨vs,e,h⟩:=hr;exact ⟨vs,e,h.at hM hb⟩
 | tup l=>exact hr.elim
 | any=>trivial
 | undef=>exact hr
 | elt cs=>obtain ⟨b,off,vs,e,h1,h2⟩:=hr;exact ⟨b,off,vs,e,fun j u hj=>⟨fun h=>(h1 j u hj).1 (hM _ _ h),(h1 j u hj).2⟩,h2.keep (ydx.shrink w hM)⟩
theorem SRL.at {η':List SB} {ρ':Nat->Value} {M':Nat->Nat->Prop} (hM:∀ b o,M' b o->M b o):∀{vs:List Value} {l:List SV},SRL η ρ M w vs l->(∀ b∈l.flatMap x3b,okB η' b/\ρ' b=ρ b)->SRL η' ρ' M' w vs l
 | [],[],_,_=>trivial
 | _::_,_::_,h,hb=>⟨h.1.at hM (fun b hh=>hb b (by rw [List.flatMap_cons,List.mem_append];exact .inl hh)),SRL.at hM h.2 (fun b hh=>hb b (by rw [List.flatMap_cons,List.mem_append];exact .inr hh))⟩
theorem z6w:x3b (.tup l)=l.flatMap fun x=>match x with
 | .one h=>v79 h
 | .agg l=>l.flatMap v79
 | _=>[]:=rfl
theorem SRL.z6w:∀{vs:List Value} {l:List SV},SRL η ρ M w vs l->(l.flatMap fun x=>match x with
 | .one h=>v79 h
 | .agg l=>l.flatMap v79
 | _=>[])=l.flatMap x3b
 | [],[],_=>rfl
 | _::_,x::_,h=>by
  rw [List.flatMap_cons,List.flatMap_cons,h.2.z6w]
  congr 1
  cases x<;>first | rfl | exact h.1.elim
theorem SVR.at {η':List SB} {ρ':Nat->Value} {M':Nat->Nat->Prop} (hM:∀ b o,M' b o->M b o) {v:Value} {x:SV} (hr:SVR η ρ M w v x) (hb:∀ b∈x3b x,okB η' b/\ρ' b=ρ b):SVR η' ρ' M' w v x:=by
 cases x with
 | tup l=>
  obtain ⟨vs,e,h⟩:=hr;rw [Hp.z6w,h.z6w] at hb;exact ⟨vs,e,h.at hM hb⟩
 | any=>trivial
 | one h=>exact SVR0.at (x:=.one h) hM hr hb
 | agg l=>exact SVR0.at (x:=.agg l) hM hr hb
 | undef=>exact hr
 | elt cs=>exact SVR0.at (η:=η) (η':=η') (ρ':=ρ') (x:=.elt cs) hM hr hb
theorem EnR.at {η':List SB} {ρ':Nat->Value} {M':Nat->Nat->Prop} (hM:∀ b o,M' b o->M b o):∀{es:List MapEntry} {l:List (Value×SV)},EnR η ρ M w es l->(∀ b∈l.flatMap (fun p=>x3b p.2),okB η' b/\ρ' b=ρ b)->EnR η' ρ' M' w es l
 | [],[],_,_=>trivial
 | _::_,_::_,h,hb=>⟨⟨h.1.1,h.1.2.at hM (fun b hh=>hb b (by rw [List.flatMap_cons,List.mem_append];exact .inl hh))⟩,EnR.at hM h.2 (fun b hh=>hb b (by rw [List.flatMap_cons,List.mem_append];exact .inr hh))⟩
theorem SBR.at {η':List SB} {ρ':Nat->Value} {M':Nat->Nat->Prop} (hM:∀ b o,M' b o->M b o) {v:Value} {x:SB} (hr:SBR η ρ M w v x) (hb:∀ b∈ze4 x,okB η' b/\ρ' b=ρ b):SBR η' ρ' M' w v x:=by
 cases x with
 | fresh=>trivial
 | dead=>trivial
 | box l T=>obtain ⟨b,vs,T',e,h1,h2,h3⟩:=hr;exact ⟨b,vs,T',e,h1,h2.at hM hb,h3⟩
 | arr c k T=>
  obtain ⟨hu,h0 | ⟨b,vs,q,T',e,h1,h2,h3⟩⟩:=hr
  . exact ⟨hu,.inl h0⟩
  . exact ⟨hu,.inr ⟨b,vs,q,T',e,h1,h2.keep (ydx.shrink w hM),h3⟩⟩
 | map es=>obtain ⟨b,ents,clk,e,h1,h2,h3⟩:=hr;exact ⟨b,ents,clk,e,h1,h2.at hM hb,h3⟩
 | clo f l=>obtain ⟨cv,e,h⟩:=hr;exact ⟨cv,e,h.at hM hb⟩
end
theorem Went.cut (hE:At Γ e E) (h:Went Γ E.Mo E.ρ0 E.η0 E.w0 ρ η w) {m:Nat} (hm:e.length<=m) (hr:∀(i:Nat) (x:SB),i<m->η[i]? = some x->e[i]? = some x\/∀ b∈ze4 x,b<m) :
 Went Γ E.Mo E.ρ0 E.η0 E.w0 ρ (η.take m) w:=by
 have hget:∀ i x,(η.take m)[i]? = some x->i<m/\η[i]? = some x:=fun i x hi=>by
  rw [List.getElem?_take] at hi;split at hi
  . rename_i hlt;exact ⟨hlt,hi⟩
  . cases hi
 have hM:∀ b o,MX E.Mo ρ (η.take m) b o->MX E.Mo ρ η b o:=by
  rintro b o (hm | ⟨i,x,hi,hx⟩)
  . exact .inl hm
  . exact .inr ⟨i,x,(hget i x hi).2,hx⟩
 have hok:∀ b,b<m->okB η b->okB (η.take m) b:=fun b hb ⟨x,hx,hf⟩=>⟨x,by rw [List.getElem?_take,if_pos hb];exact hx,hf⟩
 refine ⟨fun b hb=>hok b (Nat.lt_of_lt_of_le (x1p hb) (by rw [hE.eq];exact hm)) (h.ok b hb),h.rho,h.keep.trans (ydx.shrink w hM),h.grow,⟨h.inv.bnd,fun i x hi=>?_,fun i j x y hi hj=>h.inv.inj i j x y (hget i x hi).2 (hget j y hj).2,fun i x hi=>h.inv.sep i x (hget i x hi).2,h.inv.glob.keep (ydx.shrink w hM)⟩,h.size,h.os,h.tape,h.output,h.frame,fun k ⟨i,x,hi,hx⟩=>h.fresh k ⟨i,x,(hget i x hi).2,hx⟩⟩;obtain ⟨hlt,hi'⟩:=hget i x hi;have hsb:=h.inv.blk i x hi';refine hsb.at hM (fun b hb=>⟨hok b ?_ (hsb.refs b hb),rfl⟩)
 rcases hr i x hlt hi' with h1 | h1
 . have h2:=(hE.inv.blk i x (by rw [hE.eq];exact h1)).refs b hb
   have:=x1p h2
   rw [hE.eq] at this;omega
 . exact h1 b hb
theorem StH.cut {e:List SB} {J:List SV} {η:List SB} {m:Nat} (hm:e.length<=m) (hs:∀(i:Nat) (x:SV),J[i]? = some x->∀ b∈x3b x,b<m) (hr:∀(i:Nat) (x:SB),i<m->η[i]? = some x->e[i]? = some x\/∀ b∈ze4 x,b<m):StH Γ e J η J (η.take m):=fun E ρ a w hE hR=>by
 have hw:=Went.cut hE hR.went hm hr;refine ⟨ρ,hR.hd,hR.hs,fun i x hi=>?_,hw⟩
 have hM:∀ b o,MX E.Mo ρ (η.take m) b o->MX E.Mo ρ η b o:=by
  rintro b o (hm | ⟨i,x,hi,hx⟩)
  . exact .inl hm
  . rw [List.getElem?_take] at hi;split at hi
    . exact .inr ⟨i,x,hi,hx⟩
    . cases hi
 have hsl:=hR.slot i x hi;refine hsl.at hM (fun b hb=>⟨?_,rfl⟩)
 have hok:okB η b:=by
  cases x with
  | tup l=>
   obtain ⟨vs,_,h⟩:=hsl;rw [Hp.z6w,h.z6w] at hb;exact h.refs b hb
  | one h=>exact SVR0.refs (x:=.one h) hsl b hb
  | agg l=>exact SVR0.refs (x:=.agg l) hsl b hb
  | _=>cases hb
 obtain ⟨y,hy,hf⟩:=hok;exact ⟨y,by rw [List.getElem?_take,if_pos (hs i x hi b hb)];exact hy,hf⟩
def sw (i j b:Nat):Nat:=if b=i then j else if b=j then i else b
theorem xw5 (i j b:Nat):sw i j (sw i j b)=b:=by
 unfold sw;by_cases h1:b=i
 . subst h1;by_cases h2:j=b
   . simp [h2]
   . simp [h2]
 . by_cases h2:b=j
   . subst h2;simp [h1]
   . simp [h1,h2]
def swHC (i j:Nat):HC->HC
 | .ptr b o=>.ptr (sw i j b) o
 | .pel b es k f=>.pel (sw i j b) es k f
 | .sl b es lo n=>.sl (sw i j b) es lo n
 | .mp b=>.mp (sw i j b)
 | .fnr b=>.fnr (sw i j b)
 | h=>h
def vwa (i j:Nat):SV->SV
 | .one h=>.one (swHC i j h)
 | .agg l=>.agg (l.map (swHC i j))
 | x=>x
def swSV (i j:Nat):SV->SV
 | .tup l=>.tup (l.map (vwa i j))
 | x=>vwa i j x
def swSB (i j:Nat):SB->SB
 | .box l T=>.box (l.map (swHC i j)) T
 | .map es=>.map (es.map fun p=>(p.1,vwa i j p.2))
 | .clo f l=>.clo f (l.map (vwa i j))
 | x=>x
theorem ype:(swSB i j x).own=x.own:=by cases x<;>rfl
theorem w8u {o:Nat}:(swSB i j x).mut o↔x.mut o:=by cases x<;>exact Iff.rfl
theorem zms (h:x≠.fresh):swSB i j x≠.fresh:=by cases x<;>first | exact absurd rfl h | simp [swSB]
section
variable {i j:Nat} {η η':List SB} {ρ:Nat->Value} {M:Nat->Nat->Prop} {w:World}
theorem HRd.sw (hok:∀ b,okB η b->okB η' (Hp.sw i j b)) {v:Value} {h:HC} (hr:HRd η ρ M w v h):HRd η' (fun b=>ρ (Hp.sw i j b)) M w v (swHC i j h):=by
 cases h with
 | any=>exact hr
 | dat c=>exact hr
 | ptr b o=>exact ⟨hok b hr.1,by show v=_;simp only [xw5];exact hr.2⟩
 | pel b es k f=>exact ⟨hok b hr.1,by show v=_;simp only [xw5];exact hr.2⟩
 | sl b es lo n=>exact ⟨hok b hr.1,by simp only [xw5];exact hr.2⟩
 | mp b=>exact ⟨hok b hr.1,by simp only [xw5];exact hr.2⟩
 | fnr b=>exact ⟨hok b hr.1,by simp only [xw5];exact hr.2⟩
theorem HRL.sw (hok:∀ b,okB η b->okB η' (Hp.sw i j b)):∀{vs:List Value} {l:List HC},HRL η ρ M w vs l->HRL η' (fun b=>ρ (Hp.sw i j b)) M w vs (l.map (swHC i j))
 | [],[],_=>trivial
 | _::_,_::_,h=>⟨h.1.sw hok,h.2.sw hok⟩
theorem SVR0.sw (hok:∀ b,okB η b->okB η' (Hp.sw i j b)) {v:Value} {x:SV} (hr:SVR0 η ρ M w v x):SVR0 η' (fun b=>ρ (Hp.sw i j b)) M w v (vwa i j x):=by
 cases x with
 | one h=>exact HRd.sw hok hr
 | agg l=>obtain ⟨vs,e,h⟩:=hr;exact ⟨vs,e,h.sw hok⟩
 | _=>exact hr
theorem SRL.sw (hok:∀ b,okB η b->okB η' (Hp.sw i j b)):∀{vs:List Value} {l:List SV},SRL η ρ M w vs l->SRL η' (fun b=>ρ (Hp.sw i j b)) M w vs (l.map (vwa i j))
 | [],[],_=>trivial
 | _::_,_::_,h=>⟨h.1.sw hok,h.2.sw hok⟩
theorem SVR.sw (hok:∀ b,okB η b->okB η' (Hp.sw i j b)) {v:Value} {x:SV} (hr:SVR η ρ M w v x):SVR η' (fun b=>ρ (Hp.sw i j b)) M w v (swSV i j x):=by
 cases x with
 | tup l=>obtain ⟨vs,e,h⟩:=hr;exact ⟨vs,e,h.sw hok⟩
 | one h=>exact HRd.sw hok hr
 | agg l=>obtain ⟨vs,e,h⟩:=hr;exact ⟨vs,e,h.sw hok⟩
 | any=>trivial
 | undef=>exact hr
 | elt cs=>exact hr
theorem EnR.sw (hok:∀ b,okB η b->okB η' (Hp.sw i j b)):∀{es:List MapEntry} {l:List (Value×SV)},EnR η ρ M w es l->EnR η' (fun b=>ρ (Hp.sw i j b)) M w es (l.map fun p=>(p.1,vwa i j p.2))
 | [],[],_=>trivial
 | _::_,_::_,h=>⟨⟨h.1.1,h.1.2.sw hok⟩,h.2.sw hok⟩
theorem SBR.sw (hok:∀ b,okB η b->okB η' (Hp.sw i j b)) {v:Value} {x:SB} (hr:SBR η ρ M w v x):SBR η' (fun b=>ρ (Hp.sw i j b)) M w v (swSB i j x):=by
 cases x with
 | fresh=>trivial
 | dead=>trivial
 | box l T=>obtain ⟨b,vs,T',e,h1,h2,h3⟩:=hr;exact ⟨b,vs,T',e,h1,h2.sw hok,h3⟩
 | arr c k T=>exact hr
 | map es=>obtain ⟨b,ents,clk,e,h1,h2,h3⟩:=hr;exact ⟨b,ents,clk,e,h1,h2.sw hok,h3⟩
 | clo f l=>obtain ⟨cv,e,h⟩:=hr;exact ⟨cv,e,h.sw hok⟩
end
theorem ypd {n:Nat} (hi:n<=i) (hj:n<=j) (hb:∀ b∈v79 h,b<n):swHC i j h=h:=by
 have key:∀ b,b<n->sw i j b=b:=fun b hb=>by unfold sw;rw [if_neg (by omega),if_neg (by omega)]
 cases h<;>simp only [swHC]<;>rw [key _ (hb _ (by simp [v79]))]
theorem zz9 {n:Nat} (hi:n<=i) (hj:n<=j) {l:List HC} (hb:∀ b∈l.flatMap v79,b<n):l.map (swHC i j)=l:=by
 induction l with
 | nil=>rfl
 | cons h l ih=>
  simp only [List.flatMap_cons,List.mem_append] at hb;simp only [List.map_cons];rw [ypd hi hj (fun b hh=>hb b (.inl hh)),ih (fun b hh=>hb b (.inr hh))]
theorem yto {n:Nat} (hi:n<=i) (hj:n<=j) {x:SV} (hb:∀ b∈x3b x,b<n):vwa i j x=x:=by
 cases x with
 | one h=>simp only [vwa];rw [ypd hi hj hb]
 | agg l=>simp only [vwa];rw [zz9 hi hj hb]
 | _=>rfl
theorem v2p {n:Nat} (hi:n<=i) (hj:n<=j) (hb:∀ b∈ze4 x,b<n):swSB i j x=x:=by
 cases x with
 | box l T=>simp only [swSB];rw [zz9 hi hj hb]
 | map es=>
  simp only [swSB]
  congr 1
  simp only [ze4,List.mem_flatMap] at hb
  have:∀ p∈es,(p.1,vwa i j p.2)=p:=fun p hp=>by
   rw [yto hi hj (fun b hh=>hb b ⟨p,hp,hh⟩)]
  exact (List.map_congr_left this).trans (List.map_id es)
 | clo f l=>
  simp only [swSB]
  congr 1
  simp only [ze4,List.mem_flatMap] at hb
  have:∀ x∈l,vwa i j x=x:=fun x hx=>yto hi hj (fun b hh=>hb b ⟨x,hx,hh⟩)
  exact (List.map_congr_left this).trans (List.map_id l)
 | _=>rfl
theorem StH.swap (hi:e.length<=i) (hj:e.length<=j) (hil:i<η.length) (hjl:j<η.length)
 (hη:∀ b x,η[b]? = some x->(η'[sw i j b]? = some (swSB i j x)\/(e[b]? = some x/\η'[b]? = some x))) (hlen:η'.length=η.length):StH Γ e J η (J.map (swSV i j)) η':=fun E ρ a w hE hR=>by
 have hlow:∀ b,b<e.length->sw i j b=b:=fun b hb=>by unfold sw;rw [if_neg (by omega),if_neg (by omega)]
 have hswl:∀ b,b<η.length->sw i j b<η.length:=fun b hb=>by
  unfold sw
  split
  . exact hjl
  . split
    . exact hil
    . exact hb
 have fwd:∀ b x,η[b]? = some x->η'[sw i j b]? = some (swSB i j x):=fun b x hx=>by
  rcases hη b x hx with h | ⟨h1,h2⟩
  . exact h
  . have hb:b<e.length:=(List.getElem?_eq_some_iff.1 h1).1;rw [hlow b hb,h2];have hrefs:=(hE.inv.blk b x (by rw [hE.eq];exact h1)).refs;rw [v2p hi hj (fun c hc=>by have:=x1p (hrefs c hc);rw [hE.eq] at this;exact this)]
 have bwd:∀ b y,η'[b]? = some y->∃ x,η[sw i j b]? = some x/\y=swSB i j x:=fun b y hy=>by
  have hb:b<η.length:=by rw [<-hlen];exact (List.getElem?_eq_some_iff.1 hy).1
  obtain ⟨x,hx⟩:∃ x,η[sw i j b]? = some x:=⟨_,List.getElem?_eq_getElem (hswl b hb)⟩
  have:=fwd _ _ hx
  rw [xw5,hy] at this
  cases this;exact ⟨x,hx,rfl⟩
 have hok:∀ b,okB η b->okB η' (sw i j b):=fun b ⟨x,hx,hf⟩=>⟨_,fwd b x hx,zms hf⟩
 have hM:∀ b o,MX E.Mo (fun b=>ρ (sw i j b)) η' b o↔MX E.Mo ρ η b o:=fun b o=>by
  constructor
  . rintro (hm | ⟨c,y,hc,hy,hr,hb⟩)
    . exact .inl hm
    . obtain ⟨x,hx,rfl⟩:=bwd c y hc;exact .inr ⟨_,x,hx,w8u.1 hy,hr,hb⟩
  . rintro (hm | ⟨c,x,hc,hx,hr,hb⟩)
    . exact .inl hm
    . exact .inr ⟨sw i j c,_,fwd c x hc,w8u.2 hx,by simp only [xw5];exact hr,by simp only [xw5];exact hb⟩
 have hMe:MX E.Mo (fun b=>ρ (sw i j b)) η'=MX E.Mo ρ η:=funext fun b=>funext fun o=>propext (hM b o)
 have hX:∀ k,Xb (fun b=>ρ (sw i j b)) η' k->Xb ρ η k:=fun k ⟨c,y,hc,hy,hr,hb⟩=>by
  obtain ⟨x,hx,rfl⟩:=bwd c y hc;exact ⟨_,x,hx,by rw [<-ype (i:=i) (j:=j)];exact hy,hr,hb⟩
 have hw:=hR.went;refine ⟨fun b=>ρ (sw i j b),hR.hd,by simpa using hR.hs,fun d x hd=>?_,⟨fun b hb=>?_,fun b hb=>?_,?_,hw.grow,⟨hw.inv.bnd,fun b y hb=>?_,fun b c y z hb hc hy hz hrb hrc he=>?_,fun b y hb hy hr=>?_,?_⟩,hw.size,hw.os,hw.tape,hw.output,hw.frame,fun k hk=>hw.fresh k (hX k hk)⟩⟩
 . rw [List.getElem?_map] at hd;obtain ⟨x0,hx0,rfl⟩:=Option.map_eq_some_iff.1 hd;rw [hMe];exact (hR.slot d x0 hx0).sw hok
 . have hb':=x1p hb;rw [hE.eq] at hb'
   have:=hok b (hw.ok b hb)
   rw [hlow b hb'] at this;exact this
 . have hb':=x1p hb;rw [hE.eq] at hb';show ρ (sw i j b)=_;rw [hlow b hb'];exact hw.rho b hb
 . rw [hMe];exact hw.keep
 . obtain ⟨x,hx,rfl⟩:=bwd b y hb;rw [hMe]
   have:=(hw.inv.blk _ x hx).sw (i:=i) (j:=j) hok
   exact this
 . obtain ⟨x,hx,rfl⟩:=bwd b y hb;obtain ⟨x',hx',rfl⟩:=bwd c z hc
   have:=hw.inv.inj _ _ x x' hx hx' (by rw [<-ype (i:=i) (j:=j)];exact hy) (by rw [<-ype (i:=i) (j:=j)];exact hz) hrb hrc he
   have h2:=congrArg (sw i j) this;rw [xw5,xw5] at h2;exact h2
 . obtain ⟨x,hx,rfl⟩:=bwd b y hb;exact hw.inv.sep _ x hx (by rw [<-ype (i:=i) (j:=j)];exact hy) hr
 . rw [hMe];exact hw.inv.glob
def v4m (P:Program) (J:List SV) (η:List SB):ResultVar->Option SV
 | .tmp t=>match gtS J t with
  | .tup _=>none
  | x=>some x
 | .cell a T=>match mkTI P T,seeH η (gtS J a) with
  | some ti,some (_,hs)=>wc3 ti hs
  | _,_=>none
def x03 (P:Program) (J:List SV) (η:List SB):List ResultVar->Option (List SV)
 | []=>some []
 | r::rs=>match v4m P J η r,x03 P J η rs with
  | some x,some l=>some (x::l)
  | _,_=>none
def zam (P:Program) (J:List SV) (η:List SB) (rs:List ResultVar):Option SV:=match x03 P J η rs with
 | some [x]=>some x
 | some l=>some (.tup l)
 | none=>none
theorem xks (hI:RI Γ E ρ J η a w) {r:ResultVar} {x:SV} (h:v4m P J η r=some x):∃ v,(v2l a.tmps r).run P w=.ok v w/\SVR0 η ρ (MX E.Mo ρ η) w v x:=by
 cases r with
 | tmp t=>
  have ht:=hI.gt t;simp only [v4m] at h;split at h
  . cases h
  . rename_i y hne
    cases h;refine ⟨_,rfl,ht.to0 ?_⟩;generalize gtS J t=z at hne
    cases z<;>first | rfl | exact absurd rfl (hne _)
 | cell t T=>
  have ht:=hI.gt t;simp only [v4m] at h;split at h
  . rename_i ti rh hs hti hsee;obtain ⟨b,off,vs,e,hc,hr⟩:=vz8 hI ht hsee;obtain ⟨v,h1,h2⟩:=run_load (xat hti) hc hr h;refine ⟨v,by simp [v2l,e,asAddr,h1],h2.to0 ?_⟩;unfold wc3 at h;split at h
    . split at h<;>cases h;rfl
    . split at h<;>cases h;rfl
    . cases h
  . cases h
theorem zf6 {E:HEnv} {ρ:Nat->Value} {J:List SV} {η:List SB} {a:Act} {w:World} (hI:RI Γ E ρ J η a w):∀(rs:List ResultVar) (l:List SV),x03 P J η rs=some l->∃ vs:List Value,(rs.mapM (v2l a.tmps)).run P w=.ok vs w/\SRL η ρ (MX E.Mo ρ η) w vs l
 | [],l,h=>by cases h;exact ⟨[],rfl,trivial⟩
 | r::rs,l,h=>by
  simp only [x03] at h;split at h
  . rename_i x l' h1 h2
    cases h;obtain ⟨v,h3,h4⟩:=xks hI h1;obtain ⟨vs,h5,h6⟩:=zf6 hI rs l' h2;refine ⟨v::vs,?_,h4,h6⟩;simp only [List.mapM_cons,Sem.run_bind,h3,Result.andThen_ok,h5];rfl
  . cases h
theorem w9k (hI:RI Γ E ρ J η a w) {x:SV} (h:zam P J η fn.results.toList=some x):∃ v,(results fn a.tmps).run P w=.ok v w/\SVR η ρ (MX E.Mo ρ η) w v x:=by
 have key:∀ l,x03 P J η fn.results.toList=some l->∃ vs:List Value,(results fn a.tmps).run P w=.ok (if h:vs.toArray.size=1 then vs.toArray[0] else .tuple vs.toArray) w/\SRL η ρ (MX E.Mo ρ η) w vs l:=fun l hl=>by
  obtain ⟨vs,hvs,hrs⟩:=zf6 hI fn.results.toList l hl;refine ⟨vs,?_,hrs⟩
  have hres:results fn a.tmps=(fn.results.mapM (v2l a.tmps) >>= fun vs=>pure (if h:vs.size=1 then vs[0] else .tuple vs)):=by
   unfold results;refine congrArg (fun g:ResultVar->Sem Value=>(fn.results.mapM g >>= fun vs=>(pure (if h:vs.size=1 then vs[0] else .tuple vs):Sem Value))) (funext fun r=>?_)
   cases r<;>rfl
  rw [hres,Array.mapM_eq_mapM_toList];simp only [Sem.run_bind,Sem.run_map,hvs];rfl
 unfold zam at h;split at h
 . rename_i y hl
   cases h;obtain ⟨vs,hrun,hrs⟩:=key _ hl
   cases vs with
   | nil=>exact hrs.elim
   | cons v vs=>
    cases vs with
    | cons _ _=>exact hrs.2.elim
    | nil=>exact ⟨v,hrun,SVR.of0 hrs.1⟩
 . rename_i l hne hl
   cases h;obtain ⟨vs,hrun,hrs⟩:=key _ hl;have hlen:=hrs.length
   have hn1:vs.toArray.size≠1:=fun e1=>by
    simp only [List.size_toArray] at e1
    have:l.length=1:=by omega
    match l,this,hne with
    | [z],_,hne=>exact hne z rfl
   rw [dif_neg hn1] at hrun;exact ⟨_,hrun,vs,rfl,hrs⟩
 . cases h
def y7k (η:List SB):SV->Option (AV×List Nat)
 | .tup l=>(y7w η l).map fun p=>(.tup p.1,p.2)
 | x=>argD η x
theorem yl8 {x:SV} (h:argD η x=some (av,bs)):av.v43=false:=by
 unfold argD at h;split at h
 . obtain ⟨p,hp,e⟩:=Option.map_eq_some_iff.1 h;cases e;rfl
 . obtain ⟨p,hp,e⟩:=Option.map_eq_some_iff.1 h;cases e;rfl
 . cases h;rfl
 . cases h;rfl
 . cases h
theorem wxh {x:SV} (h:y7k η x=some (av,bs)):av.v43=false:=by
 unfold y7k at h;split at h
 . obtain ⟨p,hp,e⟩:=Option.map_eq_some_iff.1 h;cases e;rfl
 . exact yl8 h
def retD (P:Program) (rs:List ResultVar) (res:AV):Exit->List SV->List SB->Prop
 | .ret,J,η | .normal,J,η=>∃ x av bs,zam P J η rs=some x/\y7k η x=some (av,bs)/\RLe av res
 | _,_,_=>False
theorem xht {M:Nat->Nat->Prop}:∀{l:List AV} {r:List SV} {vs:List Value},xo6 l=some r->RdBL M w vs l->SRL η ρ M w vs r:=xp5
theorem RI.start {Mo:Nat->Nat->Prop} (h:HInv Γ Mo ρ η w) {vs:List Value} (hr:SRL η ρ (MX Mo ρ η) w vs l) (n:Nat) :
 RI Γ ⟨w,Mo,ρ,η,[]⟩ ρ (l++List.replicate n .undef) η { tmps:=vs.toArray++Array.replicate n Go.undef,defers:=[] } w:=by
 have hlen:=hr.length;refine ⟨rfl,by simp [hlen],fun i x hi=>?_,Went.refl h⟩;by_cases hlt:i<l.length
 . rw [List.getElem?_append_left hlt] at hi;obtain ⟨v,hv,hx⟩:=hr.get i x hi
   have hvl:i<vs.length:=by omega
   rw [List.getElem?_eq_getElem hvl] at hv;simp at hv
   have:(vs.toArray++Array.replicate n Go.undef).getD i Go.undef=v:=by
    simp [Array.getD_eq_getD_getElem?,Array.getElem?_append,hvl,hv]
   show SVR _ _ _ _ ((vs.toArray++Array.replicate n Go.undef).getD i Go.undef) x;rw [this];exact SVR.of0 hx
 . rw [List.getElem?_append_right (by omega)] at hi;have hx:x=.undef:=(List.mem_replicate.1 (List.mem_of_getElem? hi)).2;subst hx
   have:(vs.toArray++Array.replicate n Go.undef).getD i Go.undef=Go.undef:=by
    simp only [Array.getD_eq_getD_getElem?,Array.getElem?_append];rw [if_neg (by simp;omega)];simp only [Array.getElem?_replicate]
    split<;>rfl
   show SVR _ _ _ _ ((vs.toArray++Array.replicate n Go.undef).getD i Go.undef) .undef;rw [this];exact rfl
theorem HInv.nil {Mo:Nat->Nat->Prop} (hb:Bounded Mo w) (hg:zw4 Γ Mo w):HInv Γ Mo (fun _=>Go.undef) [] w:=by
 have hM:∀ b o,MX Mo (fun _=>Go.undef) [] b o->Mo b o:=by
  rintro b o (h | ⟨i,x,hi,_⟩)
  . exact h
  . simp at hi
 exact ⟨hb,fun i x hi=>by simp at hi,fun i j x y hi=>by simp at hi,fun i x hi=>by simp at hi,hg.keep (ydx.shrink w hM)⟩
theorem CallsD.of {args:List AV} {sl:List SV} {res:AV} (hf:P.funcs[f]? = some fn) (hb:fn.body=some c) (hname:(fn.name == "runtime.NumGoroutine")=false) (ha:xo6 args=some sl)
 (h:xty Γ P [] c (retD P fn.results.toList res) (sl++List.replicate (fn.ntmps-sl.length) .undef) []):CallsD Γ P f args res:=by
 refine ⟨⟨fn,hf,hname,by rw [hb];rfl⟩,fun M w vs hM hg hrd=>?_⟩;have hinv:=HInv.nil hM hg
 have hM0:∀ b o,MX M (fun _=>Go.undef) [] b o->M b o:=by
  rintro b o (h | ⟨i,x,hi,_⟩)
  . exact h
  . simp at hi
 have hsr:SRL [] (fun _=>Go.undef) (MX M (fun _=>Go.undef) []) w vs sl:=xp5 ha (hrd.keep (ydx.shrink w hM0));have hlen:=hsr.length;refine calls_of_wp hf hb ?_
 have hsz:vs.toArray.size=sl.length:=by simp [hlen]
 rw [hsz];have hst:=RI.start hinv hsr (fn.ntmps-sl.length);refine wp_mono (h _ _ _ w ⟨rfl,hinv⟩ hst) ?_;rintro e a w' ⟨J,η,ρ,hq,hR⟩
 have fin:(∃ x av bs,zam P J η fn.results.toList=some x/\y7k η x=some (av,bs)/\RLe av res)->a.defers=[]/\∃ v,(results fn a.tmps).run P w'=.ok v w'/\Back M w res (.returned v) w':=by
  rintro ⟨x,av,bs,h1,h2,h3⟩;obtain ⟨v,hrun,hv⟩:=w9k (fn:=fn) hR h1
  have harr:∀ b∈bs,wry (gB η b)=true:=by
   unfold y7k at h2;split at h2
   . obtain ⟨p,hp,e⟩:=Option.map_eq_some_iff.1 h2;cases e;exact y8d hp
   . exact y3o h2
  obtain ⟨hw1,_,hfz⟩:=Went.frz bs η hR.inv rfl harr (fun _=>.inl rfl)
  have hMM:∀ b o,M b o->MX M ρ (appL (frzE η bs) η) b o:=fun b o hm=>.inl hm
  have hrd:RdR M w' v av:=by
   have hv1:=hv.mv hw1.mv;unfold y7k at h2;split at h2
   . obtain ⟨p,hp,e⟩:=Option.map_eq_some_iff.1 h2
     cases e;obtain ⟨vs',e,hl⟩:=hv1;exact ⟨vs',e,(yt1 hw1.inv hp hfz hl).keep (ydx.shrink w' hMM)⟩
   . rename_i hnt;have hr0:SVR0 (appL (frzE η bs) η) ρ (MX M ρ (appL (frzE η bs) η)) w' v x:=hv1.to0 (by cases x<;>first | rfl | exact absurd rfl (hnt _))
     have:=(zui hw1.inv h2 hfz hr0).keep (ydx.shrink w' hMM)
     cases av with
     | tup l=>exact this.elim
     | arr _ _ _=>exact this.elim
     | _=>exact this
  have hw:=hR.went;refine ⟨hR.hd,v,hrun,v,rfl,⟨hw.os,hw.tape,hw.output,hw.size,fun k hk=>hw.frame k hk (fun ⟨i,x,hi,_⟩=>by simp at hi)⟩,hrd.le h3,fun hh=>?_⟩
  have:=h3.v43 hh
  rw [wxh h2] at this
  cases this
 cases e with
 | normal=>exact fin hq
 | ret=>exact fin hq
 | _=>exact hq.elim
def retH (Γ:List (Nat×List Cell)) (P:Program) (e:List SB) (rs:List ResultVar) (η':List SB) (res:SV):Exit->List SV->List SB->Prop
 | .ret,J,η | .normal,J,η=>∃ x,zam P J η rs=some x/\StH Γ e [x] η [res] η'
 | _,_,_=>False
theorem xbh.of {args:List SV} {res:SV} (hf:P.funcs[f]? = some fn) (hb:fn.body=some c) (hname:(fn.name == "runtime.NumGoroutine")=false)
 (h:xty Γ P η c (retH Γ P η fn.results.toList η' res) (args++List.replicate (fn.ntmps-args.length) .undef) η):xbh Γ P f η args η' res:=by
 refine ⟨⟨fn,hf,hname,by rw [hb];rfl⟩,fun Mo ρ w vs hinv hsr=>?_⟩;have hlen:=hsr.length;refine calls_of_wp hf hb ?_
 have hsz:vs.toArray.size=args.length:=by simp [hlen]
 rw [hsz];have hst:=RI.start hinv hsr (fn.ntmps-args.length);refine wp_mono (h _ _ _ w ⟨rfl,hinv⟩ hst) ?_;rintro e a w' ⟨J,η1,ρ1,hq,hR⟩
 have fin:(∃ x,zam P J η1 fn.results.toList=some x/\StH Γ η [x] η1 [res] η')->a.defers=[]/\∃ v,(results fn a.tmps).run P w'=.ok v w'/\xq6 Γ Mo ρ η w η' res (.returned v) w':=by
  rintro ⟨x,h1,h3⟩;obtain ⟨v,hrun,hv⟩:=w9k (fn:=fn) hR h1
  have hI1:RI Γ ⟨w,Mo,ρ,η,[]⟩ ρ1 [x] η1 { tmps:=#[v],defers:=[] } w':=⟨rfl,rfl,fun i y hi=>by
   cases i with
   | zero=>simp at hi;subst hi;exact hv
   | succ i=>simp at hi,hR.went⟩
  obtain ⟨ρ2,hI2⟩:=h3 _ ρ1 _ w' ⟨rfl,hinv⟩ hI1;exact ⟨hR.hd,v,hrun,v,ρ2,rfl,hI2.went,hI2.slot 0 res rfl⟩
 cases e with
 | normal=>exact fin hq
 | ret=>exact fin hq
 | _=>exact hq.elim
end Go.Hp
