/- The proof, part Y16: Ia. -/
import Derived.Test.YtocdljjhobaabaaGreatDoorY15
namespace Go.Hp
open Go Go.RowKit Go.Slot
variable {P:Program} {Γ:List (Nat×List Cell)}
inductive GhH where
 | join
 | own
 | clo
 | any (s:Nat)
 | room (n:Nat)
def vn6:List (Nat×List GhH)->Nat->List GhH
 | [],_=>[]
 | (i,l)::r,j=>bif i==j then l else vn6 r j
def vzv:List GhH->Bool
 | []=>false
 | .join::_=>true
 | .own::r=>vzv r
 | .clo::r=>vzv r
 | .any _::r=>vzv r
 | .room _::r=>vzv r
def w9a:List GhH->Bool
 | []=>false
 | .own::_=>true
 | .join::r=>w9a r
 | .clo::r=>w9a r
 | .any _::r=>w9a r
 | .room _::r=>w9a r
def vub:List GhH->Bool
 | []=>false
 | .clo::_=>true
 | .join::r=>vub r
 | .own::r=>vub r
 | .any _::r=>vub r
 | .room _::r=>vub r
def anyS:List GhH->List SV->List SV
 | [],σ=>σ
 | .any s::r,σ=>anyS r (σ.set s .any)
 | .join::r,σ=>anyS r σ
 | .own::r,σ=>anyS r σ
 | .clo::r,σ=>anyS r σ
 | .room _::r,σ=>anyS r σ
def w0v:Nat->List SB
 | 0=>[]
 | n+1=>.fresh::w0v n
def vw9:List GhH->List SB
 | []=>[.fresh]
 | .room n::_=>w0v n
 | .join::r=>vw9 r
 | .own::r=>vw9 r
 | .clo::r=>vw9 r
 | .any _::r=>vw9 r
theorem wb1:∀ n:Nat,w0v n=List.replicate n .fresh
 | 0=>rfl
 | n+1=>by rw [w0v,wb1 n];rfl
theorem vrq:∀ g:List GhH,∃ n,vw9 g=List.replicate n .fresh
 | []=>⟨1,rfl⟩
 | .room n::_=>⟨n,wb1 n⟩
 | .join::r=>vrq r
 | .own::r=>vrq r
 | .clo::r=>vrq r
 | .any _::r=>vrq r
def nxtB (nb:Nat):List (Nat×SB)->Nat
 | []=>nb
 | p::r=>bif p.1==nb then nb+1 else nxtB nb r
def wn4:List (Nat×List GhH)->Code->Bool
 | [],_=>false
 | g::G,y=>match vdl y with
  | some id=>vzv (vn6 (g::G) id)
  | none=>false
def BadO (_o:Op) (_σ:List SV) (_η:List SB):Prop:=False
def ya0 (_c:Operand) (_σ:List SV):Prop:=False
def w0m (Γ:List (Nat×List Cell)) (P:Program) (f:FuncId) (l:List AV) (η:List SB) (KD:Bool->AV->Prop) (KH:Bool->List SB->SV->Prop):Prop:=
 (∃ res,CallsD Γ P f l res/\KD true res)\/(∃ sl η2 res,zmk l=some sl/\xgj Γ P f η sl η2 res/\KH true η2 res)
def xw3 (Γ:List (Nat×List Cell)) (P:Program) (f:FuncId) (η:List SB) (l:List SV) (K:Bool->List SB->SV->Prop):Prop:=∃ η2 res,xgj Γ P f η l η2 res/\K true η2 res
def vq7:SB->Bool
 | .clo _ _=>false
 | _=>true
def vxj (Γ:List (Nat×List Cell)) (P:Program) (f:FuncId) (η:List SB) (l:List SV) (rh:List Nat) (heff:List (Nat×SB)) (res:SV):Prop:=
 (rh=List.range η.length/\xgj Γ P f η l (appL heff η) res)\/(∃ n,n<=η.length/\rh=List.range n/\heff=[]/\(η.drop n).all vq7=true/\∀ ξ,xgj Γ P f (η.take n++ξ) l (η.take n++ξ) res)
def wmt (Γ:List (Nat×List Cell)) (P:Program) (f:FuncId) (η:List SB) (l:List SV) (K:Bool->List Nat->List (Nat×SB)->SV->Prop):Prop:=∃ rh heff res,vxj Γ P f η l rh heff res/\K true rh heff res
def FnKH (Γ:List (Nat×List Cell)) (P:Program) (p:(Nat->Nat->Prop)->World->Value->Prop) (args:List AV) (K:Bool->AV->Prop):Prop:=∃ F,p=yjp Γ P F/\∃ res,F args res/\K true res
def MkKH (Γ:List (Nat×List Cell)) (P:Program) (f:FuncId) (caps:List AV) (K:Bool->(List AV->AV->Prop)->Prop):Prop:=∃ F,za1 P f/\(∀ args res,F args res->CallsD Γ P f (args++caps) res)/\K true F
theorem v47 {f:FuncId} {l:List AV} {η:List SB} {KD:Bool->AV->Prop} {KH:Bool->List SB->SV->Prop} {res:AV} (h:CallsD Γ P f l res) (hk:KD true res):w0m Γ P f l η KD KH:=.inl ⟨res,h,hk⟩
theorem za2 {f:FuncId} {l:List AV} {η:List SB} {KD:Bool->AV->Prop} {KH:Bool->List SB->SV->Prop} {sl:List SV} {η2:List SB} {res:SV} (h:xgj Γ P f η sl η2 res) (hs:zmk l=some sl) (hk:KH true η2 res):w0m Γ P f l η KD KH:=.inr ⟨sl,η2,res,hs,h,hk⟩
theorem wq6 {f:FuncId} {η:List SB} {l:List SV} {K:Bool->List SB->SV->Prop} {η2:List SB} {res:SV} (h:xgj Γ P f η l η2 res) (hk:K true η2 res):xw3 Γ P f η l K:=⟨η2,res,h,hk⟩
theorem yjt {f:FuncId} {η:List SB} {l:List SV} {K:Bool->List Nat->List (Nat×SB)->SV->Prop} (heff:List (Nat×SB)) {res:SV} (h:xgj Γ P f η l (appL heff η) res) (hk:K true (List.range η.length) heff res):wmt Γ P f η l K:=⟨_,heff,res,.inl ⟨rfl,h⟩,hk⟩
theorem y4m (n:Nat) {f:FuncId} {η:List SB} {l:List SV} {K:Bool->List Nat->List (Nat×SB)->SV->Prop} {res:SV} (h:∀ ξ,xgj Γ P f (η.take n++ξ) l (η.take n++ξ) res) (hn:Nat.ble n η.length=true) (hc:(η.drop n).all vq7=true) (hk:K true (List.range n) [] res):wmt Γ P f η l K:=⟨_,[],res,.inr ⟨n,by simpa using hn,rfl,rfl,hc,h⟩,hk⟩
theorem hfn {F:List AV->AV->Prop} {args:List AV} {K:Bool->AV->Prop} {res:AV} (h:F args res) (hk:K true res):FnKH Γ P (yjp Γ P F) args K:=⟨F,rfl,res,h,hk⟩
def resK (o:Oper) (σ:List SV) (η:List SB) (b:Bool) (k:Bool->List SV->List SB->Prop):Option (SV×Option SB)->Prop
 | some (y,none)=>k b (appL (yph o y) σ) η
 | some (y,some x)=>k b (appL (yph o y) σ) (η++[x])
 | none=>BadO o.op σ η
def zar (o:Oper) (σ:List SV) (η:List SB) (b:Bool) (k:Bool->List SV->List SB->Prop) (y:SV):Prop:=match o.dst with
 | some d=>k b (σ.set d y) η
 | none=>BadO o.op σ η
def doH (Γ:List (Nat×List Cell)) (P:Program) (x:HO) (o:Oper) (σ:List SV) (η:List SB) (b:Bool) (k:Bool->List SV->List SB->Prop):Prop:=match x with
 | .eff _ _ e h none=>k b (appL e σ) (appL h η)
 | .eff _ _ e h (some z)=>k b (appL e σ) (appL h η++[z])
 | .callD f l _ _ bs=>w0m Γ P f l (appL (frzE η bs) η) (fun b res=>resK o σ (appL (frzE η bs) η) b k (resS η.length res)) (fun b η2 res=>k b (appL (yph o res) σ) η2)
 | .callF p l _ bs=>FnKH Γ P p l (fun b res=>resK o σ (appL (frzE η bs) η) b k (resS η.length res))
 | .callH f l _=>xw3 Γ P f η l (fun b η2 res=>k b (appL (yph o res) σ) η2)
 | .mk f caps _ bs=>MkKH Γ P f caps (fun b F=>k b (appL (yph o (.one (.dat (.fnp (yjp Γ P F))))) σ) (appL (frzE η bs) η))
 | .look r z ok _ _=>zar o σ η b k (y2m ok r z)
 | .bad=>BadO o.op σ η
def x61 (o:Oper) (σ:List SV) (η:List SB) (b:Bool) (k:Bool->List SV->List SB->Prop):Prop:=k b (appL (yph o .undef) σ) η
def gdH (Γ:List (Nat×List Cell)) (P:Program) (lit fn:Bool) (g:GR) (o:Oper) (σ:List SV) (η:List SB) (b:Bool) (k:Bool->List SV->List SB->Prop):Prop:=match g with
 | .plain=>doH Γ P (opF P Γ lit fn σ η η.length o) o σ η b k
 | .when _ c b'=>wp9 c b' (fun b=>doH Γ P (opF P Γ lit fn σ η η.length o) o σ η b k) (fun b=>x61 o σ η b k)
 | .skip _=>x61 o σ η b k
 | .bad=>BadO o.op σ η
theorem zjz {lit fn:Bool} {o:Oper} {σ:List SV} {η:List SB} {b:Bool} {k:Bool->List SV->List SB->Prop} (h:doH Γ P (opF P Γ lit fn σ η η.length o) o σ η b k):∃ b' σ2 η2,van Γ P o σ η σ2 η2/\k b' σ2 η2:=by
 cases hr:opF P Γ lit fn σ η η.length o with
 | eff rd rh e hf new=>
  have hs:=yk1 hr;rw [hr] at h
  cases new with
  | none=>exact ⟨_,_,_,xlu.p hs,h⟩
  | some x=>exact ⟨_,_,_,hs.2 rfl,h⟩
 | callD f l rd rh bs=>
  have hr':=vh8 hr (by simp);rw [hr] at h
  rcases h with ⟨res,h1,h2⟩ | ⟨sl,η2,res,h0,h1,h2⟩
  . unfold resK at h2;split at h2
    . rename_i y hy;exact ⟨_,_,_,xlu.p (x2a hr' h1 hy),h2⟩
    . rename_i y x hy;exact ⟨_,_,_,(x2a hr' h1 hy).2 rfl,h2⟩
    . exact h2.elim
  . exact ⟨_,_,_,veg hr' h0 h1,h2⟩
 | callF p l rd bs=>
  have hr':=vh8 hr (by simp);rw [hr] at h;obtain ⟨F,rfl,res,h1,h2⟩:=h;unfold resK at h2;split at h2
  . rename_i y hy;exact ⟨_,_,_,xlu.p (wt7 hr' h1 hy),h2⟩
  . rename_i y x hy;exact ⟨_,_,_,(wt7 hr' h1 hy).2 rfl,h2⟩
  . exact h2.elim
 | callH f l rd=>
  have hr':=vh8 hr (by simp);rw [hr] at h;obtain ⟨η2,res,h1,h2⟩:=h;exact ⟨_,_,_,(xrw hr' h1).1,h2⟩
 | mk f caps rd bs=>
  have hr':=vh8 hr (by simp);rw [hr] at h;obtain ⟨F,h0,h1,h2⟩:=h;exact ⟨_,_,_,(vg1 hr' h0 h1).p,h2⟩
 | look r z ok rd rh=>
  have hr':=vh8 hr (by simp);rw [hr] at h;have h:zar o σ η b k (y2m ok r z):=h;unfold zar at h;split at h
  . rename_i d hd
    rcases x2o hr' with h1 | h1
    . have he:yph o (y2m ok r z)=[(d,y2m ok r z)]:=by unfold yph;rw [hd]
      rw [he] at h1;exact ⟨_,_,_,h1.p,h⟩
    . rw [hd] at h1;cases h1
  . exact h.elim
 | bad=>rw [hr] at h;exact h.elim
theorem xve {lit fn:Bool} {ops:Array Oper} {o:Oper} {σ:List SV} {η:List SB} {b:Bool} {k:Bool->List SV->List SB->Prop} (h:gdH Γ P lit fn (vu6 ops.toList σ o) o σ η b k):∃ b' σ2 η2,GP Γ P ops o σ η σ2 η2/\k b' σ2 η2:=by
 have hs:=zr2 (ops:=ops) (σ:=σ) (o:=o);unfold gdH at h;split at h
 . rename_i hg;obtain ⟨b',s,t,h1,h2⟩:=zjz h;exact ⟨b',s,t,GP.plain (hs.1 hg) h1,h2⟩
 . rename_i d c b' hg;obtain ⟨j,h1,h2,h3⟩:=hs.2.1 d c b' hg;obtain ⟨hx,hy⟩:=h;by_cases hcb:c=b'
   . subst hcb;obtain ⟨b'',s,t,h4,h5⟩:=zjz (hx rfl);exact ⟨b'',s,t,GP.taken h1 h2 h3 h4,h5⟩
   . have hn:c = !b':=by cases c<;>cases b'<;>simp_all
     exact ⟨_,_,_,GP.vcu h1 h2 (.inl (by rw [h3,hn])),hy hn⟩
 . rename_i d hg;obtain ⟨j,b',h1,h2,h3⟩:=hs.2.2 d hg;exact ⟨_,_,_,GP.vcu h1 h2 (.inr h3),h⟩
 . exact h.elim
def ytu (Γ:List (Nat×List Cell)) (P:Program) (lit fn:Bool) (ops:List Oper):Bool->List Oper->List SV->List SB->(Bool->List SV->List SB->Prop)->Prop
 | b,[],σ,η,K=>K b σ η
 | b,o::r,σ,η,K=>gdH Γ P lit fn (vu6 ops σ o) o σ η b (fun b σ η=>ytu Γ P lit fn ops b r σ η K)
theorem ytu.run {lit fn:Bool} {ops:Array Oper}:∀(l:List Oper) (b:Bool) (σ:List SV) (η:List SB) (K:Bool->List SV->List SB->Prop),ytu Γ P lit fn ops.toList b l σ η K->RunP Γ P ops l σ η (fun σ η=>∃ b,K b σ η)
 | [],b,_,_,_,h=>⟨b,h⟩
 | o::r,b,σ,η,K,h=>by
  unfold ytu at h;obtain ⟨b',σ2,η2,h1,h2⟩:=xve h;exact ⟨_,_,h1,ytu.run r b' _ _ K h2⟩
def resG (o:Oper) (σ:List SV) (η:List SB) (nb:Nat) (rd rh bs:List Nat) (b:Bool) (k:Bool->List Nat->List Nat->List (Nat×SV)->List (Nat×SB)->Prop):Option (SV×Option SB)->Prop
 | some (y,none)=>k b rd (rh++bs) (yph o y) (frzE η bs)
 | some (y,some x)=>v7q η nb=true/\k b rd (nb::(rh++bs)) (yph o y) (frzE η bs++[(nb,x)])
 | none=>BadO o.op σ η
def vyo (o:Oper) (σ:List SV) (η:List SB) (rd rh:List Nat) (b:Bool) (k:Bool->List Nat->List Nat->List (Nat×SV)->List (Nat×SB)->Prop) (y:SV):Prop:=match o.dst with
 | some d=>k b rd rh [(d,y)] []
 | none=>BadO o.op σ η
def doG (Γ:List (Nat×List Cell)) (P:Program) (x:HO) (o:Oper) (σ:List SV) (η:List SB) (nb:Nat) (b:Bool) (k:Bool->List Nat->List Nat->List (Nat×SV)->List (Nat×SB)->Prop):Prop:=match x with
 | .eff rd rh e h none=>k b rd rh e h
 | .eff rd rh e h (some z)=>v7q η nb=true/\k b rd (nb::rh) e (h++[(nb,z)])
 | .callD f l rd rh bs=>∃ res,CallsD Γ P f l res/\resG o σ η nb rd rh bs true k (resS nb res)
 | .callF p l rd bs=>FnKH Γ P p l (fun b res=>resG o σ η nb rd [] bs b k (resS nb res))
 | .callH f l rd=>wmt Γ P f η l (fun b rh heff res=>k b rd rh (yph o res) heff)
 | .mk f caps rd bs=>MkKH Γ P f caps (fun b F=>k b rd bs (yph o (.one (.dat (.fnp (yjp Γ P F))))) (frzE η bs))
 | .look r z ok rd rh=>vyo o σ η rd rh b k (y2m ok r z)
 | .bad=>BadO o.op σ η
def v90 (Γ:List (Nat×List Cell)) (P:Program) (f:FuncId) (l:List AV) (K:Bool->AV->Prop):Prop:=∃ res,CallsD Γ P f l res/\K true res
theorem vrf {f:FuncId} {l:List AV} {K:Bool->AV->Prop} {res:AV} (h:CallsD Γ P f l res) (hk:K true res):v90 Γ P f l K:=⟨res,h,hk⟩
def onG (d:Nat) (k:Bool->List Nat->List Nat->List (Nat×SV)->List (Nat×SB)->Prop) (b:Bool) (rd rh:List Nat) (e:List (Nat×SV)) (h:List (Nat×SB)):Prop:=k b (d::rd) rh e h
def wzb (d:Nat) (o:Oper) (b:Bool) (k:Bool->List Nat->List Nat->List (Nat×SV)->List (Nat×SB)->Prop):Prop:=k b (d::zny o) [] (yph o .undef) []
def gdG (Γ:List (Nat×List Cell)) (P:Program) (lit fn:Bool) (nb:Nat) (g:GR) (o:Oper) (σ:List SV) (η:List SB) (b:Bool) (k:Bool->List Nat->List Nat->List (Nat×SV)->List (Nat×SB)->Prop):Prop:=match g with
 | .plain=>doG Γ P (opF P Γ lit fn σ η nb o) o σ η nb b k
 | .when d c b'=>wp9 c b' (fun b=>doG Γ P (opF P Γ lit fn σ η nb o) o σ η nb b (onG d k)) (fun b=>wzb d o b k)
 | .skip d=>wzb d o b k
 | .bad=>BadO o.op σ η
theorem xyw {o:Oper} {σ:List SV} {η:List SB} {x:Operand} {xs:List Operand} {ts:Array TypeId} (ho:o.op=.call { callee:=.value x,args:=xs.toArray,argTypes:=ts }) {f:FuncId} {caps:List SV} {rd rh:List Nat} {n:Nat}
 (hc:zw9 Γ σ η x=some (f,caps,rd,rh)) (hrh:∀ b∈rh,b<n) (hn:n<=η.length) (hnt:w8c (yvs Γ σ xs)=true) {res:SV} (v47:∀ ξ,xgj Γ P f (η.take n++ξ) (yvs Γ σ xs++caps) (η.take n++ξ) res) :
 xlu Γ P o σ η (zny o++rd++orrL xs) (List.range n) (yph o res) []:=by
 intro E ρ σ' η' a w hag hah hI K Q hK
 have hge:∀ b,b<n->η'[b]? = η[b]?:=fun b hb=>hah.2 b (by simpa using hb)
 have hgb:∀ b,b<n->gB η' b=gB η b:=fun b hb=>by unfold gB;rw [hge b hb]
 have hη:η'=η.take n++η'.drop n:=by
  apply List.ext_getElem?;intro i;have hl:=hah.1;by_cases hi:i<n
  . rw [hge i hi,List.getElem?_append_left (by rw [List.length_take];omega),List.getElem?_take,if_pos hi]
  . rw [List.getElem?_append_right (by rw [List.length_take];omega),List.length_take,List.getElem?_drop]
    congr 1
    omega
 have hc':=vwy hc (fun t ht=>hag.2 t (by simp [ht])) (fun b hb=>hgb b (hrh b hb));have hargs:=vkl (Γ:=Γ) hag xs (fun t ht=>by simp [ht]);have hcall':=v47 (η'.drop n);rw [<-hη] at hcall'
 have:=x90 (o:=o) (σ:=σ') (η:=η') ho hc' (by rw [hargs];exact hnt) (by rw [hargs];exact hcall')
 exact this E ρ a w hI K Q hK
theorem z5j {σ : List SV} {η : List SB} {x : Operand} {f : FuncId} {caps : List SV} {rd rh : List Nat} (h : zw9 Γ σ η x = some (f, caps, rd, rh)) : ∀ b ∈ rh, vq7 (gB η b) = false := by
 unfold zw9 at h;split at h
 . cases h;intro b hb;cases hb
 . split at h
   . obtain ⟨f',hf,he⟩:=Option.map_eq_some_iff.1 h;cases he;intro b hb;cases hb
   . split at h
     . rename_i hg
       cases h;intro b hb;rw [List.mem_singleton.1 hb,hg];rfl
     . cases h
   . cases h
 . cases h
theorem yhu {lit fn:Bool} {σ:List SV} {η:List SB} {nb:Nat} {o:Oper} {f:FuncId} {l:List SV} {rd:List Nat} (h:opH P Γ lit fn σ η nb o=.callH f l rd) {n:Nat} (hn:n<=η.length) (hclo:(η.drop n).all vq7=true) {res:SV} (hc:∀ ξ,xgj Γ P f (η.take n++ξ) l (η.take n++ξ) res):xlu Γ P o σ η rd (List.range n) (yph o res) []:=by
 obtain ⟨x,xs,ts,ho⟩:=vf5 h (.inr (.inr ⟨_,_,_,rfl⟩));rw [xvr ho] at h
 have ho':o.op=.call { callee:=.value x,args:=xs.toList.toArray,argTypes:=ts }:=by rw [ho]
 have hG : ∀ {f' : FuncId} {caps : List SV} {rd' rh' : List Nat}, zw9 Γ σ η x = some (f', caps, rd', rh') → y2d.callG Γ (z7i lit fn) σ η o xs.toList f' caps rd' rh' = .callH f l rd → xlu Γ P o σ η rd (List.range n) (yph o res) [] := fun {f' caps rd' rh'} hcal hg => by
  have hrh:∀ b∈rh',b<n:=fun b hb=>by
   have h1:=z5j hcal b hb
   rcases Nat.lt_or_ge b n with h2 | h2
   . exact h2
   . exfalso
     have:vq7 (gB η b)=true:=by
      unfold gB;by_cases hl:b<η.length
      . rw [List.getElem?_eq_getElem hl]
        have hm:η[b]∈η.drop n:=by
         rw [List.mem_drop_iff_getElem];exact ⟨b-n,by omega,by congr 1;omega⟩
        exact List.all_eq_true.1 hclo _ hm
      . rw [List.getElem?_eq_none (by omega)];rfl
     rw [this] at h1;cases h1
  unfold y2d.callG at hg;split at hg
  . cases hg
  . split at hg
    . rename_i hnt
      cases hg;exact xyw ho' hcal hrh hn hnt hc
    . cases hg
 unfold y2d at h;split at h
 . split at h
   . split at h
     . unfold vO at h;repeat' split at h
       all_goals cases h
     . cases h
   . exact hG rfl h
 . rename_i t;split at h
   . split at h<;>cases h
   . split at h
     . rename_i f' caps rd' rh' hcal;exact hG hcal h
     . cases h
 . cases h
theorem w6b {lit fn:Bool} {o:Oper} {σ:List SV} {η:List SB} {nb:Nat} {b:Bool} {k:Bool->List Nat->List Nat->List (Nat×SV)->List (Nat×SB)->Prop} (h:doG Γ P (opF P Γ lit fn σ η nb o) o σ η nb b k):∃ b' rd rh e hf,xlu Γ P o σ η rd rh e hf/\k b' rd rh e hf:=by
 cases hr:opF P Γ lit fn σ η nb o with
 | eff rd rh e hf new=>
  have hs:=yk1 hr;rw [hr] at h
  cases new with
  | none=>exact ⟨_,_,_,_,_,hs,h⟩
  | some x=>exact ⟨_,_,_,_,_,hs.1 h.1,h.2⟩
 | callD f l rd rh bs=>
  have hr':=vh8 hr (by simp);rw [hr] at h;obtain ⟨res,h1,h2⟩:=h;unfold resG at h2;split at h2
  . rename_i y hy;exact ⟨_,_,_,_,_,x2a hr' h1 hy,h2⟩
  . rename_i y x hy;exact ⟨_,_,_,_,_,(x2a hr' h1 hy).1 h2.1,h2.2⟩
  . exact h2.elim
 | callF p l rd bs=>
  have hr':=vh8 hr (by simp);rw [hr] at h;obtain ⟨F,rfl,res,h1,h2⟩:=h;unfold resG at h2;split at h2
  . rename_i y hy;exact ⟨_,_,_,_,_,wt7 hr' h1 hy,h2⟩
  . rename_i y x hy;exact ⟨_,_,_,_,_,(wt7 hr' h1 hy).1 h2.1,h2.2⟩
  . exact h2.elim
 | callH f l rd=>
  have hr':=vh8 hr (by simp);rw [hr] at h;obtain ⟨rh,heff,res,h1,h2⟩:=h
  rcases h1 with ⟨rfl,h1⟩ | ⟨n,hn,rfl,rfl,hc,h1⟩
  . exact ⟨_,_,_,_,_,(xrw hr' h1).2 _ rfl,h2⟩
  . exact ⟨_,_,_,_,_,yhu hr' hn hc h1,h2⟩
 | mk f caps rd bs=>
  have hr':=vh8 hr (by simp);rw [hr] at h;obtain ⟨F,h0,h1,h2⟩:=h;exact ⟨_,_,_,_,_,vg1 hr' h0 h1,h2⟩
 | look r z ok rd rh=>
  have hr':=vh8 hr (by simp);rw [hr] at h;have h:vyo o σ η rd rh b k (y2m ok r z):=h;unfold vyo at h;split at h
  . rename_i d hd
    rcases x2o hr' with h1 | h1
    . have he:yph o (y2m ok r z)=[(d,y2m ok r z)]:=by unfold yph;rw [hd]
      rw [he] at h1;exact ⟨_,_,_,_,_,h1,h⟩
    . rw [hd] at h1;cases h1
  . exact h.elim
 | bad=>rw [hr] at h;exact h.elim
theorem x6t {lit fn:Bool} {ops:Array Oper} {o:Oper} {σ:List SV} {η:List SB} {nb:Nat} {b:Bool} {k:Bool->List Nat->List Nat->List (Nat×SV)->List (Nat×SB)->Prop} (h:gdG Γ P lit fn nb (vu6 ops.toList σ o) o σ η b k):∃ b' rd rh e hf,GH Γ P ops o σ η rd rh e hf/\k b' rd rh e hf:=by
 have hs:=zr2 (ops:=ops) (σ:=σ) (o:=o);unfold gdG at h;split at h
 . rename_i hg;obtain ⟨b',rd,rh,e,hf,h1,h2⟩:=w6b h;exact ⟨b',_,_,_,_,GH.plain (hs.1 hg) h1,h2⟩
 . rename_i d c b' hg;obtain ⟨j,h1,h2,h3⟩:=hs.2.1 d c b' hg;obtain ⟨hx,hy⟩:=h;by_cases hcb:c=b'
   . subst hcb;obtain ⟨b'',rd,rh,e,hf,h4,h5⟩:=w6b (hx rfl);exact ⟨b'',_,_,_,_,GH.taken h1 h2 h3 h4,h5⟩
   . have hn:c = !b':=by cases c<;>cases b'<;>simp_all
     exact ⟨_,_,_,_,_,GH.vcu h1 h2 (.inl (by rw [h3,hn])),hy hn⟩
 . rename_i d hg;obtain ⟨j,b',h1,h2,h3⟩:=hs.2.2 d hg;exact ⟨_,_,_,_,_,GH.vcu h1 h2 (.inr h3),h⟩
 . exact h.elim
def xa7 (ops:List Oper) (acc:List HR) (k:Bool->Prop):Prop:=yir ops acc=true/\k true
theorem hind {ops:List Oper} {acc:List HR} {k:Bool->Prop} (h:yir ops acc=true) (hk:k true):xa7 ops acc k:=⟨h,hk⟩
def wyk (Γ:List (Nat×List Cell)) (P:Program) (lit fn:Bool):Nat->List Oper->Bool->List Oper->List HR->List SV->List SB->(Bool->List SV->List SB->Prop)->Prop
 | _,ops,_,[],acc,σ,η,K=>xa7 ops acc (fun b=>K b σ η)
 | nb,ops,b,o::r,acc,σ,η,K=>gdG Γ P lit fn nb (vu6 ops σ o) o σ η b (fun b rd rh e h=>wyk Γ P lit fn (nxtB nb h) ops b r (acc++[⟨rd,rh,e,h⟩]) (appL e σ) (appL h η) K)
theorem wyk.runD {lit fn:Bool} {ops:Array Oper}:∀(l:List Oper) (nb:Nat) (b:Bool) (acc:List HR) (σ:List SV) (η:List SB) (K:Bool->List SV->List SB->Prop),wyk Γ P lit fn nb ops.toList b l acc σ η K->zqv Γ P ops ops.toList l acc σ η (fun σ η=>∃ b,K b σ η)
 | [],_,b,_,_,_,_,h=>⟨h.1,true,h.2⟩
 | o::r,nb,b,acc,σ,η,K,h=>by
  unfold wyk at h;obtain ⟨b',rd,rh,e,hf,h1,h2⟩:=x6t h;exact ⟨_,_,_,_,h1,wyk.runD r _ b' _ _ _ K h2⟩
def zwa (next:Bool->List SV->List SB->Prop) (Q:Exit->Bool->List SV->List SB->Prop):Exit->Bool->List SV->List SB->Prop
 | .normal=>next
 | .exit id=>Q (.exit id)
 | .goto l=>Q (.goto l)
 | .ret=>Q .ret
 | .panic c=>Q (.panic c)
 | .outgrown=>Q .outgrown
def yah (id:Nat) (Q:Exit->Bool->List SV->List SB->Prop):Exit->Bool->List SV->List SB->Prop
 | .normal=>Q .normal
 | .exit j=>if j=id then Q .normal else Q (.exit j)
 | .goto l=>Q (.goto l)
 | .ret=>Q .ret
 | .panic c=>Q (.panic c)
 | .outgrown=>Q .outgrown
def outH (Q:Exit->Bool->List SV->List SB->Prop):Exit->List SV->List SB->Prop:=fun e σ η=>∃ b,Q e b σ η
def zpl (Γ:List (Nat×List Cell)) (P:Program) (e:List SB) (_G:List (Nat×List GhH)) (c:Code) (Q:Exit->Bool->List SV->List SB->Prop) (σ:List SV) (η:List SB):Prop:=zgh Γ P e (.loop c) (outH Q) σ η
def wuq (Γ:List (Nat×List Cell)) (P:Program) (e:List SB) (_G:List (Nat×List GhH)) (x y:Code) (Q:Exit->Bool->List SV->List SB->Prop) (σ:List SV) (η:List SB):Prop:=zgh Γ P e (.seq x y) (outH Q) σ η
def yj8 (P:Program) (k:Bool->Prop):Prop:=P.follows .mixedOrders=true/\k true
def y1o (c:Operand) (σ:List SV) (X Y:Bool->Prop):SV->Prop
 | .one (.dat (.raw (.bool p)))=>zht p X Y
 | _=>ya0 c σ
def wos (n:Nat) (k:Bool->List SV->List SB->Prop) (b:Bool) (σ:List SV) (η:List SB):Prop:=k b σ (zur n η)
def RH (Γ:List (Nat×List Cell)) (P:Program) (e:List SB) (G:List (Nat×List GhH)):Code->Bool->(Exit->Bool->List SV->List SB->Prop)->List SV->List SB->Prop
 | .skip,b,Q,σ,η=>Q .normal b σ η
 | .region id ops false,b,Q,σ,η=>ytu Γ P (!(w9a (vn6 G id))) (!(vub (vn6 G id))) ops.toList b ops.toList (anyS (vn6 G id) σ) η (Q .normal)
 | .region id ops true,b,Q,σ,η=>yj8 P (fun _=>wyk Γ P (!(w9a (vn6 G id))) (!(vub (vn6 G id))) η.length ops.toList b ops.toList [] (anyS (vn6 G id) σ) (η++vw9 (vn6 G id)) (wos η.length (Q .normal)))
 | .seq x y,b,Q,σ,η=>seqF (wn4 G y) (fun _=>wuq Γ P e G x y Q σ η) (fun _=>RH Γ P e G x b (zwa (fun b σ η=>RH Γ P e G y b Q σ η) Q) σ η)
 | .cond c x y,_,Q,σ,η=>y1o c σ (fun b=>RH Γ P e G x b Q σ η) (fun b=>RH Γ P e G y b Q σ η) (opdS Γ σ c)
 | .block id x,b,Q,σ,η=>RH Γ P e G x b (yah id Q) σ η
 | .loop x,_,Q,σ,η=>zpl Γ P e G x Q σ η
 | .exit id,b,Q,σ,η=>Q (.exit id) b σ η
 | .ret,b,Q,σ,η=>Q .ret b σ η
 | .label _,b,Q,σ,η=>Q .normal b σ η
 | .scope x,b,Q,σ,η=>RH Γ P e G x b (fun x=>match x with
  | .goto _=>fun _ _ _=>False
  | x=>Q x) σ η
 | _,_,_,_,_=>False
variable {e:List SB} {G:List (Nat×List GhH)}
theorem xll.refl:∀ l:List SV,xll l l
 | []=>.nil
 | x::l=>.cons (.refl x) (xll.refl l)
theorem StH.anyS {e:List SB} {η:List SB}:∀(g:List GhH) (σ:List SV),StH Γ e σ η (anyS g σ) η
 | [],_=>StH.refl
 | .any s::r,σ=>by
  refine StH.trans (StH.ygu (σ':=σ.set s .any) ?_) (StH.anyS r _);clear e η r
  induction σ generalizing s with
  | nil=>exact .nil
  | cons x σ ih=>
   cases s with
   | zero=>exact .cons (.any _) (xll.refl σ)
   | succ s=>exact .cons (.refl _) (ih s)
 | .join::r,σ=>StH.anyS r σ
 | .own::r,σ=>StH.anyS r σ
 | .clo::r,σ=>StH.anyS r σ
 | .room _::r,σ=>StH.anyS r σ
theorem StH.wrg {e:List SB} {σ:List SV} {η:List SB} (g:List GhH):StH Γ e σ η σ (η++vw9 g):=fun _ ρ _ _ _ h=>by
 obtain ⟨n,hn⟩:=vrq g;rw [hn];exact ⟨ρ,h.go (Went.extend h.inv n)⟩
theorem y3g {e:List SB} {σ:List SV} {h:List SB} (n:Nat):StH Γ e σ h σ (zur n h):=by
 unfold zur
 split
 . rename_i hd
   have he:h=h.take n++[.fresh]:=by rw [<-hd,List.take_append_drop]
   intro E ρ a w hE hI;rw [he] at hI;exact StH.w4k E ρ a w hE hI
 . exact StH.refl
theorem RH.sound:∀(c:Code) (b:Bool) (Q:Exit->Bool->List SV->List SB->Prop) (σ:List SV) (η:List SB),RH Γ P e G c b Q σ η->zgh Γ P e c (outH Q) σ η:=by
 intro c
 induction c with
 | skip=>intro b Q σ η h;exact yh7 ⟨b,h⟩
 | region id ops dr=>
  intro b Q σ η h
  cases dr with
  | false=>exact zgh.le (StH.anyS _ _) (z8h (ytu.run _ b _ _ _ h))
  | true=>
   have h':=wyk.runD _ _ b [] _ _ _ h.2;refine zgh.le (StH.trans (StH.anyS (vn6 G id) σ) (StH.wrg (vn6 G id))) (zgh.post (wac (Q:=fun x s t=>x=.normal/\(∃ b,wos η.length (Q .normal) b s t)) h.1 ?_) ?_)
   . have mono:∀(l:List Oper) (acc:List HR) (s:List SV) (t:List SB) (K K':List SV->List SB->Prop),(∀ s t,K s t->K' s t)->zqv Γ P ops ops.toList l acc s t K->zqv Γ P ops ops.toList l acc s t K':=by
      intro l
      induction l with
      | nil=>intro acc s t K K' hk h;exact ⟨h.1,hk _ _ h.2⟩
      | cons o r ih=>
       intro acc s t K K' hk ⟨rd,rh,ef,hf,h1,h2⟩;exact ⟨rd,rh,ef,hf,h1,ih _ _ _ _ _ hk h2⟩
     exact mono _ _ _ _ _ _ (fun s t hst=>⟨rfl,hst⟩) h'
   . rintro x s t ⟨rfl,⟨b',hb⟩⟩;exact ⟨s,zur η.length t,y3g _,b',hb⟩
 | seq x y ihx ihy=>
  intro b Q σ η h;have h:seqF (wn4 G y) (fun _=>wuq Γ P e G x y Q σ η) (fun _=>RH Γ P e G x b (zwa (fun b σ η=>RH Γ P e G y b Q σ η) Q) σ η):=h
  cases hj:wn4 G y with
  | true=>rw [hj] at h;exact h
  | false=>
  rw [hj] at h;have h:RH Γ P e G x b (zwa (fun b σ η=>RH Γ P e G y b Q σ η) Q) σ η:=h;refine zr5 ((ihx b _ σ η h).mono ?_);intro ex σ' η' ⟨b',h'⟩
  cases ex with
  | normal=>exact ihy b' Q σ' η' h'
  | _=>exact ⟨b',h'⟩
 | cond c x y ihx ihy=>
  intro b Q σ η h;have h:y1o c σ (fun b=>RH Γ P e G x b Q σ η) (fun b=>RH Γ P e G y b Q σ η) (opdS Γ σ c):=h;unfold y1o at h;split at h
  . rename_i p hp;exact z5f hp (fun hb=>ihx _ _ _ _ (h.1 hb)) (fun hb=>ihy _ _ _ _ (h.2 hb))
  . exact h.elim
 | block id x ih=>
  intro b Q σ η h;refine w3g ((ih b _ σ η h).mono ?_);intro ex σ' η' ⟨b',h'⟩
  cases ex with
  | exit j=>
   show zhx id (outH Q) (.exit j) σ' η';unfold yah at h';unfold zhx;simp only at h' ⊢;split at h'
   . rename_i hj;simp only [hj];exact ⟨b',h'⟩
   . rename_i hj;simp only [hj];exact ⟨b',h'⟩
  | _=>exact ⟨b',h'⟩
 | loop x ih=>intro b Q σ η h;exact h
 | exit id=>intro b Q σ η h;exact vxe ⟨b,h⟩
 | ret=>intro b Q σ η h;exact x8z ⟨b,h⟩
 | label l=>intro b Q σ η h;exact fun _ ρ _ _ _ hR=>wp_label ⟨_,_,ρ,⟨b,h⟩,hR⟩
 | scope x ih=>
  intro b Q σ η h E ρ a w hE hR;refine wp_scope_straight (wp_mono (ih b _ σ η h E ρ a w hE hR) ?_);rintro y b' w' ⟨s,t,ρ',⟨b2,h2⟩,hR'⟩
  cases y with
  | goto l=>exact h2.elim
  | _=>exact ⟨_,_,ρ',⟨b2,h2⟩,hR'⟩
 | _=>intro b Q σ η h;exact h.elim
end Go.Hp
