/- The proof, part Q22: Ia. -/
import Derived.Test.YtmegdbbbllffkaaGreatQ21
namespace Go.Hp
open Go Go.RowKit Go.Slot
variable {P:Program} {Γ:List (Nat×List Cell)}
inductive GhH where
 | join
 | own
 | clo
 | any (s:Nat)
 | room (n:Nat)
def x0d:List (Nat×List GhH)->Nat->List GhH
 | [],_=>[]
 | (i,l)::r,j=>bif i==j then l else x0d r j
def y7e:List GhH->Bool
 | []=>false
 | .join::_=>true
 | .own::r=>y7e r
 | .clo::r=>y7e r
 | .any _::r=>y7e r
 | .room _::r=>y7e r
def zfw:List GhH->Bool
 | []=>false
 | .own::_=>true
 | .join::r=>zfw r
 | .clo::r=>zfw r
 | .any _::r=>zfw r
 | .room _::r=>zfw r
def zfu:List GhH->Bool
 | []=>false
 | .clo::_=>true
 | .join::r=>zfu r
 | .own::r=>zfu r
 | .any _::r=>zfu r
 | .room _::r=>zfu r
def anyS:List GhH->List SV->List SV
 | [],σ=>σ
 | .any s::r,σ=>anyS r (σ.set s .any)
 | .join::r,σ=>anyS r σ
 | .own::r,σ=>anyS r σ
 | .clo::r,σ=>anyS r σ
 | .room _::r,σ=>anyS r σ
def zbd:Nat->List SB
 | 0=>[]
 | n+1=>.fresh::zbd n
def ygh:List GhH->List SB
 | []=>[.fresh]
 | .room n::_=>zbd n
 | .join::r=>ygh r
 | .own::r=>ygh r
 | .clo::r=>ygh r
 | .any _::r=>ygh r
theorem vbx:∀ n:Nat,zbd n=List.replicate n .fresh
 | 0=>rfl
 | n+1=>by rw [zbd,vbx n];rfl
theorem z5r:∀ g:List GhH,∃ n,ygh g=List.replicate n .fresh
 | []=>⟨1,rfl⟩
 | .room n::_=>⟨n,vbx n⟩
 | .join::r=>z5r r
 | .own::r=>z5r r
 | .clo::r=>z5r r
 | .any _::r=>z5r r
def nxtB (nb:Nat):List (Nat×SB)->Nat
 | []=>nb
 | p::r=>bif p.1==nb then nb+1 else nxtB nb r
def za7:List (Nat×List GhH)->Code->Bool
 | [],_=>false
 | g::G,y=>match wu4 y with
  | some id=>y7e (x0d (g::G) id)
  | none=>false
def BadO (_o:Op) (_σ:List SV) (_η:List SB):Prop:=False
def wpa (_c:Operand) (_σ:List SV):Prop:=False
def zge (Γ:List (Nat×List Cell)) (P:Program) (f:FuncId) (l:List AV) (η:List SB) (KD:Bool->AV->Prop) (KH:Bool->List SB->SV->Prop):Prop:=
 (∃ res,CallsD Γ P f l res/\KD true res)\/(∃ sl η2 res,zsa l=some sl/\vfe Γ P f η sl η2 res/\KH true η2 res)
def x0t (Γ:List (Nat×List Cell)) (P:Program) (f:FuncId) (η:List SB) (l:List SV) (K:Bool->List SB->SV->Prop):Prop:=∃ η2 res,vfe Γ P f η l η2 res/\K true η2 res
def z5y:SB->Bool
 | .clo _ _=>false
 | _=>true
def vi0 (Γ:List (Nat×List Cell)) (P:Program) (f:FuncId) (η:List SB) (l:List SV) (rh:List Nat) (heff:List (Nat×SB)) (res:SV):Prop:=
 (rh=List.range η.length/\vfe Γ P f η l (appL heff η) res)\/(∃ n,n<=η.length/\rh=List.range n/\heff=[]/\(η.drop n).all z5y=true/\∀ ξ,vfe Γ P f (η.take n++ξ) l (η.take n++ξ) res)
def x6s (Γ:List (Nat×List Cell)) (P:Program) (f:FuncId) (η:List SB) (l:List SV) (K:Bool->List Nat->List (Nat×SB)->SV->Prop):Prop:=∃ rh heff res,vi0 Γ P f η l rh heff res/\K true rh heff res
def FnKH (Γ:List (Nat×List Cell)) (P:Program) (p:(Nat->Nat->Prop)->World->Value->Prop) (args:List AV) (K:Bool->AV->Prop):Prop:=∃ F,p=wrb Γ P F/\∃ res,F args res/\K true res
def MkKH (Γ:List (Nat×List Cell)) (P:Program) (f:FuncId) (caps:List AV) (K:Bool->(List AV->AV->Prop)->Prop):Prop:=∃ F,wuj P f/\(∀ args res,F args res->CallsD Γ P f (args++caps) res)/\K true F
theorem v6l {f:FuncId} {l:List AV} {η:List SB} {KD:Bool->AV->Prop} {KH:Bool->List SB->SV->Prop} {res:AV} (h:CallsD Γ P f l res) (hk:KD true res):zge Γ P f l η KD KH:=.inl ⟨res,h,hk⟩
theorem xc5 {f:FuncId} {l:List AV} {η:List SB} {KD:Bool->AV->Prop} {KH:Bool->List SB->SV->Prop} {sl:List SV} {η2:List SB} {res:SV} (h:vfe Γ P f η sl η2 res) (hs:zsa l=some sl) (hk:KH true η2 res):zge Γ P f l η KD KH:=.inr ⟨sl,η2,res,hs,h,hk⟩
theorem xwg {f:FuncId} {η:List SB} {l:List SV} {K:Bool->List SB->SV->Prop} {η2:List SB} {res:SV} (h:vfe Γ P f η l η2 res) (hk:K true η2 res):x0t Γ P f η l K:=⟨η2,res,h,hk⟩
theorem zo7 {f:FuncId} {η:List SB} {l:List SV} {K:Bool->List Nat->List (Nat×SB)->SV->Prop} (heff:List (Nat×SB)) {res:SV} (h:vfe Γ P f η l (appL heff η) res) (hk:K true (List.range η.length) heff res):x6s Γ P f η l K:=⟨_,heff,res,.inl ⟨rfl,h⟩,hk⟩
theorem zjb (n:Nat) {f:FuncId} {η:List SB} {l:List SV} {K:Bool->List Nat->List (Nat×SB)->SV->Prop} {res:SV} (h:∀ ξ,vfe Γ P f (η.take n++ξ) l (η.take n++ξ) res) (hn:Nat.ble n η.length=true) (hc:(η.drop n).all z5y=true) (hk:K true (List.range n) [] res):x6s Γ P f η l K:=⟨_,[],res,.inr ⟨n,by simpa using hn,rfl,rfl,hc,h⟩,hk⟩
theorem hfn {F:List AV->AV->Prop} {args:List AV} {K:Bool->AV->Prop} {res:AV} (h:F args res) (hk:K true res):FnKH Γ P (wrb Γ P F) args K:=⟨F,rfl,res,h,hk⟩
def resK (o:Oper) (σ:List SV) (η:List SB) (b:Bool) (k:Bool->List SV->List SB->Prop):Option (SV×Option SB)->Prop
 | some (y,none)=>k b (appL (ylm o y) σ) η
 | some (y,some x)=>k b (appL (ylm o y) σ) (η++[x])
 | none=>BadO o.op σ η
def v9k (o:Oper) (σ:List SV) (η:List SB) (b:Bool) (k:Bool->List SV->List SB->Prop) (y:SV):Prop:=match o.dst with
 | some d=>k b (σ.set d y) η
 | none=>BadO o.op σ η
def doH (Γ:List (Nat×List Cell)) (P:Program) (x:HO) (o:Oper) (σ:List SV) (η:List SB) (b:Bool) (k:Bool->List SV->List SB->Prop):Prop:=match x with
 | .eff _ _ e h none=>k b (appL e σ) (appL h η)
 | .eff _ _ e h (some z)=>k b (appL e σ) (appL h η++[z])
 | .callD f l _ _ bs=>zge Γ P f l (appL (frzE η bs) η) (fun b res=>resK o σ (appL (frzE η bs) η) b k (resS η.length res)) (fun b η2 res=>k b (appL (ylm o res) σ) η2)
 | .callF p l _ bs=>FnKH Γ P p l (fun b res=>resK o σ (appL (frzE η bs) η) b k (resS η.length res))
 | .callH f l _=>x0t Γ P f η l (fun b η2 res=>k b (appL (ylm o res) σ) η2)
 | .mk f caps _ bs=>MkKH Γ P f caps (fun b F=>k b (appL (ylm o (.one (.dat (.fnp (wrb Γ P F))))) σ) (appL (frzE η bs) η))
 | .look r z ok _ _=>v9k o σ η b k (woh ok r z)
 | .bad=>BadO o.op σ η
def zwu (o:Oper) (σ:List SV) (η:List SB) (b:Bool) (k:Bool->List SV->List SB->Prop):Prop:=k b (appL (ylm o .undef) σ) η
def gdH (Γ:List (Nat×List Cell)) (P:Program) (lit fn:Bool) (g:GR) (o:Oper) (σ:List SV) (η:List SB) (b:Bool) (k:Bool->List SV->List SB->Prop):Prop:=match g with
 | .plain=>doH Γ P (opF P Γ lit fn σ η η.length o) o σ η b k
 | .when _ c b'=>x4q c b' (fun b=>doH Γ P (opF P Γ lit fn σ η η.length o) o σ η b k) (fun b=>zwu o σ η b k)
 | .skip _=>zwu o σ η b k
 | .bad=>BadO o.op σ η
theorem ye7 {lit fn:Bool} {o:Oper} {σ:List SV} {η:List SB} {b:Bool} {k:Bool->List SV->List SB->Prop} (h:doH Γ P (opF P Γ lit fn σ η η.length o) o σ η b k):∃ b' σ2 η2,wfn Γ P o σ η σ2 η2/\k b' σ2 η2:=by
 cases hr:opF P Γ lit fn σ η η.length o with
 | eff rd rh e hf new=>
  have hs:=ya7 hr;rw [hr] at h
  cases new with
  | none=>exact ⟨_,_,_,yvu.p hs,h⟩
  | some x=>exact ⟨_,_,_,hs.2 rfl,h⟩
 | callD f l rd rh bs=>
  have hr':=v5r hr (by simp);rw [hr] at h
  rcases h with ⟨res,h1,h2⟩ | ⟨sl,η2,res,h0,h1,h2⟩
  . unfold resK at h2;split at h2
    . rename_i y hy;exact ⟨_,_,_,yvu.p (yr2 hr' h1 hy),h2⟩
    . rename_i y x hy;exact ⟨_,_,_,(yr2 hr' h1 hy).2 rfl,h2⟩
    . exact h2.elim
  . exact ⟨_,_,_,v4k hr' h0 h1,h2⟩
 | callF p l rd bs=>
  have hr':=v5r hr (by simp);rw [hr] at h;obtain ⟨F,rfl,res,h1,h2⟩:=h;unfold resK at h2;split at h2
  . rename_i y hy;exact ⟨_,_,_,yvu.p (xbd hr' h1 hy),h2⟩
  . rename_i y x hy;exact ⟨_,_,_,(xbd hr' h1 hy).2 rfl,h2⟩
  . exact h2.elim
 | callH f l rd=>
  have hr':=v5r hr (by simp);rw [hr] at h;obtain ⟨η2,res,h1,h2⟩:=h;exact ⟨_,_,_,(xod hr' h1).1,h2⟩
 | mk f caps rd bs=>
  have hr':=v5r hr (by simp);rw [hr] at h;obtain ⟨F,h0,h1,h2⟩:=h;exact ⟨_,_,_,(ya0 hr' h0 h1).p,h2⟩
 | look r z ok rd rh=>
  have hr':=v5r hr (by simp);rw [hr] at h;have h:v9k o σ η b k (woh ok r z):=h;unfold v9k at h;split at h
  . rename_i d hd
    rcases vio hr' with h1 | h1
    . have he:ylm o (woh ok r z)=[(d,woh ok r z)]:=by unfold ylm;rw [hd]
      rw [he] at h1;exact ⟨_,_,_,h1.p,h⟩
    . rw [hd] at h1;cases h1
  . exact h.elim
 | bad=>rw [hr] at h;exact h.elim
theorem v8v {lit fn:Bool} {ops:Array Oper} {o:Oper} {σ:List SV} {η:List SB} {b:Bool} {k:Bool->List SV->List SB->Prop} (h:gdH Γ P lit fn (znr ops.toList σ o) o σ η b k):∃ b' σ2 η2,GP Γ P ops o σ η σ2 η2/\k b' σ2 η2:=by
 have hs:=wy8 (ops:=ops) (σ:=σ) (o:=o);unfold gdH at h;split at h
 . rename_i hg;obtain ⟨b',s,t,h1,h2⟩:=ye7 h;exact ⟨b',s,t,GP.plain (hs.1 hg) h1,h2⟩
 . rename_i d c b' hg;obtain ⟨j,h1,h2,h3⟩:=hs.2.1 d c b' hg;obtain ⟨hx,hy⟩:=h;by_cases hcb:c=b'
   . subst hcb;obtain ⟨b'',s,t,h4,h5⟩:=ye7 (hx rfl);exact ⟨b'',s,t,GP.taken h1 h2 h3 h4,h5⟩
   . have hn:c = !b':=by cases c<;>cases b'<;>simp_all
     exact ⟨_,_,_,GP.wae h1 h2 (.inl (by rw [h3,hn])),hy hn⟩
 . rename_i d hg;obtain ⟨j,b',h1,h2,h3⟩:=hs.2.2 d hg;exact ⟨_,_,_,GP.wae h1 h2 (.inr h3),h⟩
 . exact h.elim
def xsf (Γ:List (Nat×List Cell)) (P:Program) (lit fn:Bool) (ops:List Oper):Bool->List Oper->List SV->List SB->(Bool->List SV->List SB->Prop)->Prop
 | b,[],σ,η,K=>K b σ η
 | b,o::r,σ,η,K=>gdH Γ P lit fn (znr ops σ o) o σ η b (fun b σ η=>xsf Γ P lit fn ops b r σ η K)
theorem xsf.run {lit fn:Bool} {ops:Array Oper}:∀(l:List Oper) (b:Bool) (σ:List SV) (η:List SB) (K:Bool->List SV->List SB->Prop),xsf Γ P lit fn ops.toList b l σ η K->RunP Γ P ops l σ η (fun σ η=>∃ b,K b σ η)
 | [],b,_,_,_,h=>⟨b,h⟩
 | o::r,b,σ,η,K,h=>by
  unfold xsf at h;obtain ⟨b',σ2,η2,h1,h2⟩:=v8v h;exact ⟨_,_,h1,xsf.run r b' _ _ K h2⟩
def resG (o:Oper) (σ:List SV) (η:List SB) (nb:Nat) (rd rh bs:List Nat) (b:Bool) (k:Bool->List Nat->List Nat->List (Nat×SV)->List (Nat×SB)->Prop):Option (SV×Option SB)->Prop
 | some (y,none)=>k b rd (rh++bs) (ylm o y) (frzE η bs)
 | some (y,some x)=>xvh η nb=true/\k b rd (nb::(rh++bs)) (ylm o y) (frzE η bs++[(nb,x)])
 | none=>BadO o.op σ η
def vzl (o:Oper) (σ:List SV) (η:List SB) (rd rh:List Nat) (b:Bool) (k:Bool->List Nat->List Nat->List (Nat×SV)->List (Nat×SB)->Prop) (y:SV):Prop:=match o.dst with
 | some d=>k b rd rh [(d,y)] []
 | none=>BadO o.op σ η
def doG (Γ:List (Nat×List Cell)) (P:Program) (x:HO) (o:Oper) (σ:List SV) (η:List SB) (nb:Nat) (b:Bool) (k:Bool->List Nat->List Nat->List (Nat×SV)->List (Nat×SB)->Prop):Prop:=match x with
 | .eff rd rh e h none=>k b rd rh e h
 | .eff rd rh e h (some z)=>xvh η nb=true/\k b rd (nb::rh) e (h++[(nb,z)])
 | .callD f l rd rh bs=>∃ res,CallsD Γ P f l res/\resG o σ η nb rd rh bs true k (resS nb res)
 | .callF p l rd bs=>FnKH Γ P p l (fun b res=>resG o σ η nb rd [] bs b k (resS nb res))
 | .callH f l rd=>x6s Γ P f η l (fun b rh heff res=>k b rd rh (ylm o res) heff)
 | .mk f caps rd bs=>MkKH Γ P f caps (fun b F=>k b rd bs (ylm o (.one (.dat (.fnp (wrb Γ P F))))) (frzE η bs))
 | .look r z ok rd rh=>vzl o σ η rd rh b k (woh ok r z)
 | .bad=>BadO o.op σ η
def w8m (Γ:List (Nat×List Cell)) (P:Program) (f:FuncId) (l:List AV) (K:Bool->AV->Prop):Prop:=∃ res,CallsD Γ P f l res/\K true res
theorem vgi {f:FuncId} {l:List AV} {K:Bool->AV->Prop} {res:AV} (h:CallsD Γ P f l res) (hk:K true res):w8m Γ P f l K:=⟨res,h,hk⟩
def onG (d:Nat) (k:Bool->List Nat->List Nat->List (Nat×SV)->List (Nat×SB)->Prop) (b:Bool) (rd rh:List Nat) (e:List (Nat×SV)) (h:List (Nat×SB)):Prop:=k b (d::rd) rh e h
def zxi (d:Nat) (o:Oper) (b:Bool) (k:Bool->List Nat->List Nat->List (Nat×SV)->List (Nat×SB)->Prop):Prop:=k b (d::v9o o) [] (ylm o .undef) []
def gdG (Γ:List (Nat×List Cell)) (P:Program) (lit fn:Bool) (nb:Nat) (g:GR) (o:Oper) (σ:List SV) (η:List SB) (b:Bool) (k:Bool->List Nat->List Nat->List (Nat×SV)->List (Nat×SB)->Prop):Prop:=match g with
 | .plain=>doG Γ P (opF P Γ lit fn σ η nb o) o σ η nb b k
 | .when d c b'=>x4q c b' (fun b=>doG Γ P (opF P Γ lit fn σ η nb o) o σ η nb b (onG d k)) (fun b=>zxi d o b k)
 | .skip d=>zxi d o b k
 | .bad=>BadO o.op σ η
theorem v9t {o:Oper} {σ:List SV} {η:List SB} {x:Operand} {xs:List Operand} {ts:Array TypeId} (ho:o.op=.call { callee:=.value x,args:=xs.toArray,argTypes:=ts }) {f:FuncId} {caps:List SV} {rd rh:List Nat} {n:Nat}
 (hc:wq8 Γ σ η x=some (f,caps,rd,rh)) (hrh:∀ b∈rh,b<n) (hn:n<=η.length) (hnt:vtv (wb2 Γ σ xs)=true) {res:SV} (v6l:∀ ξ,vfe Γ P f (η.take n++ξ) (wb2 Γ σ xs++caps) (η.take n++ξ) res) :
 yvu Γ P o σ η (v9o o++rd++orrL xs) (List.range n) (ylm o res) []:=by
 intro E ρ σ' η' a w hag hah hI K Q hK
 have hge:∀ b,b<n->η'[b]? = η[b]?:=fun b hb=>hah.2 b (by simpa using hb)
 have hgb:∀ b,b<n->gB η' b=gB η b:=fun b hb=>by unfold gB;rw [hge b hb]
 have hη:η'=η.take n++η'.drop n:=by
  apply List.ext_getElem?;intro i;have hl:=hah.1;by_cases hi:i<n
  . rw [hge i hi,List.getElem?_append_left (by rw [List.length_take];omega),List.getElem?_take,if_pos hi]
  . rw [List.getElem?_append_right (by rw [List.length_take];omega),List.length_take,List.getElem?_drop]
    congr 1
    omega
 have hc':=wro hc (fun t ht=>hag.2 t (by simp [ht])) (fun b hb=>hgb b (hrh b hb));have hargs:=xwe (Γ:=Γ) hag xs (fun t ht=>by simp [ht]);have hcall':=v6l (η'.drop n);rw [<-hη] at hcall'
 have:=wtf (o:=o) (σ:=σ') (η:=η') ho hc' (by rw [hargs];exact hnt) (by rw [hargs];exact hcall')
 exact this E ρ a w hI K Q hK
theorem y0d {σ : List SV} {η : List SB} {x : Operand} {f : FuncId} {caps : List SV} {rd rh : List Nat} (h : wq8 Γ σ η x = some (f, caps, rd, rh)) : ∀ b ∈ rh, z5y (gB η b) = false := by
 unfold wq8 at h;split at h
 . cases h;intro b hb;cases hb
 . split at h
   . obtain ⟨f',hf,he⟩:=Option.map_eq_some_iff.1 h;cases he;intro b hb;cases hb
   . split at h
     . rename_i hg
       cases h;intro b hb;rw [List.mem_singleton.1 hb,hg];rfl
     . cases h
   . cases h
 . cases h
theorem wqh {lit fn:Bool} {σ:List SV} {η:List SB} {nb:Nat} {o:Oper} {f:FuncId} {l:List SV} {rd:List Nat} (h:opH P Γ lit fn σ η nb o=.callH f l rd) {n:Nat} (hn:n<=η.length) (hclo:(η.drop n).all z5y=true) {res:SV} (hc:∀ ξ,vfe Γ P f (η.take n++ξ) l (η.take n++ξ) res):yvu Γ P o σ η rd (List.range n) (ylm o res) []:=by
 obtain ⟨x,xs,ts,ho⟩:=vz0 h (.inr (.inr ⟨_,_,_,rfl⟩));rw [x5a ho] at h
 have ho':o.op=.call { callee:=.value x,args:=xs.toList.toArray,argTypes:=ts }:=by rw [ho]
 have hG : ∀ {f' : FuncId} {caps : List SV} {rd' rh' : List Nat}, wq8 Γ σ η x = some (f', caps, rd', rh') → zbg.callG Γ σ η o xs.toList f' caps rd' rh' = .callH f l rd → yvu Γ P o σ η rd (List.range n) (ylm o res) [] := fun {f' caps rd' rh'} hcal hg => by
  have hrh:∀ b∈rh',b<n:=fun b hb=>by
   have h1:=y0d hcal b hb
   rcases Nat.lt_or_ge b n with h2 | h2
   . exact h2
   . exfalso
     have:z5y (gB η b)=true:=by
      unfold gB;by_cases hl:b<η.length
      . rw [List.getElem?_eq_getElem hl]
        have hm:η[b]∈η.drop n:=by
         rw [List.mem_drop_iff_getElem];exact ⟨b-n,by omega,by congr 1;omega⟩
        exact List.all_eq_true.1 hclo _ hm
      . rw [List.getElem?_eq_none (by omega)];rfl
     rw [this] at h1;cases h1
  unfold zbg.callG at hg;split at hg
  . cases hg
  . split at hg
    . rename_i hnt
      cases hg;exact v9t ho' hcal hrh hn hnt hc
    . cases hg
 unfold zbg at h;split at h
 . split at h
   . split at h
     . unfold vO at h;repeat' split at h
       all_goals cases h
     . cases h
   . exact hG rfl h
 . rename_i t;split at h
   . split at h<;>cases h
   . split at h
     . rename_i f' caps rd' rh' hcal;exact hG hcal h
     . cases h
 . cases h
theorem z6n {lit fn:Bool} {o:Oper} {σ:List SV} {η:List SB} {nb:Nat} {b:Bool} {k:Bool->List Nat->List Nat->List (Nat×SV)->List (Nat×SB)->Prop} (h:doG Γ P (opF P Γ lit fn σ η nb o) o σ η nb b k):∃ b' rd rh e hf,yvu Γ P o σ η rd rh e hf/\k b' rd rh e hf:=by
 cases hr:opF P Γ lit fn σ η nb o with
 | eff rd rh e hf new=>
  have hs:=ya7 hr;rw [hr] at h
  cases new with
  | none=>exact ⟨_,_,_,_,_,hs,h⟩
  | some x=>exact ⟨_,_,_,_,_,hs.1 h.1,h.2⟩
 | callD f l rd rh bs=>
  have hr':=v5r hr (by simp);rw [hr] at h;obtain ⟨res,h1,h2⟩:=h;unfold resG at h2;split at h2
  . rename_i y hy;exact ⟨_,_,_,_,_,yr2 hr' h1 hy,h2⟩
  . rename_i y x hy;exact ⟨_,_,_,_,_,(yr2 hr' h1 hy).1 h2.1,h2.2⟩
  . exact h2.elim
 | callF p l rd bs=>
  have hr':=v5r hr (by simp);rw [hr] at h;obtain ⟨F,rfl,res,h1,h2⟩:=h;unfold resG at h2;split at h2
  . rename_i y hy;exact ⟨_,_,_,_,_,xbd hr' h1 hy,h2⟩
  . rename_i y x hy;exact ⟨_,_,_,_,_,(xbd hr' h1 hy).1 h2.1,h2.2⟩
  . exact h2.elim
 | callH f l rd=>
  have hr':=v5r hr (by simp);rw [hr] at h;obtain ⟨rh,heff,res,h1,h2⟩:=h
  rcases h1 with ⟨rfl,h1⟩ | ⟨n,hn,rfl,rfl,hc,h1⟩
  . exact ⟨_,_,_,_,_,(xod hr' h1).2 _ rfl,h2⟩
  . exact ⟨_,_,_,_,_,wqh hr' hn hc h1,h2⟩
 | mk f caps rd bs=>
  have hr':=v5r hr (by simp);rw [hr] at h;obtain ⟨F,h0,h1,h2⟩:=h;exact ⟨_,_,_,_,_,ya0 hr' h0 h1,h2⟩
 | look r z ok rd rh=>
  have hr':=v5r hr (by simp);rw [hr] at h;have h:vzl o σ η rd rh b k (woh ok r z):=h;unfold vzl at h;split at h
  . rename_i d hd
    rcases vio hr' with h1 | h1
    . have he:ylm o (woh ok r z)=[(d,woh ok r z)]:=by unfold ylm;rw [hd]
      rw [he] at h1;exact ⟨_,_,_,_,_,h1,h⟩
    . rw [hd] at h1;cases h1
  . exact h.elim
 | bad=>rw [hr] at h;exact h.elim
theorem wso {lit fn:Bool} {ops:Array Oper} {o:Oper} {σ:List SV} {η:List SB} {nb:Nat} {b:Bool} {k:Bool->List Nat->List Nat->List (Nat×SV)->List (Nat×SB)->Prop} (h:gdG Γ P lit fn nb (znr ops.toList σ o) o σ η b k):∃ b' rd rh e hf,GH Γ P ops o σ η rd rh e hf/\k b' rd rh e hf:=by
 have hs:=wy8 (ops:=ops) (σ:=σ) (o:=o);unfold gdG at h;split at h
 . rename_i hg;obtain ⟨b',rd,rh,e,hf,h1,h2⟩:=z6n h;exact ⟨b',_,_,_,_,GH.plain (hs.1 hg) h1,h2⟩
 . rename_i d c b' hg;obtain ⟨j,h1,h2,h3⟩:=hs.2.1 d c b' hg;obtain ⟨hx,hy⟩:=h;by_cases hcb:c=b'
   . subst hcb;obtain ⟨b'',rd,rh,e,hf,h4,h5⟩:=z6n (hx rfl);exact ⟨b'',_,_,_,_,GH.taken h1 h2 h3 h4,h5⟩
   . have hn:c = !b':=by cases c<;>cases b'<;>simp_all
     exact ⟨_,_,_,_,_,GH.wae h1 h2 (.inl (by rw [h3,hn])),hy hn⟩
 . rename_i d hg;obtain ⟨j,b',h1,h2,h3⟩:=hs.2.2 d hg;exact ⟨_,_,_,_,_,GH.wae h1 h2 (.inr h3),h⟩
 . exact h.elim
def ybj (ops:List Oper) (acc:List HR) (k:Bool->Prop):Prop:=wfm ops acc=true/\k true
theorem hind {ops:List Oper} {acc:List HR} {k:Bool->Prop} (h:wfm ops acc=true) (hk:k true):ybj ops acc k:=⟨h,hk⟩
def xci (Γ:List (Nat×List Cell)) (P:Program) (lit fn:Bool):Nat->List Oper->Bool->List Oper->List HR->List SV->List SB->(Bool->List SV->List SB->Prop)->Prop
 | _,ops,_,[],acc,σ,η,K=>ybj ops acc (fun b=>K b σ η)
 | nb,ops,b,o::r,acc,σ,η,K=>gdG Γ P lit fn nb (znr ops σ o) o σ η b (fun b rd rh e h=>xci Γ P lit fn (nxtB nb h) ops b r (acc++[⟨rd,rh,e,h⟩]) (appL e σ) (appL h η) K)
theorem xci.runD {lit fn:Bool} {ops:Array Oper}:∀(l:List Oper) (nb:Nat) (b:Bool) (acc:List HR) (σ:List SV) (η:List SB) (K:Bool->List SV->List SB->Prop),xci Γ P lit fn nb ops.toList b l acc σ η K->xgw Γ P ops ops.toList l acc σ η (fun σ η=>∃ b,K b σ η)
 | [],_,b,_,_,_,_,h=>⟨h.1,true,h.2⟩
 | o::r,nb,b,acc,σ,η,K,h=>by
  unfold xci at h;obtain ⟨b',rd,rh,e,hf,h1,h2⟩:=wso h;exact ⟨_,_,_,_,h1,xci.runD r _ b' _ _ _ K h2⟩
def wck (next:Bool->List SV->List SB->Prop) (Q:Exit->Bool->List SV->List SB->Prop):Exit->Bool->List SV->List SB->Prop
 | .normal=>next
 | .exit id=>Q (.exit id)
 | .goto l=>Q (.goto l)
 | .ret=>Q .ret
 | .panic c=>Q (.panic c)
 | .outgrown=>Q .outgrown
def v4t (id:Nat) (Q:Exit->Bool->List SV->List SB->Prop):Exit->Bool->List SV->List SB->Prop
 | .normal=>Q .normal
 | .exit j=>if j=id then Q .normal else Q (.exit j)
 | .goto l=>Q (.goto l)
 | .ret=>Q .ret
 | .panic c=>Q (.panic c)
 | .outgrown=>Q .outgrown
def outH (Q:Exit->Bool->List SV->List SB->Prop):Exit->List SV->List SB->Prop:=fun e σ η=>∃ b,Q e b σ η
def zzk (Γ:List (Nat×List Cell)) (P:Program) (e:List SB) (_G:List (Nat×List GhH)) (c:Code) (Q:Exit->Bool->List SV->List SB->Prop) (σ:List SV) (η:List SB):Prop:=x2l Γ P e (.loop c) (outH Q) σ η
def vaf (Γ:List (Nat×List Cell)) (P:Program) (e:List SB) (_G:List (Nat×List GhH)) (x y:Code) (Q:Exit->Bool->List SV->List SB->Prop) (σ:List SV) (η:List SB):Prop:=x2l Γ P e (.seq x y) (outH Q) σ η
def vk0 (P:Program) (k:Bool->Prop):Prop:=P.follows .mixedOrders=true/\k true
def zcn (c:Operand) (σ:List SV) (X Y:Bool->Prop):SV->Prop
 | .one (.dat (.raw (.bool p)))=>x29 p X Y
 | _=>wpa c σ
def wxc (n:Nat) (k:Bool->List SV->List SB->Prop) (b:Bool) (σ:List SV) (η:List SB):Prop:=k b σ (vo4 n η)
def RH (Γ:List (Nat×List Cell)) (P:Program) (e:List SB) (G:List (Nat×List GhH)):Code->Bool->(Exit->Bool->List SV->List SB->Prop)->List SV->List SB->Prop
 | .skip,b,Q,σ,η=>Q .normal b σ η
 | .region id ops false,b,Q,σ,η=>xsf Γ P (!(zfw (x0d G id))) (!(zfu (x0d G id))) ops.toList b ops.toList (anyS (x0d G id) σ) η (Q .normal)
 | .region id ops true,b,Q,σ,η=>vk0 P (fun _=>xci Γ P (!(zfw (x0d G id))) (!(zfu (x0d G id))) η.length ops.toList b ops.toList [] (anyS (x0d G id) σ) (η++ygh (x0d G id)) (wxc η.length (Q .normal)))
 | .seq x y,b,Q,σ,η=>seqF (za7 G y) (fun _=>vaf Γ P e G x y Q σ η) (fun _=>RH Γ P e G x b (wck (fun b σ η=>RH Γ P e G y b Q σ η) Q) σ η)
 | .cond c x y,_,Q,σ,η=>zcn c σ (fun b=>RH Γ P e G x b Q σ η) (fun b=>RH Γ P e G y b Q σ η) (opdS Γ σ c)
 | .block id x,b,Q,σ,η=>RH Γ P e G x b (v4t id Q) σ η
 | .loop x,_,Q,σ,η=>zzk Γ P e G x Q σ η
 | .exit id,b,Q,σ,η=>Q (.exit id) b σ η
 | .ret,b,Q,σ,η=>Q .ret b σ η
 | .label _,b,Q,σ,η=>Q .normal b σ η
 | .scope x,b,Q,σ,η=>RH Γ P e G x b (fun x=>match x with
  | .goto _=>fun _ _ _=>False
  | x=>Q x) σ η
 | _,_,_,_,_=>False
variable {e:List SB} {G:List (Nat×List GhH)}
theorem vma.refl:∀ l:List SV,vma l l
 | []=>.nil
 | x::l=>.cons (.refl x) (vma.refl l)
theorem StH.anyS {e:List SB} {η:List SB}:∀(g:List GhH) (σ:List SV),StH Γ e σ η (anyS g σ) η
 | [],_=>StH.refl
 | .any s::r,σ=>by
  refine StH.trans (StH.wph (σ':=σ.set s .any) ?_) (StH.anyS r _);clear e η r
  induction σ generalizing s with
  | nil=>exact .nil
  | cons x σ ih=>
   cases s with
   | zero=>exact .cons (.any _) (vma.refl σ)
   | succ s=>exact .cons (.refl _) (ih s)
 | .join::r,σ=>StH.anyS r σ
 | .own::r,σ=>StH.anyS r σ
 | .clo::r,σ=>StH.anyS r σ
 | .room _::r,σ=>StH.anyS r σ
theorem StH.wvh {e:List SB} {σ:List SV} {η:List SB} (g:List GhH):StH Γ e σ η σ (η++ygh g):=fun _ ρ _ _ _ h=>by
 obtain ⟨n,hn⟩:=z5r g;rw [hn];exact ⟨ρ,h.go (Went.extend h.inv n)⟩
theorem x3s {e:List SB} {σ:List SV} {h:List SB} (n:Nat):StH Γ e σ h σ (vo4 n h):=by
 unfold vo4
 split
 . rename_i hd
   have he:h=h.take n++[.fresh]:=by rw [<-hd,List.take_append_drop]
   intro E ρ a w hE hI;rw [he] at hI;exact StH.zje E ρ a w hE hI
 . exact StH.refl
theorem RH.sound:∀(c:Code) (b:Bool) (Q:Exit->Bool->List SV->List SB->Prop) (σ:List SV) (η:List SB),RH Γ P e G c b Q σ η->x2l Γ P e c (outH Q) σ η:=by
 intro c
 induction c with
 | skip=>intro b Q σ η h;exact wi5 ⟨b,h⟩
 | region id ops dr=>
  intro b Q σ η h
  cases dr with
  | false=>exact x2l.le (StH.anyS _ _) (xj9 (xsf.run _ b _ _ _ h))
  | true=>
   have h':=xci.runD _ _ b [] _ _ _ h.2;refine x2l.le (StH.trans (StH.anyS (x0d G id) σ) (StH.wvh (x0d G id))) (x2l.post (ybc (Q:=fun x s t=>x=.normal/\(∃ b,wxc η.length (Q .normal) b s t)) h.1 ?_) ?_)
   . have mono:∀(l:List Oper) (acc:List HR) (s:List SV) (t:List SB) (K K':List SV->List SB->Prop),(∀ s t,K s t->K' s t)->xgw Γ P ops ops.toList l acc s t K->xgw Γ P ops ops.toList l acc s t K':=by
      intro l
      induction l with
      | nil=>intro acc s t K K' hk h;exact ⟨h.1,hk _ _ h.2⟩
      | cons o r ih=>
       intro acc s t K K' hk ⟨rd,rh,ef,hf,h1,h2⟩;exact ⟨rd,rh,ef,hf,h1,ih _ _ _ _ _ hk h2⟩
     exact mono _ _ _ _ _ _ (fun s t hst=>⟨rfl,hst⟩) h'
   . rintro x s t ⟨rfl,⟨b',hb⟩⟩;exact ⟨s,vo4 η.length t,x3s _,b',hb⟩
 | seq x y ihx ihy=>
  intro b Q σ η h;have h:seqF (za7 G y) (fun _=>vaf Γ P e G x y Q σ η) (fun _=>RH Γ P e G x b (wck (fun b σ η=>RH Γ P e G y b Q σ η) Q) σ η):=h
  cases hj:za7 G y with
  | true=>rw [hj] at h;exact h
  | false=>
  rw [hj] at h;have h:RH Γ P e G x b (wck (fun b σ η=>RH Γ P e G y b Q σ η) Q) σ η:=h;refine v79 ((ihx b _ σ η h).mono ?_);intro ex σ' η' ⟨b',h'⟩
  cases ex with
  | normal=>exact ihy b' Q σ' η' h'
  | _=>exact ⟨b',h'⟩
 | cond c x y ihx ihy=>
  intro b Q σ η h;have h:zcn c σ (fun b=>RH Γ P e G x b Q σ η) (fun b=>RH Γ P e G y b Q σ η) (opdS Γ σ c):=h;unfold zcn at h;split at h
  . rename_i p hp;exact x3a hp (fun hb=>ihx _ _ _ _ (h.1 hb)) (fun hb=>ihy _ _ _ _ (h.2 hb))
  . exact h.elim
 | block id x ih=>
  intro b Q σ η h;refine zok ((ih b _ σ η h).mono ?_);intro ex σ' η' ⟨b',h'⟩
  cases ex with
  | exit j=>
   show ync id (outH Q) (.exit j) σ' η';unfold v4t at h';unfold ync;simp only at h' ⊢;split at h'
   . rename_i hj;simp only [hj];exact ⟨b',h'⟩
   . rename_i hj;simp only [hj];exact ⟨b',h'⟩
  | _=>exact ⟨b',h'⟩
 | loop x ih=>intro b Q σ η h;exact h
 | exit id=>intro b Q σ η h;exact zfv ⟨b,h⟩
 | ret=>intro b Q σ η h;exact vsa ⟨b,h⟩
 | label l=>intro b Q σ η h;exact fun _ ρ _ _ _ hR=>wp_label ⟨_,_,ρ,⟨b,h⟩,hR⟩
 | scope x ih=>
  intro b Q σ η h E ρ a w hE hR;refine wp_scope_straight (wp_mono (ih b _ σ η h E ρ a w hE hR) ?_);rintro y b' w' ⟨s,t,ρ',⟨b2,h2⟩,hR'⟩
  cases y with
  | goto l=>exact h2.elim
  | _=>exact ⟨_,_,ρ',⟨b2,h2⟩,hR'⟩
 | _=>intro b Q σ η h;exact h.elim
end Go.Hp
