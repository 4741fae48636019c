/- The proof, part Z13: Ia. -/
import Derived.Test.YtkbkjjahlafhoaaGreatDoorZ12
namespace Go.Hp
open Go Go.RowKit Go.Slot
variable {P:Program} {Γ:List (Nat×List Cell)}
inductive GhH where
 | join
 | own
 | clo
 | any (s:Nat)
 | room (n:Nat)
def wvl:List (Nat×List GhH)->Nat->List GhH
 | [],_=>[]
 | (i,l)::r,j=>bif i==j then l else wvl r j
def xny:List GhH->Bool
 | []=>false
 | .join::_=>true
 | .own::r=>xny r
 | .clo::r=>xny r
 | .any _::r=>xny r
 | .room _::r=>xny r
def xfp:List GhH->Bool
 | []=>false
 | .own::_=>true
 | .join::r=>xfp r
 | .clo::r=>xfp r
 | .any _::r=>xfp r
 | .room _::r=>xfp r
def ylu:List GhH->Bool
 | []=>false
 | .clo::_=>true
 | .join::r=>ylu r
 | .own::r=>ylu r
 | .any _::r=>ylu r
 | .room _::r=>ylu r
def anyS:List GhH->List SV->List SV
 | [],J=>J
 | .any s::r,J=>anyS r (J.set s .any)
 | .join::r,J=>anyS r J
 | .own::r,J=>anyS r J
 | .clo::r,J=>anyS r J
 | .room _::r,J=>anyS r J
def xsb:Nat->List SB
 | 0=>[]
 | n+1=>.fresh::xsb n
def x09:List GhH->List SB
 | []=>[.fresh]
 | .room n::_=>xsb n
 | .join::r=>x09 r
 | .own::r=>x09 r
 | .clo::r=>x09 r
 | .any _::r=>x09 r
theorem xr8:∀ n:Nat,xsb n=List.replicate n .fresh
 | 0=>rfl
 | n+1=>by rw [xsb,xr8 n];rfl
theorem wp0:∀ g:List GhH,∃ n,x09 g=List.replicate n .fresh
 | []=>⟨1,rfl⟩
 | .room n::_=>⟨n,xr8 n⟩
 | .join::r=>wp0 r
 | .own::r=>wp0 r
 | .clo::r=>wp0 r
 | .any _::r=>wp0 r
def nxtB (nb:Nat):List (Nat×SB)->Nat
 | []=>nb
 | p::r=>bif p.1==nb then nb+1 else nxtB nb r
def yp3:List (Nat×List GhH)->Code->Bool
 | [],_=>false
 | g::G,y=>match woj y with
  | some id=>xny (wvl (g::G) id)
  | none=>false
def BadO (_o:Op) (_σ:List SV) (_η:List SB):Prop:=False
def xb4 (_c:Operand) (_σ:List SV):Prop:=False
def vkf (Γ:List (Nat×List Cell)) (P:Program) (f:FuncId) (l:List AV) (η:List SB) (KD:Bool->AV->Prop) (KH:Bool->List SB->SV->Prop):Prop:=
 (∃ res,CallsD Γ P f l res/\KD true res)\/(∃ sl η2 res,x3n l=some sl/\z00 Γ P f η sl η2 res/\KH true η2 res)
def w4x (Γ:List (Nat×List Cell)) (P:Program) (f:FuncId) (η:List SB) (l:List SV) (K:Bool->List SB->SV->Prop):Prop:=∃ η2 res,z00 Γ P f η l η2 res/\K true η2 res
def w0d:SB->Bool
 | .clo _ _=>false
 | _=>true
def xvl (Γ:List (Nat×List Cell)) (P:Program) (f:FuncId) (η:List SB) (l:List SV) (rh:List Nat) (heff:List (Nat×SB)) (res:SV):Prop:=
 (rh=List.range η.length/\z00 Γ P f η l (appL heff η) res)\/(∃ n,n<=η.length/\rh=List.range n/\heff=[]/\(η.drop n).all w0d=true/\∀ ξ,z00 Γ P f (η.take n++ξ) l (η.take n++ξ) res)
def wj1 (Γ:List (Nat×List Cell)) (P:Program) (f:FuncId) (η:List SB) (l:List SV) (K:Bool->List Nat->List (Nat×SB)->SV->Prop):Prop:=∃ rh heff res,xvl Γ P f η l rh heff res/\K true rh heff res
def FnKH (Γ:List (Nat×List Cell)) (P:Program) (p:(Nat->Nat->Prop)->World->Value->Prop) (args:List AV) (K:Bool->AV->Prop):Prop:=∃ F,p=ztd Γ P F/\∃ res,F args res/\K true res
def MkKH (Γ:List (Nat×List Cell)) (P:Program) (f:FuncId) (caps:List AV) (K:Bool->(List AV->AV->Prop)->Prop):Prop:=∃ F,zz7 P f/\(∀ args res,F args res->CallsD Γ P f (args++caps) res)/\K true F
theorem w5a {f:FuncId} {l:List AV} {η:List SB} {KD:Bool->AV->Prop} {KH:Bool->List SB->SV->Prop} {res:AV} (h:CallsD Γ P f l res) (hk:KD true res):vkf Γ P f l η KD KH:=.inl ⟨res,h,hk⟩
theorem y3m {f:FuncId} {l:List AV} {η:List SB} {KD:Bool->AV->Prop} {KH:Bool->List SB->SV->Prop} {sl:List SV} {η2:List SB} {res:SV} (h:z00 Γ P f η sl η2 res) (hs:x3n l=some sl) (hk:KH true η2 res):vkf Γ P f l η KD KH:=.inr ⟨sl,η2,res,hs,h,hk⟩
theorem xmm {f:FuncId} {η:List SB} {l:List SV} {K:Bool->List SB->SV->Prop} {η2:List SB} {res:SV} (h:z00 Γ P f η l η2 res) (hk:K true η2 res):w4x Γ P f η l K:=⟨η2,res,h,hk⟩
theorem vsg {f:FuncId} {η:List SB} {l:List SV} {K:Bool->List Nat->List (Nat×SB)->SV->Prop} (heff:List (Nat×SB)) {res:SV} (h:z00 Γ P f η l (appL heff η) res) (hk:K true (List.range η.length) heff res):wj1 Γ P f η l K:=⟨_,heff,res,.inl ⟨rfl,h⟩,hk⟩
theorem wq5 (n:Nat) {f:FuncId} {η:List SB} {l:List SV} {K:Bool->List Nat->List (Nat×SB)->SV->Prop} {res:SV} (h:∀ ξ,z00 Γ P f (η.take n++ξ) l (η.take n++ξ) res) (hn:Nat.ble n η.length=true) (hc:(η.drop n).all w0d=true) (hk:K true (List.range n) [] res):wj1 Γ P f η l K:=⟨_,[],res,.inr ⟨n,by simpa using hn,rfl,rfl,hc,h⟩,hk⟩
theorem hfn {F:List AV->AV->Prop} {args:List AV} {K:Bool->AV->Prop} {res:AV} (h:F args res) (hk:K true res):FnKH Γ P (ztd Γ P F) args K:=⟨F,rfl,res,h,hk⟩
def resK (o:Oper) (J:List SV) (η:List SB) (b:Bool) (k:Bool->List SV->List SB->Prop):Option (SV×Option SB)->Prop
 | some (y,none)=>k b (appL (vij o y) J) η
 | some (y,some x)=>k b (appL (vij o y) J) (η++[x])
 | none=>BadO o.op J η
def v2b (o:Oper) (J:List SV) (η:List SB) (b:Bool) (k:Bool->List SV->List SB->Prop) (y:SV):Prop:=match o.dst with
 | some d=>k b (J.set d y) η
 | none=>BadO o.op J η
def doH (Γ:List (Nat×List Cell)) (P:Program) (x:HO) (o:Oper) (J:List SV) (η:List SB) (b:Bool) (k:Bool->List SV->List SB->Prop):Prop:=match x with
 | .eff _ _ e h none=>k b (appL e J) (appL h η)
 | .eff _ _ e h (some z)=>k b (appL e J) (appL h η++[z])
 | .callD f l _ _ bs=>vkf Γ P f l (appL (frzE η bs) η) (fun b res=>resK o J (appL (frzE η bs) η) b k (resS η.length res)) (fun b η2 res=>k b (appL (vij o res) J) η2)
 | .callF p l _ bs=>FnKH Γ P p l (fun b res=>resK o J (appL (frzE η bs) η) b k (resS η.length res))
 | .callH f l _=>w4x Γ P f η l (fun b η2 res=>k b (appL (vij o res) J) η2)
 | .mk f caps _ bs=>MkKH Γ P f caps (fun b F=>k b (appL (vij o (.one (.dat (.fnp (ztd Γ P F))))) J) (appL (frzE η bs) η))
 | .look r z ok _ _=>v2b o J η b k (z8c ok r z)
 | .bad=>BadO o.op J η
def x6d (o:Oper) (J:List SV) (η:List SB) (b:Bool) (k:Bool->List SV->List SB->Prop):Prop:=k b (appL (vij o .undef) J) η
def gdH (Γ:List (Nat×List Cell)) (P:Program) (lit fn:Bool) (g:GR) (o:Oper) (J:List SV) (η:List SB) (b:Bool) (k:Bool->List SV->List SB->Prop):Prop:=match g with
 | .plain=>doH Γ P (opF P Γ lit fn J η η.length o) o J η b k
 | .when _ c b'=>zu5 c b' (fun b=>doH Γ P (opF P Γ lit fn J η η.length o) o J η b k) (fun b=>x6d o J η b k)
 | .skip _=>x6d o J η b k
 | .bad=>BadO o.op J η
theorem yox {lit fn:Bool} {o:Oper} {J:List SV} {η:List SB} {b:Bool} {k:Bool->List SV->List SB->Prop} (h:doH Γ P (opF P Γ lit fn J η η.length o) o J η b k):∃ b' σ2 η2,zik Γ P o J η σ2 η2/\k b' σ2 η2:=by
 cases hr:opF P Γ lit fn J η η.length o with
 | eff rd rh e hf new=>
  have hs:=yjg hr;rw [hr] at h
  cases new with
  | none=>exact ⟨_,_,_,wpk.p hs,h⟩
  | some x=>exact ⟨_,_,_,hs.2 rfl,h⟩
 | callD f l rd rh bs=>
  have hr':=zmb hr (by simp);rw [hr] at h
  rcases h with ⟨res,h1,h2⟩ | ⟨sl,η2,res,h0,h1,h2⟩
  . unfold resK at h2;split at h2
    . rename_i y hy;exact ⟨_,_,_,wpk.p (wxl hr' h1 hy),h2⟩
    . rename_i y x hy;exact ⟨_,_,_,(wxl hr' h1 hy).2 rfl,h2⟩
    . exact h2.elim
  . exact ⟨_,_,_,x0m hr' h0 h1,h2⟩
 | callF p l rd bs=>
  have hr':=zmb hr (by simp);rw [hr] at h;obtain ⟨F,rfl,res,h1,h2⟩:=h;unfold resK at h2;split at h2
  . rename_i y hy;exact ⟨_,_,_,wpk.p (zzv hr' h1 hy),h2⟩
  . rename_i y x hy;exact ⟨_,_,_,(zzv hr' h1 hy).2 rfl,h2⟩
  . exact h2.elim
 | callH f l rd=>
  have hr':=zmb hr (by simp);rw [hr] at h;obtain ⟨η2,res,h1,h2⟩:=h;exact ⟨_,_,_,(ztp hr' h1).1,h2⟩
 | mk f caps rd bs=>
  have hr':=zmb hr (by simp);rw [hr] at h;obtain ⟨F,h0,h1,h2⟩:=h;exact ⟨_,_,_,(xz1 hr' h0 h1).p,h2⟩
 | look r z ok rd rh=>
  have hr':=zmb hr (by simp);rw [hr] at h;have h:v2b o J η b k (z8c ok r z):=h;unfold v2b at h;split at h
  . rename_i d hd
    rcases xo6 hr' with h1 | h1
    . have he:vij o (z8c ok r z)=[(d,z8c ok r z)]:=by unfold vij;rw [hd]
      rw [he] at h1;exact ⟨_,_,_,h1.p,h⟩
    . rw [hd] at h1;cases h1
  . exact h.elim
 | bad=>rw [hr] at h;exact h.elim
theorem y39 {lit fn:Bool} {ops:Array Oper} {o:Oper} {J:List SV} {η:List SB} {b:Bool} {k:Bool->List SV->List SB->Prop} (h:gdH Γ P lit fn (yot ops.toList J o) o J η b k):∃ b' σ2 η2,GP Γ P ops o J η σ2 η2/\k b' σ2 η2:=by
 have hs:=vpn (ops:=ops) (J:=J) (o:=o);unfold gdH at h;split at h
 . rename_i hg;obtain ⟨b',s,t,h1,h2⟩:=yox h;exact ⟨b',s,t,GP.plain (hs.1 hg) h1,h2⟩
 . rename_i d c b' hg;obtain ⟨j,h1,h2,h3⟩:=hs.2.1 d c b' hg;obtain ⟨hx,hy⟩:=h;by_cases hcb:c=b'
   . subst hcb;obtain ⟨b'',s,t,h4,h5⟩:=yox (hx rfl);exact ⟨b'',s,t,GP.taken h1 h2 h3 h4,h5⟩
   . have hn:c = !b':=by cases c<;>cases b'<;>simp_all
     exact ⟨_,_,_,GP.zql h1 h2 (.inl (by rw [h3,hn])),hy hn⟩
 . rename_i d hg;obtain ⟨j,b',h1,h2,h3⟩:=hs.2.2 d hg;exact ⟨_,_,_,GP.zql h1 h2 (.inr h3),h⟩
 . exact h.elim
def zqc (Γ:List (Nat×List Cell)) (P:Program) (lit fn:Bool) (ops:List Oper):Bool->List Oper->List SV->List SB->(Bool->List SV->List SB->Prop)->Prop
 | b,[],J,η,K=>K b J η
 | b,o::r,J,η,K=>gdH Γ P lit fn (yot ops J o) o J η b (fun b J η=>zqc Γ P lit fn ops b r J η K)
theorem zqc.run {lit fn:Bool} {ops:Array Oper}:∀(l:List Oper) (b:Bool) (J:List SV) (η:List SB) (K:Bool->List SV->List SB->Prop),zqc Γ P lit fn ops.toList b l J η K->RunP Γ P ops l J η (fun J η=>∃ b,K b J η)
 | [],b,_,_,_,h=>⟨b,h⟩
 | o::r,b,J,η,K,h=>by
  unfold zqc at h;obtain ⟨b',σ2,η2,h1,h2⟩:=y39 h;exact ⟨_,_,h1,zqc.run r b' _ _ K h2⟩
def resG (o:Oper) (J:List SV) (η:List SB) (nb:Nat) (rd rh bs:List Nat) (b:Bool) (k:Bool->List Nat->List Nat->List (Nat×SV)->List (Nat×SB)->Prop):Option (SV×Option SB)->Prop
 | some (y,none)=>k b rd (rh++bs) (vij o y) (frzE η bs)
 | some (y,some x)=>wo7 η nb=true/\k b rd (nb::(rh++bs)) (vij o y) (frzE η bs++[(nb,x)])
 | none=>BadO o.op J η
def vlc (o:Oper) (J:List SV) (η:List SB) (rd rh:List Nat) (b:Bool) (k:Bool->List Nat->List Nat->List (Nat×SV)->List (Nat×SB)->Prop) (y:SV):Prop:=match o.dst with
 | some d=>k b rd rh [(d,y)] []
 | none=>BadO o.op J η
def doG (Γ:List (Nat×List Cell)) (P:Program) (x:HO) (o:Oper) (J:List SV) (η:List SB) (nb:Nat) (b:Bool) (k:Bool->List Nat->List Nat->List (Nat×SV)->List (Nat×SB)->Prop):Prop:=match x with
 | .eff rd rh e h none=>k b rd rh e h
 | .eff rd rh e h (some z)=>wo7 η nb=true/\k b rd (nb::rh) e (h++[(nb,z)])
 | .callD f l rd rh bs=>∃ res,CallsD Γ P f l res/\resG o J η nb rd rh bs true k (resS nb res)
 | .callF p l rd bs=>FnKH Γ P p l (fun b res=>resG o J η nb rd [] bs b k (resS nb res))
 | .callH f l rd=>wj1 Γ P f η l (fun b rh heff res=>k b rd rh (vij o res) heff)
 | .mk f caps rd bs=>MkKH Γ P f caps (fun b F=>k b rd bs (vij o (.one (.dat (.fnp (ztd Γ P F))))) (frzE η bs))
 | .look r z ok rd rh=>vlc o J η rd rh b k (z8c ok r z)
 | .bad=>BadO o.op J η
def wbz (Γ:List (Nat×List Cell)) (P:Program) (f:FuncId) (l:List AV) (K:Bool->AV->Prop):Prop:=∃ res,CallsD Γ P f l res/\K true res
theorem xqd {f:FuncId} {l:List AV} {K:Bool->AV->Prop} {res:AV} (h:CallsD Γ P f l res) (hk:K true res):wbz Γ P f l K:=⟨res,h,hk⟩
def onG (d:Nat) (k:Bool->List Nat->List Nat->List (Nat×SV)->List (Nat×SB)->Prop) (b:Bool) (rd rh:List Nat) (e:List (Nat×SV)) (h:List (Nat×SB)):Prop:=k b (d::rd) rh e h
def v0x (d:Nat) (o:Oper) (b:Bool) (k:Bool->List Nat->List Nat->List (Nat×SV)->List (Nat×SB)->Prop):Prop:=k b (d::vpg o) [] (vij o .undef) []
def gdG (Γ:List (Nat×List Cell)) (P:Program) (lit fn:Bool) (nb:Nat) (g:GR) (o:Oper) (J:List SV) (η:List SB) (b:Bool) (k:Bool->List Nat->List Nat->List (Nat×SV)->List (Nat×SB)->Prop):Prop:=match g with
 | .plain=>doG Γ P (opF P Γ lit fn J η nb o) o J η nb b k
 | .when d c b'=>zu5 c b' (fun b=>doG Γ P (opF P Γ lit fn J η nb o) o J η nb b (onG d k)) (fun b=>v0x d o b k)
 | .skip d=>v0x d o b k
 | .bad=>BadO o.op J η
theorem yfc {o:Oper} {J:List SV} {η:List SB} {x:Operand} {xs:List Operand} {ts:Array TypeId} (ho:o.op=.call { callee:=.value x,args:=xs.toArray,argTypes:=ts }) {f:FuncId} {caps:List SV} {rd rh:List Nat} {n:Nat}
 (hc:xln Γ J η x=some (f,caps,rd,rh)) (hrh:∀ b∈rh,b<n) (hn:n<=η.length) (hnt:zji (ypm Γ J xs)=true) {res:SV} (w5a:∀ ξ,z00 Γ P f (η.take n++ξ) (ypm Γ J xs++caps) (η.take n++ξ) res) :
 wpk Γ P o J η (vpg o++rd++orrL xs) (List.range n) (vij o res) []:=by
 intro E ρ J' η' a w hag hah hI K Q hK
 have hge:∀ b,b<n->η'[b]? = η[b]?:=fun b hb=>hah.2 b (by simpa using hb)
 have hgb:∀ b,b<n->gB η' b=gB η b:=fun b hb=>by unfold gB;rw [hge b hb]
 have hη:η'=η.take n++η'.drop n:=by
  apply List.ext_getElem?;intro i;have hl:=hah.1;by_cases hi:i<n
  . rw [hge i hi,List.getElem?_append_left (by rw [List.length_take];omega),List.getElem?_take,if_pos hi]
  . rw [List.getElem?_append_right (by rw [List.length_take];omega),List.length_take,List.getElem?_drop]
    congr 1
    omega
 have hc':=y8b hc (fun t ht=>hag.2 t (by simp [ht])) (fun b hb=>hgb b (hrh b hb));have hargs:=wus (Γ:=Γ) hag xs (fun t ht=>by simp [ht]);have hcall':=w5a (η'.drop n);rw [<-hη] at hcall'
 have:=wez (o:=o) (J:=J') (η:=η') ho hc' (by rw [hargs];exact hnt) (by rw [hargs];exact hcall')
 exact this E ρ a w hI K Q hK
theorem ve2 {J : List SV} {η : List SB} {x : Operand} {f : FuncId} {caps : List SV} {rd rh : List Nat} (h : xln Γ J η x = some (f, caps, rd, rh)) : ∀ b ∈ rh, w0d (gB η b) = false := by
 unfold xln at h;split at h
 . cases h;intro b hb;cases hb
 . split at h
   . obtain ⟨f',hf,he⟩:=Option.map_eq_some_iff.1 h;cases he;intro b hb;cases hb
   . split at h
     . rename_i hg
       cases h;intro b hb;rw [List.mem_singleton.1 hb,hg];rfl
     . cases h
   . cases h
 . cases h
theorem wv6 {lit fn:Bool} {J:List SV} {η:List SB} {nb:Nat} {o:Oper} {f:FuncId} {l:List SV} {rd:List Nat} (h:opH P Γ lit fn J η nb o=.callH f l rd) {n:Nat} (hn:n<=η.length) (hclo:(η.drop n).all w0d=true) {res:SV} (hc:∀ ξ,z00 Γ P f (η.take n++ξ) l (η.take n++ξ) res):wpk Γ P o J η rd (List.range n) (vij o res) []:=by
 obtain ⟨x,xs,ts,ho⟩:=v77 h (.inr (.inr ⟨_,_,_,rfl⟩));rw [xpr ho] at h
 have ho':o.op=.call { callee:=.value x,args:=xs.toList.toArray,argTypes:=ts }:=by rw [ho]
 have hG : ∀ {f' : FuncId} {caps : List SV} {rd' rh' : List Nat}, xln Γ J η x = some (f', caps, rd', rh') → z2m.callG Γ (zt5 lit fn) J η o xs.toList f' caps rd' rh' = .callH f l rd → wpk Γ P o J η rd (List.range n) (vij o res) [] := fun {f' caps rd' rh'} hcal hg => by
  have hrh:∀ b∈rh',b<n:=fun b hb=>by
   have h1:=ve2 hcal b hb
   rcases Nat.lt_or_ge b n with h2 | h2
   . exact h2
   . exfalso
     have:w0d (gB η b)=true:=by
      unfold gB;by_cases hl:b<η.length
      . rw [List.getElem?_eq_getElem hl]
        have hm:η[b]∈η.drop n:=by
         rw [List.mem_drop_iff_getElem];exact ⟨b-n,by omega,by congr 1;omega⟩
        exact List.all_eq_true.1 hclo _ hm
      . rw [List.getElem?_eq_none (by omega)];rfl
     rw [this] at h1;cases h1
  unfold z2m.callG at hg;split at hg
  . cases hg
  . split at hg
    . rename_i hnt
      cases hg;exact yfc ho' hcal hrh hn hnt hc
    . cases hg
 unfold z2m at h;split at h
 . split at h
   . split at h
     . unfold vO at h;repeat' split at h
       all_goals cases h
     . cases h
   . exact hG rfl h
 . rename_i t;split at h
   . split at h<;>cases h
   . split at h
     . rename_i f' caps rd' rh' hcal;exact hG hcal h
     . cases h
 . cases h
theorem xpc {lit fn:Bool} {o:Oper} {J:List SV} {η:List SB} {nb:Nat} {b:Bool} {k:Bool->List Nat->List Nat->List (Nat×SV)->List (Nat×SB)->Prop} (h:doG Γ P (opF P Γ lit fn J η nb o) o J η nb b k):∃ b' rd rh e hf,wpk Γ P o J η rd rh e hf/\k b' rd rh e hf:=by
 cases hr:opF P Γ lit fn J η nb o with
 | eff rd rh e hf new=>
  have hs:=yjg hr;rw [hr] at h
  cases new with
  | none=>exact ⟨_,_,_,_,_,hs,h⟩
  | some x=>exact ⟨_,_,_,_,_,hs.1 h.1,h.2⟩
 | callD f l rd rh bs=>
  have hr':=zmb hr (by simp);rw [hr] at h;obtain ⟨res,h1,h2⟩:=h;unfold resG at h2;split at h2
  . rename_i y hy;exact ⟨_,_,_,_,_,wxl hr' h1 hy,h2⟩
  . rename_i y x hy;exact ⟨_,_,_,_,_,(wxl hr' h1 hy).1 h2.1,h2.2⟩
  . exact h2.elim
 | callF p l rd bs=>
  have hr':=zmb hr (by simp);rw [hr] at h;obtain ⟨F,rfl,res,h1,h2⟩:=h;unfold resG at h2;split at h2
  . rename_i y hy;exact ⟨_,_,_,_,_,zzv hr' h1 hy,h2⟩
  . rename_i y x hy;exact ⟨_,_,_,_,_,(zzv hr' h1 hy).1 h2.1,h2.2⟩
  . exact h2.elim
 | callH f l rd=>
  have hr':=zmb hr (by simp);rw [hr] at h;obtain ⟨rh,heff,res,h1,h2⟩:=h
  rcases h1 with ⟨rfl,h1⟩ | ⟨n,hn,rfl,rfl,hc,h1⟩
  . exact ⟨_,_,_,_,_,(ztp hr' h1).2 _ rfl,h2⟩
  . exact ⟨_,_,_,_,_,wv6 hr' hn hc h1,h2⟩
 | mk f caps rd bs=>
  have hr':=zmb hr (by simp);rw [hr] at h;obtain ⟨F,h0,h1,h2⟩:=h;exact ⟨_,_,_,_,_,xz1 hr' h0 h1,h2⟩
 | look r z ok rd rh=>
  have hr':=zmb hr (by simp);rw [hr] at h;have h:vlc o J η rd rh b k (z8c ok r z):=h;unfold vlc at h;split at h
  . rename_i d hd
    rcases xo6 hr' with h1 | h1
    . have he:vij o (z8c ok r z)=[(d,z8c ok r z)]:=by unfold vij;rw [hd]
      rw [he] at h1;exact ⟨_,_,_,_,_,h1,h⟩
    . rw [hd] at h1;cases h1
  . exact h.elim
 | bad=>rw [hr] at h;exact h.elim
theorem w5l {lit fn:Bool} {ops:Array Oper} {o:Oper} {J:List SV} {η:List SB} {nb:Nat} {b:Bool} {k:Bool->List Nat->List Nat->List (Nat×SV)->List (Nat×SB)->Prop} (h:gdG Γ P lit fn nb (yot ops.toList J o) o J η b k):∃ b' rd rh e hf,GH Γ P ops o J η rd rh e hf/\k b' rd rh e hf:=by
 have hs:=vpn (ops:=ops) (J:=J) (o:=o);unfold gdG at h;split at h
 . rename_i hg;obtain ⟨b',rd,rh,e,hf,h1,h2⟩:=xpc h;exact ⟨b',_,_,_,_,GH.plain (hs.1 hg) h1,h2⟩
 . rename_i d c b' hg;obtain ⟨j,h1,h2,h3⟩:=hs.2.1 d c b' hg;obtain ⟨hx,hy⟩:=h;by_cases hcb:c=b'
   . subst hcb;obtain ⟨b'',rd,rh,e,hf,h4,h5⟩:=xpc (hx rfl);exact ⟨b'',_,_,_,_,GH.taken h1 h2 h3 h4,h5⟩
   . have hn:c = !b':=by cases c<;>cases b'<;>simp_all
     exact ⟨_,_,_,_,_,GH.zql h1 h2 (.inl (by rw [h3,hn])),hy hn⟩
 . rename_i d hg;obtain ⟨j,b',h1,h2,h3⟩:=hs.2.2 d hg;exact ⟨_,_,_,_,_,GH.zql h1 h2 (.inr h3),h⟩
 . exact h.elim
def z2u (ops:List Oper) (acc:List HR) (k:Bool->Prop):Prop:=yzo ops acc=true/\k true
theorem hind {ops:List Oper} {acc:List HR} {k:Bool->Prop} (h:yzo ops acc=true) (hk:k true):z2u ops acc k:=⟨h,hk⟩
def ykn (Γ:List (Nat×List Cell)) (P:Program) (lit fn:Bool):Nat->List Oper->Bool->List Oper->List HR->List SV->List SB->(Bool->List SV->List SB->Prop)->Prop
 | _,ops,_,[],acc,J,η,K=>z2u ops acc (fun b=>K b J η)
 | nb,ops,b,o::r,acc,J,η,K=>gdG Γ P lit fn nb (yot ops J o) o J η b (fun b rd rh e h=>ykn Γ P lit fn (nxtB nb h) ops b r (acc++[⟨rd,rh,e,h⟩]) (appL e J) (appL h η) K)
theorem ykn.runD {lit fn:Bool} {ops:Array Oper}:∀(l:List Oper) (nb:Nat) (b:Bool) (acc:List HR) (J:List SV) (η:List SB) (K:Bool->List SV->List SB->Prop),ykn Γ P lit fn nb ops.toList b l acc J η K->y4p Γ P ops ops.toList l acc J η (fun J η=>∃ b,K b J η)
 | [],_,b,_,_,_,_,h=>⟨h.1,true,h.2⟩
 | o::r,nb,b,acc,J,η,K,h=>by
  unfold ykn at h;obtain ⟨b',rd,rh,e,hf,h1,h2⟩:=w5l h;exact ⟨_,_,_,_,h1,ykn.runD r _ b' _ _ _ K h2⟩
def wdi (next:Bool->List SV->List SB->Prop) (Q:Exit->Bool->List SV->List SB->Prop):Exit->Bool->List SV->List SB->Prop
 | .normal=>next
 | .exit id=>Q (.exit id)
 | .goto l=>Q (.goto l)
 | .ret=>Q .ret
 | .panic c=>Q (.panic c)
 | .outgrown=>Q .outgrown
def zq6 (id:Nat) (Q:Exit->Bool->List SV->List SB->Prop):Exit->Bool->List SV->List SB->Prop
 | .normal=>Q .normal
 | .exit j=>if j=id then Q .normal else Q (.exit j)
 | .goto l=>Q (.goto l)
 | .ret=>Q .ret
 | .panic c=>Q (.panic c)
 | .outgrown=>Q .outgrown
def outH (Q:Exit->Bool->List SV->List SB->Prop):Exit->List SV->List SB->Prop:=fun e J η=>∃ b,Q e b J η
def wzx (Γ:List (Nat×List Cell)) (P:Program) (e:List SB) (_G:List (Nat×List GhH)) (c:Code) (Q:Exit->Bool->List SV->List SB->Prop) (J:List SV) (η:List SB):Prop:=w6b Γ P e (.loop c) (outH Q) J η
def wwe (Γ:List (Nat×List Cell)) (P:Program) (e:List SB) (_G:List (Nat×List GhH)) (x y:Code) (Q:Exit->Bool->List SV->List SB->Prop) (J:List SV) (η:List SB):Prop:=w6b Γ P e (.seq x y) (outH Q) J η
def vuy (P:Program) (k:Bool->Prop):Prop:=P.follows .mixedOrders=true/\k true
def vu5 (c:Operand) (J:List SV) (X Y:Bool->Prop):SV->Prop
 | .one (.dat (.raw (.bool p)))=>y8d p X Y
 | _=>xb4 c J
def wv3 (n:Nat) (k:Bool->List SV->List SB->Prop) (b:Bool) (J:List SV) (η:List SB):Prop:=k b J (wrb n η)
def RH (Γ:List (Nat×List Cell)) (P:Program) (e:List SB) (G:List (Nat×List GhH)):Code->Bool->(Exit->Bool->List SV->List SB->Prop)->List SV->List SB->Prop
 | .skip,b,Q,J,η=>Q .normal b J η
 | .region id ops false,b,Q,J,η=>zqc Γ P (!(xfp (wvl G id))) (!(ylu (wvl G id))) ops.toList b ops.toList (anyS (wvl G id) J) η (Q .normal)
 | .region id ops true,b,Q,J,η=>vuy P (fun _=>ykn Γ P (!(xfp (wvl G id))) (!(ylu (wvl G id))) η.length ops.toList b ops.toList [] (anyS (wvl G id) J) (η++x09 (wvl G id)) (wv3 η.length (Q .normal)))
 | .seq x y,b,Q,J,η=>seqF (yp3 G y) (fun _=>wwe Γ P e G x y Q J η) (fun _=>RH Γ P e G x b (wdi (fun b J η=>RH Γ P e G y b Q J η) Q) J η)
 | .cond c x y,_,Q,J,η=>vu5 c J (fun b=>RH Γ P e G x b Q J η) (fun b=>RH Γ P e G y b Q J η) (opdS Γ J c)
 | .block id x,b,Q,J,η=>RH Γ P e G x b (zq6 id Q) J η
 | .loop x,_,Q,J,η=>wzx Γ P e G x Q J η
 | .exit id,b,Q,J,η=>Q (.exit id) b J η
 | .ret,b,Q,J,η=>Q .ret b J η
 | .label _,b,Q,J,η=>Q .normal b J η
 | .scope x,b,Q,J,η=>RH Γ P e G x b (fun x=>match x with
  | .goto _=>fun _ _ _=>False
  | x=>Q x) J η
 | _,_,_,_,_=>False
variable {e:List SB} {G:List (Nat×List GhH)}
theorem yfg.refl:∀ l:List SV,yfg l l
 | []=>.nil
 | x::l=>.cons (.refl x) (yfg.refl l)
theorem StH.anyS {e:List SB} {η:List SB}:∀(g:List GhH) (J:List SV),StH Γ e J η (anyS g J) η
 | [],_=>StH.refl
 | .any s::r,J=>by
  refine StH.trans (StH.yxu (J':=J.set s .any) ?_) (StH.anyS r _);clear e η r
  induction J generalizing s with
  | nil=>exact .nil
  | cons x J ih=>
   cases s with
   | zero=>exact .cons (.any _) (yfg.refl J)
   | succ s=>exact .cons (.refl _) (ih s)
 | .join::r,J=>StH.anyS r J
 | .own::r,J=>StH.anyS r J
 | .clo::r,J=>StH.anyS r J
 | .room _::r,J=>StH.anyS r J
theorem StH.z7b {e:List SB} {J:List SV} {η:List SB} (g:List GhH):StH Γ e J η J (η++x09 g):=fun _ ρ _ _ _ h=>by
 obtain ⟨n,hn⟩:=wp0 g;rw [hn];exact ⟨ρ,h.go (Went.extend h.inv n)⟩
theorem xdj {e:List SB} {J:List SV} {h:List SB} (n:Nat):StH Γ e J h J (wrb n h):=by
 unfold wrb
 split
 . rename_i hd
   have he:h=h.take n++[.fresh]:=by rw [<-hd,List.take_append_drop]
   intro E ρ a w hE hI;rw [he] at hI;exact StH.zed E ρ a w hE hI
 . exact StH.refl
theorem RH.sound:∀(c:Code) (b:Bool) (Q:Exit->Bool->List SV->List SB->Prop) (J:List SV) (η:List SB),RH Γ P e G c b Q J η->w6b Γ P e c (outH Q) J η:=by
 intro c
 induction c with
 | skip=>intro b Q J η h;exact y90 ⟨b,h⟩
 | region id ops dr=>
  intro b Q J η h
  cases dr with
  | false=>exact w6b.le (StH.anyS _ _) (z6q (zqc.run _ b _ _ _ h))
  | true=>
   have h':=ykn.runD _ _ b [] _ _ _ h.2;refine w6b.le (StH.trans (StH.anyS (wvl G id) J) (StH.z7b (wvl G id))) (w6b.post (vym (Q:=fun x s t=>x=.normal/\(∃ b,wv3 η.length (Q .normal) b s t)) h.1 ?_) ?_)
   . have mono:∀(l:List Oper) (acc:List HR) (s:List SV) (t:List SB) (K K':List SV->List SB->Prop),(∀ s t,K s t->K' s t)->y4p Γ P ops ops.toList l acc s t K->y4p Γ P ops ops.toList l acc s t K':=by
      intro l
      induction l with
      | nil=>intro acc s t K K' hk h;exact ⟨h.1,hk _ _ h.2⟩
      | cons o r ih=>
       intro acc s t K K' hk ⟨rd,rh,ef,hf,h1,h2⟩;exact ⟨rd,rh,ef,hf,h1,ih _ _ _ _ _ hk h2⟩
     exact mono _ _ _ _ _ _ (fun s t hst=>⟨rfl,hst⟩) h'
   . rintro x s t ⟨rfl,⟨b',hb⟩⟩;exact ⟨s,wrb η.length t,xdj _,b',hb⟩
 | seq x y ihx ihy=>
  intro b Q J η h;have h:seqF (yp3 G y) (fun _=>wwe Γ P e G x y Q J η) (fun _=>RH Γ P e G x b (wdi (fun b J η=>RH Γ P e G y b Q J η) Q) J η):=h
  cases hj:yp3 G y with
  | true=>rw [hj] at h;exact h
  | false=>
  rw [hj] at h;have h:RH Γ P e G x b (wdi (fun b J η=>RH Γ P e G y b Q J η) Q) J η:=h;refine y7n ((ihx b _ J η h).mono ?_);intro ex J' η' ⟨b',h'⟩
  cases ex with
  | normal=>exact ihy b' Q J' η' h'
  | _=>exact ⟨b',h'⟩
 | cond c x y ihx ihy=>
  intro b Q J η h;have h:vu5 c J (fun b=>RH Γ P e G x b Q J η) (fun b=>RH Γ P e G y b Q J η) (opdS Γ J c):=h;unfold vu5 at h;split at h
  . rename_i p hp;exact yfa hp (fun hb=>ihx _ _ _ _ (h.1 hb)) (fun hb=>ihy _ _ _ _ (h.2 hb))
  . exact h.elim
 | block id x ih=>
  intro b Q J η h;refine zmh ((ih b _ J η h).mono ?_);intro ex J' η' ⟨b',h'⟩
  cases ex with
  | exit j=>
   show xcw id (outH Q) (.exit j) J' η';unfold zq6 at h';unfold xcw;simp only at h' ⊢;split at h'
   . rename_i hj;simp only [hj];exact ⟨b',h'⟩
   . rename_i hj;simp only [hj];exact ⟨b',h'⟩
  | _=>exact ⟨b',h'⟩
 | loop x ih=>intro b Q J η h;exact h
 | exit id=>intro b Q J η h;exact vw5 ⟨b,h⟩
 | ret=>intro b Q J η h;exact wpb ⟨b,h⟩
 | label l=>intro b Q J η h;exact fun _ ρ _ _ _ hR=>wp_label ⟨_,_,ρ,⟨b,h⟩,hR⟩
 | scope x ih=>
  intro b Q J η h E ρ a w hE hR;refine wp_scope_straight (wp_mono (ih b _ J η h E ρ a w hE hR) ?_);rintro y b' w' ⟨s,t,ρ',⟨b2,h2⟩,hR'⟩
  cases y with
  | goto l=>exact h2.elim
  | _=>exact ⟨_,_,ρ',⟨b2,h2⟩,hR'⟩
 | _=>intro b Q J η h;exact h.elim
end Go.Hp
