/- The proof, part Q14: Ia. -/
import Derived.Test.YtkbkjjahlafhoaaGreatDoorQ13
namespace Go.Hp
open Go Go.RowKit Go.Slot
variable {P:Program} {Γ:List (Nat×List Cell)}
variable {f:FuncId} {l J caps:List SV} {η η2 e:List SB} {KD:Bool->AV->Prop} {KH:Bool->List SB->SV->Prop} {res:SV} {K:Bool->List Nat->List (Nat×SB)->SV->Prop} {lit fn b:Bool} {o:Oper} {k:Bool->List Nat->List Nat->List (Nat×SV)->List (Nat×SB)->Prop} {ops:Array Oper} {x:Operand} {rd rh:List Nat} {nb:Nat}
inductive GhH where
 | join
 | own
 | clo
 | any (s:Nat)
 | room (n:Nat)
def yau:List (Nat×List GhH)->Nat->List GhH
 | [],_=>[]
 | (i,l)::r,j=>bif i==j then l else yau r j
def w8s:List GhH->Bool
 | []=>false
 | .join::_=>true
 | .own::r=>w8s r
 | .clo::r=>w8s r
 | .any _::r=>w8s r
 | .room _::r=>w8s r
def zes:List GhH->Bool
 | []=>false
 | .own::_=>true
 | .join::r=>zes r
 | .clo::r=>zes r
 | .any _::r=>zes r
 | .room _::r=>zes r
def yfv:List GhH->Bool
 | []=>false
 | .clo::_=>true
 | .join::r=>yfv r
 | .own::r=>yfv r
 | .any _::r=>yfv r
 | .room _::r=>yfv r
def anyS:List GhH->List SV->List SV
 | [],J=>J
 | .any s::r,J=>anyS r (J.set s .any)
 | .join::r,J=>anyS r J
 | .own::r,J=>anyS r J
 | .clo::r,J=>anyS r J
 | .room _::r,J=>anyS r J
def v94:Nat->List SB
 | 0=>[]
 | n+1=>.fresh::v94 n
def ynl:List GhH->List SB
 | []=>[.fresh]
 | .room n::_=>v94 n
 | .join::r=>ynl r
 | .own::r=>ynl r
 | .clo::r=>ynl r
 | .any _::r=>ynl r
theorem vrg:∀ n:Nat,v94 n=List.replicate n .fresh
 | 0=>rfl
 | n+1=>by rw [v94,vrg n];rfl
theorem v5q:∀ g:List GhH,∃ n,ynl g=List.replicate n .fresh
 | []=>⟨1,rfl⟩
 | .room n::_=>⟨n,vrg n⟩
 | .join::r=>v5q r
 | .own::r=>v5q r
 | .clo::r=>v5q r
 | .any _::r=>v5q r
def nxtB (nb:Nat):List (Nat×SB)->Nat
 | []=>nb
 | p::r=>bif p.1==nb then nb+1 else nxtB nb r
def v0l:List (Nat×List GhH)->Code->Bool
 | [],_=>false
 | g::G,y=>match v5l y with
  | some id=>w8s (yau (g::G) id)
  | none=>false
def BadO (_o:Op) (_σ:List SV) (_η:List SB):Prop:=False
def xn2 (_c:Operand) (_σ:List SV):Prop:=False
def wyw (Γ:List (Nat×List Cell)) (P:Program) (f:FuncId) (l:List AV) (η:List SB) (KD:Bool->AV->Prop) (KH:Bool->List SB->SV->Prop):Prop:=
 (∃ res,CallsD Γ P f l res/\KD true res)\/(∃ sl η2 res,xo6 l=some sl/\xbh Γ P f η sl η2 res/\KH true η2 res)
def vb3 (Γ:List (Nat×List Cell)) (P:Program) (f:FuncId) (η:List SB) (l:List SV) (K:Bool->List SB->SV->Prop):Prop:=∃ η2 res,xbh Γ P f η l η2 res/\K true η2 res
def xfj:SB->Bool
 | .clo _ _=>false
 | _=>true
def x5f (Γ:List (Nat×List Cell)) (P:Program) (f:FuncId) (η:List SB) (l:List SV) (rh:List Nat) (heff:List (Nat×SB)) (res:SV):Prop:=
 (rh=List.range η.length/\xbh Γ P f η l (appL heff η) res)\/(∃ n,n<=η.length/\rh=List.range n/\heff=[]/\(η.drop n).all xfj=true/\∀ ξ,xbh Γ P f (η.take n++ξ) l (η.take n++ξ) res)
def zgz (Γ:List (Nat×List Cell)) (P:Program) (f:FuncId) (η:List SB) (l:List SV) (K:Bool->List Nat->List (Nat×SB)->SV->Prop):Prop:=∃ rh heff res,x5f Γ P f η l rh heff res/\K true rh heff res
def FnKH (Γ:List (Nat×List Cell)) (P:Program) (p:(Nat->Nat->Prop)->World->Value->Prop) (args:List AV) (K:Bool->AV->Prop):Prop:=∃ F,p=v0k Γ P F/\∃ res,F args res/\K true res
def MkKH (Γ:List (Nat×List Cell)) (P:Program) (f:FuncId) (caps:List AV) (K:Bool->(List AV->AV->Prop)->Prop):Prop:=∃ F,ybv P f/\(∀ args res,F args res->CallsD Γ P f (args++caps) res)/\K true F
theorem wdy {l:List AV} {res:AV} (h:CallsD Γ P f l res) (hk:KD true res):wyw Γ P f l η KD KH:=.inl ⟨res,h,hk⟩
theorem v92 {l:List AV} {sl:List SV} (h:xbh Γ P f η sl η2 res) (hs:xo6 l=some sl) (hk:KH true η2 res):wyw Γ P f l η KD KH:=.inr ⟨sl,η2,res,hs,h,hk⟩
theorem zue {K:Bool->List SB->SV->Prop} (h:xbh Γ P f η l η2 res) (hk:K true η2 res):vb3 Γ P f η l K:=⟨η2,res,h,hk⟩
theorem vbv (heff:List (Nat×SB)) (h:xbh Γ P f η l (appL heff η) res) (hk:K true (List.range η.length) heff res):zgz Γ P f η l K:=⟨_,heff,res,.inl ⟨rfl,h⟩,hk⟩
theorem z5f (n:Nat) (h:∀ ξ,xbh Γ P f (η.take n++ξ) l (η.take n++ξ) res) (hn:Nat.ble n η.length=true) (hc:(η.drop n).all xfj=true) (hk:K true (List.range n) [] res):zgz Γ P f η l K:=⟨_,[],res,.inr ⟨n,by simpa using hn,rfl,rfl,hc,h⟩,hk⟩
theorem hfn {F:List AV->AV->Prop} {args:List AV} {K:Bool->AV->Prop} {res:AV} (h:F args res) (hk:K true res):FnKH Γ P (v0k Γ P F) args K:=⟨F,rfl,res,h,hk⟩
def resK (o:Oper) (J:List SV) (η:List SB) (b:Bool) (k:Bool->List SV->List SB->Prop):Option (SV×Option SB)->Prop
 | some (y,none)=>k b (appL (yoh o y) J) η
 | some (y,some x)=>k b (appL (yoh o y) J) (η++[x])
 | none=>BadO o.op J η
def wyu (o:Oper) (J:List SV) (η:List SB) (b:Bool) (k:Bool->List SV->List SB->Prop) (y:SV):Prop:=match o.dst with
 | some d=>k b (J.set d y) η
 | none=>BadO o.op J η
def doH (Γ:List (Nat×List Cell)) (P:Program) (x:HO) (o:Oper) (J:List SV) (η:List SB) (b:Bool) (k:Bool->List SV->List SB->Prop):Prop:=match x with
 | .eff _ _ e h none=>k b (appL e J) (appL h η)
 | .eff _ _ e h (some z)=>k b (appL e J) (appL h η++[z])
 | .callD f l _ _ bs=>wyw Γ P f l (appL (frzE η bs) η) (fun b res=>resK o J (appL (frzE η bs) η) b k (resS η.length res)) (fun b η2 res=>k b (appL (yoh o res) J) η2)
 | .callF p l _ bs=>FnKH Γ P p l (fun b res=>resK o J (appL (frzE η bs) η) b k (resS η.length res))
 | .callH f l _=>vb3 Γ P f η l (fun b η2 res=>k b (appL (yoh o res) J) η2)
 | .mk f caps _ bs=>MkKH Γ P f caps (fun b F=>k b (appL (yoh o (.one (.dat (.fnp (v0k Γ P F))))) J) (appL (frzE η bs) η))
 | .look r z ok _ _=>wyu o J η b k (wnl ok r z)
 | .bad=>BadO o.op J η
def zhh (o:Oper) (J:List SV) (η:List SB) (b:Bool) (k:Bool->List SV->List SB->Prop):Prop:=k b (appL (yoh o .undef) J) η
def gdH (Γ:List (Nat×List Cell)) (P:Program) (lit fn:Bool) (g:GR) (o:Oper) (J:List SV) (η:List SB) (b:Bool) (k:Bool->List SV->List SB->Prop):Prop:=match g with
 | .plain=>doH Γ P (opF P Γ lit fn J η η.length o) o J η b k
 | .when _ c b'=>vai c b' (fun b=>doH Γ P (opF P Γ lit fn J η η.length o) o J η b k) (fun b=>zhh o J η b k)
 | .skip _=>zhh o J η b k
 | .bad=>BadO o.op J η
theorem wth {k:Bool->List SV->List SB->Prop} (h:doH Γ P (opF P Γ lit fn J η η.length o) o J η b k):∃ b' σ2 η2,yao Γ P o J η σ2 η2/\k b' σ2 η2:=by
 cases hr:opF P Γ lit fn J η η.length o with
 | eff rd rh e hf new=>
  have hs:=x0v hr;rw [hr] at h
  cases new with
  | none=>exact ⟨_,_,_,x6g.p hs,h⟩
  | some x=>exact ⟨_,_,_,hs.2 rfl,h⟩
 | callD f l rd rh bs=>
  have hr':=zzx hr (by simp);rw [hr] at h
  rcases h with ⟨res,h1,h2⟩ | ⟨sl,η2,res,h0,h1,h2⟩
  . unfold resK at h2;split at h2
    . rename_i y hy;exact ⟨_,_,_,x6g.p (zfs hr' h1 hy),h2⟩
    . rename_i y x hy;exact ⟨_,_,_,(zfs hr' h1 hy).2 rfl,h2⟩
    . exact h2.elim
  . exact ⟨_,_,_,vtc hr' h0 h1,h2⟩
 | callF p l rd bs=>
  have hr':=zzx hr (by simp);rw [hr] at h;obtain ⟨F,rfl,res,h1,h2⟩:=h;unfold resK at h2;split at h2
  . rename_i y hy;exact ⟨_,_,_,x6g.p (woe hr' h1 hy),h2⟩
  . rename_i y x hy;exact ⟨_,_,_,(woe hr' h1 hy).2 rfl,h2⟩
  . exact h2.elim
 | callH f l rd=>
  have hr':=zzx hr (by simp);rw [hr] at h;obtain ⟨η2,res,h1,h2⟩:=h;exact ⟨_,_,_,(zv0 hr' h1).1,h2⟩
 | mk f caps rd bs=>
  have hr':=zzx hr (by simp);rw [hr] at h;obtain ⟨F,h0,h1,h2⟩:=h;exact ⟨_,_,_,(yye hr' h0 h1).p,h2⟩
 | look r z ok rd rh=>
  have hr':=zzx hr (by simp);rw [hr] at h;have h:wyu o J η b k (wnl ok r z):=h;unfold wyu at h;split at h
  . rename_i d hd
    rcases vb6 hr' with h1 | h1
    . have he:yoh o (wnl ok r z)=[(d,wnl ok r z)]:=by unfold yoh;rw [hd]
      rw [he] at h1;exact ⟨_,_,_,h1.p,h⟩
    . rw [hd] at h1;cases h1
  . exact h.elim
 | bad=>rw [hr] at h;exact h.elim
theorem ybk {k:Bool->List SV->List SB->Prop} (h:gdH Γ P lit fn (v9k ops.toList J o) o J η b k):∃ b' σ2 η2,GP Γ P ops o J η σ2 η2/\k b' σ2 η2:=by
 have hs:=waa (ops:=ops) (J:=J) (o:=o);unfold gdH at h;split at h
 . rename_i hg;obtain ⟨b',s,t,h1,h2⟩:=wth h;exact ⟨b',s,t,GP.plain (hs.1 hg) h1,h2⟩
 . rename_i d c b' hg;obtain ⟨j,h1,h2,h3⟩:=hs.2.1 d c b' hg;obtain ⟨hx,hy⟩:=h;by_cases hcb:c=b'
   . subst hcb;obtain ⟨b'',s,t,h4,h5⟩:=wth (hx rfl);exact ⟨b'',s,t,GP.taken h1 h2 h3 h4,h5⟩
   . have hn:c = !b':=by cases c<;>cases b'<;>simp_all
     exact ⟨_,_,_,GP.y9k h1 h2 (.inl (by rw [h3,hn])),hy hn⟩
 . rename_i d hg;obtain ⟨j,b',h1,h2,h3⟩:=hs.2.2 d hg;exact ⟨_,_,_,GP.y9k h1 h2 (.inr h3),h⟩
 . exact h.elim
def x0m (Γ:List (Nat×List Cell)) (P:Program) (lit fn:Bool) (ops:List Oper):Bool->List Oper->List SV->List SB->(Bool->List SV->List SB->Prop)->Prop
 | b,[],J,η,K=>K b J η
 | b,o::r,J,η,K=>gdH Γ P lit fn (v9k ops J o) o J η b (fun b J η=>x0m Γ P lit fn ops b r J η K)
theorem x0m.run {lit fn:Bool} {ops:Array Oper}:∀(l:List Oper) (b:Bool) (J:List SV) (η:List SB) (K:Bool->List SV->List SB->Prop),x0m Γ P lit fn ops.toList b l J η K->RunP Γ P ops l J η (fun J η=>∃ b,K b J η)
 | [],b,_,_,_,h=>⟨b,h⟩
 | o::r,b,J,η,K,h=>by
  unfold x0m at h;obtain ⟨b',σ2,η2,h1,h2⟩:=ybk h;exact ⟨_,_,h1,x0m.run r b' _ _ K h2⟩
def resG (o:Oper) (J:List SV) (η:List SB) (nb:Nat) (rd rh bs:List Nat) (b:Bool) (k:Bool->List Nat->List Nat->List (Nat×SV)->List (Nat×SB)->Prop):Option (SV×Option SB)->Prop
 | some (y,none)=>k b rd (rh++bs) (yoh o y) (frzE η bs)
 | some (y,some x)=>y6w η nb=true/\k b rd (nb::(rh++bs)) (yoh o y) (frzE η bs++[(nb,x)])
 | none=>BadO o.op J η
def ypi (o:Oper) (J:List SV) (η:List SB) (rd rh:List Nat) (b:Bool) (k:Bool->List Nat->List Nat->List (Nat×SV)->List (Nat×SB)->Prop) (y:SV):Prop:=match o.dst with
 | some d=>k b rd rh [(d,y)] []
 | none=>BadO o.op J η
def doG (Γ:List (Nat×List Cell)) (P:Program) (x:HO) (o:Oper) (J:List SV) (η:List SB) (nb:Nat) (b:Bool) (k:Bool->List Nat->List Nat->List (Nat×SV)->List (Nat×SB)->Prop):Prop:=match x with
 | .eff rd rh e h none=>k b rd rh e h
 | .eff rd rh e h (some z)=>y6w η nb=true/\k b rd (nb::rh) e (h++[(nb,z)])
 | .callD f l rd rh bs=>∃ res,CallsD Γ P f l res/\resG o J η nb rd rh bs true k (resS nb res)
 | .callF p l rd bs=>FnKH Γ P p l (fun b res=>resG o J η nb rd [] bs b k (resS nb res))
 | .callH f l rd=>zgz Γ P f η l (fun b rh heff res=>k b rd rh (yoh o res) heff)
 | .mk f caps rd bs=>MkKH Γ P f caps (fun b F=>k b rd bs (yoh o (.one (.dat (.fnp (v0k Γ P F))))) (frzE η bs))
 | .look r z ok rd rh=>ypi o J η rd rh b k (wnl ok r z)
 | .bad=>BadO o.op J η
def yvg (Γ:List (Nat×List Cell)) (P:Program) (f:FuncId) (l:List AV) (K:Bool->AV->Prop):Prop:=∃ res,CallsD Γ P f l res/\K true res
theorem y04 {l:List AV} {K:Bool->AV->Prop} {res:AV} (h:CallsD Γ P f l res) (hk:K true res):yvg Γ P f l K:=⟨res,h,hk⟩
def onG (d:Nat) (k:Bool->List Nat->List Nat->List (Nat×SV)->List (Nat×SB)->Prop) (b:Bool) (rd rh:List Nat) (e:List (Nat×SV)) (h:List (Nat×SB)):Prop:=k b (d::rd) rh e h
def yzy (d:Nat) (o:Oper) (b:Bool) (k:Bool->List Nat->List Nat->List (Nat×SV)->List (Nat×SB)->Prop):Prop:=k b (d::vf6 o) [] (yoh o .undef) []
def gdG (Γ:List (Nat×List Cell)) (P:Program) (lit fn:Bool) (nb:Nat) (g:GR) (o:Oper) (J:List SV) (η:List SB) (b:Bool) (k:Bool->List Nat->List Nat->List (Nat×SV)->List (Nat×SB)->Prop):Prop:=match g with
 | .plain=>doG Γ P (opF P Γ lit fn J η nb o) o J η nb b k
 | .when d c b'=>vai c b' (fun b=>doG Γ P (opF P Γ lit fn J η nb o) o J η nb b (onG d k)) (fun b=>yzy d o b k)
 | .skip d=>yzy d o b k
 | .bad=>BadO o.op J η
theorem yfw {xs:List Operand} {ts:Array TypeId} (ho:o.op=.call { callee:=.value x,args:=xs.toArray,argTypes:=ts }) {n:Nat}
 (hc:z8h Γ J η x=some (f,caps,rd,rh)) (hrh:∀ b∈rh,b<n) (hn:n<=η.length) (hnt:zt0 (vnq Γ J xs)=true) (wdy:∀ ξ,xbh Γ P f (η.take n++ξ) (vnq Γ J xs++caps) (η.take n++ξ) res) :
 x6g Γ P o J η (vf6 o++rd++orrL xs) (List.range n) (yoh o res) []:=by
 intro E ρ J' η' a w hag hah hI K Q hK
 have hge:∀ b,b<n->η'[b]? = η[b]?:=fun b hb=>hah.2 b (by simpa using hb)
 have hgb:∀ b,b<n->gB η' b=gB η b:=fun b hb=>by unfold gB;rw [hge b hb]
 have hη:η'=η.take n++η'.drop n:=by
  apply List.ext_getElem?;intro i;have hl:=hah.1;by_cases hi:i<n
  . rw [hge i hi,List.getElem?_append_left (by rw [List.length_take];omega),List.getElem?_take,if_pos hi]
  . rw [List.getElem?_append_right (by rw [List.length_take];omega),List.length_take,List.getElem?_drop]
    congr 1
    omega
 have hc':=y76 hc (fun t ht=>hag.2 t (by simp [ht])) (fun b hb=>hgb b (hrh b hb));have hargs:=wba (Γ:=Γ) hag xs (fun t ht=>by simp [ht]);have hcall':=wdy (η'.drop n);rw [<-hη] at hcall'
 have:=wtx (o:=o) (J:=J') (η:=η') ho hc' (by rw [hargs];exact hnt) (by rw [hargs];exact hcall')
 exact this E ρ a w hI K Q hK
theorem x0o (h : z8h Γ J η x = some (f, caps, rd, rh)) : ∀ b ∈ rh, xfj (gB η b) = false := by
 unfold z8h at h;split at h
 . cases h;intro b hb;cases hb
 . split at h
   . obtain ⟨f',hf,he⟩:=Option.map_eq_some_iff.1 h;cases he;intro b hb;cases hb
   . split at h
     . rename_i hg
       cases h;intro b hb;rw [List.mem_singleton.1 hb,hg];rfl
     . cases h
   . cases h
 . cases h
theorem xjb (h:opH P Γ lit fn J η nb o=.callH f l rd) {n:Nat} (hn:n<=η.length) (hclo:(η.drop n).all xfj=true) (hc:∀ ξ,xbh Γ P f (η.take n++ξ) l (η.take n++ξ) res):x6g Γ P o J η rd (List.range n) (yoh o res) []:=by
 obtain ⟨x,xs,ts,ho⟩:=zqt h (.inr (.inr ⟨_,_,_,rfl⟩));rw [xr8 ho] at h
 have ho':o.op=.call { callee:=.value x,args:=xs.toList.toArray,argTypes:=ts }:=by rw [ho]
 have hG : ∀ {f' : FuncId} {caps : List SV} {rd' rh' : List Nat}, z8h Γ J η x = some (f', caps, rd', rh') → wz2.callG Γ (ys6 lit fn) J η o xs.toList f' caps rd' rh' = .callH f l rd → x6g Γ P o J η rd (List.range n) (yoh o res) [] := fun {f' caps rd' rh'} hcal hg => by
  have hrh:∀ b∈rh',b<n:=fun b hb=>by
   have h1:=x0o hcal b hb
   rcases Nat.lt_or_ge b n with h2 | h2
   . exact h2
   . exfalso
     have:xfj (gB η b)=true:=by
      unfold gB;by_cases hl:b<η.length
      . rw [List.getElem?_eq_getElem hl]
        have hm:η[b]∈η.drop n:=by
         rw [List.mem_drop_iff_getElem];exact ⟨b-n,by omega,by congr 1;omega⟩
        exact List.all_eq_true.1 hclo _ hm
      . rw [List.getElem?_eq_none (by omega)];rfl
     rw [this] at h1;cases h1
  unfold wz2.callG at hg;split at hg
  . cases hg
  . split at hg
    . rename_i hnt
      cases hg;exact yfw ho' hcal hrh hn hnt hc
    . cases hg
 unfold wz2 at h;split at h
 . split at h
   . split at h
     . unfold vO at h;repeat' split at h
       all_goals cases h
     . cases h
   . exact hG rfl h
 . rename_i t;split at h
   . split at h<;>cases h
   . split at h
     . rename_i f' caps rd' rh' hcal;exact hG hcal h
     . cases h
 . cases h
theorem vfm (h:doG Γ P (opF P Γ lit fn J η nb o) o J η nb b k):∃ b' rd rh e hf,x6g Γ P o J η rd rh e hf/\k b' rd rh e hf:=by
 cases hr:opF P Γ lit fn J η nb o with
 | eff rd rh e hf new=>
  have hs:=x0v hr;rw [hr] at h
  cases new with
  | none=>exact ⟨_,_,_,_,_,hs,h⟩
  | some x=>exact ⟨_,_,_,_,_,hs.1 h.1,h.2⟩
 | callD f l rd rh bs=>
  have hr':=zzx hr (by simp);rw [hr] at h;obtain ⟨res,h1,h2⟩:=h;unfold resG at h2;split at h2
  . rename_i y hy;exact ⟨_,_,_,_,_,zfs hr' h1 hy,h2⟩
  . rename_i y x hy;exact ⟨_,_,_,_,_,(zfs hr' h1 hy).1 h2.1,h2.2⟩
  . exact h2.elim
 | callF p l rd bs=>
  have hr':=zzx hr (by simp);rw [hr] at h;obtain ⟨F,rfl,res,h1,h2⟩:=h;unfold resG at h2;split at h2
  . rename_i y hy;exact ⟨_,_,_,_,_,woe hr' h1 hy,h2⟩
  . rename_i y x hy;exact ⟨_,_,_,_,_,(woe hr' h1 hy).1 h2.1,h2.2⟩
  . exact h2.elim
 | callH f l rd=>
  have hr':=zzx hr (by simp);rw [hr] at h;obtain ⟨rh,heff,res,h1,h2⟩:=h
  rcases h1 with ⟨rfl,h1⟩ | ⟨n,hn,rfl,rfl,hc,h1⟩
  . exact ⟨_,_,_,_,_,(zv0 hr' h1).2 _ rfl,h2⟩
  . exact ⟨_,_,_,_,_,xjb hr' hn hc h1,h2⟩
 | mk f caps rd bs=>
  have hr':=zzx hr (by simp);rw [hr] at h;obtain ⟨F,h0,h1,h2⟩:=h;exact ⟨_,_,_,_,_,yye hr' h0 h1,h2⟩
 | look r z ok rd rh=>
  have hr':=zzx hr (by simp);rw [hr] at h;have h:ypi o J η rd rh b k (wnl ok r z):=h;unfold ypi at h;split at h
  . rename_i d hd
    rcases vb6 hr' with h1 | h1
    . have he:yoh o (wnl ok r z)=[(d,wnl ok r z)]:=by unfold yoh;rw [hd]
      rw [he] at h1;exact ⟨_,_,_,_,_,h1,h⟩
    . rw [hd] at h1;cases h1
  . exact h.elim
 | bad=>rw [hr] at h;exact h.elim
theorem vkv (h:gdG Γ P lit fn nb (v9k ops.toList J o) o J η b k):∃ b' rd rh e hf,GH Γ P ops o J η rd rh e hf/\k b' rd rh e hf:=by
 have hs:=waa (ops:=ops) (J:=J) (o:=o);unfold gdG at h;split at h
 . rename_i hg;obtain ⟨b',rd,rh,e,hf,h1,h2⟩:=vfm h;exact ⟨b',_,_,_,_,GH.plain (hs.1 hg) h1,h2⟩
 . rename_i d c b' hg;obtain ⟨j,h1,h2,h3⟩:=hs.2.1 d c b' hg;obtain ⟨hx,hy⟩:=h;by_cases hcb:c=b'
   . subst hcb;obtain ⟨b'',rd,rh,e,hf,h4,h5⟩:=vfm (hx rfl);exact ⟨b'',_,_,_,_,GH.taken h1 h2 h3 h4,h5⟩
   . have hn:c = !b':=by cases c<;>cases b'<;>simp_all
     exact ⟨_,_,_,_,_,GH.y9k h1 h2 (.inl (by rw [h3,hn])),hy hn⟩
 . rename_i d hg;obtain ⟨j,b',h1,h2,h3⟩:=hs.2.2 d hg;exact ⟨_,_,_,_,_,GH.y9k h1 h2 (.inr h3),h⟩
 . exact h.elim
def wzf (ops:List Oper) (acc:List HR) (k:Bool->Prop):Prop:=wpu ops acc=true/\k true
theorem hind {ops:List Oper} {acc:List HR} {k:Bool->Prop} (h:wpu ops acc=true) (hk:k true):wzf ops acc k:=⟨h,hk⟩
def zmp (Γ:List (Nat×List Cell)) (P:Program) (lit fn:Bool):Nat->List Oper->Bool->List Oper->List HR->List SV->List SB->(Bool->List SV->List SB->Prop)->Prop
 | _,ops,_,[],acc,J,η,K=>wzf ops acc (fun b=>K b J η)
 | nb,ops,b,o::r,acc,J,η,K=>gdG Γ P lit fn nb (v9k ops J o) o J η b (fun b rd rh e h=>zmp Γ P lit fn (nxtB nb h) ops b r (acc++[⟨rd,rh,e,h⟩]) (appL e J) (appL h η) K)
theorem zmp.runD {lit fn:Bool} {ops:Array Oper}:∀(l:List Oper) (nb:Nat) (b:Bool) (acc:List HR) (J:List SV) (η:List SB) (K:Bool->List SV->List SB->Prop),zmp Γ P lit fn nb ops.toList b l acc J η K->zd8 Γ P ops ops.toList l acc J η (fun J η=>∃ b,K b J η)
 | [],_,b,_,_,_,_,h=>⟨h.1,true,h.2⟩
 | o::r,nb,b,acc,J,η,K,h=>by
  unfold zmp at h;obtain ⟨b',rd,rh,e,hf,h1,h2⟩:=vkv h;exact ⟨_,_,_,_,h1,zmp.runD r _ b' _ _ _ K h2⟩
def vmg (next:Bool->List SV->List SB->Prop) (Q:Exit->Bool->List SV->List SB->Prop):Exit->Bool->List SV->List SB->Prop
 | .normal=>next
 | .exit id=>Q (.exit id)
 | .goto l=>Q (.goto l)
 | .ret=>Q .ret
 | .panic c=>Q (.panic c)
 | .outgrown=>Q .outgrown
def yxm (id:Nat) (Q:Exit->Bool->List SV->List SB->Prop):Exit->Bool->List SV->List SB->Prop
 | .normal=>Q .normal
 | .exit j=>if j=id then Q .normal else Q (.exit j)
 | .goto l=>Q (.goto l)
 | .ret=>Q .ret
 | .panic c=>Q (.panic c)
 | .outgrown=>Q .outgrown
def outH (Q:Exit->Bool->List SV->List SB->Prop):Exit->List SV->List SB->Prop:=fun e J η=>∃ b,Q e b J η
def yrq (Γ:List (Nat×List Cell)) (P:Program) (e:List SB) (_G:List (Nat×List GhH)) (c:Code) (Q:Exit->Bool->List SV->List SB->Prop) (J:List SV) (η:List SB):Prop:=xty Γ P e (.loop c) (outH Q) J η
def ye1 (Γ:List (Nat×List Cell)) (P:Program) (e:List SB) (_G:List (Nat×List GhH)) (x y:Code) (Q:Exit->Bool->List SV->List SB->Prop) (J:List SV) (η:List SB):Prop:=xty Γ P e (.seq x y) (outH Q) J η
def yk9 (P:Program) (k:Bool->Prop):Prop:=P.follows .mixedOrders=true/\k true
def ynm (c:Operand) (J:List SV) (X Y:Bool->Prop):SV->Prop
 | .one (.dat (.raw (.bool p)))=>vm9 p X Y
 | _=>xn2 c J
def ybm (n:Nat) (k:Bool->List SV->List SB->Prop) (b:Bool) (J:List SV) (η:List SB):Prop:=k b J (zdd n η)
def RH (Γ:List (Nat×List Cell)) (P:Program) (e:List SB) (G:List (Nat×List GhH)):Code->Bool->(Exit->Bool->List SV->List SB->Prop)->List SV->List SB->Prop
 | .skip,b,Q,J,η=>Q .normal b J η
 | .region id ops false,b,Q,J,η=>x0m Γ P (!(zes (yau G id))) (!(yfv (yau G id))) ops.toList b ops.toList (anyS (yau G id) J) η (Q .normal)
 | .region id ops true,b,Q,J,η=>yk9 P (fun _=>zmp Γ P (!(zes (yau G id))) (!(yfv (yau G id))) η.length ops.toList b ops.toList [] (anyS (yau G id) J) (η++ynl (yau G id)) (ybm η.length (Q .normal)))
 | .seq x y,b,Q,J,η=>seqF (v0l G y) (fun _=>ye1 Γ P e G x y Q J η) (fun _=>RH Γ P e G x b (vmg (fun b J η=>RH Γ P e G y b Q J η) Q) J η)
 | .cond c x y,_,Q,J,η=>ynm c J (fun b=>RH Γ P e G x b Q J η) (fun b=>RH Γ P e G y b Q J η) (opdS Γ J c)
 | .block id x,b,Q,J,η=>RH Γ P e G x b (yxm id Q) J η
 | .loop x,_,Q,J,η=>yrq Γ P e G x Q J η
 | .exit id,b,Q,J,η=>Q (.exit id) b J η
 | .ret,b,Q,J,η=>Q .ret b J η
 | .label _,b,Q,J,η=>Q .normal b J η
 | .scope x,b,Q,J,η=>RH Γ P e G x b (fun x=>match x with
  | .goto _=>fun _ _ _=>False
  | x=>Q x) J η
 | _,_,_,_,_=>False
variable {e:List SB} {G:List (Nat×List GhH)}
theorem zow.refl:∀ l:List SV,zow l l
 | []=>.nil
 | x::l=>.cons (.refl x) (zow.refl l)
theorem StH.anyS {e:List SB} {η:List SB}:∀(g:List GhH) (J:List SV),StH Γ e J η (anyS g J) η
 | [],_=>StH.refl
 | .any s::r,J=>by
  refine StH.trans (StH.xof (J':=J.set s .any) ?_) (StH.anyS r _);clear e η r
  induction J generalizing s with
  | nil=>exact .nil
  | cons x J ih=>
   cases s with
   | zero=>exact .cons (.any _) (zow.refl J)
   | succ s=>exact .cons (.refl _) (ih s)
 | .join::r,J=>StH.anyS r J
 | .own::r,J=>StH.anyS r J
 | .clo::r,J=>StH.anyS r J
 | .room _::r,J=>StH.anyS r J
theorem StH.xce (g:List GhH):StH Γ e J η J (η++ynl g):=fun _ ρ _ _ _ h=>by
 obtain ⟨n,hn⟩:=v5q g;rw [hn];exact ⟨ρ,h.go (Went.extend h.inv n)⟩
theorem wt9 {h:List SB} (n:Nat):StH Γ e J h J (zdd n h):=by
 unfold zdd
 split
 . rename_i hd
   have he:h=h.take n++[.fresh]:=by rw [<-hd,List.take_append_drop]
   intro E ρ a w hE hI;rw [he] at hI;exact StH.wh5 E ρ a w hE hI
 . exact StH.refl
theorem RH.sound:∀(c:Code) (b:Bool) (Q:Exit->Bool->List SV->List SB->Prop) (J:List SV) (η:List SB),RH Γ P e G c b Q J η->xty Γ P e c (outH Q) J η:=by
 intro c
 induction c with
 | skip=>intro b Q J η h;exact wx4 ⟨b,h⟩
 | region id ops dr=>
  intro b Q J η h
  cases dr with
  | false=>exact xty.le (StH.anyS _ _) (zfk (x0m.run _ b _ _ _ h))
  | true=>
   have h':=zmp.runD _ _ b [] _ _ _ h.2;refine xty.le (StH.trans (StH.anyS (yau G id) J) (StH.xce (yau G id))) (xty.post (yhn (Q:=fun x s t=>x=.normal/\(∃ b,ybm η.length (Q .normal) b s t)) h.1 ?_) ?_)
   . have mono:∀(l:List Oper) (acc:List HR) (s:List SV) (t:List SB) (K K':List SV->List SB->Prop),(∀ s t,K s t->K' s t)->zd8 Γ P ops ops.toList l acc s t K->zd8 Γ P ops ops.toList l acc s t K':=by
      intro l
      induction l with
      | nil=>intro acc s t K K' hk h;exact ⟨h.1,hk _ _ h.2⟩
      | cons o r ih=>
       intro acc s t K K' hk ⟨rd,rh,ef,hf,h1,h2⟩;exact ⟨rd,rh,ef,hf,h1,ih _ _ _ _ _ hk h2⟩
     exact mono _ _ _ _ _ _ (fun s t hst=>⟨rfl,hst⟩) h'
   . rintro x s t ⟨rfl,⟨b',hb⟩⟩;exact ⟨s,zdd η.length t,wt9 _,b',hb⟩
 | seq x y ihx ihy=>
  intro b Q J η h;have h:seqF (v0l G y) (fun _=>ye1 Γ P e G x y Q J η) (fun _=>RH Γ P e G x b (vmg (fun b J η=>RH Γ P e G y b Q J η) Q) J η):=h
  cases hj:v0l G y with
  | true=>rw [hj] at h;exact h
  | false=>
  rw [hj] at h;have h:RH Γ P e G x b (vmg (fun b J η=>RH Γ P e G y b Q J η) Q) J η:=h;refine vtt ((ihx b _ J η h).mono ?_);intro ex J' η' ⟨b',h'⟩
  cases ex with
  | normal=>exact ihy b' Q J' η' h'
  | _=>exact ⟨b',h'⟩
 | cond c x y ihx ihy=>
  intro b Q J η h;have h:ynm c J (fun b=>RH Γ P e G x b Q J η) (fun b=>RH Γ P e G y b Q J η) (opdS Γ J c):=h;unfold ynm at h;split at h
  . rename_i p hp;exact wqw hp (fun hb=>ihx _ _ _ _ (h.1 hb)) (fun hb=>ihy _ _ _ _ (h.2 hb))
  . exact h.elim
 | block id x ih=>
  intro b Q J η h;refine v2q ((ih b _ J η h).mono ?_);intro ex J' η' ⟨b',h'⟩
  cases ex with
  | exit j=>
   show vka id (outH Q) (.exit j) J' η';unfold yxm at h';unfold vka;simp only at h' ⊢;split at h'
   . rename_i hj;simp only [hj];exact ⟨b',h'⟩
   . rename_i hj;simp only [hj];exact ⟨b',h'⟩
  | _=>exact ⟨b',h'⟩
 | loop x ih=>intro b Q J η h;exact h
 | exit id=>intro b Q J η h;exact ziz ⟨b,h⟩
 | ret=>intro b Q J η h;exact yf3 ⟨b,h⟩
 | label l=>intro b Q J η h;exact fun _ ρ _ _ _ hR=>wp_label ⟨_,_,ρ,⟨b,h⟩,hR⟩
 | scope x ih=>
  intro b Q J η h E ρ a w hE hR;refine wp_scope_straight (wp_mono (ih b _ J η h E ρ a w hE hR) ?_);rintro y b' w' ⟨s,t,ρ',⟨b2,h2⟩,hR'⟩
  cases y with
  | goto l=>exact h2.elim
  | _=>exact ⟨_,_,ρ',⟨b2,h2⟩,hR'⟩
 | _=>intro b Q J η h;exact h.elim
end Go.Hp
