/- The proof, part B17: Ia. -/
import Derived.Test.YtglblfkobflpmaaGreatB16
namespace Go.Hp
open Go Go.RowKit Go.Slot
variable {P:Program} {Γ:List (Nat×List Cell)}
inductive GhH where
 | join
 | own
 | clo
 | any (s:Nat)
 | room (n:Nat)
def vu8:List (Nat×List GhH)->Nat->List GhH
 | [],_=>[]
 | (i,l)::r,j=>bif i==j then l else vu8 r j
def zpb:List GhH->Bool
 | []=>false
 | .join::_=>true
 | .own::r=>zpb r
 | .clo::r=>zpb r
 | .any _::r=>zpb r
 | .room _::r=>zpb r
def wxy:List GhH->Bool
 | []=>false
 | .own::_=>true
 | .join::r=>wxy r
 | .clo::r=>wxy r
 | .any _::r=>wxy r
 | .room _::r=>wxy r
def yej:List GhH->Bool
 | []=>false
 | .clo::_=>true
 | .join::r=>yej r
 | .own::r=>yej r
 | .any _::r=>yej r
 | .room _::r=>yej r
def anyS:List GhH->List SV->List SV
 | [],I=>I
 | .any s::r,I=>anyS r (I.set s .any)
 | .join::r,I=>anyS r I
 | .own::r,I=>anyS r I
 | .clo::r,I=>anyS r I
 | .room _::r,I=>anyS r I
def wz8:Nat->List SB
 | 0=>[]
 | n+1=>.fresh::wz8 n
def yim:List GhH->List SB
 | []=>[.fresh]
 | .room n::_=>wz8 n
 | .join::r=>yim r
 | .own::r=>yim r
 | .clo::r=>yim r
 | .any _::r=>yim r
theorem z6g:∀ n:Nat,wz8 n=List.replicate n .fresh
 | 0=>rfl
 | n+1=>by rw [wz8,z6g n];rfl
theorem wdn:∀ g:List GhH,∃ n,yim g=List.replicate n .fresh
 | []=>⟨1,rfl⟩
 | .room n::_=>⟨n,z6g n⟩
 | .join::r=>wdn r
 | .own::r=>wdn r
 | .clo::r=>wdn r
 | .any _::r=>wdn r
def nxtB (nb:Nat):List (Nat×SB)->Nat
 | []=>nb
 | p::r=>bif p.1==nb then nb+1 else nxtB nb r
def yrc:List (Nat×List GhH)->Code->Bool
 | [],_=>false
 | g::G,y=>match yeg y with
  | some id=>zpb (vu8 (g::G) id)
  | none=>false
def BadO (_o:Op) (_σ:List SV) (_η:List SB):Prop:=False
def vrr (_c:Operand) (_σ:List SV):Prop:=False
def xli (Γ:List (Nat×List Cell)) (P:Program) (f:FuncId) (l:List AV) (J:List SB) (KD:Bool->AV->Prop) (KH:Bool->List SB->SV->Prop):Prop:=
 (∃ res,CallsD Γ P f l res/\KD true res)\/(∃ sl η2 res,vug l=some sl/\xpp Γ P f J sl η2 res/\KH true η2 res)
def wb5 (Γ:List (Nat×List Cell)) (P:Program) (f:FuncId) (J:List SB) (l:List SV) (K:Bool->List SB->SV->Prop):Prop:=∃ η2 res,xpp Γ P f J l η2 res/\K true η2 res
def x5w:SB->Bool
 | .clo _ _=>false
 | _=>true
def ynh (Γ:List (Nat×List Cell)) (P:Program) (f:FuncId) (J:List SB) (l:List SV) (rh:List Nat) (heff:List (Nat×SB)) (res:SV):Prop:=
 (rh=List.range J.length/\xpp Γ P f J l (appL heff J) res)\/(∃ n,n<=J.length/\rh=List.range n/\heff=[]/\(J.drop n).all x5w=true/\∀ ξ,xpp Γ P f (J.take n++ξ) l (J.take n++ξ) res)
def v3v (Γ:List (Nat×List Cell)) (P:Program) (f:FuncId) (J:List SB) (l:List SV) (K:Bool->List Nat->List (Nat×SB)->SV->Prop):Prop:=∃ rh heff res,ynh Γ P f J l rh heff res/\K true rh heff res
def FnKH (Γ:List (Nat×List Cell)) (P:Program) (p:(Nat->Nat->Prop)->World->Value->Prop) (args:List AV) (K:Bool->AV->Prop):Prop:=∃ F,p=zw4 Γ P F/\∃ res,F args res/\K true res
def MkKH (Γ:List (Nat×List Cell)) (P:Program) (f:FuncId) (caps:List AV) (K:Bool->(List AV->AV->Prop)->Prop):Prop:=∃ F,yss P f/\(∀ args res,F args res->CallsD Γ P f (args++caps) res)/\K true F
theorem wml {f:FuncId} {l:List AV} {J:List SB} {KD:Bool->AV->Prop} {KH:Bool->List SB->SV->Prop} {res:AV} (h:CallsD Γ P f l res) (hk:KD true res):xli Γ P f l J KD KH:=.inl ⟨res,h,hk⟩
theorem zqa {f:FuncId} {l:List AV} {J:List SB} {KD:Bool->AV->Prop} {KH:Bool->List SB->SV->Prop} {sl:List SV} {η2:List SB} {res:SV} (h:xpp Γ P f J sl η2 res) (hs:vug l=some sl) (hk:KH true η2 res):xli Γ P f l J KD KH:=.inr ⟨sl,η2,res,hs,h,hk⟩
theorem x6x {f:FuncId} {J:List SB} {l:List SV} {K:Bool->List SB->SV->Prop} {η2:List SB} {res:SV} (h:xpp Γ P f J l η2 res) (hk:K true η2 res):wb5 Γ P f J l K:=⟨η2,res,h,hk⟩
theorem xhw (n:Nat) {f:FuncId} {J:List SB} {l:List SV} {K:Bool->List Nat->List (Nat×SB)->SV->Prop} {res:SV} (h:∀ ξ,xpp Γ P f (J.take n++ξ) l (J.take n++ξ) res) (hn:Nat.ble n J.length=true) (hc:(J.drop n).all x5w=true) (hk:K true (List.range n) [] res):v3v Γ P f J l K:=⟨_,[],res,.inr ⟨n,by simpa using hn,rfl,rfl,hc,h⟩,hk⟩
theorem hfn {F:List AV->AV->Prop} {args:List AV} {K:Bool->AV->Prop} {res:AV} (h:F args res) (hk:K true res):FnKH Γ P (zw4 Γ P F) args K:=⟨F,rfl,res,h,hk⟩
def resK (o:Oper) (I:List SV) (J:List SB) (b:Bool) (k:Bool->List SV->List SB->Prop):Option (SV×Option SB)->Prop
 | some (y,none)=>k b (appL (v9n o y) I) J
 | some (y,some x)=>k b (appL (v9n o y) I) (J++[x])
 | none=>BadO o.op I J
def z1v (o:Oper) (I:List SV) (J:List SB) (b:Bool) (k:Bool->List SV->List SB->Prop) (y:SV):Prop:=match o.dst with
 | some d=>k b (I.set d y) J
 | none=>BadO o.op I J
def doH (Γ:List (Nat×List Cell)) (P:Program) (x:HO) (o:Oper) (I:List SV) (J:List SB) (b:Bool) (k:Bool->List SV->List SB->Prop):Prop:=match x with
 | .eff _ _ e h none=>k b (appL e I) (appL h J)
 | .eff _ _ e h (some z)=>k b (appL e I) (appL h J++[z])
 | .callD f l _ _ bs=>xli Γ P f l (appL (frzE J bs) J) (fun b res=>resK o I (appL (frzE J bs) J) b k (resS J.length res)) (fun b η2 res=>k b (appL (v9n o res) I) η2)
 | .callF p l _ bs=>FnKH Γ P p l (fun b res=>resK o I (appL (frzE J bs) J) b k (resS J.length res))
 | .callH f l _=>wb5 Γ P f J l (fun b η2 res=>k b (appL (v9n o res) I) η2)
 | .mk f caps _ bs=>MkKH Γ P f caps (fun b F=>k b (appL (v9n o (.one (.dat (.fnp (zw4 Γ P F))))) I) (appL (frzE J bs) J))
 | .look r z ok _ _=>z1v o I J b k (vi3 ok r z)
 | .bad=>BadO o.op I J
def zr2 (o:Oper) (I:List SV) (J:List SB) (b:Bool) (k:Bool->List SV->List SB->Prop):Prop:=k b (appL (v9n o .undef) I) J
def gdH (Γ:List (Nat×List Cell)) (P:Program) (lit fn:Bool) (g:GR) (o:Oper) (I:List SV) (J:List SB) (b:Bool) (k:Bool->List SV->List SB->Prop):Prop:=match g with
 | .plain=>doH Γ P (opF P Γ lit fn I J J.length o) o I J b k
 | .when _ c b'=>vdc c b' (fun b=>doH Γ P (opF P Γ lit fn I J J.length o) o I J b k) (fun b=>zr2 o I J b k)
 | .skip _=>zr2 o I J b k
 | .bad=>BadO o.op I J
theorem w2i {lit fn:Bool} {o:Oper} {I:List SV} {J:List SB} {b:Bool} {k:Bool->List SV->List SB->Prop} (h:doH Γ P (opF P Γ lit fn I J J.length o) o I J b k):∃ b' σ2 η2,vjm Γ P o I J σ2 η2/\k b' σ2 η2:=by
 cases hr:opF P Γ lit fn I J J.length o with
 | eff rd rh e hf new=>
  have hs:=xej hr;rw [hr] at h
  cases new with
  | none=>exact ⟨_,_,_,vbd.p hs,h⟩
  | some x=>exact ⟨_,_,_,hs.2 rfl,h⟩
 | callD f l rd rh bs=>
  have hr':=vtc hr (by simp);rw [hr] at h
  rcases h with ⟨res,h1,h2⟩ | ⟨sl,η2,res,h0,h1,h2⟩
  . unfold resK at h2;split at h2
    . rename_i y hy;exact ⟨_,_,_,vbd.p (wyj hr' h1 hy),h2⟩
    . rename_i y x hy;exact ⟨_,_,_,(wyj hr' h1 hy).2 rfl,h2⟩
    . exact h2.elim
  . exact ⟨_,_,_,xga hr' h0 h1,h2⟩
 | callF p l rd bs=>
  have hr':=vtc hr (by simp);rw [hr] at h;obtain ⟨F,rfl,res,h1,h2⟩:=h;unfold resK at h2;split at h2
  . rename_i y hy;exact ⟨_,_,_,vbd.p (zjv hr' h1 hy),h2⟩
  . rename_i y x hy;exact ⟨_,_,_,(zjv hr' h1 hy).2 rfl,h2⟩
  . exact h2.elim
 | callH f l rd=>
  have hr':=vtc hr (by simp);rw [hr] at h;obtain ⟨η2,res,h1,h2⟩:=h;exact ⟨_,_,_,(y9a hr' h1).1,h2⟩
 | mk f caps rd bs=>
  have hr':=vtc hr (by simp);rw [hr] at h;obtain ⟨F,h0,h1,h2⟩:=h;exact ⟨_,_,_,(vc0 hr' h0 h1).p,h2⟩
 | look r z ok rd rh=>
  have hr':=vtc hr (by simp);rw [hr] at h;have h:z1v o I J b k (vi3 ok r z):=h;unfold z1v at h;split at h
  . rename_i d hd
    rcases vbw hr' with h1 | h1
    . have he:v9n o (vi3 ok r z)=[(d,vi3 ok r z)]:=by unfold v9n;rw [hd]
      rw [he] at h1;exact ⟨_,_,_,h1.p,h⟩
    . rw [hd] at h1;cases h1
  . exact h.elim
 | bad=>rw [hr] at h;exact h.elim
theorem xda {lit fn:Bool} {ops:Array Oper} {o:Oper} {I:List SV} {J:List SB} {b:Bool} {k:Bool->List SV->List SB->Prop} (h:gdH Γ P lit fn (xsn ops.toList I o) o I J b k):∃ b' σ2 η2,GP Γ P ops o I J σ2 η2/\k b' σ2 η2:=by
 have hs:=zla (ops:=ops) (I:=I) (o:=o);unfold gdH at h;split at h
 . rename_i hg;obtain ⟨b',s,t,h1,h2⟩:=w2i h;exact ⟨b',s,t,GP.plain (hs.1 hg) h1,h2⟩
 . rename_i d c b' hg;obtain ⟨j,h1,h2,h3⟩:=hs.2.1 d c b' hg;obtain ⟨hx,hy⟩:=h;by_cases hcb:c=b'
   . subst hcb;obtain ⟨b'',s,t,h4,h5⟩:=w2i (hx rfl);exact ⟨b'',s,t,GP.taken h1 h2 h3 h4,h5⟩
   . have hn:c = !b':=by cases c<;>cases b'<;>simp_all
     exact ⟨_,_,_,GP.vyy h1 h2 (.inl (by rw [h3,hn])),hy hn⟩
 . rename_i d hg;obtain ⟨j,b',h1,h2,h3⟩:=hs.2.2 d hg;exact ⟨_,_,_,GP.vyy h1 h2 (.inr h3),h⟩
 . exact h.elim
def y3o (Γ:List (Nat×List Cell)) (P:Program) (lit fn:Bool) (ops:List Oper):Bool->List Oper->List SV->List SB->(Bool->List SV->List SB->Prop)->Prop
 | b,[],I,J,K=>K b I J
 | b,o::r,I,J,K=>gdH Γ P lit fn (xsn ops I o) o I J b (fun b I J=>y3o Γ P lit fn ops b r I J K)
theorem y3o.run {lit fn:Bool} {ops:Array Oper}:∀(l:List Oper) (b:Bool) (I:List SV) (J:List SB) (K:Bool->List SV->List SB->Prop),y3o Γ P lit fn ops.toList b l I J K->RunP Γ P ops l I J (fun I J=>∃ b,K b I J)
 | [],b,_,_,_,h=>⟨b,h⟩
 | o::r,b,I,J,K,h=>by
  unfold y3o at h;obtain ⟨b',σ2,η2,h1,h2⟩:=xda h;exact ⟨_,_,h1,y3o.run r b' _ _ K h2⟩
def resG (o:Oper) (I:List SV) (J:List SB) (nb:Nat) (rd rh bs:List Nat) (b:Bool) (k:Bool->List Nat->List Nat->List (Nat×SV)->List (Nat×SB)->Prop):Option (SV×Option SB)->Prop
 | some (y,none)=>k b rd (rh++bs) (v9n o y) (frzE J bs)
 | some (y,some x)=>y4f J nb=true/\k b rd (nb::(rh++bs)) (v9n o y) (frzE J bs++[(nb,x)])
 | none=>BadO o.op I J
def z2l (o:Oper) (I:List SV) (J:List SB) (rd rh:List Nat) (b:Bool) (k:Bool->List Nat->List Nat->List (Nat×SV)->List (Nat×SB)->Prop) (y:SV):Prop:=match o.dst with
 | some d=>k b rd rh [(d,y)] []
 | none=>BadO o.op I J
def doG (Γ:List (Nat×List Cell)) (P:Program) (x:HO) (o:Oper) (I:List SV) (J:List SB) (nb:Nat) (b:Bool) (k:Bool->List Nat->List Nat->List (Nat×SV)->List (Nat×SB)->Prop):Prop:=match x with
 | .eff rd rh e h none=>k b rd rh e h
 | .eff rd rh e h (some z)=>y4f J nb=true/\k b rd (nb::rh) e (h++[(nb,z)])
 | .callD f l rd rh bs=>∃ res,CallsD Γ P f l res/\resG o I J nb rd rh bs true k (resS nb res)
 | .callF p l rd bs=>FnKH Γ P p l (fun b res=>resG o I J nb rd [] bs b k (resS nb res))
 | .callH f l rd=>v3v Γ P f J l (fun b rh heff res=>k b rd rh (v9n o res) heff)
 | .mk f caps rd bs=>MkKH Γ P f caps (fun b F=>k b rd bs (v9n o (.one (.dat (.fnp (zw4 Γ P F))))) (frzE J bs))
 | .look r z ok rd rh=>z2l o I J rd rh b k (vi3 ok r z)
 | .bad=>BadO o.op I J
def yub (Γ:List (Nat×List Cell)) (P:Program) (f:FuncId) (l:List AV) (K:Bool->AV->Prop):Prop:=∃ res,CallsD Γ P f l res/\K true res
theorem ysi {f:FuncId} {l:List AV} {K:Bool->AV->Prop} {res:AV} (h:CallsD Γ P f l res) (hk:K true res):yub Γ P f l K:=⟨res,h,hk⟩
def onG (d:Nat) (k:Bool->List Nat->List Nat->List (Nat×SV)->List (Nat×SB)->Prop) (b:Bool) (rd rh:List Nat) (e:List (Nat×SV)) (h:List (Nat×SB)):Prop:=k b (d::rd) rh e h
def yqv (d:Nat) (o:Oper) (b:Bool) (k:Bool->List Nat->List Nat->List (Nat×SV)->List (Nat×SB)->Prop):Prop:=k b (d::xl0 o) [] (v9n o .undef) []
def gdG (Γ:List (Nat×List Cell)) (P:Program) (lit fn:Bool) (nb:Nat) (g:GR) (o:Oper) (I:List SV) (J:List SB) (b:Bool) (k:Bool->List Nat->List Nat->List (Nat×SV)->List (Nat×SB)->Prop):Prop:=match g with
 | .plain=>doG Γ P (opF P Γ lit fn I J nb o) o I J nb b k
 | .when d c b'=>vdc c b' (fun b=>doG Γ P (opF P Γ lit fn I J nb o) o I J nb b (onG d k)) (fun b=>yqv d o b k)
 | .skip d=>yqv d o b k
 | .bad=>BadO o.op I J
theorem z3a {o:Oper} {I:List SV} {J:List SB} {x:Operand} {xs:List Operand} {ts:Array TypeId} (ho:o.op=.call { callee:=.value x,args:=xs.toArray,argTypes:=ts }) {f:FuncId} {caps:List SV} {rd rh:List Nat} {n:Nat}
 (hc:zxi Γ I J x=some (f,caps,rd,rh)) (hrh:∀ b∈rh,b<n) (hn:n<=J.length) (hnt:voj (wy5 Γ I xs)=true) {res:SV} (wml:∀ ξ,xpp Γ P f (J.take n++ξ) (wy5 Γ I xs++caps) (J.take n++ξ) res) :
 vbd Γ P o I J (xl0 o++rd++orrL xs) (List.range n) (v9n o res) []:=by
 intro E ρ I' J' a w hag hah hI K Q hK
 have hge:∀ b,b<n->J'[b]? = J[b]?:=fun b hb=>hah.2 b (by simpa using hb)
 have hgb:∀ b,b<n->gB J' b=gB J b:=fun b hb=>by unfold gB;rw [hge b hb]
 have hη:J'=J.take n++J'.drop n:=by
  apply List.ext_getElem?;intro i;have hl:=hah.1;by_cases hi:i<n
  . rw [hge i hi,List.getElem?_append_left (by rw [List.length_take];omega),List.getElem?_take,if_pos hi]
  . rw [List.getElem?_append_right (by rw [List.length_take];omega),List.length_take,List.getElem?_drop]
    congr 1
    omega
 have hc':=voz hc (fun t ht=>hag.2 t (by simp [ht])) (fun b hb=>hgb b (hrh b hb));have hargs:=wk7 (Γ:=Γ) hag xs (fun t ht=>by simp [ht]);have hcall':=wml (J'.drop n);rw [<-hη] at hcall'
 have:=vya (o:=o) (I:=I') (J:=J') ho hc' (by rw [hargs];exact hnt) (by rw [hargs];exact hcall')
 exact this E ρ a w hI K Q hK
theorem xu0 {I : List SV} {J : List SB} {x : Operand} {f : FuncId} {caps : List SV} {rd rh : List Nat} (h : zxi Γ I J x = some (f, caps, rd, rh)) : ∀ b ∈ rh, x5w (gB J b) = false := by
 unfold zxi at h;split at h
 . cases h;intro b hb;cases hb
 . split at h
   . obtain ⟨f',hf,he⟩:=Option.map_eq_some_iff.1 h;cases he;intro b hb;cases hb
   . split at h
     . rename_i hg
       cases h;intro b hb;rw [List.mem_singleton.1 hb,hg];rfl
     . cases h
   . cases h
 . cases h
theorem xdd {lit fn:Bool} {I:List SV} {J:List SB} {nb:Nat} {o:Oper} {f:FuncId} {l:List SV} {rd:List Nat} (h:opH P Γ lit fn I J nb o=.callH f l rd) {n:Nat} (hn:n<=J.length) (hclo:(J.drop n).all x5w=true) {res:SV} (hc:∀ ξ,xpp Γ P f (J.take n++ξ) l (J.take n++ξ) res):vbd Γ P o I J rd (List.range n) (v9n o res) []:=by
 obtain ⟨x,xs,ts,ho⟩:=ypv h (.inr (.inr ⟨_,_,_,rfl⟩));rw [vyw ho] at h
 have ho':o.op=.call { callee:=.value x,args:=xs.toList.toArray,argTypes:=ts }:=by rw [ho]
 have hG : ∀ {f' : FuncId} {caps : List SV} {rd' rh' : List Nat}, zxi Γ I J x = some (f', caps, rd', rh') → wds.callG Γ (wew lit fn) I J o xs.toList f' caps rd' rh' = .callH f l rd → vbd Γ P o I J rd (List.range n) (v9n o res) [] := fun {f' caps rd' rh'} hcal hg => by
  have hrh:∀ b∈rh',b<n:=fun b hb=>by
   have h1:=xu0 hcal b hb
   rcases Nat.lt_or_ge b n with h2 | h2
   . exact h2
   . exfalso
     have:x5w (gB J b)=true:=by
      unfold gB;by_cases hl:b<J.length
      . rw [List.getElem?_eq_getElem hl]
        have hm:J[b]∈J.drop n:=by
         rw [List.mem_drop_iff_getElem];exact ⟨b-n,by omega,by congr 1;omega⟩
        exact List.all_eq_true.1 hclo _ hm
      . rw [List.getElem?_eq_none (by omega)];rfl
     rw [this] at h1;cases h1
  unfold wds.callG at hg;split at hg
  . cases hg
  . split at hg
    . rename_i hnt
      cases hg;exact z3a ho' hcal hrh hn hnt hc
    . cases hg
 unfold wds at h;split at h
 . split at h
   . split at h
     . unfold vO at h;repeat' split at h
       all_goals cases h
     . cases h
   . exact hG rfl h
 . rename_i t;split at h
   . split at h<;>cases h
   . split at h
     . rename_i f' caps rd' rh' hcal;exact hG hcal h
     . cases h
 . cases h
theorem zon {lit fn:Bool} {o:Oper} {I:List SV} {J:List SB} {nb:Nat} {b:Bool} {k:Bool->List Nat->List Nat->List (Nat×SV)->List (Nat×SB)->Prop} (h:doG Γ P (opF P Γ lit fn I J nb o) o I J nb b k):∃ b' rd rh e hf,vbd Γ P o I J rd rh e hf/\k b' rd rh e hf:=by
 cases hr:opF P Γ lit fn I J nb o with
 | eff rd rh e hf new=>
  have hs:=xej hr;rw [hr] at h
  cases new with
  | none=>exact ⟨_,_,_,_,_,hs,h⟩
  | some x=>exact ⟨_,_,_,_,_,hs.1 h.1,h.2⟩
 | callD f l rd rh bs=>
  have hr':=vtc hr (by simp);rw [hr] at h;obtain ⟨res,h1,h2⟩:=h;unfold resG at h2;split at h2
  . rename_i y hy;exact ⟨_,_,_,_,_,wyj hr' h1 hy,h2⟩
  . rename_i y x hy;exact ⟨_,_,_,_,_,(wyj hr' h1 hy).1 h2.1,h2.2⟩
  . exact h2.elim
 | callF p l rd bs=>
  have hr':=vtc hr (by simp);rw [hr] at h;obtain ⟨F,rfl,res,h1,h2⟩:=h;unfold resG at h2;split at h2
  . rename_i y hy;exact ⟨_,_,_,_,_,zjv hr' h1 hy,h2⟩
  . rename_i y x hy;exact ⟨_,_,_,_,_,(zjv hr' h1 hy).1 h2.1,h2.2⟩
  . exact h2.elim
 | callH f l rd=>
  have hr':=vtc hr (by simp);rw [hr] at h;obtain ⟨rh,heff,res,h1,h2⟩:=h
  rcases h1 with ⟨rfl,h1⟩ | ⟨n,hn,rfl,rfl,hc,h1⟩
  . exact ⟨_,_,_,_,_,(y9a hr' h1).2 _ rfl,h2⟩
  . exact ⟨_,_,_,_,_,xdd hr' hn hc h1,h2⟩
 | mk f caps rd bs=>
  have hr':=vtc hr (by simp);rw [hr] at h;obtain ⟨F,h0,h1,h2⟩:=h;exact ⟨_,_,_,_,_,vc0 hr' h0 h1,h2⟩
 | look r z ok rd rh=>
  have hr':=vtc hr (by simp);rw [hr] at h;have h:z2l o I J rd rh b k (vi3 ok r z):=h;unfold z2l at h;split at h
  . rename_i d hd
    rcases vbw hr' with h1 | h1
    . have he:v9n o (vi3 ok r z)=[(d,vi3 ok r z)]:=by unfold v9n;rw [hd]
      rw [he] at h1;exact ⟨_,_,_,_,_,h1,h⟩
    . rw [hd] at h1;cases h1
  . exact h.elim
 | bad=>rw [hr] at h;exact h.elim
theorem vv3 {lit fn:Bool} {ops:Array Oper} {o:Oper} {I:List SV} {J:List SB} {nb:Nat} {b:Bool} {k:Bool->List Nat->List Nat->List (Nat×SV)->List (Nat×SB)->Prop} (h:gdG Γ P lit fn nb (xsn ops.toList I o) o I J b k):∃ b' rd rh e hf,GH Γ P ops o I J rd rh e hf/\k b' rd rh e hf:=by
 have hs:=zla (ops:=ops) (I:=I) (o:=o);unfold gdG at h;split at h
 . rename_i hg;obtain ⟨b',rd,rh,e,hf,h1,h2⟩:=zon h;exact ⟨b',_,_,_,_,GH.plain (hs.1 hg) h1,h2⟩
 . rename_i d c b' hg;obtain ⟨j,h1,h2,h3⟩:=hs.2.1 d c b' hg;obtain ⟨hx,hy⟩:=h;by_cases hcb:c=b'
   . subst hcb;obtain ⟨b'',rd,rh,e,hf,h4,h5⟩:=zon (hx rfl);exact ⟨b'',_,_,_,_,GH.taken h1 h2 h3 h4,h5⟩
   . have hn:c = !b':=by cases c<;>cases b'<;>simp_all
     exact ⟨_,_,_,_,_,GH.vyy h1 h2 (.inl (by rw [h3,hn])),hy hn⟩
 . rename_i d hg;obtain ⟨j,b',h1,h2,h3⟩:=hs.2.2 d hg;exact ⟨_,_,_,_,_,GH.vyy h1 h2 (.inr h3),h⟩
 . exact h.elim
def v6y (ops:List Oper) (acc:List HR) (k:Bool->Prop):Prop:=wcm ops acc=true/\k true
theorem hind {ops:List Oper} {acc:List HR} {k:Bool->Prop} (h:wcm ops acc=true) (hk:k true):v6y ops acc k:=⟨h,hk⟩
def vzd (Γ:List (Nat×List Cell)) (P:Program) (lit fn:Bool):Nat->List Oper->Bool->List Oper->List HR->List SV->List SB->(Bool->List SV->List SB->Prop)->Prop
 | _,ops,_,[],acc,I,J,K=>v6y ops acc (fun b=>K b I J)
 | nb,ops,b,o::r,acc,I,J,K=>gdG Γ P lit fn nb (xsn ops I o) o I J b (fun b rd rh e h=>vzd Γ P lit fn (nxtB nb h) ops b r (acc++[⟨rd,rh,e,h⟩]) (appL e I) (appL h J) K)
theorem vzd.runD {lit fn:Bool} {ops:Array Oper}:∀(l:List Oper) (nb:Nat) (b:Bool) (acc:List HR) (I:List SV) (J:List SB) (K:Bool->List SV->List SB->Prop),vzd Γ P lit fn nb ops.toList b l acc I J K->y0p Γ P ops ops.toList l acc I J (fun I J=>∃ b,K b I J)
 | [],_,b,_,_,_,_,h=>⟨h.1,true,h.2⟩
 | o::r,nb,b,acc,I,J,K,h=>by
  unfold vzd at h;obtain ⟨b',rd,rh,e,hf,h1,h2⟩:=vv3 h;exact ⟨_,_,_,_,h1,vzd.runD r _ b' _ _ _ K h2⟩
def zq9 (next:Bool->List SV->List SB->Prop) (Q:Exit->Bool->List SV->List SB->Prop):Exit->Bool->List SV->List SB->Prop
 | .normal=>next
 | .exit id=>Q (.exit id)
 | .goto l=>Q (.goto l)
 | .ret=>Q .ret
 | .panic c=>Q (.panic c)
 | .outgrown=>Q .outgrown
def zfl (id:Nat) (Q:Exit->Bool->List SV->List SB->Prop):Exit->Bool->List SV->List SB->Prop
 | .normal=>Q .normal
 | .exit j=>if j=id then Q .normal else Q (.exit j)
 | .goto l=>Q (.goto l)
 | .ret=>Q .ret
 | .panic c=>Q (.panic c)
 | .outgrown=>Q .outgrown
def outH (Q:Exit->Bool->List SV->List SB->Prop):Exit->List SV->List SB->Prop:=fun e I J=>∃ b,Q e b I J
def yxl (Γ:List (Nat×List Cell)) (P:Program) (e:List SB) (_G:List (Nat×List GhH)) (c:Code) (Q:Exit->Bool->List SV->List SB->Prop) (I:List SV) (J:List SB):Prop:=x1x Γ P e (.loop c) (outH Q) I J
def z0z (Γ:List (Nat×List Cell)) (P:Program) (e:List SB) (_G:List (Nat×List GhH)) (x y:Code) (Q:Exit->Bool->List SV->List SB->Prop) (I:List SV) (J:List SB):Prop:=x1x Γ P e (.seq x y) (outH Q) I J
def xjp (P:Program) (k:Bool->Prop):Prop:=P.follows .mixedOrders=true/\k true
def w04 (c:Operand) (I:List SV) (X Y:Bool->Prop):SV->Prop
 | .one (.dat (.raw (.bool p)))=>ymv p X Y
 | _=>vrr c I
def x25 (n:Nat) (k:Bool->List SV->List SB->Prop) (b:Bool) (I:List SV) (J:List SB):Prop:=k b I (xyn n J)
def RH (Γ:List (Nat×List Cell)) (P:Program) (e:List SB) (G:List (Nat×List GhH)):Code->Bool->(Exit->Bool->List SV->List SB->Prop)->List SV->List SB->Prop
 | .skip,b,Q,I,J=>Q .normal b I J
 | .region id ops false,b,Q,I,J=>y3o Γ P (!(wxy (vu8 G id))) (!(yej (vu8 G id))) ops.toList b ops.toList (anyS (vu8 G id) I) J (Q .normal)
 | .region id ops true,b,Q,I,J=>xjp P (fun _=>vzd Γ P (!(wxy (vu8 G id))) (!(yej (vu8 G id))) J.length ops.toList b ops.toList [] (anyS (vu8 G id) I) (J++yim (vu8 G id)) (x25 J.length (Q .normal)))
 | .seq x y,b,Q,I,J=>seqF (yrc G y) (fun _=>z0z Γ P e G x y Q I J) (fun _=>RH Γ P e G x b (zq9 (fun b I J=>RH Γ P e G y b Q I J) Q) I J)
 | .cond c x y,_,Q,I,J=>w04 c I (fun b=>RH Γ P e G x b Q I J) (fun b=>RH Γ P e G y b Q I J) (opdS Γ I c)
 | .block id x,b,Q,I,J=>RH Γ P e G x b (zfl id Q) I J
 | .loop x,_,Q,I,J=>yxl Γ P e G x Q I J
 | .exit id,b,Q,I,J=>Q (.exit id) b I J
 | .ret,b,Q,I,J=>Q .ret b I J
 | .label _,b,Q,I,J=>Q .normal b I J
 | .scope x,b,Q,I,J=>RH Γ P e G x b (fun x=>match x with
  | .goto _=>fun _ _ _=>False
  | x=>Q x) I J
 | _,_,_,_,_=>False
variable {e:List SB} {G:List (Nat×List GhH)}
theorem zt4.refl:∀ l:List SV,zt4 l l
 | []=>.nil
 | x::l=>.cons (.refl x) (zt4.refl l)
theorem StH.anyS {e:List SB} {J:List SB}:∀(g:List GhH) (I:List SV),StH Γ e I J (anyS g I) J
 | [],_=>StH.refl
 | .any s::r,I=>by
  refine StH.trans (StH.zrj (I':=I.set s .any) ?_) (StH.anyS r _);clear e J r
  induction I generalizing s with
  | nil=>exact .nil
  | cons x I ih=>
   cases s with
   | zero=>exact .cons (.any _) (zt4.refl I)
   | succ s=>exact .cons (.refl _) (ih s)
 | .join::r,I=>StH.anyS r I
 | .own::r,I=>StH.anyS r I
 | .clo::r,I=>StH.anyS r I
 | .room _::r,I=>StH.anyS r I
theorem StH.vqv {e:List SB} {I:List SV} {J:List SB} (g:List GhH):StH Γ e I J I (J++yim g):=fun _ ρ _ _ _ h=>by
 obtain ⟨n,hn⟩:=wdn g;rw [hn];exact ⟨ρ,h.go (Went.extend h.inv n)⟩
theorem z3g {e:List SB} {I:List SV} {h:List SB} (n:Nat):StH Γ e I h I (xyn n h):=by
 unfold xyn
 split
 . rename_i hd
   have he:h=h.take n++[.fresh]:=by rw [<-hd,List.take_append_drop]
   intro E ρ a w hE hI;rw [he] at hI;exact StH.zlp E ρ a w hE hI
 . exact StH.refl
theorem RH.sound:∀(c:Code) (b:Bool) (Q:Exit->Bool->List SV->List SB->Prop) (I:List SV) (J:List SB),RH Γ P e G c b Q I J->x1x Γ P e c (outH Q) I J:=by
 intro c
 induction c with
 | skip=>intro b Q I J h;exact ws1 ⟨b,h⟩
 | region id ops dr=>
  intro b Q I J h
  cases dr with
  | false=>exact x1x.le (StH.anyS _ _) (vfj (y3o.run _ b _ _ _ h))
  | true=>
   have h':=vzd.runD _ _ b [] _ _ _ h.2;refine x1x.le (StH.trans (StH.anyS (vu8 G id) I) (StH.vqv (vu8 G id))) (x1x.post (v3n (Q:=fun x s t=>x=.normal/\(∃ b,x25 J.length (Q .normal) b s t)) h.1 ?_) ?_)
   . have mono:∀(l:List Oper) (acc:List HR) (s:List SV) (t:List SB) (K K':List SV->List SB->Prop),(∀ s t,K s t->K' s t)->y0p Γ P ops ops.toList l acc s t K->y0p Γ P ops ops.toList l acc s t K':=by
      intro l
      induction l with
      | nil=>intro acc s t K K' hk h;exact ⟨h.1,hk _ _ h.2⟩
      | cons o r ih=>
       intro acc s t K K' hk ⟨rd,rh,ef,hf,h1,h2⟩;exact ⟨rd,rh,ef,hf,h1,ih _ _ _ _ _ hk h2⟩
     exact mono _ _ _ _ _ _ (fun s t hst=>⟨rfl,hst⟩) h'
   . rintro x s t ⟨rfl,⟨b',hb⟩⟩;exact ⟨s,xyn J.length t,z3g _,b',hb⟩
 | seq x y ihx ihy=>
  intro b Q I J h;have h:seqF (yrc G y) (fun _=>z0z Γ P e G x y Q I J) (fun _=>RH Γ P e G x b (zq9 (fun b I J=>RH Γ P e G y b Q I J) Q) I J):=h
  cases hj:yrc G y with
  | true=>rw [hj] at h;exact h
  | false=>
  rw [hj] at h;have h:RH Γ P e G x b (zq9 (fun b I J=>RH Γ P e G y b Q I J) Q) I J:=h;refine ynn ((ihx b _ I J h).mono ?_);intro ex I' J' ⟨b',h'⟩
  cases ex with
  | normal=>exact ihy b' Q I' J' h'
  | _=>exact ⟨b',h'⟩
 | cond c x y ihx ihy=>
  intro b Q I J h;have h:w04 c I (fun b=>RH Γ P e G x b Q I J) (fun b=>RH Γ P e G y b Q I J) (opdS Γ I c):=h;unfold w04 at h;split at h
  . rename_i p hp;exact xaa hp (fun hb=>ihx _ _ _ _ (h.1 hb)) (fun hb=>ihy _ _ _ _ (h.2 hb))
  . exact h.elim
 | block id x ih=>
  intro b Q I J h;refine zjx ((ih b _ I J h).mono ?_);intro ex I' J' ⟨b',h'⟩
  cases ex with
  | exit j=>
   show xbo id (outH Q) (.exit j) I' J';unfold zfl at h';unfold xbo;simp only at h' ⊢;split at h'
   . rename_i hj;simp only [hj];exact ⟨b',h'⟩
   . rename_i hj;simp only [hj];exact ⟨b',h'⟩
  | _=>exact ⟨b',h'⟩
 | loop x ih=>intro b Q I J h;exact h
 | exit id=>intro b Q I J h;exact vzt ⟨b,h⟩
 | ret=>intro b Q I J h;exact yg9 ⟨b,h⟩
 | label l=>intro b Q I J h;exact fun _ ρ _ _ _ hR=>wp_label ⟨_,_,ρ,⟨b,h⟩,hR⟩
 | scope x ih=>
  intro b Q I J h E ρ a w hE hR;refine wp_scope_straight (wp_mono (ih b _ I J h E ρ a w hE hR) ?_);rintro y b' w' ⟨s,t,ρ',⟨b2,h2⟩,hR'⟩
  cases y with
  | goto l=>exact h2.elim
  | _=>exact ⟨_,_,ρ',⟨b2,h2⟩,hR'⟩
 | _=>intro b Q I J h;exact h.elim
end Go.Hp
