/- The proof, part B18: Ib, Ti. -/
import Derived.Test.YtglblfkobflpmaaGreatB17
import Derived.Test.YtglblfkobflpmaaGreatB7
import Derived.Test.YtglblfkobflpmaaGreatChecked
namespace Go.Hp
open Go Go.RowKit Go.Slot
variable {P:Program} {Γ:List (Nat×List Cell)} {e:List SB} {G:List (Nat×List GhH)}
def chS (a0 a1 a2 a3 a4 a5 a6 a7 a8 a9 a10 a11 a12 a13 a14 a15:SV) (r:List SV):List SV:=a0::a1::a2::a3::a4::a5::a6::a7::a8::a9::a10::a11::a12::a13::a14::a15::r
def vs7:List SV->List SV
 | a0::a1::a2::a3::a4::a5::a6::a7::a8::a9::a10::a11::a12::a13::a14::a15::r=>chS a0 a1 a2 a3 a4 a5 a6 a7 a8 a9 a10 a11 a12 a13 a14 a15 (vs7 r)
 | l=>l
theorem vwj:∀ l:List SV,vs7 l=l
 | []=>rfl
 | [a0]=>rfl
 | [a0,a1]=>rfl
 | [a0,a1,a2]=>rfl
 | [a0,a1,a2,a3]=>rfl
 | [a0,a1,a2,a3,a4]=>rfl
 | [a0,a1,a2,a3,a4,a5]=>rfl
 | [a0,a1,a2,a3,a4,a5,a6]=>rfl
 | [a0,a1,a2,a3,a4,a5,a6,a7]=>rfl
 | [a0,a1,a2,a3,a4,a5,a6,a7,a8]=>rfl
 | [a0,a1,a2,a3,a4,a5,a6,a7,a8,a9]=>rfl
 | [a0,a1,a2,a3,a4,a5,a6,a7,a8,a9,a10]=>rfl
 | [a0,a1,a2,a3,a4,a5,a6,a7,a8,a9,a10,a11]=>rfl
 | [a0,a1,a2,a3,a4,a5,a6,a7,a8,a9,a10,a11,a12]=>rfl
 | [a0,a1,a2,a3,a4,a5,a6,a7,a8,a9,a10,a11,a12,a13]=>rfl
 | [a0,a1,a2,a3,a4,a5,a6,a7,a8,a9,a10,a11,a12,a13,a14]=>rfl
 | a0::a1::a2::a3::a4::a5::a6::a7::a8::a9::a10::a11::a12::a13::a14::a15::r=>by
  show chS a0 a1 a2 a3 a4 a5 a6 a7 a8 a9 a10 a11 a12 a13 a14 a15 (vs7 r)=_;rw [vwj r];rfl
def endD (res:AV):Option (AV×List Nat)->Prop
 | some (av,_)=>RLe av res
 | none=>False
def endR (J:List SB) (res:AV):Option SV->Prop
 | some x=>endD res (xu5 J x)
 | none=>False
theorem vs2 {J:List SB} {res:AV} {o:Option SV} (h:endR J res o):∃ x av bs,o=some x/\xu5 J x=some (av,bs)/\RLe av res:=by
 cases o with
 | none=>exact h.elim
 | some x=>
  have h:endD res (xu5 J x):=h;unfold endD at h;split at h
  . rename_i av bs hd;exact ⟨x,av,bs,rfl,hd,h⟩
  . exact h.elim
def vle (P:Program) (rs:List ResultVar) (res:AV):Exit->Bool->List SV->List SB->Prop
 | .ret,_,I,J | .normal,_,I,J=>endR J res (wan P I J rs)
 | _,_,_,_=>False
theorem CallsD.run (G:List (Nat×List GhH)) {f:FuncId} {fn:Func} {c:Code} {args:List AV} {sl:List SV} {res:AV} (hf:P.funcs[f]? = some fn) (hb:fn.body=some c) (hname:(fn.name == "runtime.NumGoroutine")=false) (ha:vug args=some sl)
 (h:RH Γ P [] G c true (vle P fn.results.toList res) (vs7 (sl++List.replicate (fn.ntmps-sl.length) .undef)) []):CallsD Γ P f args res:=by
 rw [vwj] at h;refine CallsD.of hf hb hname ha ((RH.sound c true _ _ _ h).mono ?_);intro ex I J ⟨b,h⟩
 cases ex with
 | normal=>exact vs2 h
 | ret=>exact vs2 h
 | _=>exact h.elim
def endH (Γ:List (Nat×List Cell)) (e J:List SB) (J':List SB) (res:SV):Option SV->Prop
 | some x=>StH Γ e [x] J [res] J'
 | none=>False
def z9g (Γ:List (Nat×List Cell)) (P:Program) (e:List SB) (rs:List ResultVar) (J':List SB) (res:SV):Exit->Bool->List SV->List SB->Prop
 | .ret,_,I,J | .normal,_,I,J=>endH Γ e J J' res (wan P I J rs)
 | _,_,_,_=>False
theorem ve9 {J J':List SB} {res:SV} {o:Option SV} (h:endH Γ e J J' res o):∃ x,o=some x/\StH Γ e [x] J [res] J':=by
 cases o with
 | none=>exact h.elim
 | some x=>exact ⟨x,rfl,h⟩
theorem xpp.run (G:List (Nat×List GhH)) {f:FuncId} {fn:Func} {c:Code} {J J':List SB} {args:List SV} {res:SV} (hf:P.funcs[f]? = some fn) (hb:fn.body=some c) (hname:(fn.name == "runtime.NumGoroutine")=false)
 (h:RH Γ P J G c true (z9g Γ P J fn.results.toList J' res) (vs7 (args++List.replicate (fn.ntmps-args.length) .undef)) J):xpp Γ P f J args J' res:=by
 rw [vwj] at h;refine xpp.of hf hb hname ((RH.sound c true _ _ _ h).mono ?_);intro ex I η1 ⟨b,h⟩
 cases ex with
 | normal=>exact ve9 h
 | ret=>exact ve9 h
 | _=>exact h.elim
theorem wbi.le {c:Code} {Q:Exit->List SV->List SB->Prop} {I I':List SV} {J J':List SB} (h:StH Γ e I J I' J') (hc:wbi Γ P e c Q I' J'):wbi Γ P e c Q I J:=fun E ρ a w hE hR=>by
 obtain ⟨ρ',hR'⟩:=h E ρ a w hE hR;exact hc E ρ' a w hE hR'
theorem wbi.fam {α : Type} {c : Code} {Q : Exit → List SV → List SB → Prop} (invS : α → List SV) (invH : α → List SB) (pre : α → Prop) (μ : α → Nat)
 (round:∀ x,pre x->x1x Γ P e c (vtg (fun I' J'=>∃ y,pre y/\μ y<μ x/\StH Γ e I' J' (invS y) (invH y)) Q) (invS x) (invH x)):∀(n:Nat) (x:α),μ x<n->pre x->wbi Γ P e c Q (invS x) (invH x)
 | 0,_,h,_=>absurd h (Nat.not_lt_zero _)
 | n + 1, x, h, hx => wbi.round ((round x hx).mono (fun ex I J hq => by
  cases ex with
  | normal=>
   obtain ⟨y,h1,h2,h3⟩:=hq;exact wbi.le h3 (wbi.fam invS invH pre μ round n y (by omega) h1)
  | _=>exact hq))
theorem x20 {α:Type} {c:Code} {Q:Exit->Bool->List SV->List SB->Prop} {I:List SV} {J:List SB} (keep:List Nat) (ch:α->List (Nat×SV)) (hp:α->List SB) (pre:α->Prop) (μ:α->Nat) (x0:α) (h0:pre x0)
 (hle:StH Γ e I J (appL (ch x0) (yck keep 0 I)) (hp x0))
 (round:∀ x,pre x->RH Γ P e G c true (zq9 (hide (fun _ I' J'=>∃ y,pre y/\μ y<μ x/\StH Γ e I' J' (appL (ch y) (yck keep 0 I)) (hp y)) ()) Q) (vs7 (appL (ch x) (yck keep 0 I))) (hp x)):yxl Γ P e G c Q I J:=
 x1x.le hle (wbi.loop (wbi.fam (fun x=>appL (ch x) (yck keep 0 I)) hp pre μ (fun x hx=>(RH.sound c true _ _ _ (vwj (appL (ch x) (yck keep 0 I))▸round x hx)).mono (fun ex I' J' ⟨b,h⟩=>by
  cases ex with
  | normal=>exact h
  | _=>exact ⟨b,h⟩)) _ x0 (Nat.lt_succ_self _) h0))
def w7v (Γ:List (Nat×List Cell)) (P:Program) (e:List SB) (_G:List (Nat×List GhH)) (c:Code) (Q:Exit->Bool->List SV->List SB->Prop) (I:List SV) (J:List SB):Prop:=wbi Γ P e c (outH Q) I J
theorem yp8 {c:Code} {Q:Exit->Bool->List SV->List SB->Prop} {I:List SV} {J:List SB} (h:RH Γ P e G c true (zq9 (hide (fun _ I' J'=>w7v Γ P e G c Q I' J') ()) Q) I J):w7v Γ P e G c Q I J:=
 wbi.round ((RH.sound c true _ _ _ h).mono (fun ex I' J' ⟨b,h⟩=>by
  cases ex with
  | normal=>exact h
  | _=>exact ⟨b,h⟩))
theorem v6k {c:Code} {Q:Exit->Bool->List SV->List SB->Prop} {I:List SV} {J:List SB} (h:RH Γ P e G c true (zq9 (hide (fun _ I' J'=>w7v Γ P e G c Q I' J') ()) Q) I J):yxl Γ P e G c Q I J:=wbi.loop (yp8 h)
theorem wvz {α:Type} {x y:Code} {Q:Exit->Bool->List SV->List SB->Prop} {I:List SV} {J:List SB} (keep:List Nat) (ch:α->List (Nat×SV)) (hp:α->List SB) (pre:α->Prop)
 (hx:RH Γ P e G x true (zq9 (hide (fun _ I' J'=>∃ a,pre a/\StH Γ e I' J' (appL (ch a) (yck keep 0 I)) (hp a)) ()) Q) I J)
 (hy:∀ a,pre a->RH Γ P e G y true Q (vs7 (appL (ch a) (yck keep 0 I))) (hp a)):z0z Γ P e G x y Q I J:=
 ynn ((RH.sound x true _ _ _ hx).mono (fun ex I' J' ⟨b,h⟩=>by
  cases ex with
  | normal=>
   obtain ⟨a,h1,h2⟩:=h;exact x1x.le h2 (RH.sound y true _ _ _ (vwj (appL (ch a) (yck keep 0 I))▸hy a h1))
  | _=>exact ⟨b,h⟩))
def nrmV (I:List SV):List SV:=I
theorem vge {a:SV} {I:List SV}:nrmV (a::I)=a::I:=_root_.id rfl
theorem vnq {a0 a1 a2 a3 a4 a5 a6 a7 a8 a9 a10 a11 a12 a13 a14 a15:SV} {r:List SV}:nrmV (chS a0 a1 a2 a3 a4 a5 a6 a7 a8 a9 a10 a11 a12 a13 a14 a15 r)=chS a0 a1 a2 a3 a4 a5 a6 a7 a8 a9 a10 a11 a12 a13 a14 a15 r:=_root_.id rfl
def nrmH (l:List HR):List HR:=l
theorem wzt:nrmH []=[]:=_root_.id rfl
theorem y1x {a:HR} {l:List HR}:nrmH (a::l)=a::l:=_root_.id rfl
def flF (c d:Bool) (A:Bool->Bool->Prop):Prop:=A c d
theorem z6v {A:Bool->Bool->Prop}:flF true true A=A true true:=_root_.id rfl
theorem wac {A:Bool->Bool->Prop}:flF true false A=A true false:=_root_.id rfl
theorem w9y {A:Bool->Bool->Prop}:flF false true A=A false true:=_root_.id rfl
theorem ymh {A:Bool->Bool->Prop}:flF false false A=A false false:=_root_.id rfl
theorem xzi {c c' d d':Bool} {A:Bool->Bool->Prop} (h:c=c') (h2:d=d'):flF c d A=flF c' d' A:=by rw [h,h2]
theorem xtt {f:Bool->List SV->List SB->Prop} {u:U f} {b:Bool} {I:List SV} {J:List SB}:hide f u b I J=f b I J:=_root_.id rfl
theorem zmo {f:Bool->Bool->Prop} {u:U f} {b c:Bool}:hide f u b c=f b c:=_root_.id rfl
theorem zov {f:Bool->List SB->SV->Prop} {u:U f} {b:Bool} {J:List SB} {x:SV}:hide f u b J x=f b J x:=_root_.id rfl
theorem wmc {f:Bool->List Nat->List (Nat×SB)->SV->Prop} {u:U f} {b:Bool} {rh:List Nat} {J:List (Nat×SB)} {x:SV}:hide f u b rh J x=f b rh J x:=_root_.id rfl
theorem wbk {f:Bool->List Nat->List Nat->List (Nat×SV)->List (Nat×SB)->Prop} {u:U f} {b:Bool} {rd rh:List Nat} {x:List (Nat×SV)} {y:List (Nat×SB)}:hide f u b rd rh x y=f b rd rh x y:=_root_.id rfl
theorem wu9 {rd rh:List Nat} {x:List (Nat×SV)} {y:List (Nat×SB)} {z:Option SB}:tick (HO.eff rd rh x y z)=HO.eff rd rh x y z:=_root_.id rfl
theorem z4f {f:FuncId} {l:List AV} {rd rh bs:List Nat}:tick (HO.callD f l rd rh bs)=HO.callD f l rd rh bs:=_root_.id rfl
theorem zyx {p:(Nat->Nat->Prop)->World->Value->Prop} {l:List AV} {rd bs:List Nat}:tick (HO.callF p l rd bs)=HO.callF p l rd bs:=_root_.id rfl
theorem xjo {f:FuncId} {l:List SV} {rd:List Nat}:tick (HO.callH f l rd)=HO.callH f l rd:=_root_.id rfl
theorem xso {r:Option SV} {z:SV} {ok:Bool} {rd rh:List Nat}:tick (HO.look r z ok rd rh)=HO.look r z ok rd rh:=_root_.id rfl
theorem vi5:tick HO.bad=HO.bad:=_root_.id rfl
theorem zuf:tick Hp.GR.plain=Hp.GR.plain:=_root_.id rfl
theorem w8j {d:Nat} {c b:Bool}:tick (Hp.GR.when d c b)=Hp.GR.when d c b:=_root_.id rfl
theorem wah {d:Nat}:tick (Hp.GR.skip d)=Hp.GR.skip d:=_root_.id rfl
theorem w6r {h:HC}:tick (SV.one h)=SV.one h:=_root_.id rfl
section
variable {Q:Exit->Bool->List SV->List SB->Prop} {I:List SV} {J:List SB}
theorem ziw:RH Γ P e G .skip true Q I J=Q .normal true I J:=_root_.id rfl
theorem xgu {id:Nat} {l:List Oper}:RH Γ P e G (.region id l.toArray false) true Q I J=flF (tick (!(wxy (vu8 G id)))) (tick (!(yej (vu8 G id)))) (hide (fun lit fn=>y3o Γ P lit fn l true l (nrmV (anyS (vu8 G id) I)) J (Q .normal)) ()):=_root_.id rfl
theorem ys6 {id:Nat} {l:List Oper}:RH Γ P e G (.region id l.toArray true) true Q I J=xjp P (hide (fun _=>flF (tick (!(wxy (vu8 G id)))) (tick (!(yej (vu8 G id)))) (hide (fun lit fn=>vzd Γ P lit fn J.length l true l (nrmH []) (nrmV (anyS (vu8 G id) I)) (J++yim (vu8 G id)) (hide (fun b s t=>x25 J.length (Q .normal) b s t) ())) ())) ()):=_root_.id rfl
theorem vv8 {x y:Code}:RH Γ P e G (.seq x y) true Q I J=seqF (tick (yrc G y)) (hide (fun _=>z0z Γ P e G x y Q I J) ()) (hide (fun _=>RH Γ P e G x true (zq9 (hide (fun b I J=>RH Γ P e G y b Q I J) ()) Q) I J) ()):=_root_.id rfl
theorem vvt {c:Operand} {x y:Code}:RH Γ P e G (.cond c x y) true Q I J=w04 c I (hide (fun b=>RH Γ P e G x b Q I J) ()) (hide (fun b=>RH Γ P e G y b Q I J) ()) (tick (opdS Γ I c)):=_root_.id rfl
theorem y3s {id:Nat} {x:Code}:RH Γ P e G (.block id x) true Q I J=RH Γ P e G x true (zfl id Q) I J:=_root_.id rfl
theorem vd5 {x:Code}:RH Γ P e G (.loop x) true Q I J=yxl Γ P e G x Q I J:=_root_.id rfl
theorem x3s {id:Nat}:RH Γ P e G (.exit id) true Q I J=Q (.exit id) true I J:=_root_.id rfl
theorem xzc:RH Γ P e G .ret true Q I J=Q .ret true I J:=_root_.id rfl
theorem wyx {lit fn:Bool} {ops:List Oper} {K:Bool->List SV->List SB->Prop}:y3o Γ P lit fn ops true [] I J K=K true I J:=_root_.id rfl
theorem yq2 {lit fn:Bool} {ops:List Oper} {o:Oper} {r:List Oper} {K:Bool->List SV->List SB->Prop}:y3o Γ P lit fn ops true (o::r) I J K=gdH Γ P lit fn (tick (xsn ops I o)) o I J true (hide (fun b I J=>y3o Γ P lit fn ops b r (nrmV I) J K) ()):=_root_.id rfl
theorem zs7 {lit fn:Bool} {nb:Nat} {ops:List Oper} {acc:List HR} {K:Bool->List SV->List SB->Prop}:vzd Γ P lit fn nb ops true [] acc I J K=v6y ops acc (hide (fun b=>K b I J) ()):=_root_.id rfl
theorem z2g {lit fn:Bool} {nb:Nat} {ops:List Oper} {o:Oper} {r:List Oper} {acc:List HR} {K:Bool->List SV->List SB->Prop}:vzd Γ P lit fn nb ops true (o::r) acc I J K=gdG Γ P lit fn nb (tick (xsn ops I o)) o I J true (hide (fun b rd rh x h=>vzd Γ P lit fn (nxtB nb h) ops b r (nrmH (acc++[⟨rd,rh,x,h⟩])) (nrmV (appL x I)) (appL h J) K) ()):=_root_.id rfl
theorem zyz {n:Nat} {k:Bool->List SV->List SB->Prop}:x25 n k true I J=k true I (xyn n J):=_root_.id rfl
end
section
variable {next:Bool->List SV->List SB->Prop} {Q:Exit->Bool->List SV->List SB->Prop}
theorem x47:zq9 next Q .normal=next:=_root_.id rfl
theorem z8a {id:Nat}:zq9 next Q (.exit id)=Q (.exit id):=_root_.id rfl
theorem yoc:zq9 next Q .ret=Q .ret:=_root_.id rfl
theorem wft {id:Nat}:zfl id Q .normal=Q .normal:=_root_.id rfl
def selH (c:Bool) (x y:Bool->List SV->List SB->Prop):Bool->List SV->List SB->Prop:=match c with
 | true=>x
 | false=>y
theorem yeo {id j:Nat}:zfl id Q (.exit j)=selH (j==id) (Q .normal) (Q (.exit j)):=by
 have h:zfl id Q (.exit j)=if j=id then Q .normal else Q (.exit j):=rfl
 rw [h];unfold selH;by_cases he:j=id
 . rw [if_pos he,show (j==id)=true from by simp [he]]
 . rw [if_neg he,show (j==id)=false from by simp [he]]
theorem z7z {x y:Bool->List SV->List SB->Prop}:selH true x y=x:=rfl
theorem voc {x y:Bool->List SV->List SB->Prop}:selH false x y=y:=rfl
theorem w1v {c c':Bool} {x y:Bool->List SV->List SB->Prop} (h:c=c'):selH c x y=selH c' x y:=by rw [h]
theorem v1s {id:Nat}:zfl id Q .ret=Q .ret:=_root_.id rfl
end
section
variable {o:Oper} {I:List SV} {J:List SB} {b:Bool} {k:Bool->List SV->List SB->Prop}
theorem z9e {rd rh:List Nat} {x:List (Nat×SV)} {h:List (Nat×SB)}:doH Γ P (.eff rd rh x h none) o I J b k=k b (appL x I) (appL h J):=_root_.id rfl
theorem x7v {rd rh:List Nat} {x:List (Nat×SV)} {h:List (Nat×SB)} {z:SB}:doH Γ P (.eff rd rh x h (some z)) o I J b k=k b (appL x I) (appL h J++[z]):=_root_.id rfl
theorem vvs {f:FuncId} {l:List AV} {rd rh bs:List Nat}:doH Γ P (.callD f l rd rh bs) o I J b k=xli Γ P f l (appL (frzE J bs) J) (hide (fun b res=>resK o I (appL (frzE J bs) J) b k (resS J.length res)) ()) (hide (fun b η2 res=>k b (appL (v9n o res) I) η2) ()):=_root_.id rfl
theorem x49 {p:(Nat->Nat->Prop)->World->Value->Prop} {l:List AV} {rd bs:List Nat}:doH Γ P (.callF p l rd bs) o I J b k=FnKH Γ P p l (hide (fun b res=>resK o I (appL (frzE J bs) J) b k (resS J.length res)) ()):=_root_.id rfl
theorem zhs {f:FuncId} {l:List SV} {rd:List Nat}:doH Γ P (.callH f l rd) o I J b k=wb5 Γ P f J l (hide (fun b η2 res=>k b (appL (v9n o res) I) η2) ()):=_root_.id rfl
theorem wm9 {r:Option SV} {z:SV} {ok:Bool} {rd rh:List Nat}:doH Γ P (.look r z ok rd rh) o I J b k=z1v o I J b k (vi3 ok r z):=_root_.id rfl
theorem yd0:doH Γ P .bad o I J b k=BadO o.op I J:=_root_.id rfl
theorem zv2 {y:SV}:resK o I J b k (some (y,none))=k b (appL (v9n o y) I) J:=_root_.id rfl
theorem vpj {lit fn:Bool}:gdH Γ P lit fn .plain o I J b k=doH Γ P (tick (opF P Γ lit fn I J J.length o)) o I J b k:=_root_.id rfl
theorem wn3 {lit fn:Bool} {d:Nat} {c b':Bool}:gdH Γ P lit fn (.when d c b') o I J b k=vdc c b' (hide (fun b=>doH Γ P (tick (opF P Γ lit fn I J J.length o)) o I J b k) ()) (hide (fun b=>zr2 o I J b k) ()):=_root_.id rfl
theorem xan {lit fn:Bool} {d:Nat}:gdH Γ P lit fn (.skip d) o I J b k=zr2 o I J b k:=_root_.id rfl
end
section
variable {o:Oper} {I:List SV} {J:List SB} {nb:Nat} {b:Bool} {k:Bool->List Nat->List Nat->List (Nat×SV)->List (Nat×SB)->Prop}
theorem xl3 {rd rh:List Nat} {x:List (Nat×SV)} {h:List (Nat×SB)}:doG Γ P (.eff rd rh x h none) o I J nb b k=k b rd rh x h:=_root_.id rfl
theorem v5b {rd rh:List Nat} {x:List (Nat×SV)} {h:List (Nat×SB)} {z:SB}:doG Γ P (.eff rd rh x h (some z)) o I J nb b k=(y4f J nb=true/\k b rd (nb::rh) x (h++[(nb,z)])):=_root_.id rfl
theorem x6e {f:FuncId} {l:List AV} {rd rh bs:List Nat}:doG Γ P (.callD f l rd rh bs) o I J nb b k=yub Γ P f l (hide (fun b res=>resG o I J nb rd rh bs b k (resS nb res)) ()):=_root_.id rfl
theorem zn2 {p:(Nat->Nat->Prop)->World->Value->Prop} {l:List AV} {rd bs:List Nat}:doG Γ P (.callF p l rd bs) o I J nb b k=FnKH Γ P p l (hide (fun b res=>resG o I J nb rd [] bs b k (resS nb res)) ()):=_root_.id rfl
theorem wdi {f:FuncId} {l:List SV} {rd:List Nat}:doG Γ P (.callH f l rd) o I J nb b k=v3v Γ P f J l (hide (fun b rh heff res=>k b rd rh (v9n o res) heff) ()):=_root_.id rfl
theorem vj4 {r:Option SV} {z:SV} {ok:Bool} {rd rh:List Nat}:doG Γ P (.look r z ok rd rh) o I J nb b k=z2l o I J rd rh b k (vi3 ok r z):=_root_.id rfl
theorem zqo:doG Γ P .bad o I J nb b k=BadO o.op I J:=_root_.id rfl
theorem xqw {rd rh bs:List Nat} {y:SV}:resG o I J nb rd rh bs b k (some (y,none))=k b rd (rh++bs) (v9n o y) (frzE J bs):=_root_.id rfl
theorem wlt {d:Nat} {rd rh:List Nat} {x:List (Nat×SV)} {h:List (Nat×SB)}:onG d k b rd rh x h=k b (d::rd) rh x h:=_root_.id rfl
theorem y8i {lit fn:Bool}:gdG Γ P lit fn nb .plain o I J b k=doG Γ P (tick (opF P Γ lit fn I J nb o)) o I J nb b k:=_root_.id rfl
theorem y3q {lit fn:Bool} {d:Nat} {c b':Bool}:gdG Γ P lit fn nb (.when d c b') o I J b k=vdc c b' (hide (fun b=>doG Γ P (tick (opF P Γ lit fn I J nb o)) o I J nb b (hide (fun b rd rh x h=>onG d k b rd rh x h) ())) ()) (hide (fun b=>yqv d o b k) ()):=_root_.id rfl
theorem wmb {lit fn:Bool} {d:Nat}:gdG Γ P lit fn nb (.skip d) o I J b k=yqv d o b k:=_root_.id rfl
end
theorem ytu {c:Operand} {I:List SV} {X Y:Bool->Prop} {p:Bool}:w04 c I X Y (.one (.dat (.raw (.bool p))))=ymv p X Y:=_root_.id rfl
theorem xkr {rs:List ResultVar} {res:AV} {b:Bool} {I:List SV} {J:List SB}:vle P rs res .ret b I J=endR J res (tick (wan P I J rs)):=_root_.id rfl
theorem zyg {J:List SB} {res:AV} {x:SV}:endR J res (some x)=endD res (tick (xu5 J x)):=_root_.id rfl
theorem xv0 {res av:AV} {bs:List Nat}:endD res (some (av,bs))=RLe av res:=_root_.id rfl
theorem xh2 {rs:List ResultVar} {res:SV} {b:Bool} {I:List SV} {J J':List SB}:z9g Γ P e rs J' res .ret b I J=endH Γ e J J' res (tick (wan P I J rs)):=_root_.id rfl
theorem veo {rs:List ResultVar} {res:SV} {b:Bool} {I:List SV} {J J':List SB}:z9g Γ P e rs J' res .normal b I J=endH Γ e J J' res (tick (wan P I J rs)):=_root_.id rfl
theorem wck {res x:SV} {J J':List SB}:endH Γ e J J' res (some x)=StH Γ e [x] J [res] J':=_root_.id rfl
theorem yxr {α:Type} {x:α}:tick (some x)=some x:=_root_.id rfl
theorem zyo {J J':List SB} {res:AV} {o o':Option SV} (h:o=o') (hη:J=J'):endR J res o=endR J' res o':=by rw [h,hη]
theorem yyp {res:AV} {o o':Option (AV×List Nat)} (h:o=o'):endD res o=endD res o':=by rw [h]
theorem za4 {e J J' η1:List SB} {res:SV} {o o':Option SV} (h:o=o') (hη:J=η1):endH Γ e J J' res o=endH Γ e η1 J' res o':=by rw [h,hη]
theorem wvw {av av' res:AV} (h:av=av'):RLe av res=RLe av' res:=by rw [h]
theorem xuv {e J J' η1 η1':List SB} {I σ1 I' σ1':List SV} (h:I=σ1) (hη:J=η1) (h':I'=σ1') (hη':J'=η1'):StH Γ e I J I' J'=StH Γ e σ1 η1 σ1' η1':=by rw [h,hη,h',hη']
section
variable {o o':Oper} {I I':List SV} {J J':List SB} {b:Bool}
theorem ws0 {k:Bool->List SV->List SB->Prop} {x x':HO} (h:x=x'):doH Γ P x o I J b k=doH Γ P x' o I J b k:=by rw [h]
theorem zja {nb:Nat} {k:Bool->List Nat->List Nat->List (Nat×SV)->List (Nat×SB)->Prop} {x x':HO} (h:x=x'):doG Γ P x o I J nb b k=doG Γ P x' o I J nb b k:=by rw [h]
theorem vxr {nb:Nat} {rd rh bs:List Nat} {k:Bool->List Nat->List Nat->List (Nat×SV)->List (Nat×SB)->Prop} {r r':Option (SV×Option SB)} (h:r=r'):resG o I J nb rd rh bs b k r=resG o I J nb rd rh bs b k r':=by rw [h]
theorem vzu {c:Operand} {X Y:Bool->Prop} {v v':SV} (h:v=v'):w04 c I X Y v=w04 c I X Y v':=by rw [h]
theorem zax {c:Code} {Q:Exit->Bool->List SV->List SB->Prop} (h:I=I') (hη:J=J'):yxl Γ P e G c Q I J=yxl Γ P e G c Q I' J':=by rw [h,hη]
theorem x1g {lit fn:Bool} {ops l:List Oper} {K:Bool->List SV->List SB->Prop} (h:I=I') (hη:J=J'):y3o Γ P lit fn ops b l I J K=y3o Γ P lit fn ops b l I' J' K:=by rw [h,hη]
theorem w8k {lit fn:Bool} {nb nb':Nat} {ops l:List Oper} {acc acc':List HR} {K:Bool->List SV->List SB->Prop} (hn:nb=nb') (ha:acc=acc') (h:I=I') (hη:J=J'):vzd Γ P lit fn nb ops b l acc I J K=vzd Γ P lit fn nb' ops b l acc' I' J' K:=by rw [h,ha,hη,hn]
end
def ws2 (P:Program) (t:TypeId):TypeInfo:=(P.info? t).getD default
theorem xii {a:SV} {I:List SV}:gtS (a::I) 0=a:=rfl
theorem yll {a:SV} {I:List SV} {n:Nat}:gtS (a::I) (n+1)=gtS I n:=rfl
theorem y41 {a:SB} {J:List SB}:gB (a::J) 0=a:=rfl
theorem wra {a:SB} {J:List SB} {n:Nat}:gB (a::J) (n+1)=gB J n:=rfl
theorem zmw {l:List SV}:appL [] l=l:=rfl
theorem vmz {p:Nat×SV} {r:List (Nat×SV)} {l:List SV}:appL (p::r) l=appL r (l.set p.1 p.2):=rfl
theorem zvh {l:List SB}:appL [] l=l:=rfl
theorem yqa {p:Nat×SB} {r:List (Nat×SB)} {l:List SB}:appL (p::r) l=appL r (l.set p.1 p.2):=rfl
theorem wer {I:List SV} {t:Nat}:opdS Γ I (.tmp t)=gtS I t:=rfl
theorem x1w {I:List SV} {v:Value}:opdS Γ I (.const v)=xa8 v:=rfl
theorem wfg {I:List SV} {f:FuncId}:opdS Γ I (.func f)=.one (.dat (.raw (.func (.func f) #[] #[]))):=rfl
theorem vlj {I:List SV} {g:Nat}:opdS Γ I (.global g)=w8c Γ g:=rfl
theorem zb0 {I:List SV} {d:Nat}:nh (I.map vw) d=decide (d<I.length):=by
 unfold nh;by_cases h:d<I.length
 . rw [List.getElem?_map,List.getElem?_eq_getElem h,decide_eq_true h];simp only [Option.map_some,ykv,Bool.not_false]
 . rw [List.getElem?_map,List.getElem?_eq_none (by omega),decide_eq_false h];rfl
section
variable {a0 a1 a2 a3 a4 a5 a6 a7 a8 a9 a10 a11 a12 a13 a14 a15 x:SV} {r:List SV} {n:Nat}
theorem ygd:gtS (chS a0 a1 a2 a3 a4 a5 a6 a7 a8 a9 a10 a11 a12 a13 a14 a15 r) 0=a0:=rfl
theorem wxm:(chS a0 a1 a2 a3 a4 a5 a6 a7 a8 a9 a10 a11 a12 a13 a14 a15 r).set 0 x=chS x a1 a2 a3 a4 a5 a6 a7 a8 a9 a10 a11 a12 a13 a14 a15 r:=rfl
theorem wg3:gtS (chS a0 a1 a2 a3 a4 a5 a6 a7 a8 a9 a10 a11 a12 a13 a14 a15 r) 1=a1:=rfl
theorem w4u:(chS a0 a1 a2 a3 a4 a5 a6 a7 a8 a9 a10 a11 a12 a13 a14 a15 r).set 1 x=chS a0 x a2 a3 a4 a5 a6 a7 a8 a9 a10 a11 a12 a13 a14 a15 r:=rfl
theorem vfw:gtS (chS a0 a1 a2 a3 a4 a5 a6 a7 a8 a9 a10 a11 a12 a13 a14 a15 r) 2=a2:=rfl
theorem woz:(chS a0 a1 a2 a3 a4 a5 a6 a7 a8 a9 a10 a11 a12 a13 a14 a15 r).set 2 x=chS a0 a1 x a3 a4 a5 a6 a7 a8 a9 a10 a11 a12 a13 a14 a15 r:=rfl
theorem zdk:gtS (chS a0 a1 a2 a3 a4 a5 a6 a7 a8 a9 a10 a11 a12 a13 a14 a15 r) 3=a3:=rfl
theorem vro:(chS a0 a1 a2 a3 a4 a5 a6 a7 a8 a9 a10 a11 a12 a13 a14 a15 r).set 3 x=chS a0 a1 a2 x a4 a5 a6 a7 a8 a9 a10 a11 a12 a13 a14 a15 r:=rfl
theorem wpf:gtS (chS a0 a1 a2 a3 a4 a5 a6 a7 a8 a9 a10 a11 a12 a13 a14 a15 r) 4=a4:=rfl
theorem ye1:(chS a0 a1 a2 a3 a4 a5 a6 a7 a8 a9 a10 a11 a12 a13 a14 a15 r).set 4 x=chS a0 a1 a2 a3 x a5 a6 a7 a8 a9 a10 a11 a12 a13 a14 a15 r:=rfl
theorem wbz:gtS (chS a0 a1 a2 a3 a4 a5 a6 a7 a8 a9 a10 a11 a12 a13 a14 a15 r) 5=a5:=rfl
theorem yzi:(chS a0 a1 a2 a3 a4 a5 a6 a7 a8 a9 a10 a11 a12 a13 a14 a15 r).set 5 x=chS a0 a1 a2 a3 a4 x a6 a7 a8 a9 a10 a11 a12 a13 a14 a15 r:=rfl
theorem z1a:gtS (chS a0 a1 a2 a3 a4 a5 a6 a7 a8 a9 a10 a11 a12 a13 a14 a15 r) 6=a6:=rfl
theorem v2r:(chS a0 a1 a2 a3 a4 a5 a6 a7 a8 a9 a10 a11 a12 a13 a14 a15 r).set 6 x=chS a0 a1 a2 a3 a4 a5 x a7 a8 a9 a10 a11 a12 a13 a14 a15 r:=rfl
theorem zob:gtS (chS a0 a1 a2 a3 a4 a5 a6 a7 a8 a9 a10 a11 a12 a13 a14 a15 r) 7=a7:=rfl
theorem zeq:(chS a0 a1 a2 a3 a4 a5 a6 a7 a8 a9 a10 a11 a12 a13 a14 a15 r).set 7 x=chS a0 a1 a2 a3 a4 a5 a6 x a8 a9 a10 a11 a12 a13 a14 a15 r:=rfl
theorem yni:gtS (chS a0 a1 a2 a3 a4 a5 a6 a7 a8 a9 a10 a11 a12 a13 a14 a15 r) 8=a8:=rfl
theorem xcr:(chS a0 a1 a2 a3 a4 a5 a6 a7 a8 a9 a10 a11 a12 a13 a14 a15 r).set 8 x=chS a0 a1 a2 a3 a4 a5 a6 a7 x a9 a10 a11 a12 a13 a14 a15 r:=rfl
theorem y8n:gtS (chS a0 a1 a2 a3 a4 a5 a6 a7 a8 a9 a10 a11 a12 a13 a14 a15 r) 9=a9:=rfl
theorem vno:(chS a0 a1 a2 a3 a4 a5 a6 a7 a8 a9 a10 a11 a12 a13 a14 a15 r).set 9 x=chS a0 a1 a2 a3 a4 a5 a6 a7 a8 x a10 a11 a12 a13 a14 a15 r:=rfl
theorem wpq:gtS (chS a0 a1 a2 a3 a4 a5 a6 a7 a8 a9 a10 a11 a12 a13 a14 a15 r) 10=a10:=rfl
theorem v5u:(chS a0 a1 a2 a3 a4 a5 a6 a7 a8 a9 a10 a11 a12 a13 a14 a15 r).set 10 x=chS a0 a1 a2 a3 a4 a5 a6 a7 a8 a9 x a11 a12 a13 a14 a15 r:=rfl
theorem x89:gtS (chS a0 a1 a2 a3 a4 a5 a6 a7 a8 a9 a10 a11 a12 a13 a14 a15 r) 11=a11:=rfl
theorem wmm:(chS a0 a1 a2 a3 a4 a5 a6 a7 a8 a9 a10 a11 a12 a13 a14 a15 r).set 11 x=chS a0 a1 a2 a3 a4 a5 a6 a7 a8 a9 a10 x a12 a13 a14 a15 r:=rfl
theorem yqf:gtS (chS a0 a1 a2 a3 a4 a5 a6 a7 a8 a9 a10 a11 a12 a13 a14 a15 r) 12=a12:=rfl
theorem x0l:(chS a0 a1 a2 a3 a4 a5 a6 a7 a8 a9 a10 a11 a12 a13 a14 a15 r).set 12 x=chS a0 a1 a2 a3 a4 a5 a6 a7 a8 a9 a10 a11 x a13 a14 a15 r:=rfl
theorem z6l:gtS (chS a0 a1 a2 a3 a4 a5 a6 a7 a8 a9 a10 a11 a12 a13 a14 a15 r) 13=a13:=rfl
theorem vjp:(chS a0 a1 a2 a3 a4 a5 a6 a7 a8 a9 a10 a11 a12 a13 a14 a15 r).set 13 x=chS a0 a1 a2 a3 a4 a5 a6 a7 a8 a9 a10 a11 a12 x a14 a15 r:=rfl
theorem xjc:gtS (chS a0 a1 a2 a3 a4 a5 a6 a7 a8 a9 a10 a11 a12 a13 a14 a15 r) 14=a14:=rfl
theorem wmj:(chS a0 a1 a2 a3 a4 a5 a6 a7 a8 a9 a10 a11 a12 a13 a14 a15 r).set 14 x=chS a0 a1 a2 a3 a4 a5 a6 a7 a8 a9 a10 a11 a12 a13 x a15 r:=rfl
theorem wcy:gtS (chS a0 a1 a2 a3 a4 a5 a6 a7 a8 a9 a10 a11 a12 a13 a14 a15 r) 15=a15:=rfl
theorem yr3:(chS a0 a1 a2 a3 a4 a5 a6 a7 a8 a9 a10 a11 a12 a13 a14 a15 r).set 15 x=chS a0 a1 a2 a3 a4 a5 a6 a7 a8 a9 a10 a11 a12 a13 a14 x r:=rfl
theorem xs2:gtS (chS a0 a1 a2 a3 a4 a5 a6 a7 a8 a9 a10 a11 a12 a13 a14 a15 r) (n+16)=gtS r n:=rfl
theorem wvr:(chS a0 a1 a2 a3 a4 a5 a6 a7 a8 a9 a10 a11 a12 a13 a14 a15 r).set (n+16) x=chS a0 a1 a2 a3 a4 a5 a6 a7 a8 a9 a10 a11 a12 a13 a14 a15 (r.set n x):=rfl
theorem w9b:(chS a0 a1 a2 a3 a4 a5 a6 a7 a8 a9 a10 a11 a12 a13 a14 a15 r).length=r.length+16:=rfl
theorem xih:vs7 (a0::a1::a2::a3::a4::a5::a6::a7::a8::a9::a10::a11::a12::a13::a14::a15::r)=chS a0 a1 a2 a3 a4 a5 a6 a7 a8 a9 a10 a11 a12 a13 a14 a15 (vs7 r):=rfl
theorem vt7:vs7 (chS a0 a1 a2 a3 a4 a5 a6 a7 a8 a9 a10 a11 a12 a13 a14 a15 r)=chS a0 a1 a2 a3 a4 a5 a6 a7 a8 a9 a10 a11 a12 a13 a14 a15 (vs7 r):=rfl
theorem wfj:vs7 []=[]:=rfl
theorem vnh:vs7 [a0]=[a0]:=rfl
theorem wu2:vs7 [a0,a1]=[a0,a1]:=rfl
theorem xml:vs7 [a0,a1,a2]=[a0,a1,a2]:=rfl
theorem wqb:vs7 [a0,a1,a2,a3]=[a0,a1,a2,a3]:=rfl
theorem y2g:vs7 [a0,a1,a2,a3,a4]=[a0,a1,a2,a3,a4]:=rfl
theorem zsy:vs7 [a0,a1,a2,a3,a4,a5]=[a0,a1,a2,a3,a4,a5]:=rfl
theorem ves:vs7 [a0,a1,a2,a3,a4,a5,a6]=[a0,a1,a2,a3,a4,a5,a6]:=rfl
theorem x9w:vs7 [a0,a1,a2,a3,a4,a5,a6,a7]=[a0,a1,a2,a3,a4,a5,a6,a7]:=rfl
theorem xki:vs7 [a0,a1,a2,a3,a4,a5,a6,a7,a8]=[a0,a1,a2,a3,a4,a5,a6,a7,a8]:=rfl
theorem x63:vs7 [a0,a1,a2,a3,a4,a5,a6,a7,a8,a9]=[a0,a1,a2,a3,a4,a5,a6,a7,a8,a9]:=rfl
theorem y9p:vs7 [a0,a1,a2,a3,a4,a5,a6,a7,a8,a9,a10]=[a0,a1,a2,a3,a4,a5,a6,a7,a8,a9,a10]:=rfl
theorem yra:vs7 [a0,a1,a2,a3,a4,a5,a6,a7,a8,a9,a10,a11]=[a0,a1,a2,a3,a4,a5,a6,a7,a8,a9,a10,a11]:=rfl
theorem wcp:vs7 [a0,a1,a2,a3,a4,a5,a6,a7,a8,a9,a10,a11,a12]=[a0,a1,a2,a3,a4,a5,a6,a7,a8,a9,a10,a11,a12]:=rfl
theorem zbg:vs7 [a0,a1,a2,a3,a4,a5,a6,a7,a8,a9,a10,a11,a12,a13]=[a0,a1,a2,a3,a4,a5,a6,a7,a8,a9,a10,a11,a12,a13]:=rfl
theorem yq1:vs7 [a0,a1,a2,a3,a4,a5,a6,a7,a8,a9,a10,a11,a12,a13,a14]=[a0,a1,a2,a3,a4,a5,a6,a7,a8,a9,a10,a11,a12,a13,a14]:=rfl
theorem y6a {ks:List Nat} {i:Nat}:yck ks i (chS a0 a1 a2 a3 a4 a5 a6 a7 a8 a9 a10 a11 a12 a13 a14 a15 r)=yck ks i (a0::a1::a2::a3::a4::a5::a6::a7::a8::a9::a10::a11::a12::a13::a14::a15::r):=rfl
end
attribute [go_sem] ygd wg3 vfw zdk wpf wbz z1a zob yni y8n wpq x89 yqf z6l xjc wcy wxm w4u woz vro ye1 yzi v2r zeq xcr vno v5u wmm x0l vjp wmj yr3 wfj vnh wu2 xml wqb y2g zsy ves x9w xki x63 y9p yra wcp zbg yq1 xs2 wvr w9b xih vt7 y6a
attribute [go_sem ↓] ziw xgu ys6 vv8 vvt y3s vd5 x3s xzc
attribute [go_sem] wyx yq2 zs7 z2g zyz vge vnq wzt y1x
attribute [go_sem ↓] xtt zmo zov wmc wbk
attribute [go_sem] wu9 z4f zyx xjo xso vi5 w6r zuf w8j wah
attribute [go_sem ↓] x47 z8a yoc wft yeo v1s
attribute [go_sem] z7z voc z6v wac w9y ymh
attribute [go_sem] z9e x7v vvs x49 zhs wm9 yd0 zv2 vpj wn3 xan zr2 z1v
attribute [go_sem] xl3 v5b x6e zn2 wdi vj4 zqo xqw wlt y8i y3q wmb yqv z2l
attribute [go_sem] ytu xkr xh2 veo zyg xv0 wck yxr
attribute [congr] ws0 zja vxr vzu zax x1g w8k xzi w1v zyo yyp za4 wvw xuv
attribute [go_sem] xii yll y41 wra zmw vmz zvh yqa wer x1w wfg vlj zb0
attribute [go_sem] vu8 zpb wxy yej anyS yrc yck yim wz8 nxtB
attribute [go_sem] xsn opF zqg xzg fBin fUn wfd v47 xws wr0 zl3 vj7 fLen y57 zth fNil vf9 vte fBox opH opP vj1 wds wds.callG vii wew opH.appO oldO oldR av2 vO nO isNil vem
attribute [go_sem] v6u rawS vby vg7 yi8 TI.many seeH x71 vlp vui ydz ptrH lenH natH yjh yw0 argD zfb wy5 z5d vug resS zxi v9n xa8 w8c frzB frzE y10 subC zyf w8n appT dstH srcH x03
attribute [go_sem] yvo updM kEq wdo keyV vi3 wii vms voj vs5 yw7 wan xu5 xyn y4f wla oB oN x72 intS ckH vk7 z00 wsi wco vw vwO vwG datL datH
end Go.Hp
namespace Go.Slot.T
open Go Go.RowKit Go.Slot Go.Hp
open Go.Proofs.Tryz (prog)
theorem m1:mkTI prog 1=some ⟨1,8,[Cell.raw Value.nilFunc],Sh.cell⟩:=by kernel_rfl
attribute [go_sem] m1
theorem z1:zya prog 1=some (SV.one (HC.dat (Cell.raw Value.nilFunc))):=by kernel_rfl
attribute [go_sem] z1
theorem m2:mkTI prog 2=some ⟨1,8,[Cell.raw (Value.int IntKind.i64 0)],Sh.int IntKind.i64⟩:=by kernel_rfl
attribute [go_sem] m2
theorem u2:prog.underlying 2=some (TypeDesc.int IntKind.i64):=by kernel_rfl
attribute [go_sem] u2
theorem z2:zya prog 2=some (SV.one (HC.dat (Cell.raw (Value.int IntKind.i64 0)))):=by kernel_rfl
attribute [go_sem] z2
theorem w3 {k:TI->OR}:wgh prog 3 k=k ⟨1,8,[Cell.raw (Value.int IntKind.i64 0)],Sh.int IntKind.i64⟩:=x14 (by kernel_rfl)
theorem m3:mkTI prog 3=some ⟨1,8,[Cell.raw (Value.int IntKind.i64 0)],Sh.int IntKind.i64⟩:=by kernel_rfl
attribute [go_sem ↓] w3
attribute [go_sem] m3
theorem u3:prog.underlying 3=some (TypeDesc.int IntKind.i64):=by kernel_rfl
attribute [go_sem] u3
theorem m4:mkTI prog 4=some ⟨1,1,[Cell.raw (Value.bool false)],Sh.bool⟩:=by kernel_rfl
attribute [go_sem] m4
theorem w5 {k:TI->OR}:wgh prog 5 k=k ⟨1,1,[Cell.raw (Value.int IntKind.u8 0)],Sh.int IntKind.u8⟩:=x14 (by kernel_rfl)
theorem m5:mkTI prog 5=some ⟨1,1,[Cell.raw (Value.int IntKind.u8 0)],Sh.int IntKind.u8⟩:=by kernel_rfl
attribute [go_sem ↓] w5
attribute [go_sem] m5
theorem u5:prog.underlying 5=some (TypeDesc.int IntKind.u8):=by kernel_rfl
attribute [go_sem] u5
theorem w9 {k:TI->OR}:wgh prog 9 k=k ⟨1,16,[Cell.raw (Value.string ⟨⟨[]⟩⟩)],Sh.string⟩:=x14 (by kernel_rfl)
theorem m9:mkTI prog 9=some ⟨1,16,[Cell.raw (Value.string ⟨⟨[]⟩⟩)],Sh.string⟩:=by kernel_rfl
attribute [go_sem ↓] w9
attribute [go_sem] m9
theorem w22 {k:TI->OR}:wgh prog 22 k=k ⟨1,24,[Cell.zc],Sh.slice 24 5 72 none⟩:=x14 (by kernel_rfl)
theorem m22:mkTI prog 22=some ⟨1,24,[Cell.zc],Sh.slice 24 5 72 none⟩:=by kernel_rfl
attribute [go_sem ↓] w22
attribute [go_sem] m22
theorem m24:mkTI prog 24=some ⟨5,72,[Cell.raw (Value.int IntKind.i64 0),Cell.raw (Value.int IntKind.i64 0),Cell.raw (Value.string ⟨⟨[]⟩⟩),Cell.raw (Value.string ⟨⟨[]⟩⟩),Cell.zc],Sh.struct [(0,1,3),(1,1,3),(2,1,9),(3,1,9),(4,1,22)]⟩:=by kernel_rfl
attribute [go_sem] m24
theorem w25 {k:TI->OR}:wgh prog 25 k=k ⟨1,24,[Cell.zc],Sh.slice 49 8 128 none⟩:=x14 (by kernel_rfl)
theorem m25:mkTI prog 25=some ⟨1,24,[Cell.zc],Sh.slice 49 8 128 none⟩:=by kernel_rfl
attribute [go_sem ↓] w25
attribute [go_sem] m25
theorem w26 {k:TI->OR}:wgh prog 26 k=k ⟨1,24,[Cell.zc],Sh.slice 40 3 56 none⟩:=x14 (by kernel_rfl)
theorem m26:mkTI prog 26=some ⟨1,24,[Cell.zc],Sh.slice 40 3 56 none⟩:=by kernel_rfl
attribute [go_sem ↓] w26
attribute [go_sem] m26
theorem w30 {k:TI->OR}:wgh prog 30 k=k ⟨1,24,[Cell.zc],Sh.slice 3 1 8 (some IntKind.i64)⟩:=x14 (by kernel_rfl)
theorem m30:mkTI prog 30=some ⟨1,24,[Cell.zc],Sh.slice 3 1 8 (some IntKind.i64)⟩:=by kernel_rfl
attribute [go_sem ↓] w30
attribute [go_sem] m30
theorem m32:mkTI prog 32=some ⟨2,32,[Cell.raw (Value.int IntKind.i64 0),Cell.zc],Sh.struct [(0,1,3),(1,1,30)]⟩:=by kernel_rfl
attribute [go_sem] m32
theorem w34 {k:TI->OR}:wgh prog 34 k=k ⟨4,64,[Cell.raw (Value.int IntKind.i64 0),Cell.zc,Cell.raw (Value.int IntKind.i64 0),Cell.zc],Sh.struct [(0,2,32),(2,2,32)]⟩:=x14 (by kernel_rfl)
theorem m34:mkTI prog 34=some ⟨4,64,[Cell.raw (Value.int IntKind.i64 0),Cell.zc,Cell.raw (Value.int IntKind.i64 0),Cell.zc],Sh.struct [(0,2,32),(2,2,32)]⟩:=by kernel_rfl
attribute [go_sem ↓] w34
attribute [go_sem] m34
theorem w35 {k:TI->OR}:wgh prog 35 k=k ⟨1,24,[Cell.zc],Sh.slice 34 4 64 none⟩:=x14 (by kernel_rfl)
theorem m35:mkTI prog 35=some ⟨1,24,[Cell.zc],Sh.slice 34 4 64 none⟩:=by kernel_rfl
attribute [go_sem ↓] w35
attribute [go_sem] m35
theorem m37:mkTI prog 37=some ⟨5,88,[Cell.raw (Value.int IntKind.i64 0),Cell.zc,Cell.raw (Value.int IntKind.i64 0),Cell.zc,Cell.zc],Sh.struct [(0,4,34),(4,1,35)]⟩:=by kernel_rfl
attribute [go_sem] m37
theorem z37:zya prog 37=some (SV.agg [HC.dat (Cell.raw (Value.int IntKind.i64 0)),HC.dat Cell.zc,HC.dat (Cell.raw (Value.int IntKind.i64 0)),HC.dat Cell.zc,HC.dat Cell.zc]):=by kernel_rfl
attribute [go_sem] z37
theorem w38 {k:TI->OR}:wgh prog 38 k=k ⟨1,24,[Cell.zc],Sh.slice 146 2 16 none⟩:=x14 (by kernel_rfl)
theorem m38:mkTI prog 38=some ⟨1,24,[Cell.zc],Sh.slice 146 2 16 none⟩:=by kernel_rfl
attribute [go_sem ↓] w38
attribute [go_sem] m38
theorem m40:mkTI prog 40=some ⟨3,56,[Cell.raw (Value.string ⟨⟨[]⟩⟩),Cell.raw (Value.string ⟨⟨[]⟩⟩),Cell.zc],Sh.struct [(0,1,9),(1,1,9),(2,1,38)]⟩:=by kernel_rfl
attribute [go_sem] m40
theorem z40:zya prog 40=some (SV.agg [HC.dat (Cell.raw (Value.string ⟨⟨[]⟩⟩)),HC.dat (Cell.raw (Value.string ⟨⟨[]⟩⟩)),HC.dat Cell.zc]):=by kernel_rfl
attribute [go_sem] z40
theorem w41 {k:TI->OR}:wgh prog 41 k=k ⟨1,24,[Cell.zc],Sh.slice 47 6 104 none⟩:=x14 (by kernel_rfl)
theorem m41:mkTI prog 41=some ⟨1,24,[Cell.zc],Sh.slice 47 6 104 none⟩:=by kernel_rfl
attribute [go_sem ↓] w41
attribute [go_sem] m41
theorem w42 {k:TI->OR}:wgh prog 42 k=k ⟨1,24,[Cell.zc],Sh.slice 51 9 144 none⟩:=x14 (by kernel_rfl)
theorem m42:mkTI prog 42=some ⟨1,24,[Cell.zc],Sh.slice 51 9 144 none⟩:=by kernel_rfl
attribute [go_sem ↓] w42
attribute [go_sem] m42
theorem w44 {k:TI->OR}:wgh prog 44 k=k ⟨1,24,[Cell.zc],Sh.slice 9 1 16 none⟩:=x14 (by kernel_rfl)
theorem m44:mkTI prog 44=some ⟨1,24,[Cell.zc],Sh.slice 9 1 16 none⟩:=by kernel_rfl
attribute [go_sem ↓] w44
attribute [go_sem] m44
theorem w47 {k:TI->OR}:wgh prog 47 k=k ⟨6,104,[Cell.raw (Value.string ⟨⟨[]⟩⟩),Cell.raw (Value.int IntKind.i64 0),Cell.zc,Cell.raw (Value.int IntKind.i64 0),Cell.zc,Cell.zc],Sh.struct [(0,1,9),(1,5,37)]⟩:=x14 (by kernel_rfl)
theorem m47:mkTI prog 47=some ⟨6,104,[Cell.raw (Value.string ⟨⟨[]⟩⟩),Cell.raw (Value.int IntKind.i64 0),Cell.zc,Cell.raw (Value.int IntKind.i64 0),Cell.zc,Cell.zc],Sh.struct [(0,1,9),(1,5,37)]⟩:=by kernel_rfl
attribute [go_sem ↓] w47
attribute [go_sem] m47
theorem m49:mkTI prog 49=some ⟨8,128,[Cell.raw (Value.int IntKind.i64 0),Cell.zc,Cell.raw (Value.int IntKind.i64 0),Cell.zc,Cell.raw (Value.int IntKind.i64 0),Cell.zc,Cell.raw (Value.int IntKind.i64 0),Cell.zc],Sh.struct [(0,4,34),(4,4,34)]⟩:=by kernel_rfl
attribute [go_sem] m49
theorem z49:zya prog 49=some (SV.agg [HC.dat (Cell.raw (Value.int IntKind.i64 0)),HC.dat Cell.zc,HC.dat (Cell.raw (Value.int IntKind.i64 0)),HC.dat Cell.zc,HC.dat (Cell.raw (Value.int IntKind.i64 0)),HC.dat Cell.zc,HC.dat (Cell.raw (Value.int IntKind.i64 0)),HC.dat Cell.zc]):=by kernel_rfl
attribute [go_sem] z49
theorem w51 {k:TI->OR}:wgh prog 51 k=k ⟨9,144,[Cell.raw (Value.string ⟨⟨[]⟩⟩),Cell.raw (Value.int IntKind.i64 0),Cell.zc,Cell.raw (Value.int IntKind.i64 0),Cell.zc,Cell.raw (Value.int IntKind.i64 0),Cell.zc,Cell.raw (Value.int IntKind.i64 0),Cell.zc],Sh.struct [(0,1,9),(1,8,49)]⟩:=x14 (by kernel_rfl)
theorem m51:mkTI prog 51=some ⟨9,144,[Cell.raw (Value.string ⟨⟨[]⟩⟩),Cell.raw (Value.int IntKind.i64 0),Cell.zc,Cell.raw (Value.int IntKind.i64 0),Cell.zc,Cell.raw (Value.int IntKind.i64 0),Cell.zc,Cell.raw (Value.int IntKind.i64 0),Cell.zc],Sh.struct [(0,1,9),(1,8,49)]⟩:=by kernel_rfl
attribute [go_sem ↓] w51
attribute [go_sem] m51
theorem m80:mkTI prog 80=some ⟨7,96,[Cell.raw (Value.bool false),Cell.raw (Value.bool false),Cell.raw (Value.int IntKind.i64 0),Cell.zc,Cell.raw (Value.int IntKind.i64 0),Cell.zc,Cell.zc],Sh.struct [(0,1,4),(1,1,4),(2,5,37)]⟩:=by kernel_rfl
attribute [go_sem] m80
theorem m84:mkTI prog 84=some ⟨11,136,[Cell.raw (Value.bool false),Cell.raw (Value.bool false),Cell.raw (Value.bool false),Cell.raw (Value.int IntKind.i64 0),Cell.zc,Cell.raw (Value.int IntKind.i64 0),Cell.zc,Cell.raw (Value.int IntKind.i64 0),Cell.zc,Cell.raw (Value.int IntKind.i64 0),Cell.zc],Sh.struct [(0,1,4),(1,1,4),(2,1,4),(3,8,49)]⟩:=by kernel_rfl
attribute [go_sem] m84
theorem m106:mkTI prog 106=some ⟨1,8,[Cell.raw (Value.map none)],Sh.map 9 37⟩:=by kernel_rfl
attribute [go_sem] m106
theorem m107:mkTI prog 107=some ⟨1,8,[Cell.raw (Value.map none)],Sh.map 9 40⟩:=by kernel_rfl
attribute [go_sem] m107
theorem m109:mkTI prog 109=some ⟨3,24,[Cell.raw (Value.int IntKind.i64 0),Cell.raw (Value.map none),Cell.raw (Value.map none)],Sh.struct [(0,1,3),(1,1,106),(2,1,107)]⟩:=by kernel_rfl
attribute [go_sem] m109
theorem w114 {k:TI->OR}:wgh prog 114 k=k ⟨1,24,[Cell.zc],Sh.slice 80 7 96 none⟩:=x14 (by kernel_rfl)
theorem m114:mkTI prog 114=some ⟨1,24,[Cell.zc],Sh.slice 80 7 96 none⟩:=by kernel_rfl
attribute [go_sem ↓] w114
attribute [go_sem] m114
theorem m118:mkTI prog 118=some ⟨1,8,[Cell.raw (Value.map none)],Sh.map 9 49⟩:=by kernel_rfl
attribute [go_sem] m118
theorem m120:mkTI prog 120=some ⟨2,16,[Cell.raw (Value.map none),Cell.raw (Value.map none)],Sh.struct [(0,1,118),(1,1,107)]⟩:=by kernel_rfl
attribute [go_sem] m120
theorem m140:mkTI prog 140=some ⟨6,48,[Cell.raw (Value.int IntKind.i64 0),Cell.raw (Value.int IntKind.i64 0),Cell.raw (Value.int IntKind.i64 0),Cell.raw (Value.int IntKind.i64 0),Cell.raw (Value.int IntKind.i64 0),Cell.raw (Value.int IntKind.i64 0)],Sh.array 6 3 1⟩:=by kernel_rfl
attribute [go_sem] m140
theorem m142:mkTI prog 142=some ⟨10,112,[Cell.raw (Value.int IntKind.i64 0),Cell.raw (Value.int IntKind.i64 0),Cell.raw (Value.int IntKind.i64 0),Cell.raw (Value.int IntKind.i64 0),Cell.raw (Value.int IntKind.i64 0),Cell.raw (Value.int IntKind.i64 0),Cell.raw (Value.int IntKind.i64 0),Cell.zc,Cell.raw (Value.int IntKind.i64 0),Cell.zc],Sh.struct [(0,6,140),(6,4,34)]⟩:=by kernel_rfl
attribute [go_sem] m142
theorem m146:mkTI prog 146=some ⟨2,16,[Cell.raw (Value.int IntKind.i64 0),Cell.raw (Value.int IntKind.i64 0)],Sh.struct [(0,1,3),(1,1,3)]⟩:=by kernel_rfl
attribute [go_sem] m146
theorem w156 {k:TI->OR}:wgh prog 156 k=k ⟨1,24,[Cell.zc],Sh.slice 84 11 136 none⟩:=x14 (by kernel_rfl)
theorem m156:mkTI prog 156=some ⟨1,24,[Cell.zc],Sh.slice 84 11 136 none⟩:=by kernel_rfl
attribute [go_sem ↓] w156
attribute [go_sem] m156
theorem w163 {k:TI->OR}:wgh prog 163 k=k ⟨1,8,[Cell.raw (Value.int IntKind.u64 0)],Sh.int IntKind.u64⟩:=x14 (by kernel_rfl)
attribute [go_sem ↓] w163
theorem u163:prog.underlying 163=some (TypeDesc.int IntKind.u64):=by kernel_rfl
attribute [go_sem] u163
theorem w164 {k:TI->OR}:wgh prog 164 k=k ⟨1,8,[Cell.raw (Value.int IntKind.u64 0)],Sh.int IntKind.u64⟩:=x14 (by kernel_rfl)
attribute [go_sem ↓] w164
theorem u164:prog.underlying 164=some (TypeDesc.int IntKind.u64):=by kernel_rfl
attribute [go_sem] u164
theorem w177 {k:TI->OR}:wgh prog 177 k=k ⟨1,24,[Cell.zc],Sh.slice 181 2 24 none⟩:=x14 (by kernel_rfl)
theorem m177:mkTI prog 177=some ⟨1,24,[Cell.zc],Sh.slice 181 2 24 none⟩:=by kernel_rfl
attribute [go_sem ↓] w177
attribute [go_sem] m177
theorem m181:mkTI prog 181=some ⟨2,24,[Cell.raw (Value.string ⟨⟨[]⟩⟩),Cell.raw (Value.int IntKind.i64 0)],Sh.struct [(0,1,9),(1,1,3)]⟩:=by kernel_rfl
attribute [go_sem] m181
theorem m214:mkTI prog 214=some ⟨1,8,[Cell.raw (Value.pointer none)],Sh.cell⟩:=by kernel_rfl
attribute [go_sem] m214
theorem v8q:vjd prog 214=some 217:=by kernel_rfl
attribute [go_sem] v8q
theorem u214:prog.underlying 214=some (TypeDesc.pointer 217):=by kernel_rfl
attribute [go_sem] u214
theorem m215:mkTI prog 215=some ⟨1,24,[Cell.zc],Sh.slice 5 1 1 (some IntKind.u8)⟩:=by kernel_rfl
attribute [go_sem] m215
theorem m217:mkTI prog 217=some ⟨2,32,[Cell.raw (Value.pointer none),Cell.zc],Sh.struct [(0,1,214),(1,1,215)]⟩:=by kernel_rfl
attribute [go_sem] m217
theorem vc9:vjd prog 229=some 5:=by kernel_rfl
attribute [go_sem] vc9
theorem u231:prog.underlying 231=some TypeDesc.unsafePointer:=by kernel_rfl
attribute [go_sem] u231
theorem y0v:prog.info? 217=some (ws2 prog 217):=by kernel_rfl
attribute [go_sem] y0v
theorem xfd:((ws2 prog 217).size != 0)=true:=by kernel_rfl
attribute [go_sem] xfd
theorem e193:xts prog 193=true:=by kernel_rfl
attribute [go_sem] e193
theorem xnk:(List.range 211).all (fun n=>n==193||!xts prog n)=true:=by kernel_rfl
theorem eAll (n:Nat) (h:n<211) (h193:n≠193):xts prog n=false:=by
 have:=List.all_eq_true.1 xnk n (List.mem_range.2 h)
 simpa [h193] using this
attribute [go_sem] eAll
theorem mixed:prog.follows .mixedOrders=true:=by kernel_rfl
theorem z4c {k:Bool->Prop}:xjp prog k=k true:=propext ⟨fun h=>h.2,fun h=>⟨mixed,h⟩⟩
attribute [go_sem] z4c
end Go.Slot.T
