/- The proof, part W17: Ib. -/
import Derived.Test.YtbdoipfmafbhoaaGreatDoorW16
namespace Go.Hp
open Go Go.RowKit Go.Slot
variable {P:Program} {Γ:List (Nat×List Cell)} {e:List SB} {G:List (Nat×List GhH)}
def chS (a0 a1 a2 a3 a4 a5 a6 a7 a8 a9 a10 a11 a12 a13 a14 a15:SV) (r:List SV):List SV:=a0::a1::a2::a3::a4::a5::a6::a7::a8::a9::a10::a11::a12::a13::a14::a15::r
def y9k:List SV->List SV
 | a0::a1::a2::a3::a4::a5::a6::a7::a8::a9::a10::a11::a12::a13::a14::a15::r=>chS a0 a1 a2 a3 a4 a5 a6 a7 a8 a9 a10 a11 a12 a13 a14 a15 (y9k r)
 | l=>l
theorem wf8:∀ l:List SV,y9k l=l
 | []=>rfl
 | [a0]=>rfl
 | [a0,a1]=>rfl
 | [a0,a1,a2]=>rfl
 | [a0,a1,a2,a3]=>rfl
 | [a0,a1,a2,a3,a4]=>rfl
 | [a0,a1,a2,a3,a4,a5]=>rfl
 | [a0,a1,a2,a3,a4,a5,a6]=>rfl
 | [a0,a1,a2,a3,a4,a5,a6,a7]=>rfl
 | [a0,a1,a2,a3,a4,a5,a6,a7,a8]=>rfl
 | [a0,a1,a2,a3,a4,a5,a6,a7,a8,a9]=>rfl
 | [a0,a1,a2,a3,a4,a5,a6,a7,a8,a9,a10]=>rfl
 | [a0,a1,a2,a3,a4,a5,a6,a7,a8,a9,a10,a11]=>rfl
 | [a0,a1,a2,a3,a4,a5,a6,a7,a8,a9,a10,a11,a12]=>rfl
 | [a0,a1,a2,a3,a4,a5,a6,a7,a8,a9,a10,a11,a12,a13]=>rfl
 | [a0,a1,a2,a3,a4,a5,a6,a7,a8,a9,a10,a11,a12,a13,a14]=>rfl
 | a0::a1::a2::a3::a4::a5::a6::a7::a8::a9::a10::a11::a12::a13::a14::a15::r=>by
  show chS a0 a1 a2 a3 a4 a5 a6 a7 a8 a9 a10 a11 a12 a13 a14 a15 (y9k r)=_;rw [wf8 r];rfl
def endD (res:AV):Option (AV×List Nat)->Prop
 | some (av,_)=>RLe av res
 | none=>False
def endR (η:List SB) (res:AV):Option SV->Prop
 | some x=>endD res (xek η x)
 | none=>False
theorem ydj {η:List SB} {res:AV} {o:Option SV} (h:endR η res o):∃ x av bs,o=some x/\xek η x=some (av,bs)/\RLe av res:=by
 cases o with
 | none=>exact h.elim
 | some x=>
  have h:endD res (xek η x):=h;unfold endD at h;split at h
  . rename_i av bs hd;exact ⟨x,av,bs,rfl,hd,h⟩
  . exact h.elim
def yqy (P:Program) (rs:List ResultVar) (res:AV):Exit->Bool->List SV->List SB->Prop
 | .ret,_,J,η | .normal,_,J,η=>endR η res (xn6 P J η rs)
 | _,_,_,_=>False
theorem CallsD.run (G:List (Nat×List GhH)) {f:FuncId} {fn:Func} {c:Code} {args:List AV} {sl:List SV} {res:AV} (hf:P.funcs[f]? = some fn) (hb:fn.body=some c) (hname:(fn.name == "runtime.NumGoroutine")=false) (ha:x7f args=some sl)
 (h:RH Γ P [] G c true (yqy P fn.results.toList res) (y9k (sl++List.replicate (fn.ntmps-sl.length) .undef)) []):CallsD Γ P f args res:=by
 rw [wf8] at h;refine CallsD.of hf hb hname ha ((RH.sound c true _ _ _ h).mono ?_);intro ex J η ⟨b,h⟩
 cases ex with
 | normal=>exact ydj h
 | ret=>exact ydj h
 | _=>exact h.elim
def endH (Γ:List (Nat×List Cell)) (e η:List SB) (η':List SB) (res:SV):Option SV->Prop
 | some x=>StH Γ e [x] η [res] η'
 | none=>False
def zix (Γ:List (Nat×List Cell)) (P:Program) (e:List SB) (rs:List ResultVar) (η':List SB) (res:SV):Exit->Bool->List SV->List SB->Prop
 | .ret,_,J,η | .normal,_,J,η=>endH Γ e η η' res (xn6 P J η rs)
 | _,_,_,_=>False
theorem wtt {η η':List SB} {res:SV} {o:Option SV} (h:endH Γ e η η' res o):∃ x,o=some x/\StH Γ e [x] η [res] η':=by
 cases o with
 | none=>exact h.elim
 | some x=>exact ⟨x,rfl,h⟩
theorem wod.run (G:List (Nat×List GhH)) {f:FuncId} {fn:Func} {c:Code} {η η':List SB} {args:List SV} {res:SV} (hf:P.funcs[f]? = some fn) (hb:fn.body=some c) (hname:(fn.name == "runtime.NumGoroutine")=false)
 (h:RH Γ P η G c true (zix Γ P η fn.results.toList η' res) (y9k (args++List.replicate (fn.ntmps-args.length) .undef)) η):wod Γ P f η args η' res:=by
 rw [wf8] at h;refine wod.of hf hb hname ((RH.sound c true _ _ _ h).mono ?_);intro ex J η1 ⟨b,h⟩
 cases ex with
 | normal=>exact wtt h
 | ret=>exact wtt h
 | _=>exact h.elim
theorem y83.le {c:Code} {Q:Exit->List SV->List SB->Prop} {J J':List SV} {η η':List SB} (h:StH Γ e J η J' η') (hc:y83 Γ P e c Q J' η'):y83 Γ P e c Q J η:=fun E ρ a w hE hR=>by
 obtain ⟨ρ',hR'⟩:=h E ρ a w hE hR;exact hc E ρ' a w hE hR'
theorem y83.fam {α : Type} {c : Code} {Q : Exit → List SV → List SB → Prop} (invS : α → List SV) (invH : α → List SB) (pre : α → Prop) (μ : α → Nat)
 (round:∀ x,pre x->z1o Γ P e c (vxb (fun J' η'=>∃ y,pre y/\μ y<μ x/\StH Γ e J' η' (invS y) (invH y)) Q) (invS x) (invH x)):∀(n:Nat) (x:α),μ x<n->pre x->y83 Γ P e c Q (invS x) (invH x)
 | 0,_,h,_=>absurd h (Nat.not_lt_zero _)
 | n + 1, x, h, hx => y83.round ((round x hx).mono (fun ex J η hq => by
  cases ex with
  | normal=>
   obtain ⟨y,h1,h2,h3⟩:=hq;exact y83.le h3 (y83.fam invS invH pre μ round n y (by omega) h1)
  | _=>exact hq))
theorem wwt {α:Type} {c:Code} {Q:Exit->Bool->List SV->List SB->Prop} {J:List SV} {η:List SB} (keep:List Nat) (ch:α->List (Nat×SV)) (hp:α->List SB) (pre:α->Prop) (μ:α->Nat) (x0:α) (h0:pre x0)
 (hle:StH Γ e J η (appL (ch x0) (zkc keep 0 J)) (hp x0))
 (round:∀ x,pre x->RH Γ P e G c true (zi1 (hide (fun _ J' η'=>∃ y,pre y/\μ y<μ x/\StH Γ e J' η' (appL (ch y) (zkc keep 0 J)) (hp y)) ()) Q) (y9k (appL (ch x) (zkc keep 0 J))) (hp x)):xhg Γ P e G c Q J η:=
 z1o.le hle (y83.loop (y83.fam (fun x=>appL (ch x) (zkc keep 0 J)) hp pre μ (fun x hx=>(RH.sound c true _ _ _ (wf8 (appL (ch x) (zkc keep 0 J))▸round x hx)).mono (fun ex J' η' ⟨b,h⟩=>by
  cases ex with
  | normal=>exact h
  | _=>exact ⟨b,h⟩)) _ x0 (Nat.lt_succ_self _) h0))
def yd6 (Γ:List (Nat×List Cell)) (P:Program) (e:List SB) (_G:List (Nat×List GhH)) (c:Code) (Q:Exit->Bool->List SV->List SB->Prop) (J:List SV) (η:List SB):Prop:=y83 Γ P e c (outH Q) J η
theorem zp2 {c:Code} {Q:Exit->Bool->List SV->List SB->Prop} {J:List SV} {η:List SB} (h:RH Γ P e G c true (zi1 (hide (fun _ J' η'=>yd6 Γ P e G c Q J' η') ()) Q) J η):yd6 Γ P e G c Q J η:=
 y83.round ((RH.sound c true _ _ _ h).mono (fun ex J' η' ⟨b,h⟩=>by
  cases ex with
  | normal=>exact h
  | _=>exact ⟨b,h⟩))
theorem zl7 {c:Code} {Q:Exit->Bool->List SV->List SB->Prop} {J:List SV} {η:List SB} (h:RH Γ P e G c true (zi1 (hide (fun _ J' η'=>yd6 Γ P e G c Q J' η') ()) Q) J η):xhg Γ P e G c Q J η:=y83.loop (zp2 h)
theorem xut {α:Type} {x y:Code} {Q:Exit->Bool->List SV->List SB->Prop} {J:List SV} {η:List SB} (keep:List Nat) (ch:α->List (Nat×SV)) (hp:α->List SB) (pre:α->Prop)
 (hx:RH Γ P e G x true (zi1 (hide (fun _ J' η'=>∃ a,pre a/\StH Γ e J' η' (appL (ch a) (zkc keep 0 J)) (hp a)) ()) Q) J η)
 (hy:∀ a,pre a->RH Γ P e G y true Q (y9k (appL (ch a) (zkc keep 0 J))) (hp a)):y1q Γ P e G x y Q J η:=
 zx8 ((RH.sound x true _ _ _ hx).mono (fun ex J' η' ⟨b,h⟩=>by
  cases ex with
  | normal=>
   obtain ⟨a,h1,h2⟩:=h;exact z1o.le h2 (RH.sound y true _ _ _ (wf8 (appL (ch a) (zkc keep 0 J))▸hy a h1))
  | _=>exact ⟨b,h⟩))
def nrmV (J:List SV):List SV:=J
theorem ybm {a:SV} {J:List SV}:nrmV (a::J)=a::J:=_root_.id rfl
theorem z6e {a0 a1 a2 a3 a4 a5 a6 a7 a8 a9 a10 a11 a12 a13 a14 a15:SV} {r:List SV}:nrmV (chS a0 a1 a2 a3 a4 a5 a6 a7 a8 a9 a10 a11 a12 a13 a14 a15 r)=chS a0 a1 a2 a3 a4 a5 a6 a7 a8 a9 a10 a11 a12 a13 a14 a15 r:=_root_.id rfl
def nrmH (l:List HR):List HR:=l
theorem wis:nrmH []=[]:=_root_.id rfl
theorem v5i {a:HR} {l:List HR}:nrmH (a::l)=a::l:=_root_.id rfl
def flF (c d:Bool) (A:Bool->Bool->Prop):Prop:=A c d
theorem yqw {A:Bool->Bool->Prop}:flF true true A=A true true:=_root_.id rfl
theorem ztn {A:Bool->Bool->Prop}:flF true false A=A true false:=_root_.id rfl
theorem zqo {A:Bool->Bool->Prop}:flF false true A=A false true:=_root_.id rfl
theorem v3n {A:Bool->Bool->Prop}:flF false false A=A false false:=_root_.id rfl
theorem v4e {c c' d d':Bool} {A:Bool->Bool->Prop} (h:c=c') (h2:d=d'):flF c d A=flF c' d' A:=by rw [h,h2]
theorem zhq {f:Bool->List SV->List SB->Prop} {u:U f} {b:Bool} {J:List SV} {η:List SB}:hide f u b J η=f b J η:=_root_.id rfl
theorem y4l {f:Bool->Bool->Prop} {u:U f} {b c:Bool}:hide f u b c=f b c:=_root_.id rfl
theorem vj9 {f:Bool->List SB->SV->Prop} {u:U f} {b:Bool} {η:List SB} {x:SV}:hide f u b η x=f b η x:=_root_.id rfl
theorem y25 {f:Bool->List Nat->List (Nat×SB)->SV->Prop} {u:U f} {b:Bool} {rh:List Nat} {η:List (Nat×SB)} {x:SV}:hide f u b rh η x=f b rh η x:=_root_.id rfl
theorem vwu {f:Bool->List Nat->List Nat->List (Nat×SV)->List (Nat×SB)->Prop} {u:U f} {b:Bool} {rd rh:List Nat} {x:List (Nat×SV)} {y:List (Nat×SB)}:hide f u b rd rh x y=f b rd rh x y:=_root_.id rfl
theorem waq {rd rh:List Nat} {x:List (Nat×SV)} {y:List (Nat×SB)} {z:Option SB}:tick (HO.eff rd rh x y z)=HO.eff rd rh x y z:=_root_.id rfl
theorem xci {f:FuncId} {l:List AV} {rd rh bs:List Nat}:tick (HO.callD f l rd rh bs)=HO.callD f l rd rh bs:=_root_.id rfl
theorem wh7 {f:FuncId} {l:List SV} {rd:List Nat}:tick (HO.callH f l rd)=HO.callH f l rd:=_root_.id rfl
theorem wfp {r:Option SV} {z:SV} {ok:Bool} {rd rh:List Nat}:tick (HO.look r z ok rd rh)=HO.look r z ok rd rh:=_root_.id rfl
theorem yoc:tick HO.bad=HO.bad:=_root_.id rfl
theorem z9g:tick Hp.GR.plain=Hp.GR.plain:=_root_.id rfl
theorem yta {d:Nat} {c b:Bool}:tick (Hp.GR.when d c b)=Hp.GR.when d c b:=_root_.id rfl
theorem vx9 {d:Nat}:tick (Hp.GR.skip d)=Hp.GR.skip d:=_root_.id rfl
theorem z3y {h:HC}:tick (SV.one h)=SV.one h:=_root_.id rfl
section
variable {Q:Exit->Bool->List SV->List SB->Prop} {J:List SV} {η:List SB}
theorem y13:RH Γ P e G .skip true Q J η=Q .normal true J η:=_root_.id rfl
theorem vmm {id:Nat} {l:List Oper}:RH Γ P e G (.region id l.toArray false) true Q J η=flF (tick (!(ws0 (vlx G id)))) (tick (!(ze6 (vlx G id)))) (hide (fun lit fn=>y9l Γ P lit fn l true l (nrmV (anyS (vlx G id) J)) η (Q .normal)) ()):=_root_.id rfl
theorem xfj {id:Nat} {l:List Oper}:RH Γ P e G (.region id l.toArray true) true Q J η=zc2 P (hide (fun _=>flF (tick (!(ws0 (vlx G id)))) (tick (!(ze6 (vlx G id)))) (hide (fun lit fn=>y6c Γ P lit fn η.length l true l (nrmH []) (nrmV (anyS (vlx G id) J)) (η++wty (vlx G id)) (hide (fun b s t=>xck η.length (Q .normal) b s t) ())) ())) ()):=_root_.id rfl
theorem wvv {x y:Code}:RH Γ P e G (.seq x y) true Q J η=seqF (tick (y5l G y)) (hide (fun _=>y1q Γ P e G x y Q J η) ()) (hide (fun _=>RH Γ P e G x true (zi1 (hide (fun b J η=>RH Γ P e G y b Q J η) ()) Q) J η) ()):=_root_.id rfl
theorem y3a {c:Operand} {x y:Code}:RH Γ P e G (.cond c x y) true Q J η=ynm c J (hide (fun b=>RH Γ P e G x b Q J η) ()) (hide (fun b=>RH Γ P e G y b Q J η) ()) (tick (opdS Γ J c)):=_root_.id rfl
theorem xye {id:Nat} {x:Code}:RH Γ P e G (.block id x) true Q J η=RH Γ P e G x true (y8m id Q) J η:=_root_.id rfl
theorem zzt {x:Code}:RH Γ P e G (.loop x) true Q J η=xhg Γ P e G x Q J η:=_root_.id rfl
theorem xlz {id:Nat}:RH Γ P e G (.exit id) true Q J η=Q (.exit id) true J η:=_root_.id rfl
theorem xry:RH Γ P e G .ret true Q J η=Q .ret true J η:=_root_.id rfl
theorem wel {l:Nat}:RH Γ P e G (.label l) true Q J η=Q .normal true J η:=_root_.id rfl
theorem w0r {lit fn:Bool} {ops:List Oper} {K:Bool->List SV->List SB->Prop}:y9l Γ P lit fn ops true [] J η K=K true J η:=_root_.id rfl
theorem ycl {lit fn:Bool} {ops:List Oper} {o:Oper} {r:List Oper} {K:Bool->List SV->List SB->Prop}:y9l Γ P lit fn ops true (o::r) J η K=gdH Γ P lit fn (tick (zhz ops J o)) o J η true (hide (fun b J η=>y9l Γ P lit fn ops b r (nrmV J) η K) ()):=_root_.id rfl
theorem xmc {lit fn:Bool} {nb:Nat} {ops:List Oper} {acc:List HR} {K:Bool->List SV->List SB->Prop}:y6c Γ P lit fn nb ops true [] acc J η K=xll ops acc (hide (fun b=>K b J η) ()):=_root_.id rfl
theorem xxv {lit fn:Bool} {nb:Nat} {ops:List Oper} {o:Oper} {r:List Oper} {acc:List HR} {K:Bool->List SV->List SB->Prop}:y6c Γ P lit fn nb ops true (o::r) acc J η K=gdG Γ P lit fn nb (tick (zhz ops J o)) o J η true (hide (fun b rd rh x h=>y6c Γ P lit fn (nxtB nb h) ops b r (nrmH (acc++[⟨rd,rh,x,h⟩])) (nrmV (appL x J)) (appL h η) K) ()):=_root_.id rfl
theorem x0p {n:Nat} {k:Bool->List SV->List SB->Prop}:xck n k true J η=k true J (xxm n η):=_root_.id rfl
end
section
variable {next:Bool->List SV->List SB->Prop} {Q:Exit->Bool->List SV->List SB->Prop}
theorem y7n:zi1 next Q .normal=next:=_root_.id rfl
theorem voz {id:Nat}:zi1 next Q (.exit id)=Q (.exit id):=_root_.id rfl
theorem vzs:zi1 next Q .ret=Q .ret:=_root_.id rfl
theorem ymk {id:Nat}:y8m id Q .normal=Q .normal:=_root_.id rfl
def selH (c:Bool) (x y:Bool->List SV->List SB->Prop):Bool->List SV->List SB->Prop:=match c with
 | true=>x
 | false=>y
theorem x7x {id j:Nat}:y8m id Q (.exit j)=selH (j==id) (Q .normal) (Q (.exit j)):=by
 have h:y8m id Q (.exit j)=if j=id then Q .normal else Q (.exit j):=rfl
 rw [h];unfold selH;by_cases he:j=id
 . rw [if_pos he,show (j==id)=true from by simp [he]]
 . rw [if_neg he,show (j==id)=false from by simp [he]]
theorem wsm {x y:Bool->List SV->List SB->Prop}:selH true x y=x:=rfl
theorem x31 {x y:Bool->List SV->List SB->Prop}:selH false x y=y:=rfl
theorem v8j {c c':Bool} {x y:Bool->List SV->List SB->Prop} (h:c=c'):selH c x y=selH c' x y:=by rw [h]
theorem yki {id:Nat}:y8m id Q .ret=Q .ret:=_root_.id rfl
end
section
variable {o:Oper} {J:List SV} {η:List SB} {b:Bool} {k:Bool->List SV->List SB->Prop}
theorem x6f {rd rh:List Nat} {x:List (Nat×SV)} {h:List (Nat×SB)}:doH Γ P (.eff rd rh x h none) o J η b k=k b (appL x J) (appL h η):=_root_.id rfl
theorem wy0 {rd rh:List Nat} {x:List (Nat×SV)} {h:List (Nat×SB)} {z:SB}:doH Γ P (.eff rd rh x h (some z)) o J η b k=k b (appL x J) (appL h η++[z]):=_root_.id rfl
theorem wqi {f:FuncId} {l:List AV} {rd rh bs:List Nat}:doH Γ P (.callD f l rd rh bs) o J η b k=xet Γ P f l (appL (frzE η bs) η) (hide (fun b res=>resK o J (appL (frzE η bs) η) b k (resS η.length res)) ()) (hide (fun b η2 res=>k b (appL (v4q o res) J) η2) ()):=_root_.id rfl
theorem yhj {f:FuncId} {l:List SV} {rd:List Nat}:doH Γ P (.callH f l rd) o J η b k=v2g Γ P f η l (hide (fun b η2 res=>k b (appL (v4q o res) J) η2) ()):=_root_.id rfl
theorem yhk {r:Option SV} {z:SV} {ok:Bool} {rd rh:List Nat}:doH Γ P (.look r z ok rd rh) o J η b k=wqa o J η b k (w7n ok r z):=_root_.id rfl
theorem ypt:doH Γ P .bad o J η b k=BadO o.op J η:=_root_.id rfl
theorem xjg {y:SV}:resK o J η b k (some (y,none))=k b (appL (v4q o y) J) η:=_root_.id rfl
theorem xmx {lit fn:Bool}:gdH Γ P lit fn .plain o J η b k=doH Γ P (tick (opF P Γ lit fn J η η.length o)) o J η b k:=_root_.id rfl
theorem z7l {lit fn:Bool} {d:Nat} {c b':Bool}:gdH Γ P lit fn (.when d c b') o J η b k=zae c b' (hide (fun b=>doH Γ P (tick (opF P Γ lit fn J η η.length o)) o J η b k) ()) (hide (fun b=>yed o J η b k) ()):=_root_.id rfl
theorem whq {lit fn:Bool} {d:Nat}:gdH Γ P lit fn (.skip d) o J η b k=yed o J η b k:=_root_.id rfl
end
section
variable {o:Oper} {J:List SV} {η:List SB} {nb:Nat} {b:Bool} {k:Bool->List Nat->List Nat->List (Nat×SV)->List (Nat×SB)->Prop}
theorem wbd {rd rh:List Nat} {x:List (Nat×SV)} {h:List (Nat×SB)}:doG Γ P (.eff rd rh x h none) o J η nb b k=k b rd rh x h:=_root_.id rfl
theorem z5l {rd rh:List Nat} {x:List (Nat×SV)} {h:List (Nat×SB)} {z:SB}:doG Γ P (.eff rd rh x h (some z)) o J η nb b k=(xe4 η nb=true/\k b rd (nb::rh) x (h++[(nb,z)])):=_root_.id rfl
theorem van {f:FuncId} {l:List AV} {rd rh bs:List Nat}:doG Γ P (.callD f l rd rh bs) o J η nb b k=y7b Γ P f l (hide (fun b res=>resG o J η nb rd rh bs b k (resS nb res)) ()):=_root_.id rfl
theorem vth {f:FuncId} {l:List SV} {rd:List Nat}:doG Γ P (.callH f l rd) o J η nb b k=xoc Γ P f η l (hide (fun b rh heff res=>k b rd rh (v4q o res) heff) ()):=_root_.id rfl
theorem vwg {rd rh bs:List Nat} {y:SV}:resG o J η nb rd rh bs b k (some (y,none))=k b rd (rh++bs) (v4q o y) (frzE η bs):=_root_.id rfl
theorem z9w {d:Nat} {rd rh:List Nat} {x:List (Nat×SV)} {h:List (Nat×SB)}:onG d k b rd rh x h=k b (d::rd) rh x h:=_root_.id rfl
theorem y4i {lit fn:Bool}:gdG Γ P lit fn nb .plain o J η b k=doG Γ P (tick (opF P Γ lit fn J η nb o)) o J η nb b k:=_root_.id rfl
theorem ygl {lit fn:Bool} {d:Nat} {c b':Bool}:gdG Γ P lit fn nb (.when d c b') o J η b k=zae c b' (hide (fun b=>doG Γ P (tick (opF P Γ lit fn J η nb o)) o J η nb b (hide (fun b rd rh x h=>onG d k b rd rh x h) ())) ()) (hide (fun b=>xjr d o b k) ()):=_root_.id rfl
theorem zz0 {lit fn:Bool} {d:Nat}:gdG Γ P lit fn nb (.skip d) o J η b k=xjr d o b k:=_root_.id rfl
end
theorem viz {c:Operand} {J:List SV} {X Y:Bool->Prop} {p:Bool}:ynm c J X Y (.one (.dat (.raw (.bool p))))=vsl p X Y:=_root_.id rfl
theorem yr4 {rs:List ResultVar} {res:AV} {b:Bool} {J:List SV} {η:List SB}:yqy P rs res .ret b J η=endR η res (tick (xn6 P J η rs)):=_root_.id rfl
theorem yfs {η:List SB} {res:AV} {x:SV}:endR η res (some x)=endD res (tick (xek η x)):=_root_.id rfl
theorem vk1 {res av:AV} {bs:List Nat}:endD res (some (av,bs))=RLe av res:=_root_.id rfl
theorem v1t {rs:List ResultVar} {res:SV} {b:Bool} {J:List SV} {η η':List SB}:zix Γ P e rs η' res .ret b J η=endH Γ e η η' res (tick (xn6 P J η rs)):=_root_.id rfl
theorem w9v {rs:List ResultVar} {res:SV} {b:Bool} {J:List SV} {η η':List SB}:zix Γ P e rs η' res .normal b J η=endH Γ e η η' res (tick (xn6 P J η rs)):=_root_.id rfl
theorem x3i {res x:SV} {η η':List SB}:endH Γ e η η' res (some x)=StH Γ e [x] η [res] η':=_root_.id rfl
theorem wdl {α:Type} {x:α}:tick (some x)=some x:=_root_.id rfl
theorem w4g {η η':List SB} {res:AV} {o o':Option SV} (h:o=o') (hη:η=η'):endR η res o=endR η' res o':=by rw [h,hη]
theorem ypm {res:AV} {o o':Option (AV×List Nat)} (h:o=o'):endD res o=endD res o':=by rw [h]
theorem vci {e η η' η1:List SB} {res:SV} {o o':Option SV} (h:o=o') (hη:η=η1):endH Γ e η η' res o=endH Γ e η1 η' res o':=by rw [h,hη]
theorem xbd {e η η' η1 η1':List SB} {J σ1 J' σ1':List SV} (h:J=σ1) (hη:η=η1) (h':J'=σ1') (hη':η'=η1'):StH Γ e J η J' η'=StH Γ e σ1 η1 σ1' η1':=by rw [h,hη,h',hη']
section
variable {o o':Oper} {J J':List SV} {η η':List SB} {b:Bool}
theorem vrz {k:Bool->List SV->List SB->Prop} {x x':HO} (h:x=x'):doH Γ P x o J η b k=doH Γ P x' o J η b k:=by rw [h]
theorem z6b {nb:Nat} {k:Bool->List Nat->List Nat->List (Nat×SV)->List (Nat×SB)->Prop} {x x':HO} (h:x=x'):doG Γ P x o J η nb b k=doG Γ P x' o J η nb b k:=by rw [h]
theorem wza {nb:Nat} {rd rh bs:List Nat} {k:Bool->List Nat->List Nat->List (Nat×SV)->List (Nat×SB)->Prop} {r r':Option (SV×Option SB)} (h:r=r'):resG o J η nb rd rh bs b k r=resG o J η nb rd rh bs b k r':=by rw [h]
theorem xcn {c:Operand} {X Y:Bool->Prop} {v v':SV} (h:v=v'):ynm c J X Y v=ynm c J X Y v':=by rw [h]
theorem vie {c:Code} {Q:Exit->Bool->List SV->List SB->Prop} (h:J=J') (hη:η=η'):xhg Γ P e G c Q J η=xhg Γ P e G c Q J' η':=by rw [h,hη]
theorem xsv {lit fn:Bool} {ops l:List Oper} {K:Bool->List SV->List SB->Prop} (h:J=J') (hη:η=η'):y9l Γ P lit fn ops b l J η K=y9l Γ P lit fn ops b l J' η' K:=by rw [h,hη]
theorem vn3 {lit fn:Bool} {nb nb':Nat} {ops l:List Oper} {acc acc':List HR} {K:Bool->List SV->List SB->Prop} (hn:nb=nb') (ha:acc=acc') (h:J=J') (hη:η=η'):y6c Γ P lit fn nb ops b l acc J η K=y6c Γ P lit fn nb' ops b l acc' J' η' K:=by rw [h,ha,hη,hn]
end
def v6a (P:Program) (t:TypeId):TypeInfo:=(P.info? t).getD default
theorem zpz {a:SV} {J:List SV}:gtS (a::J) 0=a:=rfl
theorem vuq {a:SV} {J:List SV} {n:Nat}:gtS (a::J) (n+1)=gtS J n:=rfl
theorem v15 {a:SB} {η:List SB}:gB (a::η) 0=a:=rfl
theorem vt8 {a:SB} {η:List SB} {n:Nat}:gB (a::η) (n+1)=gB η n:=rfl
theorem ygk {l:List SV}:appL [] l=l:=rfl
theorem zmn {p:Nat×SV} {r:List (Nat×SV)} {l:List SV}:appL (p::r) l=appL r (l.set p.1 p.2):=rfl
theorem ytb {l:List SB}:appL [] l=l:=rfl
theorem vpy {p:Nat×SB} {r:List (Nat×SB)} {l:List SB}:appL (p::r) l=appL r (l.set p.1 p.2):=rfl
theorem wam {J:List SV} {t:Nat}:opdS Γ J (.tmp t)=gtS J t:=rfl
theorem wus {J:List SV} {v:Value}:opdS Γ J (.const v)=x9l v:=rfl
theorem xmm {J:List SV} {f:FuncId}:opdS Γ J (.func f)=.one (.dat (.raw (.func (.func f) #[] #[]))):=rfl
theorem voc {J:List SV} {g:Nat}:opdS Γ J (.global g)=x7m Γ g:=rfl
theorem wt9 {J:List SV} {d:Nat}:nh (J.map vw) d=decide (d<J.length):=by
 unfold nh;by_cases h:d<J.length
 . rw [List.getElem?_map,List.getElem?_eq_getElem h,decide_eq_true h];simp only [Option.map_some,wv8,Bool.not_false]
 . rw [List.getElem?_map,List.getElem?_eq_none (by omega),decide_eq_false h];rfl
section
variable {a0 a1 a2 a3 a4 a5 a6 a7 a8 a9 a10 a11 a12 a13 a14 a15 x:SV} {r:List SV} {n:Nat}
theorem zqv:gtS (chS a0 a1 a2 a3 a4 a5 a6 a7 a8 a9 a10 a11 a12 a13 a14 a15 r) 0=a0:=rfl
theorem wan:(chS a0 a1 a2 a3 a4 a5 a6 a7 a8 a9 a10 a11 a12 a13 a14 a15 r).set 0 x=chS x a1 a2 a3 a4 a5 a6 a7 a8 a9 a10 a11 a12 a13 a14 a15 r:=rfl
theorem xuy:gtS (chS a0 a1 a2 a3 a4 a5 a6 a7 a8 a9 a10 a11 a12 a13 a14 a15 r) 1=a1:=rfl
theorem zs1:(chS a0 a1 a2 a3 a4 a5 a6 a7 a8 a9 a10 a11 a12 a13 a14 a15 r).set 1 x=chS a0 x a2 a3 a4 a5 a6 a7 a8 a9 a10 a11 a12 a13 a14 a15 r:=rfl
theorem xok:gtS (chS a0 a1 a2 a3 a4 a5 a6 a7 a8 a9 a10 a11 a12 a13 a14 a15 r) 2=a2:=rfl
theorem x2j:(chS a0 a1 a2 a3 a4 a5 a6 a7 a8 a9 a10 a11 a12 a13 a14 a15 r).set 2 x=chS a0 a1 x a3 a4 a5 a6 a7 a8 a9 a10 a11 a12 a13 a14 a15 r:=rfl
theorem xv9:gtS (chS a0 a1 a2 a3 a4 a5 a6 a7 a8 a9 a10 a11 a12 a13 a14 a15 r) 3=a3:=rfl
theorem wj0:(chS a0 a1 a2 a3 a4 a5 a6 a7 a8 a9 a10 a11 a12 a13 a14 a15 r).set 3 x=chS a0 a1 a2 x a4 a5 a6 a7 a8 a9 a10 a11 a12 a13 a14 a15 r:=rfl
theorem x0o:gtS (chS a0 a1 a2 a3 a4 a5 a6 a7 a8 a9 a10 a11 a12 a13 a14 a15 r) 4=a4:=rfl
theorem yzs:(chS a0 a1 a2 a3 a4 a5 a6 a7 a8 a9 a10 a11 a12 a13 a14 a15 r).set 4 x=chS a0 a1 a2 a3 x a5 a6 a7 a8 a9 a10 a11 a12 a13 a14 a15 r:=rfl
theorem z3q:gtS (chS a0 a1 a2 a3 a4 a5 a6 a7 a8 a9 a10 a11 a12 a13 a14 a15 r) 5=a5:=rfl
theorem wh0:(chS a0 a1 a2 a3 a4 a5 a6 a7 a8 a9 a10 a11 a12 a13 a14 a15 r).set 5 x=chS a0 a1 a2 a3 a4 x a6 a7 a8 a9 a10 a11 a12 a13 a14 a15 r:=rfl
theorem vz7:gtS (chS a0 a1 a2 a3 a4 a5 a6 a7 a8 a9 a10 a11 a12 a13 a14 a15 r) 6=a6:=rfl
theorem wk2:(chS a0 a1 a2 a3 a4 a5 a6 a7 a8 a9 a10 a11 a12 a13 a14 a15 r).set 6 x=chS a0 a1 a2 a3 a4 a5 x a7 a8 a9 a10 a11 a12 a13 a14 a15 r:=rfl
theorem vjm:gtS (chS a0 a1 a2 a3 a4 a5 a6 a7 a8 a9 a10 a11 a12 a13 a14 a15 r) 7=a7:=rfl
theorem y4z:(chS a0 a1 a2 a3 a4 a5 a6 a7 a8 a9 a10 a11 a12 a13 a14 a15 r).set 7 x=chS a0 a1 a2 a3 a4 a5 a6 x a8 a9 a10 a11 a12 a13 a14 a15 r:=rfl
theorem xgc:gtS (chS a0 a1 a2 a3 a4 a5 a6 a7 a8 a9 a10 a11 a12 a13 a14 a15 r) 8=a8:=rfl
theorem yg1:(chS a0 a1 a2 a3 a4 a5 a6 a7 a8 a9 a10 a11 a12 a13 a14 a15 r).set 8 x=chS a0 a1 a2 a3 a4 a5 a6 a7 x a9 a10 a11 a12 a13 a14 a15 r:=rfl
theorem wp9:gtS (chS a0 a1 a2 a3 a4 a5 a6 a7 a8 a9 a10 a11 a12 a13 a14 a15 r) 9=a9:=rfl
theorem wot:(chS a0 a1 a2 a3 a4 a5 a6 a7 a8 a9 a10 a11 a12 a13 a14 a15 r).set 9 x=chS a0 a1 a2 a3 a4 a5 a6 a7 a8 x a10 a11 a12 a13 a14 a15 r:=rfl
theorem z1v:gtS (chS a0 a1 a2 a3 a4 a5 a6 a7 a8 a9 a10 a11 a12 a13 a14 a15 r) 10=a10:=rfl
theorem z1p:(chS a0 a1 a2 a3 a4 a5 a6 a7 a8 a9 a10 a11 a12 a13 a14 a15 r).set 10 x=chS a0 a1 a2 a3 a4 a5 a6 a7 a8 a9 x a11 a12 a13 a14 a15 r:=rfl
theorem wxb:gtS (chS a0 a1 a2 a3 a4 a5 a6 a7 a8 a9 a10 a11 a12 a13 a14 a15 r) 11=a11:=rfl
theorem x73:(chS a0 a1 a2 a3 a4 a5 a6 a7 a8 a9 a10 a11 a12 a13 a14 a15 r).set 11 x=chS a0 a1 a2 a3 a4 a5 a6 a7 a8 a9 a10 x a12 a13 a14 a15 r:=rfl
theorem zuo:gtS (chS a0 a1 a2 a3 a4 a5 a6 a7 a8 a9 a10 a11 a12 a13 a14 a15 r) 12=a12:=rfl
theorem vuj:(chS a0 a1 a2 a3 a4 a5 a6 a7 a8 a9 a10 a11 a12 a13 a14 a15 r).set 12 x=chS a0 a1 a2 a3 a4 a5 a6 a7 a8 a9 a10 a11 x a13 a14 a15 r:=rfl
theorem z2n:gtS (chS a0 a1 a2 a3 a4 a5 a6 a7 a8 a9 a10 a11 a12 a13 a14 a15 r) 13=a13:=rfl
theorem y1t:(chS a0 a1 a2 a3 a4 a5 a6 a7 a8 a9 a10 a11 a12 a13 a14 a15 r).set 13 x=chS a0 a1 a2 a3 a4 a5 a6 a7 a8 a9 a10 a11 a12 x a14 a15 r:=rfl
theorem x4z:gtS (chS a0 a1 a2 a3 a4 a5 a6 a7 a8 a9 a10 a11 a12 a13 a14 a15 r) 14=a14:=rfl
theorem va0:(chS a0 a1 a2 a3 a4 a5 a6 a7 a8 a9 a10 a11 a12 a13 a14 a15 r).set 14 x=chS a0 a1 a2 a3 a4 a5 a6 a7 a8 a9 a10 a11 a12 a13 x a15 r:=rfl
theorem x7e:gtS (chS a0 a1 a2 a3 a4 a5 a6 a7 a8 a9 a10 a11 a12 a13 a14 a15 r) 15=a15:=rfl
theorem wu4:(chS a0 a1 a2 a3 a4 a5 a6 a7 a8 a9 a10 a11 a12 a13 a14 a15 r).set 15 x=chS a0 a1 a2 a3 a4 a5 a6 a7 a8 a9 a10 a11 a12 a13 a14 x r:=rfl
theorem w4k:gtS (chS a0 a1 a2 a3 a4 a5 a6 a7 a8 a9 a10 a11 a12 a13 a14 a15 r) (n+16)=gtS r n:=rfl
theorem wjb:(chS a0 a1 a2 a3 a4 a5 a6 a7 a8 a9 a10 a11 a12 a13 a14 a15 r).set (n+16) x=chS a0 a1 a2 a3 a4 a5 a6 a7 a8 a9 a10 a11 a12 a13 a14 a15 (r.set n x):=rfl
theorem vcc:(chS a0 a1 a2 a3 a4 a5 a6 a7 a8 a9 a10 a11 a12 a13 a14 a15 r).length=r.length+16:=rfl
theorem v8l:y9k (a0::a1::a2::a3::a4::a5::a6::a7::a8::a9::a10::a11::a12::a13::a14::a15::r)=chS a0 a1 a2 a3 a4 a5 a6 a7 a8 a9 a10 a11 a12 a13 a14 a15 (y9k r):=rfl
theorem yqz:y9k (chS a0 a1 a2 a3 a4 a5 a6 a7 a8 a9 a10 a11 a12 a13 a14 a15 r)=chS a0 a1 a2 a3 a4 a5 a6 a7 a8 a9 a10 a11 a12 a13 a14 a15 (y9k r):=rfl
theorem zov:y9k []=[]:=rfl
theorem vi9:y9k [a0]=[a0]:=rfl
theorem vgn:y9k [a0,a1]=[a0,a1]:=rfl
theorem yb2:y9k [a0,a1,a2]=[a0,a1,a2]:=rfl
theorem vgb:y9k [a0,a1,a2,a3]=[a0,a1,a2,a3]:=rfl
theorem v2i:y9k [a0,a1,a2,a3,a4]=[a0,a1,a2,a3,a4]:=rfl
theorem w0p:y9k [a0,a1,a2,a3,a4,a5]=[a0,a1,a2,a3,a4,a5]:=rfl
theorem vvs:y9k [a0,a1,a2,a3,a4,a5,a6]=[a0,a1,a2,a3,a4,a5,a6]:=rfl
theorem x23:y9k [a0,a1,a2,a3,a4,a5,a6,a7]=[a0,a1,a2,a3,a4,a5,a6,a7]:=rfl
theorem ybk:y9k [a0,a1,a2,a3,a4,a5,a6,a7,a8]=[a0,a1,a2,a3,a4,a5,a6,a7,a8]:=rfl
theorem wr5:y9k [a0,a1,a2,a3,a4,a5,a6,a7,a8,a9]=[a0,a1,a2,a3,a4,a5,a6,a7,a8,a9]:=rfl
theorem vz6:y9k [a0,a1,a2,a3,a4,a5,a6,a7,a8,a9,a10]=[a0,a1,a2,a3,a4,a5,a6,a7,a8,a9,a10]:=rfl
theorem zl9:y9k [a0,a1,a2,a3,a4,a5,a6,a7,a8,a9,a10,a11]=[a0,a1,a2,a3,a4,a5,a6,a7,a8,a9,a10,a11]:=rfl
theorem vy6:y9k [a0,a1,a2,a3,a4,a5,a6,a7,a8,a9,a10,a11,a12]=[a0,a1,a2,a3,a4,a5,a6,a7,a8,a9,a10,a11,a12]:=rfl
theorem yk7:y9k [a0,a1,a2,a3,a4,a5,a6,a7,a8,a9,a10,a11,a12,a13]=[a0,a1,a2,a3,a4,a5,a6,a7,a8,a9,a10,a11,a12,a13]:=rfl
theorem yry:y9k [a0,a1,a2,a3,a4,a5,a6,a7,a8,a9,a10,a11,a12,a13,a14]=[a0,a1,a2,a3,a4,a5,a6,a7,a8,a9,a10,a11,a12,a13,a14]:=rfl
theorem vwo {ks:List Nat} {i:Nat}:zkc ks i (chS a0 a1 a2 a3 a4 a5 a6 a7 a8 a9 a10 a11 a12 a13 a14 a15 r)=zkc ks i (a0::a1::a2::a3::a4::a5::a6::a7::a8::a9::a10::a11::a12::a13::a14::a15::r):=rfl
end
attribute [go_sem] zqv xuy xok xv9 x0o z3q vz7 vjm xgc wp9 z1v wxb zuo z2n x4z x7e wan zs1 x2j wj0 yzs wh0 wk2 y4z yg1 wot z1p x73 vuj y1t va0 wu4 zov vi9 vgn yb2 vgb v2i w0p vvs x23 ybk wr5 vz6 zl9 vy6 yk7 yry w4k wjb vcc v8l yqz vwo
attribute [go_sem ↓] y13 vmm xfj wvv y3a xye zzt xlz xry wel
attribute [go_sem] w0r ycl xmc xxv x0p ybm z6e wis v5i
attribute [go_sem ↓] zhq y4l vj9 y25 vwu
attribute [go_sem] waq xci wh7 wfp yoc z3y z9g yta vx9
attribute [go_sem ↓] y7n voz vzs ymk x7x yki
attribute [go_sem] wsm x31 yqw ztn zqo v3n
attribute [go_sem] x6f wy0 wqi yhj yhk ypt xjg xmx z7l whq yed wqa
attribute [go_sem] wbd z5l van vth vwg z9w y4i ygl zz0 xjr ynd
attribute [go_sem] viz yr4 v1t w9v yfs vk1 x3i wdl
attribute [congr] vrz z6b wza xcn vie xsv vn3 v4e v8j w4g ypm vci xbd
attribute [go_sem] zpz vuq v15 vt8 ygk zmn ytb vpy wam wus xmm voc wt9
attribute [go_sem] vlx yyq ws0 ze6 anyS y5l zkc wty vs3 nxtB
attribute [go_sem] zhz opF vhn vjq fBin fUn yus zdm yfc v8n zh4 w8r fLen w9j xn4 fNil ysd xnh fBox opH opP xve wm2 wm2.callG xpm xev opH.appO oldO oldR av2 vO nO isNil vbs
attribute [go_sem] yw0 rawS wug wvr ybx TI.many seeH w4j wcy yha yct ptrH lenH natH ynk vzq argD vc1 vx0 zk1 x7f resS zri v4q x9l x7m frzB frzE wm5 subC vdl wa3 appT dstH srcH xw4
attribute [go_sem] xog updM kEq wpy keyX wtc zzv viu woa rawL w7n zsa yp1 ydk w1s xct xn6 xek xxm xe4 xj5 oB oN vps intS ckH zp4 yg9 xs9 yck vw vwO vwG datL datH
end Go.Hp
