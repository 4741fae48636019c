/- The proof, part Z17: Ib, Ti. -/
import Derived.Test.YtbdoipfmafbhoaaGreatDoorZ16
import Derived.Test.YtbdoipfmafbhoaaGreatDoorZ7
import Derived.Test.YtbdoipfmafbhoaaGreatDoorChecked
namespace Go.Hp
open Go Go.RowKit Go.Slot
variable {P:Program} {Γ:List (Nat×List Cell)} {e:List SB} {G:List (Nat×List GhH)}
def chS (a0 a1 a2 a3 a4 a5 a6 a7 a8 a9 a10 a11 a12 a13 a14 a15:SV) (r:List SV):List SV:=a0::a1::a2::a3::a4::a5::a6::a7::a8::a9::a10::a11::a12::a13::a14::a15::r
def xwd:List SV->List SV
 | a0::a1::a2::a3::a4::a5::a6::a7::a8::a9::a10::a11::a12::a13::a14::a15::r=>chS a0 a1 a2 a3 a4 a5 a6 a7 a8 a9 a10 a11 a12 a13 a14 a15 (xwd r)
 | l=>l
theorem v2e:∀ l:List SV,xwd l=l
 | []=>rfl
 | [a0]=>rfl
 | [a0,a1]=>rfl
 | [a0,a1,a2]=>rfl
 | [a0,a1,a2,a3]=>rfl
 | [a0,a1,a2,a3,a4]=>rfl
 | [a0,a1,a2,a3,a4,a5]=>rfl
 | [a0,a1,a2,a3,a4,a5,a6]=>rfl
 | [a0,a1,a2,a3,a4,a5,a6,a7]=>rfl
 | [a0,a1,a2,a3,a4,a5,a6,a7,a8]=>rfl
 | [a0,a1,a2,a3,a4,a5,a6,a7,a8,a9]=>rfl
 | [a0,a1,a2,a3,a4,a5,a6,a7,a8,a9,a10]=>rfl
 | [a0,a1,a2,a3,a4,a5,a6,a7,a8,a9,a10,a11]=>rfl
 | [a0,a1,a2,a3,a4,a5,a6,a7,a8,a9,a10,a11,a12]=>rfl
 | [a0,a1,a2,a3,a4,a5,a6,a7,a8,a9,a10,a11,a12,a13]=>rfl
 | [a0,a1,a2,a3,a4,a5,a6,a7,a8,a9,a10,a11,a12,a13,a14]=>rfl
 | a0::a1::a2::a3::a4::a5::a6::a7::a8::a9::a10::a11::a12::a13::a14::a15::r=>by
  show chS a0 a1 a2 a3 a4 a5 a6 a7 a8 a9 a10 a11 a12 a13 a14 a15 (xwd r)=_;rw [v2e r];rfl
def endD (res:AV):Option (AV×List Nat)->Prop
 | some (av,_)=>RLe av res
 | none=>False
def endR (η:List SB) (res:AV):Option SV->Prop
 | some x=>endD res (x2v η x)
 | none=>False
theorem zky {η:List SB} {res:AV} {o:Option SV} (h:endR η res o):∃ x av bs,o=some x/\x2v η x=some (av,bs)/\RLe av res:=by
 cases o with
 | none=>exact h.elim
 | some x=>
  have h:endD res (x2v η x):=h;unfold endD at h;split at h
  . rename_i av bs hd;exact ⟨x,av,bs,rfl,hd,h⟩
  . exact h.elim
def vij (P:Program) (rs:List ResultVar) (res:AV):Exit->Bool->List SV->List SB->Prop
 | .ret,_,J,η | .normal,_,J,η=>endR η res (yp6 P J η rs)
 | _,_,_,_=>False
theorem CallsD.run (G:List (Nat×List GhH)) {f:FuncId} {fn:Func} {c:Code} {args:List AV} {sl:List SV} {res:AV} (hf:P.funcs[f]? = some fn) (hb:fn.body=some c) (hname:(fn.name == "runtime.NumGoroutine")=false) (ha:vi5 args=some sl)
 (h:RH Γ P [] G c true (vij P fn.results.toList res) (xwd (sl++List.replicate (fn.ntmps-sl.length) .undef)) []):CallsD Γ P f args res:=by
 rw [v2e] at h;refine CallsD.of hf hb hname ha ((RH.sound c true _ _ _ h).mono ?_);intro ex J η ⟨b,h⟩
 cases ex with
 | normal=>exact zky h
 | ret=>exact zky h
 | _=>exact h.elim
def endH (Γ:List (Nat×List Cell)) (e η:List SB) (η':List SB) (res:SV):Option SV->Prop
 | some x=>StH Γ e [x] η [res] η'
 | none=>False
def xke (Γ:List (Nat×List Cell)) (P:Program) (e:List SB) (rs:List ResultVar) (η':List SB) (res:SV):Exit->Bool->List SV->List SB->Prop
 | .ret,_,J,η | .normal,_,J,η=>endH Γ e η η' res (yp6 P J η rs)
 | _,_,_,_=>False
theorem xv3 {η η':List SB} {res:SV} {o:Option SV} (h:endH Γ e η η' res o):∃ x,o=some x/\StH Γ e [x] η [res] η':=by
 cases o with
 | none=>exact h.elim
 | some x=>exact ⟨x,rfl,h⟩
theorem yev.run (G:List (Nat×List GhH)) {f:FuncId} {fn:Func} {c:Code} {η η':List SB} {args:List SV} {res:SV} (hf:P.funcs[f]? = some fn) (hb:fn.body=some c) (hname:(fn.name == "runtime.NumGoroutine")=false)
 (h:RH Γ P η G c true (xke Γ P η fn.results.toList η' res) (xwd (args++List.replicate (fn.ntmps-args.length) .undef)) η):yev Γ P f η args η' res:=by
 rw [v2e] at h;refine yev.of hf hb hname ((RH.sound c true _ _ _ h).mono ?_);intro ex J η1 ⟨b,h⟩
 cases ex with
 | normal=>exact xv3 h
 | ret=>exact xv3 h
 | _=>exact h.elim
theorem ys4.le {c:Code} {Q:Exit->List SV->List SB->Prop} {J J':List SV} {η η':List SB} (h:StH Γ e J η J' η') (hc:ys4 Γ P e c Q J' η'):ys4 Γ P e c Q J η:=fun E ρ a w hE hR=>by
 obtain ⟨ρ',hR'⟩:=h E ρ a w hE hR;exact hc E ρ' a w hE hR'
theorem ys4.fam {α : Type} {c : Code} {Q : Exit → List SV → List SB → Prop} (invS : α → List SV) (invH : α → List SB) (pre : α → Prop) (μ : α → Nat)
 (round:∀ x,pre x->vmy Γ P e c (yu2 (fun J' η'=>∃ y,pre y/\μ y<μ x/\StH Γ e J' η' (invS y) (invH y)) Q) (invS x) (invH x)):∀(n:Nat) (x:α),μ x<n->pre x->ys4 Γ P e c Q (invS x) (invH x)
 | 0,_,h,_=>absurd h (Nat.not_lt_zero _)
 | n + 1, x, h, hx => ys4.round ((round x hx).mono (fun ex J η hq => by
  cases ex with
  | normal=>
   obtain ⟨y,h1,h2,h3⟩:=hq;exact ys4.le h3 (ys4.fam invS invH pre μ round n y (by omega) h1)
  | _=>exact hq))
theorem xou {α:Type} {c:Code} {Q:Exit->Bool->List SV->List SB->Prop} {J:List SV} {η:List SB} (keep:List Nat) (ch:α->List (Nat×SV)) (hp:α->List SB) (pre:α->Prop) (μ:α->Nat) (x0:α) (h0:pre x0)
 (hle:StH Γ e J η (appL (ch x0) (wmh keep 0 J)) (hp x0))
 (round:∀ x,pre x->RH Γ P e G c true (yxh (hide (fun _ J' η'=>∃ y,pre y/\μ y<μ x/\StH Γ e J' η' (appL (ch y) (wmh keep 0 J)) (hp y)) ()) Q) (xwd (appL (ch x) (wmh keep 0 J))) (hp x)):zpr Γ P e G c Q J η:=
 vmy.le hle (ys4.loop (ys4.fam (fun x=>appL (ch x) (wmh keep 0 J)) hp pre μ (fun x hx=>(RH.sound c true _ _ _ (v2e (appL (ch x) (wmh keep 0 J))▸round x hx)).mono (fun ex J' η' ⟨b,h⟩=>by
  cases ex with
  | normal=>exact h
  | _=>exact ⟨b,h⟩)) _ x0 (Nat.lt_succ_self _) h0))
def yf5 (Γ:List (Nat×List Cell)) (P:Program) (e:List SB) (_G:List (Nat×List GhH)) (c:Code) (Q:Exit->Bool->List SV->List SB->Prop) (J:List SV) (η:List SB):Prop:=ys4 Γ P e c (outH Q) J η
theorem ycx {c:Code} {Q:Exit->Bool->List SV->List SB->Prop} {J:List SV} {η:List SB} (h:RH Γ P e G c true (yxh (hide (fun _ J' η'=>yf5 Γ P e G c Q J' η') ()) Q) J η):yf5 Γ P e G c Q J η:=
 ys4.round ((RH.sound c true _ _ _ h).mono (fun ex J' η' ⟨b,h⟩=>by
  cases ex with
  | normal=>exact h
  | _=>exact ⟨b,h⟩))
theorem yz8 {c:Code} {Q:Exit->Bool->List SV->List SB->Prop} {J:List SV} {η:List SB} (h:RH Γ P e G c true (yxh (hide (fun _ J' η'=>yf5 Γ P e G c Q J' η') ()) Q) J η):zpr Γ P e G c Q J η:=ys4.loop (ycx h)
theorem v8q {α:Type} {x y:Code} {Q:Exit->Bool->List SV->List SB->Prop} {J:List SV} {η:List SB} (keep:List Nat) (ch:α->List (Nat×SV)) (hp:α->List SB) (pre:α->Prop)
 (hx:RH Γ P e G x true (yxh (hide (fun _ J' η'=>∃ a,pre a/\StH Γ e J' η' (appL (ch a) (wmh keep 0 J)) (hp a)) ()) Q) J η)
 (hy:∀ a,pre a->RH Γ P e G y true Q (xwd (appL (ch a) (wmh keep 0 J))) (hp a)):vue Γ P e G x y Q J η:=
 v1e ((RH.sound x true _ _ _ hx).mono (fun ex J' η' ⟨b,h⟩=>by
  cases ex with
  | normal=>
   obtain ⟨a,h1,h2⟩:=h;exact vmy.le h2 (RH.sound y true _ _ _ (v2e (appL (ch a) (wmh keep 0 J))▸hy a h1))
  | _=>exact ⟨b,h⟩))
def nrmV (J:List SV):List SV:=J
theorem xsc {a:SV} {J:List SV}:nrmV (a::J)=a::J:=_root_.id rfl
theorem x6b {a0 a1 a2 a3 a4 a5 a6 a7 a8 a9 a10 a11 a12 a13 a14 a15:SV} {r:List SV}:nrmV (chS a0 a1 a2 a3 a4 a5 a6 a7 a8 a9 a10 a11 a12 a13 a14 a15 r)=chS a0 a1 a2 a3 a4 a5 a6 a7 a8 a9 a10 a11 a12 a13 a14 a15 r:=_root_.id rfl
def nrmH (l:List HR):List HR:=l
theorem ys8:nrmH []=[]:=_root_.id rfl
theorem v94 {a:HR} {l:List HR}:nrmH (a::l)=a::l:=_root_.id rfl
def flF (c d:Bool) (A:Bool->Bool->Prop):Prop:=A c d
theorem zdz {A:Bool->Bool->Prop}:flF true true A=A true true:=_root_.id rfl
theorem zdy {A:Bool->Bool->Prop}:flF true false A=A true false:=_root_.id rfl
theorem vmg {A:Bool->Bool->Prop}:flF false true A=A false true:=_root_.id rfl
theorem v3m {A:Bool->Bool->Prop}:flF false false A=A false false:=_root_.id rfl
theorem wzp {c c' d d':Bool} {A:Bool->Bool->Prop} (h:c=c') (h2:d=d'):flF c d A=flF c' d' A:=by rw [h,h2]
theorem yoh {f:Bool->List SV->List SB->Prop} {u:U f} {b:Bool} {J:List SV} {η:List SB}:hide f u b J η=f b J η:=_root_.id rfl
theorem xd0 {f:Bool->Bool->Prop} {u:U f} {b c:Bool}:hide f u b c=f b c:=_root_.id rfl
theorem zyu {f:Bool->List SB->SV->Prop} {u:U f} {b:Bool} {η:List SB} {x:SV}:hide f u b η x=f b η x:=_root_.id rfl
theorem yav {f:Bool->List Nat->List (Nat×SB)->SV->Prop} {u:U f} {b:Bool} {rh:List Nat} {η:List (Nat×SB)} {x:SV}:hide f u b rh η x=f b rh η x:=_root_.id rfl
theorem xdt {f:Bool->List Nat->List Nat->List (Nat×SV)->List (Nat×SB)->Prop} {u:U f} {b:Bool} {rd rh:List Nat} {x:List (Nat×SV)} {y:List (Nat×SB)}:hide f u b rd rh x y=f b rd rh x y:=_root_.id rfl
theorem wuf {rd rh:List Nat} {x:List (Nat×SV)} {y:List (Nat×SB)} {z:Option SB}:tick (HO.eff rd rh x y z)=HO.eff rd rh x y z:=_root_.id rfl
theorem xrg {f:FuncId} {l:List AV} {rd rh bs:List Nat}:tick (HO.callD f l rd rh bs)=HO.callD f l rd rh bs:=_root_.id rfl
theorem xnk {f:FuncId} {l:List SV} {rd:List Nat}:tick (HO.callH f l rd)=HO.callH f l rd:=_root_.id rfl
theorem x4l {r:Option SV} {z:SV} {ok:Bool} {rd rh:List Nat}:tick (HO.look r z ok rd rh)=HO.look r z ok rd rh:=_root_.id rfl
theorem y5a:tick HO.bad=HO.bad:=_root_.id rfl
theorem v67:tick Hp.GR.plain=Hp.GR.plain:=_root_.id rfl
theorem yau {d:Nat} {c b:Bool}:tick (Hp.GR.when d c b)=Hp.GR.when d c b:=_root_.id rfl
theorem x7z {d:Nat}:tick (Hp.GR.skip d)=Hp.GR.skip d:=_root_.id rfl
theorem wn9 {h:HC}:tick (SV.one h)=SV.one h:=_root_.id rfl
section
variable {Q:Exit->Bool->List SV->List SB->Prop} {J:List SV} {η:List SB}
theorem wq1:RH Γ P e G .skip true Q J η=Q .normal true J η:=_root_.id rfl
theorem xht {id:Nat} {l:List Oper}:RH Γ P e G (.region id l.toArray false) true Q J η=flF (tick (!(xhh (wz9 G id)))) (tick (!(x8m (wz9 G id)))) (hide (fun lit fn=>wji Γ P lit fn l true l (nrmV (anyS (wz9 G id) J)) η (Q .normal)) ()):=_root_.id rfl
theorem zgc {id:Nat} {l:List Oper}:RH Γ P e G (.region id l.toArray true) true Q J η=zf5 P (hide (fun _=>flF (tick (!(xhh (wz9 G id)))) (tick (!(x8m (wz9 G id)))) (hide (fun lit fn=>x5d Γ P lit fn η.length l true l (nrmH []) (nrmV (anyS (wz9 G id) J)) (η++vo8 (wz9 G id)) (hide (fun b s t=>wtq η.length (Q .normal) b s t) ())) ())) ()):=_root_.id rfl
theorem vvb {x y:Code}:RH Γ P e G (.seq x y) true Q J η=seqF (tick (yr1 G y)) (hide (fun _=>vue Γ P e G x y Q J η) ()) (hide (fun _=>RH Γ P e G x true (yxh (hide (fun b J η=>RH Γ P e G y b Q J η) ()) Q) J η) ()):=_root_.id rfl
theorem z0t {c:Operand} {x y:Code}:RH Γ P e G (.cond c x y) true Q J η=y6h c J (hide (fun b=>RH Γ P e G x b Q J η) ()) (hide (fun b=>RH Γ P e G y b Q J η) ()) (tick (opdS Γ J c)):=_root_.id rfl
theorem zla {id:Nat} {x:Code}:RH Γ P e G (.block id x) true Q J η=RH Γ P e G x true (v35 id Q) J η:=_root_.id rfl
theorem waq {x:Code}:RH Γ P e G (.loop x) true Q J η=zpr Γ P e G x Q J η:=_root_.id rfl
theorem z1a {id:Nat}:RH Γ P e G (.exit id) true Q J η=Q (.exit id) true J η:=_root_.id rfl
theorem zm5:RH Γ P e G .ret true Q J η=Q .ret true J η:=_root_.id rfl
theorem y4k {l:Nat}:RH Γ P e G (.label l) true Q J η=Q .normal true J η:=_root_.id rfl
theorem yq5 {lit fn:Bool} {ops:List Oper} {K:Bool->List SV->List SB->Prop}:wji Γ P lit fn ops true [] J η K=K true J η:=_root_.id rfl
theorem zz6 {lit fn:Bool} {ops:List Oper} {o:Oper} {r:List Oper} {K:Bool->List SV->List SB->Prop}:wji Γ P lit fn ops true (o::r) J η K=gdH Γ P lit fn (tick (vad ops J o)) o J η true (hide (fun b J η=>wji Γ P lit fn ops b r (nrmV J) η K) ()):=_root_.id rfl
theorem zk9 {lit fn:Bool} {nb:Nat} {ops:List Oper} {acc:List HR} {K:Bool->List SV->List SB->Prop}:x5d Γ P lit fn nb ops true [] acc J η K=zsq ops acc (hide (fun b=>K b J η) ()):=_root_.id rfl
theorem wuj {lit fn:Bool} {nb:Nat} {ops:List Oper} {o:Oper} {r:List Oper} {acc:List HR} {K:Bool->List SV->List SB->Prop}:x5d Γ P lit fn nb ops true (o::r) acc J η K=gdG Γ P lit fn nb (tick (vad ops J o)) o J η true (hide (fun b rd rh x h=>x5d Γ P lit fn (nxtB nb h) ops b r (nrmH (acc++[⟨rd,rh,x,h⟩])) (nrmV (appL x J)) (appL h η) K) ()):=_root_.id rfl
theorem zbu {n:Nat} {k:Bool->List SV->List SB->Prop}:wtq n k true J η=k true J (x9z n η):=_root_.id rfl
end
section
variable {next:Bool->List SV->List SB->Prop} {Q:Exit->Bool->List SV->List SB->Prop}
theorem y7v:yxh next Q .normal=next:=_root_.id rfl
theorem yuk {id:Nat}:yxh next Q (.exit id)=Q (.exit id):=_root_.id rfl
theorem wsw:yxh next Q .ret=Q .ret:=_root_.id rfl
theorem zv5 {id:Nat}:v35 id Q .normal=Q .normal:=_root_.id rfl
def selH (c:Bool) (x y:Bool->List SV->List SB->Prop):Bool->List SV->List SB->Prop:=match c with
 | true=>x
 | false=>y
theorem zx0 {id j:Nat}:v35 id Q (.exit j)=selH (j==id) (Q .normal) (Q (.exit j)):=by
 have h:v35 id Q (.exit j)=if j=id then Q .normal else Q (.exit j):=rfl
 rw [h];unfold selH;by_cases he:j=id
 . rw [if_pos he,show (j==id)=true from by simp [he]]
 . rw [if_neg he,show (j==id)=false from by simp [he]]
theorem vbc {x y:Bool->List SV->List SB->Prop}:selH true x y=x:=rfl
theorem zv7 {x y:Bool->List SV->List SB->Prop}:selH false x y=y:=rfl
theorem yy8 {c c':Bool} {x y:Bool->List SV->List SB->Prop} (h:c=c'):selH c x y=selH c' x y:=by rw [h]
theorem wp5 {id:Nat}:v35 id Q .ret=Q .ret:=_root_.id rfl
end
section
variable {o:Oper} {J:List SV} {η:List SB} {b:Bool} {k:Bool->List SV->List SB->Prop}
theorem wyz {rd rh:List Nat} {x:List (Nat×SV)} {h:List (Nat×SB)}:doH Γ P (.eff rd rh x h none) o J η b k=k b (appL x J) (appL h η):=_root_.id rfl
theorem v0e {rd rh:List Nat} {x:List (Nat×SV)} {h:List (Nat×SB)} {z:SB}:doH Γ P (.eff rd rh x h (some z)) o J η b k=k b (appL x J) (appL h η++[z]):=_root_.id rfl
theorem wvi {f:FuncId} {l:List AV} {rd rh bs:List Nat}:doH Γ P (.callD f l rd rh bs) o J η b k=ziw Γ P f l (appL (frzE η bs) η) (hide (fun b res=>resK o J (appL (frzE η bs) η) b k (resS η.length res)) ()) (hide (fun b η2 res=>k b (appL (xss o res) J) η2) ()):=_root_.id rfl
theorem xnq {f:FuncId} {l:List SV} {rd:List Nat}:doH Γ P (.callH f l rd) o J η b k=zg7 Γ P f η l (hide (fun b η2 res=>k b (appL (xss o res) J) η2) ()):=_root_.id rfl
theorem vro {r:Option SV} {z:SV} {ok:Bool} {rd rh:List Nat}:doH Γ P (.look r z ok rd rh) o J η b k=xpj o J η b k (ytw ok r z):=_root_.id rfl
theorem vka:doH Γ P .bad o J η b k=BadO o.op J η:=_root_.id rfl
theorem xj9 {y:SV}:resK o J η b k (some (y,none))=k b (appL (xss o y) J) η:=_root_.id rfl
theorem z2g {lit fn:Bool}:gdH Γ P lit fn .plain o J η b k=doH Γ P (tick (opF P Γ lit fn J η η.length o)) o J η b k:=_root_.id rfl
theorem v07 {lit fn:Bool} {d:Nat} {c b':Bool}:gdH Γ P lit fn (.when d c b') o J η b k=v91 c b' (hide (fun b=>doH Γ P (tick (opF P Γ lit fn J η η.length o)) o J η b k) ()) (hide (fun b=>yj1 o J η b k) ()):=_root_.id rfl
theorem y69 {lit fn:Bool} {d:Nat}:gdH Γ P lit fn (.skip d) o J η b k=yj1 o J η b k:=_root_.id rfl
end
section
variable {o:Oper} {J:List SV} {η:List SB} {nb:Nat} {b:Bool} {k:Bool->List Nat->List Nat->List (Nat×SV)->List (Nat×SB)->Prop}
theorem yoy {rd rh:List Nat} {x:List (Nat×SV)} {h:List (Nat×SB)}:doG Γ P (.eff rd rh x h none) o J η nb b k=k b rd rh x h:=_root_.id rfl
theorem zes {rd rh:List Nat} {x:List (Nat×SV)} {h:List (Nat×SB)} {z:SB}:doG Γ P (.eff rd rh x h (some z)) o J η nb b k=(zon η nb=true/\k b rd (nb::rh) x (h++[(nb,z)])):=_root_.id rfl
theorem vcx {f:FuncId} {l:List AV} {rd rh bs:List Nat}:doG Γ P (.callD f l rd rh bs) o J η nb b k=xwk Γ P f l (hide (fun b res=>resG o J η nb rd rh bs b k (resS nb res)) ()):=_root_.id rfl
theorem x91 {f:FuncId} {l:List SV} {rd:List Nat}:doG Γ P (.callH f l rd) o J η nb b k=v1n Γ P f η l (hide (fun b rh heff res=>k b rd rh (xss o res) heff) ()):=_root_.id rfl
theorem vnc {rd rh bs:List Nat} {y:SV}:resG o J η nb rd rh bs b k (some (y,none))=k b rd (rh++bs) (xss o y) (frzE η bs):=_root_.id rfl
theorem zf6 {d:Nat} {rd rh:List Nat} {x:List (Nat×SV)} {h:List (Nat×SB)}:onG d k b rd rh x h=k b (d::rd) rh x h:=_root_.id rfl
theorem zq7 {lit fn:Bool}:gdG Γ P lit fn nb .plain o J η b k=doG Γ P (tick (opF P Γ lit fn J η nb o)) o J η nb b k:=_root_.id rfl
theorem x1q {lit fn:Bool} {d:Nat} {c b':Bool}:gdG Γ P lit fn nb (.when d c b') o J η b k=v91 c b' (hide (fun b=>doG Γ P (tick (opF P Γ lit fn J η nb o)) o J η nb b (hide (fun b rd rh x h=>onG d k b rd rh x h) ())) ()) (hide (fun b=>zr7 d o b k) ()):=_root_.id rfl
theorem ybs {lit fn:Bool} {d:Nat}:gdG Γ P lit fn nb (.skip d) o J η b k=zr7 d o b k:=_root_.id rfl
end
theorem xvo {c:Operand} {J:List SV} {X Y:Bool->Prop} {p:Bool}:y6h c J X Y (.one (.dat (.raw (.bool p))))=yvv p X Y:=_root_.id rfl
theorem x2u {rs:List ResultVar} {res:AV} {b:Bool} {J:List SV} {η:List SB}:vij P rs res .ret b J η=endR η res (tick (yp6 P J η rs)):=_root_.id rfl
theorem vzf {η:List SB} {res:AV} {x:SV}:endR η res (some x)=endD res (tick (x2v η x)):=_root_.id rfl
theorem w8t {res av:AV} {bs:List Nat}:endD res (some (av,bs))=RLe av res:=_root_.id rfl
theorem xrf {rs:List ResultVar} {res:SV} {b:Bool} {J:List SV} {η η':List SB}:xke Γ P e rs η' res .ret b J η=endH Γ e η η' res (tick (yp6 P J η rs)):=_root_.id rfl
theorem yw9 {rs:List ResultVar} {res:SV} {b:Bool} {J:List SV} {η η':List SB}:xke Γ P e rs η' res .normal b J η=endH Γ e η η' res (tick (yp6 P J η rs)):=_root_.id rfl
theorem zc2 {res x:SV} {η η':List SB}:endH Γ e η η' res (some x)=StH Γ e [x] η [res] η':=_root_.id rfl
theorem x6v {α:Type} {x:α}:tick (some x)=some x:=_root_.id rfl
theorem v4b {η η':List SB} {res:AV} {o o':Option SV} (h:o=o') (hη:η=η'):endR η res o=endR η' res o':=by rw [h,hη]
theorem wyt {res:AV} {o o':Option (AV×List Nat)} (h:o=o'):endD res o=endD res o':=by rw [h]
theorem wz0 {e η η' η1:List SB} {res:SV} {o o':Option SV} (h:o=o') (hη:η=η1):endH Γ e η η' res o=endH Γ e η1 η' res o':=by rw [h,hη]
theorem x6a {e η η' η1 η1':List SB} {J σ1 J' σ1':List SV} (h:J=σ1) (hη:η=η1) (h':J'=σ1') (hη':η'=η1'):StH Γ e J η J' η'=StH Γ e σ1 η1 σ1' η1':=by rw [h,hη,h',hη']
section
variable {o o':Oper} {J J':List SV} {η η':List SB} {b:Bool}
theorem zom {k:Bool->List SV->List SB->Prop} {x x':HO} (h:x=x'):doH Γ P x o J η b k=doH Γ P x' o J η b k:=by rw [h]
theorem ypt {nb:Nat} {k:Bool->List Nat->List Nat->List (Nat×SV)->List (Nat×SB)->Prop} {x x':HO} (h:x=x'):doG Γ P x o J η nb b k=doG Γ P x' o J η nb b k:=by rw [h]
theorem za1 {nb:Nat} {rd rh bs:List Nat} {k:Bool->List Nat->List Nat->List (Nat×SV)->List (Nat×SB)->Prop} {r r':Option (SV×Option SB)} (h:r=r'):resG o J η nb rd rh bs b k r=resG o J η nb rd rh bs b k r':=by rw [h]
theorem zme {c:Operand} {X Y:Bool->Prop} {v v':SV} (h:v=v'):y6h c J X Y v=y6h c J X Y v':=by rw [h]
theorem yoq {c:Code} {Q:Exit->Bool->List SV->List SB->Prop} (h:J=J') (hη:η=η'):zpr Γ P e G c Q J η=zpr Γ P e G c Q J' η':=by rw [h,hη]
theorem wmk {lit fn:Bool} {ops l:List Oper} {K:Bool->List SV->List SB->Prop} (h:J=J') (hη:η=η'):wji Γ P lit fn ops b l J η K=wji Γ P lit fn ops b l J' η' K:=by rw [h,hη]
theorem zdm {lit fn:Bool} {nb nb':Nat} {ops l:List Oper} {acc acc':List HR} {K:Bool->List SV->List SB->Prop} (hn:nb=nb') (ha:acc=acc') (h:J=J') (hη:η=η'):x5d Γ P lit fn nb ops b l acc J η K=x5d Γ P lit fn nb' ops b l acc' J' η' K:=by rw [h,ha,hη,hn]
end
def xa1 (P:Program) (t:TypeId):TypeInfo:=(P.info? t).getD default
theorem ya4 {a:SV} {J:List SV}:gtS (a::J) 0=a:=rfl
theorem zbt {a:SV} {J:List SV} {n:Nat}:gtS (a::J) (n+1)=gtS J n:=rfl
theorem wjv {a:SB} {η:List SB}:gB (a::η) 0=a:=rfl
theorem xnr {a:SB} {η:List SB} {n:Nat}:gB (a::η) (n+1)=gB η n:=rfl
theorem wbu {l:List SV}:appL [] l=l:=rfl
theorem yfb {p:Nat×SV} {r:List (Nat×SV)} {l:List SV}:appL (p::r) l=appL r (l.set p.1 p.2):=rfl
theorem yzc {l:List SB}:appL [] l=l:=rfl
theorem z4j {p:Nat×SB} {r:List (Nat×SB)} {l:List SB}:appL (p::r) l=appL r (l.set p.1 p.2):=rfl
theorem xqg {J:List SV} {t:Nat}:opdS Γ J (.tmp t)=gtS J t:=rfl
theorem vss {J:List SV} {v:Value}:opdS Γ J (.const v)=zyh v:=rfl
theorem zlw {J:List SV} {f:FuncId}:opdS Γ J (.func f)=.one (.dat (.raw (.func (.func f) #[] #[]))):=rfl
theorem zku {J:List SV} {g:Nat}:opdS Γ J (.global g)=x9r Γ g:=rfl
theorem y3b {J:List SV} {d:Nat}:nh (J.map vw) d=decide (d<J.length):=by
 unfold nh;by_cases h:d<J.length
 . rw [List.getElem?_map,List.getElem?_eq_getElem h,decide_eq_true h];simp only [Option.map_some,xro,Bool.not_false]
 . rw [List.getElem?_map,List.getElem?_eq_none (by omega),decide_eq_false h];rfl
section
variable {a0 a1 a2 a3 a4 a5 a6 a7 a8 a9 a10 a11 a12 a13 a14 a15 x:SV} {r:List SV} {n:Nat}
theorem xhe:gtS (chS a0 a1 a2 a3 a4 a5 a6 a7 a8 a9 a10 a11 a12 a13 a14 a15 r) 0=a0:=rfl
theorem ww0:(chS a0 a1 a2 a3 a4 a5 a6 a7 a8 a9 a10 a11 a12 a13 a14 a15 r).set 0 x=chS x a1 a2 a3 a4 a5 a6 a7 a8 a9 a10 a11 a12 a13 a14 a15 r:=rfl
theorem ynn:gtS (chS a0 a1 a2 a3 a4 a5 a6 a7 a8 a9 a10 a11 a12 a13 a14 a15 r) 1=a1:=rfl
theorem yfx:(chS a0 a1 a2 a3 a4 a5 a6 a7 a8 a9 a10 a11 a12 a13 a14 a15 r).set 1 x=chS a0 x a2 a3 a4 a5 a6 a7 a8 a9 a10 a11 a12 a13 a14 a15 r:=rfl
theorem xv1:gtS (chS a0 a1 a2 a3 a4 a5 a6 a7 a8 a9 a10 a11 a12 a13 a14 a15 r) 2=a2:=rfl
theorem y9y:(chS a0 a1 a2 a3 a4 a5 a6 a7 a8 a9 a10 a11 a12 a13 a14 a15 r).set 2 x=chS a0 a1 x a3 a4 a5 a6 a7 a8 a9 a10 a11 a12 a13 a14 a15 r:=rfl
theorem y0z:gtS (chS a0 a1 a2 a3 a4 a5 a6 a7 a8 a9 a10 a11 a12 a13 a14 a15 r) 3=a3:=rfl
theorem xl6:(chS a0 a1 a2 a3 a4 a5 a6 a7 a8 a9 a10 a11 a12 a13 a14 a15 r).set 3 x=chS a0 a1 a2 x a4 a5 a6 a7 a8 a9 a10 a11 a12 a13 a14 a15 r:=rfl
theorem w1t:gtS (chS a0 a1 a2 a3 a4 a5 a6 a7 a8 a9 a10 a11 a12 a13 a14 a15 r) 4=a4:=rfl
theorem vl8:(chS a0 a1 a2 a3 a4 a5 a6 a7 a8 a9 a10 a11 a12 a13 a14 a15 r).set 4 x=chS a0 a1 a2 a3 x a5 a6 a7 a8 a9 a10 a11 a12 a13 a14 a15 r:=rfl
theorem zwe:gtS (chS a0 a1 a2 a3 a4 a5 a6 a7 a8 a9 a10 a11 a12 a13 a14 a15 r) 5=a5:=rfl
theorem wfq:(chS a0 a1 a2 a3 a4 a5 a6 a7 a8 a9 a10 a11 a12 a13 a14 a15 r).set 5 x=chS a0 a1 a2 a3 a4 x a6 a7 a8 a9 a10 a11 a12 a13 a14 a15 r:=rfl
theorem yvk:gtS (chS a0 a1 a2 a3 a4 a5 a6 a7 a8 a9 a10 a11 a12 a13 a14 a15 r) 6=a6:=rfl
theorem xk9:(chS a0 a1 a2 a3 a4 a5 a6 a7 a8 a9 a10 a11 a12 a13 a14 a15 r).set 6 x=chS a0 a1 a2 a3 a4 a5 x a7 a8 a9 a10 a11 a12 a13 a14 a15 r:=rfl
theorem yie:gtS (chS a0 a1 a2 a3 a4 a5 a6 a7 a8 a9 a10 a11 a12 a13 a14 a15 r) 7=a7:=rfl
theorem zal:(chS a0 a1 a2 a3 a4 a5 a6 a7 a8 a9 a10 a11 a12 a13 a14 a15 r).set 7 x=chS a0 a1 a2 a3 a4 a5 a6 x a8 a9 a10 a11 a12 a13 a14 a15 r:=rfl
theorem vpk:gtS (chS a0 a1 a2 a3 a4 a5 a6 a7 a8 a9 a10 a11 a12 a13 a14 a15 r) 8=a8:=rfl
theorem ydi:(chS a0 a1 a2 a3 a4 a5 a6 a7 a8 a9 a10 a11 a12 a13 a14 a15 r).set 8 x=chS a0 a1 a2 a3 a4 a5 a6 a7 x a9 a10 a11 a12 a13 a14 a15 r:=rfl
theorem znr:gtS (chS a0 a1 a2 a3 a4 a5 a6 a7 a8 a9 a10 a11 a12 a13 a14 a15 r) 9=a9:=rfl
theorem zqd:(chS a0 a1 a2 a3 a4 a5 a6 a7 a8 a9 a10 a11 a12 a13 a14 a15 r).set 9 x=chS a0 a1 a2 a3 a4 a5 a6 a7 a8 x a10 a11 a12 a13 a14 a15 r:=rfl
theorem yqi:gtS (chS a0 a1 a2 a3 a4 a5 a6 a7 a8 a9 a10 a11 a12 a13 a14 a15 r) 10=a10:=rfl
theorem w7w:(chS a0 a1 a2 a3 a4 a5 a6 a7 a8 a9 a10 a11 a12 a13 a14 a15 r).set 10 x=chS a0 a1 a2 a3 a4 a5 a6 a7 a8 a9 x a11 a12 a13 a14 a15 r:=rfl
theorem zbo:gtS (chS a0 a1 a2 a3 a4 a5 a6 a7 a8 a9 a10 a11 a12 a13 a14 a15 r) 11=a11:=rfl
theorem zxt:(chS a0 a1 a2 a3 a4 a5 a6 a7 a8 a9 a10 a11 a12 a13 a14 a15 r).set 11 x=chS a0 a1 a2 a3 a4 a5 a6 a7 a8 a9 a10 x a12 a13 a14 a15 r:=rfl
theorem zwz:gtS (chS a0 a1 a2 a3 a4 a5 a6 a7 a8 a9 a10 a11 a12 a13 a14 a15 r) 12=a12:=rfl
theorem y9x:(chS a0 a1 a2 a3 a4 a5 a6 a7 a8 a9 a10 a11 a12 a13 a14 a15 r).set 12 x=chS a0 a1 a2 a3 a4 a5 a6 a7 a8 a9 a10 a11 x a13 a14 a15 r:=rfl
theorem wsl:gtS (chS a0 a1 a2 a3 a4 a5 a6 a7 a8 a9 a10 a11 a12 a13 a14 a15 r) 13=a13:=rfl
theorem y9g:(chS a0 a1 a2 a3 a4 a5 a6 a7 a8 a9 a10 a11 a12 a13 a14 a15 r).set 13 x=chS a0 a1 a2 a3 a4 a5 a6 a7 a8 a9 a10 a11 a12 x a14 a15 r:=rfl
theorem v08:gtS (chS a0 a1 a2 a3 a4 a5 a6 a7 a8 a9 a10 a11 a12 a13 a14 a15 r) 14=a14:=rfl
theorem x32:(chS a0 a1 a2 a3 a4 a5 a6 a7 a8 a9 a10 a11 a12 a13 a14 a15 r).set 14 x=chS a0 a1 a2 a3 a4 a5 a6 a7 a8 a9 a10 a11 a12 a13 x a15 r:=rfl
theorem xmx:gtS (chS a0 a1 a2 a3 a4 a5 a6 a7 a8 a9 a10 a11 a12 a13 a14 a15 r) 15=a15:=rfl
theorem xl0:(chS a0 a1 a2 a3 a4 a5 a6 a7 a8 a9 a10 a11 a12 a13 a14 a15 r).set 15 x=chS a0 a1 a2 a3 a4 a5 a6 a7 a8 a9 a10 a11 a12 a13 a14 x r:=rfl
theorem w6r:gtS (chS a0 a1 a2 a3 a4 a5 a6 a7 a8 a9 a10 a11 a12 a13 a14 a15 r) (n+16)=gtS r n:=rfl
theorem ycz:(chS a0 a1 a2 a3 a4 a5 a6 a7 a8 a9 a10 a11 a12 a13 a14 a15 r).set (n+16) x=chS a0 a1 a2 a3 a4 a5 a6 a7 a8 a9 a10 a11 a12 a13 a14 a15 (r.set n x):=rfl
theorem y37:(chS a0 a1 a2 a3 a4 a5 a6 a7 a8 a9 a10 a11 a12 a13 a14 a15 r).length=r.length+16:=rfl
theorem w9c:xwd (a0::a1::a2::a3::a4::a5::a6::a7::a8::a9::a10::a11::a12::a13::a14::a15::r)=chS a0 a1 a2 a3 a4 a5 a6 a7 a8 a9 a10 a11 a12 a13 a14 a15 (xwd r):=rfl
theorem xod:xwd (chS a0 a1 a2 a3 a4 a5 a6 a7 a8 a9 a10 a11 a12 a13 a14 a15 r)=chS a0 a1 a2 a3 a4 a5 a6 a7 a8 a9 a10 a11 a12 a13 a14 a15 (xwd r):=rfl
theorem yi4:xwd []=[]:=rfl
theorem wqr:xwd [a0]=[a0]:=rfl
theorem zzs:xwd [a0,a1]=[a0,a1]:=rfl
theorem xgz:xwd [a0,a1,a2]=[a0,a1,a2]:=rfl
theorem y4d:xwd [a0,a1,a2,a3]=[a0,a1,a2,a3]:=rfl
theorem zcf:xwd [a0,a1,a2,a3,a4]=[a0,a1,a2,a3,a4]:=rfl
theorem v1p:xwd [a0,a1,a2,a3,a4,a5]=[a0,a1,a2,a3,a4,a5]:=rfl
theorem z8a:xwd [a0,a1,a2,a3,a4,a5,a6]=[a0,a1,a2,a3,a4,a5,a6]:=rfl
theorem vfz:xwd [a0,a1,a2,a3,a4,a5,a6,a7]=[a0,a1,a2,a3,a4,a5,a6,a7]:=rfl
theorem y1v:xwd [a0,a1,a2,a3,a4,a5,a6,a7,a8]=[a0,a1,a2,a3,a4,a5,a6,a7,a8]:=rfl
theorem w8g:xwd [a0,a1,a2,a3,a4,a5,a6,a7,a8,a9]=[a0,a1,a2,a3,a4,a5,a6,a7,a8,a9]:=rfl
theorem zda:xwd [a0,a1,a2,a3,a4,a5,a6,a7,a8,a9,a10]=[a0,a1,a2,a3,a4,a5,a6,a7,a8,a9,a10]:=rfl
theorem zxn:xwd [a0,a1,a2,a3,a4,a5,a6,a7,a8,a9,a10,a11]=[a0,a1,a2,a3,a4,a5,a6,a7,a8,a9,a10,a11]:=rfl
theorem z9n:xwd [a0,a1,a2,a3,a4,a5,a6,a7,a8,a9,a10,a11,a12]=[a0,a1,a2,a3,a4,a5,a6,a7,a8,a9,a10,a11,a12]:=rfl
theorem vu5:xwd [a0,a1,a2,a3,a4,a5,a6,a7,a8,a9,a10,a11,a12,a13]=[a0,a1,a2,a3,a4,a5,a6,a7,a8,a9,a10,a11,a12,a13]:=rfl
theorem yov:xwd [a0,a1,a2,a3,a4,a5,a6,a7,a8,a9,a10,a11,a12,a13,a14]=[a0,a1,a2,a3,a4,a5,a6,a7,a8,a9,a10,a11,a12,a13,a14]:=rfl
theorem ylh {ks:List Nat} {i:Nat}:wmh ks i (chS a0 a1 a2 a3 a4 a5 a6 a7 a8 a9 a10 a11 a12 a13 a14 a15 r)=wmh ks i (a0::a1::a2::a3::a4::a5::a6::a7::a8::a9::a10::a11::a12::a13::a14::a15::r):=rfl
end
attribute [go_sem] xhe ynn xv1 y0z w1t zwe yvk yie vpk znr yqi zbo zwz wsl v08 xmx ww0 yfx y9y xl6 vl8 wfq xk9 zal ydi zqd w7w zxt y9x y9g x32 xl0 yi4 wqr zzs xgz y4d zcf v1p z8a vfz y1v w8g zda zxn z9n vu5 yov w6r ycz y37 w9c xod ylh
attribute [go_sem ↓] wq1 xht zgc vvb z0t zla waq z1a zm5 y4k
attribute [go_sem] yq5 zz6 zk9 wuj zbu xsc x6b ys8 v94
attribute [go_sem ↓] yoh xd0 zyu yav xdt
attribute [go_sem] wuf xrg xnk x4l y5a wn9 v67 yau x7z
attribute [go_sem ↓] y7v yuk wsw zv5 zx0 wp5
attribute [go_sem] vbc zv7 zdz zdy vmg v3m
attribute [go_sem] wyz v0e wvi xnq vro vka xj9 z2g v07 y69 yj1 xpj
attribute [go_sem] yoy zes vcx x91 vnc zf6 zq7 x1q ybs zr7 z7x
attribute [go_sem] xvo x2u xrf yw9 vzf w8t zc2 x6v
attribute [congr] zom ypt za1 zme yoq wmk zdm wzp yy8 v4b wyt wz0 x6a
attribute [go_sem] ya4 zbt wjv xnr wbu yfb yzc z4j xqg vss zlw zku y3b
attribute [go_sem] wz9 zu7 xhh x8m anyS yr1 wmh vo8 zzd nxtB
attribute [go_sem] vad opF wh2 zi5 fBin fUn xoz v6n wyn xw4 yy4 w1y fLen vh0 zp5 fNil vkm yfe fBox opH opP wig zcw zcw.callG xia xpa opH.appO oldO oldR av2 vO nO isNil v70
attribute [go_sem] y3j rawS vgw ytu vof TI.many seeH xxi zdp veg yb0 ptrH lenH natH w9x wqj argD wnp zso x2k vi5 resS xzm xss zyh x9r frzB frzE vtf subC wdx z1v appT dstH srcH zf3
attribute [go_sem] yul updM kEq xj8 keyX z4f xmc xfa wfy rawL ytw you xjz zd4 wlv zp3 yp6 x2v x9z zon xoi oB oN zxy intS ckH xam wbs xnc zs0 vw vwO vwG datL datH
end Go.Hp
namespace Go.Slot.T
open Go Go.RowKit Go.Slot Go.Hp
open Go.Proofs.Tryz (prog)
theorem w1 {k:TI->OR}:vjm prog 1 k=k ⟨1,8,[Cell.raw Value.nilFunc],Sh.cell⟩:=ybm (by kernel_rfl)
theorem m1:mkTI prog 1=some ⟨1,8,[Cell.raw Value.nilFunc],Sh.cell⟩:=by kernel_rfl
attribute [go_sem ↓] w1
attribute [go_sem] m1
theorem z1:x0m prog 1=some (SV.one (HC.dat (Cell.raw Value.nilFunc))):=by kernel_rfl
attribute [go_sem] z1
theorem w2 {k:TI->OR}:vjm prog 2 k=k ⟨1,8,[Cell.raw (Value.int IntKind.i64 0)],Sh.int IntKind.i64⟩:=ybm (by kernel_rfl)
theorem m2:mkTI prog 2=some ⟨1,8,[Cell.raw (Value.int IntKind.i64 0)],Sh.int IntKind.i64⟩:=by kernel_rfl
attribute [go_sem ↓] w2
attribute [go_sem] m2
theorem u2:prog.underlying 2=some (TypeDesc.int IntKind.i64):=by kernel_rfl
attribute [go_sem] u2
theorem z2:x0m prog 2=some (SV.one (HC.dat (Cell.raw (Value.int IntKind.i64 0)))):=by kernel_rfl
attribute [go_sem] z2
theorem w3 {k:TI->OR}:vjm prog 3 k=k ⟨1,8,[Cell.raw (Value.int IntKind.i64 0)],Sh.int IntKind.i64⟩:=ybm (by kernel_rfl)
theorem m3:mkTI prog 3=some ⟨1,8,[Cell.raw (Value.int IntKind.i64 0)],Sh.int IntKind.i64⟩:=by kernel_rfl
attribute [go_sem ↓] w3
attribute [go_sem] m3
theorem u3:prog.underlying 3=some (TypeDesc.int IntKind.i64):=by kernel_rfl
attribute [go_sem] u3
theorem z3:x0m prog 3=some (SV.one (HC.dat (Cell.raw (Value.int IntKind.i64 0)))):=by kernel_rfl
attribute [go_sem] z3
theorem w4 {k:TI->OR}:vjm prog 4 k=k ⟨1,1,[Cell.raw (Value.bool false)],Sh.bool⟩:=ybm (by kernel_rfl)
theorem m4:mkTI prog 4=some ⟨1,1,[Cell.raw (Value.bool false)],Sh.bool⟩:=by kernel_rfl
attribute [go_sem ↓] w4
attribute [go_sem] m4
theorem z4:x0m prog 4=some (SV.one (HC.dat (Cell.raw (Value.bool false)))):=by kernel_rfl
attribute [go_sem] z4
theorem w5 {k:TI->OR}:vjm prog 5 k=k ⟨1,1,[Cell.raw (Value.int IntKind.u8 0)],Sh.int IntKind.u8⟩:=ybm (by kernel_rfl)
theorem m5:mkTI prog 5=some ⟨1,1,[Cell.raw (Value.int IntKind.u8 0)],Sh.int IntKind.u8⟩:=by kernel_rfl
attribute [go_sem ↓] w5
attribute [go_sem] m5
theorem u5:prog.underlying 5=some (TypeDesc.int IntKind.u8):=by kernel_rfl
attribute [go_sem] u5
theorem w9 {k:TI->OR}:vjm prog 9 k=k ⟨1,16,[Cell.raw (Value.string ⟨⟨[]⟩⟩)],Sh.string⟩:=ybm (by kernel_rfl)
theorem m9:mkTI prog 9=some ⟨1,16,[Cell.raw (Value.string ⟨⟨[]⟩⟩)],Sh.string⟩:=by kernel_rfl
attribute [go_sem ↓] w9
attribute [go_sem] m9
theorem u9:prog.underlying 9=some TypeDesc.string:=by kernel_rfl
attribute [go_sem] u9
theorem z9:x0m prog 9=some (SV.one (HC.dat (Cell.raw (Value.string ⟨⟨[]⟩⟩)))):=by kernel_rfl
attribute [go_sem] z9
theorem w22 {k:TI->OR}:vjm prog 22 k=k ⟨1,24,[Cell.zc],Sh.slice 92 6 72 none⟩:=ybm (by kernel_rfl)
theorem m22:mkTI prog 22=some ⟨1,24,[Cell.zc],Sh.slice 92 6 72 none⟩:=by kernel_rfl
attribute [go_sem ↓] w22
attribute [go_sem] m22
theorem w23 {k:TI->OR}:vjm prog 23 k=k ⟨1,24,[Cell.zc],Sh.slice 58 3 48 none⟩:=ybm (by kernel_rfl)
theorem m23:mkTI prog 23=some ⟨1,24,[Cell.zc],Sh.slice 58 3 48 none⟩:=by kernel_rfl
attribute [go_sem ↓] w23
attribute [go_sem] m23
theorem w24 {k:TI->OR}:vjm prog 24 k=k ⟨1,24,[Cell.zc],Sh.slice 65 3 56 none⟩:=ybm (by kernel_rfl)
theorem m24:mkTI prog 24=some ⟨1,24,[Cell.zc],Sh.slice 65 3 56 none⟩:=by kernel_rfl
attribute [go_sem ↓] w24
attribute [go_sem] m24
theorem w25 {k:TI->OR}:vjm prog 25 k=k ⟨1,24,[Cell.zc],Sh.slice 71 7 112 none⟩:=ybm (by kernel_rfl)
theorem m25:mkTI prog 25=some ⟨1,24,[Cell.zc],Sh.slice 71 7 112 none⟩:=by kernel_rfl
attribute [go_sem ↓] w25
attribute [go_sem] m25
theorem w26 {k:TI->OR}:vjm prog 26 k=k ⟨1,24,[Cell.zc],Sh.slice 76 7 104 none⟩:=ybm (by kernel_rfl)
theorem m26:mkTI prog 26=some ⟨1,24,[Cell.zc],Sh.slice 76 7 104 none⟩:=by kernel_rfl
attribute [go_sem ↓] w26
attribute [go_sem] m26
theorem w27 {k:TI->OR}:vjm prog 27 k=k ⟨1,24,[Cell.zc],Sh.slice 94 3 40 none⟩:=ybm (by kernel_rfl)
theorem m27:mkTI prog 27=some ⟨1,24,[Cell.zc],Sh.slice 94 3 40 none⟩:=by kernel_rfl
attribute [go_sem ↓] w27
attribute [go_sem] m27
theorem w28 {k:TI->OR}:vjm prog 28 k=k ⟨1,24,[Cell.zc],Sh.slice 100 3 40 none⟩:=ybm (by kernel_rfl)
theorem m28:mkTI prog 28=some ⟨1,24,[Cell.zc],Sh.slice 100 3 40 none⟩:=by kernel_rfl
attribute [go_sem ↓] w28
attribute [go_sem] m28
theorem w29 {k:TI->OR}:vjm prog 29 k=k ⟨1,24,[Cell.zc],Sh.slice 43 2 40 none⟩:=ybm (by kernel_rfl)
theorem m29:mkTI prog 29=some ⟨1,24,[Cell.zc],Sh.slice 43 2 40 none⟩:=by kernel_rfl
attribute [go_sem ↓] w29
attribute [go_sem] m29
theorem m31:mkTI prog 31=some ⟨9,208,[Cell.raw (Value.string ⟨⟨[]⟩⟩),Cell.zc,Cell.zc,Cell.zc,Cell.zc,Cell.zc,Cell.zc,Cell.zc,Cell.zc],Sh.struct [(0,1,9),(1,1,22),(2,1,23),(3,1,24),(4,1,25),(5,1,26),(6,1,27),(7,1,28),(8,1,29)]⟩:=by kernel_rfl
attribute [go_sem] m31
theorem m34:mkTI prog 34=some ⟨1,8,[Cell.raw (Value.int IntKind.i64 0)],Sh.int IntKind.i64⟩:=by kernel_rfl
attribute [go_sem] m34
theorem w38 {k:TI->OR}:vjm prog 38 k=k ⟨1,24,[Cell.zc],Sh.slice 3 1 8 (some IntKind.i64)⟩:=ybm (by kernel_rfl)
theorem m38:mkTI prog 38=some ⟨1,24,[Cell.zc],Sh.slice 3 1 8 (some IntKind.i64)⟩:=by kernel_rfl
attribute [go_sem ↓] w38
attribute [go_sem] m38
theorem w41 {k:TI->OR}:vjm prog 41 k=k ⟨1,24,[Cell.zc],Sh.slice 50 6 104 none⟩:=ybm (by kernel_rfl)
theorem m41:mkTI prog 41=some ⟨1,24,[Cell.zc],Sh.slice 50 6 104 none⟩:=by kernel_rfl
attribute [go_sem ↓] w41
attribute [go_sem] m41
theorem w43 {k:TI->OR}:vjm prog 43 k=k ⟨2,40,[Cell.raw (Value.string ⟨⟨[]⟩⟩),Cell.zc],Sh.struct [(0,1,9),(1,1,41)]⟩:=ybm (by kernel_rfl)
theorem m43:mkTI prog 43=some ⟨2,40,[Cell.raw (Value.string ⟨⟨[]⟩⟩),Cell.zc],Sh.struct [(0,1,9),(1,1,41)]⟩:=by kernel_rfl
attribute [go_sem ↓] w43
attribute [go_sem] m43
theorem w48 {k:TI->OR}:vjm prog 48 k=k ⟨1,24,[Cell.zc],Sh.slice 9 1 16 none⟩:=ybm (by kernel_rfl)
theorem m48:mkTI prog 48=some ⟨1,24,[Cell.zc],Sh.slice 9 1 16 none⟩:=by kernel_rfl
attribute [go_sem ↓] w48
attribute [go_sem] m48
theorem w50 {k:TI->OR}:vjm prog 50 k=k ⟨6,104,[Cell.raw (Value.int IntKind.i64 0),Cell.zc,Cell.zc,Cell.raw (Value.string ⟨⟨[]⟩⟩),Cell.zc,Cell.raw (Value.int IntKind.i64 0)],Sh.struct [(0,1,3),(1,1,48),(2,1,48),(3,1,9),(4,1,48),(5,1,3)]⟩:=ybm (by kernel_rfl)
theorem m50:mkTI prog 50=some ⟨6,104,[Cell.raw (Value.int IntKind.i64 0),Cell.zc,Cell.zc,Cell.raw (Value.string ⟨⟨[]⟩⟩),Cell.zc,Cell.raw (Value.int IntKind.i64 0)],Sh.struct [(0,1,3),(1,1,48),(2,1,48),(3,1,9),(4,1,48),(5,1,3)]⟩:=by kernel_rfl
attribute [go_sem ↓] w50
attribute [go_sem] m50
theorem m58:mkTI prog 58=some ⟨3,48,[Cell.raw (Value.string ⟨⟨[]⟩⟩),Cell.raw (Value.string ⟨⟨[]⟩⟩),Cell.raw (Value.string ⟨⟨[]⟩⟩)],Sh.struct [(0,1,9),(1,1,9),(2,1,9)]⟩:=by kernel_rfl
attribute [go_sem] m58
theorem w63 {k:TI->OR}:vjm prog 63 k=k ⟨1,24,[Cell.zc],Sh.slice 156 2 16 none⟩:=ybm (by kernel_rfl)
theorem m63:mkTI prog 63=some ⟨1,24,[Cell.zc],Sh.slice 156 2 16 none⟩:=by kernel_rfl
attribute [go_sem ↓] w63
attribute [go_sem] m63
theorem m65:mkTI prog 65=some ⟨3,56,[Cell.raw (Value.string ⟨⟨[]⟩⟩),Cell.raw (Value.string ⟨⟨[]⟩⟩),Cell.zc],Sh.struct [(0,1,9),(1,1,9),(2,1,63)]⟩:=by kernel_rfl
attribute [go_sem] m65
theorem w66 {k:TI->OR}:vjm prog 66 k=k ⟨1,24,[Cell.zc],Sh.slice 74 2 32 none⟩:=ybm (by kernel_rfl)
theorem m66:mkTI prog 66=some ⟨1,24,[Cell.zc],Sh.slice 74 2 32 none⟩:=by kernel_rfl
attribute [go_sem ↓] w66
attribute [go_sem] m66
theorem w67 {k:TI->OR}:vjm prog 67 k=k ⟨1,24,[Cell.zc],Sh.slice 69 5 72 none⟩:=ybm (by kernel_rfl)
theorem m67:mkTI prog 67=some ⟨1,24,[Cell.zc],Sh.slice 69 5 72 none⟩:=by kernel_rfl
attribute [go_sem ↓] w67
attribute [go_sem] m67
theorem m69:mkTI prog 69=some ⟨5,72,[Cell.raw (Value.int IntKind.i64 0),Cell.raw (Value.int IntKind.i64 0),Cell.raw (Value.string ⟨⟨[]⟩⟩),Cell.raw (Value.string ⟨⟨[]⟩⟩),Cell.zc],Sh.struct [(0,1,3),(1,1,3),(2,1,9),(3,1,9),(4,1,67)]⟩:=by kernel_rfl
attribute [go_sem] m69
theorem m71:mkTI prog 71=some ⟨7,112,[Cell.raw (Value.string ⟨⟨[]⟩⟩),Cell.zc,Cell.raw (Value.int IntKind.i64 0),Cell.raw (Value.int IntKind.i64 0),Cell.raw (Value.string ⟨⟨[]⟩⟩),Cell.raw (Value.string ⟨⟨[]⟩⟩),Cell.zc],Sh.struct [(0,1,9),(1,1,66),(2,5,69)]⟩:=by kernel_rfl
attribute [go_sem] m71
theorem m74:mkTI prog 74=some ⟨2,32,[Cell.raw (Value.string ⟨⟨[]⟩⟩),Cell.raw (Value.string ⟨⟨[]⟩⟩)],Sh.struct [(0,1,9),(1,1,9)]⟩:=by kernel_rfl
attribute [go_sem] m74
theorem m76:mkTI prog 76=some ⟨7,104,[Cell.raw (Value.string ⟨⟨[]⟩⟩),Cell.raw (Value.string ⟨⟨[]⟩⟩),Cell.raw (Value.int IntKind.i64 0),Cell.raw (Value.int IntKind.i64 0),Cell.raw (Value.string ⟨⟨[]⟩⟩),Cell.raw (Value.string ⟨⟨[]⟩⟩),Cell.zc],Sh.struct [(0,1,9),(1,1,9),(2,5,69)]⟩:=by kernel_rfl
attribute [go_sem] m76
theorem m84:mkTI prog 84=some ⟨1,8,[Cell.raw (Value.map none)],Sh.map 9 4⟩:=by kernel_rfl
attribute [go_sem] m84
theorem m87:mkTI prog 87=some ⟨2,16,[Cell.raw (Value.map none),Cell.raw (Value.bool false)],Sh.struct [(0,1,84),(1,1,4)]⟩:=by kernel_rfl
attribute [go_sem] m87
theorem m92:mkTI prog 92=some ⟨6,72,[Cell.raw (Value.string ⟨⟨[]⟩⟩),Cell.raw (Value.string ⟨⟨[]⟩⟩),Cell.raw (Value.int IntKind.i64 0),Cell.raw (Value.int IntKind.i64 0),Cell.raw (Value.string ⟨⟨[]⟩⟩),Cell.raw (Value.int IntKind.i64 0)],Sh.struct [(0,1,9),(1,1,9),(2,1,3),(3,1,3),(4,1,9),(5,1,3)]⟩:=by kernel_rfl
attribute [go_sem] m92
theorem m94:mkTI prog 94=some ⟨3,40,[Cell.raw (Value.string ⟨⟨[]⟩⟩),Cell.raw (Value.string ⟨⟨[]⟩⟩),Cell.raw (Value.int IntKind.i64 0)],Sh.struct [(0,1,9),(1,1,9),(2,1,3)]⟩:=by kernel_rfl
attribute [go_sem] m94
theorem m100:mkTI prog 100=some ⟨3,40,[Cell.raw (Value.string ⟨⟨[]⟩⟩),Cell.raw (Value.string ⟨⟨[]⟩⟩),Cell.raw (Value.int IntKind.i64 0)],Sh.struct [(0,1,9),(1,1,9),(2,1,3)]⟩:=by kernel_rfl
attribute [go_sem] m100
theorem m102:mkTI prog 102=some ⟨1,8,[Cell.raw (Value.map none)],Sh.map 9 9⟩:=by kernel_rfl
attribute [go_sem] m102
theorem m103:mkTI prog 103=some ⟨1,8,[Cell.raw (Value.map none)],Sh.map 114 4⟩:=by kernel_rfl
attribute [go_sem] m103
theorem m105:mkTI prog 105=some ⟨3,24,[Cell.raw (Value.map none),Cell.raw (Value.map none),Cell.raw (Value.map none)],Sh.struct [(0,1,102),(1,1,102),(2,1,103)]⟩:=by kernel_rfl
attribute [go_sem] m105
theorem m107:mkTI prog 107=some ⟨1,8,[Cell.raw (Value.map none)],Sh.map 114 3⟩:=by kernel_rfl
attribute [go_sem] m107
theorem m108:mkTI prog 108=some ⟨1,8,[Cell.raw (Value.map none)],Sh.map 114 3⟩:=by kernel_rfl
attribute [go_sem] m108
theorem w111 {k:TI->OR}:vjm prog 111 k=k ⟨1,24,[Cell.zc],Sh.slice 114 2 24 none⟩:=ybm (by kernel_rfl)
theorem m111:mkTI prog 111=some ⟨1,24,[Cell.zc],Sh.slice 114 2 24 none⟩:=by kernel_rfl
attribute [go_sem ↓] w111
attribute [go_sem] m111
theorem m114:mkTI prog 114=some ⟨2,24,[Cell.raw (Value.int IntKind.i64 0),Cell.raw (Value.string ⟨⟨[]⟩⟩)],Sh.struct [(0,1,3),(1,1,9)]⟩:=by kernel_rfl
attribute [go_sem] m114
theorem m124:mkTI prog 124=some ⟨2,16,[Cell.raw (Value.int IntKind.i64 0),Cell.raw (Value.int IntKind.i64 0)],Sh.array 2 3 1⟩:=by kernel_rfl
attribute [go_sem] m124
theorem m126:mkTI prog 126=some ⟨8,56,[Cell.raw (Value.string ⟨⟨[]⟩⟩),Cell.raw (Value.int IntKind.i64 0),Cell.raw (Value.int IntKind.i64 0),Cell.raw (Value.int IntKind.i64 0),Cell.raw (Value.int IntKind.i64 0),Cell.raw (Value.bool false),Cell.raw (Value.bool false),Cell.raw (Value.bool false)],Sh.struct [(0,1,9),(1,2,124),(3,2,124),(5,1,4),(6,1,4),(7,1,4)]⟩:=by kernel_rfl
attribute [go_sem] m126
theorem m131:mkTI prog 131=some ⟨6,48,[Cell.raw (Value.int IntKind.i64 0),Cell.raw (Value.int IntKind.i64 0),Cell.raw (Value.int IntKind.i64 0),Cell.raw (Value.int IntKind.i64 0),Cell.raw (Value.int IntKind.i64 0),Cell.raw (Value.int IntKind.i64 0)],Sh.array 6 3 1⟩:=by kernel_rfl
attribute [go_sem] m131
theorem m133:mkTI prog 133=some ⟨2,32,[Cell.raw (Value.int IntKind.i64 0),Cell.zc],Sh.struct [(0,1,3),(1,1,38)]⟩:=by kernel_rfl
attribute [go_sem] m133
theorem m135:mkTI prog 135=some ⟨4,64,[Cell.raw (Value.int IntKind.i64 0),Cell.zc,Cell.raw (Value.int IntKind.i64 0),Cell.zc],Sh.struct [(0,2,133),(2,2,133)]⟩:=by kernel_rfl
attribute [go_sem] m135
theorem m137:mkTI prog 137=some ⟨10,112,[Cell.raw (Value.int IntKind.i64 0),Cell.raw (Value.int IntKind.i64 0),Cell.raw (Value.int IntKind.i64 0),Cell.raw (Value.int IntKind.i64 0),Cell.raw (Value.int IntKind.i64 0),Cell.raw (Value.int IntKind.i64 0),Cell.raw (Value.int IntKind.i64 0),Cell.zc,Cell.raw (Value.int IntKind.i64 0),Cell.zc],Sh.struct [(0,6,131),(6,4,135)]⟩:=by kernel_rfl
attribute [go_sem] m137
theorem m145:mkTI prog 145=some ⟨1,8,[Cell.raw Value.nilFunc],Sh.cell⟩:=by kernel_rfl
attribute [go_sem] m145
theorem m156:mkTI prog 156=some ⟨2,16,[Cell.raw (Value.int IntKind.i64 0),Cell.raw (Value.int IntKind.i64 0)],Sh.struct [(0,1,3),(1,1,3)]⟩:=by kernel_rfl
attribute [go_sem] m156
theorem w160 {k:TI->OR}:vjm prog 160 k=k ⟨1,24,[Cell.zc],Sh.slice 165 2 24 none⟩:=ybm (by kernel_rfl)
theorem m160:mkTI prog 160=some ⟨1,24,[Cell.zc],Sh.slice 165 2 24 none⟩:=by kernel_rfl
attribute [go_sem ↓] w160
attribute [go_sem] m160
theorem m165:mkTI prog 165=some ⟨2,24,[Cell.raw (Value.string ⟨⟨[]⟩⟩),Cell.raw (Value.int IntKind.i64 0)],Sh.struct [(0,1,9),(1,1,3)]⟩:=by kernel_rfl
attribute [go_sem] m165
theorem w170 {k:TI->OR}:vjm prog 170 k=k ⟨1,24,[Cell.zc],Sh.slice 179 4 40 none⟩:=ybm (by kernel_rfl)
theorem m170:mkTI prog 170=some ⟨1,24,[Cell.zc],Sh.slice 179 4 40 none⟩:=by kernel_rfl
attribute [go_sem ↓] w170
attribute [go_sem] m170
theorem m174:mkTI prog 174=some ⟨2,16,[Cell.raw (Value.int IntKind.i64 0),Cell.raw (Value.int IntKind.i64 0)],Sh.struct [(0,1,3),(1,1,34)]⟩:=by kernel_rfl
attribute [go_sem] m174
theorem m179:mkTI prog 179=some ⟨4,40,[Cell.raw (Value.int IntKind.i64 0),Cell.raw (Value.string ⟨⟨[]⟩⟩),Cell.raw (Value.int IntKind.i64 0),Cell.raw (Value.int IntKind.i64 0)],Sh.struct [(0,1,3),(1,1,9),(2,1,3),(3,1,3)]⟩:=by kernel_rfl
attribute [go_sem] m179
theorem m181:mkTI prog 181=some ⟨2,32,[Cell.zc,Cell.raw (Value.int IntKind.i64 0)],Sh.struct [(0,1,170),(1,1,3)]⟩:=by kernel_rfl
attribute [go_sem] m181
theorem w222 {k:TI->OR}:vjm prog 222 k=k ⟨1,8,[Cell.raw (Value.int IntKind.u64 0)],Sh.int IntKind.u64⟩:=ybm (by kernel_rfl)
attribute [go_sem ↓] w222
theorem u222:prog.underlying 222=some (TypeDesc.int IntKind.u64):=by kernel_rfl
attribute [go_sem] u222
theorem m230:mkTI prog 230=some ⟨13,13,[Cell.raw (Value.int IntKind.u8 0),Cell.raw (Value.int IntKind.u8 0),Cell.raw (Value.int IntKind.u8 0),Cell.raw (Value.int IntKind.u8 0),Cell.raw (Value.int IntKind.u8 0),Cell.raw (Value.int IntKind.u8 0),Cell.raw (Value.int IntKind.u8 0),Cell.raw (Value.int IntKind.u8 0),Cell.raw (Value.int IntKind.u8 0),Cell.raw (Value.int IntKind.u8 0),Cell.raw (Value.int IntKind.u8 0),Cell.raw (Value.int IntKind.u8 0),Cell.raw (Value.int IntKind.u8 0)],Sh.array 13 5 1⟩:=by kernel_rfl
attribute [go_sem] m230
theorem m253:mkTI prog 253=some ⟨1,24,[Cell.zc],Sh.slice 5 1 1 (some IntKind.u8)⟩:=by kernel_rfl
attribute [go_sem] m253
theorem u253:prog.underlying 253=some (TypeDesc.slice 5):=by kernel_rfl
attribute [go_sem] u253
theorem m261:mkTI prog 261=some ⟨1,8,[Cell.raw (Value.pointer none)],Sh.cell⟩:=by kernel_rfl
attribute [go_sem] m261
theorem wiq:ymc prog 261=some 263:=by kernel_rfl
attribute [go_sem] wiq
theorem u261:prog.underlying 261=some (TypeDesc.pointer 263):=by kernel_rfl
attribute [go_sem] u261
theorem m263:mkTI prog 263=some ⟨2,32,[Cell.raw (Value.pointer none),Cell.zc],Sh.struct [(0,1,261),(1,1,253)]⟩:=by kernel_rfl
attribute [go_sem] m263
theorem m271:mkTI prog 271=some ⟨3,40,[Cell.zc,Cell.raw (Value.int IntKind.i64 0),Cell.raw (Value.bool false)],Sh.struct [(0,1,170),(1,1,3),(2,1,4)]⟩:=by kernel_rfl
attribute [go_sem] m271
theorem yzx:ymc prog 274=some 5:=by kernel_rfl
attribute [go_sem] yzx
theorem u281:prog.underlying 281=some TypeDesc.unsafePointer:=by kernel_rfl
attribute [go_sem] u281
theorem x16:prog.info? 263=some (xa1 prog 263):=by kernel_rfl
attribute [go_sem] x16
theorem vfl:((xa1 prog 263).size != 0)=true:=by kernel_rfl
attribute [go_sem] vfl
theorem e240:xv0 prog 240=true:=by kernel_rfl
attribute [go_sem] e240
theorem w2p:(List.range 272).all (fun n=>n==240||!xv0 prog n)=true:=by kernel_rfl
theorem eAll (n:Nat) (h:n<272) (h240:n≠240):xv0 prog n=false:=by
 have:=List.all_eq_true.1 w2p n (List.mem_range.2 h)
 simpa [h240] using this
attribute [go_sem] eAll
theorem mixed:prog.follows .mixedOrders=true:=by kernel_rfl
theorem yl4 {k:Bool->Prop}:zf5 prog k=k true:=propext ⟨fun h=>h.2,fun h=>⟨mixed,h⟩⟩
attribute [go_sem] yl4
end Go.Slot.T
