/- The proof, part Y17: Ib, Ti. -/
import Derived.Test.YtocdljjhobaabaaGreatDoorY16
import Derived.Test.YtocdljjhobaabaaGreatDoorY7
import Derived.Test.YtocdljjhobaabaaGreatDoorChecked
namespace Go.Hp
open Go Go.RowKit Go.Slot
variable {P:Program} {Γ:List (Nat×List Cell)} {e:List SB} {G:List (Nat×List GhH)}
def chS (a0 a1 a2 a3 a4 a5 a6 a7 a8 a9 a10 a11 a12 a13 a14 a15:SV) (r:List SV):List SV:=a0::a1::a2::a3::a4::a5::a6::a7::a8::a9::a10::a11::a12::a13::a14::a15::r
def xis:List SV->List SV
 | a0::a1::a2::a3::a4::a5::a6::a7::a8::a9::a10::a11::a12::a13::a14::a15::r=>chS a0 a1 a2 a3 a4 a5 a6 a7 a8 a9 a10 a11 a12 a13 a14 a15 (xis r)
 | l=>l
theorem zeq:∀ l:List SV,xis l=l
 | []=>rfl
 | [a0]=>rfl
 | [a0,a1]=>rfl
 | [a0,a1,a2]=>rfl
 | [a0,a1,a2,a3]=>rfl
 | [a0,a1,a2,a3,a4]=>rfl
 | [a0,a1,a2,a3,a4,a5]=>rfl
 | [a0,a1,a2,a3,a4,a5,a6]=>rfl
 | [a0,a1,a2,a3,a4,a5,a6,a7]=>rfl
 | [a0,a1,a2,a3,a4,a5,a6,a7,a8]=>rfl
 | [a0,a1,a2,a3,a4,a5,a6,a7,a8,a9]=>rfl
 | [a0,a1,a2,a3,a4,a5,a6,a7,a8,a9,a10]=>rfl
 | [a0,a1,a2,a3,a4,a5,a6,a7,a8,a9,a10,a11]=>rfl
 | [a0,a1,a2,a3,a4,a5,a6,a7,a8,a9,a10,a11,a12]=>rfl
 | [a0,a1,a2,a3,a4,a5,a6,a7,a8,a9,a10,a11,a12,a13]=>rfl
 | [a0,a1,a2,a3,a4,a5,a6,a7,a8,a9,a10,a11,a12,a13,a14]=>rfl
 | a0::a1::a2::a3::a4::a5::a6::a7::a8::a9::a10::a11::a12::a13::a14::a15::r=>by
  show chS a0 a1 a2 a3 a4 a5 a6 a7 a8 a9 a10 a11 a12 a13 a14 a15 (xis r)=_;rw [zeq r];rfl
def endD (res:AV):Option (AV×List Nat)->Prop
 | some (av,_)=>RLe av res
 | none=>False
def endR (η:List SB) (res:AV):Option SV->Prop
 | some x=>endD res (zzg η x)
 | none=>False
theorem wzf {η:List SB} {res:AV} {o:Option SV} (h:endR η res o):∃ x av bs,o=some x/\zzg η x=some (av,bs)/\RLe av res:=by
 cases o with
 | none=>exact h.elim
 | some x=>
  have h:endD res (zzg η x):=h;unfold endD at h;split at h
  . rename_i av bs hd;exact ⟨x,av,bs,rfl,hd,h⟩
  . exact h.elim
def x29 (P:Program) (rs:List ResultVar) (res:AV):Exit->Bool->List SV->List SB->Prop
 | .ret,_,σ,η | .normal,_,σ,η=>endR η res (wea P σ η rs)
 | _,_,_,_=>False
theorem CallsD.run (G:List (Nat×List GhH)) {f:FuncId} {fn:Func} {c:Code} {args:List AV} {sl:List SV} {res:AV} (hf:P.funcs[f]? = some fn) (hb:fn.body=some c) (hname:(fn.name == "runtime.NumGoroutine")=false) (ha:zmk args=some sl)
 (h:RH Γ P [] G c true (x29 P fn.results.toList res) (xis (sl++List.replicate (fn.ntmps-sl.length) .undef)) []):CallsD Γ P f args res:=by
 rw [zeq] at h;refine CallsD.of hf hb hname ha ((RH.sound c true _ _ _ h).mono ?_);intro ex σ η ⟨b,h⟩
 cases ex with
 | normal=>exact wzf h
 | ret=>exact wzf h
 | _=>exact h.elim
def endH (Γ:List (Nat×List Cell)) (e η:List SB) (η':List SB) (res:SV):Option SV->Prop
 | some x=>StH Γ e [x] η [res] η'
 | none=>False
def vtu (Γ:List (Nat×List Cell)) (P:Program) (e:List SB) (rs:List ResultVar) (η':List SB) (res:SV):Exit->Bool->List SV->List SB->Prop
 | .ret,_,σ,η | .normal,_,σ,η=>endH Γ e η η' res (wea P σ η rs)
 | _,_,_,_=>False
theorem y9t {η η':List SB} {res:SV} {o:Option SV} (h:endH Γ e η η' res o):∃ x,o=some x/\StH Γ e [x] η [res] η':=by
 cases o with
 | none=>exact h.elim
 | some x=>exact ⟨x,rfl,h⟩
theorem xgj.run (G:List (Nat×List GhH)) {f:FuncId} {fn:Func} {c:Code} {η η':List SB} {args:List SV} {res:SV} (hf:P.funcs[f]? = some fn) (hb:fn.body=some c) (hname:(fn.name == "runtime.NumGoroutine")=false)
 (h:RH Γ P η G c true (vtu Γ P η fn.results.toList η' res) (xis (args++List.replicate (fn.ntmps-args.length) .undef)) η):xgj Γ P f η args η' res:=by
 rw [zeq] at h;refine xgj.of hf hb hname ((RH.sound c true _ _ _ h).mono ?_);intro ex σ η1 ⟨b,h⟩
 cases ex with
 | normal=>exact y9t h
 | ret=>exact y9t h
 | _=>exact h.elim
theorem vhv.le {c:Code} {Q:Exit->List SV->List SB->Prop} {σ σ':List SV} {η η':List SB} (h:StH Γ e σ η σ' η') (hc:vhv Γ P e c Q σ' η'):vhv Γ P e c Q σ η:=fun E ρ a w hE hR=>by
 obtain ⟨ρ',hR'⟩:=h E ρ a w hE hR;exact hc E ρ' a w hE hR'
theorem vhv.fam {α : Type} {c : Code} {Q : Exit → List SV → List SB → Prop} (invS : α → List SV) (invH : α → List SB) (pre : α → Prop) (μ : α → Nat)
 (round:∀ x,pre x->zgh Γ P e c (y2l (fun σ' η'=>∃ y,pre y/\μ y<μ x/\StH Γ e σ' η' (invS y) (invH y)) Q) (invS x) (invH x)):∀(n:Nat) (x:α),μ x<n->pre x->vhv Γ P e c Q (invS x) (invH x)
 | 0,_,h,_=>absurd h (Nat.not_lt_zero _)
 | n + 1, x, h, hx => vhv.round ((round x hx).mono (fun ex σ η hq => by
  cases ex with
  | normal=>
   obtain ⟨y,h1,h2,h3⟩:=hq;exact vhv.le h3 (vhv.fam invS invH pre μ round n y (by omega) h1)
  | _=>exact hq))
theorem yxw {α:Type} {c:Code} {Q:Exit->Bool->List SV->List SB->Prop} {σ:List SV} {η:List SB} (keep:List Nat) (ch:α->List (Nat×SV)) (hp:α->List SB) (pre:α->Prop) (μ:α->Nat) (x0:α) (h0:pre x0)
 (hle:StH Γ e σ η (appL (ch x0) (xzq keep 0 σ)) (hp x0))
 (round:∀ x,pre x->RH Γ P e G c true (zwa (hide (fun _ σ' η'=>∃ y,pre y/\μ y<μ x/\StH Γ e σ' η' (appL (ch y) (xzq keep 0 σ)) (hp y)) ()) Q) (xis (appL (ch x) (xzq keep 0 σ))) (hp x)):zpl Γ P e G c Q σ η:=
 zgh.le hle (vhv.loop (vhv.fam (fun x=>appL (ch x) (xzq keep 0 σ)) hp pre μ (fun x hx=>(RH.sound c true _ _ _ (zeq (appL (ch x) (xzq keep 0 σ))▸round x hx)).mono (fun ex σ' η' ⟨b,h⟩=>by
  cases ex with
  | normal=>exact h
  | _=>exact ⟨b,h⟩)) _ x0 (Nat.lt_succ_self _) h0))
def xqf (Γ:List (Nat×List Cell)) (P:Program) (e:List SB) (_G:List (Nat×List GhH)) (c:Code) (Q:Exit->Bool->List SV->List SB->Prop) (σ:List SV) (η:List SB):Prop:=vhv Γ P e c (outH Q) σ η
theorem wd2 {c:Code} {Q:Exit->Bool->List SV->List SB->Prop} {σ:List SV} {η:List SB} (h:RH Γ P e G c true (zwa (hide (fun _ σ' η'=>xqf Γ P e G c Q σ' η') ()) Q) σ η):xqf Γ P e G c Q σ η:=
 vhv.round ((RH.sound c true _ _ _ h).mono (fun ex σ' η' ⟨b,h⟩=>by
  cases ex with
  | normal=>exact h
  | _=>exact ⟨b,h⟩))
theorem z7r {c:Code} {Q:Exit->Bool->List SV->List SB->Prop} {σ:List SV} {η:List SB} (h:RH Γ P e G c true (zwa (hide (fun _ σ' η'=>xqf Γ P e G c Q σ' η') ()) Q) σ η):zpl Γ P e G c Q σ η:=vhv.loop (wd2 h)
theorem z1o {α:Type} {x y:Code} {Q:Exit->Bool->List SV->List SB->Prop} {σ:List SV} {η:List SB} (keep:List Nat) (ch:α->List (Nat×SV)) (hp:α->List SB) (pre:α->Prop)
 (hx:RH Γ P e G x true (zwa (hide (fun _ σ' η'=>∃ a,pre a/\StH Γ e σ' η' (appL (ch a) (xzq keep 0 σ)) (hp a)) ()) Q) σ η)
 (hy:∀ a,pre a->RH Γ P e G y true Q (xis (appL (ch a) (xzq keep 0 σ))) (hp a)):wuq Γ P e G x y Q σ η:=
 zr5 ((RH.sound x true _ _ _ hx).mono (fun ex σ' η' ⟨b,h⟩=>by
  cases ex with
  | normal=>
   obtain ⟨a,h1,h2⟩:=h;exact zgh.le h2 (RH.sound y true _ _ _ (zeq (appL (ch a) (xzq keep 0 σ))▸hy a h1))
  | _=>exact ⟨b,h⟩))
def nrmV (σ:List SV):List SV:=σ
theorem y3l {a:SV} {σ:List SV}:nrmV (a::σ)=a::σ:=_root_.id rfl
theorem xeg {a0 a1 a2 a3 a4 a5 a6 a7 a8 a9 a10 a11 a12 a13 a14 a15:SV} {r:List SV}:nrmV (chS a0 a1 a2 a3 a4 a5 a6 a7 a8 a9 a10 a11 a12 a13 a14 a15 r)=chS a0 a1 a2 a3 a4 a5 a6 a7 a8 a9 a10 a11 a12 a13 a14 a15 r:=_root_.id rfl
def nrmH (l:List HR):List HR:=l
theorem xg2:nrmH []=[]:=_root_.id rfl
theorem zgf {a:HR} {l:List HR}:nrmH (a::l)=a::l:=_root_.id rfl
def flF (c d:Bool) (A:Bool->Bool->Prop):Prop:=A c d
theorem wml {A:Bool->Bool->Prop}:flF true true A=A true true:=_root_.id rfl
theorem zmb {A:Bool->Bool->Prop}:flF true false A=A true false:=_root_.id rfl
theorem v1w {A:Bool->Bool->Prop}:flF false true A=A false true:=_root_.id rfl
theorem w5y {A:Bool->Bool->Prop}:flF false false A=A false false:=_root_.id rfl
theorem wwt {c c' d d':Bool} {A:Bool->Bool->Prop} (h:c=c') (h2:d=d'):flF c d A=flF c' d' A:=by rw [h,h2]
theorem w9p {f:Bool->List SV->List SB->Prop} {u:U f} {b:Bool} {σ:List SV} {η:List SB}:hide f u b σ η=f b σ η:=_root_.id rfl
theorem x7g {f:Bool->Bool->Prop} {u:U f} {b c:Bool}:hide f u b c=f b c:=_root_.id rfl
theorem x5f {f:Bool->List SB->SV->Prop} {u:U f} {b:Bool} {η:List SB} {x:SV}:hide f u b η x=f b η x:=_root_.id rfl
theorem v0a {f:Bool->List Nat->List (Nat×SB)->SV->Prop} {u:U f} {b:Bool} {rh:List Nat} {η:List (Nat×SB)} {x:SV}:hide f u b rh η x=f b rh η x:=_root_.id rfl
theorem z7b {f:Bool->List Nat->List Nat->List (Nat×SV)->List (Nat×SB)->Prop} {u:U f} {b:Bool} {rd rh:List Nat} {x:List (Nat×SV)} {y:List (Nat×SB)}:hide f u b rd rh x y=f b rd rh x y:=_root_.id rfl
theorem vr1 {rd rh:List Nat} {x:List (Nat×SV)} {y:List (Nat×SB)} {z:Option SB}:tick (HO.eff rd rh x y z)=HO.eff rd rh x y z:=_root_.id rfl
theorem ywt {f:FuncId} {l:List AV} {rd rh bs:List Nat}:tick (HO.callD f l rd rh bs)=HO.callD f l rd rh bs:=_root_.id rfl
theorem y5a {f:FuncId} {l:List SV} {rd:List Nat}:tick (HO.callH f l rd)=HO.callH f l rd:=_root_.id rfl
theorem z7w {r:Option SV} {z:SV} {ok:Bool} {rd rh:List Nat}:tick (HO.look r z ok rd rh)=HO.look r z ok rd rh:=_root_.id rfl
theorem xfp:tick HO.bad=HO.bad:=_root_.id rfl
theorem vqc:tick Hp.GR.plain=Hp.GR.plain:=_root_.id rfl
theorem xzb {d:Nat} {c b:Bool}:tick (Hp.GR.when d c b)=Hp.GR.when d c b:=_root_.id rfl
theorem ynd {d:Nat}:tick (Hp.GR.skip d)=Hp.GR.skip d:=_root_.id rfl
theorem xdd {h:HC}:tick (SV.one h)=SV.one h:=_root_.id rfl
section
variable {Q:Exit->Bool->List SV->List SB->Prop} {σ:List SV} {η:List SB}
theorem vlr:RH Γ P e G .skip true Q σ η=Q .normal true σ η:=_root_.id rfl
theorem xbe {id:Nat} {l:List Oper}:RH Γ P e G (.region id l.toArray false) true Q σ η=flF (tick (!(w9a (vn6 G id)))) (tick (!(vub (vn6 G id)))) (hide (fun lit fn=>ytu Γ P lit fn l true l (nrmV (anyS (vn6 G id) σ)) η (Q .normal)) ()):=_root_.id rfl
theorem x4y {id:Nat} {l:List Oper}:RH Γ P e G (.region id l.toArray true) true Q σ η=yj8 P (hide (fun _=>flF (tick (!(w9a (vn6 G id)))) (tick (!(vub (vn6 G id)))) (hide (fun lit fn=>wyk Γ P lit fn η.length l true l (nrmH []) (nrmV (anyS (vn6 G id) σ)) (η++vw9 (vn6 G id)) (hide (fun b s t=>wos η.length (Q .normal) b s t) ())) ())) ()):=_root_.id rfl
theorem wwr {x y:Code}:RH Γ P e G (.seq x y) true Q σ η=seqF (tick (wn4 G y)) (hide (fun _=>wuq Γ P e G x y Q σ η) ()) (hide (fun _=>RH Γ P e G x true (zwa (hide (fun b σ η=>RH Γ P e G y b Q σ η) ()) Q) σ η) ()):=_root_.id rfl
theorem yis {c:Operand} {x y:Code}:RH Γ P e G (.cond c x y) true Q σ η=y1o c σ (hide (fun b=>RH Γ P e G x b Q σ η) ()) (hide (fun b=>RH Γ P e G y b Q σ η) ()) (tick (opdS Γ σ c)):=_root_.id rfl
theorem zr7 {id:Nat} {x:Code}:RH Γ P e G (.block id x) true Q σ η=RH Γ P e G x true (yah id Q) σ η:=_root_.id rfl
theorem zav {x:Code}:RH Γ P e G (.loop x) true Q σ η=zpl Γ P e G x Q σ η:=_root_.id rfl
theorem yxl {id:Nat}:RH Γ P e G (.exit id) true Q σ η=Q (.exit id) true σ η:=_root_.id rfl
theorem zic:RH Γ P e G .ret true Q σ η=Q .ret true σ η:=_root_.id rfl
theorem xxd {l:Nat}:RH Γ P e G (.label l) true Q σ η=Q .normal true σ η:=_root_.id rfl
theorem wte {lit fn:Bool} {ops:List Oper} {K:Bool->List SV->List SB->Prop}:ytu Γ P lit fn ops true [] σ η K=K true σ η:=_root_.id rfl
theorem vkr {lit fn:Bool} {ops:List Oper} {o:Oper} {r:List Oper} {K:Bool->List SV->List SB->Prop}:ytu Γ P lit fn ops true (o::r) σ η K=gdH Γ P lit fn (tick (vu6 ops σ o)) o σ η true (hide (fun b σ η=>ytu Γ P lit fn ops b r (nrmV σ) η K) ()):=_root_.id rfl
theorem yn9 {lit fn:Bool} {nb:Nat} {ops:List Oper} {acc:List HR} {K:Bool->List SV->List SB->Prop}:wyk Γ P lit fn nb ops true [] acc σ η K=xa7 ops acc (hide (fun b=>K b σ η) ()):=_root_.id rfl
theorem zln {lit fn:Bool} {nb:Nat} {ops:List Oper} {o:Oper} {r:List Oper} {acc:List HR} {K:Bool->List SV->List SB->Prop}:wyk Γ P lit fn nb ops true (o::r) acc σ η K=gdG Γ P lit fn nb (tick (vu6 ops σ o)) o σ η true (hide (fun b rd rh x h=>wyk Γ P lit fn (nxtB nb h) ops b r (nrmH (acc++[⟨rd,rh,x,h⟩])) (nrmV (appL x σ)) (appL h η) K) ()):=_root_.id rfl
theorem ydc {n:Nat} {k:Bool->List SV->List SB->Prop}:wos n k true σ η=k true σ (zur n η):=_root_.id rfl
end
section
variable {next:Bool->List SV->List SB->Prop} {Q:Exit->Bool->List SV->List SB->Prop}
theorem ve7:zwa next Q .normal=next:=_root_.id rfl
theorem yi2 {id:Nat}:zwa next Q (.exit id)=Q (.exit id):=_root_.id rfl
theorem wfq:zwa next Q .ret=Q .ret:=_root_.id rfl
theorem xyu {id:Nat}:yah id Q .normal=Q .normal:=_root_.id rfl
def selH (c:Bool) (x y:Bool->List SV->List SB->Prop):Bool->List SV->List SB->Prop:=match c with
 | true=>x
 | false=>y
theorem y2e {id j:Nat}:yah id Q (.exit j)=selH (j==id) (Q .normal) (Q (.exit j)):=by
 have h:yah id Q (.exit j)=if j=id then Q .normal else Q (.exit j):=rfl
 rw [h];unfold selH;by_cases he:j=id
 . rw [if_pos he,show (j==id)=true from by simp [he]]
 . rw [if_neg he,show (j==id)=false from by simp [he]]
theorem z6d {x y:Bool->List SV->List SB->Prop}:selH true x y=x:=rfl
theorem xju {x y:Bool->List SV->List SB->Prop}:selH false x y=y:=rfl
theorem x0z {c c':Bool} {x y:Bool->List SV->List SB->Prop} (h:c=c'):selH c x y=selH c' x y:=by rw [h]
theorem zo3 {id:Nat}:yah id Q .ret=Q .ret:=_root_.id rfl
end
section
variable {o:Oper} {σ:List SV} {η:List SB} {b:Bool} {k:Bool->List SV->List SB->Prop}
theorem yxj {rd rh:List Nat} {x:List (Nat×SV)} {h:List (Nat×SB)}:doH Γ P (.eff rd rh x h none) o σ η b k=k b (appL x σ) (appL h η):=_root_.id rfl
theorem wx0 {rd rh:List Nat} {x:List (Nat×SV)} {h:List (Nat×SB)} {z:SB}:doH Γ P (.eff rd rh x h (some z)) o σ η b k=k b (appL x σ) (appL h η++[z]):=_root_.id rfl
theorem ve2 {f:FuncId} {l:List AV} {rd rh bs:List Nat}:doH Γ P (.callD f l rd rh bs) o σ η b k=w0m Γ P f l (appL (frzE η bs) η) (hide (fun b res=>resK o σ (appL (frzE η bs) η) b k (resS η.length res)) ()) (hide (fun b η2 res=>k b (appL (yph o res) σ) η2) ()):=_root_.id rfl
theorem wi7 {f:FuncId} {l:List SV} {rd:List Nat}:doH Γ P (.callH f l rd) o σ η b k=xw3 Γ P f η l (hide (fun b η2 res=>k b (appL (yph o res) σ) η2) ()):=_root_.id rfl
theorem wi9 {r:Option SV} {z:SV} {ok:Bool} {rd rh:List Nat}:doH Γ P (.look r z ok rd rh) o σ η b k=zar o σ η b k (y2m ok r z):=_root_.id rfl
theorem xwx:doH Γ P .bad o σ η b k=BadO o.op σ η:=_root_.id rfl
theorem y0n {y:SV}:resK o σ η b k (some (y,none))=k b (appL (yph o y) σ) η:=_root_.id rfl
theorem vj6 {lit fn:Bool}:gdH Γ P lit fn .plain o σ η b k=doH Γ P (tick (opF P Γ lit fn σ η η.length o)) o σ η b k:=_root_.id rfl
theorem xbi {lit fn:Bool} {d:Nat} {c b':Bool}:gdH Γ P lit fn (.when d c b') o σ η b k=wp9 c b' (hide (fun b=>doH Γ P (tick (opF P Γ lit fn σ η η.length o)) o σ η b k) ()) (hide (fun b=>x61 o σ η b k) ()):=_root_.id rfl
theorem zqa {lit fn:Bool} {d:Nat}:gdH Γ P lit fn (.skip d) o σ η b k=x61 o σ η b k:=_root_.id rfl
end
section
variable {o:Oper} {σ:List SV} {η:List SB} {nb:Nat} {b:Bool} {k:Bool->List Nat->List Nat->List (Nat×SV)->List (Nat×SB)->Prop}
theorem waq {rd rh:List Nat} {x:List (Nat×SV)} {h:List (Nat×SB)}:doG Γ P (.eff rd rh x h none) o σ η nb b k=k b rd rh x h:=_root_.id rfl
theorem xli {rd rh:List Nat} {x:List (Nat×SV)} {h:List (Nat×SB)} {z:SB}:doG Γ P (.eff rd rh x h (some z)) o σ η nb b k=(v7q η nb=true/\k b rd (nb::rh) x (h++[(nb,z)])):=_root_.id rfl
theorem xww {f:FuncId} {l:List AV} {rd rh bs:List Nat}:doG Γ P (.callD f l rd rh bs) o σ η nb b k=v90 Γ P f l (hide (fun b res=>resG o σ η nb rd rh bs b k (resS nb res)) ()):=_root_.id rfl
theorem x44 {f:FuncId} {l:List SV} {rd:List Nat}:doG Γ P (.callH f l rd) o σ η nb b k=wmt Γ P f η l (hide (fun b rh heff res=>k b rd rh (yph o res) heff) ()):=_root_.id rfl
theorem zo0 {rd rh bs:List Nat} {y:SV}:resG o σ η nb rd rh bs b k (some (y,none))=k b rd (rh++bs) (yph o y) (frzE η bs):=_root_.id rfl
theorem yih {d:Nat} {rd rh:List Nat} {x:List (Nat×SV)} {h:List (Nat×SB)}:onG d k b rd rh x h=k b (d::rd) rh x h:=_root_.id rfl
theorem yc1 {lit fn:Bool}:gdG Γ P lit fn nb .plain o σ η b k=doG Γ P (tick (opF P Γ lit fn σ η nb o)) o σ η nb b k:=_root_.id rfl
theorem v74 {lit fn:Bool} {d:Nat} {c b':Bool}:gdG Γ P lit fn nb (.when d c b') o σ η b k=wp9 c b' (hide (fun b=>doG Γ P (tick (opF P Γ lit fn σ η nb o)) o σ η nb b (hide (fun b rd rh x h=>onG d k b rd rh x h) ())) ()) (hide (fun b=>wzb d o b k) ()):=_root_.id rfl
theorem zp0 {lit fn:Bool} {d:Nat}:gdG Γ P lit fn nb (.skip d) o σ η b k=wzb d o b k:=_root_.id rfl
end
theorem wl0 {c:Operand} {σ:List SV} {X Y:Bool->Prop} {p:Bool}:y1o c σ X Y (.one (.dat (.raw (.bool p))))=zht p X Y:=_root_.id rfl
theorem zly {rs:List ResultVar} {res:AV} {b:Bool} {σ:List SV} {η:List SB}:x29 P rs res .ret b σ η=endR η res (tick (wea P σ η rs)):=_root_.id rfl
theorem zfk {η:List SB} {res:AV} {x:SV}:endR η res (some x)=endD res (tick (zzg η x)):=_root_.id rfl
theorem wlc {res av:AV} {bs:List Nat}:endD res (some (av,bs))=RLe av res:=_root_.id rfl
theorem xib {rs:List ResultVar} {res:SV} {b:Bool} {σ:List SV} {η η':List SB}:vtu Γ P e rs η' res .ret b σ η=endH Γ e η η' res (tick (wea P σ η rs)):=_root_.id rfl
theorem ya2 {rs:List ResultVar} {res:SV} {b:Bool} {σ:List SV} {η η':List SB}:vtu Γ P e rs η' res .normal b σ η=endH Γ e η η' res (tick (wea P σ η rs)):=_root_.id rfl
theorem v9k {res x:SV} {η η':List SB}:endH Γ e η η' res (some x)=StH Γ e [x] η [res] η':=_root_.id rfl
theorem z4a {α:Type} {x:α}:tick (some x)=some x:=_root_.id rfl
theorem vl5 {η η':List SB} {res:AV} {o o':Option SV} (h:o=o') (hη:η=η'):endR η res o=endR η' res o':=by rw [h,hη]
theorem wjd {res:AV} {o o':Option (AV×List Nat)} (h:o=o'):endD res o=endD res o':=by rw [h]
theorem y5p {e η η' η1:List SB} {res:SV} {o o':Option SV} (h:o=o') (hη:η=η1):endH Γ e η η' res o=endH Γ e η1 η' res o':=by rw [h,hη]
theorem xss {e η η' η1 η1':List SB} {σ σ1 σ' σ1':List SV} (h:σ=σ1) (hη:η=η1) (h':σ'=σ1') (hη':η'=η1'):StH Γ e σ η σ' η'=StH Γ e σ1 η1 σ1' η1':=by rw [h,hη,h',hη']
section
variable {o o':Oper} {σ σ':List SV} {η η':List SB} {b:Bool}
theorem v8c {k:Bool->List SV->List SB->Prop} {x x':HO} (h:x=x'):doH Γ P x o σ η b k=doH Γ P x' o σ η b k:=by rw [h]
theorem vbw {nb:Nat} {k:Bool->List Nat->List Nat->List (Nat×SV)->List (Nat×SB)->Prop} {x x':HO} (h:x=x'):doG Γ P x o σ η nb b k=doG Γ P x' o σ η nb b k:=by rw [h]
theorem x7i {nb:Nat} {rd rh bs:List Nat} {k:Bool->List Nat->List Nat->List (Nat×SV)->List (Nat×SB)->Prop} {r r':Option (SV×Option SB)} (h:r=r'):resG o σ η nb rd rh bs b k r=resG o σ η nb rd rh bs b k r':=by rw [h]
theorem vdd {c:Operand} {X Y:Bool->Prop} {v v':SV} (h:v=v'):y1o c σ X Y v=y1o c σ X Y v':=by rw [h]
theorem ytq {f:FuncId} {l l':List AV} {K:Bool->AV->Prop} {K':Bool->List SB->SV->Prop} (h:l=l') (hη:η=η'):w0m Γ P f l η K K'=w0m Γ P f l' η' K K':=by rw [h,hη]
theorem yx6 {c:Code} {Q:Exit->Bool->List SV->List SB->Prop} (h:σ=σ') (hη:η=η'):zpl Γ P e G c Q σ η=zpl Γ P e G c Q σ' η':=by rw [h,hη]
theorem v2f {lit fn:Bool} {ops l:List Oper} {K:Bool->List SV->List SB->Prop} (h:σ=σ') (hη:η=η'):ytu Γ P lit fn ops b l σ η K=ytu Γ P lit fn ops b l σ' η' K:=by rw [h,hη]
theorem wnu {lit fn:Bool} {nb nb':Nat} {ops l:List Oper} {acc acc':List HR} {K:Bool->List SV->List SB->Prop} (hn:nb=nb') (ha:acc=acc') (h:σ=σ') (hη:η=η'):wyk Γ P lit fn nb ops b l acc σ η K=wyk Γ P lit fn nb' ops b l acc' σ' η' K:=by rw [h,ha,hη,hn]
end
def x3k (P:Program) (t:TypeId):TypeInfo:=(P.info? t).getD default
theorem v3j {a:SV} {σ:List SV}:gtS (a::σ) 0=a:=rfl
theorem vib {a:SV} {σ:List SV} {n:Nat}:gtS (a::σ) (n+1)=gtS σ n:=rfl
theorem v09 {a:SB} {η:List SB}:gB (a::η) 0=a:=rfl
theorem yfo {a:SB} {η:List SB} {n:Nat}:gB (a::η) (n+1)=gB η n:=rfl
theorem wnc {l:List SV}:appL [] l=l:=rfl
theorem vdq {p:Nat×SV} {r:List (Nat×SV)} {l:List SV}:appL (p::r) l=appL r (l.set p.1 p.2):=rfl
theorem xr9 {l:List SB}:appL [] l=l:=rfl
theorem zie {p:Nat×SB} {r:List (Nat×SB)} {l:List SB}:appL (p::r) l=appL r (l.set p.1 p.2):=rfl
theorem zzm {σ:List SV} {t:Nat}:opdS Γ σ (.tmp t)=gtS σ t:=rfl
theorem y7y {σ:List SV} {v:Value}:opdS Γ σ (.const v)=zkg v:=rfl
theorem x4o {σ:List SV} {f:FuncId}:opdS Γ σ (.func f)=.one (.dat (.raw (.func (.func f) #[] #[]))):=rfl
theorem yo9 {σ:List SV} {g:Nat}:opdS Γ σ (.global g)=ws6 Γ g:=rfl
theorem zqc {σ:List SV} {d:Nat}:nh (σ.map vw) d=decide (d<σ.length):=by
 unfold nh;by_cases h:d<σ.length
 . rw [List.getElem?_map,List.getElem?_eq_getElem h,decide_eq_true h];simp only [Option.map_some,xpe,Bool.not_false]
 . rw [List.getElem?_map,List.getElem?_eq_none (by omega),decide_eq_false h];rfl
section
variable {a0 a1 a2 a3 a4 a5 a6 a7 a8 a9 a10 a11 a12 a13 a14 a15 x:SV} {r:List SV} {n:Nat}
theorem vop:gtS (chS a0 a1 a2 a3 a4 a5 a6 a7 a8 a9 a10 a11 a12 a13 a14 a15 r) 0=a0:=rfl
theorem w6l:(chS a0 a1 a2 a3 a4 a5 a6 a7 a8 a9 a10 a11 a12 a13 a14 a15 r).set 0 x=chS x a1 a2 a3 a4 a5 a6 a7 a8 a9 a10 a11 a12 a13 a14 a15 r:=rfl
theorem zor:gtS (chS a0 a1 a2 a3 a4 a5 a6 a7 a8 a9 a10 a11 a12 a13 a14 a15 r) 1=a1:=rfl
theorem xhz:(chS a0 a1 a2 a3 a4 a5 a6 a7 a8 a9 a10 a11 a12 a13 a14 a15 r).set 1 x=chS a0 x a2 a3 a4 a5 a6 a7 a8 a9 a10 a11 a12 a13 a14 a15 r:=rfl
theorem xj5:gtS (chS a0 a1 a2 a3 a4 a5 a6 a7 a8 a9 a10 a11 a12 a13 a14 a15 r) 2=a2:=rfl
theorem y53:(chS a0 a1 a2 a3 a4 a5 a6 a7 a8 a9 a10 a11 a12 a13 a14 a15 r).set 2 x=chS a0 a1 x a3 a4 a5 a6 a7 a8 a9 a10 a11 a12 a13 a14 a15 r:=rfl
theorem w3b:gtS (chS a0 a1 a2 a3 a4 a5 a6 a7 a8 a9 a10 a11 a12 a13 a14 a15 r) 3=a3:=rfl
theorem y3x:(chS a0 a1 a2 a3 a4 a5 a6 a7 a8 a9 a10 a11 a12 a13 a14 a15 r).set 3 x=chS a0 a1 a2 x a4 a5 a6 a7 a8 a9 a10 a11 a12 a13 a14 a15 r:=rfl
theorem whh:gtS (chS a0 a1 a2 a3 a4 a5 a6 a7 a8 a9 a10 a11 a12 a13 a14 a15 r) 4=a4:=rfl
theorem w1v:(chS a0 a1 a2 a3 a4 a5 a6 a7 a8 a9 a10 a11 a12 a13 a14 a15 r).set 4 x=chS a0 a1 a2 a3 x a5 a6 a7 a8 a9 a10 a11 a12 a13 a14 a15 r:=rfl
theorem vfc:gtS (chS a0 a1 a2 a3 a4 a5 a6 a7 a8 a9 a10 a11 a12 a13 a14 a15 r) 5=a5:=rfl
theorem yl9:(chS a0 a1 a2 a3 a4 a5 a6 a7 a8 a9 a10 a11 a12 a13 a14 a15 r).set 5 x=chS a0 a1 a2 a3 a4 x a6 a7 a8 a9 a10 a11 a12 a13 a14 a15 r:=rfl
theorem x8c:gtS (chS a0 a1 a2 a3 a4 a5 a6 a7 a8 a9 a10 a11 a12 a13 a14 a15 r) 6=a6:=rfl
theorem w8b:(chS a0 a1 a2 a3 a4 a5 a6 a7 a8 a9 a10 a11 a12 a13 a14 a15 r).set 6 x=chS a0 a1 a2 a3 a4 a5 x a7 a8 a9 a10 a11 a12 a13 a14 a15 r:=rfl
theorem vpw:gtS (chS a0 a1 a2 a3 a4 a5 a6 a7 a8 a9 a10 a11 a12 a13 a14 a15 r) 7=a7:=rfl
theorem vdb:(chS a0 a1 a2 a3 a4 a5 a6 a7 a8 a9 a10 a11 a12 a13 a14 a15 r).set 7 x=chS a0 a1 a2 a3 a4 a5 a6 x a8 a9 a10 a11 a12 a13 a14 a15 r:=rfl
theorem vnk:gtS (chS a0 a1 a2 a3 a4 a5 a6 a7 a8 a9 a10 a11 a12 a13 a14 a15 r) 8=a8:=rfl
theorem w4y:(chS a0 a1 a2 a3 a4 a5 a6 a7 a8 a9 a10 a11 a12 a13 a14 a15 r).set 8 x=chS a0 a1 a2 a3 a4 a5 a6 a7 x a9 a10 a11 a12 a13 a14 a15 r:=rfl
theorem v3z:gtS (chS a0 a1 a2 a3 a4 a5 a6 a7 a8 a9 a10 a11 a12 a13 a14 a15 r) 9=a9:=rfl
theorem y2g:(chS a0 a1 a2 a3 a4 a5 a6 a7 a8 a9 a10 a11 a12 a13 a14 a15 r).set 9 x=chS a0 a1 a2 a3 a4 a5 a6 a7 a8 x a10 a11 a12 a13 a14 a15 r:=rfl
theorem vox:gtS (chS a0 a1 a2 a3 a4 a5 a6 a7 a8 a9 a10 a11 a12 a13 a14 a15 r) 10=a10:=rfl
theorem zp6:(chS a0 a1 a2 a3 a4 a5 a6 a7 a8 a9 a10 a11 a12 a13 a14 a15 r).set 10 x=chS a0 a1 a2 a3 a4 a5 a6 a7 a8 a9 x a11 a12 a13 a14 a15 r:=rfl
theorem zyb:gtS (chS a0 a1 a2 a3 a4 a5 a6 a7 a8 a9 a10 a11 a12 a13 a14 a15 r) 11=a11:=rfl
theorem v3t:(chS a0 a1 a2 a3 a4 a5 a6 a7 a8 a9 a10 a11 a12 a13 a14 a15 r).set 11 x=chS a0 a1 a2 a3 a4 a5 a6 a7 a8 a9 a10 x a12 a13 a14 a15 r:=rfl
theorem yrj:gtS (chS a0 a1 a2 a3 a4 a5 a6 a7 a8 a9 a10 a11 a12 a13 a14 a15 r) 12=a12:=rfl
theorem zr3:(chS a0 a1 a2 a3 a4 a5 a6 a7 a8 a9 a10 a11 a12 a13 a14 a15 r).set 12 x=chS a0 a1 a2 a3 a4 a5 a6 a7 a8 a9 a10 a11 x a13 a14 a15 r:=rfl
theorem x47:gtS (chS a0 a1 a2 a3 a4 a5 a6 a7 a8 a9 a10 a11 a12 a13 a14 a15 r) 13=a13:=rfl
theorem vmd:(chS a0 a1 a2 a3 a4 a5 a6 a7 a8 a9 a10 a11 a12 a13 a14 a15 r).set 13 x=chS a0 a1 a2 a3 a4 a5 a6 a7 a8 a9 a10 a11 a12 x a14 a15 r:=rfl
theorem yhg:gtS (chS a0 a1 a2 a3 a4 a5 a6 a7 a8 a9 a10 a11 a12 a13 a14 a15 r) 14=a14:=rfl
theorem yc7:(chS a0 a1 a2 a3 a4 a5 a6 a7 a8 a9 a10 a11 a12 a13 a14 a15 r).set 14 x=chS a0 a1 a2 a3 a4 a5 a6 a7 a8 a9 a10 a11 a12 a13 x a15 r:=rfl
theorem xm9:gtS (chS a0 a1 a2 a3 a4 a5 a6 a7 a8 a9 a10 a11 a12 a13 a14 a15 r) 15=a15:=rfl
theorem y3i:(chS a0 a1 a2 a3 a4 a5 a6 a7 a8 a9 a10 a11 a12 a13 a14 a15 r).set 15 x=chS a0 a1 a2 a3 a4 a5 a6 a7 a8 a9 a10 a11 a12 a13 a14 x r:=rfl
theorem vvu:gtS (chS a0 a1 a2 a3 a4 a5 a6 a7 a8 a9 a10 a11 a12 a13 a14 a15 r) (n+16)=gtS r n:=rfl
theorem yb6:(chS a0 a1 a2 a3 a4 a5 a6 a7 a8 a9 a10 a11 a12 a13 a14 a15 r).set (n+16) x=chS a0 a1 a2 a3 a4 a5 a6 a7 a8 a9 a10 a11 a12 a13 a14 a15 (r.set n x):=rfl
theorem wqt:(chS a0 a1 a2 a3 a4 a5 a6 a7 a8 a9 a10 a11 a12 a13 a14 a15 r).length=r.length+16:=rfl
theorem wyy:xis (a0::a1::a2::a3::a4::a5::a6::a7::a8::a9::a10::a11::a12::a13::a14::a15::r)=chS a0 a1 a2 a3 a4 a5 a6 a7 a8 a9 a10 a11 a12 a13 a14 a15 (xis r):=rfl
theorem zoe:xis (chS a0 a1 a2 a3 a4 a5 a6 a7 a8 a9 a10 a11 a12 a13 a14 a15 r)=chS a0 a1 a2 a3 a4 a5 a6 a7 a8 a9 a10 a11 a12 a13 a14 a15 (xis r):=rfl
theorem wsp:xis []=[]:=rfl
theorem yu3:xis [a0]=[a0]:=rfl
theorem ywd:xis [a0,a1]=[a0,a1]:=rfl
theorem zxg:xis [a0,a1,a2]=[a0,a1,a2]:=rfl
theorem x5n:xis [a0,a1,a2,a3]=[a0,a1,a2,a3]:=rfl
theorem wxg:xis [a0,a1,a2,a3,a4]=[a0,a1,a2,a3,a4]:=rfl
theorem x6x:xis [a0,a1,a2,a3,a4,a5]=[a0,a1,a2,a3,a4,a5]:=rfl
theorem wbn:xis [a0,a1,a2,a3,a4,a5,a6]=[a0,a1,a2,a3,a4,a5,a6]:=rfl
theorem wds:xis [a0,a1,a2,a3,a4,a5,a6,a7]=[a0,a1,a2,a3,a4,a5,a6,a7]:=rfl
theorem z1e:xis [a0,a1,a2,a3,a4,a5,a6,a7,a8]=[a0,a1,a2,a3,a4,a5,a6,a7,a8]:=rfl
theorem v7l:xis [a0,a1,a2,a3,a4,a5,a6,a7,a8,a9]=[a0,a1,a2,a3,a4,a5,a6,a7,a8,a9]:=rfl
theorem vag:xis [a0,a1,a2,a3,a4,a5,a6,a7,a8,a9,a10]=[a0,a1,a2,a3,a4,a5,a6,a7,a8,a9,a10]:=rfl
theorem xvz:xis [a0,a1,a2,a3,a4,a5,a6,a7,a8,a9,a10,a11]=[a0,a1,a2,a3,a4,a5,a6,a7,a8,a9,a10,a11]:=rfl
theorem xfq:xis [a0,a1,a2,a3,a4,a5,a6,a7,a8,a9,a10,a11,a12]=[a0,a1,a2,a3,a4,a5,a6,a7,a8,a9,a10,a11,a12]:=rfl
theorem ybq:xis [a0,a1,a2,a3,a4,a5,a6,a7,a8,a9,a10,a11,a12,a13]=[a0,a1,a2,a3,a4,a5,a6,a7,a8,a9,a10,a11,a12,a13]:=rfl
theorem y0s:xis [a0,a1,a2,a3,a4,a5,a6,a7,a8,a9,a10,a11,a12,a13,a14]=[a0,a1,a2,a3,a4,a5,a6,a7,a8,a9,a10,a11,a12,a13,a14]:=rfl
theorem w2f {ks:List Nat} {i:Nat}:xzq ks i (chS a0 a1 a2 a3 a4 a5 a6 a7 a8 a9 a10 a11 a12 a13 a14 a15 r)=xzq ks i (a0::a1::a2::a3::a4::a5::a6::a7::a8::a9::a10::a11::a12::a13::a14::a15::r):=rfl
end
attribute [go_sem] vop zor xj5 w3b whh vfc x8c vpw vnk v3z vox zyb yrj x47 yhg xm9 w6l xhz y53 y3x w1v yl9 w8b vdb w4y y2g zp6 v3t zr3 vmd yc7 y3i wsp yu3 ywd zxg x5n wxg x6x wbn wds z1e v7l vag xvz xfq ybq y0s vvu yb6 wqt wyy zoe w2f
attribute [go_sem ↓] vlr xbe x4y wwr yis zr7 zav yxl zic xxd
attribute [go_sem] wte vkr yn9 zln ydc y3l xeg xg2 zgf
attribute [go_sem ↓] w9p x7g x5f v0a z7b
attribute [go_sem] vr1 ywt y5a z7w xfp xdd vqc xzb ynd
attribute [go_sem ↓] ve7 yi2 wfq xyu y2e zo3
attribute [go_sem] z6d xju wml zmb v1w w5y
attribute [go_sem] yxj wx0 ve2 wi7 wi9 xwx y0n vj6 xbi zqa x61 zar
attribute [go_sem] waq xli xww x44 zo0 yih yc1 v74 zp0 wzb vyo
attribute [go_sem] wl0 zly xib ya2 zfk wlc v9k z4a
attribute [congr] v8c vbw x7i vdd ytq yx6 v2f wnu wwt x0z vl5 wjd y5p xss
attribute [go_sem] v3j vib v09 yfo wnc vdq xr9 zie zzm y7y x4o yo9 zqc
attribute [go_sem] vn6 vzv w9a vub anyS wn4 xzq vw9 w0v nxtB
attribute [go_sem] vu6 opF xwz xrd fBin fUn xkr wmq vzt xyf wme yyy fLen yb2 zvb fNil xxz vd8 fBox opH opP zwu y2d y2d.callG yw6 z7i opH.appO oldO oldR av2 vO nO isNil v0y
attribute [go_sem] w7j rawS wby zxw xou TI.many seeH xqe xxe zep yxy ptrH lenH natH x6c xmo argD znb yvs vzd zmk resS zw9 yph zkg ws6 frzB frzE y20 subC xvg yrb appT dstH srcH zgw
attribute [go_sem] y1p updM kEq vhj keyX vl2 zgd x8o yrx rawL y2m ve1 wnb w8c ww0 zjo wea zzg zur v7q vgw oB oN wxr intS ckH xdz y0l wst yem vw vwO vwG datL datH
end Go.Hp
namespace Go.Slot.T
open Go Go.RowKit Go.Slot Go.Hp
open Go.Proofs.Tryz (prog)
theorem m1:mkTI prog 1=some ⟨1,8,[Cell.raw Value.nilFunc],Sh.cell⟩:=by kernel_rfl
attribute [go_sem] m1
theorem z1:yz9 prog 1=some (SV.one (HC.dat (Cell.raw Value.nilFunc))):=by kernel_rfl
attribute [go_sem] z1
theorem m2:mkTI prog 2=some ⟨1,8,[Cell.raw (Value.int IntKind.i64 0)],Sh.int IntKind.i64⟩:=by kernel_rfl
attribute [go_sem] m2
theorem u2:prog.underlying 2=some (TypeDesc.int IntKind.i64):=by kernel_rfl
attribute [go_sem] u2
theorem z2:yz9 prog 2=some (SV.one (HC.dat (Cell.raw (Value.int IntKind.i64 0)))):=by kernel_rfl
attribute [go_sem] z2
theorem w3 {k:TI->OR}:v7c prog 3 k=k ⟨1,8,[Cell.raw (Value.int IntKind.i64 0)],Sh.int IntKind.i64⟩:=xps (by kernel_rfl)
theorem m3:mkTI prog 3=some ⟨1,8,[Cell.raw (Value.int IntKind.i64 0)],Sh.int IntKind.i64⟩:=by kernel_rfl
attribute [go_sem ↓] w3
attribute [go_sem] m3
theorem u3:prog.underlying 3=some (TypeDesc.int IntKind.i64):=by kernel_rfl
attribute [go_sem] u3
theorem z3:yz9 prog 3=some (SV.one (HC.dat (Cell.raw (Value.int IntKind.i64 0)))):=by kernel_rfl
attribute [go_sem] z3
theorem m4:mkTI prog 4=some ⟨1,1,[Cell.raw (Value.bool false)],Sh.bool⟩:=by kernel_rfl
attribute [go_sem] m4
theorem z4:yz9 prog 4=some (SV.one (HC.dat (Cell.raw (Value.bool false)))):=by kernel_rfl
attribute [go_sem] z4
theorem w5 {k:TI->OR}:v7c prog 5 k=k ⟨1,1,[Cell.raw (Value.int IntKind.u8 0)],Sh.int IntKind.u8⟩:=xps (by kernel_rfl)
theorem m5:mkTI prog 5=some ⟨1,1,[Cell.raw (Value.int IntKind.u8 0)],Sh.int IntKind.u8⟩:=by kernel_rfl
attribute [go_sem ↓] w5
attribute [go_sem] m5
theorem u5:prog.underlying 5=some (TypeDesc.int IntKind.u8):=by kernel_rfl
attribute [go_sem] u5
theorem z5:yz9 prog 5=some (SV.one (HC.dat (Cell.raw (Value.int IntKind.u8 0)))):=by kernel_rfl
attribute [go_sem] z5
theorem w9 {k:TI->OR}:v7c prog 9 k=k ⟨1,16,[Cell.raw (Value.string ⟨⟨[]⟩⟩)],Sh.string⟩:=xps (by kernel_rfl)
theorem m9:mkTI prog 9=some ⟨1,16,[Cell.raw (Value.string ⟨⟨[]⟩⟩)],Sh.string⟩:=by kernel_rfl
attribute [go_sem ↓] w9
attribute [go_sem] m9
theorem u9:prog.underlying 9=some TypeDesc.string:=by kernel_rfl
attribute [go_sem] u9
theorem z9:yz9 prog 9=some (SV.one (HC.dat (Cell.raw (Value.string ⟨⟨[]⟩⟩)))):=by kernel_rfl
attribute [go_sem] z9
theorem z20:yz9 prog 20=some (SV.one (HC.dat (Cell.raw Value.nilIface))):=by kernel_rfl
attribute [go_sem] z20
theorem w22 {k:TI->OR}:v7c prog 22 k=k ⟨1,24,[Cell.zc],Sh.slice 38 7 112 none⟩:=xps (by kernel_rfl)
theorem m22:mkTI prog 22=some ⟨1,24,[Cell.zc],Sh.slice 38 7 112 none⟩:=by kernel_rfl
attribute [go_sem ↓] w22
attribute [go_sem] m22
theorem w23 {k:TI->OR}:v7c prog 23 k=k ⟨1,24,[Cell.zc],Sh.slice 25 5 72 none⟩:=xps (by kernel_rfl)
theorem m23:mkTI prog 23=some ⟨1,24,[Cell.zc],Sh.slice 25 5 72 none⟩:=by kernel_rfl
attribute [go_sem ↓] w23
attribute [go_sem] m23
theorem m25:mkTI prog 25=some ⟨5,72,[Cell.raw (Value.int IntKind.i64 0),Cell.raw (Value.int IntKind.i64 0),Cell.raw (Value.string ⟨⟨[]⟩⟩),Cell.raw (Value.string ⟨⟨[]⟩⟩),Cell.zc],Sh.struct [(0,1,3),(1,1,3),(2,1,9),(3,1,9),(4,1,23)]⟩:=by kernel_rfl
attribute [go_sem] m25
theorem z31:yz9 prog 31=some (SV.one (HC.dat (Cell.raw Value.nilFunc))):=by kernel_rfl
attribute [go_sem] z31
theorem m33:mkTI prog 33=some ⟨1,8,[Cell.raw Value.nilFunc],Sh.cell⟩:=by kernel_rfl
attribute [go_sem] m33
theorem w36 {k:TI->OR}:v7c prog 36 k=k ⟨1,24,[Cell.zc],Sh.slice 93 2 32 none⟩:=xps (by kernel_rfl)
theorem m36:mkTI prog 36=some ⟨1,24,[Cell.zc],Sh.slice 93 2 32 none⟩:=by kernel_rfl
attribute [go_sem ↓] w36
attribute [go_sem] m36
theorem z37:yz9 prog 37=some (SV.agg [HC.dat (Cell.raw (Value.string ⟨⟨[]⟩⟩)),HC.dat Cell.zc,HC.dat (Cell.raw (Value.int IntKind.i64 0)),HC.dat (Cell.raw (Value.int IntKind.i64 0)),HC.dat (Cell.raw (Value.string ⟨⟨[]⟩⟩)),HC.dat (Cell.raw (Value.string ⟨⟨[]⟩⟩)),HC.dat Cell.zc]):=by kernel_rfl
attribute [go_sem] z37
theorem m38:mkTI prog 38=some ⟨7,112,[Cell.raw (Value.string ⟨⟨[]⟩⟩),Cell.zc,Cell.raw (Value.int IntKind.i64 0),Cell.raw (Value.int IntKind.i64 0),Cell.raw (Value.string ⟨⟨[]⟩⟩),Cell.raw (Value.string ⟨⟨[]⟩⟩),Cell.zc],Sh.struct [(0,1,9),(1,1,36),(2,5,25)]⟩:=by kernel_rfl
attribute [go_sem] m38
theorem w44 {k:TI->OR}:v7c prog 44 k=k ⟨1,24,[Cell.zc],Sh.slice 58 7 64 none⟩:=xps (by kernel_rfl)
theorem m44:mkTI prog 44=some ⟨1,24,[Cell.zc],Sh.slice 58 7 64 none⟩:=by kernel_rfl
attribute [go_sem ↓] w44
attribute [go_sem] m44
theorem w45 {k:TI->OR}:v7c prog 45 k=k ⟨1,24,[Cell.zc],Sh.slice 50 3 56 none⟩:=xps (by kernel_rfl)
theorem m45:mkTI prog 45=some ⟨1,24,[Cell.zc],Sh.slice 50 3 56 none⟩:=by kernel_rfl
attribute [go_sem ↓] w45
attribute [go_sem] m45
theorem w48 {k:TI->OR}:v7c prog 48 k=k ⟨1,24,[Cell.zc],Sh.slice 156 2 16 none⟩:=xps (by kernel_rfl)
theorem m48:mkTI prog 48=some ⟨1,24,[Cell.zc],Sh.slice 156 2 16 none⟩:=by kernel_rfl
attribute [go_sem ↓] w48
attribute [go_sem] m48
theorem m50:mkTI prog 50=some ⟨3,56,[Cell.raw (Value.string ⟨⟨[]⟩⟩),Cell.raw (Value.string ⟨⟨[]⟩⟩),Cell.zc],Sh.struct [(0,1,9),(1,1,9),(2,1,48)]⟩:=by kernel_rfl
attribute [go_sem] m50
theorem m52:mkTI prog 52=some ⟨6,48,[Cell.raw (Value.int IntKind.i64 0),Cell.raw (Value.int IntKind.i64 0),Cell.raw (Value.int IntKind.i64 0),Cell.raw (Value.int IntKind.i64 0),Cell.raw (Value.int IntKind.i64 0),Cell.raw (Value.int IntKind.i64 0)],Sh.array 6 3 1⟩:=by kernel_rfl
attribute [go_sem] m52
theorem z52:yz9 prog 52=some (SV.agg [HC.dat (Cell.raw (Value.int IntKind.i64 0)),HC.dat (Cell.raw (Value.int IntKind.i64 0)),HC.dat (Cell.raw (Value.int IntKind.i64 0)),HC.dat (Cell.raw (Value.int IntKind.i64 0)),HC.dat (Cell.raw (Value.int IntKind.i64 0)),HC.dat (Cell.raw (Value.int IntKind.i64 0))]):=by kernel_rfl
attribute [go_sem] z52
theorem m54:mkTI prog 54=some ⟨7,56,[Cell.raw (Value.bool false),Cell.raw (Value.int IntKind.i64 0),Cell.raw (Value.int IntKind.i64 0),Cell.raw (Value.int IntKind.i64 0),Cell.raw (Value.int IntKind.i64 0),Cell.raw (Value.int IntKind.i64 0),Cell.raw (Value.int IntKind.i64 0)],Sh.struct [(0,1,4),(1,6,52)]⟩:=by kernel_rfl
attribute [go_sem] m54
theorem w58 {k:TI->OR}:v7c prog 58 k=k ⟨7,64,[Cell.raw (Value.string ⟨⟨[]⟩⟩),Cell.raw (Value.int IntKind.i64 0),Cell.raw (Value.int IntKind.i64 0),Cell.raw (Value.int IntKind.i64 0),Cell.raw (Value.int IntKind.i64 0),Cell.raw (Value.int IntKind.i64 0),Cell.raw (Value.int IntKind.i64 0)],Sh.struct [(0,1,9),(1,6,52)]⟩:=xps (by kernel_rfl)
theorem m58:mkTI prog 58=some ⟨7,64,[Cell.raw (Value.string ⟨⟨[]⟩⟩),Cell.raw (Value.int IntKind.i64 0),Cell.raw (Value.int IntKind.i64 0),Cell.raw (Value.int IntKind.i64 0),Cell.raw (Value.int IntKind.i64 0),Cell.raw (Value.int IntKind.i64 0),Cell.raw (Value.int IntKind.i64 0)],Sh.struct [(0,1,9),(1,6,52)]⟩:=by kernel_rfl
attribute [go_sem ↓] w58
attribute [go_sem] m58
theorem w61 {k:TI->OR}:v7c prog 61 k=k ⟨1,24,[Cell.zc],Sh.slice 9 1 16 none⟩:=xps (by kernel_rfl)
theorem m61:mkTI prog 61=some ⟨1,24,[Cell.zc],Sh.slice 9 1 16 none⟩:=by kernel_rfl
attribute [go_sem ↓] w61
attribute [go_sem] m61
theorem m67:mkTI prog 67=some ⟨1,8,[Cell.raw (Value.map none)],Sh.map 3 71⟩:=by kernel_rfl
attribute [go_sem] m67
theorem m69:mkTI prog 69=some ⟨2,32,[Cell.zc,Cell.raw (Value.map none)],Sh.struct [(0,1,22),(1,1,67)]⟩:=by kernel_rfl
attribute [go_sem] m69
theorem z70:yz9 prog 70=some (SV.agg [HC.dat (Cell.raw (Value.int IntKind.i64 0)),HC.dat (Cell.raw (Value.int IntKind.i64 0)),HC.dat (Cell.raw (Value.string ⟨⟨[]⟩⟩)),HC.dat (Cell.raw (Value.string ⟨⟨[]⟩⟩)),HC.dat Cell.zc,HC.dat (Cell.raw (Value.int IntKind.i64 0)),HC.dat (Cell.raw (Value.int IntKind.i64 0)),HC.dat (Cell.raw (Value.bool false))]):=by kernel_rfl
attribute [go_sem] z70
theorem m71:mkTI prog 71=some ⟨8,96,[Cell.raw (Value.int IntKind.i64 0),Cell.raw (Value.int IntKind.i64 0),Cell.raw (Value.string ⟨⟨[]⟩⟩),Cell.raw (Value.string ⟨⟨[]⟩⟩),Cell.zc,Cell.raw (Value.int IntKind.i64 0),Cell.raw (Value.int IntKind.i64 0),Cell.raw (Value.bool false)],Sh.struct [(0,5,25),(5,1,3),(6,1,3),(7,1,4)]⟩:=by kernel_rfl
attribute [go_sem] m71
theorem z71:yz9 prog 71=some (SV.agg [HC.dat (Cell.raw (Value.int IntKind.i64 0)),HC.dat (Cell.raw (Value.int IntKind.i64 0)),HC.dat (Cell.raw (Value.string ⟨⟨[]⟩⟩)),HC.dat (Cell.raw (Value.string ⟨⟨[]⟩⟩)),HC.dat Cell.zc,HC.dat (Cell.raw (Value.int IntKind.i64 0)),HC.dat (Cell.raw (Value.int IntKind.i64 0)),HC.dat (Cell.raw (Value.bool false))]):=by kernel_rfl
attribute [go_sem] z71
theorem z72:yz9 prog 72=some (SV.one (HC.dat (Cell.raw Value.nilFunc))):=by kernel_rfl
attribute [go_sem] z72
theorem z75:yz9 prog 75=some (SV.one (HC.dat (Cell.raw Value.nilFunc))):=by kernel_rfl
attribute [go_sem] z75
theorem z76:yz9 prog 76=some (SV.one (HC.dat (Cell.raw (Value.pointer none)))):=by kernel_rfl
attribute [go_sem] z76
theorem m78:mkTI prog 78=some ⟨1,8,[Cell.raw (Value.pointer none)],Sh.cell⟩:=by kernel_rfl
attribute [go_sem] m78
theorem w79 {k:TI->OR}:v7c prog 79 k=k ⟨1,24,[Cell.zc],Sh.slice 3 1 8 (some IntKind.i64)⟩:=xps (by kernel_rfl)
theorem m79:mkTI prog 79=some ⟨1,24,[Cell.zc],Sh.slice 3 1 8 (some IntKind.i64)⟩:=by kernel_rfl
attribute [go_sem ↓] w79
attribute [go_sem] m79
theorem m81:mkTI prog 81=some ⟨2,48,[Cell.zc,Cell.zc],Sh.struct [(0,1,22),(1,1,79)]⟩:=by kernel_rfl
attribute [go_sem] m81
theorem m85:mkTI prog 85=some ⟨2,32,[Cell.raw (Value.int IntKind.i64 0),Cell.zc],Sh.struct [(0,1,3),(1,1,79)]⟩:=by kernel_rfl
attribute [go_sem] m85
theorem m87:mkTI prog 87=some ⟨4,64,[Cell.raw (Value.int IntKind.i64 0),Cell.zc,Cell.raw (Value.int IntKind.i64 0),Cell.zc],Sh.struct [(0,2,85),(2,2,85)]⟩:=by kernel_rfl
attribute [go_sem] m87
theorem m89:mkTI prog 89=some ⟨10,112,[Cell.raw (Value.int IntKind.i64 0),Cell.raw (Value.int IntKind.i64 0),Cell.raw (Value.int IntKind.i64 0),Cell.raw (Value.int IntKind.i64 0),Cell.raw (Value.int IntKind.i64 0),Cell.raw (Value.int IntKind.i64 0),Cell.raw (Value.int IntKind.i64 0),Cell.zc,Cell.raw (Value.int IntKind.i64 0),Cell.zc],Sh.struct [(0,6,52),(6,4,87)]⟩:=by kernel_rfl
attribute [go_sem] m89
theorem m93:mkTI prog 93=some ⟨2,32,[Cell.raw (Value.string ⟨⟨[]⟩⟩),Cell.raw (Value.string ⟨⟨[]⟩⟩)],Sh.struct [(0,1,9),(1,1,9)]⟩:=by kernel_rfl
attribute [go_sem] m93
theorem m94:mkTI prog 94=some ⟨1,8,[Cell.raw (Value.map none)],Sh.map 9 52⟩:=by kernel_rfl
attribute [go_sem] m94
theorem m96:mkTI prog 96=some ⟨2,16,[Cell.raw (Value.map none),Cell.raw (Value.map none)],Sh.struct [(0,1,94),(1,1,94)]⟩:=by kernel_rfl
attribute [go_sem] m96
theorem w106 {k:TI->OR}:v7c prog 106 k=k ⟨1,24,[Cell.zc],Sh.slice 71 8 96 none⟩:=xps (by kernel_rfl)
theorem m106:mkTI prog 106=some ⟨1,24,[Cell.zc],Sh.slice 71 8 96 none⟩:=by kernel_rfl
attribute [go_sem ↓] w106
attribute [go_sem] m106
theorem w114 {k:TI->OR}:v7c prog 114 k=k ⟨1,24,[Cell.zc],Sh.slice 119 2 24 none⟩:=xps (by kernel_rfl)
theorem m114:mkTI prog 114=some ⟨1,24,[Cell.zc],Sh.slice 119 2 24 none⟩:=by kernel_rfl
attribute [go_sem ↓] w114
attribute [go_sem] m114
theorem m119:mkTI prog 119=some ⟨2,24,[Cell.raw (Value.string ⟨⟨[]⟩⟩),Cell.raw (Value.int IntKind.i64 0)],Sh.struct [(0,1,9),(1,1,3)]⟩:=by kernel_rfl
attribute [go_sem] m119
theorem m124:mkTI prog 124=some ⟨1,8,[Cell.raw Value.nilFunc],Sh.cell⟩:=by kernel_rfl
attribute [go_sem] m124
theorem w127 {k:TI->OR}:v7c prog 127 k=k ⟨1,24,[Cell.zc],Sh.slice 54 7 56 none⟩:=xps (by kernel_rfl)
theorem m127:mkTI prog 127=some ⟨1,24,[Cell.zc],Sh.slice 54 7 56 none⟩:=by kernel_rfl
attribute [go_sem ↓] w127
attribute [go_sem] m127
theorem z127:yz9 prog 127=some (SV.one (HC.dat Cell.zc)):=by kernel_rfl
attribute [go_sem] z127
theorem w129 {k:TI->OR}:v7c prog 129 k=k ⟨1,24,[Cell.zc],Sh.slice 134 4 40 none⟩:=xps (by kernel_rfl)
theorem m129:mkTI prog 129=some ⟨1,24,[Cell.zc],Sh.slice 134 4 40 none⟩:=by kernel_rfl
attribute [go_sem ↓] w129
attribute [go_sem] m129
theorem m134:mkTI prog 134=some ⟨4,40,[Cell.raw (Value.int IntKind.i64 0),Cell.raw (Value.string ⟨⟨[]⟩⟩),Cell.raw (Value.int IntKind.i64 0),Cell.raw (Value.int IntKind.i64 0)],Sh.struct [(0,1,3),(1,1,9),(2,1,3),(3,1,3)]⟩:=by kernel_rfl
attribute [go_sem] m134
theorem m156:mkTI prog 156=some ⟨2,16,[Cell.raw (Value.int IntKind.i64 0),Cell.raw (Value.int IntKind.i64 0)],Sh.struct [(0,1,3),(1,1,3)]⟩:=by kernel_rfl
attribute [go_sem] m156
theorem m168:mkTI prog 168=some ⟨3,40,[Cell.zc,Cell.raw (Value.int IntKind.i64 0),Cell.raw (Value.bool false)],Sh.struct [(0,1,129),(1,1,3),(2,1,4)]⟩:=by kernel_rfl
attribute [go_sem] m168
theorem m171:mkTI prog 171=some ⟨1,24,[Cell.zc],Sh.struct [(0,1,129)]⟩:=by kernel_rfl
attribute [go_sem] m171
theorem w175 {k:TI->OR}:v7c prog 175 k=k ⟨1,8,[Cell.raw (Value.int IntKind.u64 0)],Sh.int IntKind.u64⟩:=xps (by kernel_rfl)
attribute [go_sem ↓] w175
theorem u175:prog.underlying 175=some (TypeDesc.int IntKind.u64):=by kernel_rfl
attribute [go_sem] u175
theorem m190:mkTI prog 190=some ⟨13,13,[Cell.raw (Value.int IntKind.u8 0),Cell.raw (Value.int IntKind.u8 0),Cell.raw (Value.int IntKind.u8 0),Cell.raw (Value.int IntKind.u8 0),Cell.raw (Value.int IntKind.u8 0),Cell.raw (Value.int IntKind.u8 0),Cell.raw (Value.int IntKind.u8 0),Cell.raw (Value.int IntKind.u8 0),Cell.raw (Value.int IntKind.u8 0),Cell.raw (Value.int IntKind.u8 0),Cell.raw (Value.int IntKind.u8 0),Cell.raw (Value.int IntKind.u8 0),Cell.raw (Value.int IntKind.u8 0)],Sh.array 13 5 1⟩:=by kernel_rfl
attribute [go_sem] m190
theorem m198:mkTI prog 198=some ⟨1,8,[Cell.raw (Value.pointer none)],Sh.cell⟩:=by kernel_rfl
attribute [go_sem] m198
theorem xcf:wu7 prog 198=some 201:=by kernel_rfl
attribute [go_sem] xcf
theorem u198:prog.underlying 198=some (TypeDesc.pointer 201):=by kernel_rfl
attribute [go_sem] u198
theorem m199:mkTI prog 199=some ⟨1,24,[Cell.zc],Sh.slice 5 1 1 (some IntKind.u8)⟩:=by kernel_rfl
attribute [go_sem] m199
theorem u199:prog.underlying 199=some (TypeDesc.slice 5):=by kernel_rfl
attribute [go_sem] u199
theorem m201:mkTI prog 201=some ⟨2,32,[Cell.raw (Value.pointer none),Cell.zc],Sh.struct [(0,1,198),(1,1,199)]⟩:=by kernel_rfl
attribute [go_sem] m201
theorem zl5:wu7 prog 222=some 5:=by kernel_rfl
attribute [go_sem] zl5
theorem u230:prog.underlying 230=some TypeDesc.unsafePointer:=by kernel_rfl
attribute [go_sem] u230
theorem zc2:prog.info? 201=some (x3k prog 201):=by kernel_rfl
attribute [go_sem] zc2
theorem zno:((x3k prog 201).size != 0)=true:=by kernel_rfl
attribute [go_sem] zno
theorem e166:yb4 prog 166=true:=by kernel_rfl
attribute [go_sem] e166
theorem yps:(List.range 208).all (fun n=>n==166||!yb4 prog n)=true:=by kernel_rfl
theorem eAll (n:Nat) (h:n<208) (h166:n≠166):yb4 prog n=false:=by
 have:=List.all_eq_true.1 yps n (List.mem_range.2 h)
 simpa [h166] using this
attribute [go_sem] eAll
theorem mixed:prog.follows .mixedOrders=true:=by kernel_rfl
theorem w6e {k:Bool->Prop}:yj8 prog k=k true:=propext ⟨fun h=>h.2,fun h=>⟨mixed,h⟩⟩
attribute [go_sem] w6e
end Go.Slot.T
