/- The proof, part Y26: Ib, Ti. -/
import Derived.Test.YtmegdbbbllffkaaGreatDoorY25
import Derived.Test.YtmegdbbbllffkaaGreatDoorY13
import Derived.Test.YtmegdbbbllffkaaGreatDoorChecked
namespace Go.Hp
open Go Go.RowKit Go.Slot
variable {P:Program} {Γ:List (Nat×List Cell)} {e:List SB} {G:List (Nat×List GhH)}
def chS (a0 a1 a2 a3 a4 a5 a6 a7 a8 a9 a10 a11 a12 a13 a14 a15:SV) (r:List SV):List SV:=a0::a1::a2::a3::a4::a5::a6::a7::a8::a9::a10::a11::a12::a13::a14::a15::r
def yfb:List SV->List SV
 | a0::a1::a2::a3::a4::a5::a6::a7::a8::a9::a10::a11::a12::a13::a14::a15::r=>chS a0 a1 a2 a3 a4 a5 a6 a7 a8 a9 a10 a11 a12 a13 a14 a15 (yfb r)
 | l=>l
theorem wle:∀ l:List SV,yfb l=l
 | []=>rfl
 | [a0]=>rfl
 | [a0,a1]=>rfl
 | [a0,a1,a2]=>rfl
 | [a0,a1,a2,a3]=>rfl
 | [a0,a1,a2,a3,a4]=>rfl
 | [a0,a1,a2,a3,a4,a5]=>rfl
 | [a0,a1,a2,a3,a4,a5,a6]=>rfl
 | [a0,a1,a2,a3,a4,a5,a6,a7]=>rfl
 | [a0,a1,a2,a3,a4,a5,a6,a7,a8]=>rfl
 | [a0,a1,a2,a3,a4,a5,a6,a7,a8,a9]=>rfl
 | [a0,a1,a2,a3,a4,a5,a6,a7,a8,a9,a10]=>rfl
 | [a0,a1,a2,a3,a4,a5,a6,a7,a8,a9,a10,a11]=>rfl
 | [a0,a1,a2,a3,a4,a5,a6,a7,a8,a9,a10,a11,a12]=>rfl
 | [a0,a1,a2,a3,a4,a5,a6,a7,a8,a9,a10,a11,a12,a13]=>rfl
 | [a0,a1,a2,a3,a4,a5,a6,a7,a8,a9,a10,a11,a12,a13,a14]=>rfl
 | a0::a1::a2::a3::a4::a5::a6::a7::a8::a9::a10::a11::a12::a13::a14::a15::r=>by
  show chS a0 a1 a2 a3 a4 a5 a6 a7 a8 a9 a10 a11 a12 a13 a14 a15 (yfb r)=_;rw [wle r];rfl
def endD (res:AV):Option (AV×List Nat)->Prop
 | some (av,_)=>RLe av res
 | none=>False
def endR (η:List SB) (res:AV):Option SV->Prop
 | some x=>endD res (x75 η x)
 | none=>False
theorem v3e {η:List SB} {res:AV} {o:Option SV} (h:endR η res o):∃ x av bs,o=some x/\x75 η x=some (av,bs)/\RLe av res:=by
 cases o with
 | none=>exact h.elim
 | some x=>
  have h:endD res (x75 η x):=h;unfold endD at h;split at h
  . rename_i av bs hd;exact ⟨x,av,bs,rfl,hd,h⟩
  . exact h.elim
def w0y (P:Program) (rs:List ResultVar) (res:AV):Exit->Bool->List SV->List SB->Prop
 | .ret,_,σ,η | .normal,_,σ,η=>endR η res (xei P σ η rs)
 | _,_,_,_=>False
theorem CallsD.run (G:List (Nat×List GhH)) {f:FuncId} {fn:Func} {c:Code} {args:List AV} {sl:List SV} {res:AV} (hf:P.funcs[f]? = some fn) (hb:fn.body=some c) (hname:(fn.name == "runtime.NumGoroutine")=false) (ha:yno args=some sl)
 (h:RH Γ P [] G c true (w0y P fn.results.toList res) (yfb (sl++List.replicate (fn.ntmps-sl.length) .undef)) []):CallsD Γ P f args res:=by
 rw [wle] at h;refine CallsD.of hf hb hname ha ((RH.sound c true _ _ _ h).mono ?_);intro ex σ η ⟨b,h⟩
 cases ex with
 | normal=>exact v3e h
 | ret=>exact v3e h
 | _=>exact h.elim
def endH (Γ:List (Nat×List Cell)) (e η:List SB) (η':List SB) (res:SV):Option SV->Prop
 | some x=>StH Γ e [x] η [res] η'
 | none=>False
def w8c (Γ:List (Nat×List Cell)) (P:Program) (e:List SB) (rs:List ResultVar) (η':List SB) (res:SV):Exit->Bool->List SV->List SB->Prop
 | .ret,_,σ,η | .normal,_,σ,η=>endH Γ e η η' res (xei P σ η rs)
 | _,_,_,_=>False
theorem v1u {η η':List SB} {res:SV} {o:Option SV} (h:endH Γ e η η' res o):∃ x,o=some x/\StH Γ e [x] η [res] η':=by
 cases o with
 | none=>exact h.elim
 | some x=>exact ⟨x,rfl,h⟩
theorem zq1.run (G:List (Nat×List GhH)) {f:FuncId} {fn:Func} {c:Code} {η η':List SB} {args:List SV} {res:SV} (hf:P.funcs[f]? = some fn) (hb:fn.body=some c) (hname:(fn.name == "runtime.NumGoroutine")=false)
 (h:RH Γ P η G c true (w8c Γ P η fn.results.toList η' res) (yfb (args++List.replicate (fn.ntmps-args.length) .undef)) η):zq1 Γ P f η args η' res:=by
 rw [wle] at h;refine zq1.of hf hb hname ((RH.sound c true _ _ _ h).mono ?_);intro ex σ η1 ⟨b,h⟩
 cases ex with
 | normal=>exact v1u h
 | ret=>exact v1u h
 | _=>exact h.elim
theorem CallsD.le {f:FuncId} {args:List AV} {res res':AV} (h:CallsD Γ P f args res) (hle:RLe res res'):CallsD Γ P f args res':=
 ⟨h.1,fun M w vs hM hg hr=>(h.2 M w vs hM hg hr).mono (fun _ _ ⟨v,h1,h2,h3,h4⟩=>⟨v,h1,h2,h3.le hle,fun hh=>h4 (hle.w85 hh)⟩)⟩
theorem ynt.le {c:Code} {Q:Exit->List SV->List SB->Prop} {σ σ':List SV} {η η':List SB} (h:StH Γ e σ η σ' η') (hc:ynt Γ P e c Q σ' η'):ynt Γ P e c Q σ η:=fun E ρ a w hE hR=>by
 obtain ⟨ρ',hR'⟩:=h E ρ a w hE hR;exact hc E ρ' a w hE hR'
theorem ynt.fam {α : Type} {c : Code} {Q : Exit → List SV → List SB → Prop} (invS : α → List SV) (invH : α → List SB) (pre : α → Prop) (μ : α → Nat)
 (round:∀ x,pre x->w3t Γ P e c (ykr (fun σ' η'=>∃ y,pre y/\μ y<μ x/\StH Γ e σ' η' (invS y) (invH y)) Q) (invS x) (invH x)):∀(n:Nat) (x:α),μ x<n->pre x->ynt Γ P e c Q (invS x) (invH x)
 | 0,_,h,_=>absurd h (Nat.not_lt_zero _)
 | n + 1, x, h, hx => ynt.round ((round x hx).mono (fun ex σ η hq => by
  cases ex with
  | normal=>
   obtain ⟨y,h1,h2,h3⟩:=hq;exact ynt.le h3 (ynt.fam invS invH pre μ round n y (by omega) h1)
  | _=>exact hq))
theorem y31 {α:Type} {c:Code} {Q:Exit->Bool->List SV->List SB->Prop} {σ:List SV} {η:List SB} (keep:List Nat) (ch:α->List (Nat×SV)) (hp:α->List SB) (pre:α->Prop) (μ:α->Nat) (x0:α) (h0:pre x0)
 (hle:StH Γ e σ η (appL (ch x0) (x1y keep 0 σ)) (hp x0))
 (round:∀ x,pre x->RH Γ P e G c true (vdf (hide (fun _ σ' η'=>∃ y,pre y/\μ y<μ x/\StH Γ e σ' η' (appL (ch y) (x1y keep 0 σ)) (hp y)) ()) Q) (yfb (appL (ch x) (x1y keep 0 σ))) (hp x)):ze3 Γ P e G c Q σ η:=
 w3t.le hle (ynt.loop (ynt.fam (fun x=>appL (ch x) (x1y keep 0 σ)) hp pre μ (fun x hx=>(RH.sound c true _ _ _ (wle (appL (ch x) (x1y keep 0 σ))▸round x hx)).mono (fun ex σ' η' ⟨b,h⟩=>by
  cases ex with
  | normal=>exact h
  | _=>exact ⟨b,h⟩)) _ x0 (Nat.lt_succ_self _) h0))
def v1w (Γ:List (Nat×List Cell)) (P:Program) (e:List SB) (_G:List (Nat×List GhH)) (c:Code) (Q:Exit->Bool->List SV->List SB->Prop) (σ:List SV) (η:List SB):Prop:=ynt Γ P e c (outH Q) σ η
theorem vn8 {c:Code} {Q:Exit->Bool->List SV->List SB->Prop} {σ:List SV} {η:List SB} (h:RH Γ P e G c true (vdf (hide (fun _ σ' η'=>v1w Γ P e G c Q σ' η') ()) Q) σ η):v1w Γ P e G c Q σ η:=
 ynt.round ((RH.sound c true _ _ _ h).mono (fun ex σ' η' ⟨b,h⟩=>by
  cases ex with
  | normal=>exact h
  | _=>exact ⟨b,h⟩))
theorem wgj {c:Code} {Q:Exit->Bool->List SV->List SB->Prop} {σ:List SV} {η:List SB} (h:RH Γ P e G c true (vdf (hide (fun _ σ' η'=>v1w Γ P e G c Q σ' η') ()) Q) σ η):ze3 Γ P e G c Q σ η:=ynt.loop (vn8 h)
theorem x62 {α:Type} {x y:Code} {Q:Exit->Bool->List SV->List SB->Prop} {σ:List SV} {η:List SB} (keep:List Nat) (ch:α->List (Nat×SV)) (hp:α->List SB) (pre:α->Prop)
 (hx:RH Γ P e G x true (vdf (hide (fun _ σ' η'=>∃ a,pre a/\StH Γ e σ' η' (appL (ch a) (x1y keep 0 σ)) (hp a)) ()) Q) σ η)
 (hy:∀ a,pre a->RH Γ P e G y true Q (yfb (appL (ch a) (x1y keep 0 σ))) (hp a)):ymi Γ P e G x y Q σ η:=
 z1v ((RH.sound x true _ _ _ hx).mono (fun ex σ' η' ⟨b,h⟩=>by
  cases ex with
  | normal=>
   obtain ⟨a,h1,h2⟩:=h;exact w3t.le h2 (RH.sound y true _ _ _ (wle (appL (ch a) (x1y keep 0 σ))▸hy a h1))
  | _=>exact ⟨b,h⟩))
def nrmV (σ:List SV):List SV:=σ
theorem y7a {a:SV} {σ:List SV}:nrmV (a::σ)=a::σ:=_root_.id rfl
theorem yex {a0 a1 a2 a3 a4 a5 a6 a7 a8 a9 a10 a11 a12 a13 a14 a15:SV} {r:List SV}:nrmV (chS a0 a1 a2 a3 a4 a5 a6 a7 a8 a9 a10 a11 a12 a13 a14 a15 r)=chS a0 a1 a2 a3 a4 a5 a6 a7 a8 a9 a10 a11 a12 a13 a14 a15 r:=_root_.id rfl
def nrmH (l:List HR):List HR:=l
theorem z4y:nrmH []=[]:=_root_.id rfl
theorem z89 {a:HR} {l:List HR}:nrmH (a::l)=a::l:=_root_.id rfl
def flF (c d:Bool) (A:Bool->Bool->Prop):Prop:=A c d
theorem w7l {A:Bool->Bool->Prop}:flF true true A=A true true:=_root_.id rfl
theorem wqm {A:Bool->Bool->Prop}:flF true false A=A true false:=_root_.id rfl
theorem xoe {A:Bool->Bool->Prop}:flF false true A=A false true:=_root_.id rfl
theorem vup {c c' d d':Bool} {A:Bool->Bool->Prop} (h:c=c') (h2:d=d'):flF c d A=flF c' d' A:=by rw [h,h2]
theorem vmo {f:Bool->List SV->List SB->Prop} {u:U f} {b:Bool} {σ:List SV} {η:List SB}:hide f u b σ η=f b σ η:=_root_.id rfl
theorem zpb {f:Bool->Bool->Prop} {u:U f} {b c:Bool}:hide f u b c=f b c:=_root_.id rfl
theorem xuk {f:Bool->List SB->SV->Prop} {u:U f} {b:Bool} {η:List SB} {x:SV}:hide f u b η x=f b η x:=_root_.id rfl
theorem yvy {f:Bool->List Nat->List (Nat×SB)->SV->Prop} {u:U f} {b:Bool} {rh:List Nat} {η:List (Nat×SB)} {x:SV}:hide f u b rh η x=f b rh η x:=_root_.id rfl
theorem x43 {f:Bool->List Nat->List Nat->List (Nat×SV)->List (Nat×SB)->Prop} {u:U f} {b:Bool} {rd rh:List Nat} {x:List (Nat×SV)} {y:List (Nat×SB)}:hide f u b rd rh x y=f b rd rh x y:=_root_.id rfl
theorem wig {rd rh:List Nat} {x:List (Nat×SV)} {y:List (Nat×SB)} {z:Option SB}:tick (HO.eff rd rh x y z)=HO.eff rd rh x y z:=_root_.id rfl
theorem vq2 {f:FuncId} {l:List AV} {rd rh bs:List Nat}:tick (HO.callD f l rd rh bs)=HO.callD f l rd rh bs:=_root_.id rfl
theorem wrg {f:FuncId} {l:List SV} {rd:List Nat}:tick (HO.callH f l rd)=HO.callH f l rd:=_root_.id rfl
theorem y0n {r:Option SV} {z:SV} {ok:Bool} {rd rh:List Nat}:tick (HO.look r z ok rd rh)=HO.look r z ok rd rh:=_root_.id rfl
theorem v9u:tick HO.bad=HO.bad:=_root_.id rfl
theorem wxl:tick Hp.GR.plain=Hp.GR.plain:=_root_.id rfl
theorem wdh {d:Nat} {c b:Bool}:tick (Hp.GR.when d c b)=Hp.GR.when d c b:=_root_.id rfl
theorem vk9 {d:Nat}:tick (Hp.GR.skip d)=Hp.GR.skip d:=_root_.id rfl
theorem w8z {h:HC}:tick (SV.one h)=SV.one h:=_root_.id rfl
section
variable {Q:Exit->Bool->List SV->List SB->Prop} {σ:List SV} {η:List SB}
theorem voh:RH Γ P e G .skip true Q σ η=Q .normal true σ η:=_root_.id rfl
theorem xiz {id:Nat} {l:List Oper}:RH Γ P e G (.region id l.toArray false) true Q σ η=flF (tick (!(x60 (x7z G id)))) (tick (!(x42 (x7z G id)))) (hide (fun lit fn=>zks Γ P lit fn l true l (nrmV (anyS (x7z G id) σ)) η (Q .normal)) ()):=_root_.id rfl
theorem vo0 {id:Nat} {l:List Oper}:RH Γ P e G (.region id l.toArray true) true Q σ η=zsw P (hide (fun _=>flF (tick (!(x60 (x7z G id)))) (tick (!(x42 (x7z G id)))) (hide (fun lit fn=>z04 Γ P lit fn η.length l true l (nrmH []) (nrmV (anyS (x7z G id) σ)) (η++vxi (x7z G id)) (hide (fun b s t=>wkm η.length (Q .normal) b s t) ())) ())) ()):=_root_.id rfl
theorem zlu {x y:Code}:RH Γ P e G (.seq x y) true Q σ η=seqF (tick (y2x G y)) (hide (fun _=>ymi Γ P e G x y Q σ η) ()) (hide (fun _=>RH Γ P e G x true (vdf (hide (fun b σ η=>RH Γ P e G y b Q σ η) ()) Q) σ η) ()):=_root_.id rfl
theorem v0z {c:Operand} {x y:Code}:RH Γ P e G (.cond c x y) true Q σ η=wth c σ (hide (fun b=>RH Γ P e G x b Q σ η) ()) (hide (fun b=>RH Γ P e G y b Q σ η) ()) (tick (opdS Γ σ c)):=_root_.id rfl
theorem zcf {id:Nat} {x:Code}:RH Γ P e G (.block id x) true Q σ η=RH Γ P e G x true (yed id Q) σ η:=_root_.id rfl
theorem zcw {x:Code}:RH Γ P e G (.loop x) true Q σ η=ze3 Γ P e G x Q σ η:=_root_.id rfl
theorem v3l {id:Nat}:RH Γ P e G (.exit id) true Q σ η=Q (.exit id) true σ η:=_root_.id rfl
theorem zca:RH Γ P e G .ret true Q σ η=Q .ret true σ η:=_root_.id rfl
theorem xau {lit fn:Bool} {ops:List Oper} {K:Bool->List SV->List SB->Prop}:zks Γ P lit fn ops true [] σ η K=K true σ η:=_root_.id rfl
theorem y73 {lit fn:Bool} {ops:List Oper} {o:Oper} {r:List Oper} {K:Bool->List SV->List SB->Prop}:zks Γ P lit fn ops true (o::r) σ η K=gdH Γ P lit fn (tick (wxq ops σ o)) o σ η true (hide (fun b σ η=>zks Γ P lit fn ops b r (nrmV σ) η K) ()):=_root_.id rfl
theorem z3p {lit fn:Bool} {nb:Nat} {ops:List Oper} {acc:List HR} {K:Bool->List SV->List SB->Prop}:z04 Γ P lit fn nb ops true [] acc σ η K=y0k ops acc (hide (fun b=>K b σ η) ()):=_root_.id rfl
theorem zrk {lit fn:Bool} {nb:Nat} {ops:List Oper} {o:Oper} {r:List Oper} {acc:List HR} {K:Bool->List SV->List SB->Prop}:z04 Γ P lit fn nb ops true (o::r) acc σ η K=gdG Γ P lit fn nb (tick (wxq ops σ o)) o σ η true (hide (fun b rd rh x h=>z04 Γ P lit fn (nxtB nb h) ops b r (nrmH (acc++[⟨rd,rh,x,h⟩])) (nrmV (appL x σ)) (appL h η) K) ()):=_root_.id rfl
theorem w3k {n:Nat} {k:Bool->List SV->List SB->Prop}:wkm n k true σ η=k true σ (zr3 n η):=_root_.id rfl
end
section
variable {next:Bool->List SV->List SB->Prop} {Q:Exit->Bool->List SV->List SB->Prop}
theorem wya:vdf next Q .normal=next:=_root_.id rfl
theorem wvv {id:Nat}:vdf next Q (.exit id)=Q (.exit id):=_root_.id rfl
theorem x8w:vdf next Q .ret=Q .ret:=_root_.id rfl
theorem zfm {id:Nat}:yed id Q .normal=Q .normal:=_root_.id rfl
def selH (c:Bool) (x y:Bool->List SV->List SB->Prop):Bool->List SV->List SB->Prop:=match c with
 | true=>x
 | false=>y
theorem xgr {id j:Nat}:yed id Q (.exit j)=selH (j==id) (Q .normal) (Q (.exit j)):=by
 have h:yed id Q (.exit j)=if j=id then Q .normal else Q (.exit j):=rfl
 rw [h];unfold selH;by_cases he:j=id
 . rw [if_pos he,show (j==id)=true from by simp [he]]
 . rw [if_neg he,show (j==id)=false from by simp [he]]
theorem z4i {x y:Bool->List SV->List SB->Prop}:selH true x y=x:=rfl
theorem vyc {x y:Bool->List SV->List SB->Prop}:selH false x y=y:=rfl
theorem v9s {c c':Bool} {x y:Bool->List SV->List SB->Prop} (h:c=c'):selH c x y=selH c' x y:=by rw [h]
theorem vbs {id:Nat}:yed id Q .ret=Q .ret:=_root_.id rfl
end
section
variable {o:Oper} {σ:List SV} {η:List SB} {b:Bool} {k:Bool->List SV->List SB->Prop}
theorem ybf {rd rh:List Nat} {x:List (Nat×SV)} {h:List (Nat×SB)}:doH Γ P (.eff rd rh x h none) o σ η b k=k b (appL x σ) (appL h η):=_root_.id rfl
theorem vor {rd rh:List Nat} {x:List (Nat×SV)} {h:List (Nat×SB)} {z:SB}:doH Γ P (.eff rd rh x h (some z)) o σ η b k=k b (appL x σ) (appL h η++[z]):=_root_.id rfl
theorem vir {f:FuncId} {l:List AV} {rd rh bs:List Nat}:doH Γ P (.callD f l rd rh bs) o σ η b k=x8b Γ P f l (appL (frzE η bs) η) (hide (fun b res=>resK o σ (appL (frzE η bs) η) b k (resS η.length res)) ()) (hide (fun b η2 res=>k b (appL (yn1 o res) σ) η2) ()):=_root_.id rfl
theorem x1x {f:FuncId} {l:List SV} {rd:List Nat}:doH Γ P (.callH f l rd) o σ η b k=vpa Γ P f η l (hide (fun b η2 res=>k b (appL (yn1 o res) σ) η2) ()):=_root_.id rfl
theorem ztm {r:Option SV} {z:SV} {ok:Bool} {rd rh:List Nat}:doH Γ P (.look r z ok rd rh) o σ η b k=v57 o σ η b k (w2w ok r z):=_root_.id rfl
theorem wwe {y:SV}:resK o σ η b k (some (y,none))=k b (appL (yn1 o y) σ) η:=_root_.id rfl
theorem xd5 {lit fn:Bool}:gdH Γ P lit fn .plain o σ η b k=doH Γ P (tick (opF P Γ lit fn σ η η.length o)) o σ η b k:=_root_.id rfl
theorem viv {lit fn:Bool} {d:Nat} {c b':Bool}:gdH Γ P lit fn (.when d c b') o σ η b k=xuy c b' (hide (fun b=>doH Γ P (tick (opF P Γ lit fn σ η η.length o)) o σ η b k) ()) (hide (fun b=>v3o o σ η b k) ()):=_root_.id rfl
theorem wao {lit fn:Bool} {d:Nat}:gdH Γ P lit fn (.skip d) o σ η b k=v3o o σ η b k:=_root_.id rfl
end
section
variable {o:Oper} {σ:List SV} {η:List SB} {nb:Nat} {b:Bool} {k:Bool->List Nat->List Nat->List (Nat×SV)->List (Nat×SB)->Prop}
theorem x8q {rd rh:List Nat} {x:List (Nat×SV)} {h:List (Nat×SB)}:doG Γ P (.eff rd rh x h none) o σ η nb b k=k b rd rh x h:=_root_.id rfl
theorem xyv {rd rh:List Nat} {x:List (Nat×SV)} {h:List (Nat×SB)} {z:SB}:doG Γ P (.eff rd rh x h (some z)) o σ η nb b k=(z1s η nb=true/\k b rd (nb::rh) x (h++[(nb,z)])):=_root_.id rfl
theorem vs3 {f:FuncId} {l:List AV} {rd rh bs:List Nat}:doG Γ P (.callD f l rd rh bs) o σ η nb b k=xty Γ P f l (hide (fun b res=>resG o σ η nb rd rh bs b k (resS nb res)) ()):=_root_.id rfl
theorem y7y {f:FuncId} {l:List SV} {rd:List Nat}:doG Γ P (.callH f l rd) o σ η nb b k=v38 Γ P f η l (hide (fun b rh heff res=>k b rd rh (yn1 o res) heff) ()):=_root_.id rfl
theorem xy1:doG Γ P .bad o σ η nb b k=BadO o.op σ η:=_root_.id rfl
theorem z6r {rd rh bs:List Nat} {y:SV}:resG o σ η nb rd rh bs b k (some (y,none))=k b rd (rh++bs) (yn1 o y) (frzE η bs):=_root_.id rfl
theorem y5t {d:Nat} {rd rh:List Nat} {x:List (Nat×SV)} {h:List (Nat×SB)}:onG d k b rd rh x h=k b (d::rd) rh x h:=_root_.id rfl
theorem zil {lit fn:Bool}:gdG Γ P lit fn nb .plain o σ η b k=doG Γ P (tick (opF P Γ lit fn σ η nb o)) o σ η nb b k:=_root_.id rfl
theorem xuv {lit fn:Bool} {d:Nat} {c b':Bool}:gdG Γ P lit fn nb (.when d c b') o σ η b k=xuy c b' (hide (fun b=>doG Γ P (tick (opF P Γ lit fn σ η nb o)) o σ η nb b (hide (fun b rd rh x h=>onG d k b rd rh x h) ())) ()) (hide (fun b=>xqh d o b k) ()):=_root_.id rfl
theorem xf2 {lit fn:Bool} {d:Nat}:gdG Γ P lit fn nb (.skip d) o σ η b k=xqh d o b k:=_root_.id rfl
end
theorem yqf {c:Operand} {σ:List SV} {X Y:Bool->Prop} {p:Bool}:wth c σ X Y (.one (.dat (.raw (.bool p))))=z4j p X Y:=_root_.id rfl
theorem yeh {rs:List ResultVar} {res:AV} {b:Bool} {σ:List SV} {η:List SB}:w0y P rs res .ret b σ η=endR η res (tick (xei P σ η rs)):=_root_.id rfl
theorem zc8 {η:List SB} {res:AV} {x:SV}:endR η res (some x)=endD res (tick (x75 η x)):=_root_.id rfl
theorem wb8 {res av:AV} {bs:List Nat}:endD res (some (av,bs))=RLe av res:=_root_.id rfl
theorem xyg {rs:List ResultVar} {res:SV} {b:Bool} {σ:List SV} {η η':List SB}:w8c Γ P e rs η' res .ret b σ η=endH Γ e η η' res (tick (xei P σ η rs)):=_root_.id rfl
theorem w6n {rs:List ResultVar} {res:SV} {b:Bool} {σ:List SV} {η η':List SB}:w8c Γ P e rs η' res .normal b σ η=endH Γ e η η' res (tick (xei P σ η rs)):=_root_.id rfl
theorem v49 {res x:SV} {η η':List SB}:endH Γ e η η' res (some x)=StH Γ e [x] η [res] η':=_root_.id rfl
theorem yke {α:Type} {x:α}:tick (some x)=some x:=_root_.id rfl
theorem wsx {η η':List SB} {res:AV} {o o':Option SV} (h:o=o') (hη:η=η'):endR η res o=endR η' res o':=by rw [h,hη]
theorem wb2 {res:AV} {o o':Option (AV×List Nat)} (h:o=o'):endD res o=endD res o':=by rw [h]
theorem whd {e η η' η1:List SB} {res:SV} {o o':Option SV} (h:o=o') (hη:η=η1):endH Γ e η η' res o=endH Γ e η1 η' res o':=by rw [h,hη]
theorem yhg {e η η' η1 η1':List SB} {σ σ1 σ' σ1':List SV} (h:σ=σ1) (hη:η=η1) (h':σ'=σ1') (hη':η'=η1'):StH Γ e σ η σ' η'=StH Γ e σ1 η1 σ1' η1':=by rw [h,hη,h',hη']
section
variable {o o':Oper} {σ σ':List SV} {η η':List SB} {b:Bool}
theorem yr3 {k:Bool->List SV->List SB->Prop} {x x':HO} (h:x=x'):doH Γ P x o σ η b k=doH Γ P x' o σ η b k:=by rw [h]
theorem z9q {nb:Nat} {k:Bool->List Nat->List Nat->List (Nat×SV)->List (Nat×SB)->Prop} {x x':HO} (h:x=x'):doG Γ P x o σ η nb b k=doG Γ P x' o σ η nb b k:=by rw [h]
theorem zpf {nb:Nat} {rd rh bs:List Nat} {k:Bool->List Nat->List Nat->List (Nat×SV)->List (Nat×SB)->Prop} {r r':Option (SV×Option SB)} (h:r=r'):resG o σ η nb rd rh bs b k r=resG o σ η nb rd rh bs b k r':=by rw [h]
theorem yfd {c:Operand} {X Y:Bool->Prop} {v v':SV} (h:v=v'):wth c σ X Y v=wth c σ X Y v':=by rw [h]
theorem z5n {lit fn:Bool} {ops l:List Oper} {K:Bool->List SV->List SB->Prop} (h:σ=σ') (hη:η=η'):zks Γ P lit fn ops b l σ η K=zks Γ P lit fn ops b l σ' η' K:=by rw [h,hη]
theorem zmb {lit fn:Bool} {nb nb':Nat} {ops l:List Oper} {acc acc':List HR} {K:Bool->List SV->List SB->Prop} (hn:nb=nb') (ha:acc=acc') (h:σ=σ') (hη:η=η'):z04 Γ P lit fn nb ops b l acc σ η K=z04 Γ P lit fn nb' ops b l acc' σ' η' K:=by rw [h,ha,hη,hn]
end
def yri (P:Program) (t:TypeId):TypeInfo:=(P.info? t).getD default
theorem zej {a:SV} {σ:List SV}:gtS (a::σ) 0=a:=rfl
theorem wlv {a:SV} {σ:List SV} {n:Nat}:gtS (a::σ) (n+1)=gtS σ n:=rfl
theorem z77 {a:SB} {η:List SB}:gB (a::η) 0=a:=rfl
theorem x30 {a:SB} {η:List SB} {n:Nat}:gB (a::η) (n+1)=gB η n:=rfl
theorem yvk {l:List SV}:appL [] l=l:=rfl
theorem yzx {p:Nat×SV} {r:List (Nat×SV)} {l:List SV}:appL (p::r) l=appL r (l.set p.1 p.2):=rfl
theorem xaq {l:List SB}:appL [] l=l:=rfl
theorem yvg {p:Nat×SB} {r:List (Nat×SB)} {l:List SB}:appL (p::r) l=appL r (l.set p.1 p.2):=rfl
theorem yxo {σ:List SV} {t:Nat}:opdS Γ σ (.tmp t)=gtS σ t:=rfl
theorem xsr {σ:List SV} {v:Value}:opdS Γ σ (.const v)=vlh v:=rfl
theorem xo6 {σ:List SV} {f:FuncId}:opdS Γ σ (.func f)=.one (.dat (.raw (.func (.func f) #[] #[]))):=rfl
theorem z0k {σ:List SV} {g:Nat}:opdS Γ σ (.global g)=zru Γ g:=rfl
theorem x7b {σ:List SV} {d:Nat}:nh (σ.map vw) d=decide (d<σ.length):=by
 unfold nh;by_cases h:d<σ.length
 . rw [List.getElem?_map,List.getElem?_eq_getElem h,decide_eq_true h];simp only [Option.map_some,wua,Bool.not_false]
 . rw [List.getElem?_map,List.getElem?_eq_none (by omega),decide_eq_false h];rfl
section
variable {a0 a1 a2 a3 a4 a5 a6 a7 a8 a9 a10 a11 a12 a13 a14 a15 x:SV} {r:List SV} {n:Nat}
theorem w8s:gtS (chS a0 a1 a2 a3 a4 a5 a6 a7 a8 a9 a10 a11 a12 a13 a14 a15 r) 0=a0:=rfl
theorem y0r:(chS a0 a1 a2 a3 a4 a5 a6 a7 a8 a9 a10 a11 a12 a13 a14 a15 r).set 0 x=chS x a1 a2 a3 a4 a5 a6 a7 a8 a9 a10 a11 a12 a13 a14 a15 r:=rfl
theorem y9j:gtS (chS a0 a1 a2 a3 a4 a5 a6 a7 a8 a9 a10 a11 a12 a13 a14 a15 r) 1=a1:=rfl
theorem x15:(chS a0 a1 a2 a3 a4 a5 a6 a7 a8 a9 a10 a11 a12 a13 a14 a15 r).set 1 x=chS a0 x a2 a3 a4 a5 a6 a7 a8 a9 a10 a11 a12 a13 a14 a15 r:=rfl
theorem v2m:gtS (chS a0 a1 a2 a3 a4 a5 a6 a7 a8 a9 a10 a11 a12 a13 a14 a15 r) 2=a2:=rfl
theorem zrz:(chS a0 a1 a2 a3 a4 a5 a6 a7 a8 a9 a10 a11 a12 a13 a14 a15 r).set 2 x=chS a0 a1 x a3 a4 a5 a6 a7 a8 a9 a10 a11 a12 a13 a14 a15 r:=rfl
theorem xp5:gtS (chS a0 a1 a2 a3 a4 a5 a6 a7 a8 a9 a10 a11 a12 a13 a14 a15 r) 3=a3:=rfl
theorem z2z:(chS a0 a1 a2 a3 a4 a5 a6 a7 a8 a9 a10 a11 a12 a13 a14 a15 r).set 3 x=chS a0 a1 a2 x a4 a5 a6 a7 a8 a9 a10 a11 a12 a13 a14 a15 r:=rfl
theorem zdu:gtS (chS a0 a1 a2 a3 a4 a5 a6 a7 a8 a9 a10 a11 a12 a13 a14 a15 r) 4=a4:=rfl
theorem vb2:(chS a0 a1 a2 a3 a4 a5 a6 a7 a8 a9 a10 a11 a12 a13 a14 a15 r).set 4 x=chS a0 a1 a2 a3 x a5 a6 a7 a8 a9 a10 a11 a12 a13 a14 a15 r:=rfl
theorem wco:gtS (chS a0 a1 a2 a3 a4 a5 a6 a7 a8 a9 a10 a11 a12 a13 a14 a15 r) 5=a5:=rfl
theorem yi2:(chS a0 a1 a2 a3 a4 a5 a6 a7 a8 a9 a10 a11 a12 a13 a14 a15 r).set 5 x=chS a0 a1 a2 a3 a4 x a6 a7 a8 a9 a10 a11 a12 a13 a14 a15 r:=rfl
theorem xd3:gtS (chS a0 a1 a2 a3 a4 a5 a6 a7 a8 a9 a10 a11 a12 a13 a14 a15 r) 6=a6:=rfl
theorem yqi:(chS a0 a1 a2 a3 a4 a5 a6 a7 a8 a9 a10 a11 a12 a13 a14 a15 r).set 6 x=chS a0 a1 a2 a3 a4 a5 x a7 a8 a9 a10 a11 a12 a13 a14 a15 r:=rfl
theorem zaw:gtS (chS a0 a1 a2 a3 a4 a5 a6 a7 a8 a9 a10 a11 a12 a13 a14 a15 r) 7=a7:=rfl
theorem wew:(chS a0 a1 a2 a3 a4 a5 a6 a7 a8 a9 a10 a11 a12 a13 a14 a15 r).set 7 x=chS a0 a1 a2 a3 a4 a5 a6 x a8 a9 a10 a11 a12 a13 a14 a15 r:=rfl
theorem z59:gtS (chS a0 a1 a2 a3 a4 a5 a6 a7 a8 a9 a10 a11 a12 a13 a14 a15 r) 8=a8:=rfl
theorem z98:(chS a0 a1 a2 a3 a4 a5 a6 a7 a8 a9 a10 a11 a12 a13 a14 a15 r).set 8 x=chS a0 a1 a2 a3 a4 a5 a6 a7 x a9 a10 a11 a12 a13 a14 a15 r:=rfl
theorem vti:gtS (chS a0 a1 a2 a3 a4 a5 a6 a7 a8 a9 a10 a11 a12 a13 a14 a15 r) 9=a9:=rfl
theorem wwr:(chS a0 a1 a2 a3 a4 a5 a6 a7 a8 a9 a10 a11 a12 a13 a14 a15 r).set 9 x=chS a0 a1 a2 a3 a4 a5 a6 a7 a8 x a10 a11 a12 a13 a14 a15 r:=rfl
theorem xel:gtS (chS a0 a1 a2 a3 a4 a5 a6 a7 a8 a9 a10 a11 a12 a13 a14 a15 r) 10=a10:=rfl
theorem vop:(chS a0 a1 a2 a3 a4 a5 a6 a7 a8 a9 a10 a11 a12 a13 a14 a15 r).set 10 x=chS a0 a1 a2 a3 a4 a5 a6 a7 a8 a9 x a11 a12 a13 a14 a15 r:=rfl
theorem v4r:gtS (chS a0 a1 a2 a3 a4 a5 a6 a7 a8 a9 a10 a11 a12 a13 a14 a15 r) 11=a11:=rfl
theorem wqp:(chS a0 a1 a2 a3 a4 a5 a6 a7 a8 a9 a10 a11 a12 a13 a14 a15 r).set 11 x=chS a0 a1 a2 a3 a4 a5 a6 a7 a8 a9 a10 x a12 a13 a14 a15 r:=rfl
theorem ym5:gtS (chS a0 a1 a2 a3 a4 a5 a6 a7 a8 a9 a10 a11 a12 a13 a14 a15 r) 12=a12:=rfl
theorem vwq:(chS a0 a1 a2 a3 a4 a5 a6 a7 a8 a9 a10 a11 a12 a13 a14 a15 r).set 12 x=chS a0 a1 a2 a3 a4 a5 a6 a7 a8 a9 a10 a11 x a13 a14 a15 r:=rfl
theorem xpz:gtS (chS a0 a1 a2 a3 a4 a5 a6 a7 a8 a9 a10 a11 a12 a13 a14 a15 r) 13=a13:=rfl
theorem zv1:(chS a0 a1 a2 a3 a4 a5 a6 a7 a8 a9 a10 a11 a12 a13 a14 a15 r).set 13 x=chS a0 a1 a2 a3 a4 a5 a6 a7 a8 a9 a10 a11 a12 x a14 a15 r:=rfl
theorem zzm:gtS (chS a0 a1 a2 a3 a4 a5 a6 a7 a8 a9 a10 a11 a12 a13 a14 a15 r) 14=a14:=rfl
theorem v93:(chS a0 a1 a2 a3 a4 a5 a6 a7 a8 a9 a10 a11 a12 a13 a14 a15 r).set 14 x=chS a0 a1 a2 a3 a4 a5 a6 a7 a8 a9 a10 a11 a12 a13 x a15 r:=rfl
theorem ws6:gtS (chS a0 a1 a2 a3 a4 a5 a6 a7 a8 a9 a10 a11 a12 a13 a14 a15 r) 15=a15:=rfl
theorem xh3:(chS a0 a1 a2 a3 a4 a5 a6 a7 a8 a9 a10 a11 a12 a13 a14 a15 r).set 15 x=chS a0 a1 a2 a3 a4 a5 a6 a7 a8 a9 a10 a11 a12 a13 a14 x r:=rfl
theorem zrp:gtS (chS a0 a1 a2 a3 a4 a5 a6 a7 a8 a9 a10 a11 a12 a13 a14 a15 r) (n+16)=gtS r n:=rfl
theorem w73:(chS a0 a1 a2 a3 a4 a5 a6 a7 a8 a9 a10 a11 a12 a13 a14 a15 r).set (n+16) x=chS a0 a1 a2 a3 a4 a5 a6 a7 a8 a9 a10 a11 a12 a13 a14 a15 (r.set n x):=rfl
theorem y43:(chS a0 a1 a2 a3 a4 a5 a6 a7 a8 a9 a10 a11 a12 a13 a14 a15 r).length=r.length+16:=rfl
theorem vl7:yfb (a0::a1::a2::a3::a4::a5::a6::a7::a8::a9::a10::a11::a12::a13::a14::a15::r)=chS a0 a1 a2 a3 a4 a5 a6 a7 a8 a9 a10 a11 a12 a13 a14 a15 (yfb r):=rfl
theorem z2q:yfb (chS a0 a1 a2 a3 a4 a5 a6 a7 a8 a9 a10 a11 a12 a13 a14 a15 r)=chS a0 a1 a2 a3 a4 a5 a6 a7 a8 a9 a10 a11 a12 a13 a14 a15 (yfb r):=rfl
theorem ymq:yfb []=[]:=rfl
theorem yq9:yfb [a0]=[a0]:=rfl
theorem xe7:yfb [a0,a1]=[a0,a1]:=rfl
theorem wc8:yfb [a0,a1,a2]=[a0,a1,a2]:=rfl
theorem xu1:yfb [a0,a1,a2,a3]=[a0,a1,a2,a3]:=rfl
theorem yxe:yfb [a0,a1,a2,a3,a4]=[a0,a1,a2,a3,a4]:=rfl
theorem xfe:yfb [a0,a1,a2,a3,a4,a5]=[a0,a1,a2,a3,a4,a5]:=rfl
theorem zy8:yfb [a0,a1,a2,a3,a4,a5,a6]=[a0,a1,a2,a3,a4,a5,a6]:=rfl
theorem xog:yfb [a0,a1,a2,a3,a4,a5,a6,a7]=[a0,a1,a2,a3,a4,a5,a6,a7]:=rfl
theorem y9l:yfb [a0,a1,a2,a3,a4,a5,a6,a7,a8]=[a0,a1,a2,a3,a4,a5,a6,a7,a8]:=rfl
theorem z11:yfb [a0,a1,a2,a3,a4,a5,a6,a7,a8,a9]=[a0,a1,a2,a3,a4,a5,a6,a7,a8,a9]:=rfl
theorem zvg:yfb [a0,a1,a2,a3,a4,a5,a6,a7,a8,a9,a10]=[a0,a1,a2,a3,a4,a5,a6,a7,a8,a9,a10]:=rfl
theorem w6b:yfb [a0,a1,a2,a3,a4,a5,a6,a7,a8,a9,a10,a11]=[a0,a1,a2,a3,a4,a5,a6,a7,a8,a9,a10,a11]:=rfl
theorem xmf:yfb [a0,a1,a2,a3,a4,a5,a6,a7,a8,a9,a10,a11,a12]=[a0,a1,a2,a3,a4,a5,a6,a7,a8,a9,a10,a11,a12]:=rfl
theorem wgf:yfb [a0,a1,a2,a3,a4,a5,a6,a7,a8,a9,a10,a11,a12,a13]=[a0,a1,a2,a3,a4,a5,a6,a7,a8,a9,a10,a11,a12,a13]:=rfl
theorem xy4:yfb [a0,a1,a2,a3,a4,a5,a6,a7,a8,a9,a10,a11,a12,a13,a14]=[a0,a1,a2,a3,a4,a5,a6,a7,a8,a9,a10,a11,a12,a13,a14]:=rfl
theorem v5x {ks:List Nat} {i:Nat}:x1y ks i (chS a0 a1 a2 a3 a4 a5 a6 a7 a8 a9 a10 a11 a12 a13 a14 a15 r)=x1y ks i (a0::a1::a2::a3::a4::a5::a6::a7::a8::a9::a10::a11::a12::a13::a14::a15::r):=rfl
end
attribute [go_sem] w8s y9j v2m xp5 zdu wco xd3 zaw z59 vti xel v4r ym5 xpz zzm ws6 y0r x15 zrz z2z vb2 yi2 yqi wew z98 wwr vop wqp vwq zv1 v93 xh3 ymq yq9 xe7 wc8 xu1 yxe xfe zy8 xog y9l z11 zvg w6b xmf wgf xy4 zrp w73 y43 vl7 z2q v5x
attribute [go_sem ↓] voh xiz vo0 zlu v0z zcf zcw v3l zca
attribute [go_sem] xau y73 z3p zrk w3k y7a yex z4y z89
attribute [go_sem ↓] vmo zpb xuk yvy x43
attribute [go_sem] wig vq2 wrg y0n v9u w8z wxl wdh vk9
attribute [go_sem ↓] wya wvv x8w zfm xgr vbs
attribute [go_sem] z4i vyc w7l wqm xoe
attribute [go_sem] ybf vor vir x1x ztm wwe xd5 viv wao v3o v57
attribute [go_sem] x8q xyv vs3 y7y xy1 z6r y5t zil xuv xf2 xqh zbp
attribute [go_sem] yqf yeh xyg w6n zc8 wb8 v49 yke
attribute [congr] yr3 z9q zpf yfd z5n zmb vup v9s wsx wb2 whd yhg
attribute [go_sem] zej wlv z77 x30 yvk yzx xaq yvg yxo xsr xo6 z0k x7b
attribute [go_sem] x7z x7d x60 x42 anyS y2x x1y vxi y4q nxtB
attribute [go_sem] wxq opF vjw yyq fBin fUn v36 xdu yna vt8 vjo vlx fLen xvd vy8 fNil wvw xgy fBox opH opP vjd wx8 wx8.callG opH.appO oldO oldR av2 vO nO isNil yo7
attribute [go_sem] vcb rawS vni wrf yva TI.many seeH w81 zbo vge wit ptrH lenH natH zp5 va2 argD wo8 wdj woc yno resS yzs yn1 vlh zru frzB frzE wkf subC y0g v1j appT dstH srcH w6h
attribute [go_sem] x1q updM kEq zy7 keyV w2w zcu vy4 xod ysq zuh xei x75 zr3 z1s vsw oB oN xhf intS ckH vmx yrn ybu zv3 vw vwO vwG datL datH
end Go.Hp
namespace Go.Slot.T
open Go Go.RowKit Go.Slot Go.Hp
open Go.Proofs.Tryz (prog)
theorem w1 {k:TI->OR}:zcp prog 1 k=k ⟨1,8,[Cell.raw Value.nilFunc],Sh.cell⟩:=vq3 (by kernel_rfl)
theorem m1:mkTI prog 1=some ⟨1,8,[Cell.raw Value.nilFunc],Sh.cell⟩:=by kernel_rfl
attribute [go_sem ↓] w1
attribute [go_sem] m1
theorem w2 {k:TI->OR}:zcp prog 2 k=k ⟨1,8,[Cell.raw (Value.int IntKind.i64 0)],Sh.int IntKind.i64⟩:=vq3 (by kernel_rfl)
theorem m2:mkTI prog 2=some ⟨1,8,[Cell.raw (Value.int IntKind.i64 0)],Sh.int IntKind.i64⟩:=by kernel_rfl
attribute [go_sem ↓] w2
attribute [go_sem] m2
theorem u2:prog.underlying 2=some (TypeDesc.int IntKind.i64):=by kernel_rfl
attribute [go_sem] u2
theorem w3 {k:TI->OR}:zcp prog 3 k=k ⟨1,8,[Cell.raw (Value.int IntKind.i64 0)],Sh.int IntKind.i64⟩:=vq3 (by kernel_rfl)
theorem m3:mkTI prog 3=some ⟨1,8,[Cell.raw (Value.int IntKind.i64 0)],Sh.int IntKind.i64⟩:=by kernel_rfl
attribute [go_sem ↓] w3
attribute [go_sem] m3
theorem u3:prog.underlying 3=some (TypeDesc.int IntKind.i64):=by kernel_rfl
attribute [go_sem] u3
theorem m4:mkTI prog 4=some ⟨1,1,[Cell.raw (Value.bool false)],Sh.bool⟩:=by kernel_rfl
attribute [go_sem] m4
theorem w5 {k:TI->OR}:zcp prog 5 k=k ⟨1,1,[Cell.raw (Value.int IntKind.u8 0)],Sh.int IntKind.u8⟩:=vq3 (by kernel_rfl)
theorem m5:mkTI prog 5=some ⟨1,1,[Cell.raw (Value.int IntKind.u8 0)],Sh.int IntKind.u8⟩:=by kernel_rfl
attribute [go_sem ↓] w5
attribute [go_sem] m5
theorem u5:prog.underlying 5=some (TypeDesc.int IntKind.u8):=by kernel_rfl
attribute [go_sem] u5
theorem w9 {k:TI->OR}:zcp prog 9 k=k ⟨1,16,[Cell.raw (Value.string ⟨⟨[]⟩⟩)],Sh.string⟩:=vq3 (by kernel_rfl)
theorem m9:mkTI prog 9=some ⟨1,16,[Cell.raw (Value.string ⟨⟨[]⟩⟩)],Sh.string⟩:=by kernel_rfl
attribute [go_sem ↓] w9
attribute [go_sem] m9
theorem w22 {k:TI->OR}:zcp prog 22 k=k ⟨1,24,[Cell.zc],Sh.slice 24 5 72 none⟩:=vq3 (by kernel_rfl)
theorem m22:mkTI prog 22=some ⟨1,24,[Cell.zc],Sh.slice 24 5 72 none⟩:=by kernel_rfl
attribute [go_sem ↓] w22
attribute [go_sem] m22
theorem m24:mkTI prog 24=some ⟨5,72,[Cell.raw (Value.int IntKind.i64 0),Cell.raw (Value.int IntKind.i64 0),Cell.raw (Value.string ⟨⟨[]⟩⟩),Cell.raw (Value.string ⟨⟨[]⟩⟩),Cell.zc],Sh.struct [(0,1,3),(1,1,3),(2,1,9),(3,1,9),(4,1,22)]⟩:=by kernel_rfl
attribute [go_sem] m24
theorem w25 {k:TI->OR}:zcp prog 25 k=k ⟨1,24,[Cell.zc],Sh.slice 55 5 80 none⟩:=vq3 (by kernel_rfl)
theorem m25:mkTI prog 25=some ⟨1,24,[Cell.zc],Sh.slice 55 5 80 none⟩:=by kernel_rfl
attribute [go_sem ↓] w25
attribute [go_sem] m25
theorem w26 {k:TI->OR}:zcp prog 26 k=k ⟨1,24,[Cell.zc],Sh.slice 60 3 56 none⟩:=vq3 (by kernel_rfl)
theorem m26:mkTI prog 26=some ⟨1,24,[Cell.zc],Sh.slice 60 3 56 none⟩:=by kernel_rfl
attribute [go_sem ↓] w26
attribute [go_sem] m26
theorem w29 {k:TI->OR}:zcp prog 29 k=k ⟨1,24,[Cell.zc],Sh.slice 3 1 8 (some IntKind.i64)⟩:=vq3 (by kernel_rfl)
theorem m29:mkTI prog 29=some ⟨1,24,[Cell.zc],Sh.slice 3 1 8 (some IntKind.i64)⟩:=by kernel_rfl
attribute [go_sem ↓] w29
attribute [go_sem] m29
theorem w31 {k:TI->OR}:zcp prog 31 k=k ⟨2,32,[Cell.raw (Value.int IntKind.i64 0),Cell.zc],Sh.struct [(0,1,3),(1,1,29)]⟩:=vq3 (by kernel_rfl)
theorem m31:mkTI prog 31=some ⟨2,32,[Cell.raw (Value.int IntKind.i64 0),Cell.zc],Sh.struct [(0,1,3),(1,1,29)]⟩:=by kernel_rfl
attribute [go_sem ↓] w31
attribute [go_sem] m31
theorem w33 {k:TI->OR}:zcp prog 33 k=k ⟨4,64,[Cell.raw (Value.int IntKind.i64 0),Cell.zc,Cell.raw (Value.int IntKind.i64 0),Cell.zc],Sh.struct [(0,2,31),(2,2,31)]⟩:=vq3 (by kernel_rfl)
theorem m33:mkTI prog 33=some ⟨4,64,[Cell.raw (Value.int IntKind.i64 0),Cell.zc,Cell.raw (Value.int IntKind.i64 0),Cell.zc],Sh.struct [(0,2,31),(2,2,31)]⟩:=by kernel_rfl
attribute [go_sem ↓] w33
attribute [go_sem] m33
theorem z33:vnl prog 33=some (SV.agg [HC.dat (Cell.raw (Value.int IntKind.i64 0)),HC.dat Cell.zc,HC.dat (Cell.raw (Value.int IntKind.i64 0)),HC.dat Cell.zc]):=by kernel_rfl
attribute [go_sem] z33
theorem m35:mkTI prog 35=some ⟨6,72,[Cell.raw (Value.bool false),Cell.raw (Value.bool false),Cell.raw (Value.int IntKind.i64 0),Cell.zc,Cell.raw (Value.int IntKind.i64 0),Cell.zc],Sh.struct [(0,1,4),(1,1,4),(2,4,33)]⟩:=by kernel_rfl
attribute [go_sem] m35
theorem m36:mkTI prog 36=some ⟨1,8,[Cell.raw (Value.int IntKind.i64 0)],Sh.int IntKind.i64⟩:=by kernel_rfl
attribute [go_sem] m36
theorem m42:mkTI prog 42=some ⟨6,48,[Cell.raw (Value.int IntKind.i64 0),Cell.raw (Value.int IntKind.i64 0),Cell.raw (Value.int IntKind.i64 0),Cell.raw (Value.int IntKind.i64 0),Cell.raw (Value.int IntKind.i64 0),Cell.raw (Value.int IntKind.i64 0)],Sh.array 6 3 1⟩:=by kernel_rfl
attribute [go_sem] m42
theorem m44:mkTI prog 44=some ⟨10,112,[Cell.raw (Value.int IntKind.i64 0),Cell.raw (Value.int IntKind.i64 0),Cell.raw (Value.int IntKind.i64 0),Cell.raw (Value.int IntKind.i64 0),Cell.raw (Value.int IntKind.i64 0),Cell.raw (Value.int IntKind.i64 0),Cell.raw (Value.int IntKind.i64 0),Cell.zc,Cell.raw (Value.int IntKind.i64 0),Cell.zc],Sh.struct [(0,6,42),(6,4,33)]⟩:=by kernel_rfl
attribute [go_sem] m44
theorem m55:mkTI prog 55=some ⟨5,80,[Cell.raw (Value.string ⟨⟨[]⟩⟩),Cell.raw (Value.int IntKind.i64 0),Cell.zc,Cell.raw (Value.int IntKind.i64 0),Cell.zc],Sh.struct [(0,1,9),(1,4,33)]⟩:=by kernel_rfl
attribute [go_sem] m55
theorem w58 {k:TI->OR}:zcp prog 58 k=k ⟨1,24,[Cell.zc],Sh.slice 159 2 16 none⟩:=vq3 (by kernel_rfl)
theorem m58:mkTI prog 58=some ⟨1,24,[Cell.zc],Sh.slice 159 2 16 none⟩:=by kernel_rfl
attribute [go_sem ↓] w58
attribute [go_sem] m58
theorem m60:mkTI prog 60=some ⟨3,56,[Cell.raw (Value.string ⟨⟨[]⟩⟩),Cell.raw (Value.string ⟨⟨[]⟩⟩),Cell.zc],Sh.struct [(0,1,9),(1,1,9),(2,1,58)]⟩:=by kernel_rfl
attribute [go_sem] m60
theorem z60:vnl prog 60=some (SV.agg [HC.dat (Cell.raw (Value.string ⟨⟨[]⟩⟩)),HC.dat (Cell.raw (Value.string ⟨⟨[]⟩⟩)),HC.dat Cell.zc]):=by kernel_rfl
attribute [go_sem] z60
theorem m76:mkTI prog 76=some ⟨1,8,[Cell.raw (Value.map none)],Sh.map 9 33⟩:=by kernel_rfl
attribute [go_sem] m76
theorem m77:mkTI prog 77=some ⟨1,8,[Cell.raw (Value.map none)],Sh.map 9 60⟩:=by kernel_rfl
attribute [go_sem] m77
theorem m79:mkTI prog 79=some ⟨2,16,[Cell.raw (Value.map none),Cell.raw (Value.map none)],Sh.struct [(0,1,76),(1,1,77)]⟩:=by kernel_rfl
attribute [go_sem] m79
theorem w84 {k:TI->OR}:zcp prog 84 k=k ⟨1,24,[Cell.zc],Sh.slice 88 2 24 none⟩:=vq3 (by kernel_rfl)
theorem m84:mkTI prog 84=some ⟨1,24,[Cell.zc],Sh.slice 88 2 24 none⟩:=by kernel_rfl
attribute [go_sem ↓] w84
attribute [go_sem] m84
theorem m88:mkTI prog 88=some ⟨2,24,[Cell.raw (Value.string ⟨⟨[]⟩⟩),Cell.raw (Value.int IntKind.i64 0)],Sh.struct [(0,1,9),(1,1,3)]⟩:=by kernel_rfl
attribute [go_sem] m88
theorem w100 {k:TI->OR}:zcp prog 100 k=k ⟨1,24,[Cell.zc],Sh.slice 35 6 72 none⟩:=vq3 (by kernel_rfl)
theorem m100:mkTI prog 100=some ⟨1,24,[Cell.zc],Sh.slice 35 6 72 none⟩:=by kernel_rfl
attribute [go_sem ↓] w100
attribute [go_sem] m100
theorem m159:mkTI prog 159=some ⟨2,16,[Cell.raw (Value.int IntKind.i64 0),Cell.raw (Value.int IntKind.i64 0)],Sh.struct [(0,1,3),(1,1,3)]⟩:=by kernel_rfl
attribute [go_sem] m159
theorem w166 {k:TI->OR}:zcp prog 166 k=k ⟨1,8,[Cell.raw (Value.int IntKind.u64 0)],Sh.int IntKind.u64⟩:=vq3 (by kernel_rfl)
theorem m166:mkTI prog 166=some ⟨1,8,[Cell.raw (Value.int IntKind.u64 0)],Sh.int IntKind.u64⟩:=by kernel_rfl
attribute [go_sem ↓] w166
attribute [go_sem] m166
theorem w167 {k:TI->OR}:zcp prog 167 k=k ⟨1,8,[Cell.raw (Value.int IntKind.u64 0)],Sh.int IntKind.u64⟩:=vq3 (by kernel_rfl)
attribute [go_sem ↓] w167
theorem u167:prog.underlying 167=some (TypeDesc.int IntKind.u64):=by kernel_rfl
attribute [go_sem] u167
theorem m220:mkTI prog 220=some ⟨1,8,[Cell.raw (Value.pointer none)],Sh.cell⟩:=by kernel_rfl
attribute [go_sem] m220
theorem wdg:v0w prog 220=some 223:=by kernel_rfl
attribute [go_sem] wdg
theorem u220:prog.underlying 220=some (TypeDesc.pointer 223):=by kernel_rfl
attribute [go_sem] u220
theorem m221:mkTI prog 221=some ⟨1,24,[Cell.zc],Sh.slice 5 1 1 (some IntKind.u8)⟩:=by kernel_rfl
attribute [go_sem] m221
theorem m223:mkTI prog 223=some ⟨2,32,[Cell.raw (Value.pointer none),Cell.zc],Sh.struct [(0,1,220),(1,1,221)]⟩:=by kernel_rfl
attribute [go_sem] m223
theorem v6z:v0w prog 235=some 5:=by kernel_rfl
attribute [go_sem] v6z
theorem u237:prog.underlying 237=some TypeDesc.unsafePointer:=by kernel_rfl
attribute [go_sem] u237
theorem v6m:prog.info? 223=some (yri prog 223):=by kernel_rfl
attribute [go_sem] v6m
theorem y74:((yri prog 223).size != 0)=true:=by kernel_rfl
attribute [go_sem] y74
theorem e0:vov prog 0=false:=by kernel_rfl
attribute [go_sem] e0
theorem e1:vov prog 1=false:=by kernel_rfl
attribute [go_sem] e1
theorem e2:vov prog 2=false:=by kernel_rfl
attribute [go_sem] e2
theorem e3:vov prog 3=false:=by kernel_rfl
attribute [go_sem] e3
theorem e4:vov prog 4=false:=by kernel_rfl
attribute [go_sem] e4
theorem e5:vov prog 5=false:=by kernel_rfl
attribute [go_sem] e5
theorem e6:vov prog 6=false:=by kernel_rfl
attribute [go_sem] e6
theorem e7:vov prog 7=false:=by kernel_rfl
attribute [go_sem] e7
theorem e9:vov prog 9=false:=by kernel_rfl
attribute [go_sem] e9
theorem e10:vov prog 10=false:=by kernel_rfl
attribute [go_sem] e10
theorem e11:vov prog 11=false:=by kernel_rfl
attribute [go_sem] e11
theorem e13:vov prog 13=false:=by kernel_rfl
attribute [go_sem] e13
theorem e15:vov prog 15=false:=by kernel_rfl
attribute [go_sem] e15
theorem e16:vov prog 16=false:=by kernel_rfl
attribute [go_sem] e16
theorem e17:vov prog 17=false:=by kernel_rfl
attribute [go_sem] e17
theorem e18:vov prog 18=false:=by kernel_rfl
attribute [go_sem] e18
theorem e22:vov prog 22=false:=by kernel_rfl
attribute [go_sem] e22
theorem e23:vov prog 23=false:=by kernel_rfl
attribute [go_sem] e23
theorem e25:vov prog 25=false:=by kernel_rfl
attribute [go_sem] e25
theorem e26:vov prog 26=false:=by kernel_rfl
attribute [go_sem] e26
theorem e28:vov prog 28=false:=by kernel_rfl
attribute [go_sem] e28
theorem e29:vov prog 29=false:=by kernel_rfl
attribute [go_sem] e29
theorem e30:vov prog 30=false:=by kernel_rfl
attribute [go_sem] e30
theorem e31:vov prog 31=false:=by kernel_rfl
attribute [go_sem] e31
theorem e32:vov prog 32=false:=by kernel_rfl
attribute [go_sem] e32
theorem e33:vov prog 33=false:=by kernel_rfl
attribute [go_sem] e33
theorem e34:vov prog 34=false:=by kernel_rfl
attribute [go_sem] e34
theorem e37:vov prog 37=false:=by kernel_rfl
attribute [go_sem] e37
theorem e38:vov prog 38=false:=by kernel_rfl
attribute [go_sem] e38
theorem e39:vov prog 39=false:=by kernel_rfl
attribute [go_sem] e39
theorem e40:vov prog 40=false:=by kernel_rfl
attribute [go_sem] e40
theorem e41:vov prog 41=false:=by kernel_rfl
attribute [go_sem] e41
theorem e42:vov prog 42=false:=by kernel_rfl
attribute [go_sem] e42
theorem e43:vov prog 43=false:=by kernel_rfl
attribute [go_sem] e43
theorem e44:vov prog 44=false:=by kernel_rfl
attribute [go_sem] e44
theorem e45:vov prog 45=false:=by kernel_rfl
attribute [go_sem] e45
theorem e46:vov prog 46=false:=by kernel_rfl
attribute [go_sem] e46
theorem e47:vov prog 47=false:=by kernel_rfl
attribute [go_sem] e47
theorem e52:vov prog 52=false:=by kernel_rfl
attribute [go_sem] e52
theorem e53:vov prog 53=false:=by kernel_rfl
attribute [go_sem] e53
theorem e54:vov prog 54=false:=by kernel_rfl
attribute [go_sem] e54
theorem e57:vov prog 57=false:=by kernel_rfl
attribute [go_sem] e57
theorem e58:vov prog 58=false:=by kernel_rfl
attribute [go_sem] e58
theorem e59:vov prog 59=false:=by kernel_rfl
attribute [go_sem] e59
theorem e60:vov prog 60=false:=by kernel_rfl
attribute [go_sem] e60
theorem e61:vov prog 61=false:=by kernel_rfl
attribute [go_sem] e61
theorem e62:vov prog 62=false:=by kernel_rfl
attribute [go_sem] e62
theorem e63:vov prog 63=false:=by kernel_rfl
attribute [go_sem] e63
theorem e64:vov prog 64=false:=by kernel_rfl
attribute [go_sem] e64
theorem e65:vov prog 65=false:=by kernel_rfl
attribute [go_sem] e65
theorem e66:vov prog 66=false:=by kernel_rfl
attribute [go_sem] e66
theorem e67:vov prog 67=false:=by kernel_rfl
attribute [go_sem] e67
theorem e68:vov prog 68=false:=by kernel_rfl
attribute [go_sem] e68
theorem e69:vov prog 69=false:=by kernel_rfl
attribute [go_sem] e69
theorem e70:vov prog 70=false:=by kernel_rfl
attribute [go_sem] e70
theorem e71:vov prog 71=false:=by kernel_rfl
attribute [go_sem] e71
theorem e72:vov prog 72=false:=by kernel_rfl
attribute [go_sem] e72
theorem e73:vov prog 73=false:=by kernel_rfl
attribute [go_sem] e73
theorem e81:vov prog 81=false:=by kernel_rfl
attribute [go_sem] e81
theorem e82:vov prog 82=false:=by kernel_rfl
attribute [go_sem] e82
theorem e83:vov prog 83=false:=by kernel_rfl
attribute [go_sem] e83
theorem e84:vov prog 84=false:=by kernel_rfl
attribute [go_sem] e84
theorem e85:vov prog 85=false:=by kernel_rfl
attribute [go_sem] e85
theorem e86:vov prog 86=false:=by kernel_rfl
attribute [go_sem] e86
theorem e87:vov prog 87=false:=by kernel_rfl
attribute [go_sem] e87
theorem e88:vov prog 88=false:=by kernel_rfl
attribute [go_sem] e88
theorem e89:vov prog 89=false:=by kernel_rfl
attribute [go_sem] e89
theorem e90:vov prog 90=false:=by kernel_rfl
attribute [go_sem] e90
theorem e92:vov prog 92=false:=by kernel_rfl
attribute [go_sem] e92
theorem e93:vov prog 93=false:=by kernel_rfl
attribute [go_sem] e93
theorem e95:vov prog 95=false:=by kernel_rfl
attribute [go_sem] e95
theorem e102:vov prog 102=false:=by kernel_rfl
attribute [go_sem] e102
theorem e116:vov prog 116=false:=by kernel_rfl
attribute [go_sem] e116
theorem e117:vov prog 117=false:=by kernel_rfl
attribute [go_sem] e117
theorem e120:vov prog 120=false:=by kernel_rfl
attribute [go_sem] e120
theorem e121:vov prog 121=false:=by kernel_rfl
attribute [go_sem] e121
theorem e122:vov prog 122=false:=by kernel_rfl
attribute [go_sem] e122
theorem e124:vov prog 124=false:=by kernel_rfl
attribute [go_sem] e124
theorem e126:vov prog 126=false:=by kernel_rfl
attribute [go_sem] e126
theorem e127:vov prog 127=false:=by kernel_rfl
attribute [go_sem] e127
theorem e128:vov prog 128=false:=by kernel_rfl
attribute [go_sem] e128
theorem e129:vov prog 129=false:=by kernel_rfl
attribute [go_sem] e129
theorem e130:vov prog 130=false:=by kernel_rfl
attribute [go_sem] e130
theorem e135:vov prog 135=false:=by kernel_rfl
attribute [go_sem] e135
theorem e136:vov prog 136=false:=by kernel_rfl
attribute [go_sem] e136
theorem e137:vov prog 137=false:=by kernel_rfl
attribute [go_sem] e137
theorem e144:vov prog 144=false:=by kernel_rfl
attribute [go_sem] e144
theorem e145:vov prog 145=false:=by kernel_rfl
attribute [go_sem] e145
theorem e146:vov prog 146=false:=by kernel_rfl
attribute [go_sem] e146
theorem e153:vov prog 153=false:=by kernel_rfl
attribute [go_sem] e153
theorem e154:vov prog 154=false:=by kernel_rfl
attribute [go_sem] e154
theorem e163:vov prog 163=false:=by kernel_rfl
attribute [go_sem] e163
theorem e171:vov prog 171=false:=by kernel_rfl
attribute [go_sem] e171
theorem e173:vov prog 173=false:=by kernel_rfl
attribute [go_sem] e173
theorem e182:vov prog 182=false:=by kernel_rfl
attribute [go_sem] e182
theorem e187:vov prog 187=false:=by kernel_rfl
attribute [go_sem] e187
theorem e190:vov prog 190=false:=by kernel_rfl
attribute [go_sem] e190
theorem e210:vov prog 210=false:=by kernel_rfl
attribute [go_sem] e210
theorem e211:vov prog 211=false:=by kernel_rfl
attribute [go_sem] e211
theorem e213:vov prog 213=false:=by kernel_rfl
attribute [go_sem] e213
theorem e214:vov prog 214=false:=by kernel_rfl
attribute [go_sem] e214
theorem e215:vov prog 215=false:=by kernel_rfl
attribute [go_sem] e215
theorem e227:vov prog 227=false:=by kernel_rfl
attribute [go_sem] e227
theorem e229:vov prog 229=true:=by kernel_rfl
attribute [go_sem] e229
theorem mixed:prog.follows .mixedOrders=true:=by kernel_rfl
theorem v5a {k:Bool->Prop}:x1b prog k=k true:=propext ⟨fun h=>h.2,fun h=>⟨mixed,h⟩⟩
theorem yqk {k:Bool->Prop}:zsw prog k=k true:=propext ⟨fun h=>h.2,fun h=>⟨mixed,h⟩⟩
attribute [go_sem] v5a yqk
end Go.Slot.T
