/- The proof, part Y27: Ib. -/
import Derived.Test.YtjhbbadljohadaaGreatDoorY26
namespace Go.Hp
open Go Go.RowKit Go.Slot
variable {P:Program} {Γ:List (Nat×List Cell)} {e:List SB} {G:List (Nat×List GhH)}
def chS (a0 a1 a2 a3 a4 a5 a6 a7 a8 a9 a10 a11 a12 a13 a14 a15:SV) (r:List SV):List SV:=a0::a1::a2::a3::a4::a5::a6::a7::a8::a9::a10::a11::a12::a13::a14::a15::r
def zdx:List SV->List SV
 | a0::a1::a2::a3::a4::a5::a6::a7::a8::a9::a10::a11::a12::a13::a14::a15::r=>chS a0 a1 a2 a3 a4 a5 a6 a7 a8 a9 a10 a11 a12 a13 a14 a15 (zdx r)
 | l=>l
theorem zkx:∀ l:List SV,zdx l=l
 | []=>rfl
 | [a0]=>rfl
 | [a0,a1]=>rfl
 | [a0,a1,a2]=>rfl
 | [a0,a1,a2,a3]=>rfl
 | [a0,a1,a2,a3,a4]=>rfl
 | [a0,a1,a2,a3,a4,a5]=>rfl
 | [a0,a1,a2,a3,a4,a5,a6]=>rfl
 | [a0,a1,a2,a3,a4,a5,a6,a7]=>rfl
 | [a0,a1,a2,a3,a4,a5,a6,a7,a8]=>rfl
 | [a0,a1,a2,a3,a4,a5,a6,a7,a8,a9]=>rfl
 | [a0,a1,a2,a3,a4,a5,a6,a7,a8,a9,a10]=>rfl
 | [a0,a1,a2,a3,a4,a5,a6,a7,a8,a9,a10,a11]=>rfl
 | [a0,a1,a2,a3,a4,a5,a6,a7,a8,a9,a10,a11,a12]=>rfl
 | [a0,a1,a2,a3,a4,a5,a6,a7,a8,a9,a10,a11,a12,a13]=>rfl
 | [a0,a1,a2,a3,a4,a5,a6,a7,a8,a9,a10,a11,a12,a13,a14]=>rfl
 | a0::a1::a2::a3::a4::a5::a6::a7::a8::a9::a10::a11::a12::a13::a14::a15::r=>by
  show chS a0 a1 a2 a3 a4 a5 a6 a7 a8 a9 a10 a11 a12 a13 a14 a15 (zdx r)=_
  rw [zkx r];rfl
def endD (res:AV):Option (AV×List Nat)->Prop
 | some (av,_)=>RLe av res
 | none=>False
def endR (η:List SB) (res:AV):Option SV->Prop
 | some x=>endD res (zdt η x)
 | none=>False
theorem z54 {η:List SB} {res:AV} {o:Option SV} (h:endR η res o):∃ x av bs,o=some x/\zdt η x=some (av,bs)/\RLe av res:=by
 cases o with
 | none=>exact h.elim
 | some x=>
  have h:endD res (zdt η x):=h
  unfold endD at h
  split at h
  · rename_i av bs hd;exact ⟨x,av,bs,rfl,hd,h⟩
  · exact h.elim
def yk9 (P:Program) (rs:List ResultVar) (res:AV):Exit->Bool->List SV->List SB->Prop
 | .ret,_,σ,η | .normal,_,σ,η=>endR η res (zhf P σ η rs)
 | _,_,_,_=>False
theorem CallsD.run (G:List (Nat×List GhH)) {f:FuncId} {fn:Func} {c:Code} {args:List AV} {sl:List SV} {res:AV} (hf:P.funcs[f]? = some fn) (hb:fn.body=some c) (hname:(fn.name == "runtime.NumGoroutine")=false) (ha:zjr args=some sl)
 (h:RH Γ P [] G c true (yk9 P fn.results.toList res) (zdx (sl++List.replicate (fn.ntmps-sl.length) .undef)) []):CallsD Γ P f args res:=by
 rw [zkx] at h
 refine CallsD.of hf hb hname ha ((RH.sound c true _ _ _ h).mono ?_)
 intro ex σ η ⟨b,h⟩
 cases ex with
 | normal=>exact z54 h
 | ret=>exact z54 h
 | _=>exact h.elim
def endH (Γ:List (Nat×List Cell)) (e η:List SB) (η':List SB) (res:SV):Option SV->Prop
 | some x=>StH Γ e [x] η [res] η'
 | none=>False
def yfx (Γ:List (Nat×List Cell)) (P:Program) (e:List SB) (rs:List ResultVar) (η':List SB) (res:SV):Exit->Bool->List SV->List SB->Prop
 | .ret,_,σ,η | .normal,_,σ,η=>endH Γ e η η' res (zhf P σ η rs)
 | _,_,_,_=>False
theorem z4v {η η':List SB} {res:SV} {o:Option SV} (h:endH Γ e η η' res o):∃ x,o=some x/\StH Γ e [x] η [res] η':=by
 cases o with
 | none=>exact h.elim
 | some x=>exact ⟨x,rfl,h⟩
theorem zaa.run (G:List (Nat×List GhH)) {f:FuncId} {fn:Func} {c:Code} {η η':List SB} {args:List SV} {res:SV} (hf:P.funcs[f]? = some fn) (hb:fn.body=some c) (hname:(fn.name == "runtime.NumGoroutine")=false)
 (h:RH Γ P η G c true (yfx Γ P η fn.results.toList η' res) (zdx (args++List.replicate (fn.ntmps-args.length) .undef)) η):zaa Γ P f η args η' res:=by
 rw [zkx] at h
 refine zaa.of hf hb hname ((RH.sound c true _ _ _ h).mono ?_)
 intro ex σ η1 ⟨b,h⟩
 cases ex with
 | normal=>exact z4v h
 | ret=>exact z4v h
 | _=>exact h.elim
theorem CallsD.le {f:FuncId} {args:List AV} {res res':AV} (h:CallsD Γ P f args res) (hle:RLe res res'):CallsD Γ P f args res':=
 ⟨h.1,fun M w vs hM hg hr=>(h.2 M w vs hM hg hr).mono (fun _ _ ⟨v,h1,h2,h3,h4⟩=>⟨v,h1,h2,h3.le hle,fun hh=>h4 (hle.za6 hh)⟩)⟩
theorem zfu.le {c:Code} {Q:Exit->List SV->List SB->Prop} {σ σ':List SV} {η η':List SB} (h:StH Γ e σ η σ' η') (hc:zfu Γ P e c Q σ' η'):zfu Γ P e c Q σ η:=fun E ρ a w hE hR=>by
 obtain ⟨ρ',hR'⟩:=h E ρ a w hE hR
 exact hc E ρ' a w hE hR'
theorem zfu.fam {α : Type} {c : Code} {Q : Exit → List SV → List SB → Prop} (invS : α → List SV) (invH : α → List SB) (pre : α → Prop) (μ : α → Nat)
 (round:∀ x,pre x->zc4 Γ P e c (yhi (fun σ' η'=>∃ y,pre y/\μ y<μ x/\StH Γ e σ' η' (invS y) (invH y)) Q) (invS x) (invH x)):∀(n:Nat) (x:α),μ x<n->pre x->zfu Γ P e c Q (invS x) (invH x)
 | 0,_,h,_=>absurd h (Nat.not_lt_zero _)
 | n + 1, x, h, hx => zfu.round ((round x hx).mono (fun ex σ η hq => by
  cases ex with
  | normal=>
   obtain ⟨y,h1,h2,h3⟩:=hq
   exact zfu.le h3 (zfu.fam invS invH pre μ round n y (by omega) h1)
  | _=>exact hq))
theorem zcu {α:Type} {c:Code} {Q:Exit->Bool->List SV->List SB->Prop} {σ:List SV} {η:List SB} (keep:List Nat) (ch:α->List (Nat×SV)) (hp:α->List SB) (pre:α->Prop) (μ:α->Nat) (x0:α) (h0:pre x0)
 (hle:StH Γ e σ η (appL (ch x0) (zeo keep 0 σ)) (hp x0))
 (round:∀ x,pre x->RH Γ P e G c true (zi6 (hide (fun _ σ' η'=>∃ y,pre y/\μ y<μ x/\StH Γ e σ' η' (appL (ch y) (zeo keep 0 σ)) (hp y)) ()) Q) (zdx (appL (ch x) (zeo keep 0 σ))) (hp x)):zz6 Γ P e G c Q σ η:=
 zc4.le hle (zfu.loop (zfu.fam (fun x=>appL (ch x) (zeo keep 0 σ)) hp pre μ (fun x hx=>(RH.sound c true _ _ _ (zkx (appL (ch x) (zeo keep 0 σ))▸round x hx)).mono (fun ex σ' η' ⟨b,h⟩=>by
  cases ex with
  | normal=>exact h
  | _=>exact ⟨b,h⟩)) _ x0 (Nat.lt_succ_self _) h0))
def z88 (Γ:List (Nat×List Cell)) (P:Program) (e:List SB) (_G:List (Nat×List GhH)) (c:Code) (Q:Exit->Bool->List SV->List SB->Prop) (σ:List SV) (η:List SB):Prop:=zfu Γ P e c (outH Q) σ η
theorem zfj {c:Code} {Q:Exit->Bool->List SV->List SB->Prop} {σ:List SV} {η:List SB} (h:RH Γ P e G c true (zi6 (hide (fun _ σ' η'=>z88 Γ P e G c Q σ' η') ()) Q) σ η):z88 Γ P e G c Q σ η:=
 zfu.round ((RH.sound c true _ _ _ h).mono (fun ex σ' η' ⟨b,h⟩=>by
  cases ex with
  | normal=>exact h
  | _=>exact ⟨b,h⟩))
theorem zcs {c:Code} {Q:Exit->Bool->List SV->List SB->Prop} {σ:List SV} {η:List SB} (h:RH Γ P e G c true (zi6 (hide (fun _ σ' η'=>z88 Γ P e G c Q σ' η') ()) Q) σ η):zz6 Γ P e G c Q σ η:=zfu.loop (zfj h)
theorem zfi {α:Type} {x y:Code} {Q:Exit->Bool->List SV->List SB->Prop} {σ:List SV} {η:List SB} (keep:List Nat) (ch:α->List (Nat×SV)) (hp:α->List SB) (pre:α->Prop)
 (hx:RH Γ P e G x true (zi6 (hide (fun _ σ' η'=>∃ a,pre a/\StH Γ e σ' η' (appL (ch a) (zeo keep 0 σ)) (hp a)) ()) Q) σ η)
 (hy:∀ a,pre a->RH Γ P e G y true Q (zdx (appL (ch a) (zeo keep 0 σ))) (hp a)):z00 Γ P e G x y Q σ η:=
 zla ((RH.sound x true _ _ _ hx).mono (fun ex σ' η' ⟨b,h⟩=>by
  cases ex with
  | normal=>
   obtain ⟨a,h1,h2⟩:=h
   exact zc4.le h2 (RH.sound y true _ _ _ (zkx (appL (ch a) (zeo keep 0 σ))▸hy a h1))
  | _=>exact ⟨b,h⟩))
def nrmV (σ:List SV):List SV:=σ
theorem z7d {a:SV} {σ:List SV}:nrmV (a::σ)=a::σ:=_root_.id rfl
theorem yj6 {a0 a1 a2 a3 a4 a5 a6 a7 a8 a9 a10 a11 a12 a13 a14 a15:SV} {r:List SV}:nrmV (chS a0 a1 a2 a3 a4 a5 a6 a7 a8 a9 a10 a11 a12 a13 a14 a15 r)=chS a0 a1 a2 a3 a4 a5 a6 a7 a8 a9 a10 a11 a12 a13 a14 a15 r:=_root_.id rfl
def nrmH (l:List HR):List HR:=l
theorem yam:nrmH []=[]:=_root_.id rfl
theorem z3o {a:HR} {l:List HR}:nrmH (a::l)=a::l:=_root_.id rfl
def flF (c d:Bool) (A:Bool->Bool->Prop):Prop:=A c d
theorem ynb {A:Bool->Bool->Prop}:flF true true A=A true true:=_root_.id rfl
theorem ymc {A:Bool->Bool->Prop}:flF true false A=A true false:=_root_.id rfl
theorem z6n {c c' d d':Bool} {A:Bool->Bool->Prop} (h:c=c') (h2:d=d'):flF c d A=flF c' d' A:=by rw [h,h2]
theorem ylu {f:Bool->List SV->List SB->Prop} {u:U f} {b:Bool} {σ:List SV} {η:List SB}:hide f u b σ η=f b σ η:=_root_.id rfl
theorem ync {f:Bool->Bool->Prop} {u:U f} {b c:Bool}:hide f u b c=f b c:=_root_.id rfl
theorem yn1 {f:Bool->List SB->SV->Prop} {u:U f} {b:Bool} {η:List SB} {x:SV}:hide f u b η x=f b η x:=_root_.id rfl
theorem ymx {f:Bool->List (Nat×SB)->SV->Prop} {u:U f} {b:Bool} {η:List (Nat×SB)} {x:SV}:hide f u b η x=f b η x:=_root_.id rfl
theorem ymn {f:Bool->List Nat->List Nat->List (Nat×SV)->List (Nat×SB)->Prop} {u:U f} {b:Bool} {rd rh:List Nat} {x:List (Nat×SV)} {y:List (Nat×SB)}:hide f u b rd rh x y=f b rd rh x y:=_root_.id rfl
theorem z6h {rd rh:List Nat} {x:List (Nat×SV)} {y:List (Nat×SB)} {z:Option SB}:tick (HO.eff rd rh x y z)=HO.eff rd rh x y z:=_root_.id rfl
theorem zvu {f:FuncId} {l:List AV} {rd rh bs:List Nat}:tick (HO.callD f l rd rh bs)=HO.callD f l rd rh bs:=_root_.id rfl
theorem zwh {f:FuncId} {l:List SV} {rd:List Nat}:tick (HO.callH f l rd)=HO.callH f l rd:=_root_.id rfl
theorem z13 {r:Option SV} {z:SV} {ok:Bool} {rd rh:List Nat}:tick (HO.look r z ok rd rh)=HO.look r z ok rd rh:=_root_.id rfl
theorem zwg:tick Hp.GR.plain=Hp.GR.plain:=_root_.id rfl
theorem z1p {d:Nat} {c b:Bool}:tick (Hp.GR.when d c b)=Hp.GR.when d c b:=_root_.id rfl
theorem z1j {d:Nat}:tick (Hp.GR.skip d)=Hp.GR.skip d:=_root_.id rfl
theorem z84 {h:HC}:tick (SV.one h)=SV.one h:=_root_.id rfl
section
variable {Q:Exit->Bool->List SV->List SB->Prop} {σ:List SV} {η:List SB}
theorem yex:RH Γ P e G .skip true Q σ η=Q .normal true σ η:=_root_.id rfl
theorem z52 {id:Nat} {l:List Oper}:RH Γ P e G (.region id l.toArray false) true Q σ η=flF (tick (!(zky (zhe G id)))) (tick (!(zl1 (zhe G id)))) (hide (fun lit fn=>zmc Γ P lit fn l true l (nrmV (anyS (zhe G id) σ)) η (Q .normal)) ()):=_root_.id rfl
theorem z1h {id:Nat} {l:List Oper}:RH Γ P e G (.region id l.toArray true) true Q σ η=z4c P (hide (fun _=>flF (tick (!(zky (zhe G id)))) (tick (!(zl1 (zhe G id)))) (hide (fun lit fn=>zmf Γ P lit fn η.length l true l (nrmH []) (nrmV (anyS (zhe G id) σ)) (η++zsz (zhe G id)) (hide (fun b s t=>ybz η.length (Q .normal) b s t) ())) ())) ()):=_root_.id rfl
theorem yk7 {x y:Code}:RH Γ P e G (.seq x y) true Q σ η=seqF (tick (zoz G y)) (hide (fun _=>z00 Γ P e G x y Q σ η) ()) (hide (fun _=>RH Γ P e G x true (zi6 (hide (fun b σ η=>RH Γ P e G y b Q σ η) ()) Q) σ η) ()):=_root_.id rfl
theorem yir {c:Operand} {x y:Code}:RH Γ P e G (.cond c x y) true Q σ η=zoe c σ (hide (fun b=>RH Γ P e G x b Q σ η) ()) (hide (fun b=>RH Γ P e G y b Q σ η) ()) (tick (opdS Γ σ c)):=_root_.id rfl
theorem yd7 {id:Nat} {x:Code}:RH Γ P e G (.block id x) true Q σ η=RH Γ P e G x true (zf8 id Q) σ η:=_root_.id rfl
theorem yhz {x:Code}:RH Γ P e G (.loop x) true Q σ η=zz6 Γ P e G x Q σ η:=_root_.id rfl
theorem yfl {id:Nat}:RH Γ P e G (.exit id) true Q σ η=Q (.exit id) true σ η:=_root_.id rfl
theorem ym2:RH Γ P e G .ret true Q σ η=Q .ret true σ η:=_root_.id rfl
theorem z6t {lit fn:Bool} {ops:List Oper} {K:Bool->List SV->List SB->Prop}:zmc Γ P lit fn ops true [] σ η K=K true σ η:=_root_.id rfl
theorem z2b {lit fn:Bool} {ops:List Oper} {o:Oper} {r:List Oper} {K:Bool->List SV->List SB->Prop}:zmc Γ P lit fn ops true (o::r) σ η K=gdH Γ P lit fn (tick (zcd ops σ o)) o σ η true (hide (fun b σ η=>zmc Γ P lit fn ops b r (nrmV σ) η K) ()):=_root_.id rfl
theorem z77 {lit fn:Bool} {nb:Nat} {ops:List Oper} {acc:List HR} {K:Bool->List SV->List SB->Prop}:zmf Γ P lit fn nb ops true [] acc σ η K=z93 ops acc (hide (fun b=>K b σ η) ()):=_root_.id rfl
theorem z2l {lit fn:Bool} {nb:Nat} {ops:List Oper} {o:Oper} {r:List Oper} {acc:List HR} {K:Bool->List SV->List SB->Prop}:zmf Γ P lit fn nb ops true (o::r) acc σ η K=gdG Γ P lit fn nb (tick (zcd ops σ o)) o σ η true (hide (fun b rd rh x h=>zmf Γ P lit fn (nxtB nb h) ops b r (nrmH (acc++[⟨rd,rh,x,h⟩])) (nrmV (appL x σ)) (appL h η) K) ()):=_root_.id rfl
theorem yht {n:Nat} {k:Bool->List SV->List SB->Prop}:ybz n k true σ η=k true σ (znd n η):=_root_.id rfl
end
section
variable {next:Bool->List SV->List SB->Prop} {Q:Exit->Bool->List SV->List SB->Prop}
theorem zt7:zi6 next Q .normal=next:=_root_.id rfl
theorem zx0 {id:Nat}:zi6 next Q (.exit id)=Q (.exit id):=_root_.id rfl
theorem z0r:zi6 next Q .ret=Q .ret:=_root_.id rfl
theorem zng {id:Nat}:zf8 id Q .normal=Q .normal:=_root_.id rfl
def selH (c:Bool) (x y:Bool->List SV->List SB->Prop):Bool->List SV->List SB->Prop:=match c with
 | true=>x
 | false=>y
theorem zqb {id j:Nat}:zf8 id Q (.exit j)=selH (j==id) (Q .normal) (Q (.exit j)):=by
 have h:zf8 id Q (.exit j)=if j=id then Q .normal else Q (.exit j):=rfl
 rw [h]
 unfold selH
 by_cases he:j=id
 · rw [if_pos he,show (j==id)=true from by simp [he]]
 · rw [if_neg he,show (j==id)=false from by simp [he]]
theorem ykq {x y:Bool->List SV->List SB->Prop}:selH true x y=x:=rfl
theorem ym9 {x y:Bool->List SV->List SB->Prop}:selH false x y=y:=rfl
theorem z1w {c c':Bool} {x y:Bool->List SV->List SB->Prop} (h:c=c'):selH c x y=selH c' x y:=by rw [h]
theorem zsv {id:Nat}:zf8 id Q .ret=Q .ret:=_root_.id rfl
end
section
variable {o:Oper} {σ:List SV} {η:List SB} {b:Bool} {k:Bool->List SV->List SB->Prop}
theorem ygr {rd rh:List Nat} {x:List (Nat×SV)} {h:List (Nat×SB)}:doH Γ P (.eff rd rh x h none) o σ η b k=k b (appL x σ) (appL h η):=_root_.id rfl
theorem yf7 {rd rh:List Nat} {x:List (Nat×SV)} {h:List (Nat×SB)} {z:SB}:doH Γ P (.eff rd rh x h (some z)) o σ η b k=k b (appL x σ) (appL h η++[z]):=_root_.id rfl
theorem z86 {f:FuncId} {l:List AV} {rd rh bs:List Nat}:doH Γ P (.callD f l rd rh bs) o σ η b k=zz0 Γ P f l (appL (frzE η bs) η) (hide (fun b res=>resK o σ (appL (frzE η bs) η) b k (resS η.length res)) ()) (hide (fun b η2 res=>k b (appL (zah o res) σ) η2) ()):=_root_.id rfl
theorem z6r {f:FuncId} {l:List SV} {rd:List Nat}:doH Γ P (.callH f l rd) o σ η b k=zts Γ P f η l (hide (fun b η2 res=>k b (appL (zah o res) σ) η2) ()):=_root_.id rfl
theorem ybf {r:Option SV} {z:SV} {ok:Bool} {rd rh:List Nat}:doH Γ P (.look r z ok rd rh) o σ η b k=z3y o σ η b k (zkp ok r z):=_root_.id rfl
theorem z4u {y:SV}:resK o σ η b k (some (y,none))=k b (appL (zah o y) σ) η:=_root_.id rfl
theorem z5o {lit fn:Bool}:gdH Γ P lit fn .plain o σ η b k=doH Γ P (tick (opF P Γ lit fn σ η η.length o)) o σ η b k:=_root_.id rfl
theorem yap {lit fn:Bool} {d:Nat} {c b':Bool}:gdH Γ P lit fn (.when d c b') o σ η b k=zcq c b' (hide (fun b=>doH Γ P (tick (opF P Γ lit fn σ η η.length o)) o σ η b k) ()) (hide (fun b=>z56 o σ η b k) ()):=_root_.id rfl
theorem z8x {lit fn:Bool} {d:Nat}:gdH Γ P lit fn (.skip d) o σ η b k=z56 o σ η b k:=_root_.id rfl
end
section
variable {o:Oper} {σ:List SV} {η:List SB} {nb:Nat} {b:Bool} {k:Bool->List Nat->List Nat->List (Nat×SV)->List (Nat×SB)->Prop}
theorem yjs {rd rh:List Nat} {x:List (Nat×SV)} {h:List (Nat×SB)}:doG Γ P (.eff rd rh x h none) o σ η nb b k=k b rd rh x h:=_root_.id rfl
theorem yfz {rd rh:List Nat} {x:List (Nat×SV)} {h:List (Nat×SB)} {z:SB}:doG Γ P (.eff rd rh x h (some z)) o σ η nb b k=(zgb η nb=true/\k b rd (nb::rh) x (h++[(nb,z)])):=_root_.id rfl
theorem z8q {f:FuncId} {l:List AV} {rd rh bs:List Nat}:doG Γ P (.callD f l rd rh bs) o σ η nb b k=ye7 Γ P f l (hide (fun b res=>resG o σ η nb rd rh bs b k (resS nb res)) ()):=_root_.id rfl
theorem z5r {f:FuncId} {l:List SV} {rd:List Nat}:doG Γ P (.callH f l rd) o σ η nb b k=z6i Γ P f η l (hide (fun b heff res=>k b rd (List.range η.length) (zah o res) heff) ()):=_root_.id rfl
theorem z6p {rd rh bs:List Nat} {y:SV}:resG o σ η nb rd rh bs b k (some (y,none))=k b rd (rh++bs) (zah o y) (frzE η bs):=_root_.id rfl
theorem yo5 {d:Nat} {rd rh:List Nat} {x:List (Nat×SV)} {h:List (Nat×SB)}:onG d k b rd rh x h=k b (d::rd) rh x h:=_root_.id rfl
theorem z7g {lit fn:Bool}:gdG Γ P lit fn nb .plain o σ η b k=doG Γ P (tick (opF P Γ lit fn σ η nb o)) o σ η nb b k:=_root_.id rfl
theorem yby {lit fn:Bool} {d:Nat} {c b':Bool}:gdG Γ P lit fn nb (.when d c b') o σ η b k=zcq c b' (hide (fun b=>doG Γ P (tick (opF P Γ lit fn σ η nb o)) o σ η nb b (hide (fun b rd rh x h=>onG d k b rd rh x h) ())) ()) (hide (fun b=>z7f d o b k) ()):=_root_.id rfl
theorem ycf {lit fn:Bool} {d:Nat}:gdG Γ P lit fn nb (.skip d) o σ η b k=z7f d o b k:=_root_.id rfl
end
theorem zws {c:Operand} {σ:List SV} {X Y:Bool->Prop} {p:Bool}:zoe c σ X Y (.one (.dat (.raw (.bool p))))=zk6 p X Y:=_root_.id rfl
theorem z7u {rs:List ResultVar} {res:AV} {b:Bool} {σ:List SV} {η:List SB}:yk9 P rs res .ret b σ η=endR η res (tick (zhf P σ η rs)):=_root_.id rfl
theorem z3x {η:List SB} {res:AV} {x:SV}:endR η res (some x)=endD res (tick (zdt η x)):=_root_.id rfl
theorem z6m {res av:AV} {bs:List Nat}:endD res (some (av,bs))=RLe av res:=_root_.id rfl
theorem z8b {rs:List ResultVar} {res:SV} {b:Bool} {σ:List SV} {η η':List SB}:yfx Γ P e rs η' res .ret b σ η=endH Γ e η η' res (tick (zhf P σ η rs)):=_root_.id rfl
theorem zu3 {rs:List ResultVar} {res:SV} {b:Bool} {σ:List SV} {η η':List SB}:yfx Γ P e rs η' res .normal b σ η=endH Γ e η η' res (tick (zhf P σ η rs)):=_root_.id rfl
theorem z8k {res x:SV} {η η':List SB}:endH Γ e η η' res (some x)=StH Γ e [x] η [res] η':=_root_.id rfl
theorem z5z {α:Type} {x:α}:tick (some x)=some x:=_root_.id rfl
theorem z2o {η η':List SB} {res:AV} {o o':Option SV} (h:o=o') (hη:η=η'):endR η res o=endR η' res o':=by rw [h,hη]
theorem z22 {res:AV} {o o':Option (AV×List Nat)} (h:o=o'):endD res o=endD res o':=by rw [h]
theorem z05 {e η η' η1:List SB} {res:SV} {o o':Option SV} (h:o=o') (hη:η=η1):endH Γ e η η' res o=endH Γ e η1 η' res o':=by rw [h,hη]
theorem z6k {e η η' η1 η1':List SB} {σ σ1 σ' σ1':List SV} (h:σ=σ1) (hη:η=η1) (h':σ'=σ1') (hη':η'=η1'):StH Γ e σ η σ' η'=StH Γ e σ1 η1 σ1' η1':=by rw [h,hη,h',hη']
section
variable {o o':Oper} {σ σ':List SV} {η η':List SB} {b:Bool}
theorem z5m {k:Bool->List SV->List SB->Prop} {x x':HO} (h:x=x'):doH Γ P x o σ η b k=doH Γ P x' o σ η b k:=by rw [h]
theorem z8s {nb:Nat} {k:Bool->List Nat->List Nat->List (Nat×SV)->List (Nat×SB)->Prop} {x x':HO} (h:x=x'):doG Γ P x o σ η nb b k=doG Γ P x' o σ η nb b k:=by rw [h]
theorem z1g {nb:Nat} {rd rh bs:List Nat} {k:Bool->List Nat->List Nat->List (Nat×SV)->List (Nat×SB)->Prop} {r r':Option (SV×Option SB)} (h:r=r'):resG o σ η nb rd rh bs b k r=resG o σ η nb rd rh bs b k r':=by rw [h]
theorem zv4 {c:Operand} {X Y:Bool->Prop} {v v':SV} (h:v=v'):zoe c σ X Y v=zoe c σ X Y v':=by rw [h]
theorem zwe {lit fn:Bool} {ops l:List Oper} {K:Bool->List SV->List SB->Prop} (h:σ=σ') (hη:η=η'):zmc Γ P lit fn ops b l σ η K=zmc Γ P lit fn ops b l σ' η' K:=by rw [h,hη]
theorem zxg {lit fn:Bool} {nb nb':Nat} {ops l:List Oper} {acc acc':List HR} {K:Bool->List SV->List SB->Prop} (hn:nb=nb') (ha:acc=acc') (h:σ=σ') (hη:η=η'):zmf Γ P lit fn nb ops b l acc σ η K=zmf Γ P lit fn nb' ops b l acc' σ' η' K:=by rw [h,ha,hη,hn]
end
def yku (P:Program) (t:TypeId):TypeInfo:=(P.info? t).getD default
theorem yc0 {a:SV} {σ:List SV}:gtS (a::σ) 0=a:=rfl
theorem z99 {a:SV} {σ:List SV} {n:Nat}:gtS (a::σ) (n+1)=gtS σ n:=rfl
theorem yf8 {a:SB} {η:List SB}:gB (a::η) 0=a:=rfl
theorem yg6 {a:SB} {η:List SB} {n:Nat}:gB (a::η) (n+1)=gB η n:=rfl
theorem z5i {l:List SV}:appL [] l=l:=rfl
theorem z1m {p:Nat×SV} {r:List (Nat×SV)} {l:List SV}:appL (p::r) l=appL r (l.set p.1 p.2):=rfl
theorem z61 {l:List SB}:appL [] l=l:=rfl
theorem z1q {p:Nat×SB} {r:List (Nat×SB)} {l:List SB}:appL (p::r) l=appL r (l.set p.1 p.2):=rfl
theorem z9k {σ:List SV} {t:Nat}:opdS Γ σ (.tmp t)=gtS σ t:=rfl
theorem z1z {σ:List SV} {v:Value}:opdS Γ σ (.const v)=zk1 v:=rfl
theorem z6u {σ:List SV} {f:FuncId}:opdS Γ σ (.func f)=.one (.dat (.raw (.func (.func f) #[] #[]))):=rfl
theorem zxn {σ:List SV} {g:Nat}:opdS Γ σ (.global g)=zke Γ g:=rfl
theorem yoc {σ:List SV} {d:Nat}:nh (σ.map vw) d=decide (d<σ.length):=by
 unfold nh
 by_cases h:d<σ.length
 · rw [List.getElem?_map,List.getElem?_eq_getElem h,decide_eq_true h]
   simp only [Option.map_some,zq0,Bool.not_false]
 · rw [List.getElem?_map,List.getElem?_eq_none (by omega),decide_eq_false h]
   rfl
section
variable {a0 a1 a2 a3 a4 a5 a6 a7 a8 a9 a10 a11 a12 a13 a14 a15 x:SV} {r:List SV} {n:Nat}
theorem yij:gtS (chS a0 a1 a2 a3 a4 a5 a6 a7 a8 a9 a10 a11 a12 a13 a14 a15 r) 0=a0:=rfl
theorem z8w:(chS a0 a1 a2 a3 a4 a5 a6 a7 a8 a9 a10 a11 a12 a13 a14 a15 r).set 0 x=chS x a1 a2 a3 a4 a5 a6 a7 a8 a9 a10 a11 a12 a13 a14 a15 r:=rfl
theorem yjv:gtS (chS a0 a1 a2 a3 a4 a5 a6 a7 a8 a9 a10 a11 a12 a13 a14 a15 r) 1=a1:=rfl
theorem ycd:(chS a0 a1 a2 a3 a4 a5 a6 a7 a8 a9 a10 a11 a12 a13 a14 a15 r).set 1 x=chS a0 x a2 a3 a4 a5 a6 a7 a8 a9 a10 a11 a12 a13 a14 a15 r:=rfl
theorem yii:gtS (chS a0 a1 a2 a3 a4 a5 a6 a7 a8 a9 a10 a11 a12 a13 a14 a15 r) 2=a2:=rfl
theorem z96:(chS a0 a1 a2 a3 a4 a5 a6 a7 a8 a9 a10 a11 a12 a13 a14 a15 r).set 2 x=chS a0 a1 x a3 a4 a5 a6 a7 a8 a9 a10 a11 a12 a13 a14 a15 r:=rfl
theorem yi9:gtS (chS a0 a1 a2 a3 a4 a5 a6 a7 a8 a9 a10 a11 a12 a13 a14 a15 r) 3=a3:=rfl
theorem ybg:(chS a0 a1 a2 a3 a4 a5 a6 a7 a8 a9 a10 a11 a12 a13 a14 a15 r).set 3 x=chS a0 a1 a2 x a4 a5 a6 a7 a8 a9 a10 a11 a12 a13 a14 a15 r:=rfl
theorem yiv:gtS (chS a0 a1 a2 a3 a4 a5 a6 a7 a8 a9 a10 a11 a12 a13 a14 a15 r) 4=a4:=rfl
theorem yb3:(chS a0 a1 a2 a3 a4 a5 a6 a7 a8 a9 a10 a11 a12 a13 a14 a15 r).set 4 x=chS a0 a1 a2 a3 x a5 a6 a7 a8 a9 a10 a11 a12 a13 a14 a15 r:=rfl
theorem yg1:gtS (chS a0 a1 a2 a3 a4 a5 a6 a7 a8 a9 a10 a11 a12 a13 a14 a15 r) 5=a5:=rfl
theorem yaz:(chS a0 a1 a2 a3 a4 a5 a6 a7 a8 a9 a10 a11 a12 a13 a14 a15 r).set 5 x=chS a0 a1 a2 a3 a4 x a6 a7 a8 a9 a10 a11 a12 a13 a14 a15 r:=rfl
theorem yjr:gtS (chS a0 a1 a2 a3 a4 a5 a6 a7 a8 a9 a10 a11 a12 a13 a14 a15 r) 6=a6:=rfl
theorem yd6:(chS a0 a1 a2 a3 a4 a5 a6 a7 a8 a9 a10 a11 a12 a13 a14 a15 r).set 6 x=chS a0 a1 a2 a3 a4 a5 x a7 a8 a9 a10 a11 a12 a13 a14 a15 r:=rfl
theorem ygg:gtS (chS a0 a1 a2 a3 a4 a5 a6 a7 a8 a9 a10 a11 a12 a13 a14 a15 r) 7=a7:=rfl
theorem yar:(chS a0 a1 a2 a3 a4 a5 a6 a7 a8 a9 a10 a11 a12 a13 a14 a15 r).set 7 x=chS a0 a1 a2 a3 a4 a5 a6 x a8 a9 a10 a11 a12 a13 a14 a15 r:=rfl
theorem yjt:gtS (chS a0 a1 a2 a3 a4 a5 a6 a7 a8 a9 a10 a11 a12 a13 a14 a15 r) 8=a8:=rfl
theorem ybu:(chS a0 a1 a2 a3 a4 a5 a6 a7 a8 a9 a10 a11 a12 a13 a14 a15 r).set 8 x=chS a0 a1 a2 a3 a4 a5 a6 a7 x a9 a10 a11 a12 a13 a14 a15 r:=rfl
theorem ygf:gtS (chS a0 a1 a2 a3 a4 a5 a6 a7 a8 a9 a10 a11 a12 a13 a14 a15 r) 9=a9:=rfl
theorem z9u:(chS a0 a1 a2 a3 a4 a5 a6 a7 a8 a9 a10 a11 a12 a13 a14 a15 r).set 9 x=chS a0 a1 a2 a3 a4 a5 a6 a7 a8 x a10 a11 a12 a13 a14 a15 r:=rfl
theorem yb1:gtS (chS a0 a1 a2 a3 a4 a5 a6 a7 a8 a9 a10 a11 a12 a13 a14 a15 r) 10=a10:=rfl
theorem z5k:(chS a0 a1 a2 a3 a4 a5 a6 a7 a8 a9 a10 a11 a12 a13 a14 a15 r).set 10 x=chS a0 a1 a2 a3 a4 a5 a6 a7 a8 a9 x a11 a12 a13 a14 a15 r:=rfl
theorem ycv:gtS (chS a0 a1 a2 a3 a4 a5 a6 a7 a8 a9 a10 a11 a12 a13 a14 a15 r) 11=a11:=rfl
theorem z3g:(chS a0 a1 a2 a3 a4 a5 a6 a7 a8 a9 a10 a11 a12 a13 a14 a15 r).set 11 x=chS a0 a1 a2 a3 a4 a5 a6 a7 a8 a9 a10 x a12 a13 a14 a15 r:=rfl
theorem z9p:gtS (chS a0 a1 a2 a3 a4 a5 a6 a7 a8 a9 a10 a11 a12 a13 a14 a15 r) 12=a12:=rfl
theorem z64:(chS a0 a1 a2 a3 a4 a5 a6 a7 a8 a9 a10 a11 a12 a13 a14 a15 r).set 12 x=chS a0 a1 a2 a3 a4 a5 a6 a7 a8 a9 a10 a11 x a13 a14 a15 r:=rfl
theorem z9n:gtS (chS a0 a1 a2 a3 a4 a5 a6 a7 a8 a9 a10 a11 a12 a13 a14 a15 r) 13=a13:=rfl
theorem z3j:(chS a0 a1 a2 a3 a4 a5 a6 a7 a8 a9 a10 a11 a12 a13 a14 a15 r).set 13 x=chS a0 a1 a2 a3 a4 a5 a6 a7 a8 a9 a10 a11 a12 x a14 a15 r:=rfl
theorem z97:gtS (chS a0 a1 a2 a3 a4 a5 a6 a7 a8 a9 a10 a11 a12 a13 a14 a15 r) 14=a14:=rfl
theorem z5q:(chS a0 a1 a2 a3 a4 a5 a6 a7 a8 a9 a10 a11 a12 a13 a14 a15 r).set 14 x=chS a0 a1 a2 a3 a4 a5 a6 a7 a8 a9 a10 a11 a12 a13 x a15 r:=rfl
theorem ya8:gtS (chS a0 a1 a2 a3 a4 a5 a6 a7 a8 a9 a10 a11 a12 a13 a14 a15 r) 15=a15:=rfl
theorem z7n:(chS a0 a1 a2 a3 a4 a5 a6 a7 a8 a9 a10 a11 a12 a13 a14 a15 r).set 15 x=chS a0 a1 a2 a3 a4 a5 a6 a7 a8 a9 a10 a11 a12 a13 a14 x r:=rfl
theorem yiq:gtS (chS a0 a1 a2 a3 a4 a5 a6 a7 a8 a9 a10 a11 a12 a13 a14 a15 r) (n+16)=gtS r n:=rfl
theorem ycl:(chS a0 a1 a2 a3 a4 a5 a6 a7 a8 a9 a10 a11 a12 a13 a14 a15 r).set (n+16) x=chS a0 a1 a2 a3 a4 a5 a6 a7 a8 a9 a10 a11 a12 a13 a14 a15 (r.set n x):=rfl
theorem z0k:(chS a0 a1 a2 a3 a4 a5 a6 a7 a8 a9 a10 a11 a12 a13 a14 a15 r).length=r.length+16:=rfl
theorem z12:zdx (a0::a1::a2::a3::a4::a5::a6::a7::a8::a9::a10::a11::a12::a13::a14::a15::r)=chS a0 a1 a2 a3 a4 a5 a6 a7 a8 a9 a10 a11 a12 a13 a14 a15 (zdx r):=rfl
theorem ycc:zdx (chS a0 a1 a2 a3 a4 a5 a6 a7 a8 a9 a10 a11 a12 a13 a14 a15 r)=chS a0 a1 a2 a3 a4 a5 a6 a7 a8 a9 a10 a11 a12 a13 a14 a15 (zdx r):=rfl
theorem yfi:zdx []=[]:=rfl
theorem yhh:zdx [a0]=[a0]:=rfl
theorem ygm:zdx [a0,a1]=[a0,a1]:=rfl
theorem ygd:zdx [a0,a1,a2]=[a0,a1,a2]:=rfl
theorem ygj:zdx [a0,a1,a2,a3]=[a0,a1,a2,a3]:=rfl
theorem yh5:zdx [a0,a1,a2,a3,a4]=[a0,a1,a2,a3,a4]:=rfl
theorem yio:zdx [a0,a1,a2,a3,a4,a5]=[a0,a1,a2,a3,a4,a5]:=rfl
theorem yjp:zdx [a0,a1,a2,a3,a4,a5,a6]=[a0,a1,a2,a3,a4,a5,a6]:=rfl
theorem yi5:zdx [a0,a1,a2,a3,a4,a5,a6,a7]=[a0,a1,a2,a3,a4,a5,a6,a7]:=rfl
theorem yga:zdx [a0,a1,a2,a3,a4,a5,a6,a7,a8]=[a0,a1,a2,a3,a4,a5,a6,a7,a8]:=rfl
theorem ycn:zdx [a0,a1,a2,a3,a4,a5,a6,a7,a8,a9]=[a0,a1,a2,a3,a4,a5,a6,a7,a8,a9]:=rfl
theorem ya1:zdx [a0,a1,a2,a3,a4,a5,a6,a7,a8,a9,a10]=[a0,a1,a2,a3,a4,a5,a6,a7,a8,a9,a10]:=rfl
theorem z9s:zdx [a0,a1,a2,a3,a4,a5,a6,a7,a8,a9,a10,a11]=[a0,a1,a2,a3,a4,a5,a6,a7,a8,a9,a10,a11]:=rfl
theorem yat:zdx [a0,a1,a2,a3,a4,a5,a6,a7,a8,a9,a10,a11,a12]=[a0,a1,a2,a3,a4,a5,a6,a7,a8,a9,a10,a11,a12]:=rfl
theorem ycm:zdx [a0,a1,a2,a3,a4,a5,a6,a7,a8,a9,a10,a11,a12,a13]=[a0,a1,a2,a3,a4,a5,a6,a7,a8,a9,a10,a11,a12,a13]:=rfl
theorem ya9:zdx [a0,a1,a2,a3,a4,a5,a6,a7,a8,a9,a10,a11,a12,a13,a14]=[a0,a1,a2,a3,a4,a5,a6,a7,a8,a9,a10,a11,a12,a13,a14]:=rfl
theorem z92 {ks:List Nat} {i:Nat}:zeo ks i (chS a0 a1 a2 a3 a4 a5 a6 a7 a8 a9 a10 a11 a12 a13 a14 a15 r)=zeo ks i (a0::a1::a2::a3::a4::a5::a6::a7::a8::a9::a10::a11::a12::a13::a14::a15::r):=rfl
end
attribute [go_sem] yij yjv yii yi9 yiv yg1 yjr ygg yjt ygf yb1 ycv z9p z9n z97 ya8 z8w ycd z96 ybg yb3 yaz yd6 yar ybu z9u z5k z3g z64 z3j z5q z7n yfi yhh ygm ygd ygj yh5 yio yjp yi5 yga ycn ya1 z9s yat ycm ya9 yiq ycl z0k z12 ycc z92
attribute [go_sem ↓] yex z52 z1h yk7 yir yd7 yhz yfl ym2
attribute [go_sem] z6t z2b z77 z2l yht z7d yj6 yam z3o
attribute [go_sem ↓] ylu ync yn1 ymx ymn
attribute [go_sem] z6h zvu zwh z13 z84 zwg z1p z1j
attribute [go_sem ↓] zt7 zx0 z0r zng zqb zsv
attribute [go_sem] ykq ym9 ynb ymc
attribute [go_sem] ygr yf7 z86 z6r ybf z4u z5o yap z8x z56 z3y
attribute [go_sem] yjs yfz z8q z5r z6p yo5 z7g yby ycf z7f yc6
attribute [go_sem] zws z7u z8b zu3 z3x z6m z8k z5z
attribute [congr] z5m z8s z1g zv4 zwe zxg z6n z1w z2o z22 z05 z6k
attribute [go_sem] yc0 z99 yf8 yg6 z5i z1m z61 z1q z9k z1z z6u zxn yoc
attribute [go_sem] zhe zj5 zky zl1 anyS zoz zeo zsz zuv nxtB
attribute [go_sem] zcd opF z2y z29 fBin fUn yco z7j zj0 zgj zui zp1 fLen z95 znp fNil z5b z3w fBox opH opP z59 zen zen.callG opH.appO oldO oldR av2 vO nO isNil zc0
attribute [go_sem] zuy rawS zvw zjk zfq TI.many seeH zn0 zd6 zd4 zg1 ptrH lenH natH zuz zyc argD zi0 zdm zqs zjr resS zd3 zah zk1 zke frzB frzE zdp subC zjp zgt appT dstH srcH z66
attribute [go_sem] zq8 updM kEq zjo keyV zkp zuf z6g zfx zot zlw zhf zdt znd zgb zxp oB oN z15 intS ckH ylb z8l yd2 zkk vw vwO vwG datL datH
end Go.Hp
