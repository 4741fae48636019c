/- The proof, part Z14: Ib, Mx. -/
import Derived.Test.YtkbkjjahlafhoaaGreatDoorZ13
import Derived.Test.YtkbkjjahlafhoaaGreatDoorZ3
namespace Go.Hp
open Go Go.RowKit Go.Slot
variable {P:Program} {Γ:List (Nat×List Cell)} {e:List SB} {G:List (Nat×List GhH)}
def chS (a0 a1 a2 a3 a4 a5 a6 a7 a8 a9 a10 a11 a12 a13 a14 a15:SV) (r:List SV):List SV:=a0::a1::a2::a3::a4::a5::a6::a7::a8::a9::a10::a11::a12::a13::a14::a15::r
def x9c:List SV->List SV
 | a0::a1::a2::a3::a4::a5::a6::a7::a8::a9::a10::a11::a12::a13::a14::a15::r=>chS a0 a1 a2 a3 a4 a5 a6 a7 a8 a9 a10 a11 a12 a13 a14 a15 (x9c r)
 | l=>l
theorem wyl:∀ l:List SV,x9c l=l
 | []=>rfl
 | [a0]=>rfl
 | [a0,a1]=>rfl
 | [a0,a1,a2]=>rfl
 | [a0,a1,a2,a3]=>rfl
 | [a0,a1,a2,a3,a4]=>rfl
 | [a0,a1,a2,a3,a4,a5]=>rfl
 | [a0,a1,a2,a3,a4,a5,a6]=>rfl
 | [a0,a1,a2,a3,a4,a5,a6,a7]=>rfl
 | [a0,a1,a2,a3,a4,a5,a6,a7,a8]=>rfl
 | [a0,a1,a2,a3,a4,a5,a6,a7,a8,a9]=>rfl
 | [a0,a1,a2,a3,a4,a5,a6,a7,a8,a9,a10]=>rfl
 | [a0,a1,a2,a3,a4,a5,a6,a7,a8,a9,a10,a11]=>rfl
 | [a0,a1,a2,a3,a4,a5,a6,a7,a8,a9,a10,a11,a12]=>rfl
 | [a0,a1,a2,a3,a4,a5,a6,a7,a8,a9,a10,a11,a12,a13]=>rfl
 | [a0,a1,a2,a3,a4,a5,a6,a7,a8,a9,a10,a11,a12,a13,a14]=>rfl
 | a0::a1::a2::a3::a4::a5::a6::a7::a8::a9::a10::a11::a12::a13::a14::a15::r=>by
  show chS a0 a1 a2 a3 a4 a5 a6 a7 a8 a9 a10 a11 a12 a13 a14 a15 (x9c r)=_;rw [wyl r];rfl
def endD (res:AV):Option (AV×List Nat)->Prop
 | some (av,_)=>RLe av res
 | none=>False
def endR (η:List SB) (res:AV):Option SV->Prop
 | some x=>endD res (wrv η x)
 | none=>False
theorem wap {η:List SB} {res:AV} {o:Option SV} (h:endR η res o):∃ x av bs,o=some x/\wrv η x=some (av,bs)/\RLe av res:=by
 cases o with
 | none=>exact h.elim
 | some x=>
  have h:endD res (wrv η x):=h;unfold endD at h;split at h
  . rename_i av bs hd;exact ⟨x,av,bs,rfl,hd,h⟩
  . exact h.elim
def yhq (P:Program) (rs:List ResultVar) (res:AV):Exit->Bool->List SV->List SB->Prop
 | .ret,_,J,η | .normal,_,J,η=>endR η res (yms P J η rs)
 | _,_,_,_=>False
theorem CallsD.run (G:List (Nat×List GhH)) {f:FuncId} {fn:Func} {c:Code} {args:List AV} {sl:List SV} {res:AV} (hf:P.funcs[f]? = some fn) (hb:fn.body=some c) (hname:(fn.name == "runtime.NumGoroutine")=false) (ha:x3n args=some sl)
 (h:RH Γ P [] G c true (yhq P fn.results.toList res) (x9c (sl++List.replicate (fn.ntmps-sl.length) .undef)) []):CallsD Γ P f args res:=by
 rw [wyl] at h;refine CallsD.of hf hb hname ha ((RH.sound c true _ _ _ h).mono ?_);intro ex J η ⟨b,h⟩
 cases ex with
 | normal=>exact wap h
 | ret=>exact wap h
 | _=>exact h.elim
def endH (Γ:List (Nat×List Cell)) (e η:List SB) (η':List SB) (res:SV):Option SV->Prop
 | some x=>StH Γ e [x] η [res] η'
 | none=>False
def v49 (Γ:List (Nat×List Cell)) (P:Program) (e:List SB) (rs:List ResultVar) (η':List SB) (res:SV):Exit->Bool->List SV->List SB->Prop
 | .ret,_,J,η | .normal,_,J,η=>endH Γ e η η' res (yms P J η rs)
 | _,_,_,_=>False
theorem y1n {η η':List SB} {res:SV} {o:Option SV} (h:endH Γ e η η' res o):∃ x,o=some x/\StH Γ e [x] η [res] η':=by
 cases o with
 | none=>exact h.elim
 | some x=>exact ⟨x,rfl,h⟩
theorem z00.run (G:List (Nat×List GhH)) {f:FuncId} {fn:Func} {c:Code} {η η':List SB} {args:List SV} {res:SV} (hf:P.funcs[f]? = some fn) (hb:fn.body=some c) (hname:(fn.name == "runtime.NumGoroutine")=false)
 (h:RH Γ P η G c true (v49 Γ P η fn.results.toList η' res) (x9c (args++List.replicate (fn.ntmps-args.length) .undef)) η):z00 Γ P f η args η' res:=by
 rw [wyl] at h;refine z00.of hf hb hname ((RH.sound c true _ _ _ h).mono ?_);intro ex J η1 ⟨b,h⟩
 cases ex with
 | normal=>exact y1n h
 | ret=>exact y1n h
 | _=>exact h.elim
theorem wux.le {c:Code} {Q:Exit->List SV->List SB->Prop} {J J':List SV} {η η':List SB} (h:StH Γ e J η J' η') (hc:wux Γ P e c Q J' η'):wux Γ P e c Q J η:=fun E ρ a w hE hR=>by
 obtain ⟨ρ',hR'⟩:=h E ρ a w hE hR;exact hc E ρ' a w hE hR'
theorem wux.fam {α : Type} {c : Code} {Q : Exit → List SV → List SB → Prop} (invS : α → List SV) (invH : α → List SB) (pre : α → Prop) (μ : α → Nat)
 (round:∀ x,pre x->w6b Γ P e c (xaa (fun J' η'=>∃ y,pre y/\μ y<μ x/\StH Γ e J' η' (invS y) (invH y)) Q) (invS x) (invH x)):∀(n:Nat) (x:α),μ x<n->pre x->wux Γ P e c Q (invS x) (invH x)
 | 0,_,h,_=>absurd h (Nat.not_lt_zero _)
 | n + 1, x, h, hx => wux.round ((round x hx).mono (fun ex J η hq => by
  cases ex with
  | normal=>
   obtain ⟨y,h1,h2,h3⟩:=hq;exact wux.le h3 (wux.fam invS invH pre μ round n y (by omega) h1)
  | _=>exact hq))
theorem vi3 {α:Type} {c:Code} {Q:Exit->Bool->List SV->List SB->Prop} {J:List SV} {η:List SB} (keep:List Nat) (ch:α->List (Nat×SV)) (hp:α->List SB) (pre:α->Prop) (μ:α->Nat) (x0:α) (h0:pre x0)
 (hle:StH Γ e J η (appL (ch x0) (v4u keep 0 J)) (hp x0))
 (round:∀ x,pre x->RH Γ P e G c true (wdi (hide (fun _ J' η'=>∃ y,pre y/\μ y<μ x/\StH Γ e J' η' (appL (ch y) (v4u keep 0 J)) (hp y)) ()) Q) (x9c (appL (ch x) (v4u keep 0 J))) (hp x)):wzx Γ P e G c Q J η:=
 w6b.le hle (wux.loop (wux.fam (fun x=>appL (ch x) (v4u keep 0 J)) hp pre μ (fun x hx=>(RH.sound c true _ _ _ (wyl (appL (ch x) (v4u keep 0 J))▸round x hx)).mono (fun ex J' η' ⟨b,h⟩=>by
  cases ex with
  | normal=>exact h
  | _=>exact ⟨b,h⟩)) _ x0 (Nat.lt_succ_self _) h0))
def x3i (Γ:List (Nat×List Cell)) (P:Program) (e:List SB) (_G:List (Nat×List GhH)) (c:Code) (Q:Exit->Bool->List SV->List SB->Prop) (J:List SV) (η:List SB):Prop:=wux Γ P e c (outH Q) J η
theorem yxz {c:Code} {Q:Exit->Bool->List SV->List SB->Prop} {J:List SV} {η:List SB} (h:RH Γ P e G c true (wdi (hide (fun _ J' η'=>x3i Γ P e G c Q J' η') ()) Q) J η):x3i Γ P e G c Q J η:=
 wux.round ((RH.sound c true _ _ _ h).mono (fun ex J' η' ⟨b,h⟩=>by
  cases ex with
  | normal=>exact h
  | _=>exact ⟨b,h⟩))
theorem xwl {c:Code} {Q:Exit->Bool->List SV->List SB->Prop} {J:List SV} {η:List SB} (h:RH Γ P e G c true (wdi (hide (fun _ J' η'=>x3i Γ P e G c Q J' η') ()) Q) J η):wzx Γ P e G c Q J η:=wux.loop (yxz h)
theorem v81 {α:Type} {x y:Code} {Q:Exit->Bool->List SV->List SB->Prop} {J:List SV} {η:List SB} (keep:List Nat) (ch:α->List (Nat×SV)) (hp:α->List SB) (pre:α->Prop)
 (hx:RH Γ P e G x true (wdi (hide (fun _ J' η'=>∃ a,pre a/\StH Γ e J' η' (appL (ch a) (v4u keep 0 J)) (hp a)) ()) Q) J η)
 (hy:∀ a,pre a->RH Γ P e G y true Q (x9c (appL (ch a) (v4u keep 0 J))) (hp a)):wwe Γ P e G x y Q J η:=
 y7n ((RH.sound x true _ _ _ hx).mono (fun ex J' η' ⟨b,h⟩=>by
  cases ex with
  | normal=>
   obtain ⟨a,h1,h2⟩:=h;exact w6b.le h2 (RH.sound y true _ _ _ (wyl (appL (ch a) (v4u keep 0 J))▸hy a h1))
  | _=>exact ⟨b,h⟩))
def nrmV (J:List SV):List SV:=J
theorem wjr {a:SV} {J:List SV}:nrmV (a::J)=a::J:=_root_.id rfl
theorem zf5 {a0 a1 a2 a3 a4 a5 a6 a7 a8 a9 a10 a11 a12 a13 a14 a15:SV} {r:List SV}:nrmV (chS a0 a1 a2 a3 a4 a5 a6 a7 a8 a9 a10 a11 a12 a13 a14 a15 r)=chS a0 a1 a2 a3 a4 a5 a6 a7 a8 a9 a10 a11 a12 a13 a14 a15 r:=_root_.id rfl
def nrmH (l:List HR):List HR:=l
theorem wxv:nrmH []=[]:=_root_.id rfl
theorem wat {a:HR} {l:List HR}:nrmH (a::l)=a::l:=_root_.id rfl
def flF (c d:Bool) (A:Bool->Bool->Prop):Prop:=A c d
theorem ylq {A:Bool->Bool->Prop}:flF true true A=A true true:=_root_.id rfl
theorem yfq {A:Bool->Bool->Prop}:flF true false A=A true false:=_root_.id rfl
theorem wcl {A:Bool->Bool->Prop}:flF false true A=A false true:=_root_.id rfl
theorem yjh {A:Bool->Bool->Prop}:flF false false A=A false false:=_root_.id rfl
theorem vgc {c c' d d':Bool} {A:Bool->Bool->Prop} (h:c=c') (h2:d=d'):flF c d A=flF c' d' A:=by rw [h,h2]
theorem xqb {f:Bool->List SV->List SB->Prop} {u:U f} {b:Bool} {J:List SV} {η:List SB}:hide f u b J η=f b J η:=_root_.id rfl
theorem ypr {f:Bool->Bool->Prop} {u:U f} {b c:Bool}:hide f u b c=f b c:=_root_.id rfl
theorem y2z {f:Bool->List SB->SV->Prop} {u:U f} {b:Bool} {η:List SB} {x:SV}:hide f u b η x=f b η x:=_root_.id rfl
theorem wi0 {f:Bool->List Nat->List (Nat×SB)->SV->Prop} {u:U f} {b:Bool} {rh:List Nat} {η:List (Nat×SB)} {x:SV}:hide f u b rh η x=f b rh η x:=_root_.id rfl
theorem ywm {f:Bool->List Nat->List Nat->List (Nat×SV)->List (Nat×SB)->Prop} {u:U f} {b:Bool} {rd rh:List Nat} {x:List (Nat×SV)} {y:List (Nat×SB)}:hide f u b rd rh x y=f b rd rh x y:=_root_.id rfl
theorem wgx {rd rh:List Nat} {x:List (Nat×SV)} {y:List (Nat×SB)} {z:Option SB}:tick (HO.eff rd rh x y z)=HO.eff rd rh x y z:=_root_.id rfl
theorem xrr {f:FuncId} {l:List AV} {rd rh bs:List Nat}:tick (HO.callD f l rd rh bs)=HO.callD f l rd rh bs:=_root_.id rfl
theorem wkm {f:FuncId} {l:List SV} {rd:List Nat}:tick (HO.callH f l rd)=HO.callH f l rd:=_root_.id rfl
theorem vd4 {r:Option SV} {z:SV} {ok:Bool} {rd rh:List Nat}:tick (HO.look r z ok rd rh)=HO.look r z ok rd rh:=_root_.id rfl
theorem v5t:tick HO.bad=HO.bad:=_root_.id rfl
theorem wes:tick Hp.GR.plain=Hp.GR.plain:=_root_.id rfl
theorem zem {d:Nat} {c b:Bool}:tick (Hp.GR.when d c b)=Hp.GR.when d c b:=_root_.id rfl
theorem ykv {d:Nat}:tick (Hp.GR.skip d)=Hp.GR.skip d:=_root_.id rfl
theorem vt3 {h:HC}:tick (SV.one h)=SV.one h:=_root_.id rfl
section
variable {Q:Exit->Bool->List SV->List SB->Prop} {J:List SV} {η:List SB}
theorem y4r:RH Γ P e G .skip true Q J η=Q .normal true J η:=_root_.id rfl
theorem x2e {id:Nat} {l:List Oper}:RH Γ P e G (.region id l.toArray false) true Q J η=flF (tick (!(xfp (wvl G id)))) (tick (!(ylu (wvl G id)))) (hide (fun lit fn=>zqc Γ P lit fn l true l (nrmV (anyS (wvl G id) J)) η (Q .normal)) ()):=_root_.id rfl
theorem yo6 {id:Nat} {l:List Oper}:RH Γ P e G (.region id l.toArray true) true Q J η=vuy P (hide (fun _=>flF (tick (!(xfp (wvl G id)))) (tick (!(ylu (wvl G id)))) (hide (fun lit fn=>ykn Γ P lit fn η.length l true l (nrmH []) (nrmV (anyS (wvl G id) J)) (η++x09 (wvl G id)) (hide (fun b s t=>wv3 η.length (Q .normal) b s t) ())) ())) ()):=_root_.id rfl
theorem yxi {x y:Code}:RH Γ P e G (.seq x y) true Q J η=seqF (tick (yp3 G y)) (hide (fun _=>wwe Γ P e G x y Q J η) ()) (hide (fun _=>RH Γ P e G x true (wdi (hide (fun b J η=>RH Γ P e G y b Q J η) ()) Q) J η) ()):=_root_.id rfl
theorem yfb {c:Operand} {x y:Code}:RH Γ P e G (.cond c x y) true Q J η=vu5 c J (hide (fun b=>RH Γ P e G x b Q J η) ()) (hide (fun b=>RH Γ P e G y b Q J η) ()) (tick (opdS Γ J c)):=_root_.id rfl
theorem vco {id:Nat} {x:Code}:RH Γ P e G (.block id x) true Q J η=RH Γ P e G x true (zq6 id Q) J η:=_root_.id rfl
theorem xk3 {x:Code}:RH Γ P e G (.loop x) true Q J η=wzx Γ P e G x Q J η:=_root_.id rfl
theorem wva {id:Nat}:RH Γ P e G (.exit id) true Q J η=Q (.exit id) true J η:=_root_.id rfl
theorem w9b:RH Γ P e G .ret true Q J η=Q .ret true J η:=_root_.id rfl
theorem zsu {l:Nat}:RH Γ P e G (.label l) true Q J η=Q .normal true J η:=_root_.id rfl
theorem wx8 {lit fn:Bool} {ops:List Oper} {K:Bool->List SV->List SB->Prop}:zqc Γ P lit fn ops true [] J η K=K true J η:=_root_.id rfl
theorem zrz {lit fn:Bool} {ops:List Oper} {o:Oper} {r:List Oper} {K:Bool->List SV->List SB->Prop}:zqc Γ P lit fn ops true (o::r) J η K=gdH Γ P lit fn (tick (yot ops J o)) o J η true (hide (fun b J η=>zqc Γ P lit fn ops b r (nrmV J) η K) ()):=_root_.id rfl
theorem wll {lit fn:Bool} {nb:Nat} {ops:List Oper} {acc:List HR} {K:Bool->List SV->List SB->Prop}:ykn Γ P lit fn nb ops true [] acc J η K=z2u ops acc (hide (fun b=>K b J η) ()):=_root_.id rfl
theorem zqu {lit fn:Bool} {nb:Nat} {ops:List Oper} {o:Oper} {r:List Oper} {acc:List HR} {K:Bool->List SV->List SB->Prop}:ykn Γ P lit fn nb ops true (o::r) acc J η K=gdG Γ P lit fn nb (tick (yot ops J o)) o J η true (hide (fun b rd rh x h=>ykn Γ P lit fn (nxtB nb h) ops b r (nrmH (acc++[⟨rd,rh,x,h⟩])) (nrmV (appL x J)) (appL h η) K) ()):=_root_.id rfl
theorem yf2 {n:Nat} {k:Bool->List SV->List SB->Prop}:wv3 n k true J η=k true J (wrb n η):=_root_.id rfl
end
section
variable {next:Bool->List SV->List SB->Prop} {Q:Exit->Bool->List SV->List SB->Prop}
theorem ykm:wdi next Q .normal=next:=_root_.id rfl
theorem vin {id:Nat}:wdi next Q (.exit id)=Q (.exit id):=_root_.id rfl
theorem vw4:wdi next Q .ret=Q .ret:=_root_.id rfl
theorem xsl {id:Nat}:zq6 id Q .normal=Q .normal:=_root_.id rfl
def selH (c:Bool) (x y:Bool->List SV->List SB->Prop):Bool->List SV->List SB->Prop:=match c with
 | true=>x
 | false=>y
theorem xz3 {id j:Nat}:zq6 id Q (.exit j)=selH (j==id) (Q .normal) (Q (.exit j)):=by
 have h:zq6 id Q (.exit j)=if j=id then Q .normal else Q (.exit j):=rfl
 rw [h];unfold selH;by_cases he:j=id
 . rw [if_pos he,show (j==id)=true from by simp [he]]
 . rw [if_neg he,show (j==id)=false from by simp [he]]
theorem z7i {x y:Bool->List SV->List SB->Prop}:selH true x y=x:=rfl
theorem zdr {x y:Bool->List SV->List SB->Prop}:selH false x y=y:=rfl
theorem x5n {c c':Bool} {x y:Bool->List SV->List SB->Prop} (h:c=c'):selH c x y=selH c' x y:=by rw [h]
theorem v68 {id:Nat}:zq6 id Q .ret=Q .ret:=_root_.id rfl
end
section
variable {o:Oper} {J:List SV} {η:List SB} {b:Bool} {k:Bool->List SV->List SB->Prop}
theorem zvv {rd rh:List Nat} {x:List (Nat×SV)} {h:List (Nat×SB)}:doH Γ P (.eff rd rh x h none) o J η b k=k b (appL x J) (appL h η):=_root_.id rfl
theorem v9c {rd rh:List Nat} {x:List (Nat×SV)} {h:List (Nat×SB)} {z:SB}:doH Γ P (.eff rd rh x h (some z)) o J η b k=k b (appL x J) (appL h η++[z]):=_root_.id rfl
theorem v5s {f:FuncId} {l:List AV} {rd rh bs:List Nat}:doH Γ P (.callD f l rd rh bs) o J η b k=vkf Γ P f l (appL (frzE η bs) η) (hide (fun b res=>resK o J (appL (frzE η bs) η) b k (resS η.length res)) ()) (hide (fun b η2 res=>k b (appL (vij o res) J) η2) ()):=_root_.id rfl
theorem xpa {f:FuncId} {l:List SV} {rd:List Nat}:doH Γ P (.callH f l rd) o J η b k=w4x Γ P f η l (hide (fun b η2 res=>k b (appL (vij o res) J) η2) ()):=_root_.id rfl
theorem zjm {r:Option SV} {z:SV} {ok:Bool} {rd rh:List Nat}:doH Γ P (.look r z ok rd rh) o J η b k=v2b o J η b k (z8c ok r z):=_root_.id rfl
theorem vud:doH Γ P .bad o J η b k=BadO o.op J η:=_root_.id rfl
theorem v44 {y:SV}:resK o J η b k (some (y,none))=k b (appL (vij o y) J) η:=_root_.id rfl
theorem vkv {lit fn:Bool}:gdH Γ P lit fn .plain o J η b k=doH Γ P (tick (opF P Γ lit fn J η η.length o)) o J η b k:=_root_.id rfl
theorem zkg {lit fn:Bool} {d:Nat} {c b':Bool}:gdH Γ P lit fn (.when d c b') o J η b k=zu5 c b' (hide (fun b=>doH Γ P (tick (opF P Γ lit fn J η η.length o)) o J η b k) ()) (hide (fun b=>x6d o J η b k) ()):=_root_.id rfl
theorem vds {lit fn:Bool} {d:Nat}:gdH Γ P lit fn (.skip d) o J η b k=x6d o J η b k:=_root_.id rfl
end
section
variable {o:Oper} {J:List SV} {η:List SB} {nb:Nat} {b:Bool} {k:Bool->List Nat->List Nat->List (Nat×SV)->List (Nat×SB)->Prop}
theorem yd0 {rd rh:List Nat} {x:List (Nat×SV)} {h:List (Nat×SB)}:doG Γ P (.eff rd rh x h none) o J η nb b k=k b rd rh x h:=_root_.id rfl
theorem ysy {rd rh:List Nat} {x:List (Nat×SV)} {h:List (Nat×SB)} {z:SB}:doG Γ P (.eff rd rh x h (some z)) o J η nb b k=(wo7 η nb=true/\k b rd (nb::rh) x (h++[(nb,z)])):=_root_.id rfl
theorem xoc {f:FuncId} {l:List AV} {rd rh bs:List Nat}:doG Γ P (.callD f l rd rh bs) o J η nb b k=wbz Γ P f l (hide (fun b res=>resG o J η nb rd rh bs b k (resS nb res)) ()):=_root_.id rfl
theorem wyf {f:FuncId} {l:List SV} {rd:List Nat}:doG Γ P (.callH f l rd) o J η nb b k=wj1 Γ P f η l (hide (fun b rh heff res=>k b rd rh (vij o res) heff) ()):=_root_.id rfl
theorem v2c {r:Option SV} {z:SV} {ok:Bool} {rd rh:List Nat}:doG Γ P (.look r z ok rd rh) o J η nb b k=vlc o J η rd rh b k (z8c ok r z):=_root_.id rfl
theorem vxb:doG Γ P .bad o J η nb b k=BadO o.op J η:=_root_.id rfl
theorem yfj {rd rh bs:List Nat} {y:SV}:resG o J η nb rd rh bs b k (some (y,none))=k b rd (rh++bs) (vij o y) (frzE η bs):=_root_.id rfl
theorem ziv {d:Nat} {rd rh:List Nat} {x:List (Nat×SV)} {h:List (Nat×SB)}:onG d k b rd rh x h=k b (d::rd) rh x h:=_root_.id rfl
theorem yy0 {lit fn:Bool}:gdG Γ P lit fn nb .plain o J η b k=doG Γ P (tick (opF P Γ lit fn J η nb o)) o J η nb b k:=_root_.id rfl
theorem xla {lit fn:Bool} {d:Nat} {c b':Bool}:gdG Γ P lit fn nb (.when d c b') o J η b k=zu5 c b' (hide (fun b=>doG Γ P (tick (opF P Γ lit fn J η nb o)) o J η nb b (hide (fun b rd rh x h=>onG d k b rd rh x h) ())) ()) (hide (fun b=>v0x d o b k) ()):=_root_.id rfl
theorem wdx {lit fn:Bool} {d:Nat}:gdG Γ P lit fn nb (.skip d) o J η b k=v0x d o b k:=_root_.id rfl
end
theorem yju {c:Operand} {J:List SV} {X Y:Bool->Prop} {p:Bool}:vu5 c J X Y (.one (.dat (.raw (.bool p))))=y8d p X Y:=_root_.id rfl
theorem x72 {rs:List ResultVar} {res:AV} {b:Bool} {J:List SV} {η:List SB}:yhq P rs res .ret b J η=endR η res (tick (yms P J η rs)):=_root_.id rfl
theorem y9a {η:List SB} {res:AV} {x:SV}:endR η res (some x)=endD res (tick (wrv η x)):=_root_.id rfl
theorem z9t {res av:AV} {bs:List Nat}:endD res (some (av,bs))=RLe av res:=_root_.id rfl
theorem x9n {rs:List ResultVar} {res:SV} {b:Bool} {J:List SV} {η η':List SB}:v49 Γ P e rs η' res .ret b J η=endH Γ e η η' res (tick (yms P J η rs)):=_root_.id rfl
theorem vfh {rs:List ResultVar} {res:SV} {b:Bool} {J:List SV} {η η':List SB}:v49 Γ P e rs η' res .normal b J η=endH Γ e η η' res (tick (yms P J η rs)):=_root_.id rfl
theorem znt {res x:SV} {η η':List SB}:endH Γ e η η' res (some x)=StH Γ e [x] η [res] η':=_root_.id rfl
theorem xt2 {α:Type} {x:α}:tick (some x)=some x:=_root_.id rfl
theorem z0x {η η':List SB} {res:AV} {o o':Option SV} (h:o=o') (hη:η=η'):endR η res o=endR η' res o':=by rw [h,hη]
theorem wys {res:AV} {o o':Option (AV×List Nat)} (h:o=o'):endD res o=endD res o':=by rw [h]
theorem zjo {e η η' η1:List SB} {res:SV} {o o':Option SV} (h:o=o') (hη:η=η1):endH Γ e η η' res o=endH Γ e η1 η' res o':=by rw [h,hη]
theorem v7c {e η η' η1 η1':List SB} {J σ1 J' σ1':List SV} (h:J=σ1) (hη:η=η1) (h':J'=σ1') (hη':η'=η1'):StH Γ e J η J' η'=StH Γ e σ1 η1 σ1' η1':=by rw [h,hη,h',hη']
section
variable {o o':Oper} {J J':List SV} {η η':List SB} {b:Bool}
theorem vhx {k:Bool->List SV->List SB->Prop} {x x':HO} (h:x=x'):doH Γ P x o J η b k=doH Γ P x' o J η b k:=by rw [h]
theorem v33 {nb:Nat} {k:Bool->List Nat->List Nat->List (Nat×SV)->List (Nat×SB)->Prop} {x x':HO} (h:x=x'):doG Γ P x o J η nb b k=doG Γ P x' o J η nb b k:=by rw [h]
theorem y2b {nb:Nat} {rd rh bs:List Nat} {k:Bool->List Nat->List Nat->List (Nat×SV)->List (Nat×SB)->Prop} {r r':Option (SV×Option SB)} (h:r=r'):resG o J η nb rd rh bs b k r=resG o J η nb rd rh bs b k r':=by rw [h]
theorem zt1 {c:Operand} {X Y:Bool->Prop} {v v':SV} (h:v=v'):vu5 c J X Y v=vu5 c J X Y v':=by rw [h]
theorem yv3 {c:Code} {Q:Exit->Bool->List SV->List SB->Prop} (h:J=J') (hη:η=η'):wzx Γ P e G c Q J η=wzx Γ P e G c Q J' η':=by rw [h,hη]
theorem xvq {lit fn:Bool} {ops l:List Oper} {K:Bool->List SV->List SB->Prop} (h:J=J') (hη:η=η'):zqc Γ P lit fn ops b l J η K=zqc Γ P lit fn ops b l J' η' K:=by rw [h,hη]
theorem v85 {lit fn:Bool} {nb nb':Nat} {ops l:List Oper} {acc acc':List HR} {K:Bool->List SV->List SB->Prop} (hn:nb=nb') (ha:acc=acc') (h:J=J') (hη:η=η'):ykn Γ P lit fn nb ops b l acc J η K=ykn Γ P lit fn nb' ops b l acc' J' η' K:=by rw [h,ha,hη,hn]
end
def xpe (P:Program) (t:TypeId):TypeInfo:=(P.info? t).getD default
theorem ydn {a:SV} {J:List SV}:gtS (a::J) 0=a:=rfl
theorem wsp {a:SV} {J:List SV} {n:Nat}:gtS (a::J) (n+1)=gtS J n:=rfl
theorem vpj {a:SB} {η:List SB}:gB (a::η) 0=a:=rfl
theorem wls {a:SB} {η:List SB} {n:Nat}:gB (a::η) (n+1)=gB η n:=rfl
theorem zg2 {l:List SV}:appL [] l=l:=rfl
theorem yn2 {p:Nat×SV} {r:List (Nat×SV)} {l:List SV}:appL (p::r) l=appL r (l.set p.1 p.2):=rfl
theorem xwf {l:List SB}:appL [] l=l:=rfl
theorem wxm {p:Nat×SB} {r:List (Nat×SB)} {l:List SB}:appL (p::r) l=appL r (l.set p.1 p.2):=rfl
theorem vww {J:List SV} {t:Nat}:opdS Γ J (.tmp t)=gtS J t:=rfl
theorem x3w {J:List SV} {v:Value}:opdS Γ J (.const v)=x3l v:=rfl
theorem v59 {J:List SV} {f:FuncId}:opdS Γ J (.func f)=.one (.dat (.raw (.func (.func f) #[] #[]))):=rfl
theorem x5z {J:List SV} {g:Nat}:opdS Γ J (.global g)=w2q Γ g:=rfl
theorem v7r {J:List SV} {d:Nat}:nh (J.map vw) d=decide (d<J.length):=by
 unfold nh;by_cases h:d<J.length
 . rw [List.getElem?_map,List.getElem?_eq_getElem h,decide_eq_true h];simp only [Option.map_some,wkn,Bool.not_false]
 . rw [List.getElem?_map,List.getElem?_eq_none (by omega),decide_eq_false h];rfl
section
variable {a0 a1 a2 a3 a4 a5 a6 a7 a8 a9 a10 a11 a12 a13 a14 a15 x:SV} {r:List SV} {n:Nat}
theorem z7h:gtS (chS a0 a1 a2 a3 a4 a5 a6 a7 a8 a9 a10 a11 a12 a13 a14 a15 r) 0=a0:=rfl
theorem wk3:(chS a0 a1 a2 a3 a4 a5 a6 a7 a8 a9 a10 a11 a12 a13 a14 a15 r).set 0 x=chS x a1 a2 a3 a4 a5 a6 a7 a8 a9 a10 a11 a12 a13 a14 a15 r:=rfl
theorem x0a:gtS (chS a0 a1 a2 a3 a4 a5 a6 a7 a8 a9 a10 a11 a12 a13 a14 a15 r) 1=a1:=rfl
theorem x62:(chS a0 a1 a2 a3 a4 a5 a6 a7 a8 a9 a10 a11 a12 a13 a14 a15 r).set 1 x=chS a0 x a2 a3 a4 a5 a6 a7 a8 a9 a10 a11 a12 a13 a14 a15 r:=rfl
theorem x5m:gtS (chS a0 a1 a2 a3 a4 a5 a6 a7 a8 a9 a10 a11 a12 a13 a14 a15 r) 2=a2:=rfl
theorem y9f:(chS a0 a1 a2 a3 a4 a5 a6 a7 a8 a9 a10 a11 a12 a13 a14 a15 r).set 2 x=chS a0 a1 x a3 a4 a5 a6 a7 a8 a9 a10 a11 a12 a13 a14 a15 r:=rfl
theorem xv3:gtS (chS a0 a1 a2 a3 a4 a5 a6 a7 a8 a9 a10 a11 a12 a13 a14 a15 r) 3=a3:=rfl
theorem x6v:(chS a0 a1 a2 a3 a4 a5 a6 a7 a8 a9 a10 a11 a12 a13 a14 a15 r).set 3 x=chS a0 a1 a2 x a4 a5 a6 a7 a8 a9 a10 a11 a12 a13 a14 a15 r:=rfl
theorem v4m:gtS (chS a0 a1 a2 a3 a4 a5 a6 a7 a8 a9 a10 a11 a12 a13 a14 a15 r) 4=a4:=rfl
theorem yt3:(chS a0 a1 a2 a3 a4 a5 a6 a7 a8 a9 a10 a11 a12 a13 a14 a15 r).set 4 x=chS a0 a1 a2 a3 x a5 a6 a7 a8 a9 a10 a11 a12 a13 a14 a15 r:=rfl
theorem yxb:gtS (chS a0 a1 a2 a3 a4 a5 a6 a7 a8 a9 a10 a11 a12 a13 a14 a15 r) 5=a5:=rfl
theorem v7u:(chS a0 a1 a2 a3 a4 a5 a6 a7 a8 a9 a10 a11 a12 a13 a14 a15 r).set 5 x=chS a0 a1 a2 a3 a4 x a6 a7 a8 a9 a10 a11 a12 a13 a14 a15 r:=rfl
theorem zpq:gtS (chS a0 a1 a2 a3 a4 a5 a6 a7 a8 a9 a10 a11 a12 a13 a14 a15 r) 6=a6:=rfl
theorem wsh:(chS a0 a1 a2 a3 a4 a5 a6 a7 a8 a9 a10 a11 a12 a13 a14 a15 r).set 6 x=chS a0 a1 a2 a3 a4 a5 x a7 a8 a9 a10 a11 a12 a13 a14 a15 r:=rfl
theorem w2j:gtS (chS a0 a1 a2 a3 a4 a5 a6 a7 a8 a9 a10 a11 a12 a13 a14 a15 r) 7=a7:=rfl
theorem w8p:(chS a0 a1 a2 a3 a4 a5 a6 a7 a8 a9 a10 a11 a12 a13 a14 a15 r).set 7 x=chS a0 a1 a2 a3 a4 a5 a6 x a8 a9 a10 a11 a12 a13 a14 a15 r:=rfl
theorem vlh:gtS (chS a0 a1 a2 a3 a4 a5 a6 a7 a8 a9 a10 a11 a12 a13 a14 a15 r) 8=a8:=rfl
theorem vbv:(chS a0 a1 a2 a3 a4 a5 a6 a7 a8 a9 a10 a11 a12 a13 a14 a15 r).set 8 x=chS a0 a1 a2 a3 a4 a5 a6 a7 x a9 a10 a11 a12 a13 a14 a15 r:=rfl
theorem wet:gtS (chS a0 a1 a2 a3 a4 a5 a6 a7 a8 a9 a10 a11 a12 a13 a14 a15 r) 9=a9:=rfl
theorem ysv:(chS a0 a1 a2 a3 a4 a5 a6 a7 a8 a9 a10 a11 a12 a13 a14 a15 r).set 9 x=chS a0 a1 a2 a3 a4 a5 a6 a7 a8 x a10 a11 a12 a13 a14 a15 r:=rfl
theorem whv:gtS (chS a0 a1 a2 a3 a4 a5 a6 a7 a8 a9 a10 a11 a12 a13 a14 a15 r) 10=a10:=rfl
theorem zid:(chS a0 a1 a2 a3 a4 a5 a6 a7 a8 a9 a10 a11 a12 a13 a14 a15 r).set 10 x=chS a0 a1 a2 a3 a4 a5 a6 a7 a8 a9 x a11 a12 a13 a14 a15 r:=rfl
theorem zi0:gtS (chS a0 a1 a2 a3 a4 a5 a6 a7 a8 a9 a10 a11 a12 a13 a14 a15 r) 11=a11:=rfl
theorem z8h:(chS a0 a1 a2 a3 a4 a5 a6 a7 a8 a9 a10 a11 a12 a13 a14 a15 r).set 11 x=chS a0 a1 a2 a3 a4 a5 a6 a7 a8 a9 a10 x a12 a13 a14 a15 r:=rfl
theorem x2j:gtS (chS a0 a1 a2 a3 a4 a5 a6 a7 a8 a9 a10 a11 a12 a13 a14 a15 r) 12=a12:=rfl
theorem zlw:(chS a0 a1 a2 a3 a4 a5 a6 a7 a8 a9 a10 a11 a12 a13 a14 a15 r).set 12 x=chS a0 a1 a2 a3 a4 a5 a6 a7 a8 a9 a10 a11 x a13 a14 a15 r:=rfl
theorem z8o:gtS (chS a0 a1 a2 a3 a4 a5 a6 a7 a8 a9 a10 a11 a12 a13 a14 a15 r) 13=a13:=rfl
theorem wsm:(chS a0 a1 a2 a3 a4 a5 a6 a7 a8 a9 a10 a11 a12 a13 a14 a15 r).set 13 x=chS a0 a1 a2 a3 a4 a5 a6 a7 a8 a9 a10 a11 a12 x a14 a15 r:=rfl
theorem x15:gtS (chS a0 a1 a2 a3 a4 a5 a6 a7 a8 a9 a10 a11 a12 a13 a14 a15 r) 14=a14:=rfl
theorem yi0:(chS a0 a1 a2 a3 a4 a5 a6 a7 a8 a9 a10 a11 a12 a13 a14 a15 r).set 14 x=chS a0 a1 a2 a3 a4 a5 a6 a7 a8 a9 a10 a11 a12 a13 x a15 r:=rfl
theorem yys:gtS (chS a0 a1 a2 a3 a4 a5 a6 a7 a8 a9 a10 a11 a12 a13 a14 a15 r) 15=a15:=rfl
theorem wuy:(chS a0 a1 a2 a3 a4 a5 a6 a7 a8 a9 a10 a11 a12 a13 a14 a15 r).set 15 x=chS a0 a1 a2 a3 a4 a5 a6 a7 a8 a9 a10 a11 a12 a13 a14 x r:=rfl
theorem yvy:gtS (chS a0 a1 a2 a3 a4 a5 a6 a7 a8 a9 a10 a11 a12 a13 a14 a15 r) (n+16)=gtS r n:=rfl
theorem vi6:(chS a0 a1 a2 a3 a4 a5 a6 a7 a8 a9 a10 a11 a12 a13 a14 a15 r).set (n+16) x=chS a0 a1 a2 a3 a4 a5 a6 a7 a8 a9 a10 a11 a12 a13 a14 a15 (r.set n x):=rfl
theorem z2r:(chS a0 a1 a2 a3 a4 a5 a6 a7 a8 a9 a10 a11 a12 a13 a14 a15 r).length=r.length+16:=rfl
theorem vkg:x9c (a0::a1::a2::a3::a4::a5::a6::a7::a8::a9::a10::a11::a12::a13::a14::a15::r)=chS a0 a1 a2 a3 a4 a5 a6 a7 a8 a9 a10 a11 a12 a13 a14 a15 (x9c r):=rfl
theorem vcd:x9c (chS a0 a1 a2 a3 a4 a5 a6 a7 a8 a9 a10 a11 a12 a13 a14 a15 r)=chS a0 a1 a2 a3 a4 a5 a6 a7 a8 a9 a10 a11 a12 a13 a14 a15 (x9c r):=rfl
theorem yu4:x9c []=[]:=rfl
theorem ykt:x9c [a0]=[a0]:=rfl
theorem v9d:x9c [a0,a1]=[a0,a1]:=rfl
theorem ws5:x9c [a0,a1,a2]=[a0,a1,a2]:=rfl
theorem z9g:x9c [a0,a1,a2,a3]=[a0,a1,a2,a3]:=rfl
theorem v4x:x9c [a0,a1,a2,a3,a4]=[a0,a1,a2,a3,a4]:=rfl
theorem zdv:x9c [a0,a1,a2,a3,a4,a5]=[a0,a1,a2,a3,a4,a5]:=rfl
theorem xsm:x9c [a0,a1,a2,a3,a4,a5,a6]=[a0,a1,a2,a3,a4,a5,a6]:=rfl
theorem x35:x9c [a0,a1,a2,a3,a4,a5,a6,a7]=[a0,a1,a2,a3,a4,a5,a6,a7]:=rfl
theorem xz2:x9c [a0,a1,a2,a3,a4,a5,a6,a7,a8]=[a0,a1,a2,a3,a4,a5,a6,a7,a8]:=rfl
theorem wn9:x9c [a0,a1,a2,a3,a4,a5,a6,a7,a8,a9]=[a0,a1,a2,a3,a4,a5,a6,a7,a8,a9]:=rfl
theorem w9s:x9c [a0,a1,a2,a3,a4,a5,a6,a7,a8,a9,a10]=[a0,a1,a2,a3,a4,a5,a6,a7,a8,a9,a10]:=rfl
theorem zyg:x9c [a0,a1,a2,a3,a4,a5,a6,a7,a8,a9,a10,a11]=[a0,a1,a2,a3,a4,a5,a6,a7,a8,a9,a10,a11]:=rfl
theorem xbb:x9c [a0,a1,a2,a3,a4,a5,a6,a7,a8,a9,a10,a11,a12]=[a0,a1,a2,a3,a4,a5,a6,a7,a8,a9,a10,a11,a12]:=rfl
theorem z2c:x9c [a0,a1,a2,a3,a4,a5,a6,a7,a8,a9,a10,a11,a12,a13]=[a0,a1,a2,a3,a4,a5,a6,a7,a8,a9,a10,a11,a12,a13]:=rfl
theorem z2s:x9c [a0,a1,a2,a3,a4,a5,a6,a7,a8,a9,a10,a11,a12,a13,a14]=[a0,a1,a2,a3,a4,a5,a6,a7,a8,a9,a10,a11,a12,a13,a14]:=rfl
theorem y9t {ks:List Nat} {i:Nat}:v4u ks i (chS a0 a1 a2 a3 a4 a5 a6 a7 a8 a9 a10 a11 a12 a13 a14 a15 r)=v4u ks i (a0::a1::a2::a3::a4::a5::a6::a7::a8::a9::a10::a11::a12::a13::a14::a15::r):=rfl
end
attribute [go_sem] z7h x0a x5m xv3 v4m yxb zpq w2j vlh wet whv zi0 x2j z8o x15 yys wk3 x62 y9f x6v yt3 v7u wsh w8p vbv ysv zid z8h zlw wsm yi0 wuy yu4 ykt v9d ws5 z9g v4x zdv xsm x35 xz2 wn9 w9s zyg xbb z2c z2s yvy vi6 z2r vkg vcd y9t
attribute [go_sem ↓] y4r x2e yo6 yxi yfb vco xk3 wva w9b zsu
attribute [go_sem] wx8 zrz wll zqu yf2 wjr zf5 wxv wat
attribute [go_sem ↓] xqb ypr y2z wi0 ywm
attribute [go_sem] wgx xrr wkm vd4 v5t vt3 wes zem ykv
attribute [go_sem ↓] ykm vin vw4 xsl xz3 v68
attribute [go_sem] z7i zdr ylq yfq wcl yjh
attribute [go_sem] zvv v9c v5s xpa zjm vud v44 vkv zkg vds x6d v2b
attribute [go_sem] yd0 ysy xoc wyf v2c vxb yfj ziv yy0 xla wdx v0x vlc
attribute [go_sem] yju x72 x9n vfh y9a z9t znt xt2
attribute [congr] vhx v33 y2b zt1 yv3 xvq v85 vgc x5n z0x wys zjo v7c
attribute [go_sem] ydn wsp vpj wls zg2 yn2 xwf wxm vww x3w v59 x5z v7r
attribute [go_sem] wvl xny xfp ylu anyS yp3 v4u x09 xsb nxtB
attribute [go_sem] yot opF y2j yaj fBin fUn zrd w3s y46 y6h xhh wa5 fLen yen wdq fNil zgp zc9 fBox opH opP y44 z2m z2m.callG zxr zt5 opH.appO oldO oldR av2 vO nO isNil wx2
attribute [go_sem] y02 rawS v06 yg2 w6z TI.many seeH yoy z1z v50 vj0 ptrH lenH natH vgo x84 argD wrt ypm ywb x3n resS xln vij x3l w2q frzB frzE w9u subC yo0 ym9 appT dstH srcH wo9
attribute [go_sem] xpi updM kEq xjk keyX zuf ykg vgr v90 rawL z8c xe2 xnf zji zf0 wnb yms wrv wrb wo7 zm6 oB oN vmh intS ckH wyv y43 xtl yq9 vw vwO vwG datL datH
end Go.Hp
namespace Go.Slot
open Go Go.RowKit
variable {P:Program}
end Go.Slot
