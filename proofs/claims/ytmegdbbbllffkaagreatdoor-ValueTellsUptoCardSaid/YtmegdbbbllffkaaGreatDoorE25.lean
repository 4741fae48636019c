/- The proof, part E25: Ib, Ti. -/
import Derived.Test.YtmegdbbbllffkaaGreatDoorE24
import Derived.Test.YtmegdbbbllffkaaGreatDoorE12
import Derived.Test.YtmegdbbbllffkaaGreatDoorChecked
namespace Go.Hp
open Go Go.RowKit Go.Slot
variable {P:Program} {Γ:List (Nat×List Cell)} {e:List SB} {G:List (Nat×List GhH)}
variable {J J' e η1:List SB} {res:AV} {o:Oper} {f:FuncId} {fn c' b lit b':Bool} {c:Code} {Q:Exit->Bool->List SV->List SB->Prop} {I I' l:List SV} {α:Type} {x a:SV} {y K:Bool->List SV->List SB->Prop} {A:Bool->Bool->Prop} {rh rd bs:List Nat} {h:List (Nat×SB)} {id nb:Nat} {ops:List Oper} {X Y:Bool->Prop} {rs:List ResultVar} {x':HO}
def chS (a0 a1 a2 a3 a4 a5 a6 a7 a8 a9 a10 a11 a12 a13 a14 a15:SV) (r:List SV):List SV:=a0::a1::a2::a3::a4::a5::a6::a7::a8::a9::a10::a11::a12::a13::a14::a15::r
def wq1:List SV->List SV
 | a0::a1::a2::a3::a4::a5::a6::a7::a8::a9::a10::a11::a12::a13::a14::a15::r=>chS a0 a1 a2 a3 a4 a5 a6 a7 a8 a9 a10 a11 a12 a13 a14 a15 (wq1 r)
 | l=>l
theorem vva:∀ l:List SV,wq1 l=l
 | []=>rfl
 | [a0]=>rfl
 | [a0,a1]=>rfl
 | [a0,a1,a2]=>rfl
 | [a0,a1,a2,a3]=>rfl
 | [a0,a1,a2,a3,a4]=>rfl
 | [a0,a1,a2,a3,a4,a5]=>rfl
 | [a0,a1,a2,a3,a4,a5,a6]=>rfl
 | [a0,a1,a2,a3,a4,a5,a6,a7]=>rfl
 | [a0,a1,a2,a3,a4,a5,a6,a7,a8]=>rfl
 | [a0,a1,a2,a3,a4,a5,a6,a7,a8,a9]=>rfl
 | [a0,a1,a2,a3,a4,a5,a6,a7,a8,a9,a10]=>rfl
 | [a0,a1,a2,a3,a4,a5,a6,a7,a8,a9,a10,a11]=>rfl
 | [a0,a1,a2,a3,a4,a5,a6,a7,a8,a9,a10,a11,a12]=>rfl
 | [a0,a1,a2,a3,a4,a5,a6,a7,a8,a9,a10,a11,a12,a13]=>rfl
 | [a0,a1,a2,a3,a4,a5,a6,a7,a8,a9,a10,a11,a12,a13,a14]=>rfl
 | a0::a1::a2::a3::a4::a5::a6::a7::a8::a9::a10::a11::a12::a13::a14::a15::r=>by
  show chS a0 a1 a2 a3 a4 a5 a6 a7 a8 a9 a10 a11 a12 a13 a14 a15 (wq1 r)=_;rw [vva r];rfl
def endD (res:AV):Option (AV×List Nat)->Prop
 | some (av,_)=>RLe av res
 | none=>False
def endR (J:List SB) (res:AV):Option SV->Prop
 | some x=>endD res (wle J x)
 | none=>False
theorem wk3 {o:Option SV} (h:endR J res o):∃ x av bs,o=some x/\wle J x=some (av,bs)/\RLe av res:=by
 cases o with
 | none=>exact h.elim
 | some x=>
  have h:endD res (wle J x):=h;unfold endD at h;split at h
  . rename_i av bs hd;exact ⟨x,av,bs,rfl,hd,h⟩
  . exact h.elim
def whz (P:Program) (rs:List ResultVar) (res:AV):Exit->Bool->List SV->List SB->Prop
 | .ret,_,I,J | .normal,_,I,J=>endR J res (zf4 P I J rs)
 | _,_,_,_=>False
theorem CallsD.run (G:List (Nat×List GhH)) {fn:Func} {args:List AV} {sl:List SV} (hf:P.funcs[f]? = some fn) (hb:fn.body=some c) (hname:(fn.name == "runtime.NumGoroutine")=false) (ha:zsa args=some sl)
 (h:RH Γ P [] G c true (whz P fn.results.toList res) (wq1 (sl++List.replicate (fn.ntmps-sl.length) .undef)) []):CallsD Γ P f args res:=by
 rw [vva] at h;refine CallsD.of hf hb hname ha ((RH.sound c true _ _ _ h).mono ?_);intro ex I J ⟨b,h⟩
 cases ex with
 | normal=>exact wk3 h
 | ret=>exact wk3 h
 | _=>exact h.elim
def endH (Γ:List (Nat×List Cell)) (e J:List SB) (J':List SB) (res:SV):Option SV->Prop
 | some x=>StH Γ e [x] J [res] J'
 | none=>False
def xqu (Γ:List (Nat×List Cell)) (P:Program) (e:List SB) (rs:List ResultVar) (J':List SB) (res:SV):Exit->Bool->List SV->List SB->Prop
 | .ret,_,I,J | .normal,_,I,J=>endH Γ e J J' res (zf4 P I J rs)
 | _,_,_,_=>False
theorem zvk {res:SV} {o:Option SV} (h:endH Γ e J J' res o):∃ x,o=some x/\StH Γ e [x] J [res] J':=by
 cases o with
 | none=>exact h.elim
 | some x=>exact ⟨x,rfl,h⟩
theorem vfe.run (G:List (Nat×List GhH)) {fn:Func} {args:List SV} {res:SV} (hf:P.funcs[f]? = some fn) (hb:fn.body=some c) (hname:(fn.name == "runtime.NumGoroutine")=false)
 (h:RH Γ P J G c true (xqu Γ P J fn.results.toList J' res) (wq1 (args++List.replicate (fn.ntmps-args.length) .undef)) J):vfe Γ P f J args J' res:=by
 rw [vva] at h;refine vfe.of hf hb hname ((RH.sound c true _ _ _ h).mono ?_);intro ex I η1 ⟨b,h⟩
 cases ex with
 | normal=>exact zvk h
 | ret=>exact zvk h
 | _=>exact h.elim
theorem CallsD.le {f:FuncId} {args:List AV} {res res':AV} (h:CallsD Γ P f args res) (hle:RLe res res'):CallsD Γ P f args res':=
 ⟨h.1,fun M w vs hM hg hr=>(h.2 M w vs hM hg hr).mono (fun _ _ ⟨v,h1,h2,h3,h4⟩=>⟨v,h1,h2,h3.le hle,fun hh=>h4 (hle.vy8 hh)⟩)⟩
theorem vyv.le {Q:Exit->List SV->List SB->Prop} (h:StH Γ e I J I' J') (hc:vyv Γ P e c Q I' J'):vyv Γ P e c Q I J:=fun E ρ a w hE hR=>by
 obtain ⟨ρ',hR'⟩:=h E ρ a w hE hR;exact hc E ρ' a w hE hR'
theorem vyv.fam {α : Type} {c : Code} {Q : Exit → List SV → List SB → Prop} (invS : α → List SV) (invH : α → List SB) (pre : α → Prop) (μ : α → Nat)
 (round:∀ x,pre x->x2l Γ P e c (y90 (fun I' J'=>∃ y,pre y/\μ y<μ x/\StH Γ e I' J' (invS y) (invH y)) Q) (invS x) (invH x)):∀(n:Nat) (x:α),μ x<n->pre x->vyv Γ P e c Q (invS x) (invH x)
 | 0,_,h,_=>absurd h (Nat.not_lt_zero _)
 | n + 1, x, h, hx => vyv.round ((round x hx).mono (fun ex I J hq => by
  cases ex with
  | normal=>
   obtain ⟨y,h1,h2,h3⟩:=hq;exact vyv.le h3 (vyv.fam invS invH pre μ round n y (by omega) h1)
  | _=>exact hq))
theorem y55 (keep:List Nat) (ch:α->List (Nat×SV)) (hp:α->List SB) (pre:α->Prop) (μ:α->Nat) (x0:α) (h0:pre x0)
 (hle:StH Γ e I J (appL (ch x0) (wue keep 0 I)) (hp x0))
 (round:∀ x,pre x->RH Γ P e G c true (wck (hide (fun _ I' J'=>∃ y,pre y/\μ y<μ x/\StH Γ e I' J' (appL (ch y) (wue keep 0 I)) (hp y)) ()) Q) (wq1 (appL (ch x) (wue keep 0 I))) (hp x)):zzk Γ P e G c Q I J:=
 x2l.le hle (vyv.loop (vyv.fam (fun x=>appL (ch x) (wue keep 0 I)) hp pre μ (fun x hx=>(RH.sound c true _ _ _ (vva (appL (ch x) (wue keep 0 I))▸round x hx)).mono (fun ex I' J' ⟨b,h⟩=>by
  cases ex with
  | normal=>exact h
  | _=>exact ⟨b,h⟩)) _ x0 (Nat.lt_succ_self _) h0))
def weu (Γ:List (Nat×List Cell)) (P:Program) (e:List SB) (_G:List (Nat×List GhH)) (c:Code) (Q:Exit->Bool->List SV->List SB->Prop) (I:List SV) (J:List SB):Prop:=vyv Γ P e c (outH Q) I J
theorem v3j (h:RH Γ P e G c true (wck (hide (fun _ I' J'=>weu Γ P e G c Q I' J') ()) Q) I J):weu Γ P e G c Q I J:=
 vyv.round ((RH.sound c true _ _ _ h).mono (fun ex I' J' ⟨b,h⟩=>by
  cases ex with
  | normal=>exact h
  | _=>exact ⟨b,h⟩))
theorem zum (h:RH Γ P e G c true (wck (hide (fun _ I' J'=>weu Γ P e G c Q I' J') ()) Q) I J):zzk Γ P e G c Q I J:=vyv.loop (v3j h)
theorem ztg {x y:Code} (keep:List Nat) (ch:α->List (Nat×SV)) (hp:α->List SB) (pre:α->Prop)
 (hx:RH Γ P e G x true (wck (hide (fun _ I' J'=>∃ a,pre a/\StH Γ e I' J' (appL (ch a) (wue keep 0 I)) (hp a)) ()) Q) I J)
 (hy:∀ a,pre a->RH Γ P e G y true Q (wq1 (appL (ch a) (wue keep 0 I))) (hp a)):vaf Γ P e G x y Q I J:=
 v79 ((RH.sound x true _ _ _ hx).mono (fun ex I' J' ⟨b,h⟩=>by
  cases ex with
  | normal=>
   obtain ⟨a,h1,h2⟩:=h;exact x2l.le h2 (RH.sound y true _ _ _ (vva (appL (ch a) (wue keep 0 I))▸hy a h1))
  | _=>exact ⟨b,h⟩))
def nrmV (I:List SV):List SV:=I
theorem yq2:nrmV (a::I)=a::I:=_root_.id rfl
theorem z8w {a0 a1 a2 a3 a4 a5 a6 a7 a8 a9 a10 a11 a12 a13 a14 a15:SV} {r:List SV}:nrmV (chS a0 a1 a2 a3 a4 a5 a6 a7 a8 a9 a10 a11 a12 a13 a14 a15 r)=chS a0 a1 a2 a3 a4 a5 a6 a7 a8 a9 a10 a11 a12 a13 a14 a15 r:=_root_.id rfl
def nrmH (l:List HR):List HR:=l
theorem vjh:nrmH []=[]:=_root_.id rfl
theorem yyk {a:HR} {l:List HR}:nrmH (a::l)=a::l:=_root_.id rfl
def flF (c d:Bool) (A:Bool->Bool->Prop):Prop:=A c d
theorem w0l:flF true true A=A true true:=_root_.id rfl
theorem wfk:flF true false A=A true false:=_root_.id rfl
theorem znz {c d d':Bool} (h:c=c') (h2:d=d'):flF c d A=flF c' d' A:=by rw [h,h2]
theorem ynp {f:Bool->List SV->List SB->Prop} {u:U f}:hide f u b I J=f b I J:=_root_.id rfl
theorem v6b {f:Bool->Bool->Prop} {u:U f} {c:Bool}:hide f u b c=f b c:=_root_.id rfl
theorem vxm {f:Bool->List SB->SV->Prop} {u:U f}:hide f u b J x=f b J x:=_root_.id rfl
theorem ymy {f:Bool->List Nat->List (Nat×SB)->SV->Prop} {u:U f} {J:List (Nat×SB)}:hide f u b rh J x=f b rh J x:=_root_.id rfl
theorem wjw {f:Bool->List Nat->List Nat->List (Nat×SV)->List (Nat×SB)->Prop} {u:U f} {x:List (Nat×SV)} {y:List (Nat×SB)}:hide f u b rd rh x y=f b rd rh x y:=_root_.id rfl
theorem xo6 {x:List (Nat×SV)} {y:List (Nat×SB)} {z:Option SB}:tick (HO.eff rd rh x y z)=HO.eff rd rh x y z:=_root_.id rfl
theorem xbk {l:List AV}:tick (HO.callD f l rd rh bs)=HO.callD f l rd rh bs:=_root_.id rfl
theorem z9a:tick (HO.callH f l rd)=HO.callH f l rd:=_root_.id rfl
theorem x5y {r:Option SV} {z:SV} {ok:Bool}:tick (HO.look r z ok rd rh)=HO.look r z ok rd rh:=_root_.id rfl
theorem xwr:tick HO.bad=HO.bad:=_root_.id rfl
theorem xzm:tick Hp.GR.plain=Hp.GR.plain:=_root_.id rfl
theorem yfc {d:Nat} {c:Bool}:tick (Hp.GR.when d c b)=Hp.GR.when d c b:=_root_.id rfl
theorem v15 {d:Nat}:tick (Hp.GR.skip d)=Hp.GR.skip d:=_root_.id rfl
theorem yt5 {h:HC}:tick (SV.one h)=SV.one h:=_root_.id rfl
section
variable {Q:Exit->Bool->List SV->List SB->Prop} {I:List SV} {J:List SB}
theorem zqk:RH Γ P e G .skip true Q I J=Q .normal true I J:=_root_.id rfl
theorem z2x {l:List Oper}:RH Γ P e G (.region id l.toArray false) true Q I J=flF (tick (!(zfw (x0d G id)))) (tick (!(zfu (x0d G id)))) (hide (fun lit fn=>xsf Γ P lit fn l true l (nrmV (anyS (x0d G id) I)) J (Q .normal)) ()):=_root_.id rfl
theorem yfs {l:List Oper}:RH Γ P e G (.region id l.toArray true) true Q I J=vk0 P (hide (fun _=>flF (tick (!(zfw (x0d G id)))) (tick (!(zfu (x0d G id)))) (hide (fun lit fn=>xci Γ P lit fn J.length l true l (nrmH []) (nrmV (anyS (x0d G id) I)) (J++ygh (x0d G id)) (hide (fun b s t=>wxc J.length (Q .normal) b s t) ())) ())) ()):=_root_.id rfl
theorem z2s {x y:Code}:RH Γ P e G (.seq x y) true Q I J=seqF (tick (za7 G y)) (hide (fun _=>vaf Γ P e G x y Q I J) ()) (hide (fun _=>RH Γ P e G x true (wck (hide (fun b I J=>RH Γ P e G y b Q I J) ()) Q) I J) ()):=_root_.id rfl
theorem zyr {c:Operand} {x y:Code}:RH Γ P e G (.cond c x y) true Q I J=zcn c I (hide (fun b=>RH Γ P e G x b Q I J) ()) (hide (fun b=>RH Γ P e G y b Q I J) ()) (tick (opdS Γ I c)):=_root_.id rfl
theorem xcd {x:Code}:RH Γ P e G (.block id x) true Q I J=RH Γ P e G x true (v4t id Q) I J:=_root_.id rfl
theorem ypz {x:Code}:RH Γ P e G (.loop x) true Q I J=zzk Γ P e G x Q I J:=_root_.id rfl
theorem zuq:RH Γ P e G (.exit id) true Q I J=Q (.exit id) true I J:=_root_.id rfl
theorem vdw:RH Γ P e G .ret true Q I J=Q .ret true I J:=_root_.id rfl
theorem wdh:xsf Γ P lit fn ops true [] I J K=K true I J:=_root_.id rfl
theorem w5o {r:List Oper}:xsf Γ P lit fn ops true (o::r) I J K=gdH Γ P lit fn (tick (znr ops I o)) o I J true (hide (fun b I J=>xsf Γ P lit fn ops b r (nrmV I) J K) ()):=_root_.id rfl
theorem w7r {acc:List HR}:xci Γ P lit fn nb ops true [] acc I J K=ybj ops acc (hide (fun b=>K b I J) ()):=_root_.id rfl
theorem z5o {r:List Oper} {acc:List HR}:xci Γ P lit fn nb ops true (o::r) acc I J K=gdG Γ P lit fn nb (tick (znr ops I o)) o I J true (hide (fun b rd rh x h=>xci Γ P lit fn (nxtB nb h) ops b r (nrmH (acc++[⟨rd,rh,x,h⟩])) (nrmV (appL x I)) (appL h J) K) ()):=_root_.id rfl
theorem y30 {n:Nat} {k:Bool->List SV->List SB->Prop}:wxc n k true I J=k true I (vo2 n J):=_root_.id rfl
end
section
variable {next:Bool->List SV->List SB->Prop} {Q:Exit->Bool->List SV->List SB->Prop}
theorem yul:wck next Q .normal=next:=_root_.id rfl
theorem wkl:wck next Q (.exit id)=Q (.exit id):=_root_.id rfl
theorem x7q:wck next Q .ret=Q .ret:=_root_.id rfl
theorem ycq:v4t id Q .normal=Q .normal:=_root_.id rfl
def selH (c:Bool) (x y:Bool->List SV->List SB->Prop):Bool->List SV->List SB->Prop:=match c with
 | true=>x
 | false=>y
theorem x2j {j:Nat}:v4t id Q (.exit j)=selH (j==id) (Q .normal) (Q (.exit j)):=by
 have h:v4t id Q (.exit j)=if j=id then Q .normal else Q (.exit j):=rfl
 rw [h];unfold selH;by_cases he:j=id
 . rw [if_pos he,show (j==id)=true from by simp [he]]
 . rw [if_neg he,show (j==id)=false from by simp [he]]
theorem w3n {x:Bool->List SV->List SB->Prop}:selH true x y=x:=rfl
theorem zwa {x:Bool->List SV->List SB->Prop}:selH false x y=y:=rfl
theorem v7e {c:Bool} {x:Bool->List SV->List SB->Prop} (h:c=c'):selH c x y=selH c' x y:=by rw [h]
theorem v40:v4t id Q .ret=Q .ret:=_root_.id rfl
end
section
variable {o:Oper} {I:List SV} {J:List SB} {b:Bool} {k:Bool->List SV->List SB->Prop}
theorem y8c {x:List (Nat×SV)}:doH Γ P (.eff rd rh x h none) o I J b k=k b (appL x I) (appL h J):=_root_.id rfl
theorem yiy {x:List (Nat×SV)} {z:SB}:doH Γ P (.eff rd rh x h (some z)) o I J b k=k b (appL x I) (appL h J++[z]):=_root_.id rfl
theorem z2j {l:List AV}:doH Γ P (.callD f l rd rh bs) o I J b k=zge Γ P f l (appL (frzE J bs) J) (hide (fun b res=>resK o I (appL (frzE J bs) J) b k (resS J.length res)) ()) (hide (fun b η2 res=>k b (appL (ylm o res) I) η2) ()):=_root_.id rfl
theorem vfp:doH Γ P (.callH f l rd) o I J b k=x0t Γ P f J l (hide (fun b η2 res=>k b (appL (ylm o res) I) η2) ()):=_root_.id rfl
theorem v3e {r:Option SV} {z:SV} {ok:Bool}:doH Γ P (.look r z ok rd rh) o I J b k=v9k o I J b k (woh ok r z):=_root_.id rfl
theorem xvq {y:SV}:resK o I J b k (some (y,none))=k b (appL (ylm o y) I) J:=_root_.id rfl
theorem yiw:gdH Γ P lit fn .plain o I J b k=doH Γ P (tick (opF P Γ lit fn I J J.length o)) o I J b k:=_root_.id rfl
theorem zb2 {d:Nat} {c:Bool}:gdH Γ P lit fn (.when d c b') o I J b k=x4q c b' (hide (fun b=>doH Γ P (tick (opF P Γ lit fn I J J.length o)) o I J b k) ()) (hide (fun b=>zwu o I J b k) ()):=_root_.id rfl
theorem yif {d:Nat}:gdH Γ P lit fn (.skip d) o I J b k=zwu o I J b k:=_root_.id rfl
end
section
variable {o:Oper} {I:List SV} {J:List SB} {nb:Nat} {b:Bool} {k:Bool->List Nat->List Nat->List (Nat×SV)->List (Nat×SB)->Prop}
theorem z7m {x:List (Nat×SV)}:doG Γ P (.eff rd rh x h none) o I J nb b k=k b rd rh x h:=_root_.id rfl
theorem zup {x:List (Nat×SV)} {z:SB}:doG Γ P (.eff rd rh x h (some z)) o I J nb b k=(xvh J nb=true/\k b rd (nb::rh) x (h++[(nb,z)])):=_root_.id rfl
theorem wqp {l:List AV}:doG Γ P (.callD f l rd rh bs) o I J nb b k=w8m Γ P f l (hide (fun b res=>resG o I J nb rd rh bs b k (resS nb res)) ()):=_root_.id rfl
theorem x7o:doG Γ P (.callH f l rd) o I J nb b k=x6s Γ P f J l (hide (fun b rh heff res=>k b rd rh (ylm o res) heff) ()):=_root_.id rfl
theorem wum:doG Γ P .bad o I J nb b k=BadO o.op I J:=_root_.id rfl
theorem y5n {y:SV}:resG o I J nb rd rh bs b k (some (y,none))=k b rd (rh++bs) (ylm o y) (frzE J bs):=_root_.id rfl
theorem zm3 {d:Nat} {x:List (Nat×SV)}:onG d k b rd rh x h=k b (d::rd) rh x h:=_root_.id rfl
theorem yx9:gdG Γ P lit fn nb .plain o I J b k=doG Γ P (tick (opF P Γ lit fn I J nb o)) o I J nb b k:=_root_.id rfl
theorem w6l {d:Nat} {c:Bool}:gdG Γ P lit fn nb (.when d c b') o I J b k=x4q c b' (hide (fun b=>doG Γ P (tick (opF P Γ lit fn I J nb o)) o I J nb b (hide (fun b rd rh x h=>onG d k b rd rh x h) ())) ()) (hide (fun b=>zxi d o b k) ()):=_root_.id rfl
theorem xhc {d:Nat}:gdG Γ P lit fn nb (.skip d) o I J b k=zxi d o b k:=_root_.id rfl
end
theorem vnl {c:Operand} {p:Bool}:zcn c I X Y (.one (.dat (.raw (.bool p))))=x29 p X Y:=_root_.id rfl
theorem w9t:whz P rs res .ret b I J=endR J res (tick (zf4 P I J rs)):=_root_.id rfl
theorem zrz:endR J res (some x)=endD res (tick (wle J x)):=_root_.id rfl
theorem yfy {av:AV}:endD res (some (av,bs))=RLe av res:=_root_.id rfl
theorem w3j {res:SV}:xqu Γ P e rs J' res .ret b I J=endH Γ e J J' res (tick (zf4 P I J rs)):=_root_.id rfl
theorem wad {res:SV}:xqu Γ P e rs J' res .normal b I J=endH Γ e J J' res (tick (zf4 P I J rs)):=_root_.id rfl
theorem wzt {res:SV}:endH Γ e J J' res (some x)=StH Γ e [x] J [res] J':=_root_.id rfl
theorem z3o {x:α}:tick (some x)=some x:=_root_.id rfl
theorem z0p {o o':Option SV} (h:o=o') (hη:J=J'):endR J res o=endR J' res o':=by rw [h,hη]
theorem wfe {o o':Option (AV×List Nat)} (h:o=o'):endD res o=endD res o':=by rw [h]
theorem v3o {res:SV} {o o':Option SV} (h:o=o') (hη:J=η1):endH Γ e J J' res o=endH Γ e η1 J' res o':=by rw [h,hη]
theorem wmd {η1':List SB} {σ1 σ1':List SV} (h:I=σ1) (hη:J=η1) (h':I'=σ1') (hη':J'=η1'):StH Γ e I J I' J'=StH Γ e σ1 η1 σ1' η1':=by rw [h,hη,h',hη']
section
variable {o o':Oper} {I I':List SV} {J J':List SB} {b:Bool}
theorem yjh {k:Bool->List SV->List SB->Prop} {x:HO} (h:x=x'):doH Γ P x o I J b k=doH Γ P x' o I J b k:=by rw [h]
theorem xui {k:Bool->List Nat->List Nat->List (Nat×SV)->List (Nat×SB)->Prop} {x:HO} (h:x=x'):doG Γ P x o I J nb b k=doG Γ P x' o I J nb b k:=by rw [h]
theorem yca {k:Bool->List Nat->List Nat->List (Nat×SV)->List (Nat×SB)->Prop} {r r':Option (SV×Option SB)} (h:r=r'):resG o I J nb rd rh bs b k r=resG o I J nb rd rh bs b k r':=by rw [h]
theorem vvi {c:Operand} {v v':SV} (h:v=v'):zcn c I X Y v=zcn c I X Y v':=by rw [h]
theorem xce {l:List Oper} (h:I=I') (hη:J=J'):xsf Γ P lit fn ops b l I J K=xsf Γ P lit fn ops b l I' J' K:=by rw [h,hη]
theorem vt6 {nb':Nat} {l:List Oper} {acc acc':List HR} (hn:nb=nb') (ha:acc=acc') (h:I=I') (hη:J=J'):xci Γ P lit fn nb ops b l acc I J K=xci Γ P lit fn nb' ops b l acc' I' J' K:=by rw [h,ha,hη,hn]
end
def ziz (P:Program) (t:TypeId):TypeInfo:=(P.info? t).getD default
theorem yvr:gtS (a::I) 0=a:=rfl
theorem zy6 {n:Nat}:gtS (a::I) (n+1)=gtS I n:=rfl
theorem vk7 {a:SB}:gB (a::J) 0=a:=rfl
theorem w3i {a:SB} {n:Nat}:gB (a::J) (n+1)=gB J n:=rfl
theorem xj4:appL [] l=l:=rfl
theorem xcp {p:Nat×SV} {r:List (Nat×SV)}:appL (p::r) l=appL r (l.set p.1 p.2):=rfl
theorem veb {l:List SB}:appL [] l=l:=rfl
theorem yay {p:Nat×SB} {r:List (Nat×SB)} {l:List SB}:appL (p::r) l=appL r (l.set p.1 p.2):=rfl
theorem xhd {t:Nat}:opdS Γ I (.tmp t)=gtS I t:=rfl
theorem xf5 {v:Value}:opdS Γ I (.const v)=zim v:=rfl
theorem yo2:opdS Γ I (.func f)=.one (.dat (.raw (.func (.func f) #[] #[]))):=rfl
theorem zqf {g:Nat}:opdS Γ I (.global g)=yvl Γ g:=rfl
theorem y5y {d:Nat}:nh (I.map vw) d=decide (d<I.length):=by
 unfold nh;by_cases h:d<I.length
 . rw [List.getElem?_map,List.getElem?_eq_getElem h,decide_eq_true h];simp only [Option.map_some,vir,Bool.not_false]
 . rw [List.getElem?_map,List.getElem?_eq_none (by omega),decide_eq_false h];rfl
section
variable {a0 a1 a2 a3 a4 a5 a6 a7 a8 a9 a10 a11 a12 a13 a14 a15 x:SV} {r:List SV} {n:Nat}
theorem yxu:gtS (chS a0 a1 a2 a3 a4 a5 a6 a7 a8 a9 a10 a11 a12 a13 a14 a15 r) 0=a0:=rfl
theorem vby:(chS a0 a1 a2 a3 a4 a5 a6 a7 a8 a9 a10 a11 a12 a13 a14 a15 r).set 0 x=chS x a1 a2 a3 a4 a5 a6 a7 a8 a9 a10 a11 a12 a13 a14 a15 r:=rfl
theorem yhq:gtS (chS a0 a1 a2 a3 a4 a5 a6 a7 a8 a9 a10 a11 a12 a13 a14 a15 r) 1=a1:=rfl
theorem xoe:(chS a0 a1 a2 a3 a4 a5 a6 a7 a8 a9 a10 a11 a12 a13 a14 a15 r).set 1 x=chS a0 x a2 a3 a4 a5 a6 a7 a8 a9 a10 a11 a12 a13 a14 a15 r:=rfl
theorem vcb:gtS (chS a0 a1 a2 a3 a4 a5 a6 a7 a8 a9 a10 a11 a12 a13 a14 a15 r) 2=a2:=rfl
theorem zsz:(chS a0 a1 a2 a3 a4 a5 a6 a7 a8 a9 a10 a11 a12 a13 a14 a15 r).set 2 x=chS a0 a1 x a3 a4 a5 a6 a7 a8 a9 a10 a11 a12 a13 a14 a15 r:=rfl
theorem x42:gtS (chS a0 a1 a2 a3 a4 a5 a6 a7 a8 a9 a10 a11 a12 a13 a14 a15 r) 3=a3:=rfl
theorem yqz:(chS a0 a1 a2 a3 a4 a5 a6 a7 a8 a9 a10 a11 a12 a13 a14 a15 r).set 3 x=chS a0 a1 a2 x a4 a5 a6 a7 a8 a9 a10 a11 a12 a13 a14 a15 r:=rfl
theorem xzg:gtS (chS a0 a1 a2 a3 a4 a5 a6 a7 a8 a9 a10 a11 a12 a13 a14 a15 r) 4=a4:=rfl
theorem xb0:(chS a0 a1 a2 a3 a4 a5 a6 a7 a8 a9 a10 a11 a12 a13 a14 a15 r).set 4 x=chS a0 a1 a2 a3 x a5 a6 a7 a8 a9 a10 a11 a12 a13 a14 a15 r:=rfl
theorem wyc:gtS (chS a0 a1 a2 a3 a4 a5 a6 a7 a8 a9 a10 a11 a12 a13 a14 a15 r) 5=a5:=rfl
theorem ww9:(chS a0 a1 a2 a3 a4 a5 a6 a7 a8 a9 a10 a11 a12 a13 a14 a15 r).set 5 x=chS a0 a1 a2 a3 a4 x a6 a7 a8 a9 a10 a11 a12 a13 a14 a15 r:=rfl
theorem zjy:gtS (chS a0 a1 a2 a3 a4 a5 a6 a7 a8 a9 a10 a11 a12 a13 a14 a15 r) 6=a6:=rfl
theorem zoa:(chS a0 a1 a2 a3 a4 a5 a6 a7 a8 a9 a10 a11 a12 a13 a14 a15 r).set 6 x=chS a0 a1 a2 a3 a4 a5 x a7 a8 a9 a10 a11 a12 a13 a14 a15 r:=rfl
theorem vkt:gtS (chS a0 a1 a2 a3 a4 a5 a6 a7 a8 a9 a10 a11 a12 a13 a14 a15 r) 7=a7:=rfl
theorem vo3:(chS a0 a1 a2 a3 a4 a5 a6 a7 a8 a9 a10 a11 a12 a13 a14 a15 r).set 7 x=chS a0 a1 a2 a3 a4 a5 a6 x a8 a9 a10 a11 a12 a13 a14 a15 r:=rfl
theorem yzh:gtS (chS a0 a1 a2 a3 a4 a5 a6 a7 a8 a9 a10 a11 a12 a13 a14 a15 r) 8=a8:=rfl
theorem ymr:(chS a0 a1 a2 a3 a4 a5 a6 a7 a8 a9 a10 a11 a12 a13 a14 a15 r).set 8 x=chS a0 a1 a2 a3 a4 a5 a6 a7 x a9 a10 a11 a12 a13 a14 a15 r:=rfl
theorem xo1:gtS (chS a0 a1 a2 a3 a4 a5 a6 a7 a8 a9 a10 a11 a12 a13 a14 a15 r) 9=a9:=rfl
theorem wxy:(chS a0 a1 a2 a3 a4 a5 a6 a7 a8 a9 a10 a11 a12 a13 a14 a15 r).set 9 x=chS a0 a1 a2 a3 a4 a5 a6 a7 a8 x a10 a11 a12 a13 a14 a15 r:=rfl
theorem w8p:gtS (chS a0 a1 a2 a3 a4 a5 a6 a7 a8 a9 a10 a11 a12 a13 a14 a15 r) 10=a10:=rfl
theorem xro:(chS a0 a1 a2 a3 a4 a5 a6 a7 a8 a9 a10 a11 a12 a13 a14 a15 r).set 10 x=chS a0 a1 a2 a3 a4 a5 a6 a7 a8 a9 x a11 a12 a13 a14 a15 r:=rfl
theorem yvb:gtS (chS a0 a1 a2 a3 a4 a5 a6 a7 a8 a9 a10 a11 a12 a13 a14 a15 r) 11=a11:=rfl
theorem vpp:(chS a0 a1 a2 a3 a4 a5 a6 a7 a8 a9 a10 a11 a12 a13 a14 a15 r).set 11 x=chS a0 a1 a2 a3 a4 a5 a6 a7 a8 a9 a10 x a12 a13 a14 a15 r:=rfl
theorem v6z:gtS (chS a0 a1 a2 a3 a4 a5 a6 a7 a8 a9 a10 a11 a12 a13 a14 a15 r) 12=a12:=rfl
theorem zyu:(chS a0 a1 a2 a3 a4 a5 a6 a7 a8 a9 a10 a11 a12 a13 a14 a15 r).set 12 x=chS a0 a1 a2 a3 a4 a5 a6 a7 a8 a9 a10 a11 x a13 a14 a15 r:=rfl
theorem vr8:gtS (chS a0 a1 a2 a3 a4 a5 a6 a7 a8 a9 a10 a11 a12 a13 a14 a15 r) 13=a13:=rfl
theorem zai:(chS a0 a1 a2 a3 a4 a5 a6 a7 a8 a9 a10 a11 a12 a13 a14 a15 r).set 13 x=chS a0 a1 a2 a3 a4 a5 a6 a7 a8 a9 a10 a11 a12 x a14 a15 r:=rfl
theorem ypt:gtS (chS a0 a1 a2 a3 a4 a5 a6 a7 a8 a9 a10 a11 a12 a13 a14 a15 r) 14=a14:=rfl
theorem wwx:(chS a0 a1 a2 a3 a4 a5 a6 a7 a8 a9 a10 a11 a12 a13 a14 a15 r).set 14 x=chS a0 a1 a2 a3 a4 a5 a6 a7 a8 a9 a10 a11 a12 a13 x a15 r:=rfl
theorem yjl:gtS (chS a0 a1 a2 a3 a4 a5 a6 a7 a8 a9 a10 a11 a12 a13 a14 a15 r) 15=a15:=rfl
theorem wxg:(chS a0 a1 a2 a3 a4 a5 a6 a7 a8 a9 a10 a11 a12 a13 a14 a15 r).set 15 x=chS a0 a1 a2 a3 a4 a5 a6 a7 a8 a9 a10 a11 a12 a13 a14 x r:=rfl
theorem vxa:gtS (chS a0 a1 a2 a3 a4 a5 a6 a7 a8 a9 a10 a11 a12 a13 a14 a15 r) (n+16)=gtS r n:=rfl
theorem y6p:(chS a0 a1 a2 a3 a4 a5 a6 a7 a8 a9 a10 a11 a12 a13 a14 a15 r).set (n+16) x=chS a0 a1 a2 a3 a4 a5 a6 a7 a8 a9 a10 a11 a12 a13 a14 a15 (r.set n x):=rfl
theorem xdr:(chS a0 a1 a2 a3 a4 a5 a6 a7 a8 a9 a10 a11 a12 a13 a14 a15 r).length=r.length+16:=rfl
theorem y8j:wq1 (a0::a1::a2::a3::a4::a5::a6::a7::a8::a9::a10::a11::a12::a13::a14::a15::r)=chS a0 a1 a2 a3 a4 a5 a6 a7 a8 a9 a10 a11 a12 a13 a14 a15 (wq1 r):=rfl
theorem vvp:wq1 (chS a0 a1 a2 a3 a4 a5 a6 a7 a8 a9 a10 a11 a12 a13 a14 a15 r)=chS a0 a1 a2 a3 a4 a5 a6 a7 a8 a9 a10 a11 a12 a13 a14 a15 (wq1 r):=rfl
theorem y8e:wq1 []=[]:=rfl
theorem xjt:wq1 [a0]=[a0]:=rfl
theorem w5k:wq1 [a0,a1]=[a0,a1]:=rfl
theorem y3q:wq1 [a0,a1,a2]=[a0,a1,a2]:=rfl
theorem yrv:wq1 [a0,a1,a2,a3]=[a0,a1,a2,a3]:=rfl
theorem w9u:wq1 [a0,a1,a2,a3,a4]=[a0,a1,a2,a3,a4]:=rfl
theorem wzc:wq1 [a0,a1,a2,a3,a4,a5]=[a0,a1,a2,a3,a4,a5]:=rfl
theorem x28:wq1 [a0,a1,a2,a3,a4,a5,a6]=[a0,a1,a2,a3,a4,a5,a6]:=rfl
theorem y3z:wq1 [a0,a1,a2,a3,a4,a5,a6,a7]=[a0,a1,a2,a3,a4,a5,a6,a7]:=rfl
theorem xpq:wq1 [a0,a1,a2,a3,a4,a5,a6,a7,a8]=[a0,a1,a2,a3,a4,a5,a6,a7,a8]:=rfl
theorem z3u:wq1 [a0,a1,a2,a3,a4,a5,a6,a7,a8,a9]=[a0,a1,a2,a3,a4,a5,a6,a7,a8,a9]:=rfl
theorem zsl:wq1 [a0,a1,a2,a3,a4,a5,a6,a7,a8,a9,a10]=[a0,a1,a2,a3,a4,a5,a6,a7,a8,a9,a10]:=rfl
theorem xsm:wq1 [a0,a1,a2,a3,a4,a5,a6,a7,a8,a9,a10,a11]=[a0,a1,a2,a3,a4,a5,a6,a7,a8,a9,a10,a11]:=rfl
theorem v9s:wq1 [a0,a1,a2,a3,a4,a5,a6,a7,a8,a9,a10,a11,a12]=[a0,a1,a2,a3,a4,a5,a6,a7,a8,a9,a10,a11,a12]:=rfl
theorem wzk:wq1 [a0,a1,a2,a3,a4,a5,a6,a7,a8,a9,a10,a11,a12,a13]=[a0,a1,a2,a3,a4,a5,a6,a7,a8,a9,a10,a11,a12,a13]:=rfl
theorem z6z:wq1 [a0,a1,a2,a3,a4,a5,a6,a7,a8,a9,a10,a11,a12,a13,a14]=[a0,a1,a2,a3,a4,a5,a6,a7,a8,a9,a10,a11,a12,a13,a14]:=rfl
theorem zyl {ks:List Nat} {i:Nat}:wue ks i (chS a0 a1 a2 a3 a4 a5 a6 a7 a8 a9 a10 a11 a12 a13 a14 a15 r)=wue ks i (a0::a1::a2::a3::a4::a5::a6::a7::a8::a9::a10::a11::a12::a13::a14::a15::r):=rfl
end
attribute [go_sem] yxu yhq vcb x42 xzg wyc zjy vkt yzh xo1 w8p yvb v6z vr8 ypt yjl vby xoe zsz yqz xb0 ww9 zoa vo3 ymr wxy xro vpp zyu zai wwx wxg y8e xjt w5k y3q yrv w9u wzc x28 y3z xpq z3u zsl xsm v9s wzk z6z vxa y6p xdr y8j vvp zyl wdh w5o w7r z5o y30 yq2 z8w vjh yyk xo6 xbk z9a x5y xwr yt5 xzm yfc v15 w3n zwa w0l wfk y8c yiy z2j vfp v3e xvq yiw zb2 yif zwu v9k z7m zup wqp x7o wum y5n zm3 yx9 w6l xhc zxi vzl vnl w9t w3j wad zrz yfy wzt z3o
attribute [go_sem ↓] zqk z2x yfs z2s zyr xcd ypz zuq vdw ynp v6b vxm ymy wjw yul wkl x7q ycq x2j v40
attribute [congr] yjh xui yca vvi xce vt6 znz v7e z0p wfe v3o wmd
attribute [go_sem] yvr zy6 vk7 w3i xj4 xcp veb yay xhd xf5 yo2 zqf y5y x0d y7e zfw zfu anyS za7 wue ygh zbd nxtB znr opF yiv y9n fBin fUn vza wgc yg6 v04 vms zr9 fLen zw2 wwh fNil vw7 www fBox opH opP zm7 zbg zbg.callG opH.appO oldO oldR av2 vO nO isNil x40 w4j rawS y8q ymo y05 TI.many seeH ztk ywi z9d w9o ptrH lenH natH wao xvs argD zfh wb2 wvr zsa resS wq8 ylm zim yvl frzB frzE vfv subC v9i yoz appT dstH srcH ykn zgw updM kEq z7b keyV woh xkx yuh vtv vzj yrk zf4 wle vo2 xvh wmm oB oN zrb intS ckH yl5 xzp zm8 yk3 vw vwO vwG datL datH
end Go.Hp
namespace Go.Slot.T
open Go Go.RowKit Go.Slot Go.Hp
open Go.Proofs.Tryz (prog)
variable {k:TI->OR}
theorem w1:zl2 prog 1 k=k ⟨1,8,[Cell.raw Value.nilFunc],Sh.cell⟩:=yqx (by kernel_rfl)
theorem m1:mkTI prog 1=some ⟨1,8,[Cell.raw Value.nilFunc],Sh.cell⟩:=by kernel_rfl
theorem z1:w2m prog 1=some (SV.one (HC.dat (Cell.raw Value.nilFunc))):=by kernel_rfl
theorem w2:zl2 prog 2 k=k ⟨1,8,[Cell.raw (Value.int IntKind.i64 0)],Sh.int IntKind.i64⟩:=yqx (by kernel_rfl)
theorem m2:mkTI prog 2=some ⟨1,8,[Cell.raw (Value.int IntKind.i64 0)],Sh.int IntKind.i64⟩:=by kernel_rfl
theorem u2:prog.underlying 2=some (TypeDesc.int IntKind.i64):=by kernel_rfl
theorem z2:w2m prog 2=some (SV.one (HC.dat (Cell.raw (Value.int IntKind.i64 0)))):=by kernel_rfl
theorem w3:zl2 prog 3 k=k ⟨1,8,[Cell.raw (Value.int IntKind.i64 0)],Sh.int IntKind.i64⟩:=yqx (by kernel_rfl)
theorem m3:mkTI prog 3=some ⟨1,8,[Cell.raw (Value.int IntKind.i64 0)],Sh.int IntKind.i64⟩:=by kernel_rfl
theorem u3:prog.underlying 3=some (TypeDesc.int IntKind.i64):=by kernel_rfl
theorem z3:w2m prog 3=some (SV.one (HC.dat (Cell.raw (Value.int IntKind.i64 0)))):=by kernel_rfl
theorem m4:mkTI prog 4=some ⟨1,1,[Cell.raw (Value.bool false)],Sh.bool⟩:=by kernel_rfl
theorem w5:zl2 prog 5 k=k ⟨1,1,[Cell.raw (Value.int IntKind.u8 0)],Sh.int IntKind.u8⟩:=yqx (by kernel_rfl)
theorem m5:mkTI prog 5=some ⟨1,1,[Cell.raw (Value.int IntKind.u8 0)],Sh.int IntKind.u8⟩:=by kernel_rfl
theorem u5:prog.underlying 5=some (TypeDesc.int IntKind.u8):=by kernel_rfl
theorem w9:zl2 prog 9 k=k ⟨1,16,[Cell.raw (Value.string ⟨⟨[]⟩⟩)],Sh.string⟩:=yqx (by kernel_rfl)
theorem m9:mkTI prog 9=some ⟨1,16,[Cell.raw (Value.string ⟨⟨[]⟩⟩)],Sh.string⟩:=by kernel_rfl
theorem w22:zl2 prog 22 k=k ⟨1,24,[Cell.zc],Sh.slice 24 5 72 none⟩:=yqx (by kernel_rfl)
theorem m22:mkTI prog 22=some ⟨1,24,[Cell.zc],Sh.slice 24 5 72 none⟩:=by kernel_rfl
theorem m24:mkTI prog 24=some ⟨5,72,[Cell.raw (Value.int IntKind.i64 0),Cell.raw (Value.int IntKind.i64 0),Cell.raw (Value.string ⟨⟨[]⟩⟩),Cell.raw (Value.string ⟨⟨[]⟩⟩),Cell.zc],Sh.struct [(0,1,3),(1,1,3),(2,1,9),(3,1,9),(4,1,22)]⟩:=by kernel_rfl
theorem w25:zl2 prog 25 k=k ⟨1,24,[Cell.zc],Sh.slice 55 5 80 none⟩:=yqx (by kernel_rfl)
theorem m25:mkTI prog 25=some ⟨1,24,[Cell.zc],Sh.slice 55 5 80 none⟩:=by kernel_rfl
theorem w26:zl2 prog 26 k=k ⟨1,24,[Cell.zc],Sh.slice 60 3 56 none⟩:=yqx (by kernel_rfl)
theorem m26:mkTI prog 26=some ⟨1,24,[Cell.zc],Sh.slice 60 3 56 none⟩:=by kernel_rfl
theorem w29:zl2 prog 29 k=k ⟨1,24,[Cell.zc],Sh.slice 3 1 8 (some IntKind.i64)⟩:=yqx (by kernel_rfl)
theorem m29:mkTI prog 29=some ⟨1,24,[Cell.zc],Sh.slice 3 1 8 (some IntKind.i64)⟩:=by kernel_rfl
theorem w31:zl2 prog 31 k=k ⟨2,32,[Cell.raw (Value.int IntKind.i64 0),Cell.zc],Sh.struct [(0,1,3),(1,1,29)]⟩:=yqx (by kernel_rfl)
theorem m31:mkTI prog 31=some ⟨2,32,[Cell.raw (Value.int IntKind.i64 0),Cell.zc],Sh.struct [(0,1,3),(1,1,29)]⟩:=by kernel_rfl
theorem w33:zl2 prog 33 k=k ⟨4,64,[Cell.raw (Value.int IntKind.i64 0),Cell.zc,Cell.raw (Value.int IntKind.i64 0),Cell.zc],Sh.struct [(0,2,31),(2,2,31)]⟩:=yqx (by kernel_rfl)
theorem m33:mkTI prog 33=some ⟨4,64,[Cell.raw (Value.int IntKind.i64 0),Cell.zc,Cell.raw (Value.int IntKind.i64 0),Cell.zc],Sh.struct [(0,2,31),(2,2,31)]⟩:=by kernel_rfl
theorem z33:w2m prog 33=some (SV.agg [HC.dat (Cell.raw (Value.int IntKind.i64 0)),HC.dat Cell.zc,HC.dat (Cell.raw (Value.int IntKind.i64 0)),HC.dat Cell.zc]):=by kernel_rfl
theorem w35:zl2 prog 35 k=k ⟨6,72,[Cell.raw (Value.bool false),Cell.raw (Value.bool false),Cell.raw (Value.int IntKind.i64 0),Cell.zc,Cell.raw (Value.int IntKind.i64 0),Cell.zc],Sh.struct [(0,1,4),(1,1,4),(2,4,33)]⟩:=yqx (by kernel_rfl)
theorem m35:mkTI prog 35=some ⟨6,72,[Cell.raw (Value.bool false),Cell.raw (Value.bool false),Cell.raw (Value.int IntKind.i64 0),Cell.zc,Cell.raw (Value.int IntKind.i64 0),Cell.zc],Sh.struct [(0,1,4),(1,1,4),(2,4,33)]⟩:=by kernel_rfl
theorem m36:mkTI prog 36=some ⟨1,8,[Cell.raw (Value.int IntKind.i64 0)],Sh.int IntKind.i64⟩:=by kernel_rfl
theorem m42:mkTI prog 42=some ⟨6,48,[Cell.raw (Value.int IntKind.i64 0),Cell.raw (Value.int IntKind.i64 0),Cell.raw (Value.int IntKind.i64 0),Cell.raw (Value.int IntKind.i64 0),Cell.raw (Value.int IntKind.i64 0),Cell.raw (Value.int IntKind.i64 0)],Sh.array 6 3 1⟩:=by kernel_rfl
theorem m44:mkTI prog 44=some ⟨10,112,[Cell.raw (Value.int IntKind.i64 0),Cell.raw (Value.int IntKind.i64 0),Cell.raw (Value.int IntKind.i64 0),Cell.raw (Value.int IntKind.i64 0),Cell.raw (Value.int IntKind.i64 0),Cell.raw (Value.int IntKind.i64 0),Cell.raw (Value.int IntKind.i64 0),Cell.zc,Cell.raw (Value.int IntKind.i64 0),Cell.zc],Sh.struct [(0,6,42),(6,4,33)]⟩:=by kernel_rfl
theorem m55:mkTI prog 55=some ⟨5,80,[Cell.raw (Value.string ⟨⟨[]⟩⟩),Cell.raw (Value.int IntKind.i64 0),Cell.zc,Cell.raw (Value.int IntKind.i64 0),Cell.zc],Sh.struct [(0,1,9),(1,4,33)]⟩:=by kernel_rfl
theorem w58:zl2 prog 58 k=k ⟨1,24,[Cell.zc],Sh.slice 159 2 16 none⟩:=yqx (by kernel_rfl)
theorem m58:mkTI prog 58=some ⟨1,24,[Cell.zc],Sh.slice 159 2 16 none⟩:=by kernel_rfl
theorem m60:mkTI prog 60=some ⟨3,56,[Cell.raw (Value.string ⟨⟨[]⟩⟩),Cell.raw (Value.string ⟨⟨[]⟩⟩),Cell.zc],Sh.struct [(0,1,9),(1,1,9),(2,1,58)]⟩:=by kernel_rfl
theorem z60:w2m prog 60=some (SV.agg [HC.dat (Cell.raw (Value.string ⟨⟨[]⟩⟩)),HC.dat (Cell.raw (Value.string ⟨⟨[]⟩⟩)),HC.dat Cell.zc]):=by kernel_rfl
theorem m76:mkTI prog 76=some ⟨1,8,[Cell.raw (Value.map none)],Sh.map 9 33⟩:=by kernel_rfl
theorem m77:mkTI prog 77=some ⟨1,8,[Cell.raw (Value.map none)],Sh.map 9 60⟩:=by kernel_rfl
theorem m79:mkTI prog 79=some ⟨2,16,[Cell.raw (Value.map none),Cell.raw (Value.map none)],Sh.struct [(0,1,76),(1,1,77)]⟩:=by kernel_rfl
theorem w84:zl2 prog 84 k=k ⟨1,24,[Cell.zc],Sh.slice 88 2 24 none⟩:=yqx (by kernel_rfl)
theorem m84:mkTI prog 84=some ⟨1,24,[Cell.zc],Sh.slice 88 2 24 none⟩:=by kernel_rfl
theorem m88:mkTI prog 88=some ⟨2,24,[Cell.raw (Value.string ⟨⟨[]⟩⟩),Cell.raw (Value.int IntKind.i64 0)],Sh.struct [(0,1,9),(1,1,3)]⟩:=by kernel_rfl
theorem w98:zl2 prog 98 k=k ⟨1,24,[Cell.zc],Sh.slice 9 1 16 none⟩:=yqx (by kernel_rfl)
theorem m98:mkTI prog 98=some ⟨1,24,[Cell.zc],Sh.slice 9 1 16 none⟩:=by kernel_rfl
theorem w100:zl2 prog 100 k=k ⟨1,24,[Cell.zc],Sh.slice 35 6 72 none⟩:=yqx (by kernel_rfl)
theorem m100:mkTI prog 100=some ⟨1,24,[Cell.zc],Sh.slice 35 6 72 none⟩:=by kernel_rfl
theorem m159:mkTI prog 159=some ⟨2,16,[Cell.raw (Value.int IntKind.i64 0),Cell.raw (Value.int IntKind.i64 0)],Sh.struct [(0,1,3),(1,1,3)]⟩:=by kernel_rfl
theorem w166:zl2 prog 166 k=k ⟨1,8,[Cell.raw (Value.int IntKind.u64 0)],Sh.int IntKind.u64⟩:=yqx (by kernel_rfl)
theorem m166:mkTI prog 166=some ⟨1,8,[Cell.raw (Value.int IntKind.u64 0)],Sh.int IntKind.u64⟩:=by kernel_rfl
theorem w167:zl2 prog 167 k=k ⟨1,8,[Cell.raw (Value.int IntKind.u64 0)],Sh.int IntKind.u64⟩:=yqx (by kernel_rfl)
theorem u167:prog.underlying 167=some (TypeDesc.int IntKind.u64):=by kernel_rfl
theorem w194:zl2 prog 194 k=k ⟨1,24,[Cell.zc],Sh.slice 198 2 24 none⟩:=yqx (by kernel_rfl)
theorem m194:mkTI prog 194=some ⟨1,24,[Cell.zc],Sh.slice 198 2 24 none⟩:=by kernel_rfl
theorem m198:mkTI prog 198=some ⟨2,24,[Cell.raw (Value.string ⟨⟨[]⟩⟩),Cell.raw (Value.int IntKind.i64 0)],Sh.struct [(0,1,9),(1,1,3)]⟩:=by kernel_rfl
theorem m220:mkTI prog 220=some ⟨1,8,[Cell.raw (Value.pointer none)],Sh.cell⟩:=by kernel_rfl
theorem vwx:xe1 prog 220=some 223:=by kernel_rfl
theorem u220:prog.underlying 220=some (TypeDesc.pointer 223):=by kernel_rfl
theorem m221:mkTI prog 221=some ⟨1,24,[Cell.zc],Sh.slice 5 1 1 (some IntKind.u8)⟩:=by kernel_rfl
theorem m223:mkTI prog 223=some ⟨2,32,[Cell.raw (Value.pointer none),Cell.zc],Sh.struct [(0,1,220),(1,1,221)]⟩:=by kernel_rfl
theorem wuo:xe1 prog 235=some 5:=by kernel_rfl
theorem u237:prog.underlying 237=some TypeDesc.unsafePointer:=by kernel_rfl
theorem wdw:prog.info? 223=some (ziz prog 223):=by kernel_rfl
theorem wui:((ziz prog 223).size != 0)=true:=by kernel_rfl
theorem e229:wp2 prog 229=true:=by kernel_rfl
theorem ylo:(List.range 251).all (fun n=>n==229||!wp2 prog n)=true:=by kernel_rfl
attribute [go_sem ↓] w1 w2 w3 w5 w9 w22 w25 w26 w29 w31 w33 w35 w58 w84 w98 w100 w166 w167 w194
attribute [go_sem] m1 z1 m2 u2 z2 m3 u3 z3 m4 m5 u5 m9 m22 m24 m25 m26 m29 m31 m33 z33 m35 m36 m42 m44 m55 m58 m60 z60 m76 m77 m79 m84 m88 m98 m100 m159 m166 u167 m194 m198 m220 vwx u220 m221 m223 wuo u237 wdw wui e229
theorem eAll (n:Nat) (h:n<251) (h229:n≠229):wp2 prog n=false:=by
 have:=List.all_eq_true.1 ylo n (List.mem_range.2 h)
 simpa [h229] using this
theorem mixed:prog.follows .mixedOrders=true:=by kernel_rfl
attribute [go_sem] eAll
theorem wvv {k:Bool->Prop}:va1 prog k=k true:=propext ⟨fun h=>h.2,fun h=>⟨mixed,h⟩⟩
theorem wx2 {k:Bool->Prop}:vk0 prog k=k true:=propext ⟨fun h=>h.2,fun h=>⟨mixed,h⟩⟩
attribute [go_sem] wvv wx2
end Go.Slot.T
