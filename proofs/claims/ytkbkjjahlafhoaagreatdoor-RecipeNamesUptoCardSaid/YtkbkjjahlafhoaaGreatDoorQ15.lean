/- The proof, part Q15: Ib. -/
import Derived.Test.YtkbkjjahlafhoaaGreatDoorQ14
namespace Go.Hp
open Go Go.RowKit Go.Slot
variable {P:Program} {Γ:List (Nat×List Cell)} {e:List SB} {G:List (Nat×List GhH)}
variable {η η' e η1:List SB} {res:AV} {o:Oper} {f:FuncId} {fn c' b lit b':Bool} {c:Code} {Q:Exit->Bool->List SV->List SB->Prop} {J J' l:List SV} {α:Type} {x a z:SV} {y K:Bool->List SV->List SB->Prop} {A:Bool->Bool->Prop} {d id nb:Nat} {rh rd bs:List Nat} {h:List (Nat×SB)} {ops:List Oper} {X Y:Bool->Prop} {rs:List ResultVar} {x':HO}
def chS (a0 a1 a2 a3 a4 a5 a6 a7 a8 a9 a10 a11 a12 a13 a14 a15:SV) (r:List SV):List SV:=a0::a1::a2::a3::a4::a5::a6::a7::a8::a9::a10::a11::a12::a13::a14::a15::r
def vxk:List SV->List SV
 | a0::a1::a2::a3::a4::a5::a6::a7::a8::a9::a10::a11::a12::a13::a14::a15::r=>chS a0 a1 a2 a3 a4 a5 a6 a7 a8 a9 a10 a11 a12 a13 a14 a15 (vxk r)
 | l=>l
theorem wwh:∀ l:List SV,vxk l=l
 | []=>rfl
 | [a0]=>rfl
 | [a0,a1]=>rfl
 | [a0,a1,a2]=>rfl
 | [a0,a1,a2,a3]=>rfl
 | [a0,a1,a2,a3,a4]=>rfl
 | [a0,a1,a2,a3,a4,a5]=>rfl
 | [a0,a1,a2,a3,a4,a5,a6]=>rfl
 | [a0,a1,a2,a3,a4,a5,a6,a7]=>rfl
 | [a0,a1,a2,a3,a4,a5,a6,a7,a8]=>rfl
 | [a0,a1,a2,a3,a4,a5,a6,a7,a8,a9]=>rfl
 | [a0,a1,a2,a3,a4,a5,a6,a7,a8,a9,a10]=>rfl
 | [a0,a1,a2,a3,a4,a5,a6,a7,a8,a9,a10,a11]=>rfl
 | [a0,a1,a2,a3,a4,a5,a6,a7,a8,a9,a10,a11,a12]=>rfl
 | [a0,a1,a2,a3,a4,a5,a6,a7,a8,a9,a10,a11,a12,a13]=>rfl
 | [a0,a1,a2,a3,a4,a5,a6,a7,a8,a9,a10,a11,a12,a13,a14]=>rfl
 | a0::a1::a2::a3::a4::a5::a6::a7::a8::a9::a10::a11::a12::a13::a14::a15::r=>by
  show chS a0 a1 a2 a3 a4 a5 a6 a7 a8 a9 a10 a11 a12 a13 a14 a15 (vxk r)=_;rw [wwh r];rfl
def endD (res:AV):Option (AV×List Nat)->Prop
 | some (av,_)=>RLe av res
 | none=>False
def endR (η:List SB) (res:AV):Option SV->Prop
 | some x=>endD res (y7k η x)
 | none=>False
theorem vbj {o:Option SV} (h:endR η res o):∃ x av bs,o=some x/\y7k η x=some (av,bs)/\RLe av res:=by
 cases o with
 | none=>exact h.elim
 | some x=>
  have h:endD res (y7k η x):=h;unfold endD at h;split at h
  . rename_i av bs hd;exact ⟨x,av,bs,rfl,hd,h⟩
  . exact h.elim
def zd1 (P:Program) (rs:List ResultVar) (res:AV):Exit->Bool->List SV->List SB->Prop
 | .ret,_,J,η | .normal,_,J,η=>endR η res (zam P J η rs)
 | _,_,_,_=>False
theorem CallsD.run (G:List (Nat×List GhH)) {fn:Func} {args:List AV} {sl:List SV} (hf:P.funcs[f]? = some fn) (hb:fn.body=some c) (hname:(fn.name == "runtime.NumGoroutine")=false) (ha:xo6 args=some sl)
 (h:RH Γ P [] G c true (zd1 P fn.results.toList res) (vxk (sl++List.replicate (fn.ntmps-sl.length) .undef)) []):CallsD Γ P f args res:=by
 rw [wwh] at h;refine CallsD.of hf hb hname ha ((RH.sound c true _ _ _ h).mono ?_);intro ex J η ⟨b,h⟩
 cases ex with
 | normal=>exact vbj h
 | ret=>exact vbj h
 | _=>exact h.elim
def endH (Γ:List (Nat×List Cell)) (e η:List SB) (η':List SB) (res:SV):Option SV->Prop
 | some x=>StH Γ e [x] η [res] η'
 | none=>False
def wgr (Γ:List (Nat×List Cell)) (P:Program) (e:List SB) (rs:List ResultVar) (η':List SB) (res:SV):Exit->Bool->List SV->List SB->Prop
 | .ret,_,J,η | .normal,_,J,η=>endH Γ e η η' res (zam P J η rs)
 | _,_,_,_=>False
theorem zk4 {res:SV} {o:Option SV} (h:endH Γ e η η' res o):∃ x,o=some x/\StH Γ e [x] η [res] η':=by
 cases o with
 | none=>exact h.elim
 | some x=>exact ⟨x,rfl,h⟩
theorem xbh.run (G:List (Nat×List GhH)) {fn:Func} {args:List SV} {res:SV} (hf:P.funcs[f]? = some fn) (hb:fn.body=some c) (hname:(fn.name == "runtime.NumGoroutine")=false)
 (h:RH Γ P η G c true (wgr Γ P η fn.results.toList η' res) (vxk (args++List.replicate (fn.ntmps-args.length) .undef)) η):xbh Γ P f η args η' res:=by
 rw [wwh] at h;refine xbh.of hf hb hname ((RH.sound c true _ _ _ h).mono ?_);intro ex J η1 ⟨b,h⟩
 cases ex with
 | normal=>exact zk4 h
 | ret=>exact zk4 h
 | _=>exact h.elim
theorem wdj.le {Q:Exit->List SV->List SB->Prop} (h:StH Γ e J η J' η') (hc:wdj Γ P e c Q J' η'):wdj Γ P e c Q J η:=fun E ρ a w hE hR=>by
 obtain ⟨ρ',hR'⟩:=h E ρ a w hE hR;exact hc E ρ' a w hE hR'
theorem wdj.fam {α : Type} {c : Code} {Q : Exit → List SV → List SB → Prop} (invS : α → List SV) (invH : α → List SB) (pre : α → Prop) (μ : α → Nat)
 (round:∀ x,pre x->xty Γ P e c (vcv (fun J' η'=>∃ y,pre y/\μ y<μ x/\StH Γ e J' η' (invS y) (invH y)) Q) (invS x) (invH x)):∀(n:Nat) (x:α),μ x<n->pre x->wdj Γ P e c Q (invS x) (invH x)
 | 0,_,h,_=>absurd h (Nat.not_lt_zero _)
 | n + 1, x, h, hx => wdj.round ((round x hx).mono (fun ex J η hq => by
  cases ex with
  | normal=>
   obtain ⟨y,h1,h2,h3⟩:=hq;exact wdj.le h3 (wdj.fam invS invH pre μ round n y (by omega) h1)
  | _=>exact hq))
theorem wf5 (keep:List Nat) (ch:α->List (Nat×SV)) (hp:α->List SB) (pre:α->Prop) (μ:α->Nat) (x0:α) (h0:pre x0)
 (hle:StH Γ e J η (appL (ch x0) (vjn keep 0 J)) (hp x0))
 (round:∀ x,pre x->RH Γ P e G c true (vmg (hide (fun _ J' η'=>∃ y,pre y/\μ y<μ x/\StH Γ e J' η' (appL (ch y) (vjn keep 0 J)) (hp y)) ()) Q) (vxk (appL (ch x) (vjn keep 0 J))) (hp x)):yrq Γ P e G c Q J η:=
 xty.le hle (wdj.loop (wdj.fam (fun x=>appL (ch x) (vjn keep 0 J)) hp pre μ (fun x hx=>(RH.sound c true _ _ _ (wwh (appL (ch x) (vjn keep 0 J))▸round x hx)).mono (fun ex J' η' ⟨b,h⟩=>by
  cases ex with
  | normal=>exact h
  | _=>exact ⟨b,h⟩)) _ x0 (Nat.lt_succ_self _) h0))
def zws (Γ:List (Nat×List Cell)) (P:Program) (e:List SB) (_G:List (Nat×List GhH)) (c:Code) (Q:Exit->Bool->List SV->List SB->Prop) (J:List SV) (η:List SB):Prop:=wdj Γ P e c (outH Q) J η
theorem z5g (h:RH Γ P e G c true (vmg (hide (fun _ J' η'=>zws Γ P e G c Q J' η') ()) Q) J η):zws Γ P e G c Q J η:=
 wdj.round ((RH.sound c true _ _ _ h).mono (fun ex J' η' ⟨b,h⟩=>by
  cases ex with
  | normal=>exact h
  | _=>exact ⟨b,h⟩))
theorem x2t (h:RH Γ P e G c true (vmg (hide (fun _ J' η'=>zws Γ P e G c Q J' η') ()) Q) J η):yrq Γ P e G c Q J η:=wdj.loop (z5g h)
theorem y7q {x y:Code} (keep:List Nat) (ch:α->List (Nat×SV)) (hp:α->List SB) (pre:α->Prop)
 (hx:RH Γ P e G x true (vmg (hide (fun _ J' η'=>∃ a,pre a/\StH Γ e J' η' (appL (ch a) (vjn keep 0 J)) (hp a)) ()) Q) J η)
 (hy:∀ a,pre a->RH Γ P e G y true Q (vxk (appL (ch a) (vjn keep 0 J))) (hp a)):ye1 Γ P e G x y Q J η:=
 vtt ((RH.sound x true _ _ _ hx).mono (fun ex J' η' ⟨b,h⟩=>by
  cases ex with
  | normal=>
   obtain ⟨a,h1,h2⟩:=h;exact xty.le h2 (RH.sound y true _ _ _ (wwh (appL (ch a) (vjn keep 0 J))▸hy a h1))
  | _=>exact ⟨b,h⟩))
def nrmV (J:List SV):List SV:=J
theorem xm0:nrmV (a::J)=a::J:=_root_.id rfl
theorem yrn {a0 a1 a2 a3 a4 a5 a6 a7 a8 a9 a10 a11 a12 a13 a14 a15:SV} {r:List SV}:nrmV (chS a0 a1 a2 a3 a4 a5 a6 a7 a8 a9 a10 a11 a12 a13 a14 a15 r)=chS a0 a1 a2 a3 a4 a5 a6 a7 a8 a9 a10 a11 a12 a13 a14 a15 r:=_root_.id rfl
def nrmH (l:List HR):List HR:=l
theorem z7z:nrmH []=[]:=_root_.id rfl
theorem vdm {a:HR} {l:List HR}:nrmH (a::l)=a::l:=_root_.id rfl
def flF (c d:Bool) (A:Bool->Bool->Prop):Prop:=A c d
theorem vyi:flF true true A=A true true:=_root_.id rfl
theorem v54:flF true false A=A true false:=_root_.id rfl
theorem w03:flF false true A=A false true:=_root_.id rfl
theorem vix:flF false false A=A false false:=_root_.id rfl
theorem xlj {c d d':Bool} (h:c=c') (h2:d=d'):flF c d A=flF c' d' A:=by rw [h,h2]
theorem wb3 {f:Bool->List SV->List SB->Prop} {u:U f}:hide f u b J η=f b J η:=_root_.id rfl
theorem wjc {f:Bool->Bool->Prop} {u:U f} {c:Bool}:hide f u b c=f b c:=_root_.id rfl
theorem xsd {f:Bool->List SB->SV->Prop} {u:U f}:hide f u b η x=f b η x:=_root_.id rfl
theorem yhy {f:Bool->List Nat->List (Nat×SB)->SV->Prop} {u:U f} {η:List (Nat×SB)}:hide f u b rh η x=f b rh η x:=_root_.id rfl
theorem yv3 {f:Bool->List Nat->List Nat->List (Nat×SV)->List (Nat×SB)->Prop} {u:U f} {x:List (Nat×SV)} {y:List (Nat×SB)}:hide f u b rd rh x y=f b rd rh x y:=_root_.id rfl
theorem zc9 {x:List (Nat×SV)} {y:List (Nat×SB)} {z:Option SB}:tick (HO.eff rd rh x y z)=HO.eff rd rh x y z:=_root_.id rfl
theorem zvd {l:List AV}:tick (HO.callD f l rd rh bs)=HO.callD f l rd rh bs:=_root_.id rfl
theorem v8p:tick (HO.callH f l rd)=HO.callH f l rd:=_root_.id rfl
theorem v47 {r:Option SV} {ok:Bool}:tick (HO.look r z ok rd rh)=HO.look r z ok rd rh:=_root_.id rfl
theorem yiv:tick HO.bad=HO.bad:=_root_.id rfl
theorem v2z:tick Hp.GR.plain=Hp.GR.plain:=_root_.id rfl
theorem w8q {c:Bool}:tick (Hp.GR.when d c b)=Hp.GR.when d c b:=_root_.id rfl
theorem zul:tick (Hp.GR.skip d)=Hp.GR.skip d:=_root_.id rfl
theorem y6j {h:HC}:tick (SV.one h)=SV.one h:=_root_.id rfl
section
variable {Q:Exit->Bool->List SV->List SB->Prop} {J:List SV} {η:List SB}
theorem xva:RH Γ P e G .skip true Q J η=Q .normal true J η:=_root_.id rfl
theorem veh {l:List Oper}:RH Γ P e G (.region id l.toArray false) true Q J η=flF (tick (!(zes (yau G id)))) (tick (!(yfv (yau G id)))) (hide (fun lit fn=>x0m Γ P lit fn l true l (nrmV (anyS (yau G id) J)) η (Q .normal)) ()):=_root_.id rfl
theorem vvc {l:List Oper}:RH Γ P e G (.region id l.toArray true) true Q J η=yk9 P (hide (fun _=>flF (tick (!(zes (yau G id)))) (tick (!(yfv (yau G id)))) (hide (fun lit fn=>zmp Γ P lit fn η.length l true l (nrmH []) (nrmV (anyS (yau G id) J)) (η++ynl (yau G id)) (hide (fun b s t=>ybm η.length (Q .normal) b s t) ())) ())) ()):=_root_.id rfl
theorem xai {x y:Code}:RH Γ P e G (.seq x y) true Q J η=seqF (tick (v0l G y)) (hide (fun _=>ye1 Γ P e G x y Q J η) ()) (hide (fun _=>RH Γ P e G x true (vmg (hide (fun b J η=>RH Γ P e G y b Q J η) ()) Q) J η) ()):=_root_.id rfl
theorem xj7 {c:Operand} {x y:Code}:RH Γ P e G (.cond c x y) true Q J η=ynm c J (hide (fun b=>RH Γ P e G x b Q J η) ()) (hide (fun b=>RH Γ P e G y b Q J η) ()) (tick (opdS Γ J c)):=_root_.id rfl
theorem v58 {x:Code}:RH Γ P e G (.block id x) true Q J η=RH Γ P e G x true (yxm id Q) J η:=_root_.id rfl
theorem y02 {x:Code}:RH Γ P e G (.loop x) true Q J η=yrq Γ P e G x Q J η:=_root_.id rfl
theorem vhj:RH Γ P e G (.exit id) true Q J η=Q (.exit id) true J η:=_root_.id rfl
theorem zjw:RH Γ P e G .ret true Q J η=Q .ret true J η:=_root_.id rfl
theorem wfx {l:Nat}:RH Γ P e G (.label l) true Q J η=Q .normal true J η:=_root_.id rfl
theorem vtg:x0m Γ P lit fn ops true [] J η K=K true J η:=_root_.id rfl
theorem vns {r:List Oper}:x0m Γ P lit fn ops true (o::r) J η K=gdH Γ P lit fn (tick (v9k ops J o)) o J η true (hide (fun b J η=>x0m Γ P lit fn ops b r (nrmV J) η K) ()):=_root_.id rfl
theorem wqc {acc:List HR}:zmp Γ P lit fn nb ops true [] acc J η K=wzf ops acc (hide (fun b=>K b J η) ()):=_root_.id rfl
theorem v15 {r:List Oper} {acc:List HR}:zmp Γ P lit fn nb ops true (o::r) acc J η K=gdG Γ P lit fn nb (tick (v9k ops J o)) o J η true (hide (fun b rd rh x h=>zmp Γ P lit fn (nxtB nb h) ops b r (nrmH (acc++[⟨rd,rh,x,h⟩])) (nrmV (appL x J)) (appL h η) K) ()):=_root_.id rfl
theorem zva {n:Nat} {k:Bool->List SV->List SB->Prop}:ybm n k true J η=k true J (zdd n η):=_root_.id rfl
end
section
variable {next:Bool->List SV->List SB->Prop} {Q:Exit->Bool->List SV->List SB->Prop}
theorem z6s:vmg next Q .normal=next:=_root_.id rfl
theorem w9v:vmg next Q (.exit id)=Q (.exit id):=_root_.id rfl
theorem y1v:vmg next Q .ret=Q .ret:=_root_.id rfl
theorem v03:yxm id Q .normal=Q .normal:=_root_.id rfl
def selH (c:Bool) (x y:Bool->List SV->List SB->Prop):Bool->List SV->List SB->Prop:=match c with
 | true=>x
 | false=>y
theorem vzv {j:Nat}:yxm id Q (.exit j)=selH (j==id) (Q .normal) (Q (.exit j)):=by
 have h:yxm id Q (.exit j)=if j=id then Q .normal else Q (.exit j):=rfl
 rw [h];unfold selH;by_cases he:j=id
 . rw [if_pos he,show (j==id)=true from by simp [he]]
 . rw [if_neg he,show (j==id)=false from by simp [he]]
theorem zgr {x:Bool->List SV->List SB->Prop}:selH true x y=x:=rfl
theorem y4y {x:Bool->List SV->List SB->Prop}:selH false x y=y:=rfl
theorem y87 {c:Bool} {x:Bool->List SV->List SB->Prop} (h:c=c'):selH c x y=selH c' x y:=by rw [h]
theorem vb8:yxm id Q .ret=Q .ret:=_root_.id rfl
end
section
variable {o:Oper} {J:List SV} {η:List SB} {b:Bool} {k:Bool->List SV->List SB->Prop}
theorem v51 {x:List (Nat×SV)}:doH Γ P (.eff rd rh x h none) o J η b k=k b (appL x J) (appL h η):=_root_.id rfl
theorem xzh {x:List (Nat×SV)} {z:SB}:doH Γ P (.eff rd rh x h (some z)) o J η b k=k b (appL x J) (appL h η++[z]):=_root_.id rfl
theorem vc6 {l:List AV}:doH Γ P (.callD f l rd rh bs) o J η b k=wyw Γ P f l (appL (frzE η bs) η) (hide (fun b res=>resK o J (appL (frzE η bs) η) b k (resS η.length res)) ()) (hide (fun b η2 res=>k b (appL (yoh o res) J) η2) ()):=_root_.id rfl
theorem ywg:doH Γ P (.callH f l rd) o J η b k=vb3 Γ P f η l (hide (fun b η2 res=>k b (appL (yoh o res) J) η2) ()):=_root_.id rfl
theorem viz {r:Option SV} {ok:Bool}:doH Γ P (.look r z ok rd rh) o J η b k=wyu o J η b k (wnl ok r z):=_root_.id rfl
theorem y3q:doH Γ P .bad o J η b k=BadO o.op J η:=_root_.id rfl
theorem v5u {y:SV}:resK o J η b k (some (y,none))=k b (appL (yoh o y) J) η:=_root_.id rfl
theorem wpn:gdH Γ P lit fn .plain o J η b k=doH Γ P (tick (opF P Γ lit fn J η η.length o)) o J η b k:=_root_.id rfl
theorem x3a {c:Bool}:gdH Γ P lit fn (.when d c b') o J η b k=vai c b' (hide (fun b=>doH Γ P (tick (opF P Γ lit fn J η η.length o)) o J η b k) ()) (hide (fun b=>zhh o J η b k) ()):=_root_.id rfl
theorem we7:gdH Γ P lit fn (.skip d) o J η b k=zhh o J η b k:=_root_.id rfl
end
section
variable {o:Oper} {J:List SV} {η:List SB} {nb:Nat} {b:Bool} {k:Bool->List Nat->List Nat->List (Nat×SV)->List (Nat×SB)->Prop}
theorem z3z {x:List (Nat×SV)}:doG Γ P (.eff rd rh x h none) o J η nb b k=k b rd rh x h:=_root_.id rfl
theorem y8x {x:List (Nat×SV)} {z:SB}:doG Γ P (.eff rd rh x h (some z)) o J η nb b k=(y6w η nb=true/\k b rd (nb::rh) x (h++[(nb,z)])):=_root_.id rfl
theorem yp7 {l:List AV}:doG Γ P (.callD f l rd rh bs) o J η nb b k=yvg Γ P f l (hide (fun b res=>resG o J η nb rd rh bs b k (resS nb res)) ()):=_root_.id rfl
theorem zqh:doG Γ P (.callH f l rd) o J η nb b k=zgz Γ P f η l (hide (fun b rh heff res=>k b rd rh (yoh o res) heff) ()):=_root_.id rfl
theorem x3n {r:Option SV} {ok:Bool}:doG Γ P (.look r z ok rd rh) o J η nb b k=ypi o J η rd rh b k (wnl ok r z):=_root_.id rfl
theorem y8w:doG Γ P .bad o J η nb b k=BadO o.op J η:=_root_.id rfl
theorem zil {y:SV}:resG o J η nb rd rh bs b k (some (y,none))=k b rd (rh++bs) (yoh o y) (frzE η bs):=_root_.id rfl
theorem vpj {x:List (Nat×SV)}:onG d k b rd rh x h=k b (d::rd) rh x h:=_root_.id rfl
theorem x7k:gdG Γ P lit fn nb .plain o J η b k=doG Γ P (tick (opF P Γ lit fn J η nb o)) o J η nb b k:=_root_.id rfl
theorem zhb {c:Bool}:gdG Γ P lit fn nb (.when d c b') o J η b k=vai c b' (hide (fun b=>doG Γ P (tick (opF P Γ lit fn J η nb o)) o J η nb b (hide (fun b rd rh x h=>onG d k b rd rh x h) ())) ()) (hide (fun b=>yzy d o b k) ()):=_root_.id rfl
theorem xw0:gdG Γ P lit fn nb (.skip d) o J η b k=yzy d o b k:=_root_.id rfl
end
theorem zkb {c:Operand} {p:Bool}:ynm c J X Y (.one (.dat (.raw (.bool p))))=vm9 p X Y:=_root_.id rfl
theorem yx7:zd1 P rs res .ret b J η=endR η res (tick (zam P J η rs)):=_root_.id rfl
theorem v3m:endR η res (some x)=endD res (tick (y7k η x)):=_root_.id rfl
theorem weu {av:AV}:endD res (some (av,bs))=RLe av res:=_root_.id rfl
theorem xws {res:SV}:wgr Γ P e rs η' res .ret b J η=endH Γ e η η' res (tick (zam P J η rs)):=_root_.id rfl
theorem wnj {res:SV}:wgr Γ P e rs η' res .normal b J η=endH Γ e η η' res (tick (zam P J η rs)):=_root_.id rfl
theorem zml {res:SV}:endH Γ e η η' res (some x)=StH Γ e [x] η [res] η':=_root_.id rfl
theorem vxp {x:α}:tick (some x)=some x:=_root_.id rfl
theorem ych {o o':Option SV} (h:o=o') (hη:η=η'):endR η res o=endR η' res o':=by rw [h,hη]
theorem zh8 {o o':Option (AV×List Nat)} (h:o=o'):endD res o=endD res o':=by rw [h]
theorem z9k {res:SV} {o o':Option SV} (h:o=o') (hη:η=η1):endH Γ e η η' res o=endH Γ e η1 η' res o':=by rw [h,hη]
theorem xp1 {η1':List SB} {σ1 σ1':List SV} (h:J=σ1) (hη:η=η1) (h':J'=σ1') (hη':η'=η1'):StH Γ e J η J' η'=StH Γ e σ1 η1 σ1' η1':=by rw [h,hη,h',hη']
section
variable {o o':Oper} {J J':List SV} {η η':List SB} {b:Bool}
theorem xqy {k:Bool->List SV->List SB->Prop} {x:HO} (h:x=x'):doH Γ P x o J η b k=doH Γ P x' o J η b k:=by rw [h]
theorem yc7 {k:Bool->List Nat->List Nat->List (Nat×SV)->List (Nat×SB)->Prop} {x:HO} (h:x=x'):doG Γ P x o J η nb b k=doG Γ P x' o J η nb b k:=by rw [h]
theorem vtv {k:Bool->List Nat->List Nat->List (Nat×SV)->List (Nat×SB)->Prop} {r r':Option (SV×Option SB)} (h:r=r'):resG o J η nb rd rh bs b k r=resG o J η nb rd rh bs b k r':=by rw [h]
theorem xnp {c:Operand} {v v':SV} (h:v=v'):ynm c J X Y v=ynm c J X Y v':=by rw [h]
theorem y28 (h:J=J') (hη:η=η'):yrq Γ P e G c Q J η=yrq Γ P e G c Q J' η':=by rw [h,hη]
theorem ytw {l:List Oper} (h:J=J') (hη:η=η'):x0m Γ P lit fn ops b l J η K=x0m Γ P lit fn ops b l J' η' K:=by rw [h,hη]
theorem wdc {nb':Nat} {l:List Oper} {acc acc':List HR} (hn:nb=nb') (ha:acc=acc') (h:J=J') (hη:η=η'):zmp Γ P lit fn nb ops b l acc J η K=zmp Γ P lit fn nb' ops b l acc' J' η' K:=by rw [h,ha,hη,hn]
end
def yd5 (P:Program) (t:TypeId):TypeInfo:=(P.info? t).getD default
theorem vaf:gtS (a::J) 0=a:=rfl
theorem yg9 {n:Nat}:gtS (a::J) (n+1)=gtS J n:=rfl
theorem yus {a:SB}:gB (a::η) 0=a:=rfl
theorem v5m {a:SB} {n:Nat}:gB (a::η) (n+1)=gB η n:=rfl
theorem xqb:appL [] l=l:=rfl
theorem yx5 {p:Nat×SV} {r:List (Nat×SV)}:appL (p::r) l=appL r (l.set p.1 p.2):=rfl
theorem zai {l:List SB}:appL [] l=l:=rfl
theorem y4r {p:Nat×SB} {r:List (Nat×SB)} {l:List SB}:appL (p::r) l=appL r (l.set p.1 p.2):=rfl
theorem z5w {t:Nat}:opdS Γ J (.tmp t)=gtS J t:=rfl
theorem yba {v:Value}:opdS Γ J (.const v)=yhg v:=rfl
theorem xro:opdS Γ J (.func f)=.one (.dat (.raw (.func (.func f) #[] #[]))):=rfl
theorem xzv {g:Nat}:opdS Γ J (.global g)=vjd Γ g:=rfl
theorem wx9:nh (J.map vw) d=decide (d<J.length):=by
 unfold nh;by_cases h:d<J.length
 . rw [List.getElem?_map,List.getElem?_eq_getElem h,decide_eq_true h];simp only [Option.map_some,xuc,Bool.not_false]
 . rw [List.getElem?_map,List.getElem?_eq_none (by omega),decide_eq_false h];rfl
section
variable {a0 a1 a2 a3 a4 a5 a6 a7 a8 a9 a10 a11 a12 a13 a14 a15 x:SV} {r:List SV} {n:Nat}
theorem xpf:gtS (chS a0 a1 a2 a3 a4 a5 a6 a7 a8 a9 a10 a11 a12 a13 a14 a15 r) 0=a0:=rfl
theorem zb4:(chS a0 a1 a2 a3 a4 a5 a6 a7 a8 a9 a10 a11 a12 a13 a14 a15 r).set 0 x=chS x a1 a2 a3 a4 a5 a6 a7 a8 a9 a10 a11 a12 a13 a14 a15 r:=rfl
theorem x30:gtS (chS a0 a1 a2 a3 a4 a5 a6 a7 a8 a9 a10 a11 a12 a13 a14 a15 r) 1=a1:=rfl
theorem zz7:(chS a0 a1 a2 a3 a4 a5 a6 a7 a8 a9 a10 a11 a12 a13 a14 a15 r).set 1 x=chS a0 x a2 a3 a4 a5 a6 a7 a8 a9 a10 a11 a12 a13 a14 a15 r:=rfl
theorem zsf:gtS (chS a0 a1 a2 a3 a4 a5 a6 a7 a8 a9 a10 a11 a12 a13 a14 a15 r) 2=a2:=rfl
theorem wcd:(chS a0 a1 a2 a3 a4 a5 a6 a7 a8 a9 a10 a11 a12 a13 a14 a15 r).set 2 x=chS a0 a1 x a3 a4 a5 a6 a7 a8 a9 a10 a11 a12 a13 a14 a15 r:=rfl
theorem zqf:gtS (chS a0 a1 a2 a3 a4 a5 a6 a7 a8 a9 a10 a11 a12 a13 a14 a15 r) 3=a3:=rfl
theorem wo3:(chS a0 a1 a2 a3 a4 a5 a6 a7 a8 a9 a10 a11 a12 a13 a14 a15 r).set 3 x=chS a0 a1 a2 x a4 a5 a6 a7 a8 a9 a10 a11 a12 a13 a14 a15 r:=rfl
theorem z0y:gtS (chS a0 a1 a2 a3 a4 a5 a6 a7 a8 a9 a10 a11 a12 a13 a14 a15 r) 4=a4:=rfl
theorem wud:(chS a0 a1 a2 a3 a4 a5 a6 a7 a8 a9 a10 a11 a12 a13 a14 a15 r).set 4 x=chS a0 a1 a2 a3 x a5 a6 a7 a8 a9 a10 a11 a12 a13 a14 a15 r:=rfl
theorem vyt:gtS (chS a0 a1 a2 a3 a4 a5 a6 a7 a8 a9 a10 a11 a12 a13 a14 a15 r) 5=a5:=rfl
theorem wuw:(chS a0 a1 a2 a3 a4 a5 a6 a7 a8 a9 a10 a11 a12 a13 a14 a15 r).set 5 x=chS a0 a1 a2 a3 a4 x a6 a7 a8 a9 a10 a11 a12 a13 a14 a15 r:=rfl
theorem wyr:gtS (chS a0 a1 a2 a3 a4 a5 a6 a7 a8 a9 a10 a11 a12 a13 a14 a15 r) 6=a6:=rfl
theorem zax:(chS a0 a1 a2 a3 a4 a5 a6 a7 a8 a9 a10 a11 a12 a13 a14 a15 r).set 6 x=chS a0 a1 a2 a3 a4 a5 x a7 a8 a9 a10 a11 a12 a13 a14 a15 r:=rfl
theorem zkn:gtS (chS a0 a1 a2 a3 a4 a5 a6 a7 a8 a9 a10 a11 a12 a13 a14 a15 r) 7=a7:=rfl
theorem yqe:(chS a0 a1 a2 a3 a4 a5 a6 a7 a8 a9 a10 a11 a12 a13 a14 a15 r).set 7 x=chS a0 a1 a2 a3 a4 a5 a6 x a8 a9 a10 a11 a12 a13 a14 a15 r:=rfl
theorem zrp:gtS (chS a0 a1 a2 a3 a4 a5 a6 a7 a8 a9 a10 a11 a12 a13 a14 a15 r) 8=a8:=rfl
theorem xzy:(chS a0 a1 a2 a3 a4 a5 a6 a7 a8 a9 a10 a11 a12 a13 a14 a15 r).set 8 x=chS a0 a1 a2 a3 a4 a5 a6 a7 x a9 a10 a11 a12 a13 a14 a15 r:=rfl
theorem x59:gtS (chS a0 a1 a2 a3 a4 a5 a6 a7 a8 a9 a10 a11 a12 a13 a14 a15 r) 9=a9:=rfl
theorem xqz:(chS a0 a1 a2 a3 a4 a5 a6 a7 a8 a9 a10 a11 a12 a13 a14 a15 r).set 9 x=chS a0 a1 a2 a3 a4 a5 a6 a7 a8 x a10 a11 a12 a13 a14 a15 r:=rfl
theorem ztq:gtS (chS a0 a1 a2 a3 a4 a5 a6 a7 a8 a9 a10 a11 a12 a13 a14 a15 r) 10=a10:=rfl
theorem w2o:(chS a0 a1 a2 a3 a4 a5 a6 a7 a8 a9 a10 a11 a12 a13 a14 a15 r).set 10 x=chS a0 a1 a2 a3 a4 a5 a6 a7 a8 a9 x a11 a12 a13 a14 a15 r:=rfl
theorem zug:gtS (chS a0 a1 a2 a3 a4 a5 a6 a7 a8 a9 a10 a11 a12 a13 a14 a15 r) 11=a11:=rfl
theorem y0q:(chS a0 a1 a2 a3 a4 a5 a6 a7 a8 a9 a10 a11 a12 a13 a14 a15 r).set 11 x=chS a0 a1 a2 a3 a4 a5 a6 a7 a8 a9 a10 x a12 a13 a14 a15 r:=rfl
theorem wxb:gtS (chS a0 a1 a2 a3 a4 a5 a6 a7 a8 a9 a10 a11 a12 a13 a14 a15 r) 12=a12:=rfl
theorem zis:(chS a0 a1 a2 a3 a4 a5 a6 a7 a8 a9 a10 a11 a12 a13 a14 a15 r).set 12 x=chS a0 a1 a2 a3 a4 a5 a6 a7 a8 a9 a10 a11 x a13 a14 a15 r:=rfl
theorem yrv:gtS (chS a0 a1 a2 a3 a4 a5 a6 a7 a8 a9 a10 a11 a12 a13 a14 a15 r) 13=a13:=rfl
theorem zxf:(chS a0 a1 a2 a3 a4 a5 a6 a7 a8 a9 a10 a11 a12 a13 a14 a15 r).set 13 x=chS a0 a1 a2 a3 a4 a5 a6 a7 a8 a9 a10 a11 a12 x a14 a15 r:=rfl
theorem zc6:gtS (chS a0 a1 a2 a3 a4 a5 a6 a7 a8 a9 a10 a11 a12 a13 a14 a15 r) 14=a14:=rfl
theorem zns:(chS a0 a1 a2 a3 a4 a5 a6 a7 a8 a9 a10 a11 a12 a13 a14 a15 r).set 14 x=chS a0 a1 a2 a3 a4 a5 a6 a7 a8 a9 a10 a11 a12 a13 x a15 r:=rfl
theorem zpk:gtS (chS a0 a1 a2 a3 a4 a5 a6 a7 a8 a9 a10 a11 a12 a13 a14 a15 r) 15=a15:=rfl
theorem wsl:(chS a0 a1 a2 a3 a4 a5 a6 a7 a8 a9 a10 a11 a12 a13 a14 a15 r).set 15 x=chS a0 a1 a2 a3 a4 a5 a6 a7 a8 a9 a10 a11 a12 a13 a14 x r:=rfl
theorem yj5:gtS (chS a0 a1 a2 a3 a4 a5 a6 a7 a8 a9 a10 a11 a12 a13 a14 a15 r) (n+16)=gtS r n:=rfl
theorem vl1:(chS a0 a1 a2 a3 a4 a5 a6 a7 a8 a9 a10 a11 a12 a13 a14 a15 r).set (n+16) x=chS a0 a1 a2 a3 a4 a5 a6 a7 a8 a9 a10 a11 a12 a13 a14 a15 (r.set n x):=rfl
theorem vo5:(chS a0 a1 a2 a3 a4 a5 a6 a7 a8 a9 a10 a11 a12 a13 a14 a15 r).length=r.length+16:=rfl
theorem voz:vxk (a0::a1::a2::a3::a4::a5::a6::a7::a8::a9::a10::a11::a12::a13::a14::a15::r)=chS a0 a1 a2 a3 a4 a5 a6 a7 a8 a9 a10 a11 a12 a13 a14 a15 (vxk r):=rfl
theorem xmz:vxk (chS a0 a1 a2 a3 a4 a5 a6 a7 a8 a9 a10 a11 a12 a13 a14 a15 r)=chS a0 a1 a2 a3 a4 a5 a6 a7 a8 a9 a10 a11 a12 a13 a14 a15 (vxk r):=rfl
theorem z6y:vxk []=[]:=rfl
theorem x7z:vxk [a0]=[a0]:=rfl
theorem wib:vxk [a0,a1]=[a0,a1]:=rfl
theorem zem:vxk [a0,a1,a2]=[a0,a1,a2]:=rfl
theorem vp9:vxk [a0,a1,a2,a3]=[a0,a1,a2,a3]:=rfl
theorem yoe:vxk [a0,a1,a2,a3,a4]=[a0,a1,a2,a3,a4]:=rfl
theorem zvt:vxk [a0,a1,a2,a3,a4,a5]=[a0,a1,a2,a3,a4,a5]:=rfl
theorem xoj:vxk [a0,a1,a2,a3,a4,a5,a6]=[a0,a1,a2,a3,a4,a5,a6]:=rfl
theorem v4z:vxk [a0,a1,a2,a3,a4,a5,a6,a7]=[a0,a1,a2,a3,a4,a5,a6,a7]:=rfl
theorem zp8:vxk [a0,a1,a2,a3,a4,a5,a6,a7,a8]=[a0,a1,a2,a3,a4,a5,a6,a7,a8]:=rfl
theorem v9b:vxk [a0,a1,a2,a3,a4,a5,a6,a7,a8,a9]=[a0,a1,a2,a3,a4,a5,a6,a7,a8,a9]:=rfl
theorem yeh:vxk [a0,a1,a2,a3,a4,a5,a6,a7,a8,a9,a10]=[a0,a1,a2,a3,a4,a5,a6,a7,a8,a9,a10]:=rfl
theorem ycs:vxk [a0,a1,a2,a3,a4,a5,a6,a7,a8,a9,a10,a11]=[a0,a1,a2,a3,a4,a5,a6,a7,a8,a9,a10,a11]:=rfl
theorem xcm:vxk [a0,a1,a2,a3,a4,a5,a6,a7,a8,a9,a10,a11,a12]=[a0,a1,a2,a3,a4,a5,a6,a7,a8,a9,a10,a11,a12]:=rfl
theorem wb7:vxk [a0,a1,a2,a3,a4,a5,a6,a7,a8,a9,a10,a11,a12,a13]=[a0,a1,a2,a3,a4,a5,a6,a7,a8,a9,a10,a11,a12,a13]:=rfl
theorem vvy:vxk [a0,a1,a2,a3,a4,a5,a6,a7,a8,a9,a10,a11,a12,a13,a14]=[a0,a1,a2,a3,a4,a5,a6,a7,a8,a9,a10,a11,a12,a13,a14]:=rfl
theorem x1f {ks:List Nat} {i:Nat}:vjn ks i (chS a0 a1 a2 a3 a4 a5 a6 a7 a8 a9 a10 a11 a12 a13 a14 a15 r)=vjn ks i (a0::a1::a2::a3::a4::a5::a6::a7::a8::a9::a10::a11::a12::a13::a14::a15::r):=rfl
end
attribute [go_sem] xpf x30 zsf zqf z0y vyt wyr zkn zrp x59 ztq zug wxb yrv zc6 zpk zb4 zz7 wcd wo3 wud wuw zax yqe xzy xqz w2o y0q zis zxf zns wsl z6y x7z wib zem vp9 yoe zvt xoj v4z zp8 v9b yeh ycs xcm wb7 vvy yj5 vl1 vo5 voz xmz x1f
attribute [go_sem ↓] xva veh vvc xai xj7 v58 y02 vhj zjw wfx
attribute [go_sem] vtg vns wqc v15 zva xm0 yrn z7z vdm
attribute [go_sem ↓] wb3 wjc xsd yhy yv3
attribute [go_sem] zc9 zvd v8p v47 yiv y6j v2z w8q zul
attribute [go_sem ↓] z6s w9v y1v v03 vzv vb8
attribute [go_sem] zgr y4y vyi v54 w03 vix
attribute [go_sem] v51 xzh vc6 ywg viz y3q v5u wpn x3a we7 zhh wyu
attribute [go_sem] z3z y8x yp7 zqh x3n y8w zil vpj x7k zhb xw0 yzy ypi
attribute [go_sem] zkb yx7 xws wnj v3m weu zml vxp
attribute [congr] xqy yc7 vtv xnp y28 ytw wdc xlj y87 ych zh8 z9k xp1
attribute [go_sem] vaf yg9 yus v5m xqb yx5 zai y4r z5w yba xro xzv wx9
attribute [go_sem] yau w8s zes yfv anyS v0l vjn ynl v94 nxtB
attribute [go_sem] v9k opF x44 vhf fBin fUn xkx vy0 vdl w6m xa7 xyd fLen v90 ws6 fNil wqd wlj fBox opH opP yc3 wz2 wz2.callG xb0 ys6 opH.appO oldO oldR av2 vO nO isNil w3q
attribute [go_sem] wj1 rawS z0q xb6 wc3 TI.many seeH zj0 z9y vpm wza ptrH lenH natH ycd vaw argD y7w vnq xw8 xo6 resS z8h yoh yhg vjd frzB frzE wry subC xf6 xs7 appT dstH srcH v0r
attribute [go_sem] y6f updM kEq yt9 keyX wzh ymr v9t wle rawL wnl wox y5y zt0 v4m x03 zam y7k zdd y6w zrs oB oN x96 intS ckH y3k zv7 wkc xya vw vwO vwG datL datH
end Go.Hp
