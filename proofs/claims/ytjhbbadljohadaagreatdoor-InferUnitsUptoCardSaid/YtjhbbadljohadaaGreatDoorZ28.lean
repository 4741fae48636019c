/- The proof, part Z28: Ib. -/
import Derived.Test.YtjhbbadljohadaaGreatDoorZ27
namespace Go.Hp
open Go Go.RowKit Go.Slot
variable {P:Program} {Γ:List (Nat×List Cell)} {e:List SB} {G:List (Nat×List GhH)}
def chS (a0 a1 a2 a3 a4 a5 a6 a7 a8 a9 a10 a11 a12 a13 a14 a15:SV) (r:List SV):List SV:=a0::a1::a2::a3::a4::a5::a6::a7::a8::a9::a10::a11::a12::a13::a14::a15::r
def packV:List SV→List SV
 | a0::a1::a2::a3::a4::a5::a6::a7::a8::a9::a10::a11::a12::a13::a14::a15::r=>chS a0 a1 a2 a3 a4 a5 a6 a7 a8 a9 a10 a11 a12 a13 a14 a15 (packV r)
 | l=>l
theorem packV_eq:∀ l:List SV,packV l=l
 | []=>rfl
 | [a0]=>rfl
 | [a0,a1]=>rfl
 | [a0,a1,a2]=>rfl
 | [a0,a1,a2,a3]=>rfl
 | [a0,a1,a2,a3,a4]=>rfl
 | [a0,a1,a2,a3,a4,a5]=>rfl
 | [a0,a1,a2,a3,a4,a5,a6]=>rfl
 | [a0,a1,a2,a3,a4,a5,a6,a7]=>rfl
 | [a0,a1,a2,a3,a4,a5,a6,a7,a8]=>rfl
 | [a0,a1,a2,a3,a4,a5,a6,a7,a8,a9]=>rfl
 | [a0,a1,a2,a3,a4,a5,a6,a7,a8,a9,a10]=>rfl
 | [a0,a1,a2,a3,a4,a5,a6,a7,a8,a9,a10,a11]=>rfl
 | [a0,a1,a2,a3,a4,a5,a6,a7,a8,a9,a10,a11,a12]=>rfl
 | [a0,a1,a2,a3,a4,a5,a6,a7,a8,a9,a10,a11,a12,a13]=>rfl
 | [a0,a1,a2,a3,a4,a5,a6,a7,a8,a9,a10,a11,a12,a13,a14]=>rfl
 | a0::a1::a2::a3::a4::a5::a6::a7::a8::a9::a10::a11::a12::a13::a14::a15::r=>by
  show chS a0 a1 a2 a3 a4 a5 a6 a7 a8 a9 a10 a11 a12 a13 a14 a15 (packV r)=_
  rw [packV_eq r];rfl
def endD (res:AV):Option (AV×List Nat)→Prop
 | some (av,_)=>RLe av res
 | none=>False
def endR (η:List SB) (res:AV):Option SV→Prop
 | some x=>endD res (datRes η x)
 | none=>False
theorem endR_ok {η:List SB} {res:AV} {o:Option SV} (h:endR η res o):∃ x av bs,o=some x∧datRes η x=some (av,bs)∧RLe av res:=by
 cases o with
 | none=>exact h.elim
 | some x=>
  have h:endD res (datRes η x):=h
  unfold endD at h
  split at h
  · rename_i av bs hd;exact ⟨x,av,bs,rfl,hd,h⟩
  · exact h.elim
def retDC (P:Program) (rs:List ResultVar) (res:AV):Exit→Bool→List SV→List SB→Prop
 | .ret,_,σ,η | .normal,_,σ,η=>endR η res (resHV P σ η rs)
 | _,_,_,_=>False
theorem CallsD.run (G:List (Nat×List GhH)) {f:FuncId} {fn:Func} {c:Code} {args:List AV} {sl:List SV} {res:AV} (hf:P.funcs[f]? = some fn) (hb:fn.body=some c) (hname:(fn.name == "runtime.NumGoroutine")=false) (ha:fromL args=some sl)
 (h:RH Γ P [] G c true (retDC P fn.results.toList res) (packV (sl++List.replicate (fn.ntmps-sl.length) .undef)) []):CallsD Γ P f args res:=by
 rw [packV_eq] at h
 refine CallsD.of hf hb hname ha ((RH.sound c true _ _ _ h).mono ?_)
 intro ex σ η ⟨b,h⟩
 cases ex with
 | normal=>exact endR_ok h
 | ret=>exact endR_ok h
 | _=>exact h.elim
def endH (Γ:List (Nat×List Cell)) (e η:List SB) (η':List SB) (res:SV):Option SV→Prop
 | some x=>StH Γ e [x] η [res] η'
 | none=>False
def retHC (Γ:List (Nat×List Cell)) (P:Program) (e:List SB) (rs:List ResultVar) (η':List SB) (res:SV):Exit→Bool→List SV→List SB→Prop
 | .ret,_,σ,η | .normal,_,σ,η=>endH Γ e η η' res (resHV P σ η rs)
 | _,_,_,_=>False
theorem endH_ok {η η':List SB} {res:SV} {o:Option SV} (h:endH Γ e η η' res o):∃ x,o=some x∧StH Γ e [x] η [res] η':=by
 cases o with
 | none=>exact h.elim
 | some x=>exact ⟨x,rfl,h⟩
theorem CallsH.run (G:List (Nat×List GhH)) {f:FuncId} {fn:Func} {c:Code} {η η':List SB} {args:List SV} {res:SV} (hf:P.funcs[f]? = some fn) (hb:fn.body=some c) (hname:(fn.name == "runtime.NumGoroutine")=false)
 (h:RH Γ P η G c true (retHC Γ P η fn.results.toList η' res) (packV (args++List.replicate (fn.ntmps-args.length) .undef)) η):CallsH Γ P f η args η' res:=by
 rw [packV_eq] at h
 refine CallsH.of hf hb hname ((RH.sound c true _ _ _ h).mono ?_)
 intro ex σ η1 ⟨b,h⟩
 cases ex with
 | normal=>exact endH_ok h
 | ret=>exact endH_ok h
 | _=>exact h.elim
theorem CallsD.le {f:FuncId} {args:List AV} {res res':AV} (h:CallsD Γ P f args res) (hle:RLe res res'):CallsD Γ P f args res':=
 ⟨h.1,fun M w vs hM hg hr=>(h.2 M w vs hM hg hr).mono (fun _ _ ⟨v,h1,h2,h3,h4⟩=>⟨v,h1,h2,h3.le hle,fun hh=>h4 (hle.holder hh)⟩)⟩
theorem LoopR.le {c:Code} {Q:Exit→List SV→List SB→Prop} {σ σ':List SV} {η η':List SB} (h:StH Γ e σ η σ' η') (hc:LoopR Γ P e c Q σ' η'):LoopR Γ P e c Q σ η:=fun E ρ a w hE hR=>by
 obtain ⟨ρ',hR'⟩:=h E ρ a w hE hR
 exact hc E ρ' a w hE hR'
theorem LoopR.fam {α : Type} {c : Code} {Q : Exit → List SV → List SB → Prop} (invS : α → List SV) (invH : α → List SB) (pre : α → Prop) (μ : α → Nat)
 (round:∀ x,pre x→HCode Γ P e c (thenH (fun σ' η'=>∃ y,pre y∧μ y<μ x∧StH Γ e σ' η' (invS y) (invH y)) Q) (invS x) (invH x)):∀(n:Nat) (x:α),μ x<n→pre x→LoopR Γ P e c Q (invS x) (invH x)
 | 0,_,h,_=>absurd h (Nat.not_lt_zero _)
 | n + 1, x, h, hx => LoopR.round ((round x hx).mono (fun ex σ η hq => by
  cases ex with
  | normal=>
   obtain ⟨y,h1,h2,h3⟩:=hq
   exact LoopR.le h3 (LoopR.fam invS invH pre μ round n y (by omega) h1)
  | _=>exact hq))
theorem hloop {α:Type} {c:Code} {Q:Exit→Bool→List SV→List SB→Prop} {σ:List SV} {η:List SB} (keep:List Nat) (ch:α→List (Nat×SV)) (hp:α→List SB) (pre:α→Prop) (μ:α→Nat) (x0:α) (h0:pre x0)
 (hle:StH Γ e σ η (appL (ch x0) (onlyV keep 0 σ)) (hp x0))
 (round:∀ x,pre x→RH Γ P e G c true (thenHC (hide (fun _ σ' η'=>∃ y,pre y∧μ y<μ x∧StH Γ e σ' η' (appL (ch y) (onlyV keep 0 σ)) (hp y)) ()) Q) (packV (appL (ch x) (onlyV keep 0 σ))) (hp x)):LoopKH Γ P e G c Q σ η:=
 HCode.le hle (LoopR.loop (LoopR.fam (fun x=>appL (ch x) (onlyV keep 0 σ)) hp pre μ (fun x hx=>(RH.sound c true _ _ _ (packV_eq (appL (ch x) (onlyV keep 0 σ))▸round x hx)).mono (fun ex σ' η' ⟨b,h⟩=>by
  cases ex with
  | normal=>exact h
  | _=>exact ⟨b,h⟩)) _ x0 (Nat.lt_succ_self _) h0))
def LoopRK (Γ:List (Nat×List Cell)) (P:Program) (e:List SB) (_G:List (Nat×List GhH)) (c:Code) (Q:Exit→Bool→List SV→List SB→Prop) (σ:List SV) (η:List SB):Prop:=LoopR Γ P e c (outH Q) σ η
theorem hround {c:Code} {Q:Exit→Bool→List SV→List SB→Prop} {σ:List SV} {η:List SB} (h:RH Γ P e G c true (thenHC (hide (fun _ σ' η'=>LoopRK Γ P e G c Q σ' η') ()) Q) σ η):LoopRK Γ P e G c Q σ η:=
 LoopR.round ((RH.sound c true _ _ _ h).mono (fun ex σ' η' ⟨b,h⟩=>by
  cases ex with
  | normal=>exact h
  | _=>exact ⟨b,h⟩))
theorem hunroll {c:Code} {Q:Exit→Bool→List SV→List SB→Prop} {σ:List SV} {η:List SB} (h:RH Γ P e G c true (thenHC (hide (fun _ σ' η'=>LoopRK Γ P e G c Q σ' η') ()) Q) σ η):LoopKH Γ P e G c Q σ η:=LoopR.loop (hround h)
theorem hjoin {α:Type} {x y:Code} {Q:Exit→Bool→List SV→List SB→Prop} {σ:List SV} {η:List SB} (keep:List Nat) (ch:α→List (Nat×SV)) (hp:α→List SB) (pre:α→Prop)
 (hx:RH Γ P e G x true (thenHC (hide (fun _ σ' η'=>∃ a,pre a∧StH Γ e σ' η' (appL (ch a) (onlyV keep 0 σ)) (hp a)) ()) Q) σ η)
 (hy:∀ a,pre a→RH Γ P e G y true Q (packV (appL (ch a) (onlyV keep 0 σ))) (hp a)):JoinKH Γ P e G x y Q σ η:=
 hcode_seq ((RH.sound x true _ _ _ hx).mono (fun ex σ' η' ⟨b,h⟩=>by
  cases ex with
  | normal=>
   obtain ⟨a,h1,h2⟩:=h
   exact HCode.le h2 (RH.sound y true _ _ _ (packV_eq (appL (ch a) (onlyV keep 0 σ))▸hy a h1))
  | _=>exact ⟨b,h⟩))
def nrmV (σ:List SV):List SV:=σ
theorem nrmV_cons {a:SV} {σ:List SV}:nrmV (a::σ)=a::σ:=_root_.id rfl
theorem nrmV_ch {a0 a1 a2 a3 a4 a5 a6 a7 a8 a9 a10 a11 a12 a13 a14 a15:SV} {r:List SV}:nrmV (chS a0 a1 a2 a3 a4 a5 a6 a7 a8 a9 a10 a11 a12 a13 a14 a15 r)=chS a0 a1 a2 a3 a4 a5 a6 a7 a8 a9 a10 a11 a12 a13 a14 a15 r:=_root_.id rfl
def nrmH (l:List HR):List HR:=l
theorem nrmH_nil:nrmH []=[]:=_root_.id rfl
theorem nrmH_cons {a:HR} {l:List HR}:nrmH (a::l)=a::l:=_root_.id rfl
def flF (c d:Bool) (A:Bool→Bool→Prop):Prop:=A c d
theorem flF_tt {A:Bool→Bool→Prop}:flF true true A=A true true:=_root_.id rfl
theorem flF_tf {A:Bool→Bool→Prop}:flF true false A=A true false:=_root_.id rfl
theorem flF_congr {c c' d d':Bool} {A:Bool→Bool→Prop} (h:c=c') (h2:d=d'):flF c d A=flF c' d' A:=by rw [h,h2]
theorem hide_3 {f:Bool→List SV→List SB→Prop} {u:U f} {b:Bool} {σ:List SV} {η:List SB}:hide f u b σ η=f b σ η:=_root_.id rfl
theorem hide_l {f:Bool→Bool→Prop} {u:U f} {b c:Bool}:hide f u b c=f b c:=_root_.id rfl
theorem hide_h {f:Bool→List SB→SV→Prop} {u:U f} {b:Bool} {η:List SB} {x:SV}:hide f u b η x=f b η x:=_root_.id rfl
theorem hide_g {f:Bool→List (Nat×SB)→SV→Prop} {u:U f} {b:Bool} {η:List (Nat×SB)} {x:SV}:hide f u b η x=f b η x:=_root_.id rfl
theorem hide_5 {f:Bool→List Nat→List Nat→List (Nat×SV)→List (Nat×SB)→Prop} {u:U f} {b:Bool} {rd rh:List Nat} {x:List (Nat×SV)} {y:List (Nat×SB)}:hide f u b rd rh x y=f b rd rh x y:=_root_.id rfl
theorem tickH_eff {rd rh:List Nat} {x:List (Nat×SV)} {y:List (Nat×SB)} {z:Option SB}:tick (HO.eff rd rh x y z)=HO.eff rd rh x y z:=_root_.id rfl
theorem tickH_callD {f:FuncId} {l:List AV} {rd rh bs:List Nat}:tick (HO.callD f l rd rh bs)=HO.callD f l rd rh bs:=_root_.id rfl
theorem tickH_callH {f:FuncId} {l:List SV} {rd:List Nat}:tick (HO.callH f l rd)=HO.callH f l rd:=_root_.id rfl
theorem tickH_look {r:Option SV} {z:SV} {ok:Bool} {rd rh:List Nat}:tick (HO.look r z ok rd rh)=HO.look r z ok rd rh:=_root_.id rfl
theorem tickG_plain:tick Hp.GR.plain=Hp.GR.plain:=_root_.id rfl
theorem tickG_when {d:Nat} {c b:Bool}:tick (Hp.GR.when d c b)=Hp.GR.when d c b:=_root_.id rfl
theorem tickG_skip {d:Nat}:tick (Hp.GR.skip d)=Hp.GR.skip d:=_root_.id rfl
theorem tickH_one {h:HC}:tick (SV.one h)=SV.one h:=_root_.id rfl
section
variable {Q:Exit→Bool→List SV→List SB→Prop} {σ:List SV} {η:List SB}
theorem rh_skip:RH Γ P e G .skip true Q σ η=Q .normal true σ η:=_root_.id rfl
theorem rh_region {id:Nat} {l:List Oper}:RH Γ P e G (.region id l.toArray false) true Q σ η=flF (tick (!(hasOwn (ghOfH G id)))) (tick (!(hasClo (ghOfH G id)))) (hide (fun lit fn=>RunFH Γ P lit fn l true l (nrmV (anyS (ghOfH G id) σ)) η (Q .normal)) ()):=_root_.id rfl
theorem rh_regionD {id:Nat} {l:List Oper}:RH Γ P e G (.region id l.toArray true) true Q σ η=DrawKH P (hide (fun _=>flF (tick (!(hasOwn (ghOfH G id)))) (tick (!(hasClo (ghOfH G id)))) (hide (fun lit fn=>RunGH Γ P lit fn η.length l true l (nrmH []) (nrmV (anyS (ghOfH G id) σ)) (η++roomG (ghOfH G id)) (hide (fun b s t=>trimK η.length (Q .normal) b s t) ())) ())) ()):=_root_.id rfl
theorem rh_seq {x y:Code}:RH Γ P e G (.seq x y) true Q σ η=seqF (tick (joinAtH G y)) (hide (fun _=>JoinKH Γ P e G x y Q σ η) ()) (hide (fun _=>RH Γ P e G x true (thenHC (hide (fun b σ η=>RH Γ P e G y b Q σ η) ()) Q) σ η) ()):=_root_.id rfl
theorem rh_cond {c:Operand} {x y:Code}:RH Γ P e G (.cond c x y) true Q σ η=condFH c σ (hide (fun b=>RH Γ P e G x b Q σ η) ()) (hide (fun b=>RH Γ P e G y b Q σ η) ()) (tick (opdS Γ σ c)):=_root_.id rfl
theorem rh_block {id:Nat} {x:Code}:RH Γ P e G (.block id x) true Q σ η=RH Γ P e G x true (inBlockHC id Q) σ η:=_root_.id rfl
theorem rh_loop {x:Code}:RH Γ P e G (.loop x) true Q σ η=LoopKH Γ P e G x Q σ η:=_root_.id rfl
theorem rh_exit {id:Nat}:RH Γ P e G (.exit id) true Q σ η=Q (.exit id) true σ η:=_root_.id rfl
theorem rh_ret:RH Γ P e G .ret true Q σ η=Q .ret true σ η:=_root_.id rfl
theorem runFH_nil {lit fn:Bool} {ops:List Oper} {K:Bool→List SV→List SB→Prop}:RunFH Γ P lit fn ops true [] σ η K=K true σ η:=_root_.id rfl
theorem runFH_cons {lit fn:Bool} {ops:List Oper} {o:Oper} {r:List Oper} {K:Bool→List SV→List SB→Prop}:RunFH Γ P lit fn ops true (o::r) σ η K=gdH Γ P lit fn (tick (guardH ops σ o)) o σ η true (hide (fun b σ η=>RunFH Γ P lit fn ops b r (nrmV σ) η K) ()):=_root_.id rfl
theorem runGH_nil {lit fn:Bool} {nb:Nat} {ops:List Oper} {acc:List HR} {K:Bool→List SV→List SB→Prop}:RunGH Γ P lit fn nb ops true [] acc σ η K=IndKH ops acc (hide (fun b=>K b σ η) ()):=_root_.id rfl
theorem runGH_cons {lit fn:Bool} {nb:Nat} {ops:List Oper} {o:Oper} {r:List Oper} {acc:List HR} {K:Bool→List SV→List SB→Prop}:RunGH Γ P lit fn nb ops true (o::r) acc σ η K=gdG Γ P lit fn nb (tick (guardH ops σ o)) o σ η true (hide (fun b rd rh x h=>RunGH Γ P lit fn (nxtB nb h) ops b r (nrmH (acc++[⟨rd,rh,x,h⟩])) (nrmV (appL x σ)) (appL h η) K) ()):=_root_.id rfl
theorem trimK_t {n:Nat} {k:Bool→List SV→List SB→Prop}:trimK n k true σ η=k true σ (trimF n η):=_root_.id rfl
end
section
variable {next:Bool→List SV→List SB→Prop} {Q:Exit→Bool→List SV→List SB→Prop}
theorem thenHC_normal:thenHC next Q .normal=next:=_root_.id rfl
theorem thenHC_exit {id:Nat}:thenHC next Q (.exit id)=Q (.exit id):=_root_.id rfl
theorem thenHC_ret:thenHC next Q .ret=Q .ret:=_root_.id rfl
theorem inBlockHC_normal {id:Nat}:inBlockHC id Q .normal=Q .normal:=_root_.id rfl
def selH (c:Bool) (x y:Bool→List SV→List SB→Prop):Bool→List SV→List SB→Prop:=match c with
 | true=>x
 | false=>y
theorem inBlockHC_exit {id j:Nat}:inBlockHC id Q (.exit j)=selH (j==id) (Q .normal) (Q (.exit j)):=by
 have h:inBlockHC id Q (.exit j)=if j=id then Q .normal else Q (.exit j):=rfl
 rw [h]
 unfold selH
 by_cases he:j=id
 · rw [if_pos he,show (j==id)=true from by simp [he]]
 · rw [if_neg he,show (j==id)=false from by simp [he]]
theorem selH_t {x y:Bool→List SV→List SB→Prop}:selH true x y=x:=rfl
theorem selH_f {x y:Bool→List SV→List SB→Prop}:selH false x y=y:=rfl
theorem selH_congr {c c':Bool} {x y:Bool→List SV→List SB→Prop} (h:c=c'):selH c x y=selH c' x y:=by rw [h]
theorem inBlockHC_ret {id:Nat}:inBlockHC id Q .ret=Q .ret:=_root_.id rfl
end
section
variable {o:Oper} {σ:List SV} {η:List SB} {b:Bool} {k:Bool→List SV→List SB→Prop}
theorem doH_eff {rd rh:List Nat} {x:List (Nat×SV)} {h:List (Nat×SB)}:doH Γ P (.eff rd rh x h none) o σ η b k=k b (appL x σ) (appL h η):=_root_.id rfl
theorem doH_new {rd rh:List Nat} {x:List (Nat×SV)} {h:List (Nat×SB)} {z:SB}:doH Γ P (.eff rd rh x h (some z)) o σ η b k=k b (appL x σ) (appL h η++[z]):=_root_.id rfl
theorem doH_callD {f:FuncId} {l:List AV} {rd rh bs:List Nat}:doH Γ P (.callD f l rd rh bs) o σ η b k=CallKD Γ P f l (appL (frzE η bs) η) (hide (fun b res=>resK o σ (appL (frzE η bs) η) b k (resS η.length res)) ()) (hide (fun b η2 res=>k b (appL (dstEff o res) σ) η2) ()):=_root_.id rfl
theorem doH_callH {f:FuncId} {l:List SV} {rd:List Nat}:doH Γ P (.callH f l rd) o σ η b k=CallKH Γ P f η l (hide (fun b η2 res=>k b (appL (dstEff o res) σ) η2) ()):=_root_.id rfl
theorem doH_look {r:Option SV} {z:SV} {ok:Bool} {rd rh:List Nat}:doH Γ P (.look r z ok rd rh) o σ η b k=lookK o σ η b k (lookV ok r z):=_root_.id rfl
theorem resK_some {y:SV}:resK o σ η b k (some (y,none))=k b (appL (dstEff o y) σ) η:=_root_.id rfl
theorem gdH_plain {lit fn:Bool}:gdH Γ P lit fn .plain o σ η b k=doH Γ P (tick (opF P Γ lit fn σ η η.length o)) o σ η b k:=_root_.id rfl
theorem gdH_when {lit fn:Bool} {d:Nat} {c b':Bool}:gdH Γ P lit fn (.when d c b') o σ η b k=GuardK c b' (hide (fun b=>doH Γ P (tick (opF P Γ lit fn σ η η.length o)) o σ η b k) ()) (hide (fun b=>skipH o σ η b k) ()):=_root_.id rfl
theorem gdH_skip {lit fn:Bool} {d:Nat}:gdH Γ P lit fn (.skip d) o σ η b k=skipH o σ η b k:=_root_.id rfl
end
section
variable {o:Oper} {σ:List SV} {η:List SB} {nb:Nat} {b:Bool} {k:Bool→List Nat→List Nat→List (Nat×SV)→List (Nat×SB)→Prop}
theorem doG_eff {rd rh:List Nat} {x:List (Nat×SV)} {h:List (Nat×SB)}:doG Γ P (.eff rd rh x h none) o σ η nb b k=k b rd rh x h:=_root_.id rfl
theorem doG_new {rd rh:List Nat} {x:List (Nat×SV)} {h:List (Nat×SB)} {z:SB}:doG Γ P (.eff rd rh x h (some z)) o σ η nb b k=(roomB η nb=true∧k b rd (nb::rh) x (h++[(nb,z)])):=_root_.id rfl
theorem doG_callD {f:FuncId} {l:List AV} {rd rh bs:List Nat}:doG Γ P (.callD f l rd rh bs) o σ η nb b k=CallKE Γ P f l (hide (fun b res=>resG o σ η nb rd rh bs b k (resS nb res)) ()):=_root_.id rfl
theorem doG_callH {f:FuncId} {l:List SV} {rd:List Nat}:doG Γ P (.callH f l rd) o σ η nb b k=CallKG Γ P f η l (hide (fun b heff res=>k b rd (List.range η.length) (dstEff o res) heff) ()):=_root_.id rfl
theorem resG_some {rd rh bs:List Nat} {y:SV}:resG o σ η nb rd rh bs b k (some (y,none))=k b rd (rh++bs) (dstEff o y) (frzE η bs):=_root_.id rfl
theorem onG_t {d:Nat} {rd rh:List Nat} {x:List (Nat×SV)} {h:List (Nat×SB)}:onG d k b rd rh x h=k b (d::rd) rh x h:=_root_.id rfl
theorem gdG_plain {lit fn:Bool}:gdG Γ P lit fn nb .plain o σ η b k=doG Γ P (tick (opF P Γ lit fn σ η nb o)) o σ η nb b k:=_root_.id rfl
theorem gdG_when {lit fn:Bool} {d:Nat} {c b':Bool}:gdG Γ P lit fn nb (.when d c b') o σ η b k=GuardK c b' (hide (fun b=>doG Γ P (tick (opF P Γ lit fn σ η nb o)) o σ η nb b (hide (fun b rd rh x h=>onG d k b rd rh x h) ())) ()) (hide (fun b=>skipG d o b k) ()):=_root_.id rfl
theorem gdG_skip {lit fn:Bool} {d:Nat}:gdG Γ P lit fn nb (.skip d) o σ η b k=skipG d o b k:=_root_.id rfl
end
theorem condFH_bool {c:Operand} {σ:List SV} {X Y:Bool→Prop} {p:Bool}:condFH c σ X Y (.one (.dat (.raw (.bool p))))=CondK p X Y:=_root_.id rfl
theorem retDC_ret {rs:List ResultVar} {res:AV} {b:Bool} {σ:List SV} {η:List SB}:retDC P rs res .ret b σ η=endR η res (tick (resHV P σ η rs)):=_root_.id rfl
theorem endR_some {η:List SB} {res:AV} {x:SV}:endR η res (some x)=endD res (tick (datRes η x)):=_root_.id rfl
theorem endD_some {res av:AV} {bs:List Nat}:endD res (some (av,bs))=RLe av res:=_root_.id rfl
theorem retHC_ret {rs:List ResultVar} {res:SV} {b:Bool} {σ:List SV} {η η':List SB}:retHC Γ P e rs η' res .ret b σ η=endH Γ e η η' res (tick (resHV P σ η rs)):=_root_.id rfl
theorem retHC_normal {rs:List ResultVar} {res:SV} {b:Bool} {σ:List SV} {η η':List SB}:retHC Γ P e rs η' res .normal b σ η=endH Γ e η η' res (tick (resHV P σ η rs)):=_root_.id rfl
theorem endH_some {res x:SV} {η η':List SB}:endH Γ e η η' res (some x)=StH Γ e [x] η [res] η':=_root_.id rfl
theorem tick_some {α:Type} {x:α}:tick (some x)=some x:=_root_.id rfl
theorem endR_congr {η η':List SB} {res:AV} {o o':Option SV} (h:o=o') (hη:η=η'):endR η res o=endR η' res o':=by rw [h,hη]
theorem endD_congr {res:AV} {o o':Option (AV×List Nat)} (h:o=o'):endD res o=endD res o':=by rw [h]
theorem endH_congr {e η η' η1:List SB} {res:SV} {o o':Option SV} (h:o=o') (hη:η=η1):endH Γ e η η' res o=endH Γ e η1 η' res o':=by rw [h,hη]
theorem StH_congr {e η η' η1 η1':List SB} {σ σ1 σ' σ1':List SV} (h:σ=σ1) (hη:η=η1) (h':σ'=σ1') (hη':η'=η1'):StH Γ e σ η σ' η'=StH Γ e σ1 η1 σ1' η1':=by rw [h,hη,h',hη']
section
variable {o o':Oper} {σ σ':List SV} {η η':List SB} {b:Bool}
theorem doH_congr {k:Bool→List SV→List SB→Prop} {x x':HO} (h:x=x'):doH Γ P x o σ η b k=doH Γ P x' o σ η b k:=by rw [h]
theorem doG_congr {nb:Nat} {k:Bool→List Nat→List Nat→List (Nat×SV)→List (Nat×SB)→Prop} {x x':HO} (h:x=x'):doG Γ P x o σ η nb b k=doG Γ P x' o σ η nb b k:=by rw [h]
theorem resG_congr {nb:Nat} {rd rh bs:List Nat} {k:Bool→List Nat→List Nat→List (Nat×SV)→List (Nat×SB)→Prop} {r r':Option (SV×Option SB)} (h:r=r'):resG o σ η nb rd rh bs b k r=resG o σ η nb rd rh bs b k r':=by rw [h]
theorem condFH_congr {c:Operand} {X Y:Bool→Prop} {v v':SV} (h:v=v'):condFH c σ X Y v=condFH c σ X Y v':=by rw [h]
theorem runFH_congr {lit fn:Bool} {ops l:List Oper} {K:Bool→List SV→List SB→Prop} (h:σ=σ') (hη:η=η'):RunFH Γ P lit fn ops b l σ η K=RunFH Γ P lit fn ops b l σ' η' K:=by rw [h,hη]
theorem runGH_congr {lit fn:Bool} {nb nb':Nat} {ops l:List Oper} {acc acc':List HR} {K:Bool→List SV→List SB→Prop} (hn:nb=nb') (ha:acc=acc') (h:σ=σ') (hη:η=η'):RunGH Γ P lit fn nb ops b l acc σ η K=RunGH Γ P lit fn nb' ops b l acc' σ' η' K:=by rw [h,ha,hη,hn]
end
def infoP (P:Program) (t:TypeId):TypeInfo:=(P.info? t).getD default
theorem gtS_zero {a:SV} {σ:List SV}:gtS (a::σ) 0=a:=rfl
theorem gtS_succ {a:SV} {σ:List SV} {n:Nat}:gtS (a::σ) (n+1)=gtS σ n:=rfl
theorem gB_zero {a:SB} {η:List SB}:gB (a::η) 0=a:=rfl
theorem gB_succ {a:SB} {η:List SB} {n:Nat}:gB (a::η) (n+1)=gB η n:=rfl
theorem appL_nilS {l:List SV}:appL [] l=l:=rfl
theorem appL_consS {p:Nat×SV} {r:List (Nat×SV)} {l:List SV}:appL (p::r) l=appL r (l.set p.1 p.2):=rfl
theorem appL_nilB {l:List SB}:appL [] l=l:=rfl
theorem appL_consB {p:Nat×SB} {r:List (Nat×SB)} {l:List SB}:appL (p::r) l=appL r (l.set p.1 p.2):=rfl
theorem opdS_tmp {σ:List SV} {t:Nat}:opdS Γ σ (.tmp t)=gtS σ t:=rfl
theorem opdS_const {σ:List SV} {v:Value}:opdS Γ σ (.const v)=constSV v:=rfl
theorem opdS_func {σ:List SV} {f:FuncId}:opdS Γ σ (.func f)=.one (.dat (.raw (.func (.func f) #[] #[]))):=rfl
theorem opdS_global {σ:List SV} {g:Nat}:opdS Γ σ (.global g)=globSV Γ g:=rfl
theorem nh_vw {σ:List SV} {d:Nat}:nh (σ.map vw) d=decide (d<σ.length):=by
 unfold nh
 by_cases h:d<σ.length
 · rw [List.getElem?_map,List.getElem?_eq_getElem h,decide_eq_true h]
   simp only [Option.map_some,vw_noHold,Bool.not_false]
 · rw [List.getElem?_map,List.getElem?_eq_none (by omega),decide_eq_false h]
   rfl
section
variable {a0 a1 a2 a3 a4 a5 a6 a7 a8 a9 a10 a11 a12 a13 a14 a15 x:SV} {r:List SV} {n:Nat}
theorem gtS_ch0:gtS (chS a0 a1 a2 a3 a4 a5 a6 a7 a8 a9 a10 a11 a12 a13 a14 a15 r) 0=a0:=rfl
theorem setS_ch0:(chS a0 a1 a2 a3 a4 a5 a6 a7 a8 a9 a10 a11 a12 a13 a14 a15 r).set 0 x=chS x a1 a2 a3 a4 a5 a6 a7 a8 a9 a10 a11 a12 a13 a14 a15 r:=rfl
theorem gtS_ch1:gtS (chS a0 a1 a2 a3 a4 a5 a6 a7 a8 a9 a10 a11 a12 a13 a14 a15 r) 1=a1:=rfl
theorem setS_ch1:(chS a0 a1 a2 a3 a4 a5 a6 a7 a8 a9 a10 a11 a12 a13 a14 a15 r).set 1 x=chS a0 x a2 a3 a4 a5 a6 a7 a8 a9 a10 a11 a12 a13 a14 a15 r:=rfl
theorem gtS_ch2:gtS (chS a0 a1 a2 a3 a4 a5 a6 a7 a8 a9 a10 a11 a12 a13 a14 a15 r) 2=a2:=rfl
theorem setS_ch2:(chS a0 a1 a2 a3 a4 a5 a6 a7 a8 a9 a10 a11 a12 a13 a14 a15 r).set 2 x=chS a0 a1 x a3 a4 a5 a6 a7 a8 a9 a10 a11 a12 a13 a14 a15 r:=rfl
theorem gtS_ch3:gtS (chS a0 a1 a2 a3 a4 a5 a6 a7 a8 a9 a10 a11 a12 a13 a14 a15 r) 3=a3:=rfl
theorem setS_ch3:(chS a0 a1 a2 a3 a4 a5 a6 a7 a8 a9 a10 a11 a12 a13 a14 a15 r).set 3 x=chS a0 a1 a2 x a4 a5 a6 a7 a8 a9 a10 a11 a12 a13 a14 a15 r:=rfl
theorem gtS_ch4:gtS (chS a0 a1 a2 a3 a4 a5 a6 a7 a8 a9 a10 a11 a12 a13 a14 a15 r) 4=a4:=rfl
theorem setS_ch4:(chS a0 a1 a2 a3 a4 a5 a6 a7 a8 a9 a10 a11 a12 a13 a14 a15 r).set 4 x=chS a0 a1 a2 a3 x a5 a6 a7 a8 a9 a10 a11 a12 a13 a14 a15 r:=rfl
theorem gtS_ch5:gtS (chS a0 a1 a2 a3 a4 a5 a6 a7 a8 a9 a10 a11 a12 a13 a14 a15 r) 5=a5:=rfl
theorem setS_ch5:(chS a0 a1 a2 a3 a4 a5 a6 a7 a8 a9 a10 a11 a12 a13 a14 a15 r).set 5 x=chS a0 a1 a2 a3 a4 x a6 a7 a8 a9 a10 a11 a12 a13 a14 a15 r:=rfl
theorem gtS_ch6:gtS (chS a0 a1 a2 a3 a4 a5 a6 a7 a8 a9 a10 a11 a12 a13 a14 a15 r) 6=a6:=rfl
theorem setS_ch6:(chS a0 a1 a2 a3 a4 a5 a6 a7 a8 a9 a10 a11 a12 a13 a14 a15 r).set 6 x=chS a0 a1 a2 a3 a4 a5 x a7 a8 a9 a10 a11 a12 a13 a14 a15 r:=rfl
theorem gtS_ch7:gtS (chS a0 a1 a2 a3 a4 a5 a6 a7 a8 a9 a10 a11 a12 a13 a14 a15 r) 7=a7:=rfl
theorem setS_ch7:(chS a0 a1 a2 a3 a4 a5 a6 a7 a8 a9 a10 a11 a12 a13 a14 a15 r).set 7 x=chS a0 a1 a2 a3 a4 a5 a6 x a8 a9 a10 a11 a12 a13 a14 a15 r:=rfl
theorem gtS_ch8:gtS (chS a0 a1 a2 a3 a4 a5 a6 a7 a8 a9 a10 a11 a12 a13 a14 a15 r) 8=a8:=rfl
theorem setS_ch8:(chS a0 a1 a2 a3 a4 a5 a6 a7 a8 a9 a10 a11 a12 a13 a14 a15 r).set 8 x=chS a0 a1 a2 a3 a4 a5 a6 a7 x a9 a10 a11 a12 a13 a14 a15 r:=rfl
theorem gtS_ch9:gtS (chS a0 a1 a2 a3 a4 a5 a6 a7 a8 a9 a10 a11 a12 a13 a14 a15 r) 9=a9:=rfl
theorem setS_ch9:(chS a0 a1 a2 a3 a4 a5 a6 a7 a8 a9 a10 a11 a12 a13 a14 a15 r).set 9 x=chS a0 a1 a2 a3 a4 a5 a6 a7 a8 x a10 a11 a12 a13 a14 a15 r:=rfl
theorem gtS_ch10:gtS (chS a0 a1 a2 a3 a4 a5 a6 a7 a8 a9 a10 a11 a12 a13 a14 a15 r) 10=a10:=rfl
theorem setS_ch10:(chS a0 a1 a2 a3 a4 a5 a6 a7 a8 a9 a10 a11 a12 a13 a14 a15 r).set 10 x=chS a0 a1 a2 a3 a4 a5 a6 a7 a8 a9 x a11 a12 a13 a14 a15 r:=rfl
theorem gtS_ch11:gtS (chS a0 a1 a2 a3 a4 a5 a6 a7 a8 a9 a10 a11 a12 a13 a14 a15 r) 11=a11:=rfl
theorem setS_ch11:(chS a0 a1 a2 a3 a4 a5 a6 a7 a8 a9 a10 a11 a12 a13 a14 a15 r).set 11 x=chS a0 a1 a2 a3 a4 a5 a6 a7 a8 a9 a10 x a12 a13 a14 a15 r:=rfl
theorem gtS_ch12:gtS (chS a0 a1 a2 a3 a4 a5 a6 a7 a8 a9 a10 a11 a12 a13 a14 a15 r) 12=a12:=rfl
theorem setS_ch12:(chS a0 a1 a2 a3 a4 a5 a6 a7 a8 a9 a10 a11 a12 a13 a14 a15 r).set 12 x=chS a0 a1 a2 a3 a4 a5 a6 a7 a8 a9 a10 a11 x a13 a14 a15 r:=rfl
theorem gtS_ch13:gtS (chS a0 a1 a2 a3 a4 a5 a6 a7 a8 a9 a10 a11 a12 a13 a14 a15 r) 13=a13:=rfl
theorem setS_ch13:(chS a0 a1 a2 a3 a4 a5 a6 a7 a8 a9 a10 a11 a12 a13 a14 a15 r).set 13 x=chS a0 a1 a2 a3 a4 a5 a6 a7 a8 a9 a10 a11 a12 x a14 a15 r:=rfl
theorem gtS_ch14:gtS (chS a0 a1 a2 a3 a4 a5 a6 a7 a8 a9 a10 a11 a12 a13 a14 a15 r) 14=a14:=rfl
theorem setS_ch14:(chS a0 a1 a2 a3 a4 a5 a6 a7 a8 a9 a10 a11 a12 a13 a14 a15 r).set 14 x=chS a0 a1 a2 a3 a4 a5 a6 a7 a8 a9 a10 a11 a12 a13 x a15 r:=rfl
theorem gtS_ch15:gtS (chS a0 a1 a2 a3 a4 a5 a6 a7 a8 a9 a10 a11 a12 a13 a14 a15 r) 15=a15:=rfl
theorem setS_ch15:(chS a0 a1 a2 a3 a4 a5 a6 a7 a8 a9 a10 a11 a12 a13 a14 a15 r).set 15 x=chS a0 a1 a2 a3 a4 a5 a6 a7 a8 a9 a10 a11 a12 a13 a14 x r:=rfl
theorem gtS_chS:gtS (chS a0 a1 a2 a3 a4 a5 a6 a7 a8 a9 a10 a11 a12 a13 a14 a15 r) (n+16)=gtS r n:=rfl
theorem setS_chS:(chS a0 a1 a2 a3 a4 a5 a6 a7 a8 a9 a10 a11 a12 a13 a14 a15 r).set (n+16) x=chS a0 a1 a2 a3 a4 a5 a6 a7 a8 a9 a10 a11 a12 a13 a14 a15 (r.set n x):=rfl
theorem length_chS:(chS a0 a1 a2 a3 a4 a5 a6 a7 a8 a9 a10 a11 a12 a13 a14 a15 r).length=r.length+16:=rfl
theorem packV_cons:packV (a0::a1::a2::a3::a4::a5::a6::a7::a8::a9::a10::a11::a12::a13::a14::a15::r)=chS a0 a1 a2 a3 a4 a5 a6 a7 a8 a9 a10 a11 a12 a13 a14 a15 (packV r):=rfl
theorem packV_ch:packV (chS a0 a1 a2 a3 a4 a5 a6 a7 a8 a9 a10 a11 a12 a13 a14 a15 r)=chS a0 a1 a2 a3 a4 a5 a6 a7 a8 a9 a10 a11 a12 a13 a14 a15 (packV r):=rfl
theorem packV_0:packV []=[]:=rfl
theorem packV_1:packV [a0]=[a0]:=rfl
theorem packV_2:packV [a0,a1]=[a0,a1]:=rfl
theorem packV_3:packV [a0,a1,a2]=[a0,a1,a2]:=rfl
theorem packV_4:packV [a0,a1,a2,a3]=[a0,a1,a2,a3]:=rfl
theorem packV_5:packV [a0,a1,a2,a3,a4]=[a0,a1,a2,a3,a4]:=rfl
theorem packV_6:packV [a0,a1,a2,a3,a4,a5]=[a0,a1,a2,a3,a4,a5]:=rfl
theorem packV_7:packV [a0,a1,a2,a3,a4,a5,a6]=[a0,a1,a2,a3,a4,a5,a6]:=rfl
theorem packV_8:packV [a0,a1,a2,a3,a4,a5,a6,a7]=[a0,a1,a2,a3,a4,a5,a6,a7]:=rfl
theorem packV_9:packV [a0,a1,a2,a3,a4,a5,a6,a7,a8]=[a0,a1,a2,a3,a4,a5,a6,a7,a8]:=rfl
theorem packV_10:packV [a0,a1,a2,a3,a4,a5,a6,a7,a8,a9]=[a0,a1,a2,a3,a4,a5,a6,a7,a8,a9]:=rfl
theorem packV_11:packV [a0,a1,a2,a3,a4,a5,a6,a7,a8,a9,a10]=[a0,a1,a2,a3,a4,a5,a6,a7,a8,a9,a10]:=rfl
theorem packV_12:packV [a0,a1,a2,a3,a4,a5,a6,a7,a8,a9,a10,a11]=[a0,a1,a2,a3,a4,a5,a6,a7,a8,a9,a10,a11]:=rfl
theorem packV_13:packV [a0,a1,a2,a3,a4,a5,a6,a7,a8,a9,a10,a11,a12]=[a0,a1,a2,a3,a4,a5,a6,a7,a8,a9,a10,a11,a12]:=rfl
theorem packV_14:packV [a0,a1,a2,a3,a4,a5,a6,a7,a8,a9,a10,a11,a12,a13]=[a0,a1,a2,a3,a4,a5,a6,a7,a8,a9,a10,a11,a12,a13]:=rfl
theorem packV_15:packV [a0,a1,a2,a3,a4,a5,a6,a7,a8,a9,a10,a11,a12,a13,a14]=[a0,a1,a2,a3,a4,a5,a6,a7,a8,a9,a10,a11,a12,a13,a14]:=rfl
theorem onlyV_ch {ks:List Nat} {i:Nat}:onlyV ks i (chS a0 a1 a2 a3 a4 a5 a6 a7 a8 a9 a10 a11 a12 a13 a14 a15 r)=onlyV ks i (a0::a1::a2::a3::a4::a5::a6::a7::a8::a9::a10::a11::a12::a13::a14::a15::r):=rfl
end
attribute [go_sem] gtS_ch0 gtS_ch1 gtS_ch2 gtS_ch3 gtS_ch4 gtS_ch5 gtS_ch6 gtS_ch7 gtS_ch8 gtS_ch9 gtS_ch10 gtS_ch11 gtS_ch12 gtS_ch13 gtS_ch14 gtS_ch15 setS_ch0 setS_ch1 setS_ch2 setS_ch3 setS_ch4 setS_ch5 setS_ch6 setS_ch7 setS_ch8 setS_ch9 setS_ch10 setS_ch11 setS_ch12 setS_ch13 setS_ch14 setS_ch15 packV_0 packV_1 packV_2 packV_3 packV_4 packV_5 packV_6 packV_7 packV_8 packV_9 packV_10 packV_11 packV_12 packV_13 packV_14 packV_15 gtS_chS setS_chS length_chS packV_cons packV_ch onlyV_ch
attribute [go_sem ↓] rh_skip rh_region rh_regionD rh_seq rh_cond rh_block rh_loop rh_exit rh_ret
attribute [go_sem] runFH_nil runFH_cons runGH_nil runGH_cons trimK_t nrmV_cons nrmV_ch nrmH_nil nrmH_cons
attribute [go_sem ↓] hide_3 hide_l hide_h hide_g hide_5
attribute [go_sem] tickH_eff tickH_callD tickH_callH tickH_look tickH_one tickG_plain tickG_when tickG_skip
attribute [go_sem ↓] thenHC_normal thenHC_exit thenHC_ret inBlockHC_normal inBlockHC_exit inBlockHC_ret
attribute [go_sem] selH_t selH_f flF_tt flF_tf
attribute [go_sem] doH_eff doH_new doH_callD doH_callH doH_look resK_some gdH_plain gdH_when gdH_skip skipH lookK
attribute [go_sem] doG_eff doG_new doG_callD doG_callH resG_some onG_t gdG_plain gdG_when gdG_skip skipG lookG
attribute [go_sem] condFH_bool retDC_ret retHC_ret retHC_normal endR_some endD_some endH_some tick_some
attribute [congr] doH_congr doG_congr resG_congr condFH_congr runFH_congr runGH_congr flF_congr selH_congr endR_congr endD_congr endH_congr StH_congr
attribute [go_sem] gtS_zero gtS_succ gB_zero gB_succ appL_nilS appL_consS appL_nilB appL_consB opdS_tmp opdS_const opdS_func opdS_global nh_vw
attribute [go_sem] ghOfH hasJoinH hasOwn hasClo anyS joinAtH onlyV roomG freshL nxtB
attribute [go_sem] guardH opF fMove fPick fBin fUn fLoad fStore fFieldAddr fIndexAddr fField fIndex fLen fCall fExtract fNil fBuild fAlloc fBox opH opP convO callO callO.callG opH.appO oldO oldR av2 vO nO isNil withT
attribute [go_sem] rawRaw rawS pickH cellsH loadHC TI.many seeH storeH fieldAddrH indexAddrH extractH ptrH lenH natH boundH sliceH argD argsD argsH fromAV fromL resS calleeH dstEff constSV globSV frzB frzE isArr subC toDat toDatL appT dstH srcH killE
attribute [go_sem] findM updM kEq keyOk keyV lookV mapAt noTup noTups resOneH resAllH resHV datRes trimF roomB roomO oB oN sidxS intS ckH isSlH isRefH lookO partH vw vwO vwG datL datH
end Go.Hp
