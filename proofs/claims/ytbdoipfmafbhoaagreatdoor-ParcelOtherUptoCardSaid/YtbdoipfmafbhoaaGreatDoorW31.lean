/- The proof, part W31: 5d, 6a, 6b, Iy, 6c, 6d. -/
import Derived.Test.YtbdoipfmafbhoaaGreatDoorW30
import Derived.Test.YtbdoipfmafbhoaaGreatDoorW15
import Derived.Test.YtbdoipfmafbhoaaGreatDoorW23
namespace Go.Hp.T
open Go Go.RowKit Go.Slot Go.Hp Go.Slot.T
open Go.Proofs.Tryz (prog)
attribute [local irreducible] hide RH
set_option maxRecDepth 10000
set_option maxHeartbeats 8000000
variable {Γ:List (Nat×List Cell)}
def rcpU (x:Rcp):Us:=(x.kind,true,decide ((x.steps.length:Int)<=100)&&!x.steps.any fun y=>!vyc y)
def y4x (s:Sht):Bool:=(yq5 s (vzr s (vvl s.name,[]))).1&&!decide (100<((yq5 s (vzr s (vvl s.name,[]))).2.length:Int)+s.recipes.length)&&(w0x rcpU s.recipes (true,[])).1
theorem y1g {α:Type} {s:ByteArray} {v:α}:∀{l:List (ByteArray×α)},(updF l s v).length<=l.length+1
 | []=>Nat.le_refl _
 | p::l=>by
  rw [updF]
  cases seq s p.1 with
  | true=>exact Nat.le_succ _
  | false=>rw [cond_false,List.length_cons,List.length_cons];have:=y1g (s:=s) (v:=v) (l:=l);omega
theorem wwe {α:Type} {U:α->Us}:∀{l:List α} {c:Sc},(w0x U l c).2.length<=c.2.length+l.length
 | [],c=>Nat.le_refl _
 | x::l,c=>by
  have h1:=wwe (U:=U) (l:=l) (c:=useM c (U x));have h2:(useM c (U x)).2.length<=c.2.length+1:=y1g;show (w0x U l (useM c (U x))).2.length<=_;rw [List.length_cons];omega
theorem zxu (x:Stp) (hx:x.Sm):CallsD Γ prog 41 [.agg (stpC x)] (.one (cB (!vyc x))):=by
 have h:=ynl (Γ:=Γ) x hx;refine CallsD.run [] Go.Proofs.Tryz.func41 rfl rfl rfl ?_;simp only [Go.Proofs.Tryz.f41];refine hgR ?_
 repeat' ((first | refine hfk ?_ ?_<;>intros | refine hik ?_ | with_reducible first | refine y5k (h) ?_ | refine x4p (h) ?_)<;>refine hgS ?_)
 all_goals refine lfE ?_;first | exact trivial | rfl
theorem y0d (a b:Nat) (l _l':List SB) (c:Sc) (h1:(l)[a]? = some (.box [.mp b,.dat (cB c.1)] (some 87))) (h2:l[b]? = some (mU c.2)) (_hab:a≠b):[a,b].map (fun j=>l[j]?)=(scBs c).map (fun x=>some (rnSB (atR [a,b] l.length) x)):=by
 show [l[a]?,l[b]?]=[some (rnSB _ (scB c.1)),some (rnSB _ (mU c.2))];rw [w9k,h1,h2]
 have:atR [a,b] l.length 1=b:=rfl
 show _=[some (SB.box [HC.mp (atR [a,b] l.length 1),_] _),_];rw [this];rfl
theorem zou (a b:Nat) (l:List SB) (d:Sc):putR [a,b] l (scBs d)=(l.set a (.box [.mp b,.dat (cB d.1)] (some 87))).set b (mU d.2):=by
 unfold putR;show appL [(a,rnSB (atR [a,b] l.length) (scB d.1)),(b,rnSB _ (mU d.2))] l++[]=_;rw [w9k,List.append_nil];rfl
theorem xzw (a b:Nat) {f:FuncId} {η:List SB} {c d:Sc} {args l:List SV} {K:Bool->List SB->SV->Prop} (h:wod Γ prog f (scBs c) args (scBs d) (.tup [])) (hl:args.map (vdy (atR [a,b] η.length))=l) (hab:a≠b) (hb:([a,b].all fun j=>Nat.blt j η.length)=true)
 (h1:η[a]? = some (.box [.mp b,.dat (cB c.1)] (some 87))) (h2:η[b]? = some (mU c.2)) (hk:K true ((η.set a (.box [.mp b,.dat (cB d.1)] (some 87))).set b (mU d.2)) (.tup [])):v2g Γ prog f η l K:=by
 refine xwj [a,b] h hl (by simp [hab]) hb (y0d a b η [] c h1 h2 hab) rfl ?_;rw [zou];exact hk
theorem xqo (s:Sht) (hs:s.Sm):CallsD Γ prog 15 [.agg (shtC s)] (.one (cB (y4x s))):=by
 have h0:=z7y (Γ:=Γ) s.name hs.nm
 have hb:(yq5 s (vzr s (vvl s.name,[]))).2.length<=7516192768:=by
  unfold yq5 vzr;have a1:=wwe (U:=impU) (l:=s.imports) (c:=(vvl s.name,[]));have a2:=wwe (U:=inpU) (l:=s.inputs) (c:=w0x impU s.imports (vvl s.name,[]));have a3:=wwe (U:=porU) (l:=s.ports) (c:=w0x inpU s.inputs (w0x impU s.imports (vvl s.name,[])));have a4:=wwe (U:=stoU) (l:=s.stores) (c:=w0x porU s.ports (w0x inpU s.inputs (w0x impU s.imports (vvl s.name,[]))));generalize w0x stoU s.stores (w0x porU s.ports (w0x inpU s.inputs (w0x impU s.imports (vvl s.name,[]))))=d at *;have b1:=wwe (U:=tabU) (l:=s.tables) (c:=d);have b2:=wwe (U:=fncU) (l:=s.funcs) (c:=w0x tabU s.tables d);have b3:=wwe (U:=celU) (l:=s.cells) (c:=w0x fncU s.funcs (w0x tabU s.tables d))
  have:=hs.il;have:=hs.nl;have:=hs.pl;have:=hs.sl;have:=hs.tl;have:=hs.fl;have:=hs.cl
  have e:((vvl s.name,[]):Sc).2.length=0:=rfl;omega
 have c1:=xx9 (Γ:=Γ) s hs (vvl s.name,[]);have c2:=v62 (Γ:=Γ) s hs (vzr s (vvl s.name,[]));have hR:y4x s=((yq5 s (vzr s (vvl s.name,[]))).1&&!decide (100<((yq5 s (vzr s (vvl s.name,[]))).2.length:Int)+s.recipes.length)&&(w0x rcpU s.recipes (true,[])).1):=rfl;rw [hR];generalize yq5 s (vzr s (vvl s.name,[]))=d at *;generalize vzr s (vvl s.name,[])=c at *;generalize vvl s.name=f at *;have hrl:=hs.rl;have hr:=hs.r;clear hR hs;refine CallsD.run [] Go.Proofs.Tryz.func15 rfl rfl rfl ?_;simp only [Go.Proofs.Tryz.f15];refine hgR ?_
 repeat' ((first | refine hfk ?_ ?_<;>intros | refine hik ?_ | with_reducible first | refine y5k (h0) ?_ | refine x4p (h0) ?_)<;>refine hgS ?_)
 refine xzw 2 1 c1 rfl (by decide) rfl rfl rfl ?_;refine hg ?_
 repeat' ((first | refine hfk ?_ ?_<;>intros | refine hik ?_)<;>refine hgS ?_)
 refine xzw 2 1 c2 rfl (by decide) rfl rfl rfl ?_;refine hg ?_
 repeat' ((first | refine hfk ?_ ?_<;>intros | refine hik ?_)<;>refine hgS ?_)
 . exact RLe.ofEq rfl
 . refine wwt [4,40,41] (fun i:Nat=>[(42,.one (.dat (cI i)))]) (fun i=>[.box ((shtC s).map .dat) (some 31),mU d.2,.box [.mp 1,.dat (cB true)] (some 87),mU (w0x rcpU (s.recipes.take i) (true,[])).2,.box [.mp 3,.dat (cB (w0x rcpU (s.recipes.take i) (true,[])).1)] (some 87)])
    (fun i=>i<=s.recipes.length) (fun i=>s.recipes.length-i) 0 (Nat.zero_le _) ?_ ?_
   . refine hg ?_;exact StH.same svl (by first | rfl | (simp [*];rfl))
   intro i hi;refine hg ?_;refine zcl (fun hlt _=>?_) (fun hlt _=>?_)
   . have hlt':i<s.recipes.length:=by omega
     have hy:=hr _ (wax hlt');have hU:=zpo (U:=rcpU) (c:=(true,[])) hlt';have c1:=yzm (Γ:=Γ) (s.recipes.getD i default).steps 41 (fun y=>!vyc y) hy.2.1 (fun y hh=>zxu y (hy.2.2 y hh));clear hr;generalize w0x rcpU (s.recipes.take i) (true,[])=q at *;refine hg ?_
     repeat' ((first | refine hfk ?_ ?_<;>intros | refine hik ?_ | with_reducible first | refine y5k (c1) ?_ | refine x4p (c1) ?_)<;>refine hgS ?_)
     all_goals generalize s.recipes.getD i default=x at *
     all_goals first
     | (have hE:rcpU x=(x.kind,true,!x.steps.any fun y=>!vyc y):=by simp [rcpU, *]
        rw [hE] at hU;refine ykh [4,3] [(4,.box [.mp 3,.dat (cB (useM q (x.kind,true,!x.steps.any fun y=>!vyc y)).1)] (some 87)),(3,mU (useM q (x.kind,true,!x.steps.any fun y=>!vyc y)).2)] (cUse q _ _ _ hy.1) rfl (by decide) rfl (y0d 4 3 _ [] q rfl rfl (by decide)) rfl (zou 4 3 _ _) ?_;refine hg ?_
        repeat' ((first | refine hfk ?_ ?_<;>intros | refine hik ?_)<;>refine hgS ?_)
        refine ⟨i+1,by omega,by omega,?_⟩;rw [hU];refine StH.cutN [4,40,41,42] 5 rfl ?_ ?_
        . refine hg ?_;exact trivial
        exact StH.same svl rfl)
     | (have hE:rcpU x=(x.kind,true,false):=by simp [rcpU, *]
        rw [hE] at hU;refine ykh [4,3] [(4,.box [.mp 3,.dat (cB (useM q (x.kind,true,false)).1)] (some 87)),(3,mU (useM q (x.kind,true,false)).2)] (cUse q _ _ _ hy.1) rfl (by decide) rfl (y0d 4 3 _ [] q rfl rfl (by decide)) rfl (zou 4 3 _ _) ?_;refine hg ?_
        repeat' ((first | refine hfk ?_ ?_<;>intros | refine hik ?_)<;>refine hgS ?_)
        refine ⟨i+1,by omega,by omega,?_⟩;rw [hU];refine StH.cutN [4,40,41,42] 5 rfl ?_ ?_
        . refine hg ?_;exact trivial
        exact StH.same svl rfl)
   rw [xn5 (show s.recipes.length<=i by omega)];refine hg ?_
   repeat' ((first | refine hfk ?_ ?_<;>intros | refine hik ?_)<;>refine hgS ?_)
   all_goals refine lfE ?_;first | exact trivial | rfl
 . exact RLe.ofEq rfl
abbrev Tg:=Int×ByteArray
def Tg.C (t:Tg):List Cell:=[cI t.1,cS t.2]
abbrev tgC (t:Tg):List Cell:=[cI t.1,cS t.2]
theorem Tg.C_eq (t:Tg):Tg.C t=tgC t:=rfl
attribute [go_sem] Tg.C_eq
def tgK (t:Tg):Value:=.agg (List.toArray [.int .i64 t.1,.string t.2])
def tgE (a b:Tg):Bool:=decide (a.1=b.1)&&seq a.2 b.2
theorem xqk (a b:Tg):kEq (tgK a) (tgK b)=some (tgE a b):=by
 show eqL [.int .i64 a.1,.string a.2] [.int .i64 b.1,.string b.2]=_;simp [eqL,kEq0,tgE,Bool.beq_eq_decide_eq]
theorem v5k {a b:Tg}:tgE a b=true↔a=b:=by
 unfold tgE;rw [Bool.and_eq_true,decide_eq_true_iff,v75,decide_eq_true_iff];exact ⟨fun h=>Prod.ext h.1 h.2,fun h=>by rw [h];exact ⟨rfl,rfl⟩⟩
theorem zzb {c:Int} {s:ByteArray}:keyT prog 114 [.int .i64 c,.string s]=true:=by kernel_rfl
attribute [go_sem] zzb
def ypc (x:Stp):List Tg:=x.inn.map (fun s=>(0,s))++x.out.map (fun s=>(1,s))++(bif decide (x.kind=0)||(decide (x.kind=1)||decide (x.kind=5)) then [(2+x.kind,x.name)] else [])
theorem yr6 (x:Stp) (hi:x.inn.length<=1073741824) (ho:x.out.length<=1073741824):CallsD Γ prog 54 [.agg (stpC x)] (.one (.sl 2 ((ypc x).map Tg.C))):=by
 unfold ypc;refine CallsD.run [] Go.Proofs.Tryz.func54 rfl rfl rfl ?_;simp only [Go.Proofs.Tryz.f54];refine hgR ?_
 repeat' ((first | refine hfk ?_ ?_<;>intros | refine hik ?_)<;>refine hgS ?_)
 refine wwt [1,9,10] (fun x:Nat×List Tg=>[(3,.one (.sl 1 2 0 x.2.length)),(11,.one (.dat (cI x.1)))]) (fun p=>[.box ((stpC x).map .dat) (some 50),.arr (.sl 2 (p.2.map Tg.C)) 0 (some 114)])
  (fun p=>p.1<=x.inn.length/\p.2=(x.inn.take p.1).map fun s=>((0,s):Tg)) (fun p=>x.inn.length-p.1) (0,[]) ⟨Nat.zero_le _,by simp⟩ ?_ ?_
 . refine hg ?_;refine StH.trans (StH.empty (d:=3) (es:=2) (c:=.sl 2 []) (T:=some 114) rfl rfl (fun r hr=>by cases hr) rfl) ?_;refine hg ?_;exact StH.same svl rfl
 rintro ⟨i,acc⟩ ⟨hin,hacc⟩;dsimp only at hin hacc;refine hg ?_;refine zcl (fun hlt _=>?_) (fun hlt _=>?_)
 . have hlt':i<x.inn.length:=by omega
   have hal:acc.length<=2147483648:=by rw [hacc];simp;omega
   refine hg ?_
   repeat' ((first | refine hfk ?_ ?_<;>intros | refine hik ?_)<;>refine hgS ?_)
   refine ⟨(i+1,acc++[(0,x.inn.getD i default)]),⟨by dsimp only;omega,?_⟩,by dsimp only;omega,?_⟩
   . dsimp only;rw [hacc,List.take_succ_eq_append_getElem hlt',List.getD_eq_getElem?_getD,List.getElem?_eq_getElem hlt',List.map_append];simp
   refine StH.back [1,3,9,10,11] 1 2 2 rfl rfl rfl rfl rfl (by kernel_rfl) ?_;simp only [List.map_append,List.map_cons,List.map_nil]
   conv=>simp (maxSteps:=2000000) (disch:=omega) only [go_sem,Nat.reduceAdd,Nat.reduceSub,Nat.reduceMul,Int.reduceToNat,Nat.reduceEqDiff,Nat.reduceBEq,Nat.reduceBneDiff,Nat.reduceLT,Int.reduceEq,Int.reduceLT,Int.reduceLE,Int.reduceNeg,Int.reduceAdd,Int.reduceSub,Int.reduceMul,List.length_append,List.length_singleton]
   exact StH.same svl rfl
 rw [List.take_of_length_le (show x.inn.length<=i by omega)] at hacc;rw [<-hacc]
 have hal:acc.length<=1073741824:=by rw [hacc,List.length_map];exact hi
 clear hacc hlt hin;refine hg ?_;refine wwt [1,22,23] (fun x:Nat×List Tg=>[(3,.one (.sl 1 2 0 x.2.length)),(24,.one (.dat (cI x.1)))]) (fun p=>[.box ((stpC x).map .dat) (some 50),.arr (.sl 2 (p.2.map Tg.C)) 0 (some 114)])
  (fun p=>p.1<=x.out.length/\p.2=acc++(x.out.take p.1).map fun s=>((1,s):Tg)) (fun p=>x.out.length-p.1) (0,acc) ⟨Nat.zero_le _,by simp⟩ ?_ ?_
 . refine hg ?_;exact StH.same svl rfl
 rintro ⟨i,ac2⟩ ⟨hin,hacc⟩;dsimp only at hin hacc;refine hg ?_;refine zcl (fun hlt _=>?_) (fun hlt _=>?_)
 . have hlt':i<x.out.length:=by omega
   have hal:ac2.length<=2147483648:=by rw [hacc];simp;omega
   refine hg ?_
   repeat' ((first | refine hfk ?_ ?_<;>intros | refine hik ?_)<;>refine hgS ?_)
   refine ⟨(i+1,ac2++[(1,x.out.getD i default)]),⟨by dsimp only;omega,?_⟩,by dsimp only;omega,?_⟩
   . dsimp only;rw [hacc,List.take_succ_eq_append_getElem hlt',List.getD_eq_getElem?_getD,List.getElem?_eq_getElem hlt',List.map_append];simp
   refine StH.back [1,3,22,23,24] 1 2 2 rfl rfl rfl rfl rfl (by kernel_rfl) ?_;simp only [List.map_append,List.map_cons,List.map_nil]
   conv=>simp (maxSteps:=2000000) (disch:=omega) only [go_sem,Nat.reduceAdd,Nat.reduceSub,Nat.reduceMul,Int.reduceToNat,Nat.reduceEqDiff,Nat.reduceBEq,Nat.reduceBneDiff,Nat.reduceLT,Int.reduceEq,Int.reduceLT,Int.reduceLE,Int.reduceNeg,Int.reduceAdd,Int.reduceSub,Int.reduceMul,List.length_append,List.length_singleton]
   exact StH.same svl rfl
 rw [List.take_of_length_le (show x.out.length<=i by omega)] at hacc;rw [<-hacc]
 have hbl:ac2.length<=2147483648:=by rw [hacc];simp;omega
 clear hacc hlt hin;refine hg ?_
 repeat' ((first | refine hfk ?_ ?_<;>intros | refine hik ?_)<;>refine hgS ?_)
 all_goals exact RLe.ofEq (by simp [*,Tg.C])
abbrev Ms:=List (ByteArray×ByteArray)
abbrev Mn:=List (Tg×Unit)
abbrev Mb:=List (Tg×Int)
def envS (l:Ms):List (Value×SV):=envM (fun u=>.one (.dat (cS u))) l
def envN (l:Mn):List (Value×SV):=entG tgK (fun _:Unit=>.one (.dat (cB true))) l
def envK (l:Mb):List (Value×SV):=entG tgK (fun k:Int=>.one (.dat (cI k))) l
theorem yyd {T:Ms} {s:ByteArray}:xog (envS T) (.string s)=some ((yk4 T s).map fun u=>.one (.dat (.raw (.string u)))):=yu5
theorem wjx {T:Ms} {s u:ByteArray}:updM (envS T) (.string s) (.one (.dat (.raw (.string u))))=some (envS (updF T s u)):=vmd (C:=fun u:ByteArray=>.one (.dat (cS u))) (l:=T) (s:=s) (v:=u)
theorem v45 {T:Mn} {c:Int} {s:ByteArray}:xog (envN T) (.agg (List.toArray [.int .i64 c,.string s]))=some ((ynd tgE T (c,s)).map fun _=>.one (.dat (.raw (.bool true)))):=y7g xqk (s:=(c,s))
theorem zc9 {T:Mn} {c:Int} {s:ByteArray}:updM (envN T) (.agg (List.toArray [.int .i64 c,.string s])) (.one (.dat (.raw (.bool true))))=some (envN (updG tgE T (c,s) ())):=wxg xqk (C:=fun _:Unit=>.one (.dat (cB true))) (s:=(c,s)) (v:=())
theorem ywb {T:Mb} {c:Int} {s:ByteArray}:xog (envK T) (.agg (List.toArray [.int .i64 c,.string s]))=some ((ynd tgE T (c,s)).map fun k=>.one (.dat (.raw (.int .i64 k)))):=y7g xqk (s:=(c,s))
theorem w04 {T:Mb} {c k:Int} {s:ByteArray}:updM (envK T) (.agg (List.toArray [.int .i64 c,.string s])) (.one (.dat (.raw (.int .i64 k))))=some (envK (updG tgE T (c,s) k)):=wxg xqk (C:=fun k:Int=>.one (.dat (cI k))) (s:=(c,s)) (v:=k)
theorem vya {r:Nat->Nat} {l:Ms}:rnSB r (.map (envS l))=.map (envS l):=x3e (fun _ _=>rfl) r l
theorem x04 {r:Nat->Nat} {l:Mn}:rnSB r (.map (envN l))=.map (envN l):=zvj (fun _ _=>rfl) r l
theorem y5m {r:Nat->Nat} {l:Mb}:rnSB r (.map (envK l))=.map (envK l):=zvj (fun _ _=>rfl) r l
theorem wbl (l:Ms):xoj (.map (envS l))=[]:=xuv (fun _=>rfl) l
theorem yfd (l:Mn):xoj (.map (envN l))=[]:=zzg (fun _=>rfl) l
theorem z1y (l:Mb):xoj (.map (envK l))=[]:=zzg (fun _=>rfl) l
attribute [go_sem] yyd wjx v45 zc9 ywb w04 wbl yfd z1y
attribute [go_sem 20000] vya x04 y5m
abbrev mS (l:Ms):SB:=.map (envS l)
abbrev mN (l:Mn):SB:=.map (envN l)
abbrev mK (l:Mb):SB:=.map (envK l)
theorem xp5 {α β:Type} [Inhabited α] {f:β->α->β} {l:List α} {c:β} {i:Nat} (h:i<l.length):(l.take (i+1)).foldl f c=f ((l.take i).foldl f c) (l.getD i default):=by
 rw [List.take_succ_eq_append_getElem h,List.foldl_append,List.getD_eq_getElem?_getD,List.getElem?_eq_getElem h];rfl
def wzt (s:Sht):Ms:=s.cells.foldl (fun m x=>updF m x.name x.unit) []
def yz8 (s:Sht):Ms:=s.inputs.foldl (fun m x=>updF m x.name x.kind) []
def nm1 (s:Sht):Mn:=s.inputs.foldl (fun m x=>updG tgE m (0,x.name) ()) []
def nm2 (s:Sht):Mn:=s.imports.foldl (fun m x=>updG tgE m (1,x.name) ()) (nm1 s)
def nm3 (s:Sht):Mn:=s.stores.foldl (fun m x=>updG tgE (updG tgE m (2,x.name) ()) (6,x.name) ()) (nm2 s)
def vgd (s:Sht):Mn:=s.ports.foldl (fun m x=>updG tgE m (5,x.name) ()) (nm3 s)
abbrev itB (a b c:Nat):SB:=.box [.mp a,.mp b,.mp c] (some 105)
abbrev colB (s:Sht):List SB:=[.box ((shtC s).map .dat) (some 31),itB 2 3 4,mS (wzt s),mS (yz8 s),mN (vgd s)]
theorem zo7 (s:Sht) (hs:s.Sm):wod Γ prog 51 [] [.agg ((shtC s).map .dat)] (colB s) (.agg [.mp 2,.mp 3,.mp 4]):=by
 have h1:=hs.cl;have h2:=hs.nl;have h3:=hs.il;have h4:=hs.sl;have h5:=hs.pl;refine wod.run [] Go.Proofs.Tryz.func51 rfl rfl ?_;simp only [Go.Proofs.Tryz.f51];refine hgR ?_
 repeat' ((first | refine hfk ?_ ?_<;>intros | refine hik ?_)<;>refine hgS ?_)
 refine wwt [1,2,3,19,20] (fun i:Nat=>[(21,.one (.dat (cI i)))]) (fun i=>[.box ((shtC s).map .dat) (some 31),.box [.dat (.raw (.map none)),.dat (.raw (.map none)),.dat (.raw (.map none))] (some 105),mS ((s.cells.take i).foldl (fun m x=>updF m x.name x.unit) ([]:Ms)),mS [],mN [],itB 2 3 4])
  (fun i=>i<=s.cells.length) (fun i=>s.cells.length-i) 0 (Nat.zero_le _) ?_ ?_
 . refine hg ?_;exact StH.same svl rfl
 intro i hi;refine hg ?_;refine zcl (fun hlt _=>?_) (fun hlt _=>?_)
 . have hlt':i<s.cells.length:=by omega
   have hU0:=xp5 (f:=fun m x=>updF m x.name x.unit) (c:=([]:Ms)) hlt';generalize (s.cells.take i).foldl (fun m x=>updF m x.name x.unit) ([]:Ms)=d0 at *;refine hg ?_
   repeat' ((first | refine hfk ?_ ?_<;>intros | refine hik ?_)<;>refine hgS ?_)
   refine ⟨i+1,by omega,by omega,?_⟩;rw [hU0];refine StH.cutN [1,2,3,19,20,21] 6 rfl ?_ ?_
   . refine hg ?_;exact trivial
   exact StH.same svl rfl
 rw [List.take_of_length_le (show s.cells.length<=i by omega)];rw [show s.cells.foldl (fun m x=>updF m x.name x.unit) ([]:Ms)=wzt s from rfl];refine hg ?_;refine wwt [1,2,3,33,34] (fun i:Nat=>[(35,.one (.dat (cI i)))]) (fun i=>[.box ((shtC s).map .dat) (some 31),.box [.dat (.raw (.map none)),.dat (.raw (.map none)),.dat (.raw (.map none))] (some 105),mS (wzt s),mS ((s.inputs.take i).foldl (fun m x=>updF m x.name x.kind) ([]:Ms)),mN ((s.inputs.take i).foldl (fun m x=>updG tgE m (0,x.name) ()) ([]:Mn)),itB 2 3 4])
  (fun i=>i<=s.inputs.length) (fun i=>s.inputs.length-i) 0 (Nat.zero_le _) ?_ ?_
 . refine hg ?_;exact StH.same svl rfl
 intro i hi;refine hg ?_;refine zcl (fun hlt _=>?_) (fun hlt _=>?_)
 . have hlt':i<s.inputs.length:=by omega
   have hU0:=xp5 (f:=fun m x=>updF m x.name x.kind) (c:=([]:Ms)) hlt';have hU1:=xp5 (f:=fun m x=>updG tgE m (0,x.name) ()) (c:=([]:Mn)) hlt';generalize (s.inputs.take i).foldl (fun m x=>updF m x.name x.kind) ([]:Ms)=d0 at *;generalize (s.inputs.take i).foldl (fun m x=>updG tgE m (0,x.name) ()) ([]:Mn)=d1 at *;refine hg ?_
   repeat' ((first | refine hfk ?_ ?_<;>intros | refine hik ?_)<;>refine hgS ?_)
   refine ⟨i+1,by omega,by omega,?_⟩;rw [hU0];rw [hU1];refine StH.cutN [1,2,3,33,34,35] 6 rfl ?_ ?_
   . refine hg ?_;exact trivial
   exact StH.same svl rfl
 rw [List.take_of_length_le (show s.inputs.length<=i by omega)];rw [show s.inputs.foldl (fun m x=>updF m x.name x.kind) ([]:Ms)=yz8 s from rfl];rw [show s.inputs.foldl (fun m x=>updG tgE m (0,x.name) ()) ([]:Mn)=nm1 s from rfl];refine hg ?_;refine wwt [1,2,3,52,53] (fun i:Nat=>[(54,.one (.dat (cI i)))]) (fun i=>[.box ((shtC s).map .dat) (some 31),.box [.dat (.raw (.map none)),.dat (.raw (.map none)),.dat (.raw (.map none))] (some 105),mS (wzt s),mS (yz8 s),mN ((s.imports.take i).foldl (fun m x=>updG tgE m (1,x.name) ()) (nm1 s)),itB 2 3 4])
  (fun i=>i<=s.imports.length) (fun i=>s.imports.length-i) 0 (Nat.zero_le _) ?_ ?_
 . refine hg ?_;exact StH.same svl rfl
 intro i hi;refine hg ?_;refine zcl (fun hlt _=>?_) (fun hlt _=>?_)
 . have hlt':i<s.imports.length:=by omega
   have hU0:=xp5 (f:=fun m x=>updG tgE m (1,x.name) ()) (c:=(nm1 s)) hlt';generalize (s.imports.take i).foldl (fun m x=>updG tgE m (1,x.name) ()) (nm1 s)=d0 at *;refine hg ?_
   repeat' ((first | refine hfk ?_ ?_<;>intros | refine hik ?_)<;>refine hgS ?_)
   refine ⟨i+1,by omega,by omega,?_⟩;rw [hU0];refine StH.cutN [1,2,3,52,53,54] 6 rfl ?_ ?_
   . refine hg ?_;exact trivial
   exact StH.same svl rfl
 rw [List.take_of_length_le (show s.imports.length<=i by omega)];rw [show s.imports.foldl (fun m x=>updG tgE m (1,x.name) ()) (nm1 s)=nm2 s from rfl];refine hg ?_;refine wwt [1,2,3,65,66] (fun i:Nat=>[(67,.one (.dat (cI i)))]) (fun i=>[.box ((shtC s).map .dat) (some 31),.box [.dat (.raw (.map none)),.dat (.raw (.map none)),.dat (.raw (.map none))] (some 105),mS (wzt s),mS (yz8 s),mN ((s.stores.take i).foldl (fun m x=>updG tgE (updG tgE m (2,x.name) ()) (6,x.name) ()) (nm2 s)),itB 2 3 4])
  (fun i=>i<=s.stores.length) (fun i=>s.stores.length-i) 0 (Nat.zero_le _) ?_ ?_
 . refine hg ?_;exact StH.same svl rfl
 intro i hi;refine hg ?_;refine zcl (fun hlt _=>?_) (fun hlt _=>?_)
 . have hlt':i<s.stores.length:=by omega
   have hU0:=xp5 (f:=fun m x=>updG tgE (updG tgE m (2,x.name) ()) (6,x.name) ()) (c:=(nm2 s)) hlt';generalize (s.stores.take i).foldl (fun m x=>updG tgE (updG tgE m (2,x.name) ()) (6,x.name) ()) (nm2 s)=d0 at *;refine hg ?_
   repeat' ((first | refine hfk ?_ ?_<;>intros | refine hik ?_)<;>refine hgS ?_)
   refine ⟨i+1,by omega,by omega,?_⟩;rw [hU0];refine StH.cutN [1,2,3,65,66,67] 6 rfl ?_ ?_
   . refine hg ?_;exact trivial
   exact StH.same svl rfl
 rw [List.take_of_length_le (show s.stores.length<=i by omega)];rw [show s.stores.foldl (fun m x=>updG tgE (updG tgE m (2,x.name) ()) (6,x.name) ()) (nm2 s)=nm3 s from rfl];refine hg ?_;refine wwt [1,2,3,83,84] (fun i:Nat=>[(85,.one (.dat (cI i)))]) (fun i=>[.box ((shtC s).map .dat) (some 31),.box [.dat (.raw (.map none)),.dat (.raw (.map none)),.dat (.raw (.map none))] (some 105),mS (wzt s),mS (yz8 s),mN ((s.ports.take i).foldl (fun m x=>updG tgE m (5,x.name) ()) (nm3 s)),itB 2 3 4])
  (fun i=>i<=s.ports.length) (fun i=>s.ports.length-i) 0 (Nat.zero_le _) ?_ ?_
 . refine hg ?_;exact StH.same svl rfl
 intro i hi;refine hg ?_;refine zcl (fun hlt _=>?_) (fun hlt _=>?_)
 . have hlt':i<s.ports.length:=by omega
   have hU0:=xp5 (f:=fun m x=>updG tgE m (5,x.name) ()) (c:=(nm3 s)) hlt';generalize (s.ports.take i).foldl (fun m x=>updG tgE m (5,x.name) ()) (nm3 s)=d0 at *;refine hg ?_
   repeat' ((first | refine hfk ?_ ?_<;>intros | refine hik ?_)<;>refine hgS ?_)
   refine ⟨i+1,by omega,by omega,?_⟩;rw [hU0];refine StH.cutN [1,2,3,83,84,85] 6 rfl ?_ ?_
   . refine hg ?_;exact trivial
   exact StH.same svl rfl
 rw [List.take_of_length_le (show s.ports.length<=i by omega)];rw [show s.ports.foldl (fun m x=>updG tgE m (5,x.name) ()) (nm3 s)=vgd s from rfl];refine hg ?_
 repeat' ((first | refine hfk ?_ ?_<;>intros | refine hik ?_)<;>refine hgS ?_)
 refine StH.cutN [0] 5 rfl ?_ ?_
 . refine hg ?_;exact trivial
 exact StH.same svl rfl
end Go.Hp.T
namespace Go.Hp
open Go Go.RowKit Go.Slot
variable {P:Program} {Γ:List (Nat×List Cell)}
theorem wod.roN (φ:List Nat) {f:FuncId} {η ηs:List SB} {args:List SV} {res:SV} (h:wod Γ P f ηs args ηs res) (hn:φ.Nodup) (hb:(φ.all fun j=>Nat.blt j η.length)=true) (hp:φ.map (fun j=>η[j]?)=ηs.map (fun x=>some (rnSB (atR φ η.length) x))) :
 wod Γ P f η (args.map (vdy (atR φ η.length))) η (rnSV (atR φ η.length) res):=by
 have hb':∀ j∈φ,j<η.length:=fun j hj=>by simpa using List.all_eq_true.1 hb j hj
 have hk:=v6v.of hp;have hc:=wod.frame hn hb' hk (by rw [hk.1];exact Nat.le_refl _) h
 have hput:putR φ η ηs=η:=by
  apply List.ext_getElem?;intro i;by_cases hi2:i<η.length
  . by_cases hi:i∈φ
    . obtain ⟨k,hk2,rfl⟩:=List.getElem_of_mem hi
      have hkl:k<ηs.length:=by rw [hk.1];exact hk2
      have h1:=zsj (ηs':=ηs) hn hb' (List.getElem?_eq_getElem hkl);rw [y3w (List.getElem?_eq_getElem hk2)] at h1;rw [h1];have h2:=congrArg (fun l=>l[k]?) hp;simp only [List.getElem?_map,List.getElem?_eq_getElem hk2,List.getElem?_eq_getElem hkl,Option.map_some] at h2;exact (Option.some.inj h2).symm
    . exact zl8 hi2 hi
  . rw [List.getElem?_eq_none (by rw [vmh,hk.1];omega),List.getElem?_eq_none (by omega)]
 rw [hput] at hc;exact hc
theorem wod.preN {f:FuncId} {ηs ξ:List SB} {args:List SV} {res:SV} (h:wod Γ P f ηs args ηs res) (hs:∀ r:Nat->Nat,(∀ i,i<ηs.length->r i=i)->ηs.map (rnSB r)=ηs) (ha:args.map (vdy (atR (List.range ηs.length) (ηs++ξ).length))=args) (hr:rnSV (atR (List.range ηs.length) (ηs++ξ).length) res=res):wod Γ P f (ηs++ξ) args (ηs++ξ) res:=by
 have hc:=wod.roN (List.range ηs.length) (η:=ηs++ξ) h List.nodup_range (List.all_eq_true.2 fun j hj=>by
  rw [List.mem_range] at hj
  simp only [List.length_append,Nat.blt_eq];omega) (by
  apply List.ext_getElem?;intro i;by_cases hi:i<ηs.length
  . have h1:=congrArg (fun l=>l[i]?) (hs _ (fun i hi=>zcm (N:=(ηs++ξ).length) hi));simp only [List.getElem?_map,List.getElem?_eq_getElem hi,Option.map_some,Option.some.injEq] at h1;simp only [List.getElem?_map,List.getElem?_range hi,List.getElem?_eq_getElem hi,Option.map_some,List.getElem?_append_left hi,h1]
  . simp [List.getElem?_eq_none (show ηs.length<=i by omega)];omega)
 rw [ha,hr] at hc;exact hc
end Go.Hp
namespace Go.Hp.T
open Go Go.RowKit Go.Slot Go.Hp Go.Slot.T
open Go.Proofs.Tryz (prog)
attribute [local irreducible] hide RH
set_option maxRecDepth 10000
set_option maxHeartbeats 8000000
variable {Γ:List (Nat×List Cell)}
attribute [go_sem] kEq0
def wsk (s:ByteArray):Bool:=decide (dmO (vb5 s).1=Dm.zero)
theorem wbb (s:ByteArray) (hs:s.size<=1073741824):CallsD Γ prog 83 [.one (cS s)] (.one (cB (wsk s))):=by
 have h1:=vwf (Γ:=Γ) s hs;unfold wsk;generalize vb5 s=r at *;refine CallsD.run [] Go.Proofs.Tryz.func83 rfl rfl rfl ?_;simp only [Go.Proofs.Tryz.f83];refine hgR ?_
 repeat' ((first | refine hfk ?_ ?_<;>intros | refine hik ?_ | with_reducible first | refine y5k (h1) ?_ | refine x4p (h1) ?_)<;>refine hgS ?_)
 all_goals refine lfE ?_;first | exact trivial | rfl
def yyx (C:Ms) (w:ByteArray):ByteArray:=(yk4 C w).getD ⟨#[]⟩
def badW (C:Ms) (w:ByteArray):Bool:=!wsk (yyx C w)
abbrev wB (C I:Ms) (N:Mn):List SB:=[mS C,mS I,mN N,itB 0 1 2]
theorem vx1 (C I:Ms) (N:Mn) (w:ByteArray) (hC:∀ s u,yk4 C s=some u->u.size<=1073741824):wod Γ prog 82 (wB C I N) [.one (.dat (cS w)),.one (.ptr 3 0)] (wB C I N) (.one (.dat (cB (badW C w)))):=by
 unfold badW yyx
 cases hl:yk4 C w with
 | none=>
  have h1:=wbb (Γ:=Γ) ⟨#[]⟩ (by decide);rw [Option.getD_none];generalize wsk ⟨#[]⟩=b at *;refine wod.run [] Go.Proofs.Tryz.func82 rfl rfl ?_;simp only [Go.Proofs.Tryz.f82];refine hgR ?_
  repeat' ((first | refine hfk ?_ ?_<;>intros | refine hik ?_)<;>refine hgS ?_)
  refine hg1 @hl ?_
  repeat' ((first | refine hfk ?_ ?_<;>intros | refine hik ?_ | with_reducible first | refine y5k (h1) ?_ | refine x4p (h1) ?_)<;>refine hgS ?_)
  exact StH.same svl (by simp [*])
 | some u=>
  have h1:=wbb (Γ:=Γ) u (hC w u hl);rw [Option.getD_some];generalize wsk u=b at *;refine wod.run [] Go.Proofs.Tryz.func82 rfl rfl ?_;simp only [Go.Proofs.Tryz.f82];refine hgR ?_
  repeat' ((first | refine hfk ?_ ?_<;>intros | refine hik ?_)<;>refine hgS ?_)
  refine hg1 @hl ?_
  repeat' ((first | refine hfk ?_ ?_<;>intros | refine hik ?_ | with_reducible first | refine y5k (h1) ?_ | refine x4p (h1) ?_)<;>refine hgS ?_)
  exact StH.same svl (by simp [*])
theorem vvn (C I:Ms) (N:Mn):∀ r:Nat->Nat,(∀ i,i<(wB C I N).length->r i=i)->(wB C I N).map (rnSB r)=wB C I N:=fun r hr=>by
 show [rnSB r (mS C),rnSB r (mS I),rnSB r (mN N),SB.box [.mp (r 0),.mp (r 1),.mp (r 2)] (some 105)]=_;rw [hr 0 (by show 0<4;decide),hr 1 (by show 1<4;decide),hr 2 (by show 2<4;decide),vya,vya,x04]
theorem yq8 (l:List ByteArray) (C I:Ms) (N:Mn) (hl:l.length<=1073741824) (hC:∀ s u,yk4 C s=some u->u.size<=1073741824) :
 wod Γ prog 115 (wB C I N++[.clo 82 [.one (.ptr 3 0)]]) [.one (.dat (.sl 1 (l.map fun s=>[cS s]))),.one (.fnr 4)] (wB C I N++[.clo 82 [.one (.ptr 3 0)]]) (.one (.dat (cI (idxF (badW C) l)))):=by
 refine wod.run [] Go.Proofs.Tryz.func115 rfl rfl ?_;simp only [Go.Proofs.Tryz.f115];refine hgR ?_;refine wwt [0,1,7] (fun i:Nat=>[(8,.one (.dat (cI i)))]) (fun _=>wB C I N++[.clo 82 [.one (.ptr 3 0)]]) (fun i=>i<=l.length/\∀ j,j<i->(badW C) (l.getD j default)=false) (fun i=>l.length-i) 0 ⟨Nat.zero_le _,fun j hj=>by omega⟩ ?_ ?_
 . refine hg ?_;exact StH.same svl rfl
 intro i hi;obtain ⟨hi,hj⟩:=hi;refine hg ?_;refine zcl (fun hlt _=>?_) (fun hlt _=>?_)
 . have hlt':i<l.length:=by omega
   have hy:=wax hlt';have hb:=vx1 (Γ:=Γ) C I N (l.getD i default) hC;refine hg ?_
   repeat' ((first | refine hfk ?_ ?_<;>intros | refine hik ?_)<;>refine hgS ?_)
   refine xbg (wod.preN (ξ:=[.clo 82 [.one (.ptr 3 0)]]) hb (vvn C I N) rfl rfl) ?_;generalize hp:(badW C) (l.getD i default)=q at *;clear hb;refine hg ?_
   repeat' ((first | refine hfk ?_ ?_<;>intros | refine hik ?_)<;>refine hgS ?_)
   . rename_i hq;rw [(we2 hi hj).2 hlt' (by rw [hp];exact hq)];exact StH.same svl rfl
   . rename_i hq;exact ⟨i+1,⟨by omega,zbh hj (by rw [hp];simpa using hq)⟩,by omega,StH.same svl rfl⟩
 . rw [(we2 hi hj).1 (by omega)];refine hg ?_
   repeat' ((first | refine hfk ?_ ?_<;>intros | refine hik ?_)<;>refine hgS ?_)
   exact StH.same svl rfl
theorem vo2 (l:List ByteArray) (C I:Ms) (N:Mn) (hl:l.length<=1073741824) (hC:∀ s u,yk4 C s=some u->u.size<=1073741824) :
 wod Γ prog 81 (wB C I N++[.clo 82 [.one (.ptr 3 0)]]) [.one (.dat (.sl 1 (l.map fun s=>[cS s]))),.one (.fnr 4)] (wB C I N++[.clo 82 [.one (.ptr 3 0)]]) (.one (.dat (cB (l.any (badW C))))):=by
 have h:=yq8 (Γ:=Γ) l C I N hl hC;refine wod.run [] Go.Proofs.Tryz.func81 rfl rfl ?_;simp only [Go.Proofs.Tryz.f81];refine hgR ?_
 repeat' ((first | refine hfk ?_ ?_<;>intros | refine hik ?_)<;>refine hgS ?_)
 refine xbg h ?_;clear h;refine hg ?_
 repeat' ((first | refine hfk ?_ ?_<;>intros | refine hik ?_)<;>refine hgS ?_)
 exact StH.same (by rw [<-vb3];exact .cons (.refl _) .nil) rfl
theorem vun {α:Type} [Inhabited α] {p:α->Bool} {l:List α} {i:Nat} (h:i<l.length) (hp:p (l.getD i default)=true):l.any p=true:=List.any_eq_true.2 ⟨_,wax h,hp⟩
theorem vyw {α:Type} [Inhabited α] {p:α->Bool} {l:List α} (h:∀ j,j<l.length->p (l.getD j default)=false):l.any p=false:=by
 rw [List.any_eq_false];intro x hx;obtain ⟨j,hj,rfl⟩:=List.getElem_of_mem hx
 have:=h j hj
 rw [List.getD_eq_getElem?_getD,List.getElem?_eq_getElem hj] at this;simpa using this
def dupT (H:Mb):List Tg->Mn->Bool
 | [],_=>false
 | y::l,m=>bif (ynd tgE H y).isSome||(ynd tgE m y).isSome then true else dupT H l (updG tgE m y ())
def noMk (H:Mb) (s:ByteArray):Bool:=(ynd tgE H (1,s)).isNone
def noCl (C:Ms) (w:ByteArray):Bool:=(yk4 C w).isNone
def veh (C I:Ms) (N:Mn) (H:Mb) (kind:ByteArray) (x:Stp):Int:=
 bif x.inn.any (noMk H) then 4 else
 bif x.cells.any (noCl C) then 4 else
 bif !(seq x.name ⟨#[]⟩)&&(!decide (x.kind=7)&&(ynd tgE N (x.kind,x.name)).isNone) then 4 else
 bif decide (x.kind=0)&&!(seq (yyx I x.name) kind)||x.cells.any (badW C) then 13 else
 bif dupT H (ypc x) [] then 5 else 0
abbrev wrBs (C I:Ms) (N:Mn) (H:Mb):List SB:=[mS C,mS I,mN N,mK H]
theorem xms (C I:Ms) (N:Mn) (η:List SB) (h0:η[0]? = some (mS C)) (h1:η[1]? = some (mS I)) (h2:η[2]? = some (mN N)) (h4:η[4]? = some (itB 0 1 2)) (h6:η[6]? = some (.clo 82 [.one (.ptr 4 0)])) :
 [0,1,2,4,6].map (fun j=>η[j]?)=(wB C I N++[SB.clo 82 [.one (.ptr 3 0)]]).map (fun x=>some (rnSB (atR [0,1,2,4,6] η.length) x)):=by
 show [η[0]?,η[1]?,η[2]?,η[4]?,η[6]?]=[some (rnSB _ (mS C)),some (rnSB _ (mS I)),some (rnSB _ (mN N)),some (rnSB _ (itB 0 1 2)),some (rnSB _ (.clo 82 [.one (.ptr 3 0)]))];rw [vya,vya,x04,h0,h1,h2,h4,h6];rfl
theorem wep (C I:Ms) (N:Mn) (H:Mb) (kind:ByteArray) (x:Stp) (hx:x.Sm) (hC:∀ s u,yk4 C s=some u->u.size<=1073741824) :
 wod Γ prog 52 (wrBs C I N H) [.agg [.mp 0,.mp 1,.mp 2],.one (.dat (cS kind)),.one (.mp 3),.agg ((stpC x).map .dat)] (wrBs C I N H) (.one (.dat (cI (veh C I N H kind x)))):=by
 have hil:=hx.il;have hcl:=hx.cl;have ht:=yr6 (Γ:=Γ) x hx.il hx.ol;have hcon:=vo2 (Γ:=Γ) x.cells C I N hcl hC
 have htl:(ypc x).length<=4294967296:=by
  have:=hx.ol
  unfold ypc;rw [List.length_append,List.length_append,List.length_map,List.length_map]
  cases (decide (x.kind=0)||(decide (x.kind=1)||decide (x.kind=5)))
  . simp;omega
  . simp;omega
 clear hx;obtain ⟨k,inn,out,nm,cells,amt⟩:=x;dsimp only at *;refine wod.run [(17,[.clo])] Go.Proofs.Tryz.func52 rfl rfl ?_;simp only [Go.Proofs.Tryz.f52];refine hgR ?_
 repeat' ((first | refine hfk ?_ ?_<;>intros | refine hik ?_)<;>refine hgS ?_)
 refine wwt [1,2,4,7,23,24] (fun i:Nat=>[(25,.one (.dat (cI i)))]) (fun _=>wrBs C I N H++[itB 0 1 2,.box ((stpC ⟨k,inn,out,nm,cells,amt⟩).map .dat) (some 50)])
  (fun i=>i<=inn.length/\∀ j,j<i->noMk H (inn.getD j default)=false) (fun i=>inn.length-i) 0 ⟨Nat.zero_le _,fun j hj=>by omega⟩ ?_ ?_
 . refine hg ?_;exact StH.same svl rfl
 rintro i ⟨hi,hj⟩;refine hg ?_;refine zcl (fun hlt _=>?_) (fun hlt _=>?_)
 . have hlt':i<inn.length:=by omega
   cases hl:ynd tgE H (1,inn.getD i default) with
   | none=>
    have hm:noMk H (inn.getD i default)=true:=by unfold noMk;rw [hl];rfl
    have hw:veh C I N H kind ⟨k,inn,out,nm,cells,amt⟩=4:=by unfold veh;rw [vun hlt' hm];rfl
    rw [hw];clear hcon ht hm hw;refine hg1 @hl ?_
    repeat' ((first | refine hfk ?_ ?_<;>intros | refine hik ?_)<;>refine hgS ?_)
    exact StH.ylx rfl (by kernel_rfl) rfl
   | some q=>
    have hm:noMk H (inn.getD i default)=false:=by unfold noMk;rw [hl];rfl
    refine hg1 @hl ?_
    repeat' ((first | refine hfk ?_ ?_<;>intros | refine hik ?_)<;>refine hgS ?_)
    exact ⟨i+1,⟨by omega,zbh hj hm⟩,by omega,StH.same svl rfl⟩
 have ha:inn.any (noMk H)=false:=vyw (fun j hjl=>hj j (by omega));clear hj hi hlt;refine hg ?_;refine wwt [1,2,4,7,40,41] (fun i:Nat=>[(42,.one (.dat (cI i)))]) (fun _=>wrBs C I N H++[itB 0 1 2,.box ((stpC ⟨k,inn,out,nm,cells,amt⟩).map .dat) (some 50)])
  (fun i=>i<=cells.length/\∀ j,j<i->noCl C (cells.getD j default)=false) (fun i=>cells.length-i) 0 ⟨Nat.zero_le _,fun j hj=>by omega⟩ ?_ ?_
 . refine hg ?_;exact StH.same svl rfl
 rintro i ⟨hi,hj⟩;refine hg ?_;refine zcl (fun hlt _=>?_) (fun hlt _=>?_)
 . have hlt':i<cells.length:=by omega
   cases hl:yk4 C (cells.getD i default) with
   | none=>
    have hm:noCl C (cells.getD i default)=true:=by unfold noCl;rw [hl];rfl
    have hw:veh C I N H kind ⟨k,inn,out,nm,cells,amt⟩=4:=by unfold veh;rw [ha,vun hlt' hm];rfl
    rw [hw];clear hcon ht hm hw;refine hg1 @hl ?_
    repeat' ((first | refine hfk ?_ ?_<;>intros | refine hik ?_)<;>refine hgS ?_)
    exact StH.ylx rfl (by kernel_rfl) rfl
   | some q=>
    have hm:noCl C (cells.getD i default)=false:=by unfold noCl;rw [hl];rfl
    refine hg1 @hl ?_
    repeat' ((first | refine hfk ?_ ?_<;>intros | refine hik ?_)<;>refine hgS ?_)
    exact ⟨i+1,⟨by omega,zbh hj hm⟩,by omega,StH.same svl rfl⟩
 have hb:cells.any (noCl C)=false:=vyw (fun j hjl=>hj j (by omega));clear hj hi hlt
 have hW:veh C I N H kind ⟨k,inn,out,nm,cells,amt⟩=bif !(seq nm ⟨#[]⟩)&&(!decide (k=7)&&(ynd tgE N (k,nm)).isNone) then 4 else
  bif decide (k=0)&&!(seq (yyx I nm) kind)||cells.any (badW C) then 13 else bif dupT H (ypc ⟨k,inn,out,nm,cells,amt⟩) [] then 5 else 0:=by unfold veh;rw [ha,hb];rfl
 rw [hW];clear hW ha hb;unfold yyx;generalize cells.any (badW C)=bw at *;by_cases hk:k=0
 . subst hk;generalize ypc ⟨0,inn,out,nm,cells,amt⟩=T at *
   cases hN:ynd tgE N (0,nm)<;>cases hI:yk4 I nm
   all_goals
    refine hg ?_
    repeat' ((first | refine hfk ?_ ?_<;>intros | refine hik ?_)<;>refine hgS ?_)
   all_goals try (exfalso;omega)
   all_goals try exact StH.ylx rfl (by kernel_rfl) (by first | (simp [*];done) | (simp only [xz8,zh5, *,cond_true,cond_false,Bool.and_false,Bool.false_and,Bool.and_true,Bool.true_and,Bool.or_false,Bool.false_or,Bool.or_true,Bool.true_or,Option.isNone_none,Option.isNone_some,Option.getD_none,Option.getD_some,Bool.not_true,Bool.not_false];done) | (simp only [xz8,zh5, *,cond_true,cond_false,Bool.and_false,Bool.false_and,Bool.and_true,Bool.true_and,Bool.or_false,Bool.false_or,Bool.or_true,Bool.true_or,Option.isNone_none,Option.isNone_some,Option.getD_none,Option.getD_some,Bool.not_true,Bool.not_false];rfl))
   all_goals
    refine xbg (wod.roN [0,1,2,4,6] hcon (by decide) rfl (xms C I N _ rfl rfl rfl rfl rfl)) ?_;refine hg ?_
    repeat' ((first | refine hfk ?_ ?_<;>intros | refine hik ?_ | with_reducible first | refine y5k (ht) ?_ | refine x4p (ht) ?_)<;>refine hgS ?_)
   all_goals try exact StH.ylx rfl (by kernel_rfl) (by first | (simp [*];done) | (simp only [xz8,zh5, *,cond_true,cond_false,Bool.and_false,Bool.false_and,Bool.and_true,Bool.true_and,Bool.or_false,Bool.false_or,Bool.or_true,Bool.true_or,Option.isNone_none,Option.isNone_some,Option.getD_none,Option.getD_some,Bool.not_true,Bool.not_false];done) | (simp only [xz8,zh5, *,cond_true,cond_false,Bool.and_false,Bool.false_and,Bool.and_true,Bool.true_and,Bool.or_false,Bool.false_or,Bool.or_true,Bool.true_or,Option.isNone_none,Option.isNone_some,Option.getD_none,Option.getD_some,Bool.not_true,Bool.not_false];rfl))
   all_goals
    refine wwt [2,17,95,96] (fun p:Nat×Mn=>[(97,.one (.dat (cI p.1)))]) (fun p=>wrBs C I N H++[itB 0 1 2,.box ((stpC ⟨0,inn,out,nm,cells,amt⟩).map .dat) (some 50),.clo 82 [.one (.ptr 4 0)],mN p.2])
     (fun p=>p.1<=T.length/\dupT H T []=dupT H (T.drop p.1) p.2) (fun p=>T.length-p.1) (0,[]) ⟨Nat.zero_le _,rfl⟩ ?_ ?_
    . refine hg ?_;exact StH.same svl rfl
    rintro ⟨i,m⟩ ⟨h1,h2⟩;dsimp only at h1 h2;refine hg ?_;refine zcl (fun hlt _=>?_) (fun hlt _=>?_)
    . have hlt':i<T.length:=by omega
      rw [xp9 hlt',dupT] at h2
      replace h2:dupT H T []=bif (ynd tgE H ((T.getD i default).1,(T.getD i default).2)).isSome||(ynd tgE m ((T.getD i default).1,(T.getD i default).2)).isSome then true else dupT H (T.drop (i+1)) (updG tgE m ((T.getD i default).1,(T.getD i default).2) ()):=h2
      cases hA:ynd tgE H ((T.getD i default).1,(T.getD i default).2)<;>cases hB:ynd tgE m ((T.getD i default).1,(T.getD i default).2)
      . rw [hA,hB] at h2;have h3:dupT H T []=dupT H (T.drop (i+1)) (updG tgE m ((T.getD i default).1,(T.getD i default).2) ()):=h2;clear h2;refine hg2 @hA @hB ?_
        repeat' ((first | refine hfk ?_ ?_<;>intros | refine hik ?_)<;>refine hgS ?_)
        refine ⟨(i+1,updG tgE m ((T.getD i default).1,(T.getD i default).2) ()),⟨by dsimp only;omega,h3⟩,by dsimp only;omega,?_⟩;refine StH.cutN [2,17,95,96,97] 8 rfl ?_ ?_
        . refine hg ?_
          first | exact trivial | rfl
        exact StH.same svl rfl
      all_goals
       have h3:dupT H T []=true:=by rw [h2,hA,hB];rfl
       clear h2;refine hg2 @hA @hB ?_
       repeat' ((first | refine hfk ?_ ?_<;>intros | refine hik ?_)<;>refine hgS ?_)
       exact StH.ylx rfl (by kernel_rfl) (by first | (simp [*];done) | (simp only [xz8,zh5, *,cond_true,cond_false,Bool.and_false,Bool.false_and,Bool.and_true,Bool.true_and,Bool.or_false,Bool.false_or,Bool.or_true,Bool.true_or,Option.isNone_none,Option.isNone_some,Option.getD_none,Option.getD_some,Bool.not_true,Bool.not_false];done) | (simp only [xz8,zh5, *,cond_true,cond_false,Bool.and_false,Bool.false_and,Bool.and_true,Bool.true_and,Bool.or_false,Bool.false_or,Bool.or_true,Bool.true_or,Option.isNone_none,Option.isNone_some,Option.getD_none,Option.getD_some,Bool.not_true,Bool.not_false];rfl))
    . have h3:dupT H T []=false:=by rw [h2,List.drop_eq_nil_of_le (by omega)];rfl
      clear h2;refine hg ?_
      repeat' ((first | refine hfk ?_ ?_<;>intros | refine hik ?_)<;>refine hgS ?_)
      exact StH.ylx rfl (by kernel_rfl) (by first | (simp [*,xz8];done) | (simp only [xz8,zh5, *,cond_true,cond_false,Bool.and_false,Bool.false_and,Bool.and_true,Bool.true_and,Bool.or_false,Bool.false_or,Bool.or_true,Bool.true_or,Option.isNone_none,Option.isNone_some,Option.getD_none,Option.getD_some,Bool.not_true,Bool.not_false];done) | (simp only [*,cond_false,Bool.and_true,Bool.or_false,Option.isNone_none,Bool.not_true];rfl))
 . have hk0:=decide_eq_false hk;generalize ypc ⟨k,inn,out,nm,cells,amt⟩=T at *
   cases hN:ynd tgE N (k,nm)<;>cases hI:yk4 I nm
   all_goals
    refine hg ?_
    repeat' ((first | refine hfk ?_ ?_<;>intros | refine hik ?_)<;>refine hgS ?_)
   all_goals try (exfalso;omega)
   all_goals try exact StH.ylx rfl (by kernel_rfl) (by first | (simp [*];done) | (simp only [xz8,zh5, *,cond_true,cond_false,Bool.and_false,Bool.false_and,Bool.and_true,Bool.true_and,Bool.or_false,Bool.false_or,Bool.or_true,Bool.true_or,Option.isNone_none,Option.isNone_some,Option.getD_none,Option.getD_some,Bool.not_true,Bool.not_false];done) | (simp only [xz8,zh5, *,cond_true,cond_false,Bool.and_false,Bool.false_and,Bool.and_true,Bool.true_and,Bool.or_false,Bool.false_or,Bool.or_true,Bool.true_or,Option.isNone_none,Option.isNone_some,Option.getD_none,Option.getD_some,Bool.not_true,Bool.not_false];rfl))
   all_goals
    refine xbg (wod.roN [0,1,2,4,6] hcon (by decide) rfl (xms C I N _ rfl rfl rfl rfl rfl)) ?_;refine hg ?_
    repeat' ((first | refine hfk ?_ ?_<;>intros | refine hik ?_ | with_reducible first | refine y5k (ht) ?_ | refine x4p (ht) ?_)<;>refine hgS ?_)
   all_goals try exact StH.ylx rfl (by kernel_rfl) (by first | (simp [*];done) | (simp only [xz8,zh5, *,cond_true,cond_false,Bool.and_false,Bool.false_and,Bool.and_true,Bool.true_and,Bool.or_false,Bool.false_or,Bool.or_true,Bool.true_or,Option.isNone_none,Option.isNone_some,Option.getD_none,Option.getD_some,Bool.not_true,Bool.not_false];done) | (simp only [xz8,zh5, *,cond_true,cond_false,Bool.and_false,Bool.false_and,Bool.and_true,Bool.true_and,Bool.or_false,Bool.false_or,Bool.or_true,Bool.true_or,Option.isNone_none,Option.isNone_some,Option.getD_none,Option.getD_some,Bool.not_true,Bool.not_false];rfl))
   all_goals
    refine wwt [2,17,95,96] (fun p:Nat×Mn=>[(97,.one (.dat (cI p.1)))]) (fun p=>wrBs C I N H++[itB 0 1 2,.box ((stpC ⟨k,inn,out,nm,cells,amt⟩).map .dat) (some 50),.clo 82 [.one (.ptr 4 0)],mN p.2])
     (fun p=>p.1<=T.length/\dupT H T []=dupT H (T.drop p.1) p.2) (fun p=>T.length-p.1) (0,[]) ⟨Nat.zero_le _,rfl⟩ ?_ ?_
    . refine hg ?_;exact StH.same svl rfl
    rintro ⟨i,m⟩ ⟨h1,h2⟩;dsimp only at h1 h2;refine hg ?_;refine zcl (fun hlt _=>?_) (fun hlt _=>?_)
    . have hlt':i<T.length:=by omega
      rw [xp9 hlt',dupT] at h2
      replace h2:dupT H T []=bif (ynd tgE H ((T.getD i default).1,(T.getD i default).2)).isSome||(ynd tgE m ((T.getD i default).1,(T.getD i default).2)).isSome then true else dupT H (T.drop (i+1)) (updG tgE m ((T.getD i default).1,(T.getD i default).2) ()):=h2
      cases hA:ynd tgE H ((T.getD i default).1,(T.getD i default).2)<;>cases hB:ynd tgE m ((T.getD i default).1,(T.getD i default).2)
      . rw [hA,hB] at h2;have h3:dupT H T []=dupT H (T.drop (i+1)) (updG tgE m ((T.getD i default).1,(T.getD i default).2) ()):=h2;clear h2;refine hg2 @hA @hB ?_
        repeat' ((first | refine hfk ?_ ?_<;>intros | refine hik ?_)<;>refine hgS ?_)
        refine ⟨(i+1,updG tgE m ((T.getD i default).1,(T.getD i default).2) ()),⟨by dsimp only;omega,h3⟩,by dsimp only;omega,?_⟩;refine StH.cutN [2,17,95,96,97] 8 rfl ?_ ?_
        . refine hg ?_
          first | exact trivial | rfl
        exact StH.same svl rfl
      all_goals
       have h3:dupT H T []=true:=by rw [h2,hA,hB];rfl
       clear h2;refine hg2 @hA @hB ?_
       repeat' ((first | refine hfk ?_ ?_<;>intros | refine hik ?_)<;>refine hgS ?_)
       exact StH.ylx rfl (by kernel_rfl) (by first | (simp [*];done) | (simp only [xz8,zh5, *,cond_true,cond_false,Bool.and_false,Bool.false_and,Bool.and_true,Bool.true_and,Bool.or_false,Bool.false_or,Bool.or_true,Bool.true_or,Option.isNone_none,Option.isNone_some,Option.getD_none,Option.getD_some,Bool.not_true,Bool.not_false];done) | (simp only [xz8,zh5, *,cond_true,cond_false,Bool.and_false,Bool.false_and,Bool.and_true,Bool.true_and,Bool.or_false,Bool.false_or,Bool.or_true,Bool.true_or,Option.isNone_none,Option.isNone_some,Option.getD_none,Option.getD_some,Bool.not_true,Bool.not_false];rfl))
    . have h3:dupT H T []=false:=by rw [h2,List.drop_eq_nil_of_le (by omega)];rfl
      clear h2;refine hg ?_
      repeat' ((first | refine hfk ?_ ?_<;>intros | refine hik ?_)<;>refine hgS ?_)
      exact StH.ylx rfl (by kernel_rfl) (by first | (simp [*,xz8];done) | (simp only [*,cond_false,Bool.and_true,Bool.or_false,Bool.false_or,Bool.or_true,Bool.true_or,Option.isNone_none,Option.isNone_some,Option.getD_none,Option.getD_some,Bool.not_true,Bool.not_false];done) | (simp only [xz8,zh5, *,cond_true,cond_false,Bool.and_false,Bool.false_and,Bool.and_true,Bool.true_and,Bool.or_false,Bool.false_or,Bool.or_true,Bool.true_or,Option.isNone_none,Option.isNone_some,Option.getD_none,Option.getD_some,Bool.not_true,Bool.not_false];rfl))
end Go.Hp.T
