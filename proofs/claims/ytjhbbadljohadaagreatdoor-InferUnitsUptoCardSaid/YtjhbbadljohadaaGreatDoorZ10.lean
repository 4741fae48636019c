/- The proof, part Z10: Hs, Ht, Hu. -/
import Derived.Test.YtjhbbadljohadaaGreatDoorZ9
import Derived.Scope
namespace Go.Hp
open Go Go.RowKit Go.Slot
variable {P:Program} {Γ:List (Nat×List Cell)}
theorem SRL.of {η:List SB} {ρ:Nat→Value} {M:Nat→Nat→Prop} {w:World}:∀{l:List AV} {r:List SV} {vs:List Value},fromL l=some r→RdBL M w vs l→SRL η ρ M w vs r:=fromL_ok
theorem opH_callDH {lit fn:Bool} {σ:List SV} {η:List SB} {nb:Nat} {o:Oper} {f:FuncId} {l:List AV} {rd rh bs:List Nat} (h:opH P Γ lit fn σ η nb o=.callD f l rd rh bs) {sl:List SV} (hl:fromL l=some sl) {η':List SB} {res:SV} (hc:CallsH Γ P f (appL (frzE η bs) η) sl η' res) :
 PStep Γ P o σ η (appL (dstEff o res) σ) η':=by
 obtain ⟨x,xs,ts,ho⟩:=opH_call h (.inl ⟨_,_,_,_,_,rfl⟩)
 rw [opH_value ho] at h
 have ho':o.op=.call { callee:=.value x,args:=xs.toList.toArray,argTypes:=ts }:=by rw [ho]
 have hG:∀{f':FuncId} {caps:List SV} {rd' rh':List Nat},calleeH Γ σ η x=some (f',caps,rd',rh')→callO.callG Γ σ η o xs.toList f' caps rd' rh'=.callD f l rd rh bs→PStep Γ P o σ η (appL (dstEff o res) σ) η':=fun {f' caps rd' rh'} hcal hg=>by
  unfold callO.callG at hg
  split at hg
  · rename_i l' bs' ha
    cases hg
    have harr:=argsD_arr ha
    intro E ρ a w hI K Q hK
    have hnt:=argsD_noTups ha
    have hnt1:noTups (argsH Γ σ xs.toList)=true:=by
     unfold noTups at hnt ⊢
     rw [List.all_append,Bool.and_eq_true] at hnt
     exact hnt.1
    obtain ⟨cv,hcv,hcr⟩:=callee_ok hI hcal
    have hsr:=(argsH_ok hI xs.toList hnt1).append hcr
    obtain ⟨hw1,_,hfz⟩:=Went.frz bs η hI.inv rfl harr (fun _=>.inl rfl)
    have hrb:=argsD_ok hw1.inv ha hfz (hsr.mv hw1.mv)
    have hcalls:=hc.2 _ ρ w _ hw1.inv (SRL.of hl hrb)
    unfold Oper.wp
    rw [exec_callv ho' hcv hc.1 w]
    show Calls P f _ w _
    have e1:xs.toList.toArray.map a.eval++cv.toArray=(xs.toList.map a.eval++cv).toArray:=by simp
    rw [e1]
    refine hcalls.mono ?_
    rintro e w' ⟨v,ρ',rfl,hw,hv⟩
    exact hK _ _ ρ' (((hI.go hw1).go hw).dst hv)
  · split at hg<;>cases hg
 unfold callO at h
 split at h
 · split at h
   · split at h
     · unfold vO at h;repeat' split at h
       all_goals cases h
     · cases h
   · exact hG rfl h
 · rename_i t
   split at h
   · split at h<;>cases h
   · split at h
     · rename_i f' caps rd' rh' hcal;exact hG hcal h
     · cases h
 · cases h
theorem SVR.refs {η:List SB} {ρ:Nat→Value} {M:Nat→Nat→Prop} {w:World} {v:Value} {x:SV} (h:SVR η ρ M w v x):∀ b∈refSV x,okB η b:=fun b hb=>by
 cases x with
 | tup l=>
  obtain ⟨vs,_,h⟩:=h
  rw [Hp.refTup,h.refTup] at hb
  exact h.refs b hb
 | one h'=>exact SVR0.refs (x:=.one h') h b hb
 | agg l=>exact SVR0.refs (x:=.agg l) h b hb
 | _=>cases hb
theorem RI.unfresh {E:HEnv} {η:List SB} {ρ:Nat→Value} {σ:List SV} {a:Act} {w:World} (h:RI Γ E ρ σ (η++[.fresh]) a w):RI Γ E ρ σ η a w:=by
 have hget:∀(i:Nat) (x:SB),η[i]? = some x→(η++[SB.fresh])[i]? = some x:=fun i x hi=>by rw [List.getElem?_append_left (List.getElem?_eq_some_iff.1 hi).1];exact hi
 have hok:∀ b,okB (η++[.fresh]) b→okB η b:=fun b ⟨x,hx,hf⟩=>by
  rw [List.getElem?_append] at hx
  split at hx
  · exact ⟨x,hx,hf⟩
  · rename_i hlt
    cases hn:b-η.length with
    | zero=>rw [hn] at hx;simp at hx;exact absurd hx.symm hf
    | succ n=>rw [hn] at hx;simp at hx
 have hM:∀ b o,MX E.Mo ρ η b o→MX E.Mo ρ (η++[.fresh]) b o:=by
  rintro b o (hm | ⟨i,x,hi,hx⟩)
  · exact .inl hm
  · exact .inr ⟨i,x,hget i x hi,hx⟩
 have hw:=h.went
 refine ⟨h.hd,h.hs,fun i x hi=>(h.slot i x hi).at hM (fun b hb=>⟨hok b ((h.slot i x hi).refs b hb),rfl⟩),fun b hb=>hok b (hw.ok b hb),hw.rho,hw.keep.trans (Keeps.shrink w hM),hw.grow,
  ⟨hw.inv.bnd,fun i x hi=>(hw.inv.blk i x (hget i x hi)).at hM (fun b hb=>⟨hok b ((hw.inv.blk i x (hget i x hi)).refs b hb),rfl⟩),fun i j x y hi hj=>hw.inv.inj i j x y (hget i x hi) (hget j y hj),fun i x hi=>hw.inv.sep i x (hget i x hi),hw.inv.glob.keep (Keeps.shrink w hM)⟩,
  hw.size,hw.os,hw.tape,hw.output,hw.frame,fun k ⟨i,x,hi,hx⟩=>hw.fresh k ⟨i,x,hget i x hi,hx⟩⟩
theorem StH.unfresh {e:List SB} {σ:List SV} {η:List SB}:StH Γ e σ (η++[.fresh]) σ η:=fun _ ρ _ _ _ h=>⟨ρ,h.unfresh⟩
inductive GR where
 | plain
 | when (d:Nat) (c b:Bool)
 | skip (d:Nat)
 | bad
def guardH (ops:List Oper) (σ:List SV) (o:Oper):GR:=match o.guard with
 | none=>.plain
 | some (j,b)=>match (ops[j]?).bind (·.dst) with
  | some d=>match gtS σ d with
   | .one (.dat (.raw (.bool c)))=>.when d c b
   | .undef=>.skip d
   | _=>.bad
  | none=>.bad
theorem guardH_spec {ops:Array Oper} {σ:List SV} {o:Oper}:(guardH ops.toList σ o=.plain→o.guard=none)∧(∀ d c b,guardH ops.toList σ o=.when d c b→∃ j,o.guard=some (j,b)∧(ops[j]?).bind (·.dst)=some d∧gtS σ d=.one (.dat (.raw (.bool c))))∧
 (∀ d,guardH ops.toList σ o=.skip d→∃ j b,o.guard=some (j,b)∧(ops[j]?).bind (·.dst)=some d∧gtS σ d=.undef):=by
 unfold guardH
 cases hg:o.guard with
 | none=>exact ⟨fun _=>rfl,fun d c b h=>(by cases h),fun d h=>(by cases h)⟩
 | some p=>
  obtain ⟨j,b⟩:=p
  simp only [Array.getElem?_toList]
  cases hd:(ops[j]?).bind (·.dst) with
  | none=>exact ⟨fun h=>(by cases h),fun d c b h=>(by cases h),fun d h=>(by cases h)⟩
  | some d=>
   simp only []
   split
   · rename_i c hc
     refine ⟨fun h=>(by cases h),fun d' c' b' h=>?_,fun d h=>(by cases h)⟩
     cases h
     exact ⟨j,rfl,hd,hc⟩
   · rename_i hc
     refine ⟨fun h=>(by cases h),fun d' c' b' h=>(by cases h),fun d' h=>?_⟩
     cases h
     exact ⟨j,b,rfl,hd,hc⟩
   · exact ⟨fun h=>(by cases h),fun d c b h=>(by cases h),fun d h=>(by cases h)⟩
section
variable {β:Type}
def frcL {α:Type}:List α→(List α→β)→β
 | [],k=>k []
 | x::l,k=>frcL l fun l=>k (x::l)
def frcN:Nat→(Nat→β)→β
 | 0,k=>k 0
 | n+1,k=>k (n+1)
def frcI:Int→(Int→β)→β
 | .ofNat n,k=>frcN n fun n=>k (.ofNat n)
 | .negSucc n,k=>frcN n fun n=>k (.negSucc n)
def frcStr:ByteArray→(ByteArray→β)→β
 | ⟨⟨l⟩⟩,k=>frcL l fun l=>k ⟨⟨l⟩⟩
def frcV:Value→(Value→β)→β
 | .bool true,k=>k (.bool true)
 | .bool false,k=>k (.bool false)
 | .int kd n,k=>frcI n fun n=>k (.int kd n)
 | .string s,k=>frcStr s fun s=>k (.string s)
 | .slice a n c,k=>k (.slice a n c)
 | .pointer a,k=>k (.pointer a)
 | v,k=>k v
def frcIs:List Int→(List Int→β)→β
 | [],k=>k []
 | x::l,k=>frcI x fun x=>frcIs l fun l=>k (x::l)
def frcC:Cell→(Cell→β)→β
 | .raw v,k=>frcV v fun v=>k (.raw v)
 | .ints kd l,k=>frcIs l fun l=>k (.ints kd l)
 | .sl n l,k=>frcL l fun l=>k (.sl n l)
 | c,k=>k c
def frcH:HC→(HC→β)→β
 | .dat c,k=>frcC c fun c=>k (.dat c)
 | .ptr b o,k=>frcN o fun o=>k (.ptr b o)
 | .sl b es lo n,k=>frcN lo fun lo=>frcN n fun n=>k (.sl b es lo n)
 | h,k=>k h
def frcHL:List HC→(List HC→β)→β
 | [],k=>k []
 | x::l,k=>frcH x fun x=>frcHL l fun l=>k (x::l)
def frcS:SV→(SV→β)→β
 | .one h,k=>frcH h fun h=>k (.one h)
 | .agg l,k=>frcHL l fun l=>k (.agg l)
 | .tup l,k=>frcL l fun l=>k (.tup l)
 | .undef,k=>k .undef
 | x,k=>k x
def frcSL:List SV→(List SV→β)→β
 | [],k=>k []
 | x::l,k=>frcS x fun x=>frcSL l fun l=>k (x::l)
def frcE:List (Nat×SV)→(List (Nat×SV)→β)→β
 | [],k=>k []
 | (d,x)::l,k=>frcS x fun x=>frcE l fun l=>k ((d,x)::l)
def frcB:SB→(SB→β)→β
 | .box l T,k=>frcHL l fun l=>k (.box l T)
 | .arr c n T,k=>frcC c fun c=>frcN n fun n=>k (.arr c n T)
 | .map es,k=>frcL es fun es=>k (.map es)
 | b,k=>k b
def frcEB:List (Nat×SB)→(List (Nat×SB)→β)→β
 | [],k=>k []
 | (d,x)::l,k=>frcB x fun x=>frcEB l fun l=>k ((d,x)::l)
theorem frcL_eq {α:Type}:∀(l:List α) (k:List α→β),frcL l k=k l
 | [],_=>rfl
 | _::l,_=>frcL_eq l _
theorem frcN_eq (n:Nat) (k:Nat→β):frcN n k=k n:=by cases n<;>rfl
theorem frcI_eq (n:Int) (k:Int→β):frcI n k=k n:=by cases n<;>exact frcN_eq _ _
theorem frcStr_eq (s:ByteArray) (k:ByteArray→β):frcStr s k=k s:=by obtain ⟨⟨l⟩⟩:=s;exact frcL_eq _ _
theorem frcV_eq (v:Value) (k:Value→β):frcV v k=k v:=by
 cases v with
 | bool b=>cases b<;>rfl
 | int kd n=>exact frcI_eq _ _
 | string s=>show frcStr s (fun s=>k (.string s))=_;exact frcStr_eq _ _
 | _=>rfl
theorem frcIs_eq:∀(l:List Int) (k:List Int→β),frcIs l k=k l
 | [],_=>rfl
 | _::l,_=>(frcI_eq _ _).trans (frcIs_eq l _)
theorem frcC_eq (c:Cell) (k:Cell→β):frcC c k=k c:=by
 cases c with
 | raw v=>exact frcV_eq _ _
 | ints kd l=>exact frcIs_eq _ _
 | sl n l=>exact frcL_eq _ _
 | _=>rfl
theorem frcH_eq (h:HC) (k:HC→β):frcH h k=k h:=by
 cases h with
 | dat c=>exact frcC_eq _ _
 | ptr b o=>exact frcN_eq _ _
 | sl b es lo n=>exact (frcN_eq _ _).trans (frcN_eq _ _)
 | _=>rfl
theorem frcHL_eq:∀(l:List HC) (k:List HC→β),frcHL l k=k l
 | [],_=>rfl
 | _::l,_=>(frcH_eq _ _).trans (frcHL_eq l _)
theorem frcS_eq (x:SV) (k:SV→β):frcS x k=k x:=by
 cases x with
 | one h=>exact frcH_eq _ _
 | agg l=>exact frcHL_eq _ _
 | tup l=>exact frcL_eq _ _
 | _=>rfl
theorem frcSL_eq:∀(l:List SV) (k:List SV→β),frcSL l k=k l
 | [],_=>rfl
 | _::l,_=>(frcS_eq _ _).trans (frcSL_eq l _)
theorem frcE_eq:∀(l:List (Nat×SV)) (k:List (Nat×SV)→β),frcE l k=k l
 | [],_=>rfl
 | (_,_)::l,_=>(frcS_eq _ _).trans (frcE_eq l _)
theorem frcB_eq (x:SB) (k:SB→β):frcB x k=k x:=by
 cases x with
 | box l T=>exact frcHL_eq _ _
 | arr c n T=>exact (frcC_eq _ _).trans (frcN_eq _ _)
 | map es=>exact frcL_eq _ _
 | _=>rfl
theorem frcEB_eq:∀(l:List (Nat×SB)) (k:List (Nat×SB)→β),frcEB l k=k l
 | [],_=>rfl
 | (_,_)::l,_=>(frcB_eq _ _).trans (frcEB_eq l _)
end
def isSrc (ops:List Oper):Option Nat→Bool
 | none=>false
 | some d=>ops.any fun o=>match o.op with
  | .call c=>match c.callee with
   | .builtin .append=>match c.args.toList with
    | [_,.tmp t]=>t==d
    | _=>false
   | _=>false
  | _=>false
section
variable (cD:FuncId→List AV→Option AV) (cH:FuncId→List SB→List SV→Option (List SB×SV×List Nat))
def evDo (o:Oper) (σ:List SV) (η:List SB):HO→Option (List SV×List SB×List Nat)
 | .eff _ _ e h none=>frcE e fun e=>frcEB h fun h=>some (appL e σ,appL h η,h.map (·.1))
 | .eff _ _ e h (some x)=>frcE e fun e=>frcEB h fun h=>frcB x fun x=>some (appL e σ,appL h η++[x],h.map (·.1))
 | .callD f l _ _ bs=>match cD f l with
  | some res=>match resS η.length res with
   | some (y,none)=>frcS y fun y=>some (appL (dstEff o y) σ,appL (frzE η bs) η,bs)
   | some (y,some x)=>frcS y fun y=>frcB x fun x=>some (appL (dstEff o y) σ,appL (frzE η bs) η++[x],bs)
   | none=>none
  | none=>match fromL l with
   | some sl=>match cH f (appL (frzE η bs) η) sl with
    | some (η',res,ch)=>frcS res fun res=>frcL η' fun η'=>some (appL (dstEff o res) σ,η',bs++ch)
    | none=>none
   | none=>none
 | .callH f l _=>match cH f η l with
  | some (η',res,ch)=>frcS res fun res=>frcL η' fun η'=>some (appL (dstEff o res) σ,η',ch)
  | none=>none
 | .look r z ok _ _=>match o.dst with
  | some _=>frcS (lookV ok r z) fun y=>some (appL (dstEff o y) σ,η,[])
  | none=>none
 | _=>none
def evGd (P:Program) (Γ:List (Nat×List Cell)) (ops:List Oper) (o:Oper) (σ:List SV) (η:List SB):GR→Option (List SV×List SB×List Nat)
 | .plain=>evDo cD cH o σ η (opF P Γ (isSrc ops o.dst) false σ η η.length o)
 | .when _ c b=>if c=b then evDo cD cH o σ η (opF P Γ (isSrc ops o.dst) false σ η η.length o) else some (appL (dstEff o .undef) σ,η,[])
 | .skip _=>some (appL (dstEff o .undef) σ,η,[])
 | .bad=>none
def evRun (P:Program) (Γ:List (Nat×List Cell)) (ops:List Oper):List Oper→List SV→List SB→List Nat→Option (List SV×List SB×List Nat)
 | [],σ,η,wl=>some (σ,η,wl)
 | o::r,σ,η,wl=>match evGd cD cH P Γ ops o σ η (guardH ops σ o) with
  | some (σ',η',ws)=>frcL σ' fun σ'=>frcL η' fun η'=>evRun P Γ ops r σ' η' (ws++wl)
  | none=>none
def opRd:Op→List Nat
 | .move x=>orr x
 | .assign x=>orr x
 | .pick c x y=>orr c++orr x++orr y
 | .binOp _ _ x y _=>orr x++orr y
 | .unOp _ _ x=>orr x
 | .load _ x=>orr x
 | .fieldAddr _ x _=>orr x
 | .indexAddr _ x y=>orr x++orr y
 | .field _ x _=>orr x
 | .index _ x y=>orr x++orr y
 | .extract x _=>orr x
 | .nilCheck x=>orr x
 | .build _ ps=>orrs ps.toList
 | .slice _ x lo hi _=>orr x++orrO lo++orrO hi
 | .convert _ _ x=>orr x
 | .lookup _ x y _=>orr x++orr y
 | .call c=>(match c.callee with
  | .value (.tmp t)=>[t]
  | _=>[])++orrL c.args.toList
 | _=>[]
def sRd (o:Oper):List Nat:=dstRd o++opRd o.op
def gRd (ops:List Oper) (o:Oper):List Nat:=match o.guard with
 | none=>[]
 | some (j,_)=>match (ops[j]?).bind (·.dst) with
  | some d=>[d]
  | none=>[]
def sHR (ops:List Oper) (o:Oper):HR:=⟨gRd ops o++sRd o,[],dstEff o .any,[]⟩
def inRd (l r:List Nat):Bool:=l.all fun x=>r.contains x
def evDoP (o:Oper) (σ:List SV) (η:List SB):HO→Option (List SV×List SB×List Nat)
 | .eff rd _ [(d,x)] [] none=>if inRd rd (sRd o)=true∧o.dst=some d then frcS x fun x=>some (σ.set d x,η,[]) else none
 | .callD f l rd _ []=>match cD f l,o.dst with
  | some res,some d=>if inRd rd (sRd o)=true then match resS η.length res with
   | some (y,none)=>frcS y fun y=>some (σ.set d y,η,[])
   | _=>none
   else none
  | _,_=>none
 | _=>none
def evGdP (P:Program) (Γ:List (Nat×List Cell)) (ops:List Oper) (o:Oper) (σ:List SV) (η:List SB):GR→Option (List SV×List SB×List Nat)
 | .plain=>evDoP cD o σ η (opF P Γ (isSrc ops o.dst) false σ η η.length o)
 | .when _ c b=>if c=b then evDoP cD o σ η (opF P Γ (isSrc ops o.dst) false σ η η.length o) else some (appL (dstEff o .undef) σ,η,[])
 | .skip _=>some (appL (dstEff o .undef) σ,η,[])
 | .bad=>none
def evRunP (P:Program) (Γ:List (Nat×List Cell)) (ops:List Oper):List Oper→List SV→List SB→List Nat→Option (List SV×List SB×List Nat)
 | [],σ,η,wl=>some (σ,η,wl)
 | o::r,σ,η,wl=>match evGdP cD P Γ ops o σ η (guardH ops σ o) with
  | some (σ',η',ws)=>evRunP P Γ ops r σ' η' (ws++wl)
  | none=>none
def pureOp (o:Oper):Bool:=match o.op with
 | .alloc _=>false
 | .box _ _=>false
 | .store _ _ _=>false
 | .buildSlice _ _ _=>false
 | .makeMap _ _=>false
 | .makeFunc _ _ _=>false
 | .mapUpdate _ _ _ _=>false
 | .call c=>match c.callee with
  | .value _=>true
  | .builtin b=>match b with
   | .len=>true
   | _=>false
  | _=>false
 | _=>true
def mkM:List Nat→Nat
 | []=>0
 | i::l=>Nat.lor (Nat.pow 2 i) (mkM l)
def getM:List Nat→Nat→Nat
 | [],_=>0
 | x::_,0=>x
 | _::l,i+1=>getM l i
def befM1 (acc:List Nat):List Nat→Nat
 | []=>0
 | d::l=>Nat.lor (Nat.lor (Nat.pow 2 d) (getM acc d)) (befM1 acc l)
def befM:List Oper→List Nat→List Nat
 | [],acc=>acc
 | o::r,acc=>frcN (befM1 acc (direct o)) fun m=>befM r (acc++[m])
def apM:Nat→Nat→Nat→Nat→List (Nat×Nat)→Bool
 | _,_,_,_,[]=>true
 | b,r,w,i,(r',w')::l=>(Nat.beq (Nat.land (Nat.shiftRight b i) 1) 1||(Nat.beq (Nat.land w' r) 0&&Nat.beq (Nat.land w r') 0))&&apM b r w (i+1) l
def indM:List Nat→List (Nat×Nat)→List (Nat×Nat)→Bool
 | [],_,[]=>true
 | b::bs,before,(r,w)::l=>apM b r w 0 before&&indM bs (before++[(r,w)]) l
 | _,_,_=>false
def frcM:List HR→(List (Nat×Nat)→Bool)→Bool
 | [],k=>k []
 | s::l,k=>frcN (mkM s.rd) fun r=>frcN (mkM s.ws) fun w=>frcM l fun l=>k ((r,w)::l)
def indepM (l:List Oper) (recs:List HR):Bool:=
 edgesOk 0 l&&(recs.all fun s=>(s.ws.all fun x=>s.rd.contains x)&&isNil s.heff)&&frcM recs fun rs=>indM (befM l []) [] rs
def stOk (ops:List Oper):Bool:=ops.all pureOp&&indepM ops (ops.map (sHR ops))
def evRegP (P:Program) (Γ:List (Nat×List Cell)) (ops:List Oper) (σ:List SV) (η:List SB) (wl:List Nat):Option (List SV×List SB×List Nat):=match stOk ops with
 | true=>evRunP cD P Γ ops ops σ η wl
 | false=>none
def evDoD (o:Oper) (nb:Nat) (η:List SB):HO→Option HR
 | .eff rd rh e h none=>some ⟨rd,rh,e,h⟩
 | .eff rd rh e h (some x)=>if roomB η nb=true then some ⟨rd,nb::rh,e,h++[(nb,x)]⟩ else none
 | .callD f l rd rh bs=>match cD f l with
  | some res=>match resS nb res with
   | some (y,none)=>some ⟨rd,rh++bs,dstEff o y,frzE η bs⟩
   | some (y,some x)=>if roomB η nb=true then some ⟨rd,nb::(rh++bs),dstEff o y,frzE η bs++[(nb,x)]⟩ else none
   | none=>none
  | none=>none
 | .callH f l rd=>match cH f η l with
  | some (η',res,ch)=>if η'.length=η.length then some ⟨rd,List.range η.length,dstEff o res,ch.map fun i=>(i,gB η' i)⟩ else none
  | none=>none
 | .look r z ok rd rh=>match o.dst with
  | some _=>some ⟨rd,rh,dstEff o (lookV ok r z),[]⟩
  | none=>none
 | _=>none
def onD (d:Nat) (s:HR):HR:=⟨d::s.rd,s.rh,s.eff,s.heff⟩
def evGdD (P:Program) (Γ:List (Nat×List Cell)) (ops:List Oper) (nb:Nat) (o:Oper) (σ:List SV) (η:List SB):GR→Option HR
 | .plain=>evDoD cD cH o nb η (opF P Γ (isSrc ops o.dst) false σ η nb o)
 | .when d c b=>if c=b then (evDoD cD cH o nb η (opF P Γ (isSrc ops o.dst) false σ η nb o)).map (onD d) else some ⟨d::dstRd o,[],dstEff o .undef,[]⟩
 | .skip d=>some ⟨d::dstRd o,[],dstEff o .undef,[]⟩
 | .bad=>none
def evRunD (P:Program) (Γ:List (Nat×List Cell)) (ops:List Oper) (nb:Nat):List Oper→List HR→List SV→List SB→List Nat→Option (List SV×List SB×List Nat)
 | [],acc,σ,η,wl=>if indepH ops acc=true then some (σ,η,wl) else none
 | o::r,acc,σ,η,wl=>match evGdD cD cH P Γ ops nb o σ η (guardH ops σ o) with
  | some s=>frcE s.eff fun e=>frcEB s.heff fun h=>frcL (appL e σ) fun σ=>frcL (appL h η) fun η=>evRunD P Γ ops nb r (acc++[s]) σ η (s.heff.map (·.1)++wl)
  | none=>none
def trimF (n:Nat) (η:List SB):List SB:=match η.drop n with
 | [.fresh]=>η.take n
 | _=>η
def evLoop (body:List SV→List SB→List Nat→Option (Exit×List SV×List SB×List Nat)):Nat→List SV→List SB→List Nat→Option (Exit×List SV×List SB×List Nat)
 | 0,_,_,_=>none
 | n+1,σ,η,wl=>match body σ η wl with
  | some (.normal,σ',η',wl')=>evLoop body n σ' η' wl'
  | r=>r
def evCode (P:Program) (Γ:List (Nat×List Cell)) (N:Nat):Code→List SV→List SB→List Nat→Option (Exit×List SV×List SB×List Nat)
 | .skip,σ,η,wl=>some (.normal,σ,η,wl)
 | .region _ ops false,σ,η,wl=>match evRun cD cH P Γ ops.toList ops.toList σ η wl with
  | some (s,h,wl)=>some (.normal,s,h,wl)
  | none=>none
 | .region _ ops true,σ,η,wl=>if P.follows .mixedOrders=true then (match evRegP cD P Γ ops.toList σ η wl with
  | some (s,h,wl)=>some (.normal,s,h,wl)
  | none=>match evRunD cD cH P Γ ops.toList η.length ops.toList [] σ (η++[.fresh]) wl with
   | some (s,h,wl)=>some (.normal,s,trimF η.length h,wl)
   | none=>none) else none
 | .seq x y,σ,η,wl=>match evCode P Γ N x σ η wl with
  | some (.normal,s,h,wl)=>evCode P Γ N y s h wl
  | r=>r
 | .cond c x y,σ,η,wl=>match opdS Γ σ c with
  | .one (.dat (.raw (.bool true)))=>evCode P Γ N x σ η wl
  | .one (.dat (.raw (.bool false)))=>evCode P Γ N y σ η wl
  | _=>none
 | .block id x,σ,η,wl=>match evCode P Γ N x σ η wl with
  | some (.exit j,s,h,wl)=>if j=id then some (.normal,s,h,wl) else some (.exit j,s,h,wl)
  | r=>r
 | .loop x,σ,η,wl=>evLoop (evCode P Γ N x) N σ η wl
 | .exit id,σ,η,wl=>some (.exit id,σ,η,wl)
 | .ret,σ,η,wl=>some (.ret,σ,η,wl)
 | .label _,σ,η,wl=>some (.normal,σ,η,wl)
 | .scope x,σ,η,wl=>match evCode P Γ N x σ η wl with
  | some (.goto _,_,_,_)=>none
  | r=>r
 | _,_,_,_=>none
end
def evBody (cD:FuncId→List AV→Option AV) (cH:FuncId→List SB→List SV→Option (List SB×SV×List Nat)) (P:Program) (Γ:List (Nat×List Cell)) (N:Nat) (f:FuncId) (l:List SV) (η:List SB):Option (SV×List SB×List Nat):=match P.funcs[f]? with
 | some fn=>match fn.body,fn.name == "runtime.NumGoroutine" with
  | some c,false=>match frcSL (l++List.replicate (fn.ntmps-l.length) .undef) fun σ=>evCode cD cH P Γ N c σ η [] with
   | some (.ret,σ,h,wl)=>(resHV P σ h fn.results.toList).map fun x=>(x,h,wl)
   | some (.normal,σ,h,wl)=>(resHV P σ h fn.results.toList).map fun x=>(x,h,wl)
   | _=>none
  | _,_=>none
 | none=>none
def ltB (m:Nat) (l:List Nat):Bool:=l.all fun b=>decide (b<m)
def datFin (n:Nat) (x:SV) (η:List SB):List SB×SV:=match datRes η x with
 | some (av,bs)=>match bs.all (fun b=>decide (n≤b)),resS 0 av with
  | true,some (y,none)=>(appL (frzE η bs) η,y)
  | _,_=>(η,x)
 | none=>(η,x)
def cutFin (n:Nat) (r:List SB×SV):List SB×SV:=if (ltB n (refSV r.2)&&(r.1.take n).all (fun b=>ltB n (refSB b)))=true then (r.1.take n,r.2) else r
mutual
def evD (P : Program) (Γ : List (Nat × List Cell)) (known : FuncId → List AV → Option AV) (N : Nat) : Nat → FuncId → List AV → Option AV
 | 0,_,_=>none
 | n + 1, f, l => match known f l with
  | some r=>some r
  | none=>match fromL l with
   | some sl=>match evBody (evD P Γ known N n) (evH P Γ known N n) P Γ N f sl [] with
    | some (x,η,_)=>(datRes η x).map (·.1)
    | none=>none
   | none=>none
def evH (P:Program) (Γ:List (Nat×List Cell)) (known:FuncId→List AV→Option AV) (N:Nat):Nat→FuncId→List SB→List SV→Option (List SB×SV×List Nat)
 | 0,_,_,_=>none
 | n+1,f,η,l=>match evBody (evD P Γ known N n) (evH P Γ known N n) P Γ N f l η with
  | some (x,h,wl)=>match cutFin η.length (datFin η.length x h) with
   | (h',y)=>some (h',y,wl.filter (fun i=>decide (i<η.length)))
  | none=>none
end
end Go.Hp

namespace Go.Hp
open Go Go.RowKit Go.Slot
variable {P:Program} {Γ:List (Nat×List Cell)}
def Fr (η η':List SB) (wl:List Nat):Prop:=η.length≤η'.length∧∀ i,i<η.length→i∉wl→η'[i]? = η[i]?
theorem Fr.refl {η:List SB} {wl:List Nat}:Fr η η wl:=⟨Nat.le_refl _,fun _ _ _=>rfl⟩
theorem Fr.mono {η η':List SB} {wl wl':List Nat} (h:Fr η η' wl) (hs:∀ i∈wl,i∈wl'):Fr η η' wl':=⟨h.1,fun i hi hn=>h.2 i hi (fun hm=>hn (hs i hm))⟩
theorem Fr.trans {a b c:List SB} {ws wl:List Nat} (h:Fr a b wl) (h':Fr b c ws):Fr a c (ws++wl):=
 ⟨Nat.le_trans h.1 h'.1,fun i hi hn=>by
  rw [List.mem_append,not_or] at hn
  exact (h'.2 i (Nat.lt_of_lt_of_le hi h.1) hn.1).trans (h.2 i hi hn.2)⟩
theorem appL_other {α:Type} {e:List (Nat×α)} {l:List α} {i:Nat} (hi:i<l.length) (h:i∉e.map (·.1)):(appL e l)[i]? = l[i]?:=by
 rw [appL_get e l i hi,evL_none h];rfl
theorem Fr.app {η:List SB} {e:List (Nat×SB)}:Fr η (appL e η) (e.map (·.1)):=⟨by rw [appL_length];exact Nat.le_refl _,fun i hi hn=>appL_other hi hn⟩
theorem Fr.push {η:List SB} {e:List (Nat×SB)} {x:SB}:Fr η (appL e η++[x]) (e.map (·.1)):=⟨by rw [List.length_append,appL_length];omega,fun i hi hn=>by
 rw [List.getElem?_append_left (by rw [appL_length];exact hi)];exact appL_other hi hn⟩
theorem frzE_fst {η:List SB} {bs:List Nat}:(frzE η bs).map (·.1)=bs:=by simp [frzE,Function.comp_def]
theorem evL_map {α:Type} {g:Nat→α} {ch:List Nat} {i:Nat} (h:i∈ch):evL (ch.map fun i=>(i,g i)) i=some (g i):=by
 obtain ⟨v,hv⟩:=evL_some (eff:=ch.map fun i=>(i,g i)) (r:=i) (by simpa using h)
 rw [hv]
 unfold evL at hv
 obtain ⟨p,hp,e⟩:=Option.map_eq_some_iff.1 hv
 have hm:=List.mem_of_find?_eq_some hp
 have hq:=List.find?_some hp
 simp only [List.mem_reverse,List.mem_map] at hm
 obtain ⟨j,_,rfl⟩:=hm
 simp only [beq_iff_eq] at hq
 subst hq
 exact congrArg some e.symm
theorem Fr.eff {η η':List SB} {ch:List Nat} (h:Fr η η' ch) (hl:η'.length=η.length):η'=appL (ch.map fun i=>(i,gB η' i)) η:=by
 refine List.ext_getElem? (fun i=>?_)
 by_cases hi:i<η.length
 · rw [appL_get _ _ _ hi]
   by_cases hc:i∈ch
   · rw [evL_map (g:=gB η') hc]
     have hi':i<η'.length:=hl.symm▸hi
     unfold gB
     rw [List.getElem?_eq_getElem hi'];rfl
   · rw [evL_none (by simpa using hc),h.2 i hi hc];rfl
 · rw [List.getElem?_eq_none (by omega),List.getElem?_eq_none (by rw [appL_length];omega)]
def OkD (Γ:List (Nat×List Cell)) (P:Program) (cD:FuncId→List AV→Option AV):Prop:=∀ f l r,cD f l=some r→CallsD Γ P f l r
def OkH (Γ:List (Nat×List Cell)) (P:Program) (cH:FuncId→List SB→List SV→Option (List SB×SV×List Nat)):Prop:=∀ f η l η' r ch,cH f η l=some (η',r,ch)→CallsH Γ P f η l η' r∧Fr η η' ch
section
variable {cD:FuncId→List AV→Option AV} {cH:FuncId→List SB→List SV→Option (List SB×SV×List Nat)}
theorem soundF {lit fn:Bool} {o:Oper} {σ:List SV} {η:List SB} {nb:Nat} {rd rh:List Nat} {e:List (Nat×SV)} {h:List (Nat×SB)} {new:Option SB} (hr:opF P Γ lit fn σ η nb o=.eff rd rh e h new):Sound Γ P o σ η nb rd rh e h new:=by
 rcases opF_ok (P:=P) (Γ:=Γ) (lit:=lit) (fn:=fn) (o:=o) (σ:=σ) (η:=η) (nb:=nb) with he | ⟨_,_,_,_,_,he,hs⟩
 · have hs:=sound_opH (P:=P) (Γ:=Γ) (lit:=lit) (fn:=fn) (o:=o) (σ:=σ) (η:=η) (nb:=nb)
   rw [←he,hr] at hs
   exact hs
 · rw [hr] at he
   cases he
   exact hs
theorem opF_not {lit fn:Bool} {o:Oper} {σ:List SV} {η:List SB} {nb:Nat} {r:HO} (hr:opF P Γ lit fn σ η nb o=r) (hn:∀ rd rh e h new,r≠.eff rd rh e h new):opH P Γ lit fn σ η nb o=r:=by
 rcases opF_ok (P:=P) (Γ:=Γ) (lit:=lit) (fn:=fn) (o:=o) (σ:=σ) (η:=η) (nb:=nb) with he | ⟨_,_,_,_,_,he,_⟩
 · exact he.symm.trans hr
 · exact absurd (hr.symm.trans he) (hn _ _ _ _ _)
theorem evDo_ok (hD:OkD Γ P cD) (hH:OkH Γ P cH) {lit fn:Bool} {o:Oper} {σ σ':List SV} {η η':List SB} {ws:List Nat} (h:evDo cD cH o σ η (opF P Γ lit fn σ η η.length o)=some (σ',η',ws)):PStep Γ P o σ η σ' η'∧Fr η η' ws:=by
 cases hr:opF P Γ lit fn σ η η.length o with
 | eff rd rh e hf new=>
  have hs:=soundF hr
  rw [hr] at h
  cases new with
  | none=>simp only [evDo,frcE_eq,frcEB_eq,Option.some.injEq,Prod.mk.injEq] at h;obtain ⟨rfl,rfl,rfl⟩:=h;exact ⟨HStep.p hs,Fr.app⟩
  | some x=>simp only [evDo,frcE_eq,frcB_eq,frcEB_eq,Option.some.injEq,Prod.mk.injEq] at h;obtain ⟨rfl,rfl,rfl⟩:=h;exact ⟨hs.2 rfl,Fr.push⟩
 | callD f l rd rh bs=>
  have hr':=opF_not hr (by simp)
  rw [hr] at h;simp only [evDo,frcS_eq,frcB_eq,frcL_eq] at h
  split at h
  · rename_i res hres
    split at h
    · rename_i y hy
      simp only [Option.some.injEq,Prod.mk.injEq] at h;obtain ⟨rfl,rfl,rfl⟩:=h
      exact ⟨HStep.p (opH_callD hr' (hD _ _ _ hres) hy),(Fr.app (e:=frzE η bs)).mono (fun i hi=>by rwa [frzE_fst] at hi)⟩
    · rename_i y x hy
      simp only [Option.some.injEq,Prod.mk.injEq] at h;obtain ⟨rfl,rfl,rfl⟩:=h
      exact ⟨(opH_callD hr' (hD _ _ _ hres) hy).2 rfl,(Fr.push (e:=frzE η bs)).mono (fun i hi=>by rwa [frzE_fst] at hi)⟩
    · cases h
  · split at h
    · rename_i sl hsl
      split at h
      · rename_i η1 res ch hc
        simp only [Option.some.injEq,Prod.mk.injEq] at h;obtain ⟨rfl,rfl,rfl⟩:=h
        obtain ⟨h1,h2⟩:=hH _ _ _ _ _ _ hc
        exact ⟨opH_callDH hr' hsl h1,((Fr.app (e:=frzE η bs)).trans h2).mono (fun i hi=>by
         rw [frzE_fst] at hi;simp only [List.mem_append] at hi ⊢;exact hi.symm)⟩
      · cases h
    · cases h
 | callF p l rd bs=>rw [hr] at h;cases h
 | callH f l rd=>
  have hr':=opF_not hr (by simp)
  rw [hr] at h;simp only [evDo,frcS_eq,frcL_eq] at h
  split at h
  · rename_i η1 res ch hc
    simp only [Option.some.injEq,Prod.mk.injEq] at h;obtain ⟨rfl,rfl,rfl⟩:=h
    obtain ⟨h1,h2⟩:=hH _ _ _ _ _ _ hc
    exact ⟨(opH_callH hr' h1).1,h2⟩
  · cases h
 | mk f caps rd bs=>rw [hr] at h;cases h
 | look r z ok rd rh=>
  have hr':=opF_not hr (by simp)
  rw [hr] at h;simp only [evDo,frcS_eq] at h
  split at h
  · rename_i d hd
    simp only [Option.some.injEq,Prod.mk.injEq] at h;obtain ⟨rfl,rfl,rfl⟩:=h
    rcases opH_look hr' with h1 | h1
    · exact ⟨h1.p,Fr.refl⟩
    · rw [hd] at h1;cases h1
  · cases h
 | bad=>rw [hr] at h;cases h
theorem evGd_ok (hD:OkD Γ P cD) (hH:OkH Γ P cH) {ops:Array Oper} {o:Oper} {σ σ':List SV} {η η':List SB} {ws:List Nat} (h:evGd cD cH P Γ ops.toList o σ η (guardH ops.toList σ o)=some (σ',η',ws)):GP Γ P ops o σ η σ' η'∧Fr η η' ws:=by
 have hs:=guardH_spec (ops:=ops) (σ:=σ) (o:=o)
 cases hg:guardH ops.toList σ o with
 | plain=>rw [hg] at h;exact (evDo_ok hD hH h).imp_left (GP.plain (hs.1 hg))
 | when d c b=>
  obtain ⟨j,h1,h2,h3⟩:=hs.2.1 d c b hg
  rw [hg] at h;simp only [evGd] at h
  split at h
  · rename_i hc;subst hc
    exact (evDo_ok hD hH h).imp_left (GP.taken h1 h2 h3)
  · rename_i hc
    simp only [Option.some.injEq,Prod.mk.injEq] at h;obtain ⟨rfl,rfl,rfl⟩:=h
    exact ⟨GP.skipped h1 h2 (.inl (by rw [h3];cases c<;>cases b<;>simp at hc ⊢)),Fr.refl⟩
 | skip d=>
  obtain ⟨j,b,h1,h2,h3⟩:=hs.2.2 d hg
  rw [hg] at h
  simp only [evGd,Option.some.injEq,Prod.mk.injEq] at h;obtain ⟨rfl,rfl,rfl⟩:=h
  exact ⟨GP.skipped h1 h2 (.inr h3),Fr.refl⟩
 | bad=>rw [hg] at h;cases h
theorem evRun_ok (hD:OkD Γ P cD) (hH:OkH Γ P cH) {ops:Array Oper} {e:List SB}:∀(l:List Oper) (σ:List SV) (η:List SB) (wl:List Nat) (σ':List SV) (η':List SB) (wl':List Nat),evRun cD cH P Γ ops.toList l σ η wl=some (σ',η',wl')→Fr e η wl→
 RunP Γ P ops l σ η (fun s h=>s=σ'∧h=η')∧Fr e η' wl'
 | [],σ,η,wl,σ',η',wl',h,hf=>by
  simp only [evRun,Option.some.injEq,Prod.mk.injEq] at h;obtain ⟨rfl,rfl,rfl⟩:=h
  exact ⟨⟨rfl,rfl⟩,hf⟩
 | o::r,σ,η,wl,σ',η',wl',h,hf=>by
  simp only [evRun,frcL_eq] at h
  split at h
  · rename_i σ1 η1 ws h1
    obtain ⟨a,b⟩:=evGd_ok hD hH h1
    obtain ⟨c,d⟩:=evRun_ok hD hH r _ _ _ _ _ _ h (hf.trans b)
    exact ⟨⟨_,_,a,c⟩,d⟩
  · cases h
theorem evDoD_ok (hD:OkD Γ P cD) (hH:OkH Γ P cH) {lit fn:Bool} {o:Oper} {σ:List SV} {η:List SB} {nb:Nat} {s:HR} (h:evDoD cD cH o nb η (opF P Γ lit fn σ η nb o)=some s):HStep Γ P o σ η s.rd s.rh s.eff s.heff:=by
 cases hr:opF P Γ lit fn σ η nb o with
 | eff rd rh e hf new=>
  have hs:=soundF hr
  rw [hr] at h
  cases new with
  | none=>simp only [evDoD,Option.some.injEq] at h;subst h;exact hs
  | some x=>
   simp only [evDoD] at h
   split at h
   · rename_i hroom;simp only [Option.some.injEq] at h;subst h;exact hs.1 hroom
   · cases h
 | callD f l rd rh bs=>
  have hr':=opF_not hr (by simp)
  rw [hr] at h;simp only [evDoD] at h
  split at h
  · rename_i res hres
    split at h
    · rename_i y hy
      simp only [Option.some.injEq] at h;subst h
      exact opH_callD hr' (hD _ _ _ hres) hy
    · rename_i y x hy
      split at h
      · rename_i hroom;simp only [Option.some.injEq] at h;subst h
        exact (opH_callD hr' (hD _ _ _ hres) hy).1 hroom
      · cases h
    · cases h
  · cases h
 | callF p l rd bs=>rw [hr] at h;cases h
 | callH f l rd=>
  have hr':=opF_not hr (by simp)
  rw [hr] at h;simp only [evDoD] at h
  split at h
  · rename_i η1 res ch hc
    obtain ⟨h1,h2⟩:=hH _ _ _ _ _ _ hc
    split at h
    · rename_i hl
      simp only [Option.some.injEq] at h;subst h
      exact (opH_callH hr' h1).2 _ (h2.eff hl)
    · cases h
  · cases h
 | mk f caps rd bs=>rw [hr] at h;cases h
 | look r z ok rd rh=>
  have hr':=opF_not hr (by simp)
  rw [hr] at h;simp only [evDoD] at h
  split at h
  · rename_i d hd
    simp only [Option.some.injEq] at h;subst h
    rcases opH_look hr' with h1 | h1
    · exact h1
    · rw [hd] at h1;cases h1
  · cases h
 | bad=>rw [hr] at h;cases h
theorem evGdD_ok (hD:OkD Γ P cD) (hH:OkH Γ P cH) {ops:Array Oper} {o:Oper} {σ:List SV} {η:List SB} {nb:Nat} {s:HR} (h:evGdD cD cH P Γ ops.toList nb o σ η (guardH ops.toList σ o)=some s):GH Γ P ops o σ η s.rd s.rh s.eff s.heff:=by
 have hs:=guardH_spec (ops:=ops) (σ:=σ) (o:=o)
 cases hg:guardH ops.toList σ o with
 | plain=>rw [hg] at h;exact GH.plain (hs.1 hg) (evDoD_ok hD hH h)
 | when d c b=>
  obtain ⟨j,h1,h2,h3⟩:=hs.2.1 d c b hg
  rw [hg] at h;simp only [evGdD] at h
  split at h
  · rename_i hc;subst hc
    obtain ⟨s',hs',e⟩:=Option.map_eq_some_iff.1 h
    subst e
    exact GH.taken h1 h2 h3 (evDoD_ok hD hH hs')
  · rename_i hc
    simp only [Option.some.injEq] at h;subst h
    exact GH.skipped h1 h2 (.inl (by rw [h3];cases c<;>cases b<;>simp at hc ⊢))
 | skip d=>
  obtain ⟨j,b,h1,h2,h3⟩:=hs.2.2 d hg
  rw [hg] at h
  simp only [evGdD,Option.some.injEq] at h;subst h
  exact GH.skipped h1 h2 (.inr h3)
 | bad=>rw [hg] at h;cases h
theorem evRunD_ok (hD:OkD Γ P cD) (hH:OkH Γ P cH) {ops:Array Oper} {nb:Nat} {e:List SB}:∀(l:List Oper) (acc:List HR) (σ:List SV) (η:List SB) (wl:List Nat) (σ':List SV) (η':List SB) (wl':List Nat),evRunD cD cH P Γ ops.toList nb l acc σ η wl=some (σ',η',wl')→Fr e η wl→
 RunDH Γ P ops ops.toList l acc σ η (fun s h=>s=σ'∧h=η')∧Fr e η' wl'∧η'.length=η.length
 | [],acc,σ,η,wl,σ',η',wl',h,hf=>by
  simp only [evRunD] at h
  split at h
  · rename_i hi
    simp only [Option.some.injEq,Prod.mk.injEq] at h;obtain ⟨rfl,rfl,rfl⟩:=h
    exact ⟨⟨hi,rfl,rfl⟩,hf,rfl⟩
  · cases h
 | o::r,acc,σ,η,wl,σ',η',wl',h,hf=>by
  simp only [evRunD,frcL_eq,frcE_eq,frcEB_eq] at h
  split at h
  · rename_i s h1
    have a:=evGdD_ok hD hH h1
    obtain ⟨c,d,hl⟩:=evRunD_ok hD hH r _ _ _ _ _ _ _ h (hf.trans Fr.app)
    exact ⟨⟨_,_,_,_,a,c⟩,d,by rw [hl,appL_length]⟩
  · cases h
theorem HStep.sub {o:Oper} {σ:List SV} {η:List SB} {rd rd' rh:List Nat} {eff:List (Nat×SV)} {heff:List (Nat×SB)} (h:HStep Γ P o σ η rd rh eff heff) (hs:∀ r∈rd,r∈rd'):HStep Γ P o σ η rd' rh eff heff:=fun E ρ σ' η' a w h1 h2 hI K Q hK=>h E ρ σ' η' a w (h1.sub hs) h2 hI K Q hK
theorem GH.sub {ops:Array Oper} {o:Oper} {σ:List SV} {η:List SB} {rd rd' rh:List Nat} {eff:List (Nat×SV)} {heff:List (Nat×SB)} (h:GH Γ P ops o σ η rd rh eff heff) (hs:∀ r∈rd,r∈rd'):GH Γ P ops o σ η rd' rh eff heff:=fun E ρ σ' η' a w h1 h2 hI K Q hK=>h E ρ σ' η' a w (h1.sub hs) h2 hI K Q hK
theorem inRd_mem {l r:List Nat} (h:inRd l r=true):∀ x∈l,x∈r:=fun x hx=>by
 have:=List.all_eq_true.1 h x hx
 simpa using this
theorem evDoP_ok (hD:OkD Γ P cD) {lit fn:Bool} {o:Oper} {σ σ':List SV} {η η':List SB} {ws:List Nat} (h:evDoP cD o σ η (opF P Γ lit fn σ η η.length o)=some (σ',η',ws)) :
 ∃ d x rh,o.dst=some d∧σ'=σ.set d x∧η'=η∧ws=[]∧HStep Γ P o σ η (sRd o) rh [(d,x)] []:=by
 generalize hr:opF P Γ lit fn σ η η.length o=r at h
 unfold evDoP at h
 split at h
 · split at h
   · rename_i hc
     rw [frcS_eq] at h
     simp only [Option.some.injEq,Prod.mk.injEq] at h;obtain ⟨rfl,rfl,rfl⟩:=h
     have hs:HStep Γ P o σ η _ _ _ _:=soundF hr
     exact ⟨_,_,_,hc.2,rfl,rfl,rfl,hs.sub (inRd_mem hc.1)⟩
   · cases h
 · split at h
   · rename_i res d hres hd
     split at h
     · rename_i hc
       split at h
       · rename_i y hy
         rw [frcS_eq] at h
         simp only [Option.some.injEq,Prod.mk.injEq] at h;obtain ⟨rfl,rfl,rfl⟩:=h
         have hs:HStep Γ P o σ η _ _ _ _:=opH_callD (opF_not hr (by simp)) (hD _ _ _ hres) hy
         have he:dstEff o y=[(d,y)]:=by unfold dstEff;rw [hd]
         rw [he] at hs
         exact ⟨_,_,_,hd,rfl,rfl,rfl,hs.sub (inRd_mem hc)⟩
       · cases h
     · cases h
   · cases h
 · cases h
theorem gRd_some {ops:Array Oper} {o:Oper} {j d:Nat} {b:Bool} (hg:o.guard=some (j,b)) (hd:(ops[j]?).bind (·.dst)=some d):gRd ops.toList o=[d]:=by
 unfold gRd;rw [hg];simp only [Array.getElem?_toList,hd]
theorem evGdP_ok (hD:OkD Γ P cD) {ops:Array Oper} {o:Oper} {σ σ':List SV} {η η':List SB} {ws:List Nat} (h:evGdP cD P Γ ops.toList o σ η (guardH ops.toList σ o)=some (σ',η',ws)) :
 ∃ x rh,σ'=appL (dstEff o x) σ∧η'=η∧ws=[]∧GH Γ P ops o σ η (gRd ops.toList o++sRd o) rh (dstEff o x) []:=by
 have hs:=guardH_spec (ops:=ops) (σ:=σ) (o:=o)
 cases hg:guardH ops.toList σ o with
 | plain=>
  rw [hg] at h
  obtain ⟨d,x,rh,h1,rfl,rfl,rfl,h2⟩:=evDoP_ok hD h
  have he:dstEff o x=[(d,x)]:=by unfold dstEff;rw [h1]
  have hg0:gRd ops.toList o=[]:=by unfold gRd;rw [hs.1 hg]
  refine ⟨x,rh,by rw [he];rfl,rfl,rfl,?_⟩
  rw [he,hg0]
  exact GH.plain (hs.1 hg) h2
 | when d c b=>
  obtain ⟨j,h1,h2,h3⟩:=hs.2.1 d c b hg
  rw [hg] at h;simp only [evGdP] at h
  rw [gRd_some h1 h2]
  split at h
  · rename_i hc;subst hc
    obtain ⟨d',x,rh,h4,rfl,rfl,rfl,h5⟩:=evDoP_ok hD h
    have he:dstEff o x=[(d',x)]:=by unfold dstEff;rw [h4]
    refine ⟨x,rh,by rw [he];rfl,rfl,rfl,?_⟩
    rw [he]
    exact GH.taken h1 h2 h3 h5
  · rename_i hc
    simp only [Option.some.injEq,Prod.mk.injEq] at h;obtain ⟨rfl,rfl,rfl⟩:=h
    exact ⟨_,[],rfl,rfl,rfl,(GH.skipped h1 h2 (.inl (by rw [h3];cases c<;>cases b<;>simp at hc ⊢))).sub (fun r hr=>by unfold sRd;simp only [List.mem_append,List.mem_cons] at hr ⊢;rcases hr with hr | hr<;>simp [hr])⟩
 | skip d=>
  obtain ⟨j,b,h1,h2,h3⟩:=hs.2.2 d hg
  rw [hg] at h
  rw [gRd_some h1 h2]
  simp only [evGdP,Option.some.injEq,Prod.mk.injEq] at h;obtain ⟨rfl,rfl,rfl⟩:=h
  exact ⟨_,[],rfl,rfl,rfl,(GH.skipped h1 h2 (.inr h3)).sub (fun r hr=>by unfold sRd;simp only [List.mem_append,List.mem_cons] at hr ⊢;rcases hr with hr | hr<;>simp [hr])⟩
 | bad=>rw [hg] at h;cases h
def shHR (s:HR):HR:=⟨s.rd,[],s.eff.map fun p=>(p.1,.any),[]⟩
theorem all_mem {α:Type} {p q:α→Bool}:∀{l:List α},(∀ a∈l,p a=q a)→l.all p=l.all q
 | [],_=>rfl
 | a::l,h=>by
  simp only [List.all_cons]
  rw [h a (by simp),all_mem (fun b hb=>h b (by simp [hb]))]
theorem apartH_sh {s t:HR} (hs:s.heff=[]) (ht:t.heff=[]):apartH (shHR s) (shHR t)=apartH s t:=by
 have hw:∀ r:HR,(shHR r).ws=r.ws:=fun r=>by unfold HR.ws shHR;simp only [List.map_map];rfl
 unfold apartH
 rw [hw,hw]
 unfold HR.wh
 rw [hs,ht]
 rfl
theorem indepHB_sh (bs:List (List Nat)):∀(l before:List HR) (j:Nat),(∀ s∈before,s.heff=[])→(∀ s∈l,s.heff=[])→indepHB bs j (before.map shHR) (l.map shHR)=indepHB bs j before l
 | [],_,_,_,_=>rfl
 | x::r,before,j,hb,hl=>by
  simp only [List.map_cons,indepHB]
  have h1:before.map shHR++[shHR x]=(before++[x]).map shHR:=by simp
  rw [h1,indepHB_sh bs r (before++[x]) (j+1) (fun s hs=>by
   rw [List.mem_append] at hs
   rcases hs with hs | hs
   · exact hb s hs
   · simp at hs;subst hs;exact hl _ (by simp)) (fun s hs=>hl s (by simp [hs]))]
  congr 1
  rw [List.zipIdx_map,List.all_map]
  refine all_mem (fun p hp=>?_)
  obtain ⟨y,i⟩:=p
  show ((bs.getD j []).contains i||apartH (shHR y) (shHR x))=_
  rw [apartH_sh (hb y (List.fst_mem_of_mem_zipIdx hp)) (hl x (by simp))]
theorem indepH_sh {l:List Oper} {recs:List HR} (h:∀ s∈recs,s.heff=[]):indepH l (recs.map shHR)=indepH l recs:=by
 unfold indepH
 have h1:=indepHB_sh (befs l []) recs [] 0 (fun s hs=>by cases hs) h
 rw [List.map_nil] at h1
 rw [h1,List.all_map]
 congr 2
 refine all_mem (fun s hs=>?_)
 have hw:(shHR s).ws=s.ws:=by unfold HR.ws shHR;simp only [List.map_map];rfl
 show ((shHR s).ws.all _&&_)=_
 rw [hw]
 unfold HR.wh
 rw [h s hs]
 rfl
theorem evRunP_ok (hD:OkD Γ P cD) {ops:Array Oper}:∀(r:List Oper) (acc:List HR) (σ:List SV) (η:List SB) (wl:List Nat) (σ':List SV) (η':List SB) (wl':List Nat),indepH ops.toList (acc.map shHR++r.map (sHR ops.toList))=true→(∀ s∈acc,s.heff=[])→
 evRunP cD P Γ ops.toList r σ η wl=some (σ',η',wl')→RunDH Γ P ops ops.toList r acc σ η (fun s h=>s=σ'∧h=η')∧η'=η∧wl'=wl
 | [],acc,σ,η,wl,σ',η',wl',hi,ha,h=>by
  simp only [evRunP,Option.some.injEq,Prod.mk.injEq] at h;obtain ⟨rfl,rfl,rfl⟩:=h
  rw [List.map_nil,List.append_nil,indepH_sh ha] at hi
  exact ⟨⟨hi,rfl,rfl⟩,rfl,rfl⟩
 | o::r,acc,σ,η,wl,σ',η',wl',hi,ha,h=>by
  simp only [evRunP] at h
  split at h
  · rename_i σ1 η1 ws h1
    obtain ⟨x,rh,rfl,rfl,rfl,hg⟩:=evGdP_ok hD h1
    have hsh:shHR ⟨gRd ops.toList o++sRd o,rh,dstEff o x,[]⟩=sHR ops.toList o:=by
     unfold shHR sHR dstEff
     cases o.dst<;>rfl
    obtain ⟨a,b,c⟩:=evRunP_ok hD r (acc++[⟨gRd ops.toList o++sRd o,rh,dstEff o x,[]⟩]) _ _ _ _ _ _ (by
     rw [List.map_append,List.map_cons,List.map_nil,hsh,List.append_assoc];exact hi) (fun s hs=>by
     rw [List.mem_append] at hs
     rcases hs with hs | hs
     · exact ha s hs
     · simp at hs;subst hs;rfl) h
    exact ⟨⟨_,_,_,_,hg,a⟩,b,c⟩
  · cases h
theorem mkM_bit {l:List Nat} {i:Nat}:(mkM l).testBit i=true↔i∈l:=by
 induction l with
 | nil=>simp [mkM]
 | cons x l ih=>
  show (2 ^ x |||mkM l).testBit i=true↔_
  rw [Nat.testBit_or,Bool.or_eq_true,ih,Nat.testBit_two_pow,List.mem_cons]
  simp [eq_comm]
theorem getM_eq:∀(l:List Nat) (i:Nat),getM l i=l.getD i 0
 | [],_=>rfl
 | _::_,0=>rfl
 | _::l,i+1=>by
  show getM l i=_
  rw [getM_eq l i];simp [List.getD]
theorem befM1_bit {acc:List Nat} {l:List Nat} {i:Nat} (h:(befM1 acc l).testBit i=true):i∈l∨∃ d∈l,(acc.getD d 0).testBit i=true:=by
 induction l with
 | nil=>simp [befM1] at h
 | cons x l ih=>
  have h':((2 ^ x |||getM acc x) |||befM1 acc l).testBit i=true:=h
  rw [Nat.testBit_or,Nat.testBit_or,Bool.or_eq_true,Bool.or_eq_true,Nat.testBit_two_pow,getM_eq] at h'
  rcases h' with (h' | h') | h'
  · exact .inl (by simp at h';simp [h'])
  · exact .inr ⟨x,by simp,h'⟩
  · rcases ih h' with h | ⟨d,hd,h⟩
    · exact .inl (by simp [h])
    · exact .inr ⟨d,by simp [hd],h⟩
def SubM (ms:List Nat) (ls:List (List Nat)):Prop:=ms.length=ls.length∧∀ j i,(ms.getD j 0).testBit i=true→i∈ls.getD j []
theorem SubM.push {ms:List Nat} {ls:List (List Nat)} (h:SubM ms ls) {m:Nat} {l:List Nat} (hm:∀ i,m.testBit i=true→i∈l):SubM (ms++[m]) (ls++[l]):=by
 refine ⟨by simp [h.1],fun j i hj=>?_⟩
 simp only [List.getD,List.getElem?_append,h.1] at hj ⊢
 split
 · rename_i hlt
   simp only [hlt,if_true] at hj
   exact h.2 j i hj
 · rename_i hlt
   simp only [hlt,if_false] at hj
   cases hk:j-ls.length with
   | zero=>rw [hk] at hj;exact hm i (by simpa using hj)
   | succ n=>rw [hk] at hj;simp at hj
theorem befM_ok:∀(r:List Oper) (ms:List Nat) (ls:List (List Nat)),SubM ms ls→SubM (befM r ms) (befs r ls)
 | [],_,_,h=>h
 | o::r,ms,ls,h=>by
  unfold befM befs
  rw [frcN_eq]
  refine befM_ok r _ _ (h.push fun i hi=>?_)
  rw [List.mem_eraseDups,List.mem_append,List.mem_flatMap]
  rcases befM1_bit hi with hi | ⟨d,hd,hi⟩
  · exact .inl hi
  · exact .inr ⟨d,hd,h.2 d i hi⟩
theorem land_zero {a b:Nat} (h:Nat.beq (Nat.land a b) 0=true) {i:Nat} (ha:a.testBit i=true):b.testBit i=false:=by
 have h':a &&&b=0:=Nat.eq_of_beq_eq_true h
 have:=congrArg (fun n=>n.testBit i) h'
 simpa [Nat.testBit_and,ha] using this
theorem bit_of {b i:Nat} (h:Nat.beq (Nat.land (Nat.shiftRight b i) 1) 1=true):b.testBit i=true:=by
 have h':(b >>> i) &&&1=1:=Nat.eq_of_beq_eq_true h
 unfold Nat.testBit
 rw [Nat.and_comm,h']
 rfl
def mPair (s:HR):Nat×Nat:=(mkM s.rd,mkM s.ws)
theorem apart_of {s t:HR} (hs:s.heff=[]) (ht:t.heff=[]) (h1:Nat.beq (Nat.land (mkM s.ws) (mkM t.rd)) 0=true) (h2:Nat.beq (Nat.land (mkM t.ws) (mkM s.rd)) 0=true):apartH s t=true:=by
 have k:∀{a b:List Nat},Nat.beq (Nat.land (mkM a) (mkM b)) 0=true→(a.all fun x=>!b.contains x)=true:=fun {a b} h=>by
  rw [List.all_eq_true]
  intro x hx
  have:=land_zero h (mkM_bit.2 hx)
  have hn:x∉b:=fun hb=>by rw [mkM_bit.2 hb] at this;cases this
  simpa using hn
 unfold apartH HR.wh
 rw [k h1,k h2,hs,ht]
 rfl
theorem apM_ok {b:Nat} {l:List Nat} (hb:∀ i,b.testBit i=true→i∈l) {x:HR} (hx:x.heff=[]):∀(ys:List HR) (i:Nat),(∀ s∈ys,s.heff=[])→apM b (mkM x.rd) (mkM x.ws) i (ys.map mPair)=true→((ys.zipIdx i).all fun (y,i)=>l.contains i||apartH y x)=true
 | [],_,_,_=>rfl
 | y::ys,i,hh,h=>by
  simp only [List.map_cons,mPair,apM,Bool.and_eq_true,Bool.or_eq_true] at h
  rw [List.zipIdx_cons,List.all_cons,Bool.and_eq_true]
  refine ⟨?_,apM_ok hb hx ys (i+1) (fun s hs=>hh s (by simp [hs])) h.2⟩
  rw [Bool.or_eq_true]
  rcases h.1 with h1 | h1
  · exact .inl (by simpa using hb i (bit_of h1))
  · exact .inr (apart_of (hh y (by simp)) hx h1.1 h1.2)
theorem indM_ok {ls:List (List Nat)} {ms:List Nat} (hm:SubM ms ls):∀(bs:List Nat) (before l:List HR),(∀ s∈before,s.heff=[])→(∀ s∈l,s.heff=[])→ms.drop before.length=bs→indM bs (before.map mPair) (l.map mPair)=true→indepHB ls before.length before l=true
 | _,_,[],_,_,_,_=>rfl
 | [],before,x::l,_,_,_,h=>by simp [indM] at h
 | b::bs,before,x::l,hb,hl,hd,h=>by
  have hx:x.heff=[]:=hl x (by simp)
  simp only [List.map_cons,mPair,indM,Bool.and_eq_true] at h
  unfold indepHB
  rw [Bool.and_eq_true]
  have hbit:ms.getD before.length 0=b:=by
   have:=congrArg (fun l=>l[0]?) hd
   simp only [List.getElem?_drop,Nat.add_zero,List.getElem?_cons_zero] at this
   simp [List.getD,this]
  refine ⟨apM_ok (fun i hi=>hm.2 before.length i (by rw [hbit];exact hi)) hx before 0 hb h.1,?_⟩
  have:=indM_ok hm bs (before++[x]) l (fun s hs=>by
   rw [List.mem_append] at hs
   rcases hs with hs | hs
   · exact hb s hs
   · simp at hs;subst hs;exact hx) (fun s hs=>hl s (by simp [hs])) (by
   have:=congrArg (fun l=>l.drop 1) hd
   simpa using this) (by rw [List.map_append];exact h.2)
  simpa using this
theorem frcM_eq:∀(l:List HR) (k:List (Nat×Nat)→Bool),frcM l k=k (l.map mPair)
 | [],_=>rfl
 | s::l,k=>by
  unfold frcM
  rw [frcN_eq,frcN_eq,frcM_eq l]
  rfl
theorem indepM_ok {l:List Oper} {recs:List HR} (h:indepM l recs=true):indepH l recs=true:=by
 unfold indepM at h
 rw [frcM_eq,Bool.and_eq_true,Bool.and_eq_true] at h
 obtain ⟨⟨h1,h2⟩,h3⟩:=h
 have hh:∀ s∈recs,s.heff=[]:=fun s hs=>by
  have:=List.all_eq_true.1 h2 s hs
  rw [Bool.and_eq_true] at this
  exact isNil_eq this.2
 unfold indepH
 rw [Bool.and_eq_true,Bool.and_eq_true]
 refine ⟨⟨h1,?_⟩,?_⟩
 · rw [List.all_eq_true] at h2 ⊢
   intro s hs
   have:=h2 s hs
   rw [Bool.and_eq_true] at this ⊢
   refine ⟨this.1,?_⟩
   unfold HR.wh
   rw [hh s hs];rfl
 · exact indM_ok (befM_ok l [] [] ⟨rfl,fun j i h=>by simp [List.getD] at h⟩) _ [] recs (fun s hs=>by cases hs) hh rfl h3
theorem evRegP_ok (hD:OkD Γ P cD) {ops:Array Oper} {σ σ':List SV} {η η':List SB} {wl wl':List Nat} (h:evRegP cD P Γ ops.toList σ η wl=some (σ',η',wl')):RunDH Γ P ops ops.toList ops.toList [] σ η (fun s h=>s=σ'∧h=η')∧η'=η∧wl'=wl:=by
 unfold evRegP at h
 split at h
 · rename_i hi
   exact evRunP_ok hD ops.toList [] σ η wl σ' η' wl' (by unfold stOk at hi;rw [Bool.and_eq_true] at hi;exact indepM_ok hi.2) (fun s hs=>by cases hs) h
 · cases h
theorem HCode.post {e:List SB} {c:Code} {Q Q':Exit→List SV→List SB→Prop} {σ:List SV} {η:List SB} (h:HCode Γ P e c Q σ η) (hq:∀ x s t,Q x s t→∃ s' t',StH Γ e s t s' t'∧Q' x s' t'):HCode Γ P e c Q' σ η:=fun E ρ a w hE hR=>
 wp_mono (h E ρ a w hE hR) (fun x a w ⟨s,t,ρ,h1,h2⟩=>by
  obtain ⟨s',t',h3,h4⟩:=hq x s t h1
  obtain ⟨ρ',h5⟩:=h3 E ρ a w hE h2
  exact ⟨s',t',ρ',h4,h5⟩)
theorem StH.extend {e:List SB} {σ:List SV} {η:List SB}:StH Γ e σ η σ (η++[.fresh]):=fun _ ρ _ _ _ h=>⟨ρ,h.go (Went.extend h.inv 1)⟩
theorem trimF_ok {e:List SB} {σ:List SV} {η h:List SB} (_hl:h.length=η.length+1):StH Γ e σ h σ (trimF η.length h):=by
 unfold trimF
 split
 · rename_i hd
   have he:h=h.take η.length++[.fresh]:=by rw [←hd,List.take_append_drop]
   intro E ρ a w hE hI
   rw [he] at hI
   exact StH.unfresh E ρ a w hE hI
 · exact StH.refl
theorem trimF_fr {e h:List SB} {n:Nat} {wl:List Nat} (hn:e.length≤n) (hf:Fr e h wl) (hl:n≤h.length):Fr e (trimF n h) wl:=by
 unfold trimF
 split
 · refine ⟨by rw [List.length_take];omega,fun i hi hw=>?_⟩
   rw [List.getElem?_take_of_lt (by omega)]
   exact hf.2 i hi hw
 · exact hf
def LoopR (Γ:List (Nat×List Cell)) (P:Program) (e:List SB) (c:Code) (Q:Exit→List SV→List SB→Prop) (σ:List SV) (η:List SB):Prop:=
 ∀(E:HEnv) (ρ:Nat→Value) (a:Act) (w:World),At Γ e E→RI Γ E ρ σ η a w→∀(b:Frame) (k:List Item) (cs:List Frame),∃ x a' w',liftH Γ E Q x a' w'∧Arrives P (lone (b.at a (.code c::.inLoop c::k)) cs w) b k cs x a' w'
theorem LoopR.loop {e:List SB} {c:Code} {Q:Exit→List SV→List SB→Prop} {σ:List SV} {η:List SB} (h:LoopR Γ P e c Q σ η):HCode Γ P e (.loop c) Q σ η:=fun E ρ a w hE hR b k cs=>by
 obtain ⟨x,a',w',hq,harr⟩:=h E ρ a w hE hR b k cs
 exact ⟨x,a',w',hq,.of_steps (.one step_loop) harr⟩
theorem LoopR.round {e:List SB} {c:Code} {Q:Exit→List SV→List SB→Prop} {σ:List SV} {η:List SB} (h:HCode Γ P e c (thenH (fun σ η=>LoopR Γ P e c Q σ η) Q) σ η):LoopR Γ P e c Q σ η:=fun E ρ a w hE hR b k cs=>by
 obtain ⟨ex,a1,w1,⟨σ',η',ρ',hq,hR'⟩,harr⟩:=h E ρ a w hE hR b (.inLoop c::k) cs
 cases ex with
 | normal=>
  obtain ⟨e2,a2,w2,hq2,harr2⟩:=hq E ρ' a1 w1 hE hR' b k cs
  exact ⟨e2,a2,w2,hq2,.of_steps (Steps.trans harr (.one step_inLoop)) harr2⟩
 | exit id=>exact ⟨_,a1,w1,⟨σ',η',ρ',hq,hR'⟩,.pass (x:=.inLoop c) rfl (fun _ _=>.inl (by simp)) harr⟩
 | goto l=>exact ⟨_,a1,w1,⟨σ',η',ρ',hq,hR'⟩,.pass (x:=.inLoop c) rfl (fun _ _=>.inl (by simp)) harr⟩
 | ret=>exact ⟨_,a1,w1,⟨σ',η',ρ',hq,hR'⟩,.pass (x:=.inLoop c) rfl (fun _ _=>.inl (by simp)) harr⟩
 | panic ch=>exact ⟨_,a1,w1,⟨σ',η',ρ',hq,hR'⟩,.pass (x:=.inLoop c) rfl (fun _ _=>.inl (by simp)) harr⟩
 | outgrown=>exact ⟨_,a1,w1,⟨σ',η',ρ',hq,hR'⟩,.pass (x:=.inLoop c) rfl (fun _ _=>.inl (by simp)) harr⟩
def isX (x:Exit) (σ:List SV) (η:List SB):Exit→List SV→List SB→Prop:=fun y s h=>y=x∧s=σ∧h=η
theorem evCode_ok (hD:OkD Γ P cD) (hH:OkH Γ P cH) {N:Nat} {e:List SB}:∀(c:Code) (σ:List SV) (η:List SB) (wl:List Nat) (x:Exit) (σ':List SV) (η':List SB) (wl':List Nat),evCode cD cH P Γ N c σ η wl=some (x,σ',η',wl')→Fr e η wl→
 HCode Γ P e c (isX x σ' η') σ η∧Fr e η' wl':=by
 intro c
 induction c with
 | skip=>
  intro σ η wl x σ' η' wl' h hf
  simp only [evCode,Option.some.injEq,Prod.mk.injEq] at h;obtain ⟨rfl,rfl,rfl,rfl⟩:=h
  exact ⟨hcode_skip ⟨rfl,rfl,rfl⟩,hf⟩
 | region id ops dr=>
  intro σ η wl x σ' η' wl' h hf
  cases dr with
  | false=>
   simp only [evCode] at h
   split at h
   · rename_i s1 h1 w1 hr
     simp only [Option.some.injEq,Prod.mk.injEq] at h;obtain ⟨rfl,rfl,rfl,rfl⟩:=h
     obtain ⟨a,b⟩:=evRun_ok hD hH _ _ _ _ _ _ _ hr hf
     refine ⟨(hcode_region (Q:=isX .normal s1 h1) ?_),b⟩
     have:(fun s h=>s=s1∧h=h1)=isX (.normal) s1 h1 .normal:=by
      funext s h;simp [isX]
     rw [←this];exact a
   · cases h
  | true=>
   simp only [evCode] at h
   split at h
   · rename_i hm
     split at h
     · rename_i s1 h1 w1 hr
       simp only [Option.some.injEq,Prod.mk.injEq] at h;obtain ⟨rfl,rfl,rfl,rfl⟩:=h
       obtain ⟨a,rfl,rfl⟩:=evRegP_ok hD hr
       refine ⟨hcode_regionD (Q:=isX .normal s1 h1) hm ?_,hf⟩
       have:(fun s h=>s=s1∧h=h1)=isX (.normal) s1 h1 .normal:=by
        funext s h;simp [isX]
       rw [←this];exact a
     split at h
     · rename_i s1 h1 w1 hr
       simp only [Option.some.injEq,Prod.mk.injEq] at h;obtain ⟨rfl,rfl,rfl,rfl⟩:=h
       have hf':Fr e (η++[.fresh]) wl:=⟨by rw [List.length_append];exact Nat.le_trans hf.1 (Nat.le_add_right _ _),fun i hi hw=>by
        rw [List.getElem?_append_left (Nat.lt_of_lt_of_le hi hf.1)];exact hf.2 i hi hw⟩
       obtain ⟨a,b,hl⟩:=evRunD_ok hD hH _ _ _ _ _ _ _ _ hr hf'
       rw [List.length_append] at hl
       refine ⟨HCode.le StH.extend (HCode.post (Q:=isX .normal s1 h1) (hcode_regionD hm ?_) ?_),trimF_fr hf.1 b (by rw [hl];exact Nat.le_add_right _ _)⟩
       · have:(fun s h=>s=s1∧h=h1)=isX (.normal) s1 h1 .normal:=by
          funext s h;simp [isX]
         rw [←this];exact a
       · rintro y s t ⟨rfl,rfl,rfl⟩
         exact ⟨_,_,trimF_ok hl,rfl,rfl,rfl⟩
     · cases h
   · cases h
 | seq a b iha ihb=>
  intro σ η wl x σ' η' wl' h hf
  simp only [evCode] at h
  split at h
  · rename_i s1 h1 w1 ha
    obtain ⟨p,q⟩:=iha _ _ _ _ _ _ _ ha hf
    obtain ⟨p2,q2⟩:=ihb _ _ _ _ _ _ _ h q
    refine ⟨hcode_seq (p.mono ?_),q2⟩
    rintro y s t ⟨rfl,rfl,rfl⟩
    exact p2
  · rename_i hne
    obtain ⟨p,q⟩:=iha _ _ _ _ _ _ _ h hf
    refine ⟨hcode_seq (p.mono ?_),q⟩
    rintro y s t ⟨rfl,rfl,rfl⟩
    cases y with
    | normal=>exact absurd h (hne _ _ _)
    | _=>exact ⟨rfl,rfl,rfl⟩
 | cond c a b iha ihb=>
  intro σ η wl x σ' η' wl' h hf
  simp only [evCode] at h
  split at h
  · rename_i hc
    obtain ⟨p,q⟩:=iha _ _ _ _ _ _ _ h hf
    exact ⟨hcode_cond hc (fun _=>p) (fun hb=>by cases hb),q⟩
  · rename_i hc
    obtain ⟨p,q⟩:=ihb _ _ _ _ _ _ _ h hf
    exact ⟨hcode_cond hc (fun hb=>by cases hb) (fun _=>p),q⟩
  · cases h
 | block id a iha=>
  intro σ η wl x σ' η' wl' h hf
  simp only [evCode] at h
  split at h
  · rename_i j s1 h1 w1 ha
    obtain ⟨p,q⟩:=iha _ _ _ _ _ _ _ ha hf
    refine ⟨hcode_block (p.mono ?_),?_⟩
    · rintro y s t ⟨rfl,rfl,rfl⟩
      unfold inBlockH
      split at h
      · rename_i hj
        simp only [Option.some.injEq,Prod.mk.injEq] at h;obtain ⟨rfl,rfl,rfl,rfl⟩:=h
        simp only [hj,if_true]
        exact ⟨rfl,rfl,rfl⟩
      · rename_i hj
        simp only [Option.some.injEq,Prod.mk.injEq] at h;obtain ⟨rfl,rfl,rfl,rfl⟩:=h
        simp only [hj,if_false]
        exact ⟨rfl,rfl,rfl⟩
    · split at h<;>(simp only [Option.some.injEq,Prod.mk.injEq] at h;obtain ⟨rfl,rfl,rfl,rfl⟩:=h;exact q)
  · rename_i hne
    obtain ⟨p,q⟩:=iha _ _ _ _ _ _ _ h hf
    refine ⟨hcode_block (p.mono ?_),q⟩
    rintro y s t ⟨rfl,rfl,rfl⟩
    cases y with
    | exit j=>exact absurd h (hne _ _ _ _)
    | _=>exact ⟨rfl,rfl,rfl⟩
 | loop a iha=>
  intro σ η wl x σ' η' wl' h hf
  simp only [evCode] at h
  suffices hs:∀(n:Nat) (σ:List SV) (η:List SB) (wl:List Nat),evLoop (evCode cD cH P Γ N a) n σ η wl=some (x,σ',η',wl')→Fr e η wl→LoopR Γ P e a (isX x σ' η') σ η∧Fr e η' wl' from (hs N σ η wl h hf).imp_left LoopR.loop
  intro n
  induction n with
  | zero=>intro σ η wl h _;cases h
  | succ n ih=>
   intro σ η wl h hf
   simp only [evLoop] at h
   split at h
   · rename_i s1 h1 w1 ha
     obtain ⟨p,q⟩:=iha _ _ _ _ _ _ _ ha hf
     obtain ⟨p2,q2⟩:=ih _ _ _ h q
     refine ⟨?_,q2⟩
     exact LoopR.round (p.mono (by
      rintro y s t ⟨rfl,rfl,rfl⟩
      exact p2))
   · rename_i hne
     obtain ⟨p,q⟩:=iha _ _ _ _ _ _ _ h hf
     refine ⟨LoopR.round (p.mono ?_),q⟩
     rintro y s t ⟨rfl,rfl,rfl⟩
     cases y with
     | normal=>exact absurd h (hne _ _ _)
     | _=>exact ⟨rfl,rfl,rfl⟩
 | exit id=>
  intro σ η wl x σ' η' wl' h hf
  simp only [evCode,Option.some.injEq,Prod.mk.injEq] at h;obtain ⟨rfl,rfl,rfl,rfl⟩:=h
  exact ⟨hcode_exit ⟨rfl,rfl,rfl⟩,hf⟩
 | ret=>
  intro σ η wl x σ' η' wl' h hf
  simp only [evCode,Option.some.injEq,Prod.mk.injEq] at h;obtain ⟨rfl,rfl,rfl,rfl⟩:=h
  exact ⟨hcode_ret ⟨rfl,rfl,rfl⟩,hf⟩
 | label l=>
  intro σ η wl x σ' η' wl' h hf
  simp only [evCode,Option.some.injEq,Prod.mk.injEq] at h;obtain ⟨rfl,rfl,rfl,rfl⟩:=h
  exact ⟨fun _ ρ _ _ _ hR=>wp_label ⟨_,_,ρ,⟨rfl,rfl,rfl⟩,hR⟩,hf⟩
 | scope a iha=>
  intro σ η wl x σ' η' wl' h hf
  simp only [evCode] at h
  split at h
  · cases h
  · rename_i hne
    obtain ⟨p,q⟩:=iha _ _ _ _ _ _ _ h hf
    refine ⟨fun E ρ b w hE hR=>wp_scope_straight (wp_mono (p E ρ b w hE hR) ?_),q⟩
    rintro y b' w' ⟨s,t,ρ',⟨rfl,rfl,rfl⟩,hR'⟩
    cases y with
    | goto l=>exact absurd h (hne _ _ _ _)
    | _=>exact ⟨_,_,ρ',⟨rfl,rfl,rfl⟩,hR'⟩
 | _=>intro σ η wl x σ' η' wl' h;simp only [evCode] at h;cases h
theorem resS_ok {η:List SB} {ρ:Nat→Value} {M:Nat→Nat→Prop} {w:World} {v:Value} {av:AV} {y:SV} {nb:Nat} (h:resS nb av=some (y,none)) (hv:RdR M w v av):SVR η ρ M w v y:=by
 unfold resS at h
 split at h
 · obtain ⟨l',hl,he⟩:=Option.map_eq_some_iff.1 h
   cases he
   obtain ⟨vs,rfl,hv⟩:=hv
   exact ⟨vs,rfl,fromL_ok hl hv⟩
 · cases h
 · rename_i hn1 hn2
   obtain ⟨x,hx,he⟩:=Option.map_eq_some_iff.1 h
   cases he
   rename_i z
   have hb:RdB M w v av:=by
    cases av with
    | tup l=>exact absurd rfl (hn1 _)
    | arr _ _ _=>cases hx
    | _=>exact hv
   have:=fromAV_ok (η:=η) (ρ:=ρ) hx hb
   exact SVR.of0 this
theorem datRes_arr {η:List SB} {x:SV} {av:AV} {bs:List Nat} (h:datRes η x=some (av,bs)):∀ b∈bs,isArr (gB η b)=true:=by
 unfold datRes at h
 split at h
 · obtain ⟨p,hp,e⟩:=Option.map_eq_some_iff.1 h;cases e;exact argsD_arr hp
 · exact argD_arr h
theorem datRes_ok {Mo:Nat→Nat→Prop} {ρ:Nat→Value} {η η':List SB} {w:World} (hI:HInv Γ Mo ρ η' w) {x:SV} {av:AV} {bs:List Nat} (h2:datRes η x=some (av,bs)) (hf:∀ b∈bs,gB η' b=frzB (gB η b)) {v:Value} (hv:SVR η' ρ (MX Mo ρ η') w v x):RdR (MX Mo ρ η') w v av:=by
 unfold datRes at h2
 split at h2
 · obtain ⟨p,hp,e⟩:=Option.map_eq_some_iff.1 h2
   cases e
   obtain ⟨vs',e,hl⟩:=hv
   exact ⟨vs',e,argsD_ok hI hp hf hl⟩
 · rename_i hnt
   have hr0:SVR0 η' ρ (MX Mo ρ η') w v x:=hv.to0 (by cases x<;>first | rfl | exact absurd rfl (hnt _))
   have:=argD_ok hI h2 hf hr0
   cases av with
   | tup l=>exact this.elim
   | arr _ _ _=>exact this.elim
   | _=>exact this
theorem datFin_ok {e:List SB} {x:SV} {η:List SB} {n:Nat}:StH Γ e [x] η [(datFin n x η).2] (datFin n x η).1:=by
 unfold datFin
 split
 · rename_i av bs h
   split
   · rename_i y h1 h2
     intro E ρ a w hE hI
     obtain ⟨h3,h4⟩:=hI.frz (datRes_arr h)
     refine ⟨ρ,h3.hd,h3.hs,fun i z hi=>?_,h3.went⟩
     cases i with
     | succ i=>simp at hi
     | zero=>
      simp at hi;subst hi
      exact resS_ok h2 (datRes_ok h3.inv h h4 (h3.slot 0 x rfl))
   · exact StH.refl
 · exact StH.refl
theorem datFin_fr {e : List SB} {x : SV} {η : List SB} {n : Nat} {wl : List Nat} (hn : e.length ≤ n) (h : Fr e η wl) : Fr e (datFin n x η).1 wl := by
 unfold datFin
 split
 · rename_i av bs hd
   split
   · rename_i y h1 h2
     refine ⟨by rw [appL_length];exact h.1,fun i hi hw=>?_⟩
     rw [appL_other (Nat.lt_of_lt_of_le hi h.1) (by
      rw [frzE_fst]
      intro hm
      have:=List.all_eq_true.1 h1 i hm
      simp at this
      omega)]
     exact h.2 i hi hw
   · exact h
 · exact h
theorem ltB_iff {m:Nat} {l:List Nat}:ltB m l=true↔∀ b∈l,b<m:=by
 unfold ltB;rw [List.all_eq_true];exact ⟨fun h b hb=>by simpa using h b hb,fun h b hb=>by simpa using h b hb⟩
theorem cutFin_ok {e:List SB} {r:List SB×SV} {n:Nat} (hn:e.length≤n):StH Γ e [r.2] r.1 [(cutFin n r).2] (cutFin n r).1:=by
 unfold cutFin
 split
 · rename_i h
   rw [Bool.and_eq_true] at h
   refine StH.cut hn (fun i x hi b hb=>?_) (fun i x hi hx=>.inr fun b hb=>?_)
   · cases i with
     | zero=>simp at hi;subst hi;exact ltB_iff.1 h.1 b hb
     | succ i=>simp at hi
   · exact ltB_iff.1 (List.all_eq_true.1 h.2 x (List.mem_of_getElem? (by rw [List.getElem?_take_of_lt hi];exact hx))) b hb
 · exact StH.refl
theorem cutFin_fr {e:List SB} {r:List SB×SV} {n:Nat} {wl:List Nat} (hn:e.length=n) (h:Fr e r.1 wl):Fr e (cutFin n r).1 wl:=by
 unfold cutFin
 split
 · refine ⟨by rw [List.length_take];have:=h.1;omega,fun i hi hw=>?_⟩
   rw [List.getElem?_take_of_lt (by omega)]
   exact h.2 i hi hw
 · exact h
theorem evBody_ok (hD : OkD Γ P cD) (hH : OkH Γ P cH) {N : Nat} {f : FuncId} {l : List SV} {η η' : List SB} {x : SV} {wl : List Nat} (h : evBody cD cH P Γ N f l η = some (x, η', wl)) :
 ∃ fn c,P.funcs[f]? = some fn∧fn.body=some c∧(fn.name == "runtime.NumGoroutine")=false∧Fr η η' wl∧
  HCode Γ P η c (fun y s t=>(y=.ret∨y=.normal)∧resHV P s t fn.results.toList=some x∧t=η') (l++List.replicate (fn.ntmps-l.length) .undef) η:=by
 unfold evBody at h
 simp only [frcSL_eq] at h
 split at h
 · rename_i fn hf
   split at h
   · rename_i c hc hn
     have go:∀(y:Exit) (σ:List SV) (h1:List SB) (wl1:List Nat),(y=.ret∨y=.normal)→evCode cD cH P Γ N c (l++List.replicate (fn.ntmps-l.length) .undef) η []=some (y,σ,h1,wl1)→
      (resHV P σ h1 fn.results.toList).map (fun x=>(x,h1,wl1))=some (x,η',wl)→Fr η η' wl∧HCode Γ P η c (fun y s t=>(y=.ret∨y=.normal)∧resHV P s t fn.results.toList=some x∧t=η') (l++List.replicate (fn.ntmps-l.length) .undef) η:=by
      intro y σ h1 wl1 hy he hm
      obtain ⟨x',hx,e⟩:=Option.map_eq_some_iff.1 hm
      cases e
      obtain ⟨p,q⟩:=evCode_ok hD hH c _ _ _ _ _ _ _ he Fr.refl
      refine ⟨q,p.mono ?_⟩
      rintro y' s t ⟨rfl,rfl,rfl⟩
      exact ⟨hy,hx,rfl⟩
     split at h
     · rename_i σ h1 wl1 he
       obtain ⟨p,q⟩:=go _ _ _ _ (.inl rfl) he h
       exact ⟨fn,c,hf,hc,hn,p,q⟩
     · rename_i σ h1 wl1 he
       obtain ⟨p,q⟩:=go _ _ _ _ (.inr rfl) he h
       exact ⟨fn,c,hf,hc,hn,p,q⟩
     · cases h
   · cases h
 · cases h
end
section
variable {known:FuncId→List AV→Option AV}
theorem ev_ok (hK : OkD Γ P known) {N : Nat} : ∀ n, OkD Γ P (evD P Γ known N n) ∧ OkH Γ P (evH P Γ known N n)
 | 0=>⟨fun f l r h=>by simp [evD] at h,fun f η l η' r ch h=>by simp [evH] at h⟩
 | n + 1 => by
  obtain ⟨hD,hH⟩:=ev_ok hK (N:=N) n
  constructor
  · intro f l r h
    unfold evD at h
    split at h
    · rename_i r' hr
      cases h
      exact hK _ _ _ hr
    · split at h
      · rename_i sl hsl
        split at h
        · rename_i x η' wl hb
          obtain ⟨p,hp,e⟩:=Option.map_eq_some_iff.1 h
          subst e
          obtain ⟨fn,c,hf,hc,hn,_,hcode⟩:=evBody_ok hD hH hb
          refine CallsD.of hf hc hn hsl (hcode.mono ?_)
          rintro y s t ⟨hy,hx,rfl⟩
          rcases hy with rfl | rfl<;>exact ⟨x,p.1,p.2,hx,hp,RLe.one (.refl _)⟩
        · cases h
      · cases h
  · intro f η l η' r ch h
    unfold evH at h
    split at h
    · rename_i x η1 wl hb
      obtain ⟨fn,c,hf,hc,hn,hfr,hcode⟩:=evBody_ok hD hH hb
      simp only [Option.some.injEq,Prod.mk.injEq] at h
      obtain ⟨rfl,rfl,rfl⟩:=h
      have hfr2:=cutFin_fr (r:=datFin η.length x η1) rfl (datFin_fr (x:=x) (Nat.le_refl _) hfr)
      refine ⟨CallsH.of hf hc hn (hcode.mono ?_),hfr2.1,fun i hi hw=>hfr2.2 i hi (fun hm=>hw ?_)⟩
      · rintro y s t ⟨hy,hx,rfl⟩
        rcases hy with rfl | rfl<;>exact ⟨x,hx,datFin_ok.trans (cutFin_ok (Nat.le_refl _))⟩
      · rw [List.mem_filter];exact ⟨hm,by simpa using hi⟩
    · cases h
theorem CallsD.ev (hK:OkD Γ P known) {N n:Nat} {f:FuncId} {l:List AV} {r:AV} (h:evD P Γ known N n f l=some r):CallsD Γ P f l r:=(ev_ok hK n).1 f l r h
theorem CallsH.ev (hK:OkD Γ P known) {N n:Nat} {f:FuncId} {η η':List SB} {l:List SV} {r:SV} {ch:List Nat} (h:evH P Γ known N n f η l=some (η',r,ch)):CallsH Γ P f η l η' r:=((ev_ok hK n).2 f η l η' r ch h).1
theorem OkD.none:OkD Γ P (fun _ _=>none):=fun _ _ _ h=>by cases h
end
end Go.Hp

namespace Go.Hp
open Go Go.RowKit Go.Slot
structure Bx (α:Type) where
 f:α
abbrev CD:=FuncId→List AV→Option AV
abbrev CH:=FuncId→List SB→List SV→Option (List SB×SV×List Nat)
abbrev Kr:=CD→CH→List SV→List SB→List Nat→Option (List SV×List SB×List Nat)
abbrev Kc:=CD→CH→List SV→List SB→List Nat→Option (Exit×List SV×List SB×List Nat)
noncomputable section
def gtF (σ:List SV):Nat→SV:=List.rec (motive:=fun _=>Nat→SV) (fun _=>.any) (fun x _ ih i=>Nat.rec (motive:=fun _=>SV) x (fun n _=>ih n) i) σ
theorem gtF_eq:∀(σ:List SV) (i:Nat),gtF σ i=gtS σ i
 | [],_=>rfl
 | _::_,0=>rfl
 | x::l,i+1=>by
  show gtF l i=_
  rw [gtF_eq l i];simp [gtS]
def setF (σ:List SV) (x:SV):Nat→List SV:=List.rec (motive:=fun _=>Nat→List SV) (fun _=>[]) (fun y l ih i=>Nat.rec (motive:=fun _=>List SV) (x::l) (fun n _=>y::ih n) i) σ
theorem setF_eq:∀(σ:List SV) (x:SV) (i:Nat),setF σ x i=σ.set i x
 | [],_,_=>rfl
 | _::_,_,0=>rfl
 | y::l,x,i+1=>by
  show y::setF l x i=_
  rw [setF_eq l x i];rfl
def frcW {β:Type}:SV→(SV→β)→β
 | .one h,k=>k (.one h)
 | .agg l,k=>k (.agg l)
 | .undef,k=>k .undef
 | .tup l,k=>k (.tup l)
 | .elt l,k=>k (.elt l)
 | .any,k=>k .any
theorem frcW_eq {β:Type} (x:SV) (k:SV→β):frcW x k=k x:=by cases x<;>rfl
variable (P:Program) (Γ:List (Nat×List Cell))
def copd:Operand→Bx (List SV→SV)
 | .tmp t=>⟨fun σ=>gtF σ t⟩
 | .const v=>frcS (constSV v) fun x=>⟨fun _=>x⟩
 | .func f=>⟨fun _=>.one (.dat (.raw (.func (.func f) #[] #[])))⟩
 | .global g=>⟨fun _=>globSV Γ g⟩
theorem copd_eq {x:Operand} {σ:List SV}:(copd Γ x).f σ=opdS Γ σ x:=by
 cases x with
 | tmp t=>exact gtF_eq _ _
 | const v=>show (frcS (constSV v) fun x=>(⟨fun _=>x⟩:Bx (List SV→SV))).f σ=_;rw [frcS_eq];rfl
 | func f=>rfl
 | global g=>rfl
def thn (k:Kr) (cD:CD) (cH:CH) (wl:List Nat):Option (List SV×List SB×List Nat)→Option (List SV×List SB×List Nat)
 | some (s,h,ws)=>k cD cH s h (ws++wl)
 | none=>none
def binB (op:BinOp) (k:Value→Option (List SV×List SB×List Nat)) (bad:Option (List SV×List SB×List Nat)):SV→SV→Option (List SV×List SB×List Nat)
 | .one (.dat (.raw a)),.one (.dat (.raw b))=>match abin op a b with
  | some v=>frcV v k
  | none=>bad
 | _,_=>bad
def unB (op:UnOp) (k:Value→Option (List SV×List SB×List Nat)) (bad:Option (List SV×List SB×List Nat)):SV→Option (List SV×List SB×List Nat)
 | .one (.dat (.raw a))=>match aun op a with
  | some v=>frcV v k
  | none=>bad
 | _=>bad
def pickB (k:SV→Option (List SV×List SB×List Nat)) (bad:Option (List SV×List SB×List Nat)) (x y:SV):SV→Option (List SV×List SB×List Nat)
 | .one (.dat (.raw (.bool true)))=>frcW x k
 | .one (.dat (.raw (.bool false)))=>frcW y k
 | _=>bad
def sidxB (k:Value→Option (List SV×List SB×List Nat)) (bad:Option (List SV×List SB×List Nat)):SV→SV→Option (List SV×List SB×List Nat)
 | .one (.dat (.raw (.string s))),.one (.dat (.raw (.int _ i)))=>if 0≤i∧i<s.size then frcV (.int .u8 (byteAt s i.toNat)) k else bad
 | _,_=>bad
abbrev Rk:=Option (List SV×List SB×List Nat)
def ovB (k:SV→Rk):Option SV→Rk
 | some v=>frcS v k
 | none=>none
def owB (k:SV→Rk):Option SV→Rk
 | some v=>frcW v k
 | none=>none
def ovB' (k:SV→Rk) (bad:Rk):Option SV→Rk
 | some v=>frcS v k
 | none=>bad
def gbF (η:List SB):Nat→SB:=List.rec (motive:=fun _=>Nat→SB) (fun _=>.dead) (fun x _ ih i=>Nat.rec (motive:=fun _=>SB) x (fun n _=>ih n) i) η
theorem gbF_eq:∀(η:List SB) (i:Nat),gbF η i=gB η i
 | [],_=>rfl
 | _::_,0=>rfl
 | x::l,i+1=>by
  show gbF l i=_
  rw [gbF_eq l i];simp [gB]
def drF (l:List HC):Nat→List HC:=List.rec (motive:=fun _=>Nat→List HC) (fun _=>[]) (fun x l ih i=>Nat.rec (motive:=fun _=>List HC) (x::l) (fun n _=>ih n) i) l
theorem drF_eq:∀(l:List HC) (i:Nat),drF l i=l.drop i
 | [],i=>by cases i<;>rfl
 | _::_,0=>rfl
 | x::l,i+1=>by
  show drF l i=_
  rw [drF_eq l i];rfl
def ldB (ti:TI) (η:List SB) (k:SV→Rk):SV→Rk
 | .one (.ptr b off)=>match gbF η b with
  | .box hs _=>owB k (loadHC ti (drF hs off))
  | _=>none
 | x=>match seeH η x with
  | some (_,hs)=>owB k (loadHC ti hs)
  | none=>none
theorem ldB_eq {ti:TI} {η:List SB} {k:SV→Rk} (x:SV):ldB ti η k x=match seeH η x with
 | some (_,hs)=>owB k (loadHC ti hs)
 | none=>none:=by
 unfold ldB
 split
 · rename_i b off
   unfold seeH
   rw [gbF_eq]
   split
   · rename_i hs T hb
     simp only [hb,drF_eq]
   · rename_i hne
     cases hb:gB η b with
     | box hs T=>exact absurd hb (hne _ _)
     | _=>simp only [hb]
 · rfl
def nilB (k:SV→Rk) (x:SV):Rk:=match ptrH x with
 | true=>frcW x k
 | false=>none
def lenB (ti:TI) (k:Value→Rk) (bad:Rk):SV→Rk
 | .one (.dat c)=>match lenOk ti c,lenC c with
  | true,some n=>frcV (.int .i64 (n:Int)) k
  | _,_=>bad
 | _=>bad
def idxB (n es:Nat) (te:TI) (k:SV→Rk) (x y:SV):Rk:=match intS y with
 | some ix=>if (0≤ix∧ix<n)∧es=te.size then owB k (partH (ix.toNat*es) te x) else none
 | none=>none
def cFs (P:Program) (S:TypeId) (f:Nat):Option (Nat×TypeId):=match mkTI P S with
 | some ti=>match ti.sh with
  | .struct fs=>match fs[f]? with
   | some (off,_,ft)=>some (off,ft)
   | none=>none
  | _=>none
 | none=>none
def cAr (P:Program) (T:TypeId):Option (Nat×Nat×TI):=match mkTI P T with
 | some ti=>match ti.sh with
  | .array n e es=>match mkTI P e with
   | some te=>some (n,es,te)
   | none=>none
  | _=>none
 | none=>none
def genE (o:Oper) (k:Kr) (g:List SV→List SB→HO):Kr:=fun cD cH σ η wl=>thn k cD cH wl (evDo cD cH o σ η (g σ η))
def genP (o:Oper) (k:Kr) (g:List SV→List SB→HO):Kr:=fun cD cH σ η wl=>thn k cD cH wl (evDoP cD o σ η (g σ η))
variable (gen:Oper→Kr→(List SV→List SB→HO)→Kr)
def cdo (lit:Bool) (o:Oper) (k:Kr):Bx Kr:=match o.op with
 | .move x=>match o.dst,copd Γ x with
  | some d,⟨g⟩=>⟨fun cD cH σ η wl=>frcW (g σ) fun x=>k cD cH (setF σ x d) η wl⟩
  | none,_=>⟨fun _ _ _ _ _=>none⟩
 | .assign x=>match o.dst,copd Γ x with
  | some d,⟨g⟩=>⟨fun cD cH σ η wl=>frcW (g σ) fun x=>k cD cH (setF σ x d) η wl⟩
  | none,_=>⟨fun _ _ _ _ _=>none⟩
 | .pick c x y=>match o.dst,copd Γ c,copd Γ x,copd Γ y with
  | some d,⟨gc⟩,⟨gx⟩,⟨gy⟩=>⟨fun cD cH σ η wl=>pickB (fun v=>k cD cH (setF σ v d) η wl) (gen o k (fun σ η=>fPick P Γ σ η.length o c x y) cD cH σ η wl) (gx σ) (gy σ) (gc σ)⟩
  | none,_,_,_=>⟨gen o k fun σ η=>fPick P Γ σ η.length o c x y⟩
 | .binOp op _ x y _=>match o.dst,copd Γ x,copd Γ y with
  | some d,⟨gx⟩,⟨gy⟩=>⟨fun cD cH σ η wl=>binB op (fun v=>k cD cH (setF σ (.one (.dat (.raw v))) d) η wl) (gen o k (fun σ η=>fBin P Γ σ η η.length o op x y) cD cH σ η wl) (gx σ) (gy σ)⟩
  | none,_,_=>⟨gen o k fun σ η=>fBin P Γ σ η η.length o op x y⟩
 | .unOp op _ x=>match o.dst,copd Γ x with
  | some d,⟨gx⟩=>⟨fun cD cH σ η wl=>unB op (fun v=>k cD cH (setF σ (.one (.dat (.raw v))) d) η wl) (gen o k (fun σ η=>fUn P Γ σ η η.length o op x) cD cH σ η wl) (gx σ)⟩
  | none,_=>⟨gen o k fun σ η=>fUn P Γ σ η η.length o op x⟩
 | .load T x=>match o.dst,mkTI P T,copd Γ x with
  | some d,some ti,⟨gx⟩=>⟨fun cD cH σ η wl=>ldB ti η (fun v=>k cD cH (setF σ v d) η wl) (gx σ)⟩
  | _,_,_=>⟨gen o k fun σ η=>fLoad P Γ σ η o T x⟩
 | .store T x y=>⟨gen o k fun σ η=>fStore P Γ σ η o T x y⟩
 | .fieldAddr S x f=>match o.dst,cFs P S f,copd Γ x with
  | some d,some (off,_),⟨gx⟩=>⟨fun cD cH σ η wl=>ovB (fun v=>k cD cH (setF σ v d) η wl) (fieldAddrH (gx σ) off)⟩
  | _,_,_=>⟨gen o k fun σ _=>fFieldAddr P Γ σ o S x f⟩
 | .indexAddr T x y=>match o.dst,mkTI P T,copd Γ x,copd Γ y with
  | some d,some ti,⟨gx⟩,⟨gy⟩=>⟨fun cD cH σ η wl=>ovB' (fun v=>k cD cH (setF σ v d) η wl) (gen o k (fun σ η=>fIndexAddr P Γ σ η.length o T x y) cD cH σ η wl) (indexAddrH ti.sh (gx σ) (gy σ))⟩
  | _,_,_,_=>⟨gen o k fun σ η=>fIndexAddr P Γ σ η.length o T x y⟩
 | .field T x f=>match o.dst,cFs P T f,copd Γ x with
  | some d,some (off,ft),⟨gx⟩=>match mkTI P ft with
   | some tf=>⟨fun cD cH σ η wl=>owB (fun v=>k cD cH (setF σ v d) η wl) (partH off tf (gx σ))⟩
   | none=>⟨gen o k fun σ _=>fField P Γ σ o T x f⟩
  | _,_,_=>⟨gen o k fun σ _=>fField P Γ σ o T x f⟩
 | .index T x y=>match o.dst,(mkTI P T).map TI.sh,copd Γ x,copd Γ y with
  | some d,some .string,⟨gx⟩,⟨gy⟩=>⟨fun cD cH σ η wl=>sidxB (fun v=>k cD cH (setF σ (.one (.dat (.raw v))) d) η wl) (gen o k (fun σ _=>fIndex P Γ σ o T x y) cD cH σ η wl) (gx σ) (gy σ)⟩
  | some d,_,⟨gx⟩,⟨gy⟩=>match cAr P T with
   | some (n,es,te)=>⟨fun cD cH σ η wl=>idxB n es te (fun v=>k cD cH (setF σ v d) η wl) (gx σ) (gy σ)⟩
   | none=>⟨gen o k fun σ _=>fIndex P Γ σ o T x y⟩
  | _,_,_,_=>⟨gen o k fun σ _=>fIndex P Γ σ o T x y⟩
 | .extract x n=>match o.dst,copd Γ x with
  | some d,⟨gx⟩=>⟨fun cD cH σ η wl=>owB (fun v=>k cD cH (setF σ v d) η wl) (extractH (gx σ) n)⟩
  | _,_=>⟨gen o k fun σ _=>fExtract Γ σ o x n⟩
 | .nilCheck x=>match o.dst,copd Γ x with
  | some d,⟨gx⟩=>⟨fun cD cH σ η wl=>nilB (fun v=>k cD cH (setF σ v d) η wl) (gx σ)⟩
  | _,_=>⟨gen o k fun σ _=>fNil Γ σ o x⟩
 | .build T ps=>⟨gen o k fun σ _=>fBuild P Γ σ o T ps⟩
 | .alloc T=>⟨gen o k fun _ η=>fAlloc P η.length o T⟩
 | .box T x=>⟨gen o k fun σ η=>fBox Γ σ η.length o T x⟩
 | .call c=>match c.callee with
  | .value x=>match c.args.toList with
   | xs=>⟨gen o k fun σ η=>callO P Γ σ η o x xs⟩
  | .builtin .len=>match c.args.toList,c.argTypes.toList with
   | [x],[T]=>match o.dst,mkTI P T,copd Γ x with
    | some d,some ti,⟨gx⟩=>⟨fun cD cH σ η wl=>lenB ti (fun v=>k cD cH (setF σ (.one (.dat (.raw v))) d) η wl) (gen o k (fun σ η=>fLen P Γ lit false σ η η.length o x T) cD cH σ η wl) (gx σ)⟩
    | _,_,_=>⟨gen o k fun σ η=>fLen P Γ lit false σ η η.length o x T⟩
   | _,_=>⟨gen o k fun σ η=>opH P Γ lit false σ η η.length o⟩
  | _=>⟨gen o k fun σ η=>opH P Γ lit false σ η η.length o⟩
 | _=>⟨gen o k fun σ η=>opH P Γ lit false σ η η.length o⟩
variable {P Γ}
theorem thn_vO {k:Kr} {cD:CD} {cH:CH} {wl:List Nat} {o:Oper} {σ:List SV} {η:List SB} {rd rh:List Nat} {x:SV} {d:Nat} (hd:o.dst=some d):thn k cD cH wl (evDo cD cH o σ η (vO o rd rh (some x)))=k cD cH (σ.set d x) η wl:=by
 unfold vO
 rw [hd]
 simp only [evDo,frcE_eq,frcEB_eq,thn,appL,List.map_nil,List.nil_append]
theorem thn_vO_none {k:Kr} {cD:CD} {cH:CH} {wl:List Nat} {o:Oper} {σ:List SV} {η:List SB} {rd rh:List Nat} {x:Option SV} (hd:o.dst=none):thn k cD cH wl (evDo cD cH o σ η (vO o rd rh x))=none:=by
 unfold vO
 cases x<;>simp only [hd,evDo,thn]
theorem cdo_eq {gen:Oper→Kr→(List SV→List SB→HO)→Kr} {lit:Bool} {o:Oper} {k:Kr} {cD:CD} {cH:CH} {σ:List SV} {η:List SB} {wl:List Nat} (spec:HO→Option (List SV×List SB×List Nat)) (h1:∀ g,gen o k g cD cH σ η wl=spec (g σ η))
 (thn_vO:∀{rd rh:List Nat} {d:Nat} {x:SV},(∀ r∈rd,r∈opRd o.op)→o.dst=some d→spec (vO o rd rh (some x))=k cD cH (σ.set d x) η wl) (thn_vO_none:∀{rd rh:List Nat} {x:Option SV},o.dst=none→spec (vO o rd rh x)=none) (hbad:spec .bad=none) :
 (cdo P Γ gen lit o k).f cD cH σ η wl=spec (opF P Γ lit false σ η η.length o):=by
 unfold cdo
 split
 · rename_i x ho
   unfold opF;rw [ho];dsimp only
   unfold fMove
   split
   · rename_i d g hd hg
     rw [thn_vO (by rw [ho];exact fun r h=>h) hd]
     show frcW (g σ) _=_
     rw [frcW_eq,setF_eq,←copd_eq,hg]
   · rename_i hd
     rw [thn_vO_none hd]
 · rename_i x ho
   unfold opF;rw [ho];dsimp only
   unfold fMove
   split
   · rename_i d g hd hg
     rw [thn_vO (by rw [ho];exact fun r h=>h) hd]
     show frcW (g σ) _=_
     rw [frcW_eq,setF_eq,←copd_eq,hg]
   · rename_i hd
     rw [thn_vO_none hd]
 · rename_i c x y ho
   unfold opF;rw [ho];dsimp only
   split
   · rename_i d gc gx gy hd hc hx hy
     have ec:gc σ=opdS Γ σ c:=by rw [←copd_eq,hc]
     have ex:gx σ=opdS Γ σ x:=by rw [←copd_eq,hx]
     have ey:gy σ=opdS Γ σ y:=by rw [←copd_eq,hy]
     show pickB _ _ (gx σ) (gy σ) (gc σ)=_
     rw [ec,ex,ey]
     unfold pickB
     split
     · rename_i hb
       unfold fPick pickH
       rw [hb,frcW_eq,setF_eq]
       exact (thn_vO (by rw [ho];exact fun r h=>h) hd).symm
     · rename_i hb
       unfold fPick pickH
       rw [hb,frcW_eq,setF_eq]
       exact (thn_vO (by rw [ho];exact fun r h=>h) hd).symm
     · exact h1 _
   · exact h1 _
 · rename_i op T x y U ho
   unfold opF;rw [ho];dsimp only
   split
   · rename_i d gx gy hd hx hy
     have ex:gx σ=opdS Γ σ x:=by rw [←copd_eq,hx]
     have ey:gy σ=opdS Γ σ y:=by rw [←copd_eq,hy]
     show binB _ _ _ (gx σ) (gy σ)=_
     rw [ex,ey]
     unfold binB
     split
     · rename_i a b ha hb
       split
       · rename_i v hv
         unfold fBin rawRaw
         rw [ha,hb,frcV_eq,setF_eq]
         simp only [hv]
         exact (thn_vO (by rw [ho];exact fun r h=>h) hd).symm
       · exact h1 _
     · exact h1 _
   · exact h1 _
 · rename_i op T x ho
   unfold opF;rw [ho];dsimp only
   split
   · rename_i d gx hd hx
     have ex:gx σ=opdS Γ σ x:=by rw [←copd_eq,hx]
     show unB _ _ _ (gx σ)=_
     rw [ex]
     unfold unB
     split
     · rename_i a ha
       split
       · rename_i v hv
         unfold fUn rawS
         rw [ha,frcV_eq,setF_eq]
         simp only [hv]
         exact (thn_vO (by rw [ho];exact fun r h=>h) hd).symm
       · exact h1 _
     · exact h1 _
   · exact h1 _
 case h_6 T x ho=>
  unfold opF;rw [ho];dsimp only
  split
  · rename_i d ti gx hd hti hx
    have ex:gx σ=opdS Γ σ x:=by rw [←copd_eq,hx]
    show ldB _ _ _ (gx σ)=_
    rw [ex,ldB_eq]
    unfold fLoad withT
    simp only [hti]
    cases seeH η (opdS Γ σ x) with
    | none=>exact hbad.symm
    | some p=>
     obtain ⟨rh,hs⟩:=p
     simp only []
     cases loadHC ti hs with
     | none=>exact (by unfold vO;exact hbad.symm)
     | some v=>unfold owB;simp only [frcW_eq,setF_eq];exact (thn_vO (by rw [ho];exact fun r h=>h) hd).symm
  · exact h1 _
 case h_8 S x f ho=>
  unfold opF;rw [ho];dsimp only
  split
  · rename_i d off ft gx hd hfs hx
    have ex:gx σ=opdS Γ σ x:=by rw [←copd_eq,hx]
    show ovB _ (fieldAddrH (gx σ) off)=_
    rw [ex]
    unfold cFs at hfs
    split at hfs
    · rename_i ti hti
      split at hfs
      · rename_i fs hsh
        split at hfs
        · rename_i off' sz ft' hf
          cases hfs
          unfold fFieldAddr withT
          simp only [hti,hsh,hf]
          cases fieldAddrH (opdS Γ σ x) off with
          | none=>exact (by unfold vO;exact hbad.symm)
          | some v=>unfold ovB;simp only [frcS_eq,setF_eq];exact (thn_vO (by rw [ho];exact fun r h=>h) hd).symm
        · cases hfs
      · cases hfs
    · cases hfs
  · exact h1 _
 case h_9 T x y ho=>
  unfold opF;rw [ho];dsimp only
  split
  · rename_i d ti gx gy hd hti hx hy
    have ex:gx σ=opdS Γ σ x:=by rw [←copd_eq,hx]
    have ey:gy σ=opdS Γ σ y:=by rw [←copd_eq,hy]
    show ovB' _ _ (indexAddrH ti.sh (gx σ) (gy σ))=_
    rw [ex,ey,h1]
    cases hv:indexAddrH ti.sh (opdS Γ σ x) (opdS Γ σ y) with
    | none=>rfl
    | some v=>
     unfold fIndexAddr withT ovB'
     simp only [hti,hv,frcS_eq,setF_eq]
     exact (thn_vO (by rw [ho];exact fun r h=>h) hd).symm
  · exact h1 _
 case h_10 T x f ho=>
  unfold opF;rw [ho];dsimp only
  split
  · rename_i d off ft gx hd hfs hx
    have ex:gx σ=opdS Γ σ x:=by rw [←copd_eq,hx]
    split
    · rename_i tf htf
      show owB _ (partH off tf (gx σ))=_
      rw [ex]
      unfold cFs at hfs
      split at hfs
      · rename_i ti hti
        split at hfs
        · rename_i fs hsh
          split at hfs
          · rename_i off' sz ft' hf
            cases hfs
            unfold fField withT
            simp only [hti,hsh,hf,htf]
            cases partH off tf (opdS Γ σ x) with
            | none=>exact (by unfold vO;exact hbad.symm)
            | some v=>unfold owB;simp only [frcW_eq,setF_eq];exact (thn_vO (by rw [ho];exact fun r h=>h) hd).symm
          · cases hfs
        · cases hfs
      · cases hfs
    · exact h1 _
  · exact h1 _
 case h_12 x n ho=>
  unfold opF;rw [ho];dsimp only
  split
  · rename_i d gx hd hx
    have ex:gx σ=opdS Γ σ x:=by rw [←copd_eq,hx]
    show owB _ (extractH (gx σ) n)=_
    rw [ex]
    unfold fExtract
    cases extractH (opdS Γ σ x) n with
    | none=>exact (by unfold vO;exact hbad.symm)
    | some v=>unfold owB;simp only [frcW_eq,setF_eq];exact (thn_vO (by rw [ho];exact fun r h=>h) hd).symm
  · exact h1 _
 case h_13 x ho=>
  unfold opF;rw [ho];dsimp only
  split
  · rename_i d gx hd hx
    have ex:gx σ=opdS Γ σ x:=by rw [←copd_eq,hx]
    show nilB _ (gx σ)=_
    rw [ex]
    unfold fNil nilB
    cases ptrH (opdS Γ σ x) with
    | false=>exact hbad.symm
    | true=>simp only [frcW_eq,setF_eq,if_true];exact (thn_vO (by rw [ho];exact fun r h=>h) hd).symm
  · exact h1 _
 case h_11 T x y ho=>
  unfold opF;rw [ho];dsimp only
  split
  · rename_i d gx gy hd hT hx hy
    have ex:gx σ=opdS Γ σ x:=by rw [←copd_eq,hx]
    have ey:gy σ=opdS Γ σ y:=by rw [←copd_eq,hy]
    show sidxB _ _ (gx σ) (gy σ)=_
    rw [ex,ey]
    unfold sidxB
    split
    · rename_i s kd i ha hb
      split
      · rename_i hi
        obtain ⟨ti,hti,hs⟩:=Option.map_eq_some_iff.1 hT
        unfold fIndex withT
        simp only [hti,hs,ha,hb,sidxS,if_pos hi]
        rw [frcV_eq,setF_eq]
        exact (thn_vO (by rw [ho];exact fun r h=>h) hd).symm
      · exact h1 _
    · exact h1 _
  · rename_i d gx gy hd hx hy hne
    have ex:gx σ=opdS Γ σ x:=by rw [←copd_eq,hx]
    have ey:gy σ=opdS Γ σ y:=by rw [←copd_eq,hy]
    split
    · rename_i n es te hca
      show idxB n es te _ (gx σ) (gy σ)=_
      rw [ex,ey]
      unfold cAr at hca
      split at hca
      · rename_i ti hti
        split at hca
        · rename_i n' e' es' hsh
          split at hca
          · rename_i te' hte
            cases hca
            unfold fIndex withT idxB
            simp only [hti,hsh,hte]
            cases intS (opdS Γ σ y) with
            | none=>exact hbad.symm
            | some ix=>
             simp only []
             split
             · cases partH (ix.toNat*es) te (opdS Γ σ x) with
               | none=>exact (by unfold vO;exact hbad.symm)
               | some v=>unfold owB;simp only [frcW_eq,setF_eq];exact (thn_vO (by rw [ho];exact fun r h=>h) hd).symm
             · exact hbad.symm
          · cases hca
        · cases hca
      · cases hca
    · exact h1 _
  · exact h1 _
 case h_17 c ho=>
  unfold opF;rw [ho];dsimp only
  unfold fCall
  split
  · rename_i x hc
    simp only [hc]
    exact h1 _
  · rename_i hc
    simp only [hc]
    split
    · rename_i x T ha ht
      simp only [ha,ht]
      split
      · rename_i d ti gx hd hti hx
        have ex:gx σ=opdS Γ σ x:=by rw [←copd_eq,hx]
        show lenB ti _ _ (gx σ)=_
        rw [ex,h1]
        unfold lenB
        split
        · rename_i cc hcc
          split
          · rename_i n hok hl
            unfold fLen
            simp only [hcc,hti,hok,hl,frcV_eq,setF_eq]
            exact (thn_vO (by rw [ho];exact fun r hr=>List.mem_append_right _ (by rw [ha];simpa [orrL] using hr)) hd).symm
          · rfl
        · rfl
      · exact h1 _
    · rename_i hne
      refine (h1 _).trans ?_
      split
      · rename_i x T ha ht;exact absurd ht (hne x T ha)
      · rfl
  · rename_i hc1 hc2
    cases hcc:c.callee with
    | value x=>exact absurd hcc (hc1 x)
    | builtin b=>cases b<;>first | exact h1 _ | exact absurd hcc hc2
    | _=>
     simp only []
     refine (h1 _).trans ?_
     have:opH P Γ lit false σ η η.length o=.bad:=by unfold opH;rw [ho];simp only [hcc]
     rw [this]
 all_goals (first | (rename_i ho;unfold opF;rw [ho];exact h1 _) | (refine (h1 _).trans ?_;unfold opF;split<;>first | rfl | (exfalso;solve_by_elim)))
end
end Go.Hp
