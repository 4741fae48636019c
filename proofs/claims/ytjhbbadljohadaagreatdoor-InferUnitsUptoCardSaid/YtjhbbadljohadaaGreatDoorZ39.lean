/- The proof, part Z39: Qj, Qi, Qk. -/
import Derived.Test.YtjhbbadljohadaaGreatDoorZ38
namespace Go.Hp.T
open Go Go.RowKit Go.Slot Go.Hp
set_option maxRecDepth 10000
theorem byteAt_drop (s:ByteArray) (k i:Nat) (h:k+i<s.size):byteAt (sDrop s k) i=byteAt s (k+i):=by
 have h':k+i<s.data.size:=h
 unfold byteAt sDrop
 rw [ByteArray.data_extract,Array.getElem?_extract,if_pos (by simp only [Nat.min_def];split<;>simp_all<;>omega)]
theorem byteAt_take (s:ByteArray) (k i:Nat) (h:i<k) (h2:i<s.size):byteAt (sTake s k) i=byteAt s i:=by
 have h':i<s.data.size:=h2
 unfold byteAt sTake
 rw [ByteArray.data_extract,Array.getElem?_extract,if_pos (by simp only [Nat.min_def];split<;>simp_all<;>omega),Nat.zero_add]
theorem byteAt_cons (c:UInt8) (s:ByteArray) (i:Nat):byteAt (⟨#[c]⟩++s) (i+1)=byteAt s i:=by
 unfold byteAt
 have:(⟨#[c]⟩++s:ByteArray).data=#[c]++s.data:=by simp
 rw [this,Array.getElem?_append_right (by simp)]
 simp
theorem span_lt {p:Int→Bool} {s:ByteArray} {j:Nat} (h:j<spanF p s):p (byteAt s j)=true:=by
 have hj:j<s.size:=Nat.lt_of_lt_of_le h (spanF_le p s)
 have hj2:j<(bytesL s).length:=by rw [bytesL_length];exact hj
 have h1:p ((bytesL s).takeWhile p)[j]=true:=List.all_eq_true.1 List.all_takeWhile _ (List.getElem_mem h)
 have h2:((bytesL s).takeWhile p)[j]=(bytesL s)[j]:=(List.takeWhile_prefix p).getElem h
 rw [h2] at h1
 simpa [bytesL] using h1
theorem letter_plain {c:Int} (h:isLetter c=true):isPlain c=true:=by
 simp only [isLetter,isPlain,Bool.or_eq_true,Bool.and_eq_true,decide_eq_true_eq] at h ⊢
 omega
def Plain (s:ByteArray):Prop:=∀ j,j<s.size→isPlain (byteAt s j)=true
theorem plain_after {t:ByteArray} (h:Plain (cutAfter t)):Plain t:=by
 intro j hj
 rcases Nat.lt_or_ge j (spanF isLetter t) with h1 | h1
 · exact letter_plain (span_lt h1)
 have e1:byteAt (cutRest t) (j-spanF isLetter t)=byteAt t j:=by
  unfold cutRest
  rw [byteAt_drop _ _ _ (by omega)]
  congr 1;omega
 have s1:(cutRest t).size=t.size-spanF isLetter t:=by unfold cutRest;exact sDrop_size _ _
 unfold cutAfter at h
 cases hd:cutDig t with
 | false=>
  rw [hd,cond_false] at h
  have:=h (j-spanF isLetter t) (by omega)
  rwa [e1] at this
 | true=>
  rw [hd,cond_true] at h
  by_cases h0:j=spanF isLetter t
  · have hd':=hd
    simp only [cutDig,Bool.and_eq_true,decide_eq_true_eq] at hd'
    rw [show j-spanF isLetter t=0 by omega] at e1
    rw [←e1]
    simp only [isPlain,Bool.and_eq_true,decide_eq_true_eq]
    omega
  · have s2:(sDrop (cutRest t) 1).size=(cutRest t).size-1:=sDrop_size _ _
    have:=h (j-spanF isLetter t-1) (by omega)
    rw [byteAt_drop _ _ _ (by omega),show 1+(j-spanF isLetter t-1)=j-spanF isLetter t by omega,e1] at this
    exact this
theorem itemsL_plain:∀(n:Nat) (r:ByteArray) (acc l:List It),itemsL n r acc=some l→Plain r
 | 0,_,_,_,h=>by cases h
 | n+1,r,acc,l,h=>by
  rw [itemsL] at h
  by_cases h0:r.size=0
  · intro j hj;omega
  rw [decide_eq_false h0,cond_false] at h
  cases hb:(!cutOk' (sDrop r 1)||(decide (¬byteAt r 0=42)&&decide (¬byteAt r 0=47))) with
  | true=>rw [hb] at h;cases h
  | false=>
   rw [hb,cond_false] at h
   have h2:=plain_after (itemsL_plain n _ _ _ h)
   have s1:(sDrop r 1).size=r.size-1:=sDrop_size _ _
   intro j hj
   rcases j with _ | j
   · simp only [Bool.or_eq_false_iff,Bool.and_eq_false_iff,decide_eq_false_iff_not,Decidable.not_not] at hb
     simp only [isPlain,Bool.and_eq_true,decide_eq_true_eq]
     omega
   · have:=h2 j (by omega)
     rw [byteAt_drop _ _ _ (by omega),Nat.add_comm 1 j] at this
     exact this
theorem unit_plain {s:ByteArray} (h:(uReadF s).2=0):isQuote s=true:=by
 have hi:∃ l,itemsF s=some l:=by
  unfold uReadF at h
  cases hi:itemsF s with
  | none=>rw [hi] at h;cases h
  | some l=>exact ⟨l,rfl⟩
 obtain ⟨l,hi⟩:=hi
 unfold itemsF at hi
 by_cases h0:s.size=0
 · rw [quote_yes (fun j hj=>by omega)];exact decide_eq_true (by omega)
 rw [decide_eq_false h0,cond_false] at hi
 by_cases h1:40<(s.size:Int)
 · rw [decide_eq_true h1,cond_true] at hi;cases hi
 rw [decide_eq_false h1,cond_false] at hi
 have hp:=itemsL_plain _ _ _ _ hi
 rw [quote_yes]
 · exact decide_eq_true (by omega)
 intro j hj
 unfold itemsStart at hp
 cases h2:hasPre s ⟨#[49]⟩ with
 | false=>
  rw [h2,cond_false] at hp
  have:=hp (j+1) (by rw [ByteArray.size_append,show (⟨#[42]⟩:ByteArray).size=1 from rfl];omega)
  rwa [byteAt_cons] at this
 | true=>
  rw [h2,cond_true] at hp
  rcases j with _ | j
  · unfold hasPre at h2
    rw [Bool.and_eq_true] at h2
    have e:=seq_eq h2.2
    have e2:byteAt (sTake s 1) 0=49:=by
     have e':sTake s 1=⟨#[49]⟩:=e
     rw [e'];rfl
    rw [byteAt_take _ _ _ (by decide) hj] at e2
    rw [e2];rfl
  · have s1:(sDrop s 1).size=s.size-1:=sDrop_size _ _
    have:=hp j (by omega)
    rw [byteAt_drop _ _ _ (by omega),Nat.add_comm 1 j] at this
    exact this
theorem rewr_cnt (a b:ByteArray) (k:Int):∀ x:Ex,∀ n lv:Int,(Ex.rewr a b k x).cnt n lv=x.cnt n lv:=by
 refine Ex.ind (fun x ih n lv=>?_)
 rw [Ex.cnt_eq,Ex.cnt_eq x,Ex.rewr_eq]
 have hL:∀ l:List Ex,(∀ z∈l,z∈x.args)→∀ n lv:Int,Ex.cntL (l.map (Ex.rewr a b k)) n lv=Ex.cntL l n lv:=by
  intro l
  induction l with
  | nil=>intro _ _ _;rfl
  | cons z l ihl=>
   intro h n lv
   rw [List.map_cons,Ex.cntL,Ex.cntL,ih z (h z (by simp))]
   cases z.cnt n lv with
   | mk c m=>cases c with
    | false=>rfl
    | true=>exact ihl (fun w hw=>h w (by simp [hw])) m lv
 show (bif _ then _ else Ex.cntL (x.args.map (Ex.rewr a b k)) (n+1) (lv+1))=_
 rw [hL x.args (fun z h=>h)]
theorem rewr_node (a b:ByteArray) (k:Int) (hb:isQuote b=true) (hk:0≤k) (hk2:k≤65535) (x:Ex) (hx:exNode x=true):exNode (Ex.rewr a b k x)=true:=by
 rw [Ex.rewr_eq]
 cases x with
 | mk o n u s l=>
  unfold exNode at hx ⊢
  simp only [Ex.op,Ex.n,Ex.unit,Ex.name,Ex.args,List.length_map] at hx ⊢
  by_cases h0:o=0
  · subst h0
    simp only [decide_true,cond_true,Bool.true_and,Bool.and_eq_true] at hx ⊢
    refine ⟨⟨⟨⟨?_,decide_eq_true hk⟩,decide_eq_true (by omega)⟩,hx.1.2⟩,hx.2⟩
    cases seq u a with
    | true=>exact hb
    | false=>exact hx.1.1.1.1
  · simp only [h0,decide_false,cond_false,Bool.false_and] at hx ⊢
    exact hx
theorem rewr_shaped (a b:ByteArray) (k:Int) (hb:isQuote b=true) (hk:0≤k) (hk2:k≤65535):∀ x:Ex,x.shaped=true→(Ex.rewr a b k x).shaped=true:=by
 refine Ex.ind (fun x ih hx=>?_)
 rw [Ex.shaped_eq,Bool.and_eq_true,List.all_eq_true] at hx
 rw [Ex.shaped_eq,Bool.and_eq_true,List.all_eq_true]
 refine ⟨rewr_node a b k hb hk hk2 x hx.1,fun y hy=>?_⟩
 rw [Ex.rewr_eq] at hy
 obtain ⟨z,hz,rfl⟩:=List.mem_map.1 hy
 exact ih z hz (hx.2 z hz)
theorem rewr_call (a b:ByteArray) (k:Int):∀ x:Ex,(Ex.rewr a b k x).hasCall=x.hasCall:=by
 refine Ex.ind (fun x ih=>?_)
 rw [Ex.hasCall_eq,Ex.hasCall_eq x,Ex.rewr_eq]
 congr 1
 show (x.args.map (Ex.rewr a b k)).any Ex.hasCall=_
 rw [List.any_map]
 refine Bool.eq_iff_iff.2 ?_
 simp only [List.any_eq_true,Function.comp]
 exact ⟨fun ⟨z,h1,h2⟩=>⟨z,h1,by rw [←ih z h1];exact h2⟩,fun ⟨z,h1,h2⟩=>⟨z,h1,by rw [ih z h1];exact h2⟩⟩
theorem rewr_ty (V T:List (ByteArray×Dm)) (a b:ByteArray) (k:Int) (ha:(uReadF a).2=0) (hb:(uReadF b).2=0) (hd:dmO (uReadF a).1=dmO (uReadF b).1):∀ x:Ex,(Ex.rewr a b k x).ty V T=x.ty V T:=by
 refine Ex.ind (fun x ih=>?_)
 rw [Ex.ty_eq,Ex.ty_eq V T x,Ex.rewr_eq]
 have hL:∀ l:List Ex,(∀ z∈l,z∈x.args)→Ex.tyL V T (l.map (Ex.rewr a b k))=Ex.tyL V T l:=by
  intro l
  induction l with
  | nil=>intro _;rfl
  | cons z l ihl=>
   intro h
   rw [List.map_cons,Ex.tyL,Ex.tyL,ih z (h z (by simp)),ihl (fun w hw=>h w (by simp [hw]))]
 have hleaf:leafF V (.mk x.op (bif decide (x.op=0) then k else x.n) (bif decide (x.op=0)&&seq x.unit a then b else x.unit) x.name (x.args.map (Ex.rewr a b k)))=leafF V x:=by
  unfold leafF
  show (bif decide (x.op=1) then _ else bif decide (¬(uReadF (bif decide (x.op=0)&&seq x.unit a then b else x.unit)).2=0) then _ else _)=_
  cases hc:(decide (x.op=0)&&seq x.unit a) with
  | false=>rfl
  | true=>
   rw [Bool.and_eq_true] at hc
   have e:=seq_eq hc.2
   rw [cond_true,e,ha,hb,hd]
   rfl
 show (bif decide (((x.args.map (Ex.rewr a b k)).length:Int)=0) then _ else match Ex.tyL V T (x.args.map (Ex.rewr a b k)) with | .inl e=>(Ty.zero,e) | .inr ts=>nodeF T x.op x.name ts)=_
 rw [List.length_map,hL x.args (fun z h=>h),hleaf]
 rfl
theorem lawUnits1 (x:Ex) (a b:ByteArray) (k:Int) (vs:List Vr) (ms:List Tb) (hk:0≤k) (hk2:k≤65535) (ha:(uReadF a).2=0) (hb:(uReadF b).2=0) (hd:dmO (uReadF a).1=dmO (uReadF b).1) (hx:exRight x=true) :
 ofF (Ex.rewr a b k x) vs ms=ofF x vs ms:=by
 have hz:exRight (Ex.rewr a b k x)=true:=by
  unfold exRight at hx ⊢
  rw [Bool.and_eq_true] at hx ⊢
  exact ⟨by rw [rewr_cnt];exact hx.1,rewr_shaped a b k (unit_plain hb) hk hk2 x hx.2⟩
 unfold ofF
 rw [hx,hz,rewr_call]
 cases readF vs ms with
 | none=>rfl
 | some p=>simp only;rw [rewr_ty p.1 p.2 a b k ha hb hd]
def Tb.bare (t:Tb):Tb:=⟨t.name,t.unit,[]⟩
theorem tb_bare {f:ByteArray→Int} {t:Tb} (h:tbRight f t=true):tbRight f t.bare=true:=by
 unfold tbRight at h ⊢
 simp only [Bool.and_eq_true] at h
 obtain ⟨⟨⟨h1,h2⟩,_⟩,_⟩:=h
 show (!decide (¬f t.unit=0)&&isName t.name&&!decide (100<(([]:List Rw).length:Int))&&rowsF [])=true
 rw [h1,h2];rfl
theorem rT_bare (V:List (ByteArray×Dm)):∀(ms:List Tb) (T U:List (ByteArray×Dm)),rT V T ms=some U→rT V T (ms.map Tb.bare)=some U
 | [],T,U,h=>h
 | t::ms,T,U,h=>by
  rw [rT] at h
  cases hb:((lookF V t.name).isSome||decide (¬(uReadF t.unit).2=0)||!tbRight (fun s=>(uReadF s).2) t||isWord t.name) with
  | true=>rw [hb] at h;cases h
  | false=>
   rw [hb,cond_false] at h
   rw [List.map_cons,rT]
   simp only [Bool.or_eq_false_iff,Bool.not_eq_false'] at hb
   have hc:((lookF V t.bare.name).isSome||decide (¬(uReadF t.bare.unit).2=0)||!tbRight (fun s=>(uReadF s).2) t.bare||isWord t.bare.name)=false:=by
    rw [tb_bare hb.1.2]
    show ((lookF V t.name).isSome||decide (¬(uReadF t.unit).2=0)||!true||isWord t.name)=false
    rw [hb.1.1.1,hb.1.1.2,hb.2];rfl
   rw [hc,cond_false]
   exact rT_bare V ms _ U h
theorem lawUnits2 (x:Ex) (vs:List Vr) (ms:List Tb) (h:(ofF x vs ms).2≠1):ofF x vs (ms.map Tb.bare)=ofF x vs ms:=by
 unfold ofF at h ⊢
 cases hc:(!exRight x||x.hasCall) with
 | true=>rfl
 | false=>
  rw [hc] at h
  simp only [cond_false] at h ⊢
  cases hr:readF vs ms with
  | none=>rw [hr] at h;exact absurd rfl h
  | some p=>
   have:readF vs (ms.map Tb.bare)=some p:=by
    unfold readF at hr ⊢
    cases hV:rV [] vs with
    | none=>rw [hV] at hr;cases hr
    | some V=>
     rw [hV] at hr
     simp only at hr ⊢
     cases hT:rT V [] ms with
     | none=>rw [hT] at hr;cases hr
     | some T=>
      rw [hT] at hr
      rw [rT_bare V ms [] T hT,List.length_map]
      exact hr
   rw [this]
end Go.Hp.T

namespace Go.Hp.T
open Go Go.RowKit Go.Slot Go.Hp Go.Slot.T
open Go.Proofs.Tryz (prog)
set_option maxRecDepth 10000
set_option maxHeartbeats 4000000
def tbZ (t:Tb):List Cell:=[cS t.name,cS t.unit,.zc]
theorem uz_tbZ (ms:List Tb):uz 2 (.sl 3 (ms.map tbZ))=.sl 3 ((ms.map Tb.bare).map Tb.C):=by
 rw [uz,uzLL_eq,List.map_map,List.map_map]
 refine congrArg _ (List.map_congr_left fun t _=>?_)
 simp only [Function.comp,tbZ,Tb.bare,Tb.C,uzL,uz,List.map_nil]
theorem CallsD.uzArg {Γ:List (Nat×List Cell)} {f:FuncId} {a b res:AV} {c:Cell} (k:Nat) (h:CallsD Γ prog f [a,b,.one (uz k c)] res):CallsD Γ prog f [a,b,.one c] res:=
 ⟨h.1,fun M w vs hM hg hr=>h.2 M w vs hM hg (by
  match vs,hr with
  | [v1,v2,v3],⟨h1,h2,h3,h4⟩=>exact ⟨h1,h2,RdC.uz k h3,h4⟩)⟩
theorem wUnits (x:Ex) (a b:ByteArray) (n:Int) (vs:List Vr) (ms:List Tb) (hx:x.Sm) (hz:(Ex.rewr a b n x).Sm) (ha:a.size≤1073741824) (hb:b.size≤1073741824) (hn:0≤n) (hn2:n≤65535) (hv:vs.length≤1073741824) (hm:ms.length≤1073741824) (hvn:∀ v∈vs,v.name.size≤1073741824) (hms:∀ t∈ms,t.Sm)
 (H1:(uReadF a).2=0→(uReadF b).2=0→dmO (uReadF a).1=dmO (uReadF b).1→exRight x=true→ofF (Ex.rewr a b n x) vs ms=ofF x vs ms)
 (H2:(ofF x vs ms).2≠1→ofF x vs (ms.map Tb.bare)=ofF x vs ms) :
 CallsD Gs prog 5 [.agg (exC x),.one (cS a),.one (cS b),.one (.raw (.int .u16 n)),.one (.sl 7 (vs.map Vr.C)),.one (.sl 3 (ms.map Tb.C))] (.one (cB true)):=by
 have s1:=cSane
 have f1:=rFew15 (Γ:=Gs) x hx vs ms hv hm
 have u1:=cUReadX (Γ:=Gs) a ha
 have u2:=cUReadX (Γ:=Gs) b hb
 have p1:=cRight (Γ:=Gs) x hx
 have p3:=cRewritten (Γ:=Gs) a b n x hx
 have o1:=cInferOf (Γ:=Gs) x vs ms hx hv hm hvn hms
 have o2:=cInferOf (Γ:=Gs) (Ex.rewr a b n x) vs ms hz hv hm hvn hms
 have o3:=cInferOf (Γ:=Gs) x vs (ms.map Tb.bare) hx hv (by simpa using hm) hvn (fun t ht=>by
  obtain ⟨t',h1,rfl⟩:=List.mem_map.1 ht
  exact ⟨(hms t' h1).n,(hms t' h1).u,by simp [Tb.bare]⟩)
 have o4:CallsD Gs prog 9 [.agg (exC x),.one (.sl 7 (vs.map Vr.C)),.one (.sl 3 (ms.map tbZ))] (tyR (ofF x vs (ms.map Tb.bare))):=CallsD.uzArg 2 (by rw [uz_tbZ];exact o3)
 clear o3
 generalize few15 x vs ms=b1 at f1
 generalize exRight x=e1 at p1 H1
 generalize Ex.rewr a b n x=z at p3 o2 H1 hz
 generalize ofF x vs ms=r1 at o1 H1 H2
 generalize ofF z vs ms=r2 at o2 H1
 generalize ofF x vs (ms.map Tb.bare)=r3 at o4 H2
 generalize uReadF a=ua at u1 H1
 generalize uReadF b=ub at u2 H1
 obtain ⟨ua,uae⟩:=ua
 obtain ⟨ub,ube⟩:=ub
 obtain ⟨r1t,r1e⟩:=r1
 obtain ⟨r2t,r2e⟩:=r2
 obtain ⟨r3t,r3e⟩:=r3
 simp only at H1 H2 u1 u2 o1 o2 o4
 clear hvn hms hz
 refine CallsD.run [] Go.Proofs.Tryz.func5 rfl rfl rfl ?_;simp only [Go.Proofs.Tryz.f5];refine hgR ?_
 repeat' ((first | refine hfk ?_ ?_<;>intros | refine hik ?_ | with_reducible first | refine hcall (s1) ?_ | refine hcalle (s1) ?_ | refine hcall (f1) ?_ | refine hcalle (f1) ?_ | refine hcall (u1) ?_ | refine hcalle (u1) ?_ | refine hcall (u2) ?_ | refine hcalle (u2) ?_ | refine hcall (p1) ?_ | refine hcalle (p1) ?_ | refine hcall (o1) ?_ | refine hcalle (o1) ?_ | refine hcall (p3) ?_ | refine hcalle (p3) ?_ | refine hcall (o2) ?_ | refine hcalle (o2) ?_)<;>refine hgS ?_)
 all_goals first
  | exact RLe.ofEq rfl
  | skip
 obtain ⟨rfl,rfl⟩:r1t=r2t∧r1e=r2e:=by
  have:=H1 (by omega) (by omega) (Decidable.not_not.1 (by assumption)) (by assumption)
  exact ⟨(congrArg Prod.fst this).symm,(congrArg Prod.snd this).symm⟩
 clear H1
 all_goals
  refine hloop [4,5,6,13,18,19,20,21] (fun n:Nat=>[(22,.one (.sl 5 3 0 n)),(23,.one (.dat (cI n)))])
   (fun n=>[.box ((exC x).map .dat) (some 24),.box ((unX ua).map .dat) (some 49),.box ((unX ub).map .dat) (some 49),.box ((tyC r1t).map .dat) (some 32),.box ((tyC r1t).map .dat) (some 32),.arr (.sl 3 ((ms.take n).map tbZ)) 0 (some 55)])
   (fun n=>n≤ms.length) (fun n=>ms.length-n) 0 (Nat.zero_le _) ?_ ?_
 · refine hg ?_
   refine StH.trans (StH.empty (d:=22) (es:=3) (c:=.sl 3 []) (T:=some 55) rfl rfl (fun r hr=>by cases hr) rfl) ?_
   refine hg ?_
   exact StH.same (by repeat' first | exact .nil | refine .cons (by first | exact .refl _ | exact .any _) ?_) rfl
 intro n hn
 have hlen:(ms.take n).length=n:=by rw [List.length_take];omega
 conv=>simp (maxSteps:=2000000) (disch:=omega) only [go_sem,Nat.reduceAdd,Nat.reduceSub,Nat.reduceMul,Int.reduceToNat,Nat.reduceEqDiff,Nat.reduceBEq,Nat.reduceBneDiff,Nat.reduceLT,Int.reduceEq,Int.reduceLT,Int.reduceLE,Int.reduceNeg,Int.reduceAdd,Int.reduceSub,Int.reduceMul,hlen]
 repeat' ((first | refine hfk ?_ ?_<;>intros | refine hik ?_ | with_reducible first | refine hcall (o4) ?_ | refine hcalle (o4) ?_)<;>refine hgS ?_)
 · have ht:(ms.take (n+1)).map tbZ=(ms.take n).map tbZ++[tbZ (ms.getD n default)]:=by
    rw [take_getD (by omega)]
    simp only [List.map_append,List.map_cons,List.map_nil]
   refine ⟨n+1,by omega,by omega,?_⟩
   conv=>simp (maxSteps:=2000000) (disch:=omega) only [go_sem,Nat.reduceAdd,Nat.reduceSub,Nat.reduceMul,Int.reduceToNat,Nat.reduceEqDiff,Nat.reduceBEq,Nat.reduceBneDiff,Nat.reduceLT,Int.reduceEq,Int.reduceLT,Int.reduceLE,Int.reduceNeg,Int.reduceAdd,Int.reduceSub,Int.reduceMul,List.length_append,List.length_map,hlen,List.length_singleton]
   refine StH.back [4,5,6,13,18,19,20,21,22,23] 5 6 6 rfl rfl rfl rfl rfl (by kernel_rfl) (StH.same (by repeat' first | exact .nil | refine .cons (by first | exact .refl _ | exact .any _) ?_) ?_)
   rw [ht]
   rfl
 · rw [List.take_of_length_le (by omega)]
   repeat' ((first | refine hfk ?_ ?_<;>intros | refine hik ?_ | with_reducible first | refine hcall (o4) ?_ | refine hcalle (o4) ?_)<;>refine hgS ?_)
   all_goals first
    | exact RLe.ofEq rfl
    | (refine RLe.ofEq ?_;simp_all;done)
    | (exfalso;simp_all;done)
end Go.Hp.T

namespace Go.Hp.T
open Go Go.RowKit Go.Slot Go.Hp
set_option maxRecDepth 10000
def OkT (p:Ty×Int):Prop:=p.2≠0→p.1=Ty.zero
theorem okT_c {c:Bool} {a b:Ty×Int} (ha:OkT a) (hb:OkT b):OkT (bif c then a else b):=by cases c<;>assumption
theorem okT_ok (t:Ty):OkT (t,0):=fun h=>absurd rfl h
theorem okT_er (e:Int):OkT (Ty.zero,e):=fun _=>rfl
theorem okT_alike (a b r:Ty):OkT (alikeF a b r):=okT_c (okT_er _) (okT_c (okT_er _) (okT_ok _))
theorem okT_look (T:List (ByteArray×Dm)) (s:ByteArray) (k:Ty):OkT (lookF' T s k):=by
 unfold lookF'
 cases lookF T s with
 | none=>exact okT_er _
 | some d=>exact okT_c (okT_er _) (okT_c (okT_er _) (okT_ok _))
theorem okT_node (T:List (ByteArray×Dm)) (o:Int) (nm:ByteArray) (ts:List Ty):OkT (nodeF T o nm ts):=
 okT_c (okT_look _ _ _) (okT_c (okT_alike _ _ _) (okT_c (okT_alike _ _ _) (okT_c (okT_c (okT_er _) (okT_c (okT_er _) (okT_ok _))) (okT_c (okT_c (okT_er _) (okT_alike _ _ _)) (okT_c (okT_er _) (okT_ok _))))))
theorem okT_leaf (V:List (ByteArray×Dm)) (x:Ex):OkT (leafF V x):=by
 unfold leafF
 refine okT_c ?_ (okT_c (okT_er _) (okT_ok _))
 cases lookF V x.name with
 | none=>exact okT_er _
 | some d=>exact okT_ok _
theorem okT_ty (V T:List (ByteArray×Dm)) (x:Ex):OkT (x.ty V T):=by
 rw [Ex.ty_eq]
 refine okT_c (okT_leaf _ _) ?_
 cases Ex.tyL V T x.args with
 | inl e=>exact okT_er _
 | inr ts=>exact okT_node _ _ _ _
theorem lawNames0 (x:Ex) (vs:List Vr) (ms:List Tb) (h:(ofF x vs ms).2≠0):(ofF x vs ms).1=Ty.zero:=by
 have:OkT (ofF x vs ms):=by
  unfold ofF
  refine okT_c (okT_er _) ?_
  cases readF vs ms with
  | none=>exact okT_er _
  | some p=>exact okT_ty _ _ _
 exact this h
theorem cnt_mono:∀(x:Ex) (n lv n' lv' k:Int),x.cnt n lv=(true,k)→n'≤n→lv'≤lv→∃ k',x.cnt n' lv'=(true,k')∧k'≤k:=by
 refine Ex.ind (fun x ih n lv n' lv' k h hn hl=>?_)
 have hL:∀ l:List Ex,(∀ z∈l,z∈x.args)→∀ n lv n' lv' k:Int,Ex.cntL l n lv=(true,k)→n'≤n→lv'≤lv→∃ k',Ex.cntL l n' lv'=(true,k')∧k'≤k:=by
  intro l
  induction l with
  | nil=>intro _ n lv n' lv' k h hn hl;rw [Ex.cntL] at h;cases h;exact ⟨n',by rw [Ex.cntL],hn⟩
  | cons z l ihl=>
   intro hz n lv n' lv' k h hn hl
   rw [Ex.cntL] at h
   cases hc:z.cnt n lv with
   | mk c m=>
    rw [hc] at h
    cases c with
    | false=>cases h
    | true=>
     obtain ⟨m',h1,h2⟩:=ih z (hz z (by simp)) n lv n' lv' m hc hn hl
     obtain ⟨k',h3,h4⟩:=ihl (fun w hw=>hz w (by simp [hw])) m lv m' lv' k h h2 hl
     exact ⟨k',by rw [Ex.cntL,h1];exact h3,h4⟩
 rw [Ex.cnt_eq] at h
 cases hb:(decide (200<n+1)||decide (20<lv)) with
 | true=>rw [hb] at h;cases h
 | false=>
  rw [hb,cond_false] at h
  obtain ⟨k',h1,h2⟩:=hL x.args (fun z hz=>hz) _ _ (n'+1) (lv'+1) k h (by omega) (by omega)
  refine ⟨k',?_,h2⟩
  rw [Bool.or_eq_false_iff,decide_eq_false_iff_not,decide_eq_false_iff_not] at hb
  rw [Ex.cnt_eq,decide_eq_false (by omega),decide_eq_false (by omega)]
  exact h1
theorem cntL_mem : ∀ (l : List Ex) (n lv k : Int), Ex.cntL l n lv = (true, k) → ∀ y ∈ l, ∃ n' m, n ≤ n' ∧ y.cnt n' lv = (true, m)
 | [],_,_,_,_,y,hy=>by cases hy
 | z::l,n,lv,k,h,y,hy=>by
  rw [Ex.cntL] at h
  cases hc:z.cnt n lv with
  | mk c m=>
   rw [hc] at h
   cases c with
   | false=>cases h
   | true=>
    rcases List.mem_cons.1 hy with rfl | hy
    · exact ⟨n,m,Int.le_refl _,hc⟩
    · obtain ⟨n',m',h1,h2⟩:=cntL_mem l m lv k h y hy
      exact ⟨n',m',by have:=(Ex.cnt_true z n lv m hc).1;omega,h2⟩
theorem right_arg {x:Ex} (h:exRight x=true):∀ y∈x.args,exRight y=true:=by
 intro y hy
 unfold exRight at h ⊢
 rw [Bool.and_eq_true] at h ⊢
 constructor
 · have h1:=h.1
   rw [Ex.cnt_eq,show (decide (200<(0:Int)+1)||decide (20<(1:Int)))=false from by decide,cond_false] at h1
   cases hc:Ex.cntL x.args (0+1) (1+1) with
   | mk c k=>
    rw [hc] at h1
    simp only at h1
    subst h1
    obtain ⟨n',m,h3,h4⟩:=cntL_mem _ _ _ _ hc y hy
    obtain ⟨k',h5,_⟩:=cnt_mono y n' (1+1) 0 1 m h4 (by omega) (by omega)
    rw [h5]
 · have h2:=h.2
   rw [Ex.shaped_eq,Bool.and_eq_true,List.all_eq_true] at h2
   exact h2.2 y hy
theorem call_arg {x:Ex} (h:x.hasCall=false):∀ y∈x.args,y.hasCall=false:=by
 rw [Ex.hasCall_eq,Bool.or_eq_false_iff,List.any_eq_false] at h
 intro y hy
 simpa using h.2 y hy
theorem tyL_inl (V T : List (ByteArray × Dm)) : ∀ (l : List Ex) (e : Int), Ex.tyL V T l = .inl e → e ≠ 0
 | [],e,h=>by rw [Ex.tyL] at h;cases h
 | z::l,e,h=>by
  rw [Ex.tyL] at h
  cases hz:z.ty V T with
  | mk t f=>
   rw [hz] at h
   simp only at h
   by_cases hf:f=0
   · subst hf
     cases hl:Ex.tyL V T l with
     | inl g=>
      rw [hl] at h
      have:g=e:=by simpa using h
      subst this
      exact tyL_inl V T l g hl
     | inr ts=>rw [hl] at h;simp at h
   · have:f=e:=by simpa [hf] using h
     rw [←this];exact hf
theorem tyL_inr (V T : List (ByteArray × Dm)) : ∀ (l : List Ex) (ts : List Ty), Ex.tyL V T l = .inr ts → ∀ y ∈ l, (y.ty V T).2 = 0
 | [],_,_,y,hy=>by cases hy
 | z::l,ts,h,y,hy=>by
  rw [Ex.tyL] at h
  cases hz:z.ty V T with
  | mk t f=>
   rw [hz] at h
   simp only at h
   by_cases hf:f=0
   · subst hf
     rcases List.mem_cons.1 hy with rfl | hy
     · rw [hz]
     · cases hl:Ex.tyL V T l with
       | inl g=>rw [hl] at h;simp at h
       | inr us=>exact tyL_inr V T l us hl y hy
   · simp [hf] at h
theorem lawNames1 (x:Ex) (vs:List Vr) (ms:List Tb) (h:(ofF x vs ms).2=0):∀ y∈x.args,(ofF y vs ms).2=0:=by
 intro y hy
 unfold ofF at h ⊢
 cases hb:(!exRight x||x.hasCall) with
 | true=>rw [hb] at h;cases h
 | false=>
  rw [hb] at h
  rw [Bool.or_eq_false_iff,Bool.not_eq_false'] at hb
  rw [right_arg hb.1 y hy,call_arg hb.2 y hy]
  cases hr:readF vs ms with
  | none=>rw [hr] at h;cases h
  | some p=>
   rw [hr] at h
   simp only [cond_false] at h
   show (y.ty p.1 p.2).2=0
   rw [Ex.ty_eq] at h
   have hne:x.args.length≠0:=by
    intro h0
    rw [List.eq_nil_of_length_eq_zero h0] at hy
    cases hy
   rw [decide_eq_false (by omega),cond_false] at h
   cases hL:Ex.tyL p.1 p.2 x.args with
   | inl e=>rw [hL] at h;exact absurd h (tyL_inl _ _ _ _ hL)
   | inr ts=>exact tyL_inr _ _ _ _ hL y hy
theorem ty_change (V T V' T':List (ByteArray×Dm)) (pV pT:ByteArray→Bool) (u:Ex→Bool) (hu:∀ x:Ex,u x=(x.args.any u||(decide (x.op=1)&&pV x.name)||(decide (x.op=2)&&pT x.name)))
 (hV:∀ s d,lookF V s=some d→lookF V' s=bif pV s then none else some d) (hT:∀ s d,lookF T s=some d→lookF T' s=bif pT s then none else some d) :
 ∀ x:Ex,x.shaped=true→(x.ty V T).2=0→x.ty V' T'=bif u x then (Ty.zero,11) else x.ty V T:=by
 refine Ex.ind (fun x ih hx h=>?_)
 rw [Ex.shaped_eq,Bool.and_eq_true,List.all_eq_true] at hx
 have hL:∀ l:List Ex,(∀ z∈l,z∈x.args)→∀ ts,Ex.tyL V T l=.inr ts→Ex.tyL V' T' l=bif l.any u then .inl 11 else .inr ts:=by
  intro l
  induction l with
  | nil=>intro _ ts h;rw [Ex.tyL] at h ⊢;rw [←h];rfl
  | cons z l ihl=>
   intro hz ts h
   have h0:=tyL_inr V T _ _ h z (by simp)
   have hz1:=ih z (hz z (by simp)) (hx.2 z (hz z (by simp))) h0
   rw [Ex.tyL] at h
   rw [Ex.tyL,hz1,List.any_cons]
   cases hc:z.ty V T with
   | mk t f=>
    rw [hc] at h h0
    simp only at h0 h
    subst h0
    cases hl:Ex.tyL V T l with
    | inl g=>rw [hl] at h;simp at h
    | inr us=>
     rw [hl] at h
     have hts:ts=t::us:=by simpa using h.symm
     subst hts
     cases u z with
     | true=>rfl
     | false=>
      rw [ihl (fun w hw=>hz w (by simp [hw])) us hl]
      cases l.any u<;>rfl
 by_cases h0:(x.args.length:Int)=0
 · have hnil:x.args=[]:=List.eq_nil_of_length_eq_zero (by omega)
   have h2:x.op≠2:=by
    intro h2
    have hn:=hx.1
    unfold exNode at hn
    rw [h2,hnil] at hn
    simp at hn
   rw [Ex.ty_eq,decide_eq_true h0,cond_true] at h
   rw [Ex.ty_eq,Ex.ty_eq V T x,hu x,hnil]
   show leafF V' x=bif (false||decide (x.op=1)&&pV x.name||decide (x.op=2)&&pT x.name) then (Ty.zero,11) else leafF V x
   rw [decide_eq_false h2,Bool.false_and,Bool.or_false,Bool.false_or]
   unfold leafF at h ⊢
   by_cases h1:x.op=1
   · rw [decide_eq_true h1,cond_true] at h
     rw [decide_eq_true h1,cond_true,cond_true,Bool.true_and]
     cases hl:lookF V x.name with
     | none=>rw [hl] at h;cases h
     | some d=>
      rw [hV _ _ hl]
      cases pV x.name<;>rfl
   · rw [decide_eq_false h1];rfl
 · have h1:x.op≠1:=fun h1=>h0 (by rw [node_one hx.1 h1];rfl)
   rw [Ex.ty_eq,decide_eq_false h0,cond_false] at h
   rw [Ex.ty_eq,Ex.ty_eq V T x,decide_eq_false h0,cond_false,cond_false,hu x,decide_eq_false h1,Bool.false_and,Bool.or_false]
   cases hl:Ex.tyL V T x.args with
   | inl e=>rw [hl] at h;exact absurd h (tyL_inl _ _ _ _ hl)
   | inr ts =>
    rw [hl] at h
    rw [hL x.args (fun z hz=>hz) ts hl]
    cases x.args.any u with
    | true=>rfl
    | false=>
     simp only [cond_false,Bool.false_or]
     simp only at h
     by_cases h2:x.op=2
     · rw [h2] at h ⊢
       have e1:∀ T,nodeF T 2 x.name ts=lookF' T x.name (ts.getD 0 default):=fun T=>rfl
       rw [e1] at h ⊢
       rw [e1]
       unfold lookF' at h ⊢
       cases hl2:lookF T x.name with
       | none=>rw [hl2] at h;cases h
       | some d=>
        rw [hT _ _ hl2]
        cases pT x.name<;>rfl
     · rw [decide_eq_false h2,Bool.false_and,cond_false]
       unfold nodeF
       rw [decide_eq_false h2,cond_false,cond_false]
def rG {α:Type} (bad:α→Bool) (nm:α→ByteArray) (vl:α→Dm) (V:List (ByteArray×Dm)):List α→Option (List (ByteArray×Dm))
 | []=>some V
 | v::l=>bif bad v then none else rG bad nm vl (updF V (nm v) (vl v)) l
theorem rV_rG:∀(vs:List Vr) (V:List (ByteArray×Dm)),rV V vs=rG (fun v:Vr=>!isName v.name||isWord v.name||!dRight v.d) Vr.name Vr.d V vs
 | [],V=>by rw [rV,rG]
 | v::vs,V=>by rw [rV,rG,rV_rG vs]
def tbad (V:List (ByteArray×Dm)) (t:Tb):Bool:=(lookF V t.name).isSome||decide (¬(uReadF t.unit).2=0)||!tbRight (fun s=>(uReadF s).2) t||isWord t.name
def tval (t:Tb):Dm:=dmO (uReadF t.unit).1
theorem rT_rG (V:List (ByteArray×Dm)):∀(ms:List Tb) (T:List (ByteArray×Dm)),rT V T ms=rG (tbad V) Tb.name tval T ms
 | [],T=>by rw [rT,rG]
 | t::ms,T=>by rw [rT,rG,rT_rG V ms];rfl
section
variable {α:Type} {bad:α→Bool} {nm:α→ByteArray} {vl:α→Dm}
theorem rG_len:∀(l:List α) (V W:List (ByteArray×Dm)),rG bad nm vl V l=some W→W.length≤V.length+l.length
 | [],V,W,h=>by rw [rG] at h;cases h;simp
 | v::l,V,W,h=>by
  rw [rG] at h
  cases hb:bad v with
  | true=>rw [hb] at h;cases h
  | false=>
   rw [hb] at h
   have h1:=rG_len l _ W h
   have h2:=(updF_len (vl v) (nm v) V).1
   simp only [List.length_cons]
   omega
theorem updF_new {β:Type} (d:β) (s:ByteArray):∀ V:List (ByteArray×β),lookF V s=none→updF V s d=V++[(s,d)]
 | [],_=>rfl
 | p::V,h=>by
  unfold lookF at h
  unfold updF
  cases hs:seq s p.1 with
  | true=>rw [hs] at h;cases h
  | false=>
   rw [hs,cond_false] at h
   rw [cond_false,updF_new d s V h];rfl
theorem lookF_app {β:Type} (s:ByteArray):∀ A B:List (ByteArray×β),lookF (A++B) s=(lookF A s).or (lookF B s)
 | [],B=>rfl
 | p::A,B=>by
  show (bif seq s p.1 then some p.2 else lookF (A++B) s)=(bif seq s p.1 then some p.2 else lookF A s).or (lookF B s)
  cases seq s p.1 with
  | true=>rfl
  | false=>exact lookF_app s A B
theorem look_none (s:ByteArray):∀ l:List α,(∀ v∈l,seq s (nm v)=false)→lookF (l.map fun v=>(nm v,vl v)) s=none
 | [],_=>rfl
 | v::l,h=>by
  rw [List.map_cons,lookF,h v (by simp),cond_false]
  exact look_none s l (fun w hw=>h w (by simp [hw]))
theorem none_look {s:ByteArray}:∀{l:List α},lookF (l.map fun v=>(nm v,vl v)) s=none→∀ v∈l,seq s (nm v)=false
 | [],_,v,hv=>by cases hv
 | w::l,h,v,hv=>by
  rw [List.map_cons,lookF] at h
  cases hs:seq s (nm w) with
  | true=>rw [hs] at h;cases h
  | false=>
   rw [hs,cond_false] at h
   rcases List.mem_cons.1 hv with rfl | hv
   · exact hs
   · exact none_look h v hv
theorem rG_char:∀(l:List α) (V W:List (ByteArray×Dm)),rG bad nm vl V l=some W→W.length=V.length+l.length→
 W=V++(l.map fun v=>(nm v,vl v))∧(∀ v∈l,bad v=false∧lookF V (nm v)=none)∧l.Pairwise (fun a b=>seq (nm b) (nm a)=false)
 | [],V,W,h,_=>by rw [rG] at h;cases h;exact ⟨by simp,⟨fun v hv=>(by cases hv),List.Pairwise.nil⟩⟩
 | v::l,V,W,h,hlen=>by
  rw [rG] at h
  cases hb:bad v with
  | true=>rw [hb] at h;cases h
  | false=>
   rw [hb,cond_false] at h
   have h1:=rG_len l _ W h
   have h2:=updF_len (vl v) (nm v) V
   simp only [List.length_cons] at hlen
   have h3:(updF V (nm v) (vl v)).length=V.length+1:=by omega
   have hn:=h2.2 h3
   obtain ⟨h4,h5,h6⟩:=rG_char l _ W h (by omega)
   rw [updF_new _ _ _ hn] at h4 h5
   refine ⟨by rw [h4];simp,fun u hu=>?_,.cons (fun u hu=>?_) h6⟩
   · rcases List.mem_cons.1 hu with rfl | hu
     · exact ⟨hb,hn⟩
     · have:=h5 u hu
       refine ⟨this.1,?_⟩
       have h7:=this.2
       rw [lookF_app] at h7
       cases hl:lookF V (nm u) with
       | none=>rfl
       | some d=>rw [hl] at h7;cases h7
   · have h7:=(h5 u hu).2
     rw [lookF_app] at h7
     cases hs:seq (nm u) (nm v) with
     | false=>rfl
     | true=>
      cases hl:lookF V (nm u) with
      | none=>
       rw [hl,lookF,hs] at h7
       cases h7
      | some d=>rw [hl] at h7;cases h7
theorem rG_mk:∀(l:List α) (V:List (ByteArray×Dm)),(∀ v∈l,bad v=false∧lookF V (nm v)=none)→l.Pairwise (fun a b=>seq (nm b) (nm a)=false)→rG bad nm vl V l=some (V++(l.map fun v=>(nm v,vl v)))
 | [],V,_,_=>by rw [rG];simp
 | v::l,V,h,hp=>by
  have hv:=h v (by simp)
  rw [rG,hv.1,cond_false,updF_new _ _ _ hv.2]
  rw [List.pairwise_cons] at hp
  rw [rG_mk l _ (fun u hu=>⟨(h u (by simp [hu])).1,by rw [lookF_app,(h u (by simp [hu])).2,lookF,hp.1 u hu];rfl⟩) hp.2]
  simp
theorem look_less (A B:List α) (v:α) (hp:(A++v::B).Pairwise (fun a b=>seq (nm b) (nm a)=false)) (s:ByteArray) :
 lookF ((A++B).map fun v=>(nm v,vl v)) s=bif seq s (nm v) then none else lookF ((A++v::B).map fun v=>(nm v,vl v)) s:=by
 rw [List.pairwise_append] at hp
 obtain ⟨_,hB,hAB⟩:=hp
 rw [List.pairwise_cons] at hB
 cases hs:seq s (nm v) with
 | true=>
  have e:=seq_eq hs
  subst e
  rw [cond_true]
  refine look_none _ _ (fun w hw=>?_)
  rcases List.mem_append.1 hw with hw | hw
  · exact hAB w hw v (by simp)
  · rw [seq_comm];exact hB.1 w hw
 | false=>
  rw [cond_false,List.map_append,List.map_append,lookF_app,lookF_app,List.map_cons]
  congr 1
  show _=(bif seq s (nm v) then _ else _)
  rw [hs,cond_false]
end
structure Right2 (vs:List Vr) (ms:List Tb):Prop where
 v:∀ v∈vs,(!isName v.name||isWord v.name||!dRight v.d)=false
 vp:vs.Pairwise (fun a b=>seq b.name a.name=false)
 t:∀ t∈ms,tbad (vs.map fun v=>(v.name,v.d)) t=false
 tp:ms.Pairwise (fun a b=>seq b.name a.name=false)
theorem readF_char {vs:List Vr} {ms:List Tb} {p:List (ByteArray×Dm)×List (ByteArray×Dm)} (h:readF vs ms=some p):Right2 vs ms∧p=(vs.map (fun v=>(v.name,v.d)),ms.map (fun t=>(t.name,tval t))):=by
 unfold readF at h
 cases hV:rV [] vs with
 | none=>rw [hV] at h;cases h
 | some W=>
  rw [hV] at h
  simp only at h
  cases hT:rT W [] ms with
  | none=>rw [hT] at h;cases h
  | some X=>
   rw [hT] at h
   simp only at h
   cases hd:(decide ((W.length:Int)=vs.length)&&decide ((X.length:Int)=ms.length)) with
   | false=>rw [hd] at h;cases h
   | true=>
    rw [hd] at h
    cases h
    rw [Bool.and_eq_true,decide_eq_true_iff,decide_eq_true_iff] at hd
    rw [rV_rG] at hV
    rw [rT_rG] at hT
    obtain ⟨a1,a2,a3⟩:=rG_char _ _ _ hV (by simp;omega)
    obtain ⟨b1,b2,b3⟩:=rG_char _ _ _ hT (by simp;omega)
    rw [List.nil_append] at a1 b1
    subst a1;subst b1
    exact ⟨⟨fun v hv=>(a2 v hv).1,a3,fun t ht=>(b2 t ht).1,b3⟩,rfl⟩
theorem readF_mk {vs:List Vr} {ms:List Tb} (h:Right2 vs ms):readF vs ms=some (vs.map (fun v=>(v.name,v.d)),ms.map (fun t=>(t.name,tval t))):=by
 unfold readF
 rw [rV_rG,rG_mk _ _ (fun v hv=>⟨h.v v hv,rfl⟩) h.vp]
 simp only [List.nil_append]
 rw [rT_rG,rG_mk _ _ (fun t ht=>⟨h.t t ht,rfl⟩) h.tp]
 simp only [List.nil_append,List.length_map,decide_true,Bool.and_self,cond_true]
theorem tbad_less {vs vs':List Vr} {t:Tb} (hsub:∀ v∈vs',v∈vs) (h:tbad (vs.map fun v=>(v.name,v.d)) t=false):tbad (vs'.map fun v=>(v.name,v.d)) t=false:=by
 unfold tbad at h ⊢
 simp only [Bool.or_eq_false_iff] at h ⊢
 refine ⟨⟨⟨?_,h.1.1.2⟩,h.1.2⟩,h.2⟩
 have h1:lookF (vs.map fun v=>(v.name,v.d)) t.name=none:=by
  cases hl:lookF (vs.map fun v=>(v.name,v.d)) t.name with
  | none=>rfl
  | some d=>rw [hl] at h;exact absurd h.1.1.1 (by simp)
 rw [look_none t.name vs' (fun v hv=>none_look h1 v (hsub v hv))]
 rfl
theorem Right2.less {vs vs':List Vr} {ms ms':List Tb} (h:Right2 vs ms) (hv:vs'.Sublist vs) (ht:ms'.Sublist ms):Right2 vs' ms':=
 ⟨fun v hv'=>h.v v (hv.subset hv'),h.vp.sublist hv,fun t ht'=>tbad_less (fun _ hv'=>hv.subset hv') (h.t t (ht.subset ht')),h.tp.sublist ht⟩
theorem ofF_ok {x:Ex} {vs:List Vr} {ms:List Tb} (h:(ofF x vs ms).2=0):(!exRight x||x.hasCall)=false∧x.shaped=true∧Right2 vs ms∧(x.ty (vs.map fun v=>(v.name,v.d)) (ms.map fun t=>(t.name,tval t))).2=0:=by
 unfold ofF at h
 cases hb:(!exRight x||x.hasCall) with
 | true=>rw [hb] at h;cases h
 | false=>
  rw [hb,cond_false] at h
  cases hr:readF vs ms with
  | none=>rw [hr] at h;cases h
  | some p=>
   rw [hr] at h
   obtain ⟨h1,rfl⟩:=readF_char hr
   rw [Bool.or_eq_false_iff,Bool.not_eq_false'] at hb
   have hs:=hb.1
   unfold exRight at hs
   rw [Bool.and_eq_true] at hs
   exact ⟨rfl,hs.2,h1,h⟩
theorem ofF_mk {x:Ex} {vs:List Vr} {ms:List Tb} (hb:(!exRight x||x.hasCall)=false) (h:Right2 vs ms):ofF x vs ms=x.ty (vs.map fun v=>(v.name,v.d)) (ms.map fun t=>(t.name,tval t)):=by
 unfold ofF
 rw [hb,cond_false,readF_mk h]
theorem any_no (l:List Ex):l.any (fun _=>false)=false:=by
 rw [List.any_eq_false];intro x _;simp
theorem lawNames2 (x:Ex) (vs:List Vr) (ms:List Tb) (v:Vr) (w:Tb) (h:(ofF x vs ms).2=0):ofF x (vs++[v]) (ms++[w])=ofF x vs ms∨(ofF x (vs++[v]) (ms++[w])).2=1:=by
 obtain ⟨h1,h2,h3,h4⟩:=ofF_ok h
 cases hr:readF (vs++[v]) (ms++[w]) with
 | none=>right;unfold ofF;rw [h1,hr];rfl
 | some p=>
  left
  obtain ⟨h5,rfl⟩:=readF_char hr
  rw [ofF_mk h1 h5,ofF_mk h1 h3]
  have:=ty_change (vs.map fun v=>(v.name,v.d)) (ms.map fun t=>(t.name,tval t)) ((vs++[v]).map fun v=>(v.name,v.d)) ((ms++[w]).map fun t=>(t.name,tval t)) (fun _=>false) (fun _=>false) (fun _=>false)
   (fun y=>by rw [any_no];simp) (fun s d hs=>by rw [List.map_append,lookF_app,hs];rfl) (fun s d hs=>by rw [List.map_append,lookF_app,hs];rfl) x h2 h4
  exact this
theorem split_at {α:Type} [Inhabited α] (l:List α) (i:Nat) (hi:i<l.length):l=l.take i++l.getD i default::l.drop (i+1):=by
 conv=>lhs;rw [←List.take_append_drop i l,drop_getD hi]
theorem less_sub {α:Type} (l:List α) (i:Nat):(l.take i++l.drop (i+1)).Sublist l:=by
 have h:=List.Sublist.append (List.Sublist.refl (l.take i)) (List.drop_sublist_drop_left l (Nat.le_succ i))
 rwa [List.take_append_drop] at h
theorem lawNames3 (x:Ex) (vs:List Vr) (ms:List Tb) (h:(ofF x vs ms).2=0) (i:Nat) (hi:i<vs.length):ofF x (vs.take i++vs.drop (i+1)) ms=bif x.has 1 (vs.getD i default).name then (Ty.zero,11) else ofF x vs ms:=by
 obtain ⟨h1,h2,h3,h4⟩:=ofF_ok h
 rw [ofF_mk h1 (h3.less (less_sub vs i) (List.Sublist.refl _)),ofF_mk h1 h3]
 have hs:=split_at vs i hi
 refine ty_change _ _ _ _ (fun s=>seq s (vs.getD i default).name) (fun _=>false) (Ex.has 1 (vs.getD i default).name) (fun y=>by rw [Ex.has_eq];simp) (fun s d hd=>?_) (fun s d hd=>hd) x h2 h4
 have hp:=h3.vp
 rw [hs] at hp
 rw [look_less (nm:=Vr.name) (vl:=Vr.d) _ _ _ hp s,←hs,hd]
theorem lawNames4 (x:Ex) (vs:List Vr) (ms:List Tb) (h:(ofF x vs ms).2=0) (i:Nat) (hi:i<ms.length):ofF x vs (ms.take i++ms.drop (i+1))=bif x.has 2 (ms.getD i default).name then (Ty.zero,11) else ofF x vs ms:=by
 obtain ⟨h1,h2,h3,h4⟩:=ofF_ok h
 rw [ofF_mk h1 (h3.less (List.Sublist.refl _) (less_sub ms i)),ofF_mk h1 h3]
 have hs:=split_at ms i hi
 refine ty_change _ _ _ _ (fun _=>false) (fun s=>seq s (ms.getD i default).name) (Ex.has 2 (ms.getD i default).name) (fun y=>by rw [Ex.has_eq];simp) (fun s d hd=>hd) (fun s d hd=>?_) x h2 h4
 have hp:=h3.tp
 rw [hs] at hp
 rw [look_less (nm:=Tb.name) (vl:=tval) _ _ _ hp s,←hs,hd]
end Go.Hp.T
