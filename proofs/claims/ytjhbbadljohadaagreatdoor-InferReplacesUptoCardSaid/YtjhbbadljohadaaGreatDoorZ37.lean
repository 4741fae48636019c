/- The proof, part Z37: Qa, Qb, Qc, Qd, Qe. -/
import Derived.Test.YtjhbbadljohadaaGreatDoorZ30
import Derived.Test.YtjhbbadljohadaaGreatDoorZ36
namespace Go.Hp.T
open Go Go.RowKit Go.Slot Go.Hp Go.Slot.T
open Go.Proofs.Tryz (prog)
set_option maxRecDepth 10000
set_option maxHeartbeats 4000000
variable {Γ:List (Nat×List Cell)}
theorem lt_succ' {p:Nat→Prop} {i:Nat} (h:∀ j,j<i→p j) (hi:p i):∀ j,j<i+1→p j:=fun j hj=>by
 rcases Nat.lt_or_eq_of_le (Nat.le_of_lt_succ hj) with h2 | h2
 · exact h j h2
 · rw [h2];exact hi
theorem rLetter (c:Int):CallsD Γ prog 77 [.one (c8 c)] (.one (cB (isLetter c))):=by
 refine CallsD.run [] Go.Proofs.Tryz.func77 rfl rfl rfl ?_;simp only [Go.Proofs.Tryz.f77];refine hgR ?_
 repeat' ((first | refine hfk ?_ ?_<;>intros | refine hik ?_)<;>refine hgS ?_)
 all_goals (refine RLe.ofEq ?_;conv=>simp only [Bool.and_true,Bool.true_and,Bool.and_false,Bool.false_and,Bool.or_true,Bool.true_or,Bool.or_false,Bool.false_or,Bool.not_true,Bool.not_false,decide_true,decide_false,not_true_eq_false,not_false_eq_true,bnot_decide,if_true,if_false,Bool.and_self,Bool.or_self,cond_true,cond_false,List.length_map,ne_eq,Int.reduceEq,Int.reduceLT,Int.reduceLE, *,isLetter]);first | exact trivial | rfl
theorem rDigit (c:Int):CallsD Γ prog 78 [.one (c8 c)] (.one (cB (isDigit c))):=by
 refine CallsD.run [] Go.Proofs.Tryz.func78 rfl rfl rfl ?_;simp only [Go.Proofs.Tryz.f78];refine hgR ?_
 repeat' ((first | refine hfk ?_ ?_<;>intros | refine hik ?_)<;>refine hgS ?_)
 all_goals (refine RLe.ofEq ?_;conv=>simp only [Bool.and_true,Bool.true_and,Bool.and_false,Bool.false_and,Bool.or_true,Bool.true_or,Bool.or_false,Bool.false_or,Bool.not_true,Bool.not_false,decide_true,decide_false,not_true_eq_false,not_false_eq_true,bnot_decide,if_true,if_false,Bool.and_self,Bool.or_self,cond_true,cond_false,List.length_map,ne_eq,Int.reduceEq,Int.reduceLT,Int.reduceLE, *,isDigit]);first | exact trivial | rfl
theorem plain_no {c:Int} (h:c<32∨126<c):isPlain c=false:=by
 unfold isPlain
 rcases h with h | h
 · rw [decide_eq_false (show ¬32≤c by omega)];rfl
 · rw [decide_eq_false (show ¬c≤126 by omega),Bool.and_false]
theorem plain_yes {c:Int} (h:¬c<32) (h':¬126<c):isPlain c=true:=by
 unfold isPlain
 rw [decide_eq_true (show 32≤c by omega),decide_eq_true (show c≤126 by omega)];rfl
theorem quote_no {s:ByteArray} {i:Nat} (hi:i<s.size) (hj:∀ j,j<i→isPlain (byteAt s j)=true) (h:isPlain (byteAt s i)=false):isQuote s=false:=by
 unfold isQuote
 rw [spanF_eq (by omega) hj (.inr h),decide_eq_true (show ¬((i:Int)=s.size) by omega),Bool.or_true];rfl
theorem quote_yes {s:ByteArray} (hj:∀ j,j<s.size→isPlain (byteAt s j)=true):isQuote s=decide ((s.size:Int)≤400):=by
 unfold isQuote
 rw [spanF_eq (Nat.le_refl _) hj (.inl rfl),decide_eq_false (show ¬¬((s.size:Int)=s.size) from fun h=>h rfl),Bool.or_false]
 by_cases h:(s.size:Int)≤400
 · rw [decide_eq_true h,decide_eq_false (show ¬400<(s.size:Int) by omega)];rfl
 · rw [decide_eq_false h,decide_eq_true (show 400<(s.size:Int) by omega)];rfl
theorem rValue (s:ByteArray) (hs:s.size≤1073741824):CallsD Γ prog 127 [.one (cS s)] (.one (cB (isQuote s))):=by
 refine CallsD.run [] Go.Proofs.Tryz.func127 rfl rfl rfl ?_;simp only [Go.Proofs.Tryz.f127];refine hgR ?_
 refine hloop [0] (fun n:Nat=>[(3,.one (.dat (cI n)))]) (fun _=>[]) (fun n=>n≤s.size∧∀ j,j<n→isPlain (byteAt s j)=true) (fun n=>s.size-n) 0 ⟨Nat.zero_le _,fun j hj=>by omega⟩ ?_ ?_
 · refine hg ?_
   exact StH.same (by repeat' first | exact .nil | refine .cons (by first | exact .refl _ | exact .any _) ?_) rfl
 intro n hn
 obtain ⟨hn,hj⟩:=hn
 refine hg ?_
 repeat' ((first | refine hfk ?_ ?_<;>intros | refine hik ?_)<;>refine hgS ?_)
 · rw [quote_no (by omega) hj (plain_no (.inr (by assumption)))]
   exact RLe.ofEq rfl
 · refine ⟨n+1,⟨by omega,lt_succ' hj (plain_yes (by assumption) (by assumption))⟩,by omega,StH.same (by repeat' first | exact .nil | refine .cons (by first | exact .refl _ | exact .any _) ?_) rfl⟩
 · rw [quote_no (by omega) hj (plain_no (.inl (by assumption)))]
   exact RLe.ofEq rfl
 · have e:n=s.size:=by omega
   subst e
   rw [quote_yes hj]
   exact RLe.ofEq rfl
theorem name_no {s:ByteArray} {i:Nat} (hi:i<s.size) (hj:∀ j,j<i→isInner (byteAt s j)=true) (h:isInner (byteAt s i)=false):isName s=false:=by
 unfold isName
 rw [spanF_eq (by omega) hj (.inr h),decide_eq_false (show ¬((i:Int)=s.size) by omega),Bool.and_false]
theorem name_long {s:ByteArray} (h:¬(s.size:Int)≤20):isName s=false:=by
 unfold isName
 rw [decide_eq_false h,Bool.and_false,Bool.false_and]
theorem inner_letter {c:Int} (h:isLetter c=true):isInner c=true:=by unfold isInner;rw [h];rfl
theorem rName (s:ByteArray) (hs:s.size≤1073741824):CallsD Γ prog 45 [.one (cS s)] (.one (cB (isName s))):=by
 refine CallsD.run [] Go.Proofs.Tryz.func45 rfl rfl rfl ?_;simp only [Go.Proofs.Tryz.f45];refine hgR ?_
 repeat' ((first | refine hfk ?_ ?_<;>intros | refine hik ?_ | with_reducible first | refine hcall (rLetter _) ?_ | refine hcalle (rLetter _) ?_)<;>refine hgS ?_)
 · exact RLe.ofEq (by unfold isName;simp [*])
 · rename_i h1 _ h2 _ h3
   refine hloop [0] (fun n:Nat=>[(3,.one (.dat (cI n)))]) (fun _=>[]) (fun n=>n≤s.size∧0<n∧∀ j,j<n→isInner (byteAt s j)=true) (fun n=>s.size-n) 1 ⟨by omega,by omega,fun j hj=>?_⟩ ?_ ?_
   · have e:j=0:=by omega
     subst e;exact inner_letter h3
   · refine hg ?_
     exact StH.same (by repeat' first | exact .nil | refine .cons (by first | exact .refl _ | exact .any _) ?_) rfl
   intro n hn
   obtain ⟨hn,hn0,hj⟩:=hn
   refine hg ?_
   repeat' ((first | refine hfk ?_ ?_<;>intros | refine hik ?_ | with_reducible first | refine hcall (rLetter _) ?_ | refine hcalle (rLetter _) ?_ | refine hcall (rDigit _) ?_ | refine hcalle (rDigit _) ?_)<;>refine hgS ?_)
   · rename_i h4 h5 h6 _
     rw [name_no (by omega) hj (by unfold isInner;rw [h4,h5,decide_eq_false h6];rfl)]
     exact RLe.ofEq rfl
   · rename_i h6 _
     exact ⟨n+1,⟨by omega,by omega,lt_succ' hj (by unfold isInner;rw [decide_eq_true (show byteAt s n=95 by omega),Bool.or_true])⟩,by omega,StH.same (by repeat' first | exact .nil | refine .cons (by first | exact .refl _ | exact .any _) ?_) rfl⟩
   · rename_i h5
     exact ⟨n+1,⟨by omega,by omega,lt_succ' hj (by unfold isInner;rw [h5,Bool.or_true,Bool.true_or])⟩,by omega,StH.same (by repeat' first | exact .nil | refine .cons (by first | exact .refl _ | exact .any _) ?_) rfl⟩
   · rename_i h4
     exact ⟨n+1,⟨by omega,by omega,lt_succ' hj (inner_letter h4)⟩,by omega,StH.same (by repeat' first | exact .nil | refine .cons (by first | exact .refl _ | exact .any _) ?_) rfl⟩
   · have e:n=s.size:=by omega
     subst e
     have e:isName s=true:=by
      unfold isName
      rw [spanF_eq (Nat.le_refl _) hj (.inl rfl),h3,decide_eq_true (show ¬s.size=0 by omega),decide_eq_true (show (s.size:Int)≤20 by omega),decide_eq_true rfl];rfl
     rw [e]
     exact RLe.ofEq rfl
 · rw [name_long (by omega)];exact RLe.ofEq rfl
 · rename_i h _
   have e:s.size=0:=by omega
   exact RLe.ofEq (by unfold isName;rw [e];rfl)
def rEs (s:ByteArray):Nat→ByteArray
 | 0=>⟨#[34]⟩
 | i+1=>(bif decide (byteAt s i=34)||decide (byteAt s i=92) then rEs s i++⟨#[92]⟩ else rEs s i)++s.extract i (i+1)
theorem rEs_succ (s:ByteArray) (i:Nat):rEs s (i+1)=(bif decide (byteAt s i=34)||decide (byteAt s i=92) then rEs s i++⟨#[92]⟩ else rEs s i)++s.extract i (i+1):=by rw [rEs]
theorem rEs_len (s:ByteArray):∀ i,(rEs s i).size≤2*i+1
 | 0=>by unfold rEs;decide
 | i+1=>by
  have:=rEs_len s i
  have h2:(⟨#[92]⟩:ByteArray).size=1:=rfl
  have h3:(s.extract i (i+1)).size≤1:=by rw [ByteArray.size_extract];omega
  unfold rEs
  cases decide (byteAt s i=34)||decide (byteAt s i=92)<;>simp only [cond_true,cond_false,ByteArray.size_append]<;>omega
theorem rEscaped (s:ByteArray) (hs:s.size≤1073741824):CallsD Γ prog 128 [.one (cS s)] (.one (cS (rEs s s.size++⟨#[34]⟩))):=by
 refine CallsD.run [] Go.Proofs.Tryz.func128 rfl rfl rfl ?_;simp only [Go.Proofs.Tryz.f128];refine hgR ?_
 refine hloop [0] (fun n:Nat=>[(3,.one (.dat (cS (rEs s n)))),(4,.one (.dat (cI n)))]) (fun _=>[]) (fun n=>n≤s.size) (fun n=>s.size-n) 0 (Nat.zero_le _) ?_ ?_
 · refine hg ?_
   exact StH.same (by repeat' first | exact .nil | refine .cons (by first | exact .refl _ | exact .any _) ?_) rfl
 intro n hn
 have hl:=rEs_len s n
 have h3:(s.extract n (n+1)).size≤1:=by rw [ByteArray.size_extract];omega
 have h4:(rEs s n).size+1+(s.extract n (n+1)).size≤9223372036854775807:=by omega
 have h5:(rEs s n).size+(s.extract n (n+1)).size≤9223372036854775807:=by omega
 clear h3 hl
 refine hg ?_
 repeat' ((first | refine hfk ?_ ?_<;>intros | refine hik ?_)<;>refine hgS ?_)
 · rename_i _ _ h6 _
   have e:rEs s n++⟨#[92]⟩++s.extract n (n+1)=rEs s (n+1):=by rw [rEs_succ,decide_eq_true h6,Bool.or_true];rfl
   rw [e]
   exact ⟨n+1,by omega,by omega,StH.same (by repeat' first | exact .nil | refine .cons (by first | exact .refl _ | exact .any _) ?_) rfl⟩
 · rename_i h7 _ h6 _
   have e:rEs s n++s.extract n (n+1)=rEs s (n+1):=by rw [rEs_succ,decide_eq_false h6,decide_eq_false h7];rfl
   rw [e]
   exact ⟨n+1,by omega,by omega,StH.same (by repeat' first | exact .nil | refine .cons (by first | exact .refl _ | exact .any _) ?_) rfl⟩
 · rename_i h7 _
   have e:rEs s n++⟨#[92]⟩++s.extract n (n+1)=rEs s (n+1):=by rw [rEs_succ,decide_eq_true h7,Bool.true_or];rfl
   rw [e]
   exact ⟨n+1,by omega,by omega,StH.same (by repeat' first | exact .nil | refine .cons (by first | exact .refl _ | exact .any _) ?_) rfl⟩
 · have e:n=s.size:=by omega
   subst e
   exact RLe.ofEq rfl
theorem rQuote (s:ByteArray) (hs:s.size≤1073741824):∃ t,CallsD Γ prog 97 [.one (cS s)] (.tup [.one (cS t),.one (cB (isQuote s))]):=by
 refine ⟨bif isQuote s then rEs s s.size++⟨#[34]⟩ else ⟨#[]⟩,?_⟩
 refine CallsD.run [] Go.Proofs.Tryz.func97 rfl rfl rfl ?_;simp only [Go.Proofs.Tryz.f97];refine hgR ?_
 repeat' ((first | refine hfk ?_ ?_<;>intros | refine hik ?_ | with_reducible first | refine hcall (rValue s hs) ?_ | refine hcalle (rValue s hs) ?_ | refine hcall (rEscaped s hs) ?_ | refine hcalle (rEscaped s hs) ?_)<;>refine hgS ?_)
 all_goals (refine RLe.ofEq ?_;conv=>simp only [Bool.and_true,Bool.true_and,Bool.and_false,Bool.false_and,Bool.or_true,Bool.true_or,Bool.or_false,Bool.false_or,Bool.not_true,Bool.not_false,decide_true,decide_false,not_true_eq_false,not_false_eq_true,bnot_decide,if_true,if_false,Bool.and_self,Bool.or_self,cond_true,cond_false,List.length_map,ne_eq,Int.reduceEq,Int.reduceLT,Int.reduceLE, *,cond_true,cond_false]);first | exact trivial | rfl
end Go.Hp.T

namespace Go.Hp.T
open Go Go.RowKit Go.Slot Go.Hp Go.Slot.T
open Go.Proofs.Tryz (prog)
set_option maxRecDepth 10000
set_option maxHeartbeats 4000000
variable {Γ:List (Nat×List Cell)}
def fillS (place:Nat→Option (Nat×Nat)) (cs:List HC) (ps:List (Nat×SV)):Option (List HC):=fillH place cs ps
def fill1 (place:Nat→Option (Nat×Nat)) (cs:List HC) (r:List (Nat×SV)) (a:Option (Nat×Nat)) (b:Option (List HC)):Option (List HC):=match a,b with
 | some (off,size),some us=>if us.length=size∧off+size≤cs.length then fillH place (cs.take off++us++cs.drop (off+size)) r else none
 | _,_=>none
def fill2 (place:Nat→Option (Nat×Nat)) (cs:List HC) (r:List (Nat×SV)) (b:Bool):Option (List HC):=bif b then fillH place cs r else none
theorem fillS_in {place:Nat→Option (Nat×Nat)} {cs:List HC} {ps:List (Nat×SV)}:fillH place cs ps=fillS place cs ps:=rfl
theorem fillS_nil {place:Nat→Option (Nat×Nat)} {cs:List HC}:fillS place cs []=some cs:=rfl
theorem fillS_cons {place:Nat→Option (Nat×Nat)} {cs:List HC} {i:Nat} {x:SV} {r:List (Nat×SV)}:fillS place cs ((i,x)::r)=fill1 place cs r (place i) (cellsH x):=by
 unfold fillS;rw [fillH];rfl
theorem nat_beq {a b:Nat}:Nat.beq a b=decide (a=b):=by rw [Bool.eq_iff_iff,decide_eq_true_iff,Nat.beq_eq]
theorem nat_ble {a b:Nat}:Nat.ble a b=decide (a≤b):=by rw [Bool.eq_iff_iff,decide_eq_true_iff,Nat.ble_eq]
theorem nat_ble_t {a b:Nat} (h:a≤b):Nat.ble a b=true:=Nat.ble_eq_true_of_le h
theorem fill1_go {place:Nat→Option (Nat×Nat)} {cs us:List HC} {off size:Nat} {r:List (Nat×SV)}:fill1 place cs r (some (off,size)) (some us)=fill2 place (cs.take off++(us++cs.drop (off+size))) r (Nat.beq us.length size&&Nat.ble (off+size) cs.length):=by
 rw [←List.append_assoc]
 show (if us.length=size∧off+size≤cs.length then fillH place (cs.take off++us++cs.drop (off+size)) r else none)=_
 rw [nat_beq,nat_ble]
 by_cases h1:us.length=size
 · by_cases h2:off+size≤cs.length
   · rw [if_pos ⟨h1,h2⟩,decide_eq_true h1,decide_eq_true h2];rfl
   · rw [if_neg (fun h=>h2 h.2),decide_eq_false h2,Bool.and_false];rfl
 · rw [if_neg (fun h=>h1 h.1),decide_eq_false h1];rfl
theorem fill2_t {place:Nat→Option (Nat×Nat)} {cs:List HC} {r:List (Nat×SV)}:fill2 place cs r true=fillS place cs r:=rfl
attribute [go_sem ↓ 30000] fillS_in
attribute [go_sem] fillS_nil fillS_cons fill1_go fill2_t nat_beq nat_ble_t
theorem n12:((12:Nat):Int)=12:=rfl
attribute [go_sem] n12
theorem isWord_flip (s:ByteArray):isWord s=(seq ⟨#[110,111,116]⟩ s||seq ⟨#[105,102]⟩ s||seq ⟨#[116,104,101,110]⟩ s||seq ⟨#[101,108,115,101]⟩ s||seq ⟨#[97,110,100]⟩ s||seq ⟨#[111,114]⟩ s||seq ⟨#[108,111,111,107]⟩ s||seq ⟨#[109,105,110]⟩ s||seq ⟨#[109,97,120]⟩ s||seq ⟨#[105,110,116,111]⟩ s||seq ⟨#[116,111]⟩ s||seq ⟨#[97,115]⟩ s):=by
 unfold isWord
 simp only [@seq_comm s]
theorem rWord (s:ByteArray):CallsD Γ prog 46 [.one (cS s)] (.one (cB (isWord s))):=by
 rw [isWord_flip]
 refine CallsD.run [] Go.Proofs.Tryz.func46 rfl rfl rfl ?_;simp only [Go.Proofs.Tryz.f46];refine hgR ?_
 repeat' ((first | refine hfk ?_ ?_<;>intros | refine hik ?_ | with_reducible refine hunroll ?_ | with_reducible refine hround ?_)<;>refine hgS ?_)
 all_goals (refine RLe.ofEq ?_;conv=>simp only [Bool.and_true,Bool.true_and,Bool.and_false,Bool.false_and,Bool.or_true,Bool.true_or,Bool.or_false,Bool.false_or,Bool.not_true,Bool.not_false,decide_true,decide_false,not_true_eq_false,not_false_eq_true,bnot_decide,if_true,if_false,Bool.and_self,Bool.or_self,cond_true,cond_false,List.length_map,ne_eq,Int.reduceEq,Int.reduceLT,Int.reduceLE, *]);first | exact trivial | rfl
def arityF (o:Int):Int:=bif decide (o=0)||decide (o=1) then 0 else bif decide (o=2)||decide (o=4) then 1 else bif decide (o=5) then 3 else bif decide (o=6)||decide (o=7)||decide (o=8)||decide (o=9)||decide (o=10)||decide (o=11)||decide (o=12)||decide (o=13)||decide (o=14)||decide (o=15) then 2 else -1
theorem rArity (o:Int):CallsD Γ prog 99 [.one (cI o)] (.one (cI (arityF o))):=by
 refine CallsD.run [] Go.Proofs.Tryz.func99 rfl rfl rfl ?_;simp only [Go.Proofs.Tryz.f99];refine hgR ?_
 repeat' ((first | refine hfk ?_ ?_<;>intros | refine hik ?_)<;>refine hgS ?_)
 all_goals (refine RLe.ofEq ?_;conv=>simp only [Bool.and_true,Bool.true_and,Bool.and_false,Bool.false_and,Bool.or_true,Bool.true_or,Bool.or_false,Bool.false_or,Bool.not_true,Bool.not_false,decide_true,decide_false,not_true_eq_false,not_false_eq_true,bnot_decide,if_true,if_false,Bool.and_self,Bool.or_self,cond_true,cond_false,List.length_map,ne_eq,Int.reduceEq,Int.reduceLT,Int.reduceLE, *,arityF,cond_true,cond_false]);first | exact trivial | rfl
theorem rNamed (s:ByteArray) (hs:s.size≤1073741824):CallsD Γ prog 98 [.one (cS s)] (.one (cB (isNamed s))):=by
 refine CallsD.run [] Go.Proofs.Tryz.func98 rfl rfl rfl ?_;simp only [Go.Proofs.Tryz.f98];refine hgR ?_
 repeat' ((first | refine hfk ?_ ?_<;>intros | refine hik ?_ | with_reducible first | refine hcall (rName s hs) ?_ | refine hcalle (rName s hs) ?_ | refine hcall (rWord s) ?_ | refine hcalle (rWord s) ?_)<;>refine hgS ?_)
 all_goals (refine RLe.ofEq ?_;conv=>simp only [Bool.and_true,Bool.true_and,Bool.and_false,Bool.false_and,Bool.or_true,Bool.true_or,Bool.or_false,Bool.false_or,Bool.not_true,Bool.not_false,decide_true,decide_false,not_true_eq_false,not_false_eq_true,bnot_decide,if_true,if_false,Bool.and_self,Bool.or_self,cond_true,cond_false,List.length_map,ne_eq,Int.reduceEq,Int.reduceLT,Int.reduceLE, *,isNamed]);first | exact trivial | rfl
def rNode (x:Ex):Bool:=
 bif decide (x.op=0) then isQuote x.unit&&decide (0≤x.n)&&decide (x.n≤1099511627776)&&decide (x.name.size=0)&&decide ((x.args.length:Int)=0) else
 bif decide (¬x.n=0)||decide (¬x.unit.size=0) then false else
 bif decide (x.op=3) then isNamed x.name&&decide (1≤(x.args.length:Int))&&decide ((x.args.length:Int)≤6) else
 bif decide (x.op=1)||decide (x.op=2) then isNamed x.name&&decide ((x.args.length:Int)=arityF x.op) else
 decide (x.name.size=0)&&decide (0<(x.args.length:Int))&&decide ((x.args.length:Int)=arityF x.op)
theorem rNodeC (x:Ex) (hx:x.Sm):CallsD Γ prog 65 [.agg (exC x)] (.one (cB (rNode x))):=by
 have hu:=hx.u
 have hs:=hx.s
 have hl:=hx.len
 obtain ⟨q,hq⟩:∃ q,CallsD Γ prog 97 [.one (cS x.unit)] (.tup [.one (cS q),.one (cB (isQuote x.unit))]):=rQuote x.unit hu
 refine CallsD.run [] Go.Proofs.Tryz.func65 rfl rfl rfl ?_;simp only [Go.Proofs.Tryz.f65];refine hgR ?_
 repeat' ((first | refine hfk ?_ ?_<;>intros | refine hik ?_ | with_reducible first | refine hcall (hq) ?_ | refine hcalle (hq) ?_ | refine hcall (rNamed x.name hs) ?_ | refine hcalle (rNamed x.name hs) ?_ | refine hcall (rArity _) ?_ | refine hcalle (rArity _) ?_)<;>refine hgS ?_)
 all_goals (refine RLe.ofEq ?_;conv=>simp only [Bool.and_true,Bool.true_and,Bool.and_false,Bool.false_and,Bool.or_true,Bool.true_or,Bool.or_false,Bool.false_or,Bool.not_true,Bool.not_false,decide_true,decide_false,not_true_eq_false,not_false_eq_true,bnot_decide,if_true,if_false,Bool.and_self,Bool.or_self,cond_true,cond_false,List.length_map,ne_eq,Int.reduceEq,Int.reduceLT,Int.reduceLE, *,rNode]);first | exact trivial | rfl
mutual
def Ex.rsh:Ex→Bool
 | .mk o n u s l=>rNode (.mk o n u s l)&&Ex.rshL l
def Ex.rshL:List Ex→Bool
 | []=>true
 | y::l=>Ex.rsh y&&Ex.rshL l
end
theorem Ex.rshL_all:∀ l:List Ex,Ex.rshL l=l.all Ex.rsh
 | []=>by rw [Ex.rshL];rfl
 | y::l=>by rw [Ex.rshL,Ex.rshL_all l];rfl
theorem Ex.rsh_eq (x:Ex):x.rsh=(rNode x&&x.args.all Ex.rsh):=by cases x;rw [Ex.rsh,Ex.rshL_all];rfl
theorem all_true {p:Ex→Bool} {l:List Ex} (h:∀ j,j<l.length→p (l.getD j default)=true):l.all p=true:=by
 rw [List.all_eq_true]
 intro y hy
 obtain ⟨j,hj,rfl⟩:=List.getElem_of_mem hy
 have:=h j hj
 rwa [show l.getD j default=l[j] from by simp [hj]] at this
theorem all_false {p:Ex→Bool} {l:List Ex} {j:Nat} (hj:j<l.length) (h:p (l.getD j default)=false):l.all p=false:=by
 cases e:l.all p with
 | false=>rfl
 | true=>rw [List.all_eq_true.1 e _ (getD_mem hj)] at h;cases h
theorem rShaped:∀ x:Ex,x.Sm→CallsD Γ prog 38 [.agg (exC x)] (.one (cB x.rsh)):=by
 refine Ex.ind (fun x ih hx=>?_)
 have hl:=hx.len
 refine CallsD.run [] Go.Proofs.Tryz.func38 rfl rfl rfl ?_;simp only [Go.Proofs.Tryz.f38];refine hgR ?_
 repeat' ((first | refine hfk ?_ ?_<;>intros | refine hik ?_ | with_reducible first | refine hcall (rNodeC x hx) ?_ | refine hcalle (rNodeC x hx) ?_)<;>refine hgS ?_)
 · rename_i h0
   rw [Ex.rsh_eq,h0];exact RLe.ofEq rfl
 · rename_i h0
   refine hloop [1] (fun n:Nat=>[(3,.one (.dat (cI n)))]) (fun _=>[.box ((exC x).map .dat) (some 24)]) (fun n=>n≤x.args.length∧∀ j,j<n→(x.args.getD j default).rsh=true) (fun n=>x.args.length-n) 0 ⟨Nat.zero_le _,fun j hj=>by omega⟩ ?_ ?_
   · refine hg ?_
     exact StH.same (by repeat' first | exact .nil | refine .cons (by first | exact .refl _ | exact .any _) ?_) rfl
   intro n hn
   obtain ⟨hn,hj⟩:=hn
   refine hg ?_
   repeat' ((first | refine hfk ?_ ?_<;>intros | refine hik ?_ | with_reducible first | refine hcall (ih _ (getD_mem (show n<x.args.length by omega)) (hx.arg _ (getD_mem (show n<x.args.length by omega)))) ?_ | refine hcalle (ih _ (getD_mem (show n<x.args.length by omega)) (hx.arg _ (getD_mem (show n<x.args.length by omega)))) ?_)<;>refine hgS ?_)
   · rename_i h1
     rw [Ex.rsh_eq,all_false (by omega) h1,Bool.and_false];exact RLe.ofEq rfl
   · rename_i h1
     exact ⟨n+1,⟨by omega,lt_succ' hj h1⟩,by omega,StH.same (by repeat' first | exact .nil | refine .cons (by first | exact .refl _ | exact .any _) ?_) rfl⟩
   · have e:n=x.args.length:=by omega
     subst e
     rw [Ex.rsh_eq,h0,all_true hj];exact RLe.ofEq rfl
mutual
def Ex.rsz:Ex→Int→Int→Int
 | .mk _ _ _ _ l,n,lv=>bif decide (n<1)||decide (lv<1) then -1 else Ex.rszL l n lv 1
def Ex.rszL:List Ex→Int→Int→Int→Int
 | [],_,_,k=>k
 | y::l,n,lv,k=>bif decide (Ex.rsz y (n-k) (lv-1)<0) then -1 else Ex.rszL l n lv (k+Ex.rsz y (n-k) (lv-1))
end
theorem Ex.rsz_eq (x:Ex) (n lv:Int):x.rsz n lv=bif decide (n<1)||decide (lv<1) then -1 else Ex.rszL x.args n lv 1:=by cases x;rw [Ex.rsz];rfl
theorem Ex.rszL_le:∀(l:List Ex),(∀ y∈l,∀ n lv:Int,-1≤y.rsz n lv∧(0≤y.rsz n lv→y.rsz n lv≤n))→∀ n lv k:Int,1≤k→k≤n→-1≤Ex.rszL l n lv k∧(0≤Ex.rszL l n lv k→Ex.rszL l n lv k≤n)
 | [],_,n,lv,k,h1,h2=>by rw [Ex.rszL];omega
 | y::l,h,n,lv,k,h1,h2=>by
  rw [Ex.rszL]
  have hy:=h y (by simp) (n-k) (lv-1)
  generalize y.rsz (n-k) (lv-1)=m at hy
  by_cases hm:m<0
  · rw [decide_eq_true hm];simp only [cond_true];omega
  · rw [decide_eq_false hm]
    exact Ex.rszL_le l (fun z hz=>h z (by simp [hz])) n lv (k+m) (by omega) (by omega)
theorem Ex.rsz_le:∀(x:Ex) (n lv:Int),-1≤x.rsz n lv∧(0≤x.rsz n lv→x.rsz n lv≤n):=by
 refine Ex.ind (fun x ih n lv=>?_)
 rw [Ex.rsz_eq]
 by_cases h1:n<1
 · rw [decide_eq_true h1];simp only [Bool.true_or,cond_true];omega
 · by_cases h2:lv<1
   · rw [decide_eq_true h2];simp only [Bool.or_true,cond_true];omega
   · rw [decide_eq_false h1,decide_eq_false h2]
     exact Ex.rszL_le x.args ih n lv 1 (by omega) (by omega)
theorem rSize:∀ x:Ex,x.Sm→∀ n lv:Int,n≤1000→lv≤1000→0≤n→0≤lv→CallsD Γ prog 27 [.agg (exC x),.one (cI n),.one (cI lv)] (.one (cI (x.rsz n lv))):=by
 refine Ex.ind (fun x ih hx n lv hn hlv hn0 hlv0=>?_)
 have hl:=hx.len
 refine CallsD.run [] Go.Proofs.Tryz.func27 rfl rfl rfl ?_;simp only [Go.Proofs.Tryz.f27];refine hgR ?_
 repeat' ((first | refine hfk ?_ ?_<;>intros | refine hik ?_)<;>refine hgS ?_)
 · rename_i h1 _ h2 _
   exact RLe.ofEq (by rw [Ex.rsz_eq,decide_eq_true h2,Bool.or_true];rfl)
 · rename_i h1 _ h2 _
   have e0:x.rsz n lv=Ex.rszL x.args n lv 1:=by rw [Ex.rsz_eq,decide_eq_false h1,decide_eq_false h2];rfl
   refine hloop [1,2,3] (fun p:Nat×Int=>[(7,.one (.dat (cI p.2))),(8,.one (.dat (cI p.1)))]) (fun _=>[.box ((exC x).map .dat) (some 24)]) (fun p=>p.1≤x.args.length∧1≤p.2∧p.2≤n∧Ex.rszL (x.args.drop p.1) n lv p.2=Ex.rszL x.args n lv 1) (fun p=>x.args.length-p.1) (0,1) ⟨Nat.zero_le _,by simp only;omega,by simp only;omega,rfl⟩ ?_ ?_
   · refine hg ?_
     exact StH.same (by repeat' first | exact .nil | refine .cons (by first | exact .refl _ | exact .any _) ?_) rfl
   rintro ⟨i,k⟩ ⟨hi,hk1,hk2,hc⟩
   simp only at hi hk1 hk2 hc
   refine hg ?_
   refine condD (fun hlt hd=>?_) (fun hlt _=>?_)
   · have hlt':i<x.args.length:=by omega
     have hy:=getD_mem hlt'
     have hcc:=ih _ hy (hx.arg _ hy) (n-k) (lv-1) (by omega) (by omega) (by omega) (by omega)
     have hb:=Ex.rsz_le (x.args.getD i default) (n-k) (lv-1)
     rw [drop_getD hlt',Ex.rszL] at hc
     generalize (x.args.getD i default).rsz (n-k) (lv-1)=m at hcc hb hc
     rw [e0,←hc]
     clear e0 hc
     conv=>simp (maxSteps:=2000000) (disch:=omega) only [go_sem,Nat.reduceAdd,Nat.reduceSub,Nat.reduceMul,Int.reduceToNat,Nat.reduceEqDiff,Nat.reduceBEq,Nat.reduceBneDiff,Nat.reduceLT,Int.reduceEq,Int.reduceLT,Int.reduceLE,Int.reduceNeg,Int.reduceAdd,Int.reduceSub,Int.reduceMul,hd]
     repeat' ((first | refine hfk ?_ ?_<;>intros | refine hik ?_ | with_reducible first | refine hcall (hcc) ?_ | refine hcalle (hcc) ?_)<;>refine hgS ?_)
     · exact RLe.ofEq rfl
     · exact ⟨(i+1,k+m),⟨by simp only;omega,by simp only;omega,by simp only;omega,rfl⟩,by simp only;omega,StH.same (by repeat' first | exact .nil | refine .cons (by first | exact .refl _ | exact .any _) ?_) rfl⟩
   · refine hg ?_
     rw [e0,←hc,List.drop_eq_nil_of_le (by omega),Ex.rszL]
     exact RLe.ofEq rfl
 · rename_i h1 _
   exact RLe.ofEq (by rw [Ex.rsz_eq,decide_eq_true h1];rfl)
theorem rFew (x:Ex) (hx:x.Sm) (n lv:Int) (hn:n≤1000) (hlv:lv≤1000) (hn0:0≤n) (hlv0:0≤lv):CallsD Γ prog 11 [.agg (exC x),.one (cI n),.one (cI lv)] (.one (cB (decide (0≤x.rsz n lv)))):=by
 have h:=rSize (Γ:=Γ) x hx n lv hn hlv hn0 hlv0
 refine CallsD.run [] Go.Proofs.Tryz.func11 rfl rfl rfl ?_;simp only [Go.Proofs.Tryz.f11];refine hgR ?_
 repeat' ((first | refine hfk ?_ ?_<;>intros | refine hik ?_ | with_reducible first | refine hcall (h) ?_ | refine hcalle (h) ?_)<;>refine hgS ?_)
 all_goals exact RLe.ofEq rfl
def rRight (x:Ex):Bool:=decide (0≤x.rsz 200 20)&&x.rsh
theorem rRightC (x:Ex) (hx:x.Sm):CallsD Γ prog 19 [.agg (exC x)] (.one (cB (rRight x))):=by
 have h:=rFew (Γ:=Γ) x hx 200 20 (by decide) (by decide) (by decide) (by decide)
 refine CallsD.run [] Go.Proofs.Tryz.func19 rfl rfl rfl ?_;simp only [Go.Proofs.Tryz.f19];refine hgR ?_
 repeat' ((first | refine hfk ?_ ?_<;>intros | refine hik ?_ | with_reducible first | refine hcall (h) ?_ | refine hcalle (h) ?_ | refine hcall (rShaped x hx) ?_ | refine hcalle (rShaped x hx) ?_)<;>refine hgS ?_)
 all_goals (refine RLe.ofEq ?_;conv=>simp only [Bool.and_true,Bool.true_and,Bool.and_false,Bool.false_and,Bool.or_true,Bool.true_or,Bool.or_false,Bool.false_or,Bool.not_true,Bool.not_false,decide_true,decide_false,not_true_eq_false,not_false_eq_true,bnot_decide,if_true,if_false,Bool.and_self,Bool.or_self,cond_true,cond_false,List.length_map,ne_eq,Int.reduceEq,Int.reduceLT,Int.reduceLE, *,rRight]);first | exact trivial | rfl
mutual
def Ex.short:Ex→Bool
 | .mk _ _ u s l=>Ex.shortL l&&(decide ((s.size:Int)≤30)&&decide ((u.size:Int)≤30))
def Ex.shortL:List Ex→Bool
 | []=>true
 | y::l=>Ex.short y&&Ex.shortL l
end
theorem Ex.shortL_all:∀ l:List Ex,Ex.shortL l=l.all Ex.short
 | []=>by rw [Ex.shortL];rfl
 | y::l=>by rw [Ex.shortL,Ex.shortL_all l];rfl
theorem Ex.short_eq (x:Ex):x.short=(x.args.all Ex.short&&(decide ((x.name.size:Int)≤30)&&decide ((x.unit.size:Int)≤30))):=by cases x;rw [Ex.short,Ex.shortL_all];rfl
theorem rShort:∀ x:Ex,x.Sm→CallsD Γ prog 20 [.agg (exC x)] (.one (cB x.short)):=by
 refine Ex.ind (fun x ih hx=>?_)
 have hl:=hx.len
 refine CallsD.run [] Go.Proofs.Tryz.func20 rfl rfl rfl ?_;simp only [Go.Proofs.Tryz.f20];refine hgR ?_
 refine hloop [1] (fun n:Nat=>[(3,.one (.dat (cI n)))]) (fun _=>[.box ((exC x).map .dat) (some 24)]) (fun n=>n≤x.args.length∧∀ j,j<n→(x.args.getD j default).short=true) (fun n=>x.args.length-n) 0 ⟨Nat.zero_le _,fun j hj=>by omega⟩ ?_ ?_
 · refine hg ?_
   exact StH.same (by repeat' first | exact .nil | refine .cons (by first | exact .refl _ | exact .any _) ?_) rfl
 intro n hn
 obtain ⟨hn,hj⟩:=hn
 refine hg ?_
 repeat' ((first | refine hfk ?_ ?_<;>intros | refine hik ?_ | with_reducible first | refine hcall (ih _ (getD_mem (show n<x.args.length by omega)) (hx.arg _ (getD_mem (show n<x.args.length by omega)))) ?_ | refine hcalle (ih _ (getD_mem (show n<x.args.length by omega)) (hx.arg _ (getD_mem (show n<x.args.length by omega)))) ?_)<;>refine hgS ?_)
 · rename_i h1
   rw [Ex.short_eq,all_false (by omega) h1];exact RLe.ofEq rfl
 · rename_i h1
   exact ⟨n+1,⟨by omega,lt_succ' hj h1⟩,by omega,StH.same (by repeat' first | exact .nil | refine .cons (by first | exact .refl _ | exact .any _) ?_) rfl⟩
 all_goals
  have e:n=x.args.length:=by omega
  subst e
  rw [Ex.short_eq,all_true hj]
  (refine RLe.ofEq ?_;conv=>simp only [Bool.and_true,Bool.true_and,Bool.and_false,Bool.false_and,Bool.or_true,Bool.true_or,Bool.or_false,Bool.false_or,Bool.not_true,Bool.not_false,decide_true,decide_false,not_true_eq_false,not_false_eq_true,bnot_decide,if_true,if_false,Bool.and_self,Bool.or_self,cond_true,cond_false,List.length_map,ne_eq,Int.reduceEq,Int.reduceLT,Int.reduceLE, *]);first | exact trivial | rfl
end Go.Hp.T

namespace Go.Hp.T
open Go Go.RowKit Go.Slot Go.Hp Go.Slot.T
open Go.Proofs.Tryz (prog)
set_option maxRecDepth 10000
set_option maxHeartbeats 4000000
variable {Γ:List (Nat×List Cell)}
def fewX (x:Ex):Bool:=(decide (0≤x.rsz 60 12)||(decide (0≤x.rsz 220 24)&&!rRight x))&&x.short
def vrS (v:Vr):Bool:=decide ((v.name.size:Int)≤30)
def tbS (t:Tb):Bool:=decide ((t.name.size:Int)≤30)&&(decide ((t.unit.size:Int)≤30)&&decide ((t.rows.length:Int)≤8))
def few15 (x:Ex) (vs:List Vr) (ms:List Tb):Bool:=fewX x&&((vs.take 11).all vrS&&((ms.take 6).all tbS&&(decide ((vs.length:Int)≤10)&&decide ((ms.length:Int)≤5))))
theorem takeAll_no {α:Type} [Inhabited α] {p:α→Bool} {l:List α} {n i:Nat} (h1:i<n) (h2:i<l.length) (h:p (l.getD i default)=false):(l.take n).all p=false:=by
 cases e:(l.take n).all p with
 | false=>rfl
 | true=>
  have hm:l.getD i default∈l.take n:=by
   rw [show l.getD i default=l[i] from by simp [h2]]
   exact List.mem_take_iff_getElem.2 ⟨i,by omega,rfl⟩
  rw [List.all_eq_true.1 e _ hm] at h;cases h
theorem takeAll_yes {α:Type} [Inhabited α] {p:α→Bool} {l:List α} {n i:Nat} (hj:∀ j,j<i→p (l.getD j default)=true) (h:i=n∨i=l.length):(l.take n).all p=true:=by
 rw [List.all_eq_true]
 intro y hy
 obtain ⟨j,hj2,rfl⟩:=List.mem_take_iff_getElem.1 hy
 have:=hj j (by omega)
 rwa [show l.getD j default=l[j] from by simp [show j<l.length by omega]] at this
theorem rFew15 (x:Ex) (hx:x.Sm) (vs:List Vr) (ms:List Tb) (hv:vs.length≤1073741824) (_hm:ms.length≤1073741824):CallsD Γ prog 8 [.agg (exC x),.one (.sl 7 (vs.map Vr.C)),.one (.sl 3 (ms.map Tb.C))] (.one (cB (few15 x vs ms))):=by
 have h1:=rFew (Γ:=Γ) x hx 60 12 (by decide) (by decide) (by decide) (by decide)
 have h2:=rFew (Γ:=Γ) x hx 220 24 (by decide) (by decide) (by decide) (by decide)
 have h3:=rRightC (Γ:=Γ) x hx
 have h4:=rShort (Γ:=Γ) x hx
 have hf:fewX x=((decide (0≤x.rsz 60 12)||(decide (0≤x.rsz 220 24)&&!rRight x))&&x.short):=rfl
 generalize decide (0≤x.rsz 60 12)=b1 at h1 hf
 generalize decide (0≤x.rsz 220 24)=b2 at h2 hf
 generalize rRight x=b3 at h3 hf
 generalize x.short=b4 at h4 hf
 generalize hR:few15 x vs ms=R
 refine CallsD.run [] Go.Proofs.Tryz.func8 rfl rfl rfl ?_;simp only [Go.Proofs.Tryz.f8];refine hgR ?_
 repeat' ((first | refine hfk ?_ ?_<;>intros | refine hik ?_ | with_reducible first | refine hcall (h1) ?_ | refine hcalle (h1) ?_ | refine hcall (h2) ?_ | refine hcalle (h2) ?_ | refine hcall (h3) ?_ | refine hcalle (h3) ?_ | refine hcall (h4) ?_ | refine hcalle (h4) ?_)<;>refine hgS ?_)
 all_goals first
  | exact RLe.ofEq (by rw [←hR];unfold few15;rw [hf];simp [*])
  | skip
 all_goals
  have hX:fewX x=true:=by rw [hf];simp [*]
  clear hf h1 h2 h3 h4
  refine hloop [1,2] (fun n:Nat=>[(7,.one (.dat (cI n)))]) (fun _=>[.box ((exC x).map .dat) (some 24)]) (fun n=>n≤vs.length∧n≤11∧∀ j,j<n→vrS (vs.getD j default)=true) (fun n=>vs.length-n) 0 ⟨Nat.zero_le _,Nat.zero_le _,fun j hj=>by omega⟩ ?_ ?_
  · refine hg ?_
    exact StH.same (by repeat' first | exact .nil | refine .cons (by first | exact .refl _ | exact .any _) ?_) rfl
  intro n hn
  obtain ⟨hn,hn2,hj⟩:=hn
  refine hg ?_
  repeat' ((first | refine hfk ?_ ?_<;>intros | refine hik ?_)<;>refine hgS ?_)
  · rename_i h _
    exact RLe.ofEq (by rw [←hR];unfold few15;rw [takeAll_no (i:=n) (by omega) (by omega) (by unfold vrS;exact decide_eq_false (by omega)),hX];rfl)
  · rename_i h _
    exact ⟨n+1,⟨by omega,by omega,lt_succ' hj (by unfold vrS;exact decide_eq_true (by omega))⟩,by omega,StH.same (by repeat' first | exact .nil | refine .cons (by first | exact .refl _ | exact .any _) ?_) rfl⟩
  all_goals
   have hV:(vs.take 11).all vrS=true:=takeAll_yes (i:=n) hj (by omega)
   clear hj
   refine hloop [1,2] (fun n:Nat=>[(8,.one (.dat (cI n)))]) (fun _=>[.box ((exC x).map .dat) (some 24)]) (fun n=>n≤ms.length∧n≤6∧∀ j,j<n→tbS (ms.getD j default)=true) (fun n=>ms.length-n) 0 ⟨Nat.zero_le _,Nat.zero_le _,fun j hj=>by omega⟩ ?_ ?_
   · refine hg ?_
     exact StH.same (by repeat' first | exact .nil | refine .cons (by first | exact .refl _ | exact .any _) ?_) rfl
   intro k hk
   obtain ⟨hk,hk2,hj⟩:=hk
   refine hg ?_
   repeat' ((first | refine hfk ?_ ?_<;>intros | refine hik ?_)<;>refine hgS ?_)
   all_goals first
    | exact RLe.ofEq (by rw [←hR];unfold few15;rw [takeAll_no (l:=ms) (i:=k) (by omega) (by omega) (by unfold tbS;first | (rw [decide_eq_false (show ¬((ms.getD k default).name.size:Int)≤30 by omega)];rfl) | (rw [decide_eq_false (show ¬((ms.getD k default).unit.size:Int)≤30 by omega),Bool.false_and,Bool.and_false]) | (rw [decide_eq_false (show ¬((ms.getD k default).rows.length:Int)≤8 by omega),Bool.and_false,Bool.and_false])),hX,hV];rfl)
    | exact RLe.ofEq (by rw [←hR];unfold few15;rw [takeAll_yes (l:=ms) (i:=k) hj (by omega),hX,hV];simp [*])
    | exact ⟨k+1,⟨by omega,by omega,lt_succ' hj (by unfold tbS;rw [decide_eq_true (show ((ms.getD k default).name.size:Int)≤30 by omega),decide_eq_true (show ((ms.getD k default).unit.size:Int)≤30 by omega),decide_eq_true (show ((ms.getD k default).rows.length:Int)≤8 by omega)];rfl)⟩,by omega,StH.same (by repeat' first | exact .nil | refine .cons (by first | exact .refl _ | exact .any _) ?_) rfl⟩
    | skip
end Go.Hp.T

namespace Go.Hp.T
open Go Go.RowKit Go.Slot Go.Hp Go.Slot.T
open Go.Proofs.Tryz (prog)
set_option maxRecDepth 10000
set_option maxHeartbeats 4000000
variable {Γ:List (Nat×List Cell)}
mutual
def Ex.has (op:Int) (nm:ByteArray):Ex→Bool
 | .mk o _ _ s l=>Ex.hasL op nm l||(decide (o=op)&&seq s nm)
def Ex.hasL (op:Int) (nm:ByteArray):List Ex→Bool
 | []=>false
 | y::l=>Ex.has op nm y||Ex.hasL op nm l
end
theorem Ex.hasL_any (op:Int) (nm:ByteArray):∀ l:List Ex,Ex.hasL op nm l=l.any (Ex.has op nm)
 | []=>by rw [Ex.hasL];rfl
 | y::l=>by rw [Ex.hasL,Ex.hasL_any op nm l];rfl
theorem Ex.has_eq (op:Int) (nm:ByteArray) (x:Ex):x.has op nm=(x.args.any (Ex.has op nm)||(decide (x.op=op)&&seq x.name nm)):=by cases x;rw [Ex.has,Ex.hasL_any];rfl
theorem any_true {p:Ex→Bool} {l:List Ex} {j:Nat} (hj:j<l.length) (h:p (l.getD j default)=true):l.any p=true:=List.any_eq_true.2 ⟨_,getD_mem hj,h⟩
theorem any_false {p:Ex→Bool} {l:List Ex} (h:∀ j,j<l.length→p (l.getD j default)=false):l.any p=false:=by
 rw [List.any_eq_false]
 intro y hy
 obtain ⟨j,hj,rfl⟩:=List.getElem_of_mem hy
 have:=h j hj
 rw [show l.getD j default=l[j] from by simp [hj]] at this
 simp [this]
theorem cHas (op:Int) (nm:ByteArray):∀ x:Ex,x.Sm→CallsD Γ prog 16 [.agg (exC x),.one (cI op),.one (cS nm)] (.one (cB (x.has op nm))):=by
 refine Ex.ind (fun x ih hx=>?_)
 have hl:=hx.len
 generalize hR:x.has op nm=R
 refine CallsD.run [] Go.Proofs.Tryz.func16 rfl rfl rfl ?_;simp only [Go.Proofs.Tryz.f16];refine hgR ?_
 refine hloop [1,2,3] (fun n:Nat=>[(7,.one (.dat (cI n)))]) (fun _=>[.box ((exC x).map .dat) (some 24)]) (fun n=>n≤x.args.length∧∀ j,j<n→(x.args.getD j default).has op nm=false) (fun n=>x.args.length-n) 0 ⟨Nat.zero_le _,fun j hj=>by omega⟩ ?_ ?_
 · refine hg ?_
   exact StH.same (by repeat' first | exact .nil | refine .cons (by first | exact .refl _ | exact .any _) ?_) rfl
 intro n hn
 obtain ⟨hn,hj⟩:=hn
 refine hg ?_
 repeat' ((first | refine hfk ?_ ?_<;>intros | refine hik ?_ | with_reducible first | refine hcall (ih _ (getD_mem (show n<x.args.length by omega)) (hx.arg _ (getD_mem (show n<x.args.length by omega)))) ?_ | refine hcalle (ih _ (getD_mem (show n<x.args.length by omega)) (hx.arg _ (getD_mem (show n<x.args.length by omega)))) ?_)<;>refine hgS ?_)
 · rename_i h
   exact RLe.ofEq (by rw [←hR,Ex.has_eq,any_true (by omega) h];rfl)
 · rename_i h
   exact ⟨n+1,⟨by omega,lt_succ' hj h⟩,by omega,StH.same (by repeat' first | exact .nil | refine .cons (by first | exact .refl _ | exact .any _) ?_) rfl⟩
 all_goals
  have e:n=x.args.length:=by omega
  subst e
  exact RLe.ofEq (by rw [←hR,Ex.has_eq,any_false hj];simp [*])
end Go.Hp.T

namespace Go.Hp.T
open Go Go.RowKit Go.Slot Go.Hp Go.Slot.T
open Go.Proofs.Tryz (prog)
set_option maxRecDepth 10000
set_option maxHeartbeats 4000000
variable {Γ:List (Nat×List Cell)}
mutual
def Ex.repl (nm:ByteArray) (y:Ex):Ex→Ex
 | .mk o n u s l=>bif decide (o=1)&&seq s nm then y else .mk o n u s (Ex.replL nm y l)
def Ex.replL (nm:ByteArray) (y:Ex):List Ex→List Ex
 | []=>[]
 | z::l=>Ex.repl nm y z::Ex.replL nm y l
end
theorem Ex.replL_map (nm:ByteArray) (y:Ex):∀ l:List Ex,Ex.replL nm y l=l.map (Ex.repl nm y)
 | []=>by rw [Ex.replL];rfl
 | z::l=>by rw [Ex.replL,Ex.replL_map nm y l];rfl
theorem Ex.repl_eq (nm:ByteArray) (y x:Ex):Ex.repl nm y x=bif decide (x.op=1)&&seq x.name nm then y else .mk x.op x.n x.unit x.name (x.args.map (Ex.repl nm y)):=by cases x;rw [Ex.repl,Ex.replL_map];rfl
theorem n0:((0:Nat):Int)=0:=rfl
theorem CallsD.nil5 {f:FuncId} {args:List AV} {a b c d:Cell} (h:CallsD Γ prog f args (.agg [a,b,c,d,.raw (.slice none 0 0)])):CallsD Γ prog f args (.agg [a,b,c,d,.sl 5 []]):=
 ⟨h.1,fun M w vs hM hg hr=>(h.2 M w vs hM hg hr).mono (fun _ _ ⟨v,h1,h2,h3,h4⟩=>by
  obtain ⟨ws,hw,hrd⟩:=h3
  match ws,hrd with
  | [v1,v2,v3,v4,v5],⟨r1,r2,r3,r4,r5,r6⟩=>
   refine ⟨v,h1,h2,⟨_,hw,r1,r2,r3,r4,?_,r6⟩,fun hh=>by cases hh⟩
   cases r5
   exact RdC.zcSl 5)⟩
def rpB (nm:ByteArray) (y x:Ex):Nat→List SB
 | 0=>[.box ((exC x).map .dat) (some 24),.box ((exC y).map .dat) (some 24),.box [.dat (cI 0),.dat (cI 0),.dat (cS ⟨⟨[]⟩⟩),.dat (cS ⟨⟨[]⟩⟩),.dat .zc] (some 24),.box [.dat (cI x.op),.dat (cI x.n),.dat (cS x.unit),.dat (cS x.name),.dat (.raw (.slice none 0 0))] (some 24)]
 | n+1=>[.box ((exC x).map .dat) (some 24),.box ((exC y).map .dat) (some 24),.box [.dat (cI 0),.dat (cI 0),.dat (cS ⟨⟨[]⟩⟩),.dat (cS ⟨⟨[]⟩⟩),.dat .zc] (some 24),.box [.dat (cI x.op),.dat (cI x.n),.dat (cS x.unit),.dat (cS x.name),.sl 4 5 0 (n+1)] (some 24),.arr (.sl 5 ((x.args.take (n+1)).map (Ex.cells∘Ex.repl nm y))) 0 (some 24)]
theorem cReplaced (nm:ByteArray) (y:Ex):∀ x:Ex,x.Sm→CallsD Γ prog 12 [.agg (exC x),.one (cS nm),.agg (exC y)] (.agg (exC (Ex.repl nm y x))):=by
 refine Ex.ind (fun x ih hx=>?_)
 have hl:=hx.len
 by_cases hnil:x.args.length=0
 · have ha:x.args=[]:=List.eq_nil_of_length_eq_zero hnil
   by_cases hc:(decide (x.op=1)&&seq x.name nm)=true
   · rw [Ex.repl_eq,hc]
     rw [Bool.and_eq_true] at hc
     obtain ⟨hc1,hc2⟩:=hc
     refine CallsD.run [] Go.Proofs.Tryz.func12 rfl rfl rfl ?_;simp only [Go.Proofs.Tryz.f12];refine hgR ?_
     refine hgS ?_
     exact RLe.ofEq rfl
   · have hc':=Bool.eq_false_iff.2 hc
     rw [Ex.repl_eq,hc',ha]
     refine CallsD.nil5 ?_
     clear hnil
     refine CallsD.run [] Go.Proofs.Tryz.func12 rfl rfl rfl ?_;simp only [Go.Proofs.Tryz.f12];refine hgR ?_
     repeat' ((first | refine hfk ?_ ?_<;>intros | refine hik ?_)<;>refine hgS ?_)
     all_goals first
      | (exfalso;simp_all;done)
      | skip
     all_goals
      have hx2:cI 1=cI 1:=rfl
      try rw [show cI 1=cI x.op by simp [*]]
      first
       | (rename_i p q r;clear p q r)
       | skip
      refine hunroll ?_
      conv=>simp (maxSteps:=2000000) (disch:=omega) only [go_sem,Nat.reduceAdd,Nat.reduceSub,Nat.reduceMul,Int.reduceToNat,Nat.reduceEqDiff,Nat.reduceBEq,Nat.reduceBneDiff,Nat.reduceLT,Int.reduceEq,Int.reduceLT,Int.reduceLE,Int.reduceNeg,Int.reduceAdd,Int.reduceSub,Int.reduceMul,ha,List.length_nil,n0]
      exact RLe.ofEq rfl
 · generalize hR:Ex.repl nm y x=R
   refine CallsD.run [] Go.Proofs.Tryz.func12 rfl rfl rfl ?_;simp only [Go.Proofs.Tryz.f12];refine hgR ?_
   repeat' ((first | refine hfk ?_ ?_<;>intros | refine hik ?_)<;>refine hgS ?_)
   · exact RLe.ofEq (by rw [←hR,Ex.repl_eq];simp [*])
   all_goals
    have hc:(decide (x.op=1)&&seq x.name nm)=false:=by simp [*]
    try rw [show cI 1=cI x.op by simp [*]]
    first
     | (rename_i p q r;clear p q r)
     | skip
    refine hloop [1,3,5,6,7] (fun n:Nat=>[(8,.one (.dat (cI n)))]) (rpB nm y x) (fun n=>n≤x.args.length) (fun n=>x.args.length-n) 0 (Nat.zero_le _) ?_ ?_
    · refine hg ?_
      exact StH.same (by repeat' first | exact .nil | refine .cons (by first | exact .refl _ | exact .any _) ?_) rfl
    intro n hn
    rcases n with _ | n
    · simp only [rpB]
      refine hg ?_
      repeat' ((first | refine hfk ?_ ?_<;>intros | refine hik ?_ | with_reducible first | refine hcall (ih _ (getD_mem (show 0<x.args.length by omega)) (hx.arg _ (getD_mem (show 0<x.args.length by omega)))) ?_ | refine hcalle (ih _ (getD_mem (show 0<x.args.length by omega)) (hx.arg _ (getD_mem (show 0<x.args.length by omega)))) ?_)<;>refine hgS ?_)
      · refine ⟨1,by omega,by omega,StH.same (by repeat' first | exact .nil | refine .cons (by first | exact .refl _ | exact .any _) ?_) ?_⟩
        have ht:(x.args.take (0+1)).map (Ex.cells∘Ex.repl nm y)=[exC (Ex.repl nm y (x.args.getD 0 default))]:=by
         rw [take_getD (by omega),List.take_zero]
         simp only [List.nil_append,List.map_cons,List.map_nil,Function.comp,Ex.cells_eq]
        simp only [ht]
        try rfl
      · exfalso;omega
    · simp only [rpB]
      have hlen:(x.args.take (n+1)).length=n+1:=by rw [List.length_take];omega
      conv=>simp (maxSteps:=2000000) (disch:=omega) only [go_sem,Nat.reduceAdd,Nat.reduceSub,Nat.reduceMul,Int.reduceToNat,Nat.reduceEqDiff,Nat.reduceBEq,Nat.reduceBneDiff,Nat.reduceLT,Int.reduceEq,Int.reduceLT,Int.reduceLE,Int.reduceNeg,Int.reduceAdd,Int.reduceSub,Int.reduceMul,hlen]
      repeat' ((first | refine hfk ?_ ?_<;>intros | refine hik ?_ | with_reducible first | refine hcall (ih _ (getD_mem (show n+1<x.args.length by omega)) (hx.arg _ (getD_mem (show n+1<x.args.length by omega)))) ?_ | refine hcalle (ih _ (getD_mem (show n+1<x.args.length by omega)) (hx.arg _ (getD_mem (show n+1<x.args.length by omega)))) ?_)<;>refine hgS ?_)
      · refine ⟨n+1+1,by omega,by omega,StH.back [1,3,5,6,7,8] 4 5 5 rfl rfl rfl rfl rfl (by kernel_rfl) (StH.same (by repeat' first | exact .nil | refine .cons (by first | exact .refl _ | exact .any _) ?_) ?_)⟩
        have ht:(x.args.take (n+1+1)).map (Ex.cells∘Ex.repl nm y)=(x.args.take (n+1)).map (Ex.cells∘Ex.repl nm y)++[exC (Ex.repl nm y (x.args.getD (n+1) default))]:=by
         rw [take_getD (by omega)]
         simp only [List.map_append,List.map_cons,List.map_nil,Function.comp,Ex.cells_eq]
        simp only [ht,List.length_append,List.length_map,List.length_singleton,hlen]
        try rfl
      · have e:x.args.take (n+1)=x.args:=List.take_of_length_le (by omega)
        exact RLe.ofEq (by rw [←hR,Ex.repl_eq,hc,e,←List.map_map];rfl)
end Go.Hp.T
