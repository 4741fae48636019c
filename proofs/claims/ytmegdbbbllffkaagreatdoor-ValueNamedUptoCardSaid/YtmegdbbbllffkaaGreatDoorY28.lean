/- The proof, part Y28: Na, La, Lb, Lc, Ba, Bb, Bc, Bd. -/
import Derived.Test.YtmegdbbbllffkaaGreatDoorY27
import Derived.Test.YtmegdbbbllffkaaGreatDoorY13
import Derived.Test.YtmegdbbbllffkaaGreatDoorY26
namespace Go.Hp.T
open Go Go.RowKit Go.Slot Go.Hp Go.Slot.T
open Go.Proofs.Tryz (prog)
set_option maxRecDepth 10000
set_option maxHeartbeats 4000000
variable {Γ:List (Nat×List Cell)}
theorem ygb (c:Int):CallsD Γ prog 121 [.one (c8 c)] (.one (cB (yf0 c))):=by
 refine CallsD.run [] Go.Proofs.Tryz.func121 rfl rfl rfl ?_;simp only [Go.Proofs.Tryz.f121];refine hgR ?_
 repeat' ((first | refine hfk ?_ ?_<;>intros | refine hik ?_)<;>refine hgS ?_)
 all_goals (refine RLe.ofEq ?_;conv=>simp only [Bool.and_true,Bool.true_and,Bool.and_false,Bool.false_and,Bool.or_true,Bool.true_or,Bool.or_false,Bool.false_or,Bool.not_true,Bool.not_false,decide_true,decide_false,not_true_eq_false,not_false_eq_true,x9k,if_true,if_false,Bool.and_self,Bool.or_self,cond_true,cond_false,List.length_map,ne_eq,Int.reduceEq,Int.reduceLT,Int.reduceLE, *,yf0]);first | exact trivial | rfl
theorem yis (c:Int):CallsD Γ prog 171 [.one (c8 c)] (.one (cB (isDigit c))):=by
 refine CallsD.run [] Go.Proofs.Tryz.func171 rfl rfl rfl ?_;simp only [Go.Proofs.Tryz.f171];refine hgR ?_
 repeat' ((first | refine hfk ?_ ?_<;>intros | refine hik ?_)<;>refine hgS ?_)
 all_goals (refine RLe.ofEq ?_;conv=>simp only [Bool.and_true,Bool.true_and,Bool.and_false,Bool.false_and,Bool.or_true,Bool.true_or,Bool.or_false,Bool.false_or,Bool.not_true,Bool.not_false,decide_true,decide_false,not_true_eq_false,not_false_eq_true,x9k,if_true,if_false,Bool.and_self,Bool.or_self,cond_true,cond_false,List.length_map,ne_eq,Int.reduceEq,Int.reduceLT,Int.reduceLE, *,isDigit]);first | exact trivial | rfl
theorem vtf (c:Int):CallsD Γ prog 186 [.one (c8 c)] (.one (cB (vgw c))):=by
 refine CallsD.run [] Go.Proofs.Tryz.func186 rfl rfl rfl ?_;simp only [Go.Proofs.Tryz.f186];refine hgR ?_
 repeat' ((first | refine hfk ?_ ?_<;>intros | refine hik ?_)<;>refine hgS ?_)
 all_goals (refine RLe.ofEq ?_;conv=>simp only [Bool.and_true,Bool.true_and,Bool.and_false,Bool.false_and,Bool.or_true,Bool.true_or,Bool.or_false,Bool.false_or,Bool.not_true,Bool.not_false,decide_true,decide_false,not_true_eq_false,not_false_eq_true,x9k,if_true,if_false,Bool.and_self,Bool.or_self,cond_true,cond_false,List.length_map,ne_eq,Int.reduceEq,Int.reduceLT,Int.reduceLE, *,vgw]);first | exact trivial | rfl
theorem vvg (c:Int):CallsD Γ prog 123 [.one (c8 c)] (.one (cB (zci c))):=by
 refine CallsD.run [] Go.Proofs.Tryz.func123 rfl rfl rfl ?_;simp only [Go.Proofs.Tryz.f123];refine hgR ?_
 repeat' ((first | refine hfk ?_ ?_<;>intros | refine hik ?_ | with_reducible first | refine y5m (ygb _) ?_ | refine vtc (ygb _) ?_ | refine y5m (yis _) ?_ | refine vtc (yis _) ?_)<;>refine hgS ?_)
 all_goals (refine RLe.ofEq ?_;conv=>simp only [Bool.and_true,Bool.true_and,Bool.and_false,Bool.false_and,Bool.or_true,Bool.true_or,Bool.or_false,Bool.false_or,Bool.not_true,Bool.not_false,decide_true,decide_false,not_true_eq_false,not_false_eq_true,x9k,if_true,if_false,Bool.and_self,Bool.or_self,cond_true,cond_false,List.length_map,ne_eq,Int.reduceEq,Int.reduceLT,Int.reduceLE, *,zci]);first | exact trivial | rfl
theorem xse (s:ByteArray) (f:FuncId) (p:Int->Bool) (hs:s.size<=1099511627776) (h:∀ c,CallsD Γ prog f [.one (c8 c)] (.one (cB (p c)))):CallsD Γ prog 122 [.one (cS s),fN f] (.one (cI (xyw p s))):=by
 refine CallsD.run [] Go.Proofs.Tryz.func122 rfl rfl rfl ?_;simp only [Go.Proofs.Tryz.f122];refine hgR ?_;refine y31 [0,1] (fun n:Nat=>[(5,.one (.dat (cI n)))]) (fun _=>[]) (fun n=>n<=s.size/\∀ j,j<n->p (v7r s j)=true) (fun n=>s.size-n) 0 ⟨Nat.zero_le _,fun j hj=>by omega⟩ ?_ ?_
 . refine hg ?_;exact StH.x97 (by repeat' first | exact .nil | refine .cons (by first | exact .refl _ | exact .any _) ?_)
 intro n hn;obtain ⟨hn,hj⟩:=hn;refine hg ?_
 repeat' ((first | refine hfk ?_ ?_<;>intros | refine hik ?_ | with_reducible first | refine y5m (h _) ?_ | refine vtc (h _) ?_)<;>refine hgS ?_)
 . rename_i h1;refine ⟨n+1,⟨by omega,fun j hj'=>?_⟩,by omega,by exact StH.x97 (by repeat' first | exact .nil | refine .cons (by first | exact .refl _ | exact .any _) ?_)⟩
   rcases Nat.lt_or_eq_of_le (Nat.le_of_lt_succ hj') with h2 | h2
   . exact hj j h2
   . rw [h2];exact h1
 . rename_i h1;rw [zpd hn hj (.inr h1)];exact RLe.ofEq rfl
 . rw [zpd hn hj (.inl (by omega))];exact RLe.ofEq rfl
theorem wy6 (s:ByteArray) (hs:s.size<=1099511627776):CallsD Γ prog 65 [.one (cS s)] (.one (cB (isName s))):=by
 refine CallsD.run [] Go.Proofs.Tryz.func65 rfl rfl rfl ?_;simp only [Go.Proofs.Tryz.f65];refine hgR ?_
 repeat' ((first | refine hfk ?_ ?_<;>intros | refine hik ?_ | with_reducible first | refine y5m (ygb _) ?_ | refine vtc (ygb _) ?_ | refine y5m (xse s _ _ hs vvg) ?_ | refine vtc (xse s _ _ hs vvg) ?_)<;>refine hgS ?_)
 all_goals (refine RLe.ofEq ?_;conv=>simp only [Bool.and_true,Bool.true_and,Bool.and_false,Bool.false_and,Bool.or_true,Bool.true_or,Bool.or_false,Bool.false_or,Bool.not_true,Bool.not_false,decide_true,decide_false,not_true_eq_false,not_false_eq_true,x9k,if_true,if_false,Bool.and_self,Bool.or_self,cond_true,cond_false,List.length_map,ne_eq,Int.reduceEq,Int.reduceLT,Int.reduceLE, *,isName]);first | exact trivial | rfl
abbrev bldB (n:Nat):SB:=.box [.ptr 0 0,.sl 1 1 0 n] (some 223)
abbrev bldA (l:List Int):SB:=.arr (.ints .u8 l) 0 (some 5)
theorem wwz:liesAt prog prog.depth 223 (2 / prog.cellsOf 223) 0 223 1=true:=by kernel_rfl
theorem coU8:prog.cellsOf 5=1:=by kernel_rfl
attribute [go_sem] wwz coU8
theorem xvi (x:HC):zq1 Γ prog 227 [.box [.dat (.raw (.pointer none)),x] (some 223)] [.one (.ptr 0 0)] [.box [.ptr 0 0,x] (some 223)] (.tup []):=by
 refine zq1.run [] Go.Proofs.Tryz.func227 rfl rfl ?_;simp only [Go.Proofs.Tryz.f227];refine hgR ?_;exact StH.refl
theorem xp2 (x:HC) (T:Option TypeId) (y:SB):zq1 Γ prog 227 [.box [.ptr 0 0,x] T,y] [.one (.ptr 0 0)] [.box [.ptr 0 0,x] T,y] (.tup []):=by
 refine zq1.run [] Go.Proofs.Tryz.func227 rfl rfl ?_;simp only [Go.Proofs.Tryz.f227];refine hgR ?_;exact StH.refl
theorem x8u (c:Int):zq1 Γ prog 210 [.box [.dat (.raw (.pointer none)),.dat .zc] (some 223)] [.one (.ptr 0 0),.one (.dat (c8 c))] [bldB 1,bldA [c]] (.one (.dat (.raw .nilIface))):=by
 refine zq1.run [] Go.Proofs.Tryz.func210 rfl rfl ?_;simp only [Go.Proofs.Tryz.f210];refine hgR ?_;refine wkh (xvi _) ?_;refine hg ?_;exact StH.refl
theorem y0x (l:List Int) (c:Int) (hl:l.length<=68719476736):zq1 Γ prog 210 [bldB l.length,bldA l] [.one (.ptr 0 0),.one (.dat (c8 c))] [.box [.ptr 0 0,.sl 2 1 0 (l++[c]).length] (some 223),.dead,bldA (l++[c])] (.one (.dat (.raw .nilIface))):=by
 refine zq1.run [] Go.Proofs.Tryz.func210 rfl rfl ?_;simp only [Go.Proofs.Tryz.f210];refine hgR ?_;refine wkh (xp2 _ _ _) ?_;refine hg ?_;exact StH.refl
theorem xcc (l:List Int) (hl:l.all wfq=true) (h0:0<l.length) (h1:l.length<=1099511627776):zq1 Γ prog 211 [bldB l.length,bldA l] [.one (.ptr 0 0)] [bldB l.length,.dead] (.one (.dat (cS (strOfNums l)))):=by
 refine zq1.run [] Go.Proofs.Tryz.func211 rfl rfl ?_;simp only [Go.Proofs.Tryz.f211];refine hgR ?_
 conv=>simp (maxSteps:=2000000) (disch:=omega) only [go_sem,Nat.reduceAdd,Nat.reduceSub,Nat.reduceMul,Int.reduceToNat,Nat.reduceEqDiff,Nat.reduceBEq,Nat.reduceBneDiff,Nat.reduceLT,Int.reduceEq,Int.reduceLT,Int.reduceLE,Int.reduceNeg,Int.reduceAdd,Int.reduceSub,Int.reduceMul,hl,h0,true_and,show l.length<=9223372036854775807 from by omega]
 repeat' ((first | refine hfk ?_ ?_<;>intros | refine hik ?_)<;>refine hgS ?_)
 exact StH.refl
theorem w9t (s:ByteArray) (hs:s.size<=1073741824):CallsD Γ prog 187 [.one (cS s)] (.one (cS (escS s))):=by
 refine CallsD.run [] Go.Proofs.Tryz.func187 rfl rfl rfl ?_;simp only [Go.Proofs.Tryz.f187];refine hgR ?_;refine wkh (x8u _) ?_;refine hg ?_;refine y31 [0,2,3,7] (fun i:Nat=>[(8,.one (.dat (cI i)))]) (fun i=>[bldB (escA s i).length,bldA (escA s i)]) (fun i=>i<=s.size) (fun i=>s.size-i) 0 (Nat.zero_le _) ?_ ?_
 . refine hg ?_;exact StH.same svl rfl
 intro i hi;have hlen:=wfd s i;refine hg ?_
 have two:∀ c,(c=34\/c=92)->i<s.size->v7r s i=c->escA s (i+1)=escA s i++[92]++[c]:=fun c h hi h2=>by
  rw [ytt hi,List.append_assoc,h2];rcases h with h | h<;>rw [h]<;>rfl
 repeat' ((first | refine hfk ?_ ?_<;>intros | refine hik ?_)<;>refine hgS ?_)
 . rename_i h _;refine wkh (y0x _ _ (by omega)) ?_;refine hgS ?_;refine z9v [0,2] (y0x (escA s i++[92]) _ (by simp only [List.length_append,List.length_singleton];omega)) rfl (by decide) rfl rfl rfl ?_;refine hgS ?_;rw [<-two 92 (.inr rfl) (by omega) h];refine ⟨i+1,by omega,by omega,StH.back [0,2,3,7,8] 1 3 2 rfl rfl rfl rfl rfl (by kernel_rfl) ?_⟩;refine hg ?_;exact StH.same svl rfl
 . rename_i h1 _ h2 _ h3 _;refine wkh (y0x _ _ (by omega)) ?_;refine hgS ?_
   have one:escA s i++[v7r s i]=escA s (i+1):=by
    rw [ytt (by omega)];unfold escB;rw [decide_eq_false h2,decide_eq_false h3];rfl
   rw [one];refine ⟨i+1,by omega,by omega,StH.back [0,2,3,7,8] 1 2 2 rfl rfl rfl rfl rfl (by kernel_rfl) ?_⟩;refine hg ?_;exact StH.same svl rfl
 . rename_i h _;refine wkh (y0x _ _ (by omega)) ?_;refine hgS ?_;refine z9v [0,2] (y0x (escA s i++[92]) _ (by simp only [List.length_append,List.length_singleton];omega)) rfl (by decide) rfl rfl rfl ?_;refine hgS ?_;rw [<-two 34 (.inl rfl) (by omega) h];refine ⟨i+1,by omega,by omega,StH.back [0,2,3,7,8] 1 3 2 rfl rfl rfl rfl rfl (by kernel_rfl) ?_⟩;refine hg ?_;exact StH.same svl rfl
 . have e:i=s.size:=by omega
   subst e;refine wkh (y0x _ _ (by omega)) ?_;refine hg ?_;refine z9v [0,2] (xcc (escA s s.size++[34]) (by rw [List.all_append,wgt];rfl) (by simp) (by simp only [List.length_append,List.length_singleton];omega)) rfl (by decide) rfl rfl rfl ?_;refine hg ?_;exact RLe.ofEq rfl
theorem wx6 (s:ByteArray) (hs:s.size<=1073741824):∃ t,CallsD Γ prog 144 [.one (cS s)] (.tup [.one (cS t),.one (cB (w6l s))]):=by
 refine ⟨bif w6l s then escS s else ⟨#[]⟩,?_⟩;refine CallsD.run [] Go.Proofs.Tryz.func144 rfl rfl rfl ?_;simp only [Go.Proofs.Tryz.f144];refine hgR ?_
 repeat' ((first | refine hfk ?_ ?_<;>intros | refine hik ?_ | with_reducible first | refine y5m (xse s _ _ (by omega) vtf) ?_ | refine vtc (xse s _ _ (by omega) vtf) ?_ | refine y5m (w9t s hs) ?_ | refine vtc (w9t s hs) ?_)<;>refine hgS ?_)
 all_goals (refine RLe.ofEq ?_;conv=>simp only [Bool.and_true,Bool.true_and,Bool.and_false,Bool.false_and,Bool.or_true,Bool.true_or,Bool.or_false,Bool.false_or,Bool.not_true,Bool.not_false,decide_true,decide_false,not_true_eq_false,not_false_eq_true,x9k,if_true,if_false,Bool.and_self,Bool.or_self,cond_true,cond_false,List.length_map,ne_eq,Int.reduceEq,Int.reduceLT,Int.reduceLE, *,w6l,cond_true,cond_false]);first | exact trivial | rfl
end Go.Hp.T
namespace Go.Slot
open Go Go.RowKit
set_option maxRecDepth 10000
def digits (L:List Int):Prop:=∀ x∈L,0<=x/\x<=1048575
instance (L:List Int):Decidable (digits L):=inferInstanceAs (Decidable (∀ x∈L,0<=x/\x<=1048575))
def num:List Int->Int
 | []=>0
 | d::l=>d+1048576*num l
theorem digits.nil:digits []:=fun _ h=>by cases h
theorem digits.cons {d:Int} {l:List Int} (h:0<=d/\d<=1048575) (hl:digits l):digits (d::l):=fun x hx=>by
 rcases List.mem_cons.1 hx with rfl | hx
 . exact h
 . exact hl x hx
theorem digits.head {d:Int} {l:List Int} (h:digits (d::l)):0<=d/\d<=1048575:=h d (by simp)
theorem digits.tail {d:Int} {l:List Int} (h:digits (d::l)):digits l:=fun x hx=>h x (by simp [hx])
theorem digits.append {l m:List Int} (hl:digits l) (hm:digits m):digits (l++m):=fun x hx=>by
 rcases List.mem_append.1 hx with hx | hx
 . exact hl x hx
 . exact hm x hx
theorem digits.take {l:List Int} (h:digits l) (n:Nat):digits (l.take n):=fun x hx=>h x (List.mem_of_mem_take hx)
theorem digits.drop {l:List Int} (h:digits l) (n:Nat):digits (l.drop n):=fun x hx=>h x (List.mem_of_mem_drop hx)
theorem digits.getD {l:List Int} (h:digits l) (i:Nat):0<=l.getD i 0/\l.getD i 0<=1048575:=by
 rw [List.getD_eq_getElem?_getD]
 cases hh:l[i]? with
 | none=>simp
 | some x=>exact h x (List.mem_of_getElem? hh)
theorem digits.set {l:List Int} (h:digits l) (i:Nat) {x:Int} (hx:0<=x/\x<=1048575):digits (l.set i x):=fun y hy=>by
 rcases List.mem_or_eq_of_mem_set hy with hy | rfl
 . exact h y hy
 . exact hx
theorem digits.rep (n:Nat):digits (List.replicate n 0):=fun x hx=>by
 rw [List.mem_replicate] at hx;omega
theorem num_nonneg:∀{l:List Int},digits l->0<=num l
 | [],_=>Int.le_refl _
 | d::l,h=>by have:=num_nonneg h.tail;have:=h.head;simp only [num];omega
theorem xun (n:Nat):(0:Int)<1048576 ^ n:=Int.pow_pos (by decide)
theorem y3u {m n:Nat} (h:m<=n):(1048576:Int) ^ m<=1048576 ^ n:=by
 obtain ⟨k,rfl⟩:=Nat.exists_eq_add_of_le h;rw [Int.pow_add];have h1:=xun k;have h2:=Int.mul_le_mul_of_nonneg_left (show (1:Int)<=1048576 ^ k by omega) (Int.le_of_lt (xun m))
 rwa [Int.mul_one] at h2
theorem yey:∀{l:List Int},digits l->num l<1048576 ^ l.length
 | [],_=>by simp [num]
 | d::l,h=>by
  have:=yey h.tail
  have:=h.head
  simp only [num,List.length_cons,Int.pow_succ];omega
theorem zws:∀(l m:List Int),num (l++m)=num l+1048576 ^ l.length*num m
 | [],m=>by simp [num]
 | d::l,m=>by
  simp only [List.cons_append,num,List.length_cons,zws l m,Int.pow_succ];rw [Int.mul_add,Int.mul_comm (1048576 ^ l.length) 1048576,Int.mul_assoc];omega
theorem yxl (n:Nat):num (List.replicate n 0)=0:=by
 induction n with
 | zero=>rfl
 | succ n ih=>simp [List.replicate_succ,num,ih]
theorem xxw:∀(l:List Int) (i:Nat),num (l.take (i+1))=num (l.take i)+1048576 ^ i*l.getD i 0
 | [],i=>by simp [num]
 | d::l,0=>by simp [num]
 | d::l,i+1=>by
  simp only [List.take_succ_cons,num,xxw l i,List.getD_cons_succ,Int.pow_succ];rw [Int.mul_add,Int.mul_comm (1048576 ^ i) 1048576,Int.mul_assoc];omega
theorem vqx:∀(l:List Int) (i:Nat) (x:Int),i<l.length->num (l.set i x)=num l+1048576 ^ i*(x-l.getD i 0)
 | [],i,x,h=>by simp at h
 | d::l,0,x,_=>by simp [num];omega
 | d::l,i+1,x,h=>by
  simp only [List.set_cons_succ,num,vqx l i x (by simpa using h),List.getD_cons_succ,Int.pow_succ];rw [Int.mul_add,Int.mul_comm (1048576 ^ i) 1048576,Int.mul_assoc];omega
theorem xxv (l:List Int) (i:Nat):num l=num (l.take i)+1048576 ^ (l.take i).length*num (l.drop i):=by
 rw [<-zws,List.take_append_drop]
def z2e (l:List Int) (i:Nat):Prop:=∀ j,i<=j->l.getD j 0=0
theorem z2e.rep (n:Nat):z2e (List.replicate n 0) 0:=fun j _=>by
 rw [List.getD_eq_getElem?_getD,List.getElem?_replicate];split<;>rfl
theorem ziq {l:List Int} {i j:Nat} (x:Int) (h:i≠j):(l.set i x).getD j 0=l.getD j 0:=by
 rw [List.getD_eq_getElem?_getD,List.getElem?_set_ne h,List.getD_eq_getElem?_getD]
theorem z2e.set {l:List Int} {i:Nat} (h:z2e l i) (x:Int):z2e (l.set i x) (i+1):=fun j hj=>by
 rw [ziq x (by omega)];exact h j (by omega)
theorem z2e.xem {l:List Int} {i k:Nat} (h:z2e l i) (x:Int) (hk:k<i):z2e (l.set k x) i:=fun j hj=>by
 rw [ziq x (by omega)];exact h j hj
theorem z2e.mono {l:List Int} {i j:Nat} (h:z2e l i) (hij:i<=j):z2e l j:=fun k hk=>h k (by omega)
theorem xm8 {l:List Int} {i n:Nat} (h:i<n):(l.take n).getD i 0=l.getD i 0:=by
 rw [List.getD_eq_getElem?_getD,List.getElem?_take_of_lt h,List.getD_eq_getElem?_getD]
theorem wgh {l:List Int} {i:Nat} (h:l.length<=i):l.getD i 0=0:=by
 rw [List.getD_eq_getElem?_getD,List.getElem?_eq_none h];rfl
theorem xk8 {l:List Int} {i:Nat} (h:l.length<=i):l.take i=l:=List.take_of_length_le h
theorem w35 {o:List Int} {i:Nat} (hi:i<o.length) (s:Int):num (o.set i (s % 1048576))+1048576 ^ (i+1)*(s / 1048576)=num o+1048576 ^ i*(s-o.getD i 0):=by
 rw [vqx o i _ hi,Int.pow_succ];have h:=Int.emod_add_mul_ediv s 1048576;generalize (1048576:Int) ^ i=P;generalize s % 1048576=r at *;generalize s / 1048576=q at *;generalize o.getD i 0=z
 grind
def norm (l:List Int):Prop:=l≠[]->l.getD (l.length-1) 0≠0
theorem norm.nil:norm []:=fun h=>absurd rfl h
theorem norm.tail {d:Int} {l:List Int} (h:norm (d::l)):norm l:=fun hl=>by
 have:=h (by simp)
 have hp:0<l.length:=List.length_pos_iff.2 hl;rw [List.length_cons,show l.length+1-1=(l.length-1)+1 by omega,List.getD_cons_succ] at this;exact this
theorem norm.pos:∀{l:List Int},digits l->norm l->l≠[]->0<num l
 | [],_,_,h=>absurd rfl h
 | d::l,hd,hn,_=>by
  simp only [num];by_cases hl:l=[]
  . subst hl
    have:=hn (by simp)
    have h0:=hd.head;simp at this;simp only [num];omega
  . have:=norm.pos hd.tail hn.tail hl
    have h0:=hd.head;omega
theorem vct:∀{l m:List Int},digits l->norm l->digits m->norm m->num l=num m->l=m
 | [],[],_,_,_,_,_=>rfl
 | [],d::m,_,_,hm,nm,h=>by have:=norm.pos hm nm (by simp);rw [<-h] at this;simp [num] at this
 | d::l,[],hl,nl,_,_,h=>by have:=norm.pos hl nl (by simp);rw [h] at this;simp [num] at this
 | d::l,e::m,hl,nl,hm,nm,h=>by
  simp only [num] at h;have h1:=hl.head;have h2:=hm.head
  have hde:d=e:=by omega
  have:=vct hl.tail nl.tail hm.tail nm.tail (by omega)
  rw [hde,this]
def dig (n:Nat):List Int:=if h:n=0 then [] else ((n % 1048576:Nat):Int)::dig (n / 1048576)
 termination_by n
 decreasing_by omega
theorem vpc:dig 0=[]:=by unfold dig;simp
theorem vii {n:Nat} (h:n≠0):dig n=((n % 1048576:Nat):Int)::dig (n / 1048576):=by
 rw [dig];simp [h]
theorem wkl:∀ n:Nat,digits (dig n)/\norm (dig n)/\num (dig n)=n/\(dig n=[]->n=0):=by
 intro n
 induction n using Nat.strongRecOn with
 | ind n ih =>
  by_cases h:n=0
  . subst h;rw [vpc];exact ⟨digits.nil,norm.nil,rfl,fun _=>rfl⟩
  . rw [vii h];obtain ⟨h1,h2,h3,h4⟩:=ih (n / 1048576) (by omega);refine ⟨digits.cons (by omega) h1,fun _=>?_,by simp only [num,h3];omega,fun e=>by cases e⟩;by_cases hn:dig (n / 1048576)=[]
    . rw [hn]
      have:=h4 hn
      simp;omega
    . have:=h2 hn
      have hp:0<(dig (n / 1048576)).length:=List.length_pos_iff.2 hn;rw [List.length_cons,show (dig (n / 1048576)).length+1-1=((dig (n / 1048576)).length-1)+1 by omega,List.getD_cons_succ];exact this
theorem xw9 (n:Nat):digits (dig n):=(wkl n).1
theorem yx9 (n:Nat):norm (dig n):=(wkl n).2.1
theorem v41 (n:Nat):num (dig n)=n:=(wkl n).2.2.1
theorem z4e {n:Nat}:dig n=[]↔n=0:=⟨(wkl n).2.2.2,fun h=>by rw [h,vpc]⟩
theorem yg4 {l:List Int} (hd:digits l) (hn:norm l):l=dig (num l).toNat:=
 vct hd hn (xw9 _) (yx9 _) (by rw [v41];have:=num_nonneg hd;omega)
theorem zxe {l:List Int} {n:Int} (hd:digits l) (hn:norm l) (h:num l=n):l=dig n.toNat:=by rw [<-h];exact yg4 hd hn
theorem yep {n k:Nat} (h:n<1048576 ^ k):(dig n).length<=k:=by
 induction k generalizing n with
 | zero=>have:n=0:=(by simpa using h);subst this;rw [vpc];exact Nat.le_refl _
 | succ k ih=>
  by_cases h0:n=0
  . subst h0;rw [vpc];exact Nat.zero_le _
  . rw [vii h0,List.length_cons];exact Nat.succ_le_succ (ih (by rw [Nat.pow_succ] at h;omega))
theorem vmh {n k:Nat} (h:(dig n).length<=k):n<1048576 ^ k:=by
 have h1:=yey (xw9 n);rw [v41] at h1;have h2:(1048576:Nat) ^ (dig n).length<=1048576 ^ k:=Nat.pow_le_pow_right (by decide) h
 have h3:((1048576 ^ (dig n).length:Nat):Int)=1048576 ^ (dig n).length:=by simp
 omega
theorem zui {m n:Nat} (h:m<=n):(dig m).length<=(dig n).length:=yep (Nat.lt_of_le_of_lt h (vmh (Nat.le_refl _)))
def wj5 (L:List Int):Nat->Nat
 | 0=>0
 | n+1=>if L.getD n 0=0 then wj5 L n else n+1
theorem vrt (L:List Int):∀ n,wj5 L n<=n
 | 0=>Nat.le_refl _
 | n+1=>by unfold wj5;split;exact Nat.le_succ_of_le (vrt L n);exact Nat.le_refl _
def xcd (L:List Int):List Int:=L.take (wj5 L L.length)
theorem w3w (L:List Int):(xcd L).length=wj5 L L.length:=by
 have:=vrt L L.length
 simp [xcd];omega
theorem y8m (L:List Int):∀ n,n<=L.length->norm (L.take (wj5 L n))/\num (L.take (wj5 L n))=num (L.take n)
 | 0,_=>by simp [wj5,norm]
 | n+1,h=>by
  unfold wj5
  split
  . rename_i h0;obtain ⟨h1,h2⟩:=y8m L n (by omega);refine ⟨h1,?_⟩;rw [h2,xxw,h0];simp
  . rename_i h0;refine ⟨fun _=>?_,rfl⟩;rw [show (L.take (n+1)).length-1=n by simp;omega,xm8 (by omega)];exact h0
theorem vg8 {L:List Int} (hd:digits L):xcd L=dig (num L).toNat:=by
 have h:=y8m L L.length (Nat.le_refl _);rw [List.take_length] at h;exact zxe (hd.take _) h.1 h.2
theorem yps {L:List Int} {n:Int} (hd:digits L) (h:num L=n):xcd L=dig n.toNat:=by rw [<-h];exact vg8 hd
theorem weo (n:Nat):xcd (dig n)=dig n:=by rw [vg8 (xw9 n),v41];rfl
theorem wyb (L:List Int):(xcd L).length<=L.length:=by rw [w3w];exact vrt _ _
theorem yre:∀(l:List Int) (n:Nat),num (l.drop n)=l.getD n 0+1048576*num (l.drop (n+1))
 | [],n=>by simp [num]
 | d::l,0=>by simp [num]
 | d::l,n+1=>by simpa using yre l n
theorem v6v {l:List Int} {i:Nat} (x:Int) (h:i<l.length):(l.set i x).drop i=x::l.drop (i+1):=by
 rw [List.drop_set,if_neg (by omega),Nat.sub_self]
 cases hh:l.drop i with
 | nil=>have:=congrArg List.length hh;simp at this;omega
 | cons y r=>rw [List.set_cons_zero,<-List.drop_drop,hh];rfl
def ord (x y:Int):Int:=if x<y then -1 else if y<x then 1 else 0
theorem zld {a b:List Int} (ha:digits a) (na:norm a) (hb:digits b) (nb:norm b) (h:a.length<b.length):num a<num b:=by
 rw [yg4 ha na,yg4 hb nb] at h
 have h1:¬(num b).toNat<=(num a).toNat:=fun h2=>by have:=zui h2;omega
 have:=num_nonneg ha
 omega
theorem z5b {a b:List Int} (ha:digits a) (hb:digits b) (hl:a.length=b.length) (i:Nat) (hi:i<a.length) (h:a.drop (i+1)=b.drop (i+1)) (hlt:a.getD i 0<b.getD i 0):num a<num b:=by
 rw [xxv a i,xxv b i,yre a,yre b,h];have h1:=yey (ha.take i);have h2:=num_nonneg (hb.take i)
 have e1:(a.take i).length=i:=by simp;omega
 have e2:(b.take i).length=i:=by simp;omega
 rw [e1] at h1 ⊢;rw [e2];have hp:=xun i;generalize (1048576:Int) ^ i=P at *;generalize num (b.drop (i+1))=T;have h3:P*(a.getD i 0+1)<=P*b.getD i 0:=Int.mul_le_mul_of_nonneg_left (by omega) (by omega);rw [Int.mul_add,Int.mul_add];rw [Int.mul_add] at h3;omega
def fixd:Nat->Int->List Int
 | 0,_=>[]
 | n+1,z=>z % 1048576::fixd n (z / 1048576)
theorem wxe:∀{l:List Int},digits l->l=fixd l.length (num l)
 | [],_=>rfl
 | d::l,h=>by
  have h1:=h.head;have h2:=wxe h.tail
  have e1:(d+1048576*num l) % 1048576=d:=by omega
  have e2:(d+1048576*num l) / 1048576=num l:=by omega
  simp only [List.length_cons,fixd,num,e1,e2];rw [<-h2]
theorem xj6 {l:List Int} {n:Nat} {z:Int} (h:digits l) (hn:l.length=n) (hz:num l=z):l=fixd n z:=by rw [<-hn,<-hz];exact wxe h
theorem vin:∀(n:Nat) (z:Int),(fixd n z).length=n
 | 0,_=>rfl
 | n+1,z=>by simp [fixd,vin n]
theorem zwq:∀(n:Nat) (z:Int),digits (fixd n z)
 | 0,_=>digits.nil
 | n+1,z=>digits.cons (by omega) (zwq n _)
theorem zyc:∀(n:Nat) (z:Int),0<=z->z<1048576 ^ n->num (fixd n z)=z
 | 0,z,h1,h2=>by simp at h2;simp [fixd,num];omega
 | n+1,z,h1,h2=>by
  rw [Int.pow_succ] at h2;simp only [fixd,num];rw [zyc n (z / 1048576) (by omega) (by omega)];omega
theorem zcm (n:Int):iand .i64 n 1048575=n % 1048576:=by
 unfold iand
 have h1:(BitVec.ofInt IntKind.i64.bits n &&&BitVec.ofInt IntKind.i64.bits 1048575).toNat=(n % 1048576).toNat:=by
  show (BitVec.ofInt 64 n &&&BitVec.ofInt 64 1048575).toNat=_;rw [BitVec.toNat_and,BitVec.toNat_ofInt,BitVec.toNat_ofInt]
  have:((1048575:Int) % ((2 ^ 64:Nat):Int)).toNat=2 ^ 20-1:=by decide
  rw [this,Nat.and_two_pow_sub_one_eq_mod];omega
 rw [h1,w64 (by omega)];omega
theorem and1 (n:Int):iand .i64 n 1=n % 2:=by
 unfold iand
 have h1:(BitVec.ofInt IntKind.i64.bits n &&&BitVec.ofInt IntKind.i64.bits 1).toNat=(n % 2).toNat:=by
  show (BitVec.ofInt 64 n &&&BitVec.ofInt 64 1).toNat=_;rw [BitVec.toNat_and,BitVec.toNat_ofInt,BitVec.toNat_ofInt]
  have:((1:Int) % ((2 ^ 64:Nat):Int)).toNat=2 ^ 1-1:=by decide
  rw [this,Nat.and_two_pow_sub_one_eq_mod];omega
 rw [h1,w64 (by omega)];omega
theorem yxj (n:Int):ishr .i64 n 20=n / 1048576:=by
 unfold ishr
 have:(2:Int) ^ (min (20:Int).toNat IntKind.i64.bits)=1048576:=by decide
 rw [this,Int.fdiv_eq_ediv_of_nonneg _ (by decide)]
theorem vfz {n:Int} (h:-8796093022208<=n/\n<8796093022208):ishl .i64 n 20=n*1048576:=by
 unfold ishl
 have:(2:Int) ^ (min (20:Int).toNat IntKind.i64.bits)=1048576:=by decide
 rw [this,w64 (by omega)]
theorem or20 {a d:Int} (ha:0<=a/\a<8796093022208) (hd:0<=d/\d<=1048575):ior .i64 (a*1048576) d=a*1048576+d:=by
 unfold ior
 have h1:(BitVec.ofInt IntKind.i64.bits (a*1048576) |||BitVec.ofInt IntKind.i64.bits d).toNat=(a*1048576+d).toNat:=by
  show (BitVec.ofInt 64 (a*1048576) |||BitVec.ofInt 64 d).toNat=_;rw [BitVec.toNat_or,BitVec.toNat_ofInt,BitVec.toNat_ofInt]
  have e1:((a*1048576) % ((2 ^ 64:Nat):Int)).toNat=a.toNat <<< 20:=by rw [Nat.shiftLeft_eq];omega
  have e2:(d % ((2 ^ 64:Nat):Int)).toNat=d.toNat:=by omega
  rw [e1,e2,<-Nat.shiftLeft_add_eq_or_of_lt (by omega),Nat.shiftLeft_eq];omega
 rw [h1,w64 (by omega)];omega
end Go.Slot
namespace Go.Slot
open Go Go.RowKit
theorem v53 (l:List Int) (n:Nat) (hn:2<=n) (hl:l.length=n):num l=(l.getD (n-1) 0*1048576+l.getD (n-2) 0)*1048576 ^ (n-2)+num (l.take (n-2)):=by
 obtain ⟨m,rfl⟩:∃ m,n=m+2:=⟨n-2,by omega⟩;have h1:=xxw l (m+1);have h2:=xxw l m;rw [xk8 (by omega)] at h1;rw [h1,h2,show m+2-1=m+1 by omega,show m+2-2=m by omega,Int.pow_succ]
 grind
theorem wcf (l:List Int) (n:Nat) (hn:2<=n) (hl:l.length=n+1) :
 num l=((l.getD n 0*1048576+l.getD (n-1) 0)*1048576+l.getD (n-2) 0)*1048576 ^ (n-2)+num (l.take (n-2)):=by
 obtain ⟨m,rfl⟩:∃ m,n=m+2:=⟨n-2,by omega⟩;have h1:=xxw l (m+2);have h2:=xxw l (m+1);have h3:=xxw l m;rw [xk8 (by omega)] at h1;rw [h1,h2,h3,show m+2-1=m+1 by omega,show m+2-2=m by omega,Int.pow_succ,Int.pow_succ]
 grind
section
variable {W V P t u2 v1 v2 w0 v0 g rest:Int}
theorem y2k (hP:0<P) (hW:W=(t*1048576+u2)*P+w0) (hw:w0<P) (hu:u2<=1048575) (hV:V=(v1*1048576+v2)*P+v0) (hv0:0<=v0) (hv2:0<=v2) (hg:t+1<=(g+1)*v1) (hg0:0<=g):W<(g+1)*V:=by
 have h1:(t+1)*1048576*P<=(g+1)*v1*1048576*P:=Int.mul_le_mul_of_nonneg_right (Int.mul_le_mul_of_nonneg_right hg (by decide)) (Int.le_of_lt hP);have h2:0<=(g+1)*(v2*P+v0):=Int.mul_nonneg (by omega) (Int.add_nonneg (Int.mul_nonneg hv2 (Int.le_of_lt hP)) hv0);have h3:u2*P<=1048575*P:=Int.mul_le_mul_of_nonneg_right hu (Int.le_of_lt hP)
 have e1:(g+1)*V=(g+1)*v1*1048576*P+(g+1)*(v2*P+v0):=by rw [hV];grind
 have e2:(t*1048576+u2)*P=(t+1)*1048576*P-1048576*P+u2*P:=by grind
 omega
theorem wul (hP:0<P) (hW:W=(t*1048576+u2)*P+w0) (hw:w0<P) (hV:V=(v1*1048576+v2)*P+v0) (hv0:0<=v0) (hg0:0<=g) (ht:t=g*v1+rest) (hc:rest*1048576+u2<g*v2):W<g*V:=by
 have h1:(t*1048576+u2+1)*P<=g*(v1*1048576+v2)*P:=by
  apply Int.mul_le_mul_of_nonneg_right _ (Int.le_of_lt hP)
  have:g*(v1*1048576+v2)=g*v1*1048576+g*v2:=by grind
  omega
 have h2:0<=g*v0:=Int.mul_nonneg hg0 hv0
 have e1:g*V=g*(v1*1048576+v2)*P+g*v0:=by rw [hV];grind
 have e2:(t*1048576+u2+1)*P=(t*1048576+u2)*P+P:=by grind
 omega
theorem wky (hP:0<P) (hW:W=(t*1048576+u2)*P+w0) (hw:0<=w0) (hu2:0<=u2) (hV:V=(v1*1048576+v2)*P+v0) (hv0:v0<P) (hv1:1<=v1) (hv2:0<=v2/\v2<=1048575) (hV0:0<V) (hW0:0<=W) (hg0:0<=g) (hg1:g<=1048575) (ht:t=g*v1+rest)
 (hc:1048576<=rest\/g*v2<=rest*1048576+u2):(g-1)*V<=W:=by
 by_cases h0:g=0
 . subst h0
   have:(0-1)*V = - V:=by grind
   omega
 have hg:0<=g-1:=by omega
 have hb:(g-1)*(v1*1048576+v2+1)<=t*1048576+u2:=by
  have e:(g-1)*(v1*1048576+v2+1)=g*v1*1048576+g*v2+g-v1*1048576-v2-1:=by grind
  rcases hc with hc | hc
  . have h1:g*v2<=g*1048575:=Int.mul_le_mul_of_nonneg_left hv2.2 hg0;rw [e,ht]
    have:(g*v1+rest)*1048576=g*v1*1048576+rest*1048576:=by grind
    omega
  . rw [e,ht]
    have:(g*v1+rest)*1048576=g*v1*1048576+rest*1048576:=by grind
    omega
 have h1:(g-1)*(v1*1048576+v2+1)*P<=(t*1048576+u2)*P:=Int.mul_le_mul_of_nonneg_right hb (Int.le_of_lt hP);have h2:(g-1)*v0<=(g-1)*P:=Int.mul_le_mul_of_nonneg_left (Int.le_of_lt hv0) hg
 have e1:(g-1)*V=(g-1)*(v1*1048576+v2+1)*P-(g-1)*P+(g-1)*v0:=by rw [hV];grind
 omega
end
theorem x8e {l:List Int} (hd:digits l) (hn:norm l) (h:l≠[]):1048576 ^ (l.length-1)<=num l:=by
 have hp:0<l.length:=List.length_pos_iff.2 h;have h1:=xxw l (l.length-1);rw [xk8 (by omega)] at h1;have h2:=num_nonneg (hd.take (l.length-1));have h3:=hn h;have h4:=hd.getD (l.length-1);have h5:=Int.mul_le_mul_of_nonneg_left (show (1:Int)<=l.getD (l.length-1) 0 by omega) (Int.le_of_lt (xun (l.length-1)));rw [Int.mul_one] at h5;omega
theorem yet (w:List Int) (i k:Nat) (h:i+k<=w.length):num w=num (w.take i)+1048576 ^ i*num ((w.drop i).take k)+1048576 ^ (i+k)*num (w.drop (i+k)):=by
 have h1:=xxv w i;have h2:=xxv (w.drop i) k
 have e1:(w.take i).length=i:=by simp;omega
 have e2:((w.drop i).take k).length=k:=by simp;omega
 rw [e1] at h1;rw [e2,List.drop_drop] at h2;rw [h1,h2,Int.pow_add]
 grind
theorem w6y (w d:List Int) (i k:Nat) (h:i+k<=w.length) (hd:d.length=k):num (w.take i++d++w.drop (i+k))=num (w.take i)+1048576 ^ i*num d+1048576 ^ (i+k)*num (w.drop (i+k)):=by
 have e1:(w.take i).length=i:=by simp;omega
 rw [zws,zws,List.length_append,e1,hd]
theorem vnf {a b s q w:Int} (hs:0<s) (hb:0<b) (he:a*s=b*s*q+w) (h0:0<=w) (h1:w<b*s):a / b=q/\a % b=w / s:=by
 have hbs:0<b*s:=Int.mul_pos hb hs
 have hq:a / b=q:=by
  rw [<-Int.mul_ediv_mul_of_pos_left a b hs,he,Int.add_comm,Int.add_mul_ediv_left _ _ (by omega),Int.ediv_eq_zero_of_lt h0 h1];omega
 refine ⟨hq,?_⟩;have h2:=Int.emod_add_mul_ediv a b;rw [hq] at h2
 have h3:w=(a % b)*s:=by
  have:(a % b+b*q)*s=b*s*q+w:=by rw [h2];exact he
  have h4:(a % b+b*q)*s=a % b*s+b*s*q:=by grind
  omega
 rw [h3,Int.mul_ediv_cancel _ (by omega)]
theorem v13 {l:List Int} {i n k:Nat} (h:k<n):((l.drop i).take n).getD k 0=l.getD (i+k) 0:=by
 rw [xm8 h,List.getD_eq_getElem?_getD,List.getElem?_drop,List.getD_eq_getElem?_getD]
def sg (z:Int):Int:=if z<0 then -1 else if 0<z then 1 else 0
theorem zak {z:Int} (h:0<z):sg z=1:=by unfold sg;rw [if_neg (by omega),if_pos h]
theorem vwi {z:Int} (h:z<0):sg z = -1:=by unfold sg;rw [if_pos h]
theorem vbt:sg 0=0:=rfl
theorem vcl (z:Int):(z<0/\sg z = -1)\/(z=0/\sg z=0)\/(0<z/\sg z=1):=by
 rcases Int.lt_trichotomy z 0 with h | h | h
 . exact .inl ⟨h,vwi h⟩
 . exact .inr (.inl ⟨h,by rw [h];rfl⟩)
 . exact .inr (.inr ⟨h,zak h⟩)
def zC (z:Int):List Cell:=[.raw (.int .i64 (sg z)),.ints .i64 (dig z.natAbs)]
def xej (s:Int) (L:List Int):Prop:=digits L/\((L=[]/\s=0)\/(L≠[]/\(s=1\/s = -1)/\L.getD (L.length-1) 0≠0))
instance (s:Int) (L:List Int):Decidable (xej s L):=inferInstanceAs (Decidable (_/\_))
theorem woy (s:Int) (L:List Int):xej s L↔∃ z:Int,s=sg z/\L=dig z.natAbs:=by
 constructor
 . rintro ⟨hd,⟨rfl,rfl⟩ | ⟨hne,hs,htop⟩⟩
   . exact ⟨0,rfl,by rw [show (0:Int).natAbs=0 from rfl,vpc]⟩
   . have hn:norm L:=fun _=>htop
     have hp:=norm.pos hd hn hne
     rcases hs with rfl | rfl
     . exact ⟨num L,(zak hp).symm,by rw [show (num L).natAbs=(num L).toNat by omega];exact yg4 hd hn⟩
     . exact ⟨-num L,(vwi (by omega)).symm,by rw [show (-num L).natAbs=(num L).toNat by omega];exact yg4 hd hn⟩
 . rintro ⟨z,rfl,rfl⟩;refine ⟨xw9 _,?_⟩
   rcases vcl z with ⟨h,e⟩ | ⟨h,e⟩ | ⟨h,e⟩
   . exact .inr ⟨fun h'=>by have:=z4e.1 h';omega,.inr e,yx9 _ (fun h'=>by have:=z4e.1 h';omega)⟩
   . exact .inl ⟨by rw [h,show (0:Int).natAbs=0 from rfl,vpc],e⟩
   . exact .inr ⟨fun h'=>by have:=z4e.1 h';omega,.inl e,yx9 _ (fun h'=>by have:=z4e.1 h';omega)⟩
theorem w9h (z:Int):xej (sg z) (dig z.natAbs):=(woy _ _).2 ⟨z,rfl,rfl⟩
theorem vg4 (z:Int):num (dig z.natAbs)=z.natAbs:=v41 _
theorem wgr (a b:Nat):(dig (a+b)).length<=max (dig a).length (dig b).length+1:=by
 apply yep;have h1:=vmh (n:=a) (k:=max (dig a).length (dig b).length) (Nat.le_max_left _ _);have h2:=vmh (n:=b) (k:=max (dig a).length (dig b).length) (Nat.le_max_right _ _);rw [Nat.pow_succ];omega
theorem yhd (a b:Nat):(dig (a*b)).length<=(dig a).length+(dig b).length:=by
 apply yep;rw [Nat.pow_add];have h1:=vmh (n:=a) (Nat.le_refl _);have h2:=vmh (n:=b) (Nat.le_refl _);exact Nat.mul_lt_mul_of_lt_of_lt h1 h2
theorem zk1 (x y:Int):(dig (x+y).natAbs).length<=max (dig x.natAbs).length (dig y.natAbs).length+1:=
 Nat.le_trans (zui (by omega)) (wgr x.natAbs y.natAbs)
theorem ynf (x y:Int):(dig (x*y).natAbs).length<=(dig x.natAbs).length+(dig y.natAbs).length:=by
 rw [Int.natAbs_mul];exact yhd _ _
theorem z10 {x y q r:Int} (h:x=y*q+r) (h0:0<=r) (h1:r<y):x / y=q/\x % y=r:=by
 rw [h,Int.add_comm];refine ⟨?_,?_⟩
 . rw [Int.add_mul_ediv_left _ _ (by omega),Int.ediv_eq_zero_of_lt h0 h1];omega
 . rw [Int.add_mul_emod_self_left,Int.emod_eq_of_lt h0 h1]
theorem zvc {s z:Int} (h:(s=1/\0<=z)\/(s = -1/\z<=0)\/z=0):[Cell.raw (.int .i64 (if xcd (dig z.natAbs)=[] then 0 else s)),Cell.ints .i64 (xcd (dig z.natAbs))]=zC z:=by
 rw [weo];unfold zC;by_cases h0:z=0
 . subst h0;rw [if_pos (by rw [show (0:Int).natAbs=0 from rfl,vpc])];rfl
 . rw [if_neg (fun h'=>by have:=z4e.1 h';omega)]
   rcases h with ⟨rfl,h⟩ | ⟨rfl,h⟩ | h
   . rw [zak (by omega)]
   . rw [vwi (by omega)]
   . exact absurd h h0
theorem z39 (x y:Int) (h:sg x≠sg y):ord (sg x) (sg y)=ord x y:=by
 rcases vcl x with ⟨h1,e1⟩ | ⟨h1,e1⟩ | ⟨h1,e1⟩<;>rcases vcl y with ⟨h2,e2⟩ | ⟨h2,e2⟩ | ⟨h2,e2⟩<;>rw [e1,e2] at h ⊢<;>unfold ord<;>first | (exact absurd rfl h) | (repeat' split)<;>omega
theorem wz3 (x y:Int) (h:sg x=sg y):sg x*ord (num (dig x.natAbs)) (num (dig y.natAbs))=ord x y:=by
 rw [vg4,vg4]
 rcases vcl x with ⟨h1,e1⟩ | ⟨h1,e1⟩ | ⟨h1,e1⟩<;>rcases vcl y with ⟨h2,e2⟩ | ⟨h2,e2⟩ | ⟨h2,e2⟩<;>rw [e1] at h ⊢<;>rw [e2] at h<;>first | omega | (unfold ord;(repeat' split)<;>omega)
end Go.Slot
namespace Go.Slot.T
open Go Go.RowKit Go.Slot
open Go.Proofs.Tryz (prog)
set_option maxRecDepth 10000
set_option maxHeartbeats 2000000
theorem y1b (s:Int) (L:List Int) (hL:L.length<4611686018427387904):zkh prog 53 [.agg [.raw (.int .i64 s),.ints .i64 L]] (.one (.raw (.bool (decide (xej s L))))):=by
 refine zkh.run [] Go.Proofs.Tryz.func53 rfl rfl ?_
 conv=>simp (disch:=omega) only [go_sem,Go.Proofs.Tryz.f53,List.replicate]
 refine y0w (fun i:Nat=>[(5,.any),(12,.one (.raw (.int .i64 i))),(13,.any),(14,.any),(15,.any),(16,.any),(17,.any),(18,.any),(19,.any),(20,.any),(21,.any),(22,.any)])
  (fun i=>i<=L.length/\digits (L.take i)) (fun i=>L.length-i) 0 ⟨by omega,by simp [digits]⟩ ?_ ?_
 . simp only [go_sem];exact StLe.weaken (by repeat' first | exact .nil | refine .cons (by first | exact .refl _ | exact .any _) ?_) rfl
 intro i ⟨hi,hd⟩
 conv=>simp (disch:=omega) only [go_sem]
 refine zs6 (fun h=>?_) (fun h=>?_)
 . have hi':i<L.length:=by omega
   have hget:L.getD i 0=L[i]:=by simp [hi']
   have hmem:L[i]∈L:=List.getElem_mem hi'
   have hbad:¬(0<=L.getD i 0/\L.getD i 0<=1048575)->¬xej s L:=fun hn hr=>hn (by rw [hget];exact hr.1 _ hmem)
   conv=>simp (disch:=omega) only [go_sem,zby]
   refine v0c (fun h1=>?_) (fun h1=>?_)
   . conv=>simp (disch:=omega) only [go_sem,zby,h1]
     refine zs6 (fun h2=>?_) (fun h2=>?_)
     . conv=>simp (disch:=omega) only [go_sem,zby]
       refine ⟨_,rfl,?_⟩;rw [decide_eq_false (hbad (by omega))];exact .one (.refl _)
     . conv=>simp (disch:=omega) only [go_sem,zby,w64]
       refine ⟨i+1,⟨by omega,?_⟩,by omega,?_⟩
       . intro x hx;rw [List.take_add_one,List.mem_append] at hx
         rcases hx with hx | hx
         . exact hd x hx
         . simp [hi'] at hx;subst hx;rw [<-hget];omega
       . exact StLe.weaken (by repeat' first | exact .nil | refine .cons (by first | exact .refl _ | exact .any _) ?_) rfl
   . conv=>simp (disch:=omega) only [go_sem,zby,h1]
     refine ⟨_,rfl,?_⟩;rw [decide_eq_false (hbad (by omega))];exact .one (.refl _)
 . have hi':i=L.length:=by omega
   have hdig:digits L:=by rw [hi',List.take_length] at hd;exact hd
   conv=>simp (disch:=omega) only [go_sem,zby]
   refine zs6 (fun h1=>?_) (fun h1=>?_)
   . have hnil:L=[]:=by have:L.length=0:=(by omega);simpa using this
     conv=>simp (disch:=omega) only [go_sem,zby]
     refine ⟨_,rfl,?_⟩
     have:decide (xej s L)=decide (s=0):=by
      apply decide_eq_decide.2;simp [xej,hnil,digits]
     rw [this];exact .one (.refl _)
   . have hne:L≠[]:=fun e=>h1 (by rw [e];rfl)
     have hpos:0<L.length:=List.length_pos_iff.2 hne
     conv=>simp (disch:=omega) only [go_sem,zby]
     have hlast:(s=1\/s = -1)->decide (xej s L)=decide (L.getD (L.length-1) 0≠0):=fun hs=>by
      apply decide_eq_decide.2;simp only [xej];constructor
      . rintro ⟨_,⟨h4,_⟩ | ⟨_,_,h4⟩⟩
        . exact absurd h4 hne
        . exact h4
      . exact fun h4=>⟨hdig,.inr ⟨hne,hs,h4⟩⟩
     have e:((L.length:Int)-1).toNat=L.length-1:=by omega
     refine v0c (fun h2=>?_) (fun h2=>?_)
     . conv=>simp (disch:=omega) only [go_sem,zby,h2]
       refine v9r (fun h3=>?_) (fun h3=>?_)
       . subst h3
         conv=>simp (disch:=omega) only [go_sem,zby,w64,e]
         refine ⟨_,rfl,?_⟩;rw [hlast (.inr rfl)];exact .one (.refl _)
       . conv=>simp (disch:=omega) only [go_sem,zby,h3]
         refine ⟨_,rfl,?_⟩
         have:¬xej s L:=by
          rintro ⟨_,⟨h4,_⟩ | ⟨_,h4,_⟩⟩
          . exact hne h4
          . omega
         rw [decide_eq_false this];exact .one (.refl _)
     . subst h2
       conv=>simp (disch:=omega) only [go_sem,zby,w64,e]
       refine ⟨_,rfl,?_⟩;rw [hlast (.inl rfl)];exact .one (.refl _)
theorem vr3 (L:List Int) (hL:L.length<4611686018427387904):zkh prog 160 [.one (.ints .i64 L)] (.one (.ints .i64 (L.take (wj5 L L.length)))):=by
 refine zkh.run [] Go.Proofs.Tryz.func160 rfl rfl ?_
 conv=>simp (disch:=omega) only [go_sem,Go.Proofs.Tryz.f160,List.replicate]
 refine y0w (fun n:Nat=>[(3,.one (.raw (.int .i64 n))),(6,.any),(7,.any),(8,.any),(9,.any),(10,.any),(11,.any),(12,.any),(13,.any),(14,.any),(15,.any),(16,.any),(17,.any)])
  (fun n=>n<=L.length/\wj5 L L.length=wj5 L n) (fun n=>n) L.length ⟨Nat.le_refl _,rfl⟩ ?_ ?_
 . simp only [go_sem];exact StLe.weaken (by repeat' first | exact .nil | refine .cons (by first | exact .refl _ | exact .any _) ?_) rfl
 intro n ⟨hn,ht⟩
 conv=>simp (disch:=omega) only [go_sem]
 have done:wj5 L L.length=n->((n:Int)).toNat=wj5 L L.length:=fun h=>by omega
 refine v9r (fun h=>?_) (fun h=>?_)
 . obtain ⟨m,rfl⟩:∃ m,n=m+1:=⟨n-1,by omega⟩
   have e:((m+1:Nat):Int)-1=(m:Nat):=by omega
   conv=>simp (disch:=omega) only [go_sem,zby,h,w64,e]
   refine zs6 (fun h2=>?_) (fun h2=>?_)
   . conv=>simp (disch:=omega) only [go_sem,zby,h,w64,e]
     refine ⟨m,⟨by omega,by rw [ht];simp only [wj5];rw [if_pos h2]⟩,by omega,?_⟩;exact StLe.weaken (by repeat' first | exact .nil | refine .cons (by first | exact .refl _ | exact .any _) ?_) rfl
   . have hfin:wj5 L L.length=m+1:=by rw [ht];simp only [wj5];rw [if_neg h2]
     conv=>simp (disch:=omega) only [go_sem,zby,h,w64,e]
     refine ⟨_,rfl,?_⟩;rw [hfin];exact .one (.refl _)
 . have h0:n=0:=by omega
   subst h0
   conv=>simp (disch:=omega) only [go_sem,zby,h,w64]
   refine ⟨_,rfl,?_⟩;rw [ht];exact .one (.refl _)
theorem vzi (pre:List Value) (q:List Value) (L:List Int) (hL:L.length<4611686018427387904):vj9 prog 160 [.arr pre (.ints .i64 L) (some q)] 0 (.arr pre (.ints .i64 L) (some q)) (.awn 0 1 0 (wj5 L L.length)):=by
 refine vj9.run [] Go.Proofs.Tryz.func160 rfl rfl (fun t h=>h) ?_
 conv=>simp (disch:=omega) only [go_sem,Go.Proofs.Tryz.f160,List.replicate]
 refine y0w (fun n:Nat=>[(3,.one (.raw (.int .i64 n))),(6,.any),(7,.any),(8,.any),(9,.any),(10,.any),(11,.any),(12,.any),(13,.any),(14,.any),(15,.any),(16,.any),(17,.any)])
  (fun n=>n<=L.length/\wj5 L L.length=wj5 L n) (fun n=>n) L.length ⟨Nat.le_refl _,rfl⟩ ?_ ?_
 . simp only [go_sem];exact StLe.weaken (by repeat' first | exact .nil | refine .cons (by first | exact .refl _ | exact .any _) ?_) rfl
 intro n ⟨hn,ht⟩
 conv=>simp (disch:=omega) only [go_sem]
 have done:wj5 L L.length=n->((n:Int)).toNat=wj5 L L.length:=fun h=>by omega
 refine v9r (fun h=>?_) (fun h=>?_)
 . obtain ⟨m,rfl⟩:∃ m,n=m+1:=⟨n-1,by omega⟩
   have e:((m+1:Nat):Int)-1=(m:Nat):=by omega
   conv=>simp (disch:=omega) only [go_sem,zby,h,w64,e]
   refine zs6 (fun h2=>?_) (fun h2=>?_)
   . conv=>simp (disch:=omega) only [go_sem,zby,h,w64,e]
     refine ⟨m,⟨by omega,by rw [ht];simp only [wj5];rw [if_pos h2]⟩,by omega,?_⟩;exact StLe.weaken (by repeat' first | exact .nil | refine .cons (by first | exact .refl _ | exact .any _) ?_) rfl
   . have hfin:wj5 L L.length=m+1:=by rw [ht];simp only [wj5];rw [if_neg h2]
     conv=>simp (disch:=omega) only [go_sem,zby,h,w64,e]
     exact ⟨rfl,rfl,rfl,2,rfl,by rw [hfin];rfl⟩
 . have h0:n=0:=by omega
   subst h0
   conv=>simp (disch:=omega) only [go_sem,zby,h,w64]
   exact ⟨rfl,rfl,rfl,2,rfl,by rw [ht];rfl⟩
theorem zzp (L:List Int) (n:Nat) (hn:n=L.length) (hL:L.length<4611686018427387904):z5q prog 160 [.any] 0 (.wn (.ints .i64 L) 0 n) (.wn (.ints .i64 L) 0 n) (.awn 0 1 0 (wj5 L L.length)):=fun pre q=>by
 have:(Cell.ints .i64 L).sub 0 n=.ints .i64 L:=by simp [Cell.sub,hn]
 rw [this];exact vzi pre q L hL
theorem v2h {L:List Int} {n:Int} (hd:digits L) (h:num L=n):AV.arr [] (.ints .i64 (L.take (wj5 L L.length))) none=.arr [] (.ints .i64 (dig n.toNat)) none:=by
 rw [<-yps hd h];rfl
def bigC (s:Int) (L:List Int):List Cell:=[.raw (.int .i64 s),.ints .i64 L]
theorem wa6 (s:Int) (L:List Int) (hL:L.length<4611686018427387904) :
 zkh prog 114 [.one (.raw (.int .i64 s)),.one (.ints .i64 L)] (.agg (bigC (if xcd L=[] then 0 else s) (xcd L))):=by
 refine zkh.run [] Go.Proofs.Tryz.func114 rfl rfl ?_
 conv=>simp (disch:=omega) only [go_sem,Go.Proofs.Tryz.f114,List.replicate]
 refine vmb (vr3 L hL) ?_;rw [show L.take (wj5 L L.length)=xcd L from rfl]
 conv=>simp (disch:=omega) only [go_sem]
 refine zs6 (fun h=>?_) (fun h=>?_)
 . have h0:xcd L=[]:=by have:(xcd L).length=0:=(by omega);simpa using this
   conv=>simp (disch:=omega) only [go_sem,zby]
   refine ⟨_,rfl,?_⟩;rw [h0];exact .one (.agg (.cons (.refl _) (.cons (.yns _) .nil)))
 . have h0:xcd L≠[]:=fun e=>h (by rw [e];rfl)
   conv=>simp (disch:=omega) only [go_sem,zby]
   refine ⟨_,rfl,?_⟩
   try rw [if_neg h0]
   exact .one (.refl _)
theorem wr9 (b:Bool) (s:Int) (L:List Int) :
 zkh prog 111 [.one (.raw (.bool b)),.agg (bigC s L)] (.tup [.agg (if b then bigC s L else bigC 0 []),.one (.raw (.int .i64 (if b then 0 else 1)))]):=by
 refine zkh.run [] Go.Proofs.Tryz.func111 rfl rfl ?_
 conv=>simp (disch:=omega) only [go_sem,Go.Proofs.Tryz.f111,List.replicate,bigC]
 refine z3c (fun h=>?_) (fun h=>?_)
 . have h:b=false:=by simpa using h
   subst h
   conv=>simp (disch:=omega) only [go_sem,zby]
   refine ⟨_,rfl,?_⟩;exact .tup (.cons (.agg (.cons (.refl _) (.cons (.yns _) .nil))) (.cons (.refl _) .nil))
 . have h:b=true:=by simpa using h
   subst h
   conv=>simp (disch:=omega) only [go_sem,zby]
   refine ⟨_,rfl,?_⟩;exact .tup (.cons (.refl _) (.cons (.refl _) .nil))
theorem zkp:zkh prog 112 [.one (.ints .i64 [])] (.one (.ints .i64 [])):=by
 refine zkh.z1e (fun b=>?_);refine zkh.run [] Go.Proofs.Tryz.func112 rfl rfl ?_
 conv=>simp (disch:=omega) only [go_sem,Go.Proofs.Tryz.f112,List.replicate]
 refine z3c (fun h=>?_) (fun h=>?_)
 . conv=>simp (disch:=omega) only [go_sem,zby]
   exact ⟨_,rfl,.one (.one (.z1e _))⟩
 . conv=>simp (disch:=omega) only [go_sem,zby]
   exact ⟨_,rfl,.one (.refl _)⟩
theorem ywt (L:List Int) (h0:0<L.length) (hL:L.length<=17592186044416):zkh prog 112 [.one (.ints .i64 L)] (.arr [] (.ints .i64 L) none):=by
 refine zkh.run [] Go.Proofs.Tryz.func112 rfl rfl ?_
 conv=>simp (disch:=omega) only [go_sem,Go.Proofs.Tryz.f112,List.replicate,zby]
 exact ⟨_,rfl,.one (.refl _)⟩
theorem yi4 (L:List Int) (hL:L.length<=17592186044416):zkh prog 112 [.one (.ints .i64 L)] (.one (.ints .i64 L)):=by
 by_cases h:L=[]
 . subst h;exact zkp
 . exact (ywt L (List.length_pos_iff.2 h) hL).le .own
end Go.Slot.T
