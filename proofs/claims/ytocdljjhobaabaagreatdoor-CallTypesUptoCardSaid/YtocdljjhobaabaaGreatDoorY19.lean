/- The proof, part Y19: Na, La, Lb, Lc, Ca. -/
import Derived.Test.YtocdljjhobaabaaGreatDoorY18
import Derived.Test.YtocdljjhobaabaaGreatDoorY7
namespace Go.Hp.T
open Go Go.RowKit Go.Slot Go.Hp Go.Slot.T
open Go.Proofs.Tryz (prog)
attribute [local irreducible] hide RH
set_option maxRecDepth 10000
set_option maxHeartbeats 4000000
variable {Γ:List (Nat×List Cell)}
theorem vcq (c:Int):CallsD Γ prog 89 [.one (c8 c)] (.one (cB (zlq c))):=by
 refine CallsD.run [] Go.Proofs.Tryz.func89 rfl rfl rfl ?_;simp only [Go.Proofs.Tryz.f89];refine hgR ?_
 repeat' ((first | refine hfk ?_ ?_<;>intros | refine hik ?_)<;>refine hgS ?_)
 all_goals refine lf1 @zlq.eq_def ?_;first | exact trivial | rfl
theorem x8y (c:Int):CallsD Γ prog 113 [.one (c8 c)] (.one (cB (isDigit c))):=by
 refine CallsD.run [] Go.Proofs.Tryz.func113 rfl rfl rfl ?_;simp only [Go.Proofs.Tryz.f113];refine hgR ?_
 repeat' ((first | refine hfk ?_ ?_<;>intros | refine hik ?_)<;>refine hgS ?_)
 all_goals refine lf1 @isDigit.eq_def ?_;first | exact trivial | rfl
theorem y0r (c:Int):CallsD Γ prog 105 [.one (c8 c)] (.one (cB (yuk c))):=by
 refine CallsD.run [] Go.Proofs.Tryz.func105 rfl rfl rfl ?_;simp only [Go.Proofs.Tryz.f105];refine hgR ?_
 repeat' ((first | refine hfk ?_ ?_<;>intros | refine hik ?_)<;>refine hgS ?_)
 all_goals refine lf1 @yuk.eq_def ?_;first | exact trivial | rfl
theorem wk1 (c:Int):CallsD Γ prog 91 [.one (c8 c)] (.one (cB (waz c))):=by
 refine CallsD.run [] Go.Proofs.Tryz.func91 rfl rfl rfl ?_;simp only [Go.Proofs.Tryz.f91];refine hgR ?_
 repeat' ((first | refine hfk ?_ ?_<;>intros | refine hik ?_ | with_reducible first | refine v47 (vcq _) ?_ | refine vrf (vcq _) ?_ | refine v47 (x8y _) ?_ | refine vrf (x8y _) ?_)<;>refine hgS ?_)
 all_goals refine lf1 @waz.eq_def ?_;first | exact trivial | rfl
theorem wkc (s:ByteArray) (f:FuncId) (p:Int->Bool) (hs:s.size<=1099511627776) (h:∀ c,CallsD Γ prog f [.one (c8 c)] (.one (cB (p c)))):CallsD Γ prog 90 [.one (cS s),fN f] (.one (cI (vhr p s))):=by
 refine CallsD.run [] Go.Proofs.Tryz.func90 rfl rfl rfl ?_;simp only [Go.Proofs.Tryz.f90];refine hgR ?_;refine yxw [0,1] (fun n:Nat=>[(5,.one (.dat (cI n)))]) (fun _=>[]) (fun n=>n<=s.size/\∀ j,j<n->p (w7f s j)=true) (fun n=>s.size-n) 0 ⟨Nat.zero_le _,fun j hj=>by omega⟩ ?_ ?_
 . refine hg ?_;exact StH.ygu (by repeat' first | exact .nil | refine .cons (by first | exact .refl _ | exact .any _) ?_)
 intro n hn;obtain ⟨hn,hj⟩:=hn;refine hg ?_
 repeat' ((first | refine hfk ?_ ?_<;>intros | refine hik ?_ | with_reducible first | refine v47 (h _) ?_ | refine vrf (h _) ?_)<;>refine hgS ?_)
 . rename_i h1;refine ⟨n+1,⟨by omega,fun j hj'=>?_⟩,by omega,by exact StH.ygu (by repeat' first | exact .nil | refine .cons (by first | exact .refl _ | exact .any _) ?_)⟩
   rcases Nat.lt_or_eq_of_le (Nat.le_of_lt_succ hj') with h2 | h2
   . exact hj j h2
   . rw [h2];exact h1
 . rename_i h1;rw [w9k hn hj (.inr h1)];exact RLe.ofEq rfl
 . rw [w9k hn hj (.inl (by omega))];exact RLe.ofEq rfl
theorem wam (s:ByteArray) (hs:s.size<=1099511627776):CallsD Γ prog 61 [.one (cS s)] (.one (cB (isName s))):=by
 refine CallsD.run [] Go.Proofs.Tryz.func61 rfl rfl rfl ?_;simp only [Go.Proofs.Tryz.f61];refine hgR ?_
 repeat' ((first | refine hfk ?_ ?_<;>intros | refine hik ?_ | with_reducible first | refine v47 (vcq _) ?_ | refine vrf (vcq _) ?_ | refine v47 (wkc s _ _ hs wk1) ?_ | refine vrf (wkc s _ _ hs wk1) ?_)<;>refine hgS ?_)
 all_goals refine lf1 @isName.eq_def ?_;first | exact trivial | rfl
abbrev bldB (n:Nat):SB:=.box [.ptr 0 0,.sl 1 1 0 n] (some 201)
abbrev bldA (l:List Int):SB:=.arr (.ints .u8 l) 0 (some 5)
theorem xq5:liesAt prog prog.depth 201 (2 / prog.cellsOf 201) 0 201 1=true:=by kernel_rfl
theorem coU8:prog.cellsOf 5=1:=by kernel_rfl
attribute [go_sem] xq5 coU8
theorem ydt (x:HC):xgj Γ prog 155 [.box [.dat (.raw (.pointer none)),x] (some 201)] [.one (.ptr 0 0)] [.box [.ptr 0 0,x] (some 201)] (.tup []):=by
 refine xgj.run [] Go.Proofs.Tryz.func155 rfl rfl ?_;simp only [Go.Proofs.Tryz.f155];refine hgR ?_;exact StH.refl
theorem zgy (x:HC) (T:Option TypeId) (y:SB):xgj Γ prog 155 [.box [.ptr 0 0,x] T,y] [.one (.ptr 0 0)] [.box [.ptr 0 0,x] T,y] (.tup []):=by
 refine xgj.run [] Go.Proofs.Tryz.func155 rfl rfl ?_;simp only [Go.Proofs.Tryz.f155];refine hgR ?_;exact StH.refl
theorem w8u (c:Int):xgj Γ prog 131 [.box [.dat (.raw (.pointer none)),.dat .zc] (some 201)] [.one (.ptr 0 0),.one (.dat (c8 c))] [bldB 1,bldA [c]] (.one (.dat (.raw .nilIface))):=by
 refine xgj.run [] Go.Proofs.Tryz.func131 rfl rfl ?_;simp only [Go.Proofs.Tryz.f131];refine hgR ?_;refine wq6 (ydt _) ?_;refine hg ?_;exact StH.refl
theorem y5h (l:List Int) (c:Int) (hl:l.length<=68719476736):xgj Γ prog 131 [bldB l.length,bldA l] [.one (.ptr 0 0),.one (.dat (c8 c))] [.box [.ptr 0 0,.sl 2 1 0 (l++[c]).length] (some 201),.dead,bldA (l++[c])] (.one (.dat (.raw .nilIface))):=by
 refine xgj.run [] Go.Proofs.Tryz.func131 rfl rfl ?_;simp only [Go.Proofs.Tryz.f131];refine hgR ?_;refine wq6 (zgy _ _ _) ?_;refine hg ?_;exact StH.refl
theorem wbo (l:List Int) (hl:l.all x5a=true) (h0:0<l.length) (h1:l.length<=1099511627776):xgj Γ prog 132 [bldB l.length,bldA l] [.one (.ptr 0 0)] [bldB l.length,.dead] (.one (.dat (cS (strOfNums l)))):=by
 refine xgj.run [] Go.Proofs.Tryz.func132 rfl rfl ?_;simp only [Go.Proofs.Tryz.f132];refine hgR ?_
 conv=>simp (maxSteps:=2000000) (disch:=omega) only [go_sem,Nat.reduceAdd,Nat.reduceSub,Nat.reduceMul,Int.reduceToNat,Nat.reduceEqDiff,Nat.reduceBEq,Nat.reduceBneDiff,Nat.reduceLT,Int.reduceEq,Int.reduceLT,Int.reduceLE,Int.reduceNeg,Int.reduceAdd,Int.reduceSub,Int.reduceMul,hl,h0,true_and,show l.length<=9223372036854775807 from by omega]
 repeat' ((first | refine hfk ?_ ?_<;>intros | refine hik ?_)<;>refine hgS ?_)
 exact StH.refl
theorem ync (s:ByteArray) (hs:s.size<=1073741824):CallsD Γ prog 103 [.one (cS s)] (.one (cS (escS s))):=by
 refine CallsD.run [] Go.Proofs.Tryz.func103 rfl rfl rfl ?_;simp only [Go.Proofs.Tryz.f103];refine hgR ?_;refine wq6 (w8u _) ?_;refine hg ?_;refine yxw [0,2,3,7] (fun i:Nat=>[(8,.one (.dat (cI i)))]) (fun i=>[bldB (escA s i).length,bldA (escA s i)]) (fun i=>i<=s.size) (fun i=>s.size-i) 0 (Nat.zero_le _) ?_ ?_
 . refine hg ?_;exact StH.same svl rfl
 intro i hi;have hlen:=z2i s i;refine hg ?_
 have two:∀ c,(c=34\/c=92)->i<s.size->w7f s i=c->escA s (i+1)=escA s i++[92]++[c]:=fun c h hi h2=>by
  rw [v4n hi,List.append_assoc,h2];rcases h with h | h<;>rw [h]<;>rfl
 repeat' ((first | refine hfk ?_ ?_<;>intros | refine hik ?_)<;>refine hgS ?_)
 . rename_i h _;refine wq6 (y5h _ _ (by omega)) ?_;refine hgS ?_;refine xmn [0,2] (y5h (escA s i++[92]) _ (by simp only [List.length_append,List.length_singleton];omega)) rfl (by decide) rfl rfl rfl ?_;refine hgS ?_;rw [<-two 92 (.inr rfl) (by omega) h];refine ⟨i+1,by omega,by omega,StH.back [0,2,3,7,8] 1 3 2 rfl rfl rfl rfl rfl (by kernel_rfl) ?_⟩;refine hg ?_;exact StH.same svl rfl
 . rename_i h1 _ h2 _ h3 _;refine wq6 (y5h _ _ (by omega)) ?_;refine hgS ?_
   have one:escA s i++[w7f s i]=escA s (i+1):=by
    rw [v4n (by omega)];unfold escB;rw [decide_eq_false h2,decide_eq_false h3];rfl
   rw [one];refine ⟨i+1,by omega,by omega,StH.back [0,2,3,7,8] 1 2 2 rfl rfl rfl rfl rfl (by kernel_rfl) ?_⟩;refine hg ?_;exact StH.same svl rfl
 . rename_i h _;refine wq6 (y5h _ _ (by omega)) ?_;refine hgS ?_;refine xmn [0,2] (y5h (escA s i++[92]) _ (by simp only [List.length_append,List.length_singleton];omega)) rfl (by decide) rfl rfl rfl ?_;refine hgS ?_;rw [<-two 34 (.inl rfl) (by omega) h];refine ⟨i+1,by omega,by omega,StH.back [0,2,3,7,8] 1 3 2 rfl rfl rfl rfl rfl (by kernel_rfl) ?_⟩;refine hg ?_;exact StH.same svl rfl
 . have e:i=s.size:=by omega
   subst e;refine wq6 (y5h _ _ (by omega)) ?_;refine hg ?_;refine xmn [0,2] (wbo (escA s s.size++[34]) (by rw [List.all_append,xpq];rfl) (by simp) (by simp only [List.length_append,List.length_singleton];omega)) rfl (by decide) rfl rfl rfl ?_;refine hg ?_;exact RLe.ofEq rfl
theorem ytc (s:ByteArray) (hs:s.size<=1073741824):∃ t,CallsD Γ prog 73 [.one (cS s)] (.tup [.one (cS t),.one (cB (x6w s))]):=by
 refine ⟨bif x6w s then escS s else ⟨#[]⟩,?_⟩;refine CallsD.run [] Go.Proofs.Tryz.func73 rfl rfl rfl ?_;simp only [Go.Proofs.Tryz.f73];refine hgR ?_
 repeat' ((first | refine hfk ?_ ?_<;>intros | refine hik ?_ | with_reducible first | refine v47 (wkc s _ _ (by omega) y0r) ?_ | refine vrf (wkc s _ _ (by omega) y0r) ?_ | refine v47 (ync s hs) ?_ | refine vrf (ync s hs) ?_)<;>refine hgS ?_)
 all_goals refine lf1 @x6w.eq_def ?_;first | exact trivial | rfl
end Go.Hp.T
namespace Go.Slot
open Go Go.RowKit
set_option maxRecDepth 10000
def digits (L:List Int):Prop:=∀ x∈L,0<=x/\x<=1048575
instance (L:List Int):Decidable (digits L):=inferInstanceAs (Decidable (∀ x∈L,0<=x/\x<=1048575))
def num:List Int->Int
 | []=>0
 | d::l=>d+1048576*num l
theorem digits.nil:digits []:=fun _ h=>by cases h
theorem digits.cons {d:Int} {l:List Int} (h:0<=d/\d<=1048575) (hl:digits l):digits (d::l):=fun x hx=>by
 rcases List.mem_cons.1 hx with rfl | hx
 . exact h
 . exact hl x hx
theorem digits.head {d:Int} {l:List Int} (h:digits (d::l)):0<=d/\d<=1048575:=h d (by simp)
theorem digits.tail {d:Int} {l:List Int} (h:digits (d::l)):digits l:=fun x hx=>h x (by simp [hx])
theorem digits.append {l m:List Int} (hl:digits l) (hm:digits m):digits (l++m):=fun x hx=>by
 rcases List.mem_append.1 hx with hx | hx
 . exact hl x hx
 . exact hm x hx
theorem digits.take {l:List Int} (h:digits l) (n:Nat):digits (l.take n):=fun x hx=>h x (List.mem_of_mem_take hx)
theorem digits.drop {l:List Int} (h:digits l) (n:Nat):digits (l.drop n):=fun x hx=>h x (List.mem_of_mem_drop hx)
theorem digits.getD {l:List Int} (h:digits l) (i:Nat):0<=l.getD i 0/\l.getD i 0<=1048575:=by
 rw [List.getD_eq_getElem?_getD]
 cases hh:l[i]? with
 | none=>simp
 | some x=>exact h x (List.mem_of_getElem? hh)
theorem digits.set {l:List Int} (h:digits l) (i:Nat) {x:Int} (hx:0<=x/\x<=1048575):digits (l.set i x):=fun y hy=>by
 rcases List.mem_or_eq_of_mem_set hy with hy | rfl
 . exact h y hy
 . exact hx
theorem digits.rep (n:Nat):digits (List.replicate n 0):=fun x hx=>by
 rw [List.mem_replicate] at hx;omega
theorem num_nonneg:∀{l:List Int},digits l->0<=num l
 | [],_=>Int.le_refl _
 | d::l,h=>by have:=num_nonneg h.tail;have:=h.head;simp only [num];omega
theorem wc0 (n:Nat):(0:Int)<1048576 ^ n:=Int.pow_pos (by decide)
theorem y5g {m n:Nat} (h:m<=n):(1048576:Int) ^ m<=1048576 ^ n:=by
 obtain ⟨k,rfl⟩:=Nat.exists_eq_add_of_le h;rw [Int.pow_add];have h1:=wc0 k;have h2:=Int.mul_le_mul_of_nonneg_left (show (1:Int)<=1048576 ^ k by omega) (Int.le_of_lt (wc0 m))
 rwa [Int.mul_one] at h2
theorem yp6:∀{l:List Int},digits l->num l<1048576 ^ l.length
 | [],_=>by simp [num]
 | d::l,h=>by
  have:=yp6 h.tail
  have:=h.head
  simp only [num,List.length_cons,Int.pow_succ];omega
theorem wf0:∀(l m:List Int),num (l++m)=num l+1048576 ^ l.length*num m
 | [],m=>by simp [num]
 | d::l,m=>by
  simp only [List.cons_append,num,List.length_cons,wf0 l m,Int.pow_succ];rw [Int.mul_add,Int.mul_comm (1048576 ^ l.length) 1048576,Int.mul_assoc];omega
theorem vs8 (n:Nat):num (List.replicate n 0)=0:=by
 induction n with
 | zero=>rfl
 | succ n ih=>simp [List.replicate_succ,num,ih]
theorem yn1:∀(l:List Int) (i:Nat),num (l.take (i+1))=num (l.take i)+1048576 ^ i*l.getD i 0
 | [],i=>by simp [num]
 | d::l,0=>by simp [num]
 | d::l,i+1=>by
  simp only [List.take_succ_cons,num,yn1 l i,List.getD_cons_succ,Int.pow_succ];rw [Int.mul_add,Int.mul_comm (1048576 ^ i) 1048576,Int.mul_assoc];omega
theorem ycs:∀(l:List Int) (i:Nat) (x:Int),i<l.length->num (l.set i x)=num l+1048576 ^ i*(x-l.getD i 0)
 | [],i,x,h=>by simp at h
 | d::l,0,x,_=>by simp [num];omega
 | d::l,i+1,x,h=>by
  simp only [List.set_cons_succ,num,ycs l i x (by simpa using h),List.getD_cons_succ,Int.pow_succ];rw [Int.mul_add,Int.mul_comm (1048576 ^ i) 1048576,Int.mul_assoc];omega
theorem whj (l:List Int) (i:Nat):num l=num (l.take i)+1048576 ^ (l.take i).length*num (l.drop i):=by
 rw [<-wf0,List.take_append_drop]
def ww1 (l:List Int) (i:Nat):Prop:=∀ j,i<=j->l.getD j 0=0
theorem ww1.rep (n:Nat):ww1 (List.replicate n 0) 0:=fun j _=>by
 rw [List.getD_eq_getElem?_getD,List.getElem?_replicate];split<;>rfl
theorem zei {l:List Int} {i j:Nat} (x:Int) (h:i≠j):(l.set i x).getD j 0=l.getD j 0:=by
 rw [List.getD_eq_getElem?_getD,List.getElem?_set_ne h,List.getD_eq_getElem?_getD]
theorem ww1.set {l:List Int} {i:Nat} (h:ww1 l i) (x:Int):ww1 (l.set i x) (i+1):=fun j hj=>by
 rw [zei x (by omega)];exact h j (by omega)
theorem ww1.yzy {l:List Int} {i k:Nat} (h:ww1 l i) (x:Int) (hk:k<i):ww1 (l.set k x) i:=fun j hj=>by
 rw [zei x (by omega)];exact h j hj
theorem ww1.mono {l:List Int} {i j:Nat} (h:ww1 l i) (hij:i<=j):ww1 l j:=fun k hk=>h k (by omega)
theorem zea {l:List Int} {i n:Nat} (h:i<n):(l.take n).getD i 0=l.getD i 0:=by
 rw [List.getD_eq_getElem?_getD,List.getElem?_take_of_lt h,List.getD_eq_getElem?_getD]
theorem xta {l:List Int} {i:Nat} (h:l.length<=i):l.getD i 0=0:=by
 rw [List.getD_eq_getElem?_getD,List.getElem?_eq_none h];rfl
theorem xn2 {l:List Int} {i:Nat} (h:l.length<=i):l.take i=l:=List.take_of_length_le h
theorem z8g {o:List Int} {i:Nat} (hi:i<o.length) (s:Int):num (o.set i (s % 1048576))+1048576 ^ (i+1)*(s / 1048576)=num o+1048576 ^ i*(s-o.getD i 0):=by
 rw [ycs o i _ hi,Int.pow_succ];have h:=Int.emod_add_mul_ediv s 1048576;generalize (1048576:Int) ^ i=P;generalize s % 1048576=r at *;generalize s / 1048576=q at *;generalize o.getD i 0=z
 grind
def norm (l:List Int):Prop:=l≠[]->l.getD (l.length-1) 0≠0
theorem norm.nil:norm []:=fun h=>absurd rfl h
theorem norm.tail {d:Int} {l:List Int} (h:norm (d::l)):norm l:=fun hl=>by
 have:=h (by simp)
 have hp:0<l.length:=List.length_pos_iff.2 hl;rw [List.length_cons,show l.length+1-1=(l.length-1)+1 by omega,List.getD_cons_succ] at this;exact this
theorem norm.pos:∀{l:List Int},digits l->norm l->l≠[]->0<num l
 | [],_,_,h=>absurd rfl h
 | d::l,hd,hn,_=>by
  simp only [num];by_cases hl:l=[]
  . subst hl
    have:=hn (by simp)
    have h0:=hd.head;simp at this;simp only [num];omega
  . have:=norm.pos hd.tail hn.tail hl
    have h0:=hd.head;omega
theorem wk2:∀{l m:List Int},digits l->norm l->digits m->norm m->num l=num m->l=m
 | [],[],_,_,_,_,_=>rfl
 | [],d::m,_,_,hm,nm,h=>by have:=norm.pos hm nm (by simp);rw [<-h] at this;simp [num] at this
 | d::l,[],hl,nl,_,_,h=>by have:=norm.pos hl nl (by simp);rw [h] at this;simp [num] at this
 | d::l,e::m,hl,nl,hm,nm,h=>by
  simp only [num] at h;have h1:=hl.head;have h2:=hm.head
  have hde:d=e:=by omega
  have:=wk2 hl.tail nl.tail hm.tail nm.tail (by omega)
  rw [hde,this]
def dig (n:Nat):List Int:=if h:n=0 then [] else ((n % 1048576:Nat):Int)::dig (n / 1048576)
 termination_by n
 decreasing_by omega
theorem yil:dig 0=[]:=by unfold dig;simp
theorem zpm {n:Nat} (h:n≠0):dig n=((n % 1048576:Nat):Int)::dig (n / 1048576):=by
 rw [dig];simp [h]
theorem wwc:∀ n:Nat,digits (dig n)/\norm (dig n)/\num (dig n)=n/\(dig n=[]->n=0):=by
 intro n
 induction n using Nat.strongRecOn with
 | ind n ih =>
  by_cases h:n=0
  . subst h;rw [yil];exact ⟨digits.nil,norm.nil,rfl,fun _=>rfl⟩
  . rw [zpm h];obtain ⟨h1,h2,h3,h4⟩:=ih (n / 1048576) (by omega);refine ⟨digits.cons (by omega) h1,fun _=>?_,by simp only [num,h3];omega,fun e=>by cases e⟩;by_cases hn:dig (n / 1048576)=[]
    . rw [hn]
      have:=h4 hn
      simp;omega
    . have:=h2 hn
      have hp:0<(dig (n / 1048576)).length:=List.length_pos_iff.2 hn;rw [List.length_cons,show (dig (n / 1048576)).length+1-1=((dig (n / 1048576)).length-1)+1 by omega,List.getD_cons_succ];exact this
theorem xfr (n:Nat):digits (dig n):=(wwc n).1
theorem yer (n:Nat):norm (dig n):=(wwc n).2.1
theorem wft (n:Nat):num (dig n)=n:=(wwc n).2.2.1
theorem vv0 {n:Nat}:dig n=[]↔n=0:=⟨(wwc n).2.2.2,fun h=>by rw [h,yil]⟩
theorem yvi {l:List Int} (hd:digits l) (hn:norm l):l=dig (num l).toNat:=
 wk2 hd hn (xfr _) (yer _) (by rw [wft];have:=num_nonneg hd;omega)
theorem w6f {l:List Int} {n:Int} (hd:digits l) (hn:norm l) (h:num l=n):l=dig n.toNat:=by rw [<-h];exact yvi hd hn
theorem xgb {n k:Nat} (h:n<1048576 ^ k):(dig n).length<=k:=by
 induction k generalizing n with
 | zero=>have:n=0:=(by simpa using h);subst this;rw [yil];exact Nat.le_refl _
 | succ k ih=>
  by_cases h0:n=0
  . subst h0;rw [yil];exact Nat.zero_le _
  . rw [zpm h0,List.length_cons];exact Nat.succ_le_succ (ih (by rw [Nat.pow_succ] at h;omega))
theorem xir {n k:Nat} (h:(dig n).length<=k):n<1048576 ^ k:=by
 have h1:=yp6 (xfr n);rw [wft] at h1;have h2:(1048576:Nat) ^ (dig n).length<=1048576 ^ k:=Nat.pow_le_pow_right (by decide) h
 have h3:((1048576 ^ (dig n).length:Nat):Int)=1048576 ^ (dig n).length:=by simp
 omega
theorem wo8 {m n:Nat} (h:m<=n):(dig m).length<=(dig n).length:=xgb (Nat.lt_of_le_of_lt h (xir (Nat.le_refl _)))
def vod (L:List Int):Nat->Nat
 | 0=>0
 | n+1=>if L.getD n 0=0 then vod L n else n+1
theorem zms (L:List Int):∀ n,vod L n<=n
 | 0=>Nat.le_refl _
 | n+1=>by unfold vod;split;exact Nat.le_succ_of_le (zms L n);exact Nat.le_refl _
def xuh (L:List Int):List Int:=L.take (vod L L.length)
theorem wrm (L:List Int):(xuh L).length=vod L L.length:=by
 have:=zms L L.length
 simp [xuh];omega
theorem xvb (L:List Int):∀ n,n<=L.length->norm (L.take (vod L n))/\num (L.take (vod L n))=num (L.take n)
 | 0,_=>by simp [vod,norm]
 | n+1,h=>by
  unfold vod
  split
  . rename_i h0;obtain ⟨h1,h2⟩:=xvb L n (by omega);refine ⟨h1,?_⟩;rw [h2,yn1,h0];simp
  . rename_i h0;refine ⟨fun _=>?_,rfl⟩;rw [show (L.take (n+1)).length-1=n by simp;omega,zea (by omega)];exact h0
theorem v2o {L:List Int} (hd:digits L):xuh L=dig (num L).toNat:=by
 have h:=xvb L L.length (Nat.le_refl _);rw [List.take_length] at h;exact w6f (hd.take _) h.1 h.2
theorem z1l {L:List Int} {n:Int} (hd:digits L) (h:num L=n):xuh L=dig n.toNat:=by rw [<-h];exact v2o hd
theorem v3c (n:Nat):xuh (dig n)=dig n:=by rw [v2o (xfr n),wft];rfl
theorem v8w (L:List Int):(xuh L).length<=L.length:=by rw [wrm];exact zms _ _
theorem z8f:∀(l:List Int) (n:Nat),num (l.drop n)=l.getD n 0+1048576*num (l.drop (n+1))
 | [],n=>by simp [num]
 | d::l,0=>by simp [num]
 | d::l,n+1=>by simpa using z8f l n
theorem vj3 {l:List Int} {i:Nat} (x:Int) (h:i<l.length):(l.set i x).drop i=x::l.drop (i+1):=by
 rw [List.drop_set,if_neg (by omega),Nat.sub_self]
 cases hh:l.drop i with
 | nil=>have:=congrArg List.length hh;simp at this;omega
 | cons y r=>rw [List.set_cons_zero,<-List.drop_drop,hh];rfl
def ord (x y:Int):Int:=if x<y then -1 else if y<x then 1 else 0
theorem vrj {a b:List Int} (ha:digits a) (na:norm a) (hb:digits b) (nb:norm b) (h:a.length<b.length):num a<num b:=by
 rw [yvi ha na,yvi hb nb] at h
 have h1:¬(num b).toNat<=(num a).toNat:=fun h2=>by have:=wo8 h2;omega
 have:=num_nonneg ha
 omega
theorem zu6 {a b:List Int} (ha:digits a) (hb:digits b) (hl:a.length=b.length) (i:Nat) (hi:i<a.length) (h:a.drop (i+1)=b.drop (i+1)) (hlt:a.getD i 0<b.getD i 0):num a<num b:=by
 rw [whj a i,whj b i,z8f a,z8f b,h];have h1:=yp6 (ha.take i);have h2:=num_nonneg (hb.take i)
 have e1:(a.take i).length=i:=by simp;omega
 have e2:(b.take i).length=i:=by simp;omega
 rw [e1] at h1 ⊢;rw [e2];have hp:=wc0 i;generalize (1048576:Int) ^ i=P at *;generalize num (b.drop (i+1))=T;have h3:P*(a.getD i 0+1)<=P*b.getD i 0:=Int.mul_le_mul_of_nonneg_left (by omega) (by omega);rw [Int.mul_add,Int.mul_add];rw [Int.mul_add] at h3;omega
def fixd:Nat->Int->List Int
 | 0,_=>[]
 | n+1,z=>z % 1048576::fixd n (z / 1048576)
theorem zap:∀{l:List Int},digits l->l=fixd l.length (num l)
 | [],_=>rfl
 | d::l,h=>by
  have h1:=h.head;have h2:=zap h.tail
  have e1:(d+1048576*num l) % 1048576=d:=by omega
  have e2:(d+1048576*num l) / 1048576=num l:=by omega
  simp only [List.length_cons,fixd,num,e1,e2];rw [<-h2]
theorem vdv {l:List Int} {n:Nat} {z:Int} (h:digits l) (hn:l.length=n) (hz:num l=z):l=fixd n z:=by rw [<-hn,<-hz];exact zap h
theorem xr1:∀(n:Nat) (z:Int),(fixd n z).length=n
 | 0,_=>rfl
 | n+1,z=>by simp [fixd,xr1 n]
theorem wtd:∀(n:Nat) (z:Int),digits (fixd n z)
 | 0,_=>digits.nil
 | n+1,z=>digits.cons (by omega) (wtd n _)
theorem xbv:∀(n:Nat) (z:Int),0<=z->z<1048576 ^ n->num (fixd n z)=z
 | 0,z,h1,h2=>by simp at h2;simp [fixd,num];omega
 | n+1,z,h1,h2=>by
  rw [Int.pow_succ] at h2;simp only [fixd,num];rw [xbv n (z / 1048576) (by omega) (by omega)];omega
theorem w5u (n:Int):iand .i64 n 1048575=n % 1048576:=by
 unfold iand
 have h1:(BitVec.ofInt IntKind.i64.bits n &&&BitVec.ofInt IntKind.i64.bits 1048575).toNat=(n % 1048576).toNat:=by
  show (BitVec.ofInt 64 n &&&BitVec.ofInt 64 1048575).toNat=_;rw [BitVec.toNat_and,BitVec.toNat_ofInt,BitVec.toNat_ofInt]
  have:((1048575:Int) % ((2 ^ 64:Nat):Int)).toNat=2 ^ 20-1:=by decide
  rw [this,Nat.and_two_pow_sub_one_eq_mod];omega
 rw [h1,w64 (by omega)];omega
theorem and1 (n:Int):iand .i64 n 1=n % 2:=by
 unfold iand
 have h1:(BitVec.ofInt IntKind.i64.bits n &&&BitVec.ofInt IntKind.i64.bits 1).toNat=(n % 2).toNat:=by
  show (BitVec.ofInt 64 n &&&BitVec.ofInt 64 1).toNat=_;rw [BitVec.toNat_and,BitVec.toNat_ofInt,BitVec.toNat_ofInt]
  have:((1:Int) % ((2 ^ 64:Nat):Int)).toNat=2 ^ 1-1:=by decide
  rw [this,Nat.and_two_pow_sub_one_eq_mod];omega
 rw [h1,w64 (by omega)];omega
theorem zwv (n:Int):ishr .i64 n 20=n / 1048576:=by
 unfold ishr
 have:(2:Int) ^ (min (20:Int).toNat IntKind.i64.bits)=1048576:=by decide
 rw [this,Int.fdiv_eq_ediv_of_nonneg _ (by decide)]
theorem ycy {n:Int} (h:-8796093022208<=n/\n<8796093022208):ishl .i64 n 20=n*1048576:=by
 unfold ishl
 have:(2:Int) ^ (min (20:Int).toNat IntKind.i64.bits)=1048576:=by decide
 rw [this,w64 (by omega)]
theorem or20 {a d:Int} (ha:0<=a/\a<8796093022208) (hd:0<=d/\d<=1048575):ior .i64 (a*1048576) d=a*1048576+d:=by
 unfold ior
 have h1:(BitVec.ofInt IntKind.i64.bits (a*1048576) |||BitVec.ofInt IntKind.i64.bits d).toNat=(a*1048576+d).toNat:=by
  show (BitVec.ofInt 64 (a*1048576) |||BitVec.ofInt 64 d).toNat=_;rw [BitVec.toNat_or,BitVec.toNat_ofInt,BitVec.toNat_ofInt]
  have e1:((a*1048576) % ((2 ^ 64:Nat):Int)).toNat=a.toNat <<< 20:=by rw [Nat.shiftLeft_eq];omega
  have e2:(d % ((2 ^ 64:Nat):Int)).toNat=d.toNat:=by omega
  rw [e1,e2,<-Nat.shiftLeft_add_eq_or_of_lt (by omega),Nat.shiftLeft_eq];omega
 rw [h1,w64 (by omega)];omega
end Go.Slot
namespace Go.Slot
open Go Go.RowKit
theorem yh2 (l:List Int) (n:Nat) (hn:2<=n) (hl:l.length=n):num l=(l.getD (n-1) 0*1048576+l.getD (n-2) 0)*1048576 ^ (n-2)+num (l.take (n-2)):=by
 obtain ⟨m,rfl⟩:∃ m,n=m+2:=⟨n-2,by omega⟩;have h1:=yn1 l (m+1);have h2:=yn1 l m;rw [xn2 (by omega)] at h1;rw [h1,h2,show m+2-1=m+1 by omega,show m+2-2=m by omega,Int.pow_succ]
 grind
theorem xv7 (l:List Int) (n:Nat) (hn:2<=n) (hl:l.length=n+1) :
 num l=((l.getD n 0*1048576+l.getD (n-1) 0)*1048576+l.getD (n-2) 0)*1048576 ^ (n-2)+num (l.take (n-2)):=by
 obtain ⟨m,rfl⟩:∃ m,n=m+2:=⟨n-2,by omega⟩;have h1:=yn1 l (m+2);have h2:=yn1 l (m+1);have h3:=yn1 l m;rw [xn2 (by omega)] at h1;rw [h1,h2,h3,show m+2-1=m+1 by omega,show m+2-2=m by omega,Int.pow_succ,Int.pow_succ]
 grind
section
variable {W V P t u2 v1 v2 w0 v0 g rest:Int}
theorem vse (hP:0<P) (hW:W=(t*1048576+u2)*P+w0) (hw:w0<P) (hu:u2<=1048575) (hV:V=(v1*1048576+v2)*P+v0) (hv0:0<=v0) (hv2:0<=v2) (hg:t+1<=(g+1)*v1) (hg0:0<=g):W<(g+1)*V:=by
 have h1:(t+1)*1048576*P<=(g+1)*v1*1048576*P:=Int.mul_le_mul_of_nonneg_right (Int.mul_le_mul_of_nonneg_right hg (by decide)) (Int.le_of_lt hP);have h2:0<=(g+1)*(v2*P+v0):=Int.mul_nonneg (by omega) (Int.add_nonneg (Int.mul_nonneg hv2 (Int.le_of_lt hP)) hv0);have h3:u2*P<=1048575*P:=Int.mul_le_mul_of_nonneg_right hu (Int.le_of_lt hP)
 have e1:(g+1)*V=(g+1)*v1*1048576*P+(g+1)*(v2*P+v0):=by rw [hV];grind
 have e2:(t*1048576+u2)*P=(t+1)*1048576*P-1048576*P+u2*P:=by grind
 omega
theorem xyz (hP:0<P) (hW:W=(t*1048576+u2)*P+w0) (hw:w0<P) (hV:V=(v1*1048576+v2)*P+v0) (hv0:0<=v0) (hg0:0<=g) (ht:t=g*v1+rest) (hc:rest*1048576+u2<g*v2):W<g*V:=by
 have h1:(t*1048576+u2+1)*P<=g*(v1*1048576+v2)*P:=by
  apply Int.mul_le_mul_of_nonneg_right _ (Int.le_of_lt hP)
  have:g*(v1*1048576+v2)=g*v1*1048576+g*v2:=by grind
  omega
 have h2:0<=g*v0:=Int.mul_nonneg hg0 hv0
 have e1:g*V=g*(v1*1048576+v2)*P+g*v0:=by rw [hV];grind
 have e2:(t*1048576+u2+1)*P=(t*1048576+u2)*P+P:=by grind
 omega
theorem vfy (hP:0<P) (hW:W=(t*1048576+u2)*P+w0) (hw:0<=w0) (hu2:0<=u2) (hV:V=(v1*1048576+v2)*P+v0) (hv0:v0<P) (hv1:1<=v1) (hv2:0<=v2/\v2<=1048575) (hV0:0<V) (hW0:0<=W) (hg0:0<=g) (hg1:g<=1048575) (ht:t=g*v1+rest)
 (hc:1048576<=rest\/g*v2<=rest*1048576+u2):(g-1)*V<=W:=by
 by_cases h0:g=0
 . subst h0
   have:(0-1)*V = - V:=by grind
   omega
 have hg:0<=g-1:=by omega
 have hb:(g-1)*(v1*1048576+v2+1)<=t*1048576+u2:=by
  have e:(g-1)*(v1*1048576+v2+1)=g*v1*1048576+g*v2+g-v1*1048576-v2-1:=by grind
  rcases hc with hc | hc
  . have h1:g*v2<=g*1048575:=Int.mul_le_mul_of_nonneg_left hv2.2 hg0;rw [e,ht]
    have:(g*v1+rest)*1048576=g*v1*1048576+rest*1048576:=by grind
    omega
  . rw [e,ht]
    have:(g*v1+rest)*1048576=g*v1*1048576+rest*1048576:=by grind
    omega
 have h1:(g-1)*(v1*1048576+v2+1)*P<=(t*1048576+u2)*P:=Int.mul_le_mul_of_nonneg_right hb (Int.le_of_lt hP);have h2:(g-1)*v0<=(g-1)*P:=Int.mul_le_mul_of_nonneg_left (Int.le_of_lt hv0) hg
 have e1:(g-1)*V=(g-1)*(v1*1048576+v2+1)*P-(g-1)*P+(g-1)*v0:=by rw [hV];grind
 omega
end
theorem xt7 {l:List Int} (hd:digits l) (hn:norm l) (h:l≠[]):1048576 ^ (l.length-1)<=num l:=by
 have hp:0<l.length:=List.length_pos_iff.2 h;have h1:=yn1 l (l.length-1);rw [xn2 (by omega)] at h1;have h2:=num_nonneg (hd.take (l.length-1));have h3:=hn h;have h4:=hd.getD (l.length-1);have h5:=Int.mul_le_mul_of_nonneg_left (show (1:Int)<=l.getD (l.length-1) 0 by omega) (Int.le_of_lt (wc0 (l.length-1)));rw [Int.mul_one] at h5;omega
theorem x5g (w:List Int) (i k:Nat) (h:i+k<=w.length):num w=num (w.take i)+1048576 ^ i*num ((w.drop i).take k)+1048576 ^ (i+k)*num (w.drop (i+k)):=by
 have h1:=whj w i;have h2:=whj (w.drop i) k
 have e1:(w.take i).length=i:=by simp;omega
 have e2:((w.drop i).take k).length=k:=by simp;omega
 rw [e1] at h1;rw [e2,List.drop_drop] at h2;rw [h1,h2,Int.pow_add]
 grind
theorem y7n (w d:List Int) (i k:Nat) (h:i+k<=w.length) (hd:d.length=k):num (w.take i++d++w.drop (i+k))=num (w.take i)+1048576 ^ i*num d+1048576 ^ (i+k)*num (w.drop (i+k)):=by
 have e1:(w.take i).length=i:=by simp;omega
 rw [wf0,wf0,List.length_append,e1,hd]
theorem y1c {a b s q w:Int} (hs:0<s) (hb:0<b) (he:a*s=b*s*q+w) (h0:0<=w) (h1:w<b*s):a / b=q/\a % b=w / s:=by
 have hbs:0<b*s:=Int.mul_pos hb hs
 have hq:a / b=q:=by
  rw [<-Int.mul_ediv_mul_of_pos_left a b hs,he,Int.add_comm,Int.add_mul_ediv_left _ _ (by omega),Int.ediv_eq_zero_of_lt h0 h1];omega
 refine ⟨hq,?_⟩;have h2:=Int.emod_add_mul_ediv a b;rw [hq] at h2
 have h3:w=(a % b)*s:=by
  have:(a % b+b*q)*s=b*s*q+w:=by rw [h2];exact he
  have h4:(a % b+b*q)*s=a % b*s+b*s*q:=by grind
  omega
 rw [h3,Int.mul_ediv_cancel _ (by omega)]
theorem wbf {l:List Int} {i n k:Nat} (h:k<n):((l.drop i).take n).getD k 0=l.getD (i+k) 0:=by
 rw [zea h,List.getD_eq_getElem?_getD,List.getElem?_drop,List.getD_eq_getElem?_getD]
def sg (z:Int):Int:=if z<0 then -1 else if 0<z then 1 else 0
theorem ygw {z:Int} (h:0<z):sg z=1:=by unfold sg;rw [if_neg (by omega),if_pos h]
theorem zta {z:Int} (h:z<0):sg z = -1:=by unfold sg;rw [if_pos h]
theorem y8y:sg 0=0:=rfl
theorem yvy (z:Int):(z<0/\sg z = -1)\/(z=0/\sg z=0)\/(0<z/\sg z=1):=by
 rcases Int.lt_trichotomy z 0 with h | h | h
 . exact .inl ⟨h,zta h⟩
 . exact .inr (.inl ⟨h,by rw [h];rfl⟩)
 . exact .inr (.inr ⟨h,ygw h⟩)
def zC (z:Int):List Cell:=[.raw (.int .i64 (sg z)),.ints .i64 (dig z.natAbs)]
def vd7 (s:Int) (L:List Int):Prop:=digits L/\((L=[]/\s=0)\/(L≠[]/\(s=1\/s = -1)/\L.getD (L.length-1) 0≠0))
instance (s:Int) (L:List Int):Decidable (vd7 s L):=inferInstanceAs (Decidable (_/\_))
theorem ven (s:Int) (L:List Int):vd7 s L↔∃ z:Int,s=sg z/\L=dig z.natAbs:=by
 constructor
 . rintro ⟨hd,⟨rfl,rfl⟩ | ⟨hne,hs,htop⟩⟩
   . exact ⟨0,rfl,by rw [show (0:Int).natAbs=0 from rfl,yil]⟩
   . have hn:norm L:=fun _=>htop
     have hp:=norm.pos hd hn hne
     rcases hs with rfl | rfl
     . exact ⟨num L,(ygw hp).symm,by rw [show (num L).natAbs=(num L).toNat by omega];exact yvi hd hn⟩
     . exact ⟨-num L,(zta (by omega)).symm,by rw [show (-num L).natAbs=(num L).toNat by omega];exact yvi hd hn⟩
 . rintro ⟨z,rfl,rfl⟩;refine ⟨xfr _,?_⟩
   rcases yvy z with ⟨h,e⟩ | ⟨h,e⟩ | ⟨h,e⟩
   . exact .inr ⟨fun h'=>by have:=vv0.1 h';omega,.inr e,yer _ (fun h'=>by have:=vv0.1 h';omega)⟩
   . exact .inl ⟨by rw [h,show (0:Int).natAbs=0 from rfl,yil],e⟩
   . exact .inr ⟨fun h'=>by have:=vv0.1 h';omega,.inl e,yer _ (fun h'=>by have:=vv0.1 h';omega)⟩
theorem yjw (z:Int):vd7 (sg z) (dig z.natAbs):=(ven _ _).2 ⟨z,rfl,rfl⟩
def fits (k:Nat) (z:Int):Prop:=(dig z.natAbs).length<=k
theorem vco (z:Int):num (dig z.natAbs)=z.natAbs:=wft _
theorem vst (a b:Nat):(dig (a+b)).length<=max (dig a).length (dig b).length+1:=by
 apply xgb;have h1:=xir (n:=a) (k:=max (dig a).length (dig b).length) (Nat.le_max_left _ _);have h2:=xir (n:=b) (k:=max (dig a).length (dig b).length) (Nat.le_max_right _ _);rw [Nat.pow_succ];omega
theorem yvv (a b:Nat):(dig (a*b)).length<=(dig a).length+(dig b).length:=by
 apply xgb;rw [Nat.pow_add];have h1:=xir (n:=a) (Nat.le_refl _);have h2:=xir (n:=b) (Nat.le_refl _);exact Nat.mul_lt_mul_of_lt_of_lt h1 h2
theorem zyh (x y:Int):(dig (x*y).natAbs).length<=(dig x.natAbs).length+(dig y.natAbs).length:=by
 rw [Int.natAbs_mul];exact yvv _ _
theorem ygf {x y q r:Int} (h:x=y*q+r) (h0:0<=r) (h1:r<y):x / y=q/\x % y=r:=by
 rw [h,Int.add_comm];refine ⟨?_,?_⟩
 . rw [Int.add_mul_ediv_left _ _ (by omega),Int.ediv_eq_zero_of_lt h0 h1];omega
 . rw [Int.add_mul_emod_self_left,Int.emod_eq_of_lt h0 h1]
theorem yr8 {s z:Int} (h:(s=1/\0<=z)\/(s = -1/\z<=0)\/z=0):[Cell.raw (.int .i64 (if xuh (dig z.natAbs)=[] then 0 else s)),Cell.ints .i64 (xuh (dig z.natAbs))]=zC z:=by
 rw [v3c];unfold zC;by_cases h0:z=0
 . subst h0;rw [if_pos (by rw [show (0:Int).natAbs=0 from rfl,yil])];rfl
 . rw [if_neg (fun h'=>by have:=vv0.1 h';omega)]
   rcases h with ⟨rfl,h⟩ | ⟨rfl,h⟩ | h
   . rw [ygw (by omega)]
   . rw [zta (by omega)]
   . exact absurd h h0
end Go.Slot
namespace Go.Hp
open Go Go.RowKit Go.Slot
variable {Γ:List (Nat×List Cell)} {e:List SB}
theorem StH.cutN {σ σ':List SV} {η η':List SB} (ks:List Nat) (m:Nat) (hm:Nat.ble e.length m=true) (h:vxf m (xzq ks 0 σ) η=true) (hk:StH Γ e (xzq ks 0 σ) (η.take m) σ' η'):StH Γ e σ η σ' η':=
 StH.trans (StH.only ks) (StH.trans (StH.cutB m (by simpa using hm) h) hk)
end Go.Hp
namespace Go.Hp.T
open Go Go.RowKit Go.Slot Go.Hp Go.Slot.T
open Go.Proofs.Tryz (prog)
attribute [local irreducible] hide RH
set_option maxRecDepth 10000
set_option maxHeartbeats 4000000
variable {Γ:List (Nat×List Cell)}
theorem vf7 (s:Int) (L:List Int) (hL:L.length<4611686018427387904):CallsD Γ prog 137 [.agg [.raw (.int .i64 s),.ints .i64 L]] (.one (.raw (.bool (decide (vd7 s L))))):=by
 generalize hR:decide (vd7 s L)=R
 have bad:¬vd7 s L->R=false:=fun h=>by rw [<-hR];exact decide_eq_false h
 refine CallsD.run [] Go.Proofs.Tryz.func137 rfl rfl rfl ?_;simp only [Go.Proofs.Tryz.f137];refine hgR ?_;refine yxw [1,3,10,11] (fun i:Nat=>[(12,.one (.dat (cI i)))]) (fun _=>[.box [.dat (cI s),.dat (.ints .i64 L)] (some 85)])
  (fun i=>i<=L.length/\digits (L.take i)) (fun i=>L.length-i) 0 ⟨Nat.zero_le _,by simp [digits]⟩ ?_ ?_
 . refine hg ?_;exact StH.same svl rfl
 rintro i ⟨hi,hd⟩;refine hg ?_;refine xw4 (fun h _=>?_) (fun h _=>?_)
 . have hi':i<L.length:=by omega
   have hget:L.getD i 0=L[i]:=by simp [hi']
   have hmem:L[i]∈L:=List.getElem_mem hi'
   have hbad:¬(0<=L.getD i 0/\L.getD i 0<=1048575)->R=false:=fun hn=>bad (fun hr=>hn (by rw [hget];exact hr.1 _ hmem))
   have hnx:0<=L.getD i 0->L.getD i 0<=1048575->digits (L.take (i+1)):=fun h1 h2 x hx=>by
    rw [List.take_add_one,List.mem_append] at hx
    rcases hx with hx | hx
    . exact hd x hx
    . simp [hi'] at hx;subst hx;rw [<-hget];omega
   clear hd hget hmem bad hR;refine hg ?_
   repeat' ((first | refine hfk ?_ ?_<;>intros | refine hik ?_)<;>refine hgS ?_)
   all_goals first
    | exact RLe.ofEq rfl
    | exact ⟨i+1,⟨by omega,hnx (by omega) (by omega)⟩,by omega,StH.same svl rfl⟩
 . have hi':i=L.length:=by omega
   have hdig:digits L:=by rw [hi',List.take_length] at hd;exact hd
   have e:((L.length:Int)-1).toNat=L.length-1:=by omega
   have hfin:R=(bif decide ((L.length:Int)=0) then decide (s=0) else (decide (s=1)||decide (s = -1))&&decide (¬L.getD (L.length-1) 0=0)):=by
    rw [<-hR];by_cases h0:L=[]
    . subst h0;show decide (vd7 s [])=decide (s=0);apply decide_eq_decide.2;simp [vd7,digits]
    . have:L.length≠0:=fun e=>h0 (List.eq_nil_of_length_eq_zero e)
      rw [decide_eq_false (by omega:¬(L.length:Int)=0),cond_false,<-Bool.decide_or,<-Bool.decide_and];apply decide_eq_decide.2;simp only [vd7];constructor
      . rintro ⟨_,⟨h4,_⟩ | ⟨_,h5,h4⟩⟩
        . exact absurd h4 h0
        . exact ⟨h5,h4⟩
      . exact fun h4=>⟨hdig,.inr ⟨h0,h4.1,h4.2⟩⟩
   rw [hfin];clear hfin hdig hd bad hR;refine hg1 @e ?_
   repeat' ((first | refine hfk ?_ ?_<;>intros | refine hik ?_)<;>refine hgS ?_)
   all_goals refine lfE ?_;first | exact trivial | rfl
theorem xlh (L:List Int) (hL:L.length<4611686018427387904):CallsD Γ prog 136 [.one (.ints .i64 L)] (.one (.ints .i64 (L.take (vod L L.length)))):=by
 generalize hR:vod L L.length=R;refine CallsD.run [] Go.Proofs.Tryz.func136 rfl rfl rfl ?_;simp only [Go.Proofs.Tryz.f136];refine hgR ?_;refine yxw [0] (fun n:Nat=>[(3,.one (.dat (cI n)))]) (fun _=>[]) (fun n=>n<=L.length/\R=vod L n) (fun n=>n) L.length ⟨Nat.le_refl _,hR.symm⟩ ?_ ?_
 . refine hg ?_;exact StH.same svl rfl
 clear hR;rintro n ⟨hn,ht⟩
 cases n with
 | zero=>
  have ht:R=0:=ht;refine hg ?_
  repeat' ((first | refine hfk ?_ ?_<;>intros | refine hik ?_)<;>refine hgS ?_)
  all_goals first
   | (exfalso;omega)
   | exact RLe.ofEq rfl
 | succ m=>
  have e:((m+1:Nat):Int)-1=(m:Nat):=by omega
  by_cases h2:L.getD m 0=0
  . have ht':R=vod L m:=by rw [ht];simp only [vod];rw [if_pos h2]
    clear ht;refine hg1 @e ?_
    repeat' ((first | refine hfk ?_ ?_<;>intros | refine hik ?_)<;>refine hgS ?_)
    all_goals first
     | (exfalso;omega)
     | exact ⟨m,⟨by omega,by first | exact ht' | rfl⟩,by omega,StH.same svl rfl⟩
  . have ht':R=m+1:=by rw [ht];simp only [vod];rw [if_neg h2]
    clear ht;refine hg1 @e ?_
    repeat' ((first | refine hfk ?_ ?_<;>intros | refine hik ?_)<;>refine hgS ?_)
    all_goals first
     | (exfalso;omega)
     | exact RLe.ofEq rfl
theorem wj4 (L:List Int) (hL:L.length<4611686018427387904) (k:Nat) (T:Option TypeId):xgj Γ prog 136 [.arr (.ints .i64 L) k T] [.one (.sl 0 1 0 L.length)] [.arr (.ints .i64 L) k T] (.one (.sl 0 1 0 (vod L L.length))):=by
 generalize hR:vod L L.length=R;refine xgj.run [] Go.Proofs.Tryz.func136 rfl rfl ?_;simp only [Go.Proofs.Tryz.f136];refine hgR ?_;refine yxw [0] (fun n:Nat=>[(3,.one (.dat (cI n)))]) (fun _=>[.arr (.ints .i64 L) k T]) (fun n=>n<=L.length/\R=vod L n) (fun n=>n) L.length ⟨Nat.le_refl _,hR.symm⟩ ?_ ?_
 . refine hg ?_;exact StH.same svl rfl
 clear hR;rintro n ⟨hn,ht⟩
 cases n with
 | zero=>
  have ht:R=0:=ht;refine hg ?_
  repeat' ((first | refine hfk ?_ ?_<;>intros | refine hik ?_)<;>refine hgS ?_)
  all_goals first
   | (exfalso;omega)
   | exact StH.yri rfl (by kernel_rfl) rfl
 | succ m=>
  have e:((m+1:Nat):Int)-1=(m:Nat):=by omega
  by_cases h2:L.getD m 0=0
  . have ht':R=vod L m:=by rw [ht];simp only [vod];rw [if_pos h2]
    clear ht;refine hg1 @e ?_
    repeat' ((first | refine hfk ?_ ?_<;>intros | refine hik ?_)<;>refine hgS ?_)
    all_goals first
     | (exfalso;omega)
     | exact ⟨m,⟨by omega,by first | exact ht' | rfl⟩,by omega,StH.same svl rfl⟩
  . have ht':R=m+1:=by rw [ht];simp only [vod];rw [if_neg h2]
    clear ht;refine hg1 @e ?_
    repeat' ((first | refine hfk ?_ ?_<;>intros | refine hik ?_)<;>refine hgS ?_)
    all_goals first
     | (exfalso;omega)
     | exact StH.yri rfl (by kernel_rfl) rfl
def bigC (s:Int) (L:List Int):List Cell:=[.raw (.int .i64 s),.ints .i64 L]
abbrev bigA (s:Int) (L:List Int):List Cell:=[.raw (.int .i64 s),.ints .i64 L]
theorem bigZ {s:Int}:AV.Le (.agg [cI s,.zc]) (.agg (bigA s [])):=.agg (.cons (.refl _) (.cons (.w04 _) .nil))
theorem xre (s:Int) (L:List Int) (hL:L.length<4611686018427387904) :
 CallsD Γ prog 108 [.one (.raw (.int .i64 s)),.one (.ints .i64 L)] (.agg (bigA (if xuh L=[] then 0 else s) (xuh L))):=by
 have ht:CallsD Γ prog 136 [.one (.ints .i64 L)] (.one (.ints .i64 (xuh L))):=xlh L hL;generalize xuh L=M at ht;by_cases h0:M=[]
 . subst h0;rw [if_pos rfl];refine CallsD.run [] Go.Proofs.Tryz.func108 rfl rfl rfl ?_;simp only [Go.Proofs.Tryz.f108];refine hgR ?_
   repeat' ((first | refine hfk ?_ ?_<;>intros | refine hik ?_ | with_reducible first | refine v47 (ht) ?_ | refine vrf (ht) ?_)<;>refine hgS ?_)
   all_goals first
    | (exfalso;omega)
    | exact .one bigZ
 . rw [if_neg h0]
   have h1:¬(M.length:Int)=0:=fun h=>h0 (List.eq_nil_of_length_eq_zero (by omega))
   refine CallsD.run [] Go.Proofs.Tryz.func108 rfl rfl rfl ?_;simp only [Go.Proofs.Tryz.f108];refine hgR ?_
   repeat' ((first | refine hfk ?_ ?_<;>intros | refine hik ?_ | with_reducible first | refine v47 (ht) ?_ | refine vrf (ht) ?_)<;>refine hgS ?_)
   exact RLe.ofEq rfl
theorem v97 (b:Bool) (s:Int) (L:List Int) :
 CallsD Γ prog 158 [.one (.raw (.bool b)),.agg (bigA s L)] (.tup [.agg (if b then bigA s L else bigA 0 []),.one (.raw (.int .i64 (if b then 0 else 1)))]):=by
 cases b with
 | true=>
  refine CallsD.run [] Go.Proofs.Tryz.func158 rfl rfl rfl ?_;simp only [Go.Proofs.Tryz.f158];refine hgR ?_
  repeat' ((first | refine hfk ?_ ?_<;>intros | refine hik ?_)<;>refine hgS ?_)
  exact RLe.ofEq rfl
 | false=>
  refine CallsD.run [] Go.Proofs.Tryz.func158 rfl rfl rfl ?_;simp only [Go.Proofs.Tryz.f158];refine hgR ?_
  repeat' ((first | refine hfk ?_ ?_<;>intros | refine hik ?_)<;>refine hgS ?_)
  exact .tup (.cons bigZ (.cons (.refl _) .nil))
end Go.Hp.T
