/- The proof, part E27: Na, La, Lb, Lc, Ba, Bb, Bc, Bd, Be. -/
import Derived.Test.YtmegdbbbllffkaaGreatDoorE26
import Derived.Test.YtmegdbbbllffkaaGreatDoorE12
import Derived.Test.YtmegdbbbllffkaaGreatDoorE25
namespace Go.Hp.T
open Go Go.RowKit Go.Slot Go.Hp Go.Slot.T
open Go.Proofs.Tryz (prog)
set_option maxRecDepth 10000
set_option maxHeartbeats 4000000
variable {Γ:List (Nat×List Cell)}
theorem vvj (c:Int):CallsD Γ prog 121 [.one (c8 c)] (.one (cB (yio c))):=by
 refine CallsD.run [] Go.Proofs.Tryz.func121 rfl rfl rfl ?_;simp only [Go.Proofs.Tryz.f121];refine hgR ?_
 repeat' ((first | refine hfk ?_ ?_<;>intros | refine hik ?_)<;>refine hgS ?_)
 all_goals refine lf1 @yio.eq_def ?_;first | exact trivial | rfl
theorem xq6 (c:Int):CallsD Γ prog 171 [.one (c8 c)] (.one (cB (isDigit c))):=by
 refine CallsD.run [] Go.Proofs.Tryz.func171 rfl rfl rfl ?_;simp only [Go.Proofs.Tryz.f171];refine hgR ?_
 repeat' ((first | refine hfk ?_ ?_<;>intros | refine hik ?_)<;>refine hgS ?_)
 all_goals refine lf1 @isDigit.eq_def ?_;first | exact trivial | rfl
theorem vys (c:Int):CallsD Γ prog 186 [.one (c8 c)] (.one (cB (ztv c))):=by
 refine CallsD.run [] Go.Proofs.Tryz.func186 rfl rfl rfl ?_;simp only [Go.Proofs.Tryz.f186];refine hgR ?_
 repeat' ((first | refine hfk ?_ ?_<;>intros | refine hik ?_)<;>refine hgS ?_)
 all_goals refine lf1 @ztv.eq_def ?_;first | exact trivial | rfl
theorem v2j (c:Int):CallsD Γ prog 123 [.one (c8 c)] (.one (cB (ycl c))):=by
 refine CallsD.run [] Go.Proofs.Tryz.func123 rfl rfl rfl ?_;simp only [Go.Proofs.Tryz.f123];refine hgR ?_
 repeat' ((first | refine hfk ?_ ?_<;>intros | refine hik ?_ | with_reducible first | refine v6l (vvj _) ?_ | refine vgi (vvj _) ?_ | refine v6l (xq6 _) ?_ | refine vgi (xq6 _) ?_)<;>refine hgS ?_)
 all_goals refine lf1 @ycl.eq_def ?_;first | exact trivial | rfl
theorem w3g (s:ByteArray) (f:FuncId) (p:Int->Bool) (hs:s.size<=1099511627776) (h:∀ c,CallsD Γ prog f [.one (c8 c)] (.one (cB (p c)))):CallsD Γ prog 122 [.one (cS s),fN f] (.one (cI (z1a p s))):=by
 refine CallsD.run [] Go.Proofs.Tryz.func122 rfl rfl rfl ?_;simp only [Go.Proofs.Tryz.f122];refine hgR ?_;refine y55 [0,1] (fun n:Nat=>[(5,.one (.dat (cI n)))]) (fun _=>[]) (fun n=>n<=s.size/\∀ j,j<n->p (x41 s j)=true) (fun n=>s.size-n) 0 ⟨Nat.zero_le _,fun j hj=>by omega⟩ ?_ ?_
 . refine hg ?_;exact StH.wph (by repeat' first | exact .nil | refine .cons (by first | exact .refl _ | exact .any _) ?_)
 intro n hn;obtain ⟨hn,hj⟩:=hn;refine hg ?_
 repeat' ((first | refine hfk ?_ ?_<;>intros | refine hik ?_ | with_reducible first | refine v6l (h _) ?_ | refine vgi (h _) ?_)<;>refine hgS ?_)
 . rename_i h1;refine ⟨n+1,⟨by omega,fun j hj'=>?_⟩,by omega,by exact StH.wph (by repeat' first | exact .nil | refine .cons (by first | exact .refl _ | exact .any _) ?_)⟩
   rcases Nat.lt_or_eq_of_le (Nat.le_of_lt_succ hj') with h2 | h2
   . exact hj j h2
   . rw [h2];exact h1
 . rename_i h1;rw [xwo hn hj (.inr h1)];exact RLe.ofEq rfl
 . rw [xwo hn hj (.inl (by omega))];exact RLe.ofEq rfl
theorem vv6 (s:ByteArray) (hs:s.size<=1099511627776):CallsD Γ prog 65 [.one (cS s)] (.one (cB (isName s))):=by
 refine CallsD.run [] Go.Proofs.Tryz.func65 rfl rfl rfl ?_;simp only [Go.Proofs.Tryz.f65];refine hgR ?_
 repeat' ((first | refine hfk ?_ ?_<;>intros | refine hik ?_ | with_reducible first | refine v6l (vvj _) ?_ | refine vgi (vvj _) ?_ | refine v6l (w3g s _ _ hs v2j) ?_ | refine vgi (w3g s _ _ hs v2j) ?_)<;>refine hgS ?_)
 all_goals refine lf1 @isName.eq_def ?_;first | exact trivial | rfl
abbrev bldB (n:Nat):SB:=.box [.ptr 0 0,.sl 1 1 0 n] (some 223)
abbrev bldA (l:List Int):SB:=.arr (.ints .u8 l) 0 (some 5)
theorem zyc:liesAt prog prog.depth 223 (2 / prog.cellsOf 223) 0 223 1=true:=by kernel_rfl
theorem coU8:prog.cellsOf 5=1:=by kernel_rfl
attribute [go_sem] zyc coU8
theorem zmz (x:HC):vfe Γ prog 227 [.box [.dat (.raw (.pointer none)),x] (some 223)] [.one (.ptr 0 0)] [.box [.ptr 0 0,x] (some 223)] (.tup []):=by
 refine vfe.run [] Go.Proofs.Tryz.func227 rfl rfl ?_;simp only [Go.Proofs.Tryz.f227];refine hgR ?_;exact StH.refl
theorem xsq (x:HC) (T:Option TypeId) (y:SB):vfe Γ prog 227 [.box [.ptr 0 0,x] T,y] [.one (.ptr 0 0)] [.box [.ptr 0 0,x] T,y] (.tup []):=by
 refine vfe.run [] Go.Proofs.Tryz.func227 rfl rfl ?_;simp only [Go.Proofs.Tryz.f227];refine hgR ?_;exact StH.refl
theorem vce (c:Int):vfe Γ prog 210 [.box [.dat (.raw (.pointer none)),.dat .zc] (some 223)] [.one (.ptr 0 0),.one (.dat (c8 c))] [bldB 1,bldA [c]] (.one (.dat (.raw .nilIface))):=by
 refine vfe.run [] Go.Proofs.Tryz.func210 rfl rfl ?_;simp only [Go.Proofs.Tryz.f210];refine hgR ?_;refine xwg (zmz _) ?_;refine hg ?_;exact StH.refl
theorem yj5 (l:List Int) (c:Int) (hl:l.length<=68719476736):vfe Γ prog 210 [bldB l.length,bldA l] [.one (.ptr 0 0),.one (.dat (c8 c))] [.box [.ptr 0 0,.sl 2 1 0 (l++[c]).length] (some 223),.dead,bldA (l++[c])] (.one (.dat (.raw .nilIface))):=by
 refine vfe.run [] Go.Proofs.Tryz.func210 rfl rfl ?_;simp only [Go.Proofs.Tryz.f210];refine hgR ?_;refine xwg (xsq _ _ _) ?_;refine hg ?_;exact StH.refl
theorem x2f (l:List Int) (hl:l.all yua=true) (h0:0<l.length) (h1:l.length<=1099511627776):vfe Γ prog 211 [bldB l.length,bldA l] [.one (.ptr 0 0)] [bldB l.length,.dead] (.one (.dat (cS (strOfNums l)))):=by
 refine vfe.run [] Go.Proofs.Tryz.func211 rfl rfl ?_;simp only [Go.Proofs.Tryz.f211];refine hgR ?_
 conv=>simp (maxSteps:=2000000) (disch:=omega) only [go_sem,Nat.reduceAdd,Nat.reduceSub,Nat.reduceMul,Int.reduceToNat,Nat.reduceEqDiff,Nat.reduceBEq,Nat.reduceBneDiff,Nat.reduceLT,Int.reduceEq,Int.reduceLT,Int.reduceLE,Int.reduceNeg,Int.reduceAdd,Int.reduceSub,Int.reduceMul,hl,h0,true_and,show l.length<=9223372036854775807 from by omega]
 repeat' ((first | refine hfk ?_ ?_<;>intros | refine hik ?_)<;>refine hgS ?_)
 exact StH.refl
theorem yi5 (s:ByteArray) (hs:s.size<=1073741824):CallsD Γ prog 187 [.one (cS s)] (.one (cS (escS s))):=by
 refine CallsD.run [] Go.Proofs.Tryz.func187 rfl rfl rfl ?_;simp only [Go.Proofs.Tryz.f187];refine hgR ?_;refine xwg (vce _) ?_;refine hg ?_;refine y55 [0,2,3,7] (fun i:Nat=>[(8,.one (.dat (cI i)))]) (fun i=>[bldB (escA s i).length,bldA (escA s i)]) (fun i=>i<=s.size) (fun i=>s.size-i) 0 (Nat.zero_le _) ?_ ?_
 . refine hg ?_;exact StH.same svl rfl
 intro i hi;have hlen:=yil s i;refine hg ?_
 have two:∀ c,(c=34\/c=92)->i<s.size->x41 s i=c->escA s (i+1)=escA s i++[92]++[c]:=fun c h hi h2=>by
  rw [xm4 hi,List.append_assoc,h2];rcases h with h | h<;>rw [h]<;>rfl
 repeat' ((first | refine hfk ?_ ?_<;>intros | refine hik ?_)<;>refine hgS ?_)
 . rename_i h _;refine xwg (yj5 _ _ (by omega)) ?_;refine hgS ?_;refine z4m [0,2] (yj5 (escA s i++[92]) _ (by simp only [List.length_append,List.length_singleton];omega)) rfl (by decide) rfl rfl rfl ?_;refine hgS ?_;rw [<-two 92 (.inr rfl) (by omega) h];refine ⟨i+1,by omega,by omega,StH.back [0,2,3,7,8] 1 3 2 rfl rfl rfl rfl rfl (by kernel_rfl) ?_⟩;refine hg ?_;exact StH.same svl rfl
 . rename_i h1 _ h2 _ h3 _;refine xwg (yj5 _ _ (by omega)) ?_;refine hgS ?_
   have one:escA s i++[x41 s i]=escA s (i+1):=by
    rw [xm4 (by omega)];unfold escB;rw [decide_eq_false h2,decide_eq_false h3];rfl
   rw [one];refine ⟨i+1,by omega,by omega,StH.back [0,2,3,7,8] 1 2 2 rfl rfl rfl rfl rfl (by kernel_rfl) ?_⟩;refine hg ?_;exact StH.same svl rfl
 . rename_i h _;refine xwg (yj5 _ _ (by omega)) ?_;refine hgS ?_;refine z4m [0,2] (yj5 (escA s i++[92]) _ (by simp only [List.length_append,List.length_singleton];omega)) rfl (by decide) rfl rfl rfl ?_;refine hgS ?_;rw [<-two 34 (.inl rfl) (by omega) h];refine ⟨i+1,by omega,by omega,StH.back [0,2,3,7,8] 1 3 2 rfl rfl rfl rfl rfl (by kernel_rfl) ?_⟩;refine hg ?_;exact StH.same svl rfl
 . have e:i=s.size:=by omega
   subst e;refine xwg (yj5 _ _ (by omega)) ?_;refine hg ?_;refine z4m [0,2] (x2f (escA s s.size++[34]) (by rw [List.all_append,xmf];rfl) (by simp) (by simp only [List.length_append,List.length_singleton];omega)) rfl (by decide) rfl rfl rfl ?_;refine hg ?_;exact RLe.ofEq rfl
theorem yph (s:ByteArray) (hs:s.size<=1073741824):∃ t,CallsD Γ prog 144 [.one (cS s)] (.tup [.one (cS t),.one (cB (wku s))]):=by
 refine ⟨bif wku s then escS s else ⟨#[]⟩,?_⟩;refine CallsD.run [] Go.Proofs.Tryz.func144 rfl rfl rfl ?_;simp only [Go.Proofs.Tryz.f144];refine hgR ?_
 repeat' ((first | refine hfk ?_ ?_<;>intros | refine hik ?_ | with_reducible first | refine v6l (w3g s _ _ (by omega) vys) ?_ | refine vgi (w3g s _ _ (by omega) vys) ?_ | refine v6l (yi5 s hs) ?_ | refine vgi (yi5 s hs) ?_)<;>refine hgS ?_)
 all_goals refine lf1 @wku.eq_def ?_;first | exact trivial | rfl
end Go.Hp.T
namespace Go.Slot
open Go Go.RowKit
set_option maxRecDepth 10000
variable {l L a b:List Int} {m i j k:Nat}
def digits (L:List Int):Prop:=∀ x∈L,0<=x/\x<=1048575
instance (L:List Int):Decidable (digits L):=inferInstanceAs (Decidable (∀ x∈L,0<=x/\x<=1048575))
def num:List Int->Int
 | []=>0
 | d::l=>d+1048576*num l
theorem digits.nil:digits []:=fun _ h=>by cases h
theorem digits.cons {d:Int} (h:0<=d/\d<=1048575) (hl:digits l):digits (d::l):=fun x hx=>by
 rcases List.mem_cons.1 hx with rfl | hx
 . exact h
 . exact hl x hx
theorem digits.head {d:Int} (h:digits (d::l)):0<=d/\d<=1048575:=h d (by simp)
theorem digits.tail {d:Int} (h:digits (d::l)):digits l:=fun x hx=>h x (by simp [hx])
theorem digits.append {m:List Int} (hl:digits l) (hm:digits m):digits (l++m):=fun x hx=>by
 rcases List.mem_append.1 hx with hx | hx
 . exact hl x hx
 . exact hm x hx
theorem digits.take {l:List Int} (h:digits l) (n:Nat):digits (l.take n):=fun x hx=>h x (List.mem_of_mem_take hx)
theorem digits.drop {l:List Int} (h:digits l) (n:Nat):digits (l.drop n):=fun x hx=>h x (List.mem_of_mem_drop hx)
theorem digits.getD {l:List Int} (h:digits l) (i:Nat):0<=l.getD i 0/\l.getD i 0<=1048575:=by
 rw [List.getD_eq_getElem?_getD]
 cases hh:l[i]? with
 | none=>simp
 | some x=>exact h x (List.mem_of_getElem? hh)
theorem digits.set {l:List Int} (h:digits l) (i:Nat) {x:Int} (hx:0<=x/\x<=1048575):digits (l.set i x):=fun y hy=>by
 rcases List.mem_or_eq_of_mem_set hy with hy | rfl
 . exact h y hy
 . exact hx
theorem digits.rep (n:Nat):digits (List.replicate n 0):=fun x hx=>by
 rw [List.mem_replicate] at hx;omega
theorem num_nonneg:∀{l:List Int},digits l->0<=num l
 | [],_=>Int.le_refl _
 | d::l,h=>by have:=num_nonneg h.tail;have:=h.head;simp only [num];omega
theorem zou (n:Nat):(0:Int)<1048576 ^ n:=Int.pow_pos (by decide)
theorem wqr {n:Nat} (h:m<=n):(1048576:Int) ^ m<=1048576 ^ n:=by
 obtain ⟨k,rfl⟩:=Nat.exists_eq_add_of_le h;rw [Int.pow_add];have h1:=zou k;have h2:=Int.mul_le_mul_of_nonneg_left (show (1:Int)<=1048576 ^ k by omega) (Int.le_of_lt (zou m))
 rwa [Int.mul_one] at h2
theorem xxq:∀{l:List Int},digits l->num l<1048576 ^ l.length
 | [],_=>by simp [num]
 | d::l,h=>by
  have:=xxq h.tail
  have:=h.head
  simp only [num,List.length_cons,Int.pow_succ];omega
theorem xtv:∀(l m:List Int),num (l++m)=num l+1048576 ^ l.length*num m
 | [],m=>by simp [num]
 | d::l,m=>by
  simp only [List.cons_append,num,List.length_cons,xtv l m,Int.pow_succ];rw [Int.mul_add,Int.mul_comm (1048576 ^ l.length) 1048576,Int.mul_assoc];omega
theorem ya9 (n:Nat):num (List.replicate n 0)=0:=by
 induction n with
 | zero=>rfl
 | succ n ih=>simp [List.replicate_succ,num,ih]
theorem w4d:∀(l:List Int) (i:Nat),num (l.take (i+1))=num (l.take i)+1048576 ^ i*l.getD i 0
 | [],i=>by simp [num]
 | d::l,0=>by simp [num]
 | d::l,i+1=>by
  simp only [List.take_succ_cons,num,w4d l i,List.getD_cons_succ,Int.pow_succ];rw [Int.mul_add,Int.mul_comm (1048576 ^ i) 1048576,Int.mul_assoc];omega
theorem y8v:∀(l:List Int) (i:Nat) (x:Int),i<l.length->num (l.set i x)=num l+1048576 ^ i*(x-l.getD i 0)
 | [],i,x,h=>by simp at h
 | d::l,0,x,_=>by simp [num];omega
 | d::l,i+1,x,h=>by
  simp only [List.set_cons_succ,num,y8v l i x (by simpa using h),List.getD_cons_succ,Int.pow_succ];rw [Int.mul_add,Int.mul_comm (1048576 ^ i) 1048576,Int.mul_assoc];omega
theorem zlm (l:List Int) (i:Nat):num l=num (l.take i)+1048576 ^ (l.take i).length*num (l.drop i):=by
 rw [<-xtv,List.take_append_drop]
def xl7 (l:List Int) (i:Nat):Prop:=∀ j,i<=j->l.getD j 0=0
theorem xl7.rep (n:Nat):xl7 (List.replicate n 0) 0:=fun j _=>by
 rw [List.getD_eq_getElem?_getD,List.getElem?_replicate];split<;>rfl
theorem v3y (x:Int) (h:i≠j):(l.set i x).getD j 0=l.getD j 0:=by
 rw [List.getD_eq_getElem?_getD,List.getElem?_set_ne h,List.getD_eq_getElem?_getD]
theorem xl7.set {l:List Int} {i:Nat} (h:xl7 l i) (x:Int):xl7 (l.set i x) (i+1):=fun j hj=>by
 rw [v3y x (by omega)];exact h j (by omega)
theorem xl7.wkp (h:xl7 l i) (x:Int) (hk:k<i):xl7 (l.set k x) i:=fun j hj=>by
 rw [v3y x (by omega)];exact h j hj
theorem xl7.mono (h:xl7 l i) (hij:i<=j):xl7 l j:=fun k hk=>h k (by omega)
theorem z4f {n:Nat} (h:i<n):(l.take n).getD i 0=l.getD i 0:=by
 rw [List.getD_eq_getElem?_getD,List.getElem?_take_of_lt h,List.getD_eq_getElem?_getD]
theorem vv7 (h:l.length<=i):l.getD i 0=0:=by
 rw [List.getD_eq_getElem?_getD,List.getElem?_eq_none h];rfl
theorem zvp (h:l.length<=i):l.take i=l:=List.take_of_length_le h
theorem vks {o:List Int} (hi:i<o.length) (s:Int):num (o.set i (s % 1048576))+1048576 ^ (i+1)*(s / 1048576)=num o+1048576 ^ i*(s-o.getD i 0):=by
 rw [y8v o i _ hi,Int.pow_succ];have h:=Int.emod_add_mul_ediv s 1048576;generalize (1048576:Int) ^ i=P;generalize s % 1048576=r at *;generalize s / 1048576=q at *;generalize o.getD i 0=z
 grind
def norm (l:List Int):Prop:=l≠[]->l.getD (l.length-1) 0≠0
theorem norm.nil:norm []:=fun h=>absurd rfl h
theorem norm.tail {d:Int} (h:norm (d::l)):norm l:=fun hl=>by
 have:=h (by simp)
 have hp:0<l.length:=List.length_pos_iff.2 hl;rw [List.length_cons,show l.length+1-1=(l.length-1)+1 by omega,List.getD_cons_succ] at this;exact this
theorem norm.pos:∀{l:List Int},digits l->norm l->l≠[]->0<num l
 | [],_,_,h=>absurd rfl h
 | d::l,hd,hn,_=>by
  simp only [num];by_cases hl:l=[]
  . subst hl
    have:=hn (by simp)
    have h0:=hd.head;simp at this;simp only [num];omega
  . have:=norm.pos hd.tail hn.tail hl
    have h0:=hd.head;omega
theorem y5v:∀{l m:List Int},digits l->norm l->digits m->norm m->num l=num m->l=m
 | [],[],_,_,_,_,_=>rfl
 | [],d::m,_,_,hm,nm,h=>by have:=norm.pos hm nm (by simp);rw [<-h] at this;simp [num] at this
 | d::l,[],hl,nl,_,_,h=>by have:=norm.pos hl nl (by simp);rw [h] at this;simp [num] at this
 | d::l,e::m,hl,nl,hm,nm,h=>by
  simp only [num] at h;have h1:=hl.head;have h2:=hm.head
  have hde:d=e:=by omega
  have:=y5v hl.tail nl.tail hm.tail nm.tail (by omega)
  rw [hde,this]
def dig (n:Nat):List Int:=if h:n=0 then [] else ((n % 1048576:Nat):Int)::dig (n / 1048576)
 termination_by n
 decreasing_by omega
theorem ylp:dig 0=[]:=by unfold dig;simp
theorem yzy {n:Nat} (h:n≠0):dig n=((n % 1048576:Nat):Int)::dig (n / 1048576):=by
 rw [dig];simp [h]
theorem zne:∀ n:Nat,digits (dig n)/\norm (dig n)/\num (dig n)=n/\(dig n=[]->n=0):=by
 intro n
 induction n using Nat.strongRecOn with
 | ind n ih =>
  by_cases h:n=0
  . subst h;rw [ylp];exact ⟨digits.nil,norm.nil,rfl,fun _=>rfl⟩
  . rw [yzy h];obtain ⟨h1,h2,h3,h4⟩:=ih (n / 1048576) (by omega);refine ⟨digits.cons (by omega) h1,fun _=>?_,by simp only [num,h3];omega,fun e=>by cases e⟩;by_cases hn:dig (n / 1048576)=[]
    . rw [hn]
      have:=h4 hn
      simp;omega
    . have:=h2 hn
      have hp:0<(dig (n / 1048576)).length:=List.length_pos_iff.2 hn;rw [List.length_cons,show (dig (n / 1048576)).length+1-1=((dig (n / 1048576)).length-1)+1 by omega,List.getD_cons_succ];exact this
theorem wo6 (n:Nat):digits (dig n):=(zne n).1
theorem yrd (n:Nat):norm (dig n):=(zne n).2.1
theorem yn8 (n:Nat):num (dig n)=n:=(zne n).2.2.1
theorem zrh {n:Nat}:dig n=[]↔n=0:=⟨(zne n).2.2.2,fun h=>by rw [h,ylp]⟩
theorem yke (hd:digits l) (hn:norm l):l=dig (num l).toNat:=
 y5v hd hn (wo6 _) (yrd _) (by rw [yn8];have:=num_nonneg hd;omega)
theorem zh8 {n:Int} (hd:digits l) (hn:norm l) (h:num l=n):l=dig n.toNat:=by rw [<-h];exact yke hd hn
theorem vwv {n:Nat} (h:n<1048576 ^ k):(dig n).length<=k:=by
 induction k generalizing n with
 | zero=>have:n=0:=(by simpa using h);subst this;rw [ylp];exact Nat.le_refl _
 | succ k ih=>
  by_cases h0:n=0
  . subst h0;rw [ylp];exact Nat.zero_le _
  . rw [yzy h0,List.length_cons];exact Nat.succ_le_succ (ih (by rw [Nat.pow_succ] at h;omega))
theorem x38 {n:Nat} (h:(dig n).length<=k):n<1048576 ^ k:=by
 have h1:=xxq (wo6 n);rw [yn8] at h1;have h2:(1048576:Nat) ^ (dig n).length<=1048576 ^ k:=Nat.pow_le_pow_right (by decide) h
 have h3:((1048576 ^ (dig n).length:Nat):Int)=1048576 ^ (dig n).length:=by simp
 omega
theorem wxv {n:Nat} (h:m<=n):(dig m).length<=(dig n).length:=vwv (Nat.lt_of_le_of_lt h (x38 (Nat.le_refl _)))
def z4o (L:List Int):Nat->Nat
 | 0=>0
 | n+1=>if L.getD n 0=0 then z4o L n else n+1
theorem zdf (L:List Int):∀ n,z4o L n<=n
 | 0=>Nat.le_refl _
 | n+1=>by unfold z4o;split;exact Nat.le_succ_of_le (zdf L n);exact Nat.le_refl _
def xun (L:List Int):List Int:=L.take (z4o L L.length)
theorem vuy (L:List Int):(xun L).length=z4o L L.length:=by
 have:=zdf L L.length
 simp [xun];omega
theorem wzg (L:List Int):∀ n,n<=L.length->norm (L.take (z4o L n))/\num (L.take (z4o L n))=num (L.take n)
 | 0,_=>by simp [z4o,norm]
 | n+1,h=>by
  unfold z4o
  split
  . rename_i h0;obtain ⟨h1,h2⟩:=wzg L n (by omega);refine ⟨h1,?_⟩;rw [h2,w4d,h0];simp
  . rename_i h0;refine ⟨fun _=>?_,rfl⟩;rw [show (L.take (n+1)).length-1=n by simp;omega,z4f (by omega)];exact h0
theorem zzz (hd:digits L):xun L=dig (num L).toNat:=by
 have h:=wzg L L.length (Nat.le_refl _);rw [List.take_length] at h;exact zh8 (hd.take _) h.1 h.2
theorem wah {n:Int} (hd:digits L) (h:num L=n):xun L=dig n.toNat:=by rw [<-h];exact zzz hd
theorem wb4 (n:Nat):xun (dig n)=dig n:=by rw [zzz (wo6 n),yn8];rfl
theorem zhu (L:List Int):(xun L).length<=L.length:=by rw [vuy];exact zdf _ _
theorem win:∀(l:List Int) (n:Nat),num (l.drop n)=l.getD n 0+1048576*num (l.drop (n+1))
 | [],n=>by simp [num]
 | d::l,0=>by simp [num]
 | d::l,n+1=>by simpa using win l n
theorem x7k (x:Int) (h:i<l.length):(l.set i x).drop i=x::l.drop (i+1):=by
 rw [List.drop_set,if_neg (by omega),Nat.sub_self]
 cases hh:l.drop i with
 | nil=>have:=congrArg List.length hh;simp at this;omega
 | cons y r=>rw [List.set_cons_zero,<-List.drop_drop,hh];rfl
def ord (x y:Int):Int:=if x<y then -1 else if y<x then 1 else 0
theorem yck (ha:digits a) (na:norm a) (hb:digits b) (nb:norm b) (h:a.length<b.length):num a<num b:=by
 rw [yke ha na,yke hb nb] at h
 have h1:¬(num b).toNat<=(num a).toNat:=fun h2=>by have:=wxv h2;omega
 have:=num_nonneg ha
 omega
theorem wyj (ha:digits a) (hb:digits b) (hl:a.length=b.length) (i:Nat) (hi:i<a.length) (h:a.drop (i+1)=b.drop (i+1)) (hlt:a.getD i 0<b.getD i 0):num a<num b:=by
 rw [zlm a i,zlm b i,win a,win b,h];have h1:=xxq (ha.take i);have h2:=num_nonneg (hb.take i)
 have e1:(a.take i).length=i:=by simp;omega
 have e2:(b.take i).length=i:=by simp;omega
 rw [e1] at h1 ⊢;rw [e2];have hp:=zou i;generalize (1048576:Int) ^ i=P at *;generalize num (b.drop (i+1))=T;have h3:P*(a.getD i 0+1)<=P*b.getD i 0:=Int.mul_le_mul_of_nonneg_left (by omega) (by omega);rw [Int.mul_add,Int.mul_add];rw [Int.mul_add] at h3;omega
def fixd:Nat->Int->List Int
 | 0,_=>[]
 | n+1,z=>z % 1048576::fixd n (z / 1048576)
theorem xwf:∀{l:List Int},digits l->l=fixd l.length (num l)
 | [],_=>rfl
 | d::l,h=>by
  have h1:=h.head;have h2:=xwf h.tail
  have e1:(d+1048576*num l) % 1048576=d:=by omega
  have e2:(d+1048576*num l) / 1048576=num l:=by omega
  simp only [List.length_cons,fixd,num,e1,e2];rw [<-h2]
theorem yc5 {n:Nat} {z:Int} (h:digits l) (hn:l.length=n) (hz:num l=z):l=fixd n z:=by rw [<-hn,<-hz];exact xwf h
theorem wpd:∀(n:Nat) (z:Int),(fixd n z).length=n
 | 0,_=>rfl
 | n+1,z=>by simp [fixd,wpd n]
theorem xvy:∀(n:Nat) (z:Int),digits (fixd n z)
 | 0,_=>digits.nil
 | n+1,z=>digits.cons (by omega) (xvy n _)
theorem x8e:∀(n:Nat) (z:Int),0<=z->z<1048576 ^ n->num (fixd n z)=z
 | 0,z,h1,h2=>by simp at h2;simp [fixd,num];omega
 | n+1,z,h1,h2=>by
  rw [Int.pow_succ] at h2;simp only [fixd,num];rw [x8e n (z / 1048576) (by omega) (by omega)];omega
theorem vuf (n:Int):iand .i64 n 1048575=n % 1048576:=by
 unfold iand
 have h1:(BitVec.ofInt IntKind.i64.bits n &&&BitVec.ofInt IntKind.i64.bits 1048575).toNat=(n % 1048576).toNat:=by
  show (BitVec.ofInt 64 n &&&BitVec.ofInt 64 1048575).toNat=_;rw [BitVec.toNat_and,BitVec.toNat_ofInt,BitVec.toNat_ofInt]
  have:((1048575:Int) % ((2 ^ 64:Nat):Int)).toNat=2 ^ 20-1:=by decide
  rw [this,Nat.and_two_pow_sub_one_eq_mod];omega
 rw [h1,w64 (by omega)];omega
theorem and1 (n:Int):iand .i64 n 1=n % 2:=by
 unfold iand
 have h1:(BitVec.ofInt IntKind.i64.bits n &&&BitVec.ofInt IntKind.i64.bits 1).toNat=(n % 2).toNat:=by
  show (BitVec.ofInt 64 n &&&BitVec.ofInt 64 1).toNat=_;rw [BitVec.toNat_and,BitVec.toNat_ofInt,BitVec.toNat_ofInt]
  have:((1:Int) % ((2 ^ 64:Nat):Int)).toNat=2 ^ 1-1:=by decide
  rw [this,Nat.and_two_pow_sub_one_eq_mod];omega
 rw [h1,w64 (by omega)];omega
theorem v2y (n:Int):ishr .i64 n 20=n / 1048576:=by
 unfold ishr
 have:(2:Int) ^ (min (20:Int).toNat IntKind.i64.bits)=1048576:=by decide
 rw [this,Int.fdiv_eq_ediv_of_nonneg _ (by decide)]
theorem yzv {n:Int} (h:-8796093022208<=n/\n<8796093022208):ishl .i64 n 20=n*1048576:=by
 unfold ishl
 have:(2:Int) ^ (min (20:Int).toNat IntKind.i64.bits)=1048576:=by decide
 rw [this,w64 (by omega)]
theorem or20 {a d:Int} (ha:0<=a/\a<8796093022208) (hd:0<=d/\d<=1048575):ior .i64 (a*1048576) d=a*1048576+d:=by
 unfold ior
 have h1:(BitVec.ofInt IntKind.i64.bits (a*1048576) |||BitVec.ofInt IntKind.i64.bits d).toNat=(a*1048576+d).toNat:=by
  show (BitVec.ofInt 64 (a*1048576) |||BitVec.ofInt 64 d).toNat=_;rw [BitVec.toNat_or,BitVec.toNat_ofInt,BitVec.toNat_ofInt]
  have e1:((a*1048576) % ((2 ^ 64:Nat):Int)).toNat=a.toNat <<< 20:=by rw [Nat.shiftLeft_eq];omega
  have e2:(d % ((2 ^ 64:Nat):Int)).toNat=d.toNat:=by omega
  rw [e1,e2,<-Nat.shiftLeft_add_eq_or_of_lt (by omega),Nat.shiftLeft_eq];omega
 rw [h1,w64 (by omega)];omega
end Go.Slot
namespace Go.Slot
open Go Go.RowKit
variable {l:List Int} {q z:Int}
theorem xob (l:List Int) (n:Nat) (hn:2<=n) (hl:l.length=n):num l=(l.getD (n-1) 0*1048576+l.getD (n-2) 0)*1048576 ^ (n-2)+num (l.take (n-2)):=by
 obtain ⟨m,rfl⟩:∃ m,n=m+2:=⟨n-2,by omega⟩;have h1:=w4d l (m+1);have h2:=w4d l m;rw [zvp (by omega)] at h1;rw [h1,h2,show m+2-1=m+1 by omega,show m+2-2=m by omega,Int.pow_succ]
 grind
theorem v2e (l:List Int) (n:Nat) (hn:2<=n) (hl:l.length=n+1) :
 num l=((l.getD n 0*1048576+l.getD (n-1) 0)*1048576+l.getD (n-2) 0)*1048576 ^ (n-2)+num (l.take (n-2)):=by
 obtain ⟨m,rfl⟩:∃ m,n=m+2:=⟨n-2,by omega⟩;have h1:=w4d l (m+2);have h2:=w4d l (m+1);have h3:=w4d l m;rw [zvp (by omega)] at h1;rw [h1,h2,h3,show m+2-1=m+1 by omega,show m+2-2=m by omega,Int.pow_succ,Int.pow_succ]
 grind
section
variable {W V P t u2 v1 v2 w0 v0 g rest:Int}
theorem y59 (hP:0<P) (hW:W=(t*1048576+u2)*P+w0) (hw:w0<P) (hu:u2<=1048575) (hV:V=(v1*1048576+v2)*P+v0) (hv0:0<=v0) (hv2:0<=v2) (hg:t+1<=(g+1)*v1) (hg0:0<=g):W<(g+1)*V:=by
 have h1:(t+1)*1048576*P<=(g+1)*v1*1048576*P:=Int.mul_le_mul_of_nonneg_right (Int.mul_le_mul_of_nonneg_right hg (by decide)) (Int.le_of_lt hP);have h2:0<=(g+1)*(v2*P+v0):=Int.mul_nonneg (by omega) (Int.add_nonneg (Int.mul_nonneg hv2 (Int.le_of_lt hP)) hv0);have h3:u2*P<=1048575*P:=Int.mul_le_mul_of_nonneg_right hu (Int.le_of_lt hP)
 have e1:(g+1)*V=(g+1)*v1*1048576*P+(g+1)*(v2*P+v0):=by rw [hV];grind
 have e2:(t*1048576+u2)*P=(t+1)*1048576*P-1048576*P+u2*P:=by grind
 omega
theorem wi4 (hP:0<P) (hW:W=(t*1048576+u2)*P+w0) (hw:w0<P) (hV:V=(v1*1048576+v2)*P+v0) (hv0:0<=v0) (hg0:0<=g) (ht:t=g*v1+rest) (hc:rest*1048576+u2<g*v2):W<g*V:=by
 have h1:(t*1048576+u2+1)*P<=g*(v1*1048576+v2)*P:=by
  apply Int.mul_le_mul_of_nonneg_right _ (Int.le_of_lt hP)
  have:g*(v1*1048576+v2)=g*v1*1048576+g*v2:=by grind
  omega
 have h2:0<=g*v0:=Int.mul_nonneg hg0 hv0
 have e1:g*V=g*(v1*1048576+v2)*P+g*v0:=by rw [hV];grind
 have e2:(t*1048576+u2+1)*P=(t*1048576+u2)*P+P:=by grind
 omega
theorem vpk (hP:0<P) (hW:W=(t*1048576+u2)*P+w0) (hw:0<=w0) (hu2:0<=u2) (hV:V=(v1*1048576+v2)*P+v0) (hv0:v0<P) (hv1:1<=v1) (hv2:0<=v2/\v2<=1048575) (hV0:0<V) (hW0:0<=W) (hg0:0<=g) (hg1:g<=1048575) (ht:t=g*v1+rest)
 (hc:1048576<=rest\/g*v2<=rest*1048576+u2):(g-1)*V<=W:=by
 by_cases h0:g=0
 . subst h0
   have:(0-1)*V = - V:=by grind
   omega
 have hg:0<=g-1:=by omega
 have hb:(g-1)*(v1*1048576+v2+1)<=t*1048576+u2:=by
  have e:(g-1)*(v1*1048576+v2+1)=g*v1*1048576+g*v2+g-v1*1048576-v2-1:=by grind
  rcases hc with hc | hc
  . have h1:g*v2<=g*1048575:=Int.mul_le_mul_of_nonneg_left hv2.2 hg0;rw [e,ht]
    have:(g*v1+rest)*1048576=g*v1*1048576+rest*1048576:=by grind
    omega
  . rw [e,ht]
    have:(g*v1+rest)*1048576=g*v1*1048576+rest*1048576:=by grind
    omega
 have h1:(g-1)*(v1*1048576+v2+1)*P<=(t*1048576+u2)*P:=Int.mul_le_mul_of_nonneg_right hb (Int.le_of_lt hP);have h2:(g-1)*v0<=(g-1)*P:=Int.mul_le_mul_of_nonneg_left (Int.le_of_lt hv0) hg
 have e1:(g-1)*V=(g-1)*(v1*1048576+v2+1)*P-(g-1)*P+(g-1)*v0:=by rw [hV];grind
 omega
end
theorem zpk (hd:digits l) (hn:norm l) (h:l≠[]):1048576 ^ (l.length-1)<=num l:=by
 have hp:0<l.length:=List.length_pos_iff.2 h;have h1:=w4d l (l.length-1);rw [zvp (by omega)] at h1;have h2:=num_nonneg (hd.take (l.length-1));have h3:=hn h;have h4:=hd.getD (l.length-1);have h5:=Int.mul_le_mul_of_nonneg_left (show (1:Int)<=l.getD (l.length-1) 0 by omega) (Int.le_of_lt (zou (l.length-1)));rw [Int.mul_one] at h5;omega
theorem vhw (w:List Int) (i k:Nat) (h:i+k<=w.length):num w=num (w.take i)+1048576 ^ i*num ((w.drop i).take k)+1048576 ^ (i+k)*num (w.drop (i+k)):=by
 have h1:=zlm w i;have h2:=zlm (w.drop i) k
 have e1:(w.take i).length=i:=by simp;omega
 have e2:((w.drop i).take k).length=k:=by simp;omega
 rw [e1] at h1;rw [e2,List.drop_drop] at h2;rw [h1,h2,Int.pow_add]
 grind
theorem y3m (w d:List Int) (i k:Nat) (h:i+k<=w.length) (hd:d.length=k):num (w.take i++d++w.drop (i+k))=num (w.take i)+1048576 ^ i*num d+1048576 ^ (i+k)*num (w.drop (i+k)):=by
 have e1:(w.take i).length=i:=by simp;omega
 rw [xtv,xtv,List.length_append,e1,hd]
theorem ws7 {a b s w:Int} (hs:0<s) (hb:0<b) (he:a*s=b*s*q+w) (h0:0<=w) (h1:w<b*s):a / b=q/\a % b=w / s:=by
 have hbs:0<b*s:=Int.mul_pos hb hs
 have hq:a / b=q:=by
  rw [<-Int.mul_ediv_mul_of_pos_left a b hs,he,Int.add_comm,Int.add_mul_ediv_left _ _ (by omega),Int.ediv_eq_zero_of_lt h0 h1];omega
 refine ⟨hq,?_⟩;have h2:=Int.emod_add_mul_ediv a b;rw [hq] at h2
 have h3:w=(a % b)*s:=by
  have:(a % b+b*q)*s=b*s*q+w:=by rw [h2];exact he
  have h4:(a % b+b*q)*s=a % b*s+b*s*q:=by grind
  omega
 rw [h3,Int.mul_ediv_cancel _ (by omega)]
theorem xkt {i n k:Nat} (h:k<n):((l.drop i).take n).getD k 0=l.getD (i+k) 0:=by
 rw [z4f h,List.getD_eq_getElem?_getD,List.getElem?_drop,List.getD_eq_getElem?_getD]
def sg (z:Int):Int:=if z<0 then -1 else if 0<z then 1 else 0
theorem zgv (h:0<z):sg z=1:=by unfold sg;rw [if_neg (by omega),if_pos h]
theorem xxz (h:z<0):sg z = -1:=by unfold sg;rw [if_pos h]
theorem vap:sg 0=0:=rfl
theorem wzq (z:Int):(z<0/\sg z = -1)\/(z=0/\sg z=0)\/(0<z/\sg z=1):=by
 rcases Int.lt_trichotomy z 0 with h | h | h
 . exact .inl ⟨h,xxz h⟩
 . exact .inr (.inl ⟨h,by rw [h];rfl⟩)
 . exact .inr (.inr ⟨h,zgv h⟩)
def zC (z:Int):List Cell:=[.raw (.int .i64 (sg z)),.ints .i64 (dig z.natAbs)]
def xhn (s:Int) (L:List Int):Prop:=digits L/\((L=[]/\s=0)\/(L≠[]/\(s=1\/s = -1)/\L.getD (L.length-1) 0≠0))
instance (s:Int) (L:List Int):Decidable (xhn s L):=inferInstanceAs (Decidable (_/\_))
theorem wa6 (s:Int) (L:List Int):xhn s L↔∃ z:Int,s=sg z/\L=dig z.natAbs:=by
 constructor
 . rintro ⟨hd,⟨rfl,rfl⟩ | ⟨hne,hs,htop⟩⟩
   . exact ⟨0,rfl,by rw [show (0:Int).natAbs=0 from rfl,ylp]⟩
   . have hn:norm L:=fun _=>htop
     have hp:=norm.pos hd hn hne
     rcases hs with rfl | rfl
     . exact ⟨num L,(zgv hp).symm,by rw [show (num L).natAbs=(num L).toNat by omega];exact yke hd hn⟩
     . exact ⟨-num L,(xxz (by omega)).symm,by rw [show (-num L).natAbs=(num L).toNat by omega];exact yke hd hn⟩
 . rintro ⟨z,rfl,rfl⟩;refine ⟨wo6 _,?_⟩
   rcases wzq z with ⟨h,e⟩ | ⟨h,e⟩ | ⟨h,e⟩
   . exact .inr ⟨fun h'=>by have:=zrh.1 h';omega,.inr e,yrd _ (fun h'=>by have:=zrh.1 h';omega)⟩
   . exact .inl ⟨by rw [h,show (0:Int).natAbs=0 from rfl,ylp],e⟩
   . exact .inr ⟨fun h'=>by have:=zrh.1 h';omega,.inl e,yrd _ (fun h'=>by have:=zrh.1 h';omega)⟩
theorem xpw (z:Int):xhn (sg z) (dig z.natAbs):=(wa6 _ _).2 ⟨z,rfl,rfl⟩
theorem zeb (z:Int):num (dig z.natAbs)=z.natAbs:=yn8 _
theorem z4z (a b:Nat):(dig (a+b)).length<=max (dig a).length (dig b).length+1:=by
 apply vwv;have h1:=x38 (n:=a) (k:=max (dig a).length (dig b).length) (Nat.le_max_left _ _);have h2:=x38 (n:=b) (k:=max (dig a).length (dig b).length) (Nat.le_max_right _ _);rw [Nat.pow_succ];omega
theorem ysr (a b:Nat):(dig (a*b)).length<=(dig a).length+(dig b).length:=by
 apply vwv;rw [Nat.pow_add];have h1:=x38 (n:=a) (Nat.le_refl _);have h2:=x38 (n:=b) (Nat.le_refl _);exact Nat.mul_lt_mul_of_lt_of_lt h1 h2
theorem zzg (x y:Int):(dig (x+y).natAbs).length<=max (dig x.natAbs).length (dig y.natAbs).length+1:=
 Nat.le_trans (wxv (by omega)) (z4z x.natAbs y.natAbs)
theorem wm8 (x y:Int):(dig (x*y).natAbs).length<=(dig x.natAbs).length+(dig y.natAbs).length:=by
 rw [Int.natAbs_mul];exact ysr _ _
theorem v03 {x y r:Int} (h:x=y*q+r) (h0:0<=r) (h1:r<y):x / y=q/\x % y=r:=by
 rw [h,Int.add_comm];refine ⟨?_,?_⟩
 . rw [Int.add_mul_ediv_left _ _ (by omega),Int.ediv_eq_zero_of_lt h0 h1];omega
 . rw [Int.add_mul_emod_self_left,Int.emod_eq_of_lt h0 h1]
theorem vam {s:Int} (h:(s=1/\0<=z)\/(s = -1/\z<=0)\/z=0):[Cell.raw (.int .i64 (if xun (dig z.natAbs)=[] then 0 else s)),Cell.ints .i64 (xun (dig z.natAbs))]=zC z:=by
 rw [wb4];unfold zC;by_cases h0:z=0
 . subst h0;rw [if_pos (by rw [show (0:Int).natAbs=0 from rfl,ylp])];rfl
 . rw [if_neg (fun h'=>by have:=zrh.1 h';omega)]
   rcases h with ⟨rfl,h⟩ | ⟨rfl,h⟩ | h
   . rw [zgv (by omega)]
   . rw [xxz (by omega)]
   . exact absurd h h0
theorem y79 (x y:Int) (h:sg x≠sg y):ord (sg x) (sg y)=ord x y:=by
 rcases wzq x with ⟨h1,e1⟩ | ⟨h1,e1⟩ | ⟨h1,e1⟩<;>rcases wzq y with ⟨h2,e2⟩ | ⟨h2,e2⟩ | ⟨h2,e2⟩<;>rw [e1,e2] at h ⊢<;>unfold ord<;>first | (exact absurd rfl h) | (repeat' split)<;>omega
theorem zn8 (x y:Int) (h:sg x=sg y):sg x*ord (num (dig x.natAbs)) (num (dig y.natAbs))=ord x y:=by
 rw [zeb,zeb]
 rcases wzq x with ⟨h1,e1⟩ | ⟨h1,e1⟩ | ⟨h1,e1⟩<;>rcases wzq y with ⟨h2,e2⟩ | ⟨h2,e2⟩ | ⟨h2,e2⟩<;>rw [e1] at h ⊢<;>rw [e2] at h<;>first | omega | (unfold ord;(repeat' split)<;>omega)
end Go.Slot
namespace Go.Slot.T
open Go Go.RowKit Go.Slot
open Go.Proofs.Tryz (prog)
set_option maxRecDepth 10000
set_option maxHeartbeats 2000000
theorem xz2 (s:Int) (L:List Int) (hL:L.length<4611686018427387904):yn2 prog 53 [.agg [.raw (.int .i64 s),.ints .i64 L]] (.one (.raw (.bool (decide (xhn s L))))):=by
 refine yn2.run [] Go.Proofs.Tryz.func53 rfl rfl ?_
 conv=>simp (disch:=omega) only [go_sem,Go.Proofs.Tryz.f53,List.replicate]
 refine xyc (fun i:Nat=>[(5,.any),(12,.one (.raw (.int .i64 i))),(13,.any),(14,.any),(15,.any),(16,.any),(17,.any),(18,.any),(19,.any),(20,.any),(21,.any),(22,.any)])
  (fun i=>i<=L.length/\digits (L.take i)) (fun i=>L.length-i) 0 ⟨by omega,by simp [digits]⟩ ?_ ?_
 . simp only [go_sem];exact StLe.weaken (by repeat' first | exact .nil | refine .cons (by first | exact .refl _ | exact .any _) ?_) rfl
 intro i ⟨hi,hd⟩
 conv=>simp (disch:=omega) only [go_sem]
 refine z08 (fun h=>?_) (fun h=>?_)
 . have hi':i<L.length:=by omega
   have hget:L.getD i 0=L[i]:=by simp [hi']
   have hmem:L[i]∈L:=List.getElem_mem hi'
   have hbad:¬(0<=L.getD i 0/\L.getD i 0<=1048575)->¬xhn s L:=fun hn hr=>hn (by rw [hget];exact hr.1 _ hmem)
   conv=>simp (disch:=omega) only [go_sem,yim]
   refine xjr (fun h1=>?_) (fun h1=>?_)
   . conv=>simp (disch:=omega) only [go_sem,yim,h1]
     refine z08 (fun h2=>?_) (fun h2=>?_)
     . conv=>simp (disch:=omega) only [go_sem,yim]
       refine ⟨_,rfl,?_⟩;rw [decide_eq_false (hbad (by omega))];exact .one (.refl _)
     . conv=>simp (disch:=omega) only [go_sem,yim,w64]
       refine ⟨i+1,⟨by omega,?_⟩,by omega,?_⟩
       . intro x hx;rw [List.take_add_one,List.mem_append] at hx
         rcases hx with hx | hx
         . exact hd x hx
         . simp [hi'] at hx;subst hx;rw [<-hget];omega
       . exact StLe.weaken (by repeat' first | exact .nil | refine .cons (by first | exact .refl _ | exact .any _) ?_) rfl
   . conv=>simp (disch:=omega) only [go_sem,yim,h1]
     refine ⟨_,rfl,?_⟩;rw [decide_eq_false (hbad (by omega))];exact .one (.refl _)
 . have hi':i=L.length:=by omega
   have hdig:digits L:=by rw [hi',List.take_length] at hd;exact hd
   conv=>simp (disch:=omega) only [go_sem,yim]
   refine z08 (fun h1=>?_) (fun h1=>?_)
   . have hnil:L=[]:=by have:L.length=0:=(by omega);simpa using this
     conv=>simp (disch:=omega) only [go_sem,yim]
     refine ⟨_,rfl,?_⟩
     have:decide (xhn s L)=decide (s=0):=by
      apply decide_eq_decide.2;simp [xhn,hnil,digits]
     rw [this];exact .one (.refl _)
   . have hne:L≠[]:=fun e=>h1 (by rw [e];rfl)
     have hpos:0<L.length:=List.length_pos_iff.2 hne
     conv=>simp (disch:=omega) only [go_sem,yim]
     have hlast:(s=1\/s = -1)->decide (xhn s L)=decide (L.getD (L.length-1) 0≠0):=fun hs=>by
      apply decide_eq_decide.2;simp only [xhn];constructor
      . rintro ⟨_,⟨h4,_⟩ | ⟨_,_,h4⟩⟩
        . exact absurd h4 hne
        . exact h4
      . exact fun h4=>⟨hdig,.inr ⟨hne,hs,h4⟩⟩
     have e:((L.length:Int)-1).toNat=L.length-1:=by omega
     refine xjr (fun h2=>?_) (fun h2=>?_)
     . conv=>simp (disch:=omega) only [go_sem,yim,h2]
       refine z4u (fun h3=>?_) (fun h3=>?_)
       . subst h3
         conv=>simp (disch:=omega) only [go_sem,yim,w64,e]
         refine ⟨_,rfl,?_⟩;rw [hlast (.inr rfl)];exact .one (.refl _)
       . conv=>simp (disch:=omega) only [go_sem,yim,h3]
         refine ⟨_,rfl,?_⟩
         have:¬xhn s L:=by
          rintro ⟨_,⟨h4,_⟩ | ⟨_,h4,_⟩⟩
          . exact hne h4
          . omega
         rw [decide_eq_false this];exact .one (.refl _)
     . subst h2
       conv=>simp (disch:=omega) only [go_sem,yim,w64,e]
       refine ⟨_,rfl,?_⟩;rw [hlast (.inl rfl)];exact .one (.refl _)
theorem xam (L:List Int) (hL:L.length<4611686018427387904):yn2 prog 160 [.one (.ints .i64 L)] (.one (.ints .i64 (L.take (z4o L L.length)))):=by
 refine yn2.run [] Go.Proofs.Tryz.func160 rfl rfl ?_
 conv=>simp (disch:=omega) only [go_sem,Go.Proofs.Tryz.f160,List.replicate]
 refine xyc (fun n:Nat=>[(3,.one (.raw (.int .i64 n))),(6,.any),(7,.any),(8,.any),(9,.any),(10,.any),(11,.any),(12,.any),(13,.any),(14,.any),(15,.any),(16,.any),(17,.any)])
  (fun n=>n<=L.length/\z4o L L.length=z4o L n) (fun n=>n) L.length ⟨Nat.le_refl _,rfl⟩ ?_ ?_
 . simp only [go_sem];exact StLe.weaken (by repeat' first | exact .nil | refine .cons (by first | exact .refl _ | exact .any _) ?_) rfl
 intro n ⟨hn,ht⟩
 conv=>simp (disch:=omega) only [go_sem]
 have done:z4o L L.length=n->((n:Int)).toNat=z4o L L.length:=fun h=>by omega
 refine z4u (fun h=>?_) (fun h=>?_)
 . obtain ⟨m,rfl⟩:∃ m,n=m+1:=⟨n-1,by omega⟩
   have e:((m+1:Nat):Int)-1=(m:Nat):=by omega
   conv=>simp (disch:=omega) only [go_sem,yim,h,w64,e]
   refine z08 (fun h2=>?_) (fun h2=>?_)
   . conv=>simp (disch:=omega) only [go_sem,yim,h,w64,e]
     refine ⟨m,⟨by omega,by rw [ht];simp only [z4o];rw [if_pos h2]⟩,by omega,?_⟩;exact StLe.weaken (by repeat' first | exact .nil | refine .cons (by first | exact .refl _ | exact .any _) ?_) rfl
   . have hfin:z4o L L.length=m+1:=by rw [ht];simp only [z4o];rw [if_neg h2]
     conv=>simp (disch:=omega) only [go_sem,yim,h,w64,e]
     refine ⟨_,rfl,?_⟩;rw [hfin];exact .one (.refl _)
 . have h0:n=0:=by omega
   subst h0
   conv=>simp (disch:=omega) only [go_sem,yim,h,w64]
   refine ⟨_,rfl,?_⟩;rw [ht];exact .one (.refl _)
theorem zu8 (pre:List Value) (q:List Value) (L:List Int) (hL:L.length<4611686018427387904):wmo prog 160 [.arr pre (.ints .i64 L) (some q)] 0 (.arr pre (.ints .i64 L) (some q)) (.awn 0 1 0 (z4o L L.length)):=by
 refine wmo.run [] Go.Proofs.Tryz.func160 rfl rfl (fun t h=>h) ?_
 conv=>simp (disch:=omega) only [go_sem,Go.Proofs.Tryz.f160,List.replicate]
 refine xyc (fun n:Nat=>[(3,.one (.raw (.int .i64 n))),(6,.any),(7,.any),(8,.any),(9,.any),(10,.any),(11,.any),(12,.any),(13,.any),(14,.any),(15,.any),(16,.any),(17,.any)])
  (fun n=>n<=L.length/\z4o L L.length=z4o L n) (fun n=>n) L.length ⟨Nat.le_refl _,rfl⟩ ?_ ?_
 . simp only [go_sem];exact StLe.weaken (by repeat' first | exact .nil | refine .cons (by first | exact .refl _ | exact .any _) ?_) rfl
 intro n ⟨hn,ht⟩
 conv=>simp (disch:=omega) only [go_sem]
 have done:z4o L L.length=n->((n:Int)).toNat=z4o L L.length:=fun h=>by omega
 refine z4u (fun h=>?_) (fun h=>?_)
 . obtain ⟨m,rfl⟩:∃ m,n=m+1:=⟨n-1,by omega⟩
   have e:((m+1:Nat):Int)-1=(m:Nat):=by omega
   conv=>simp (disch:=omega) only [go_sem,yim,h,w64,e]
   refine z08 (fun h2=>?_) (fun h2=>?_)
   . conv=>simp (disch:=omega) only [go_sem,yim,h,w64,e]
     refine ⟨m,⟨by omega,by rw [ht];simp only [z4o];rw [if_pos h2]⟩,by omega,?_⟩;exact StLe.weaken (by repeat' first | exact .nil | refine .cons (by first | exact .refl _ | exact .any _) ?_) rfl
   . have hfin:z4o L L.length=m+1:=by rw [ht];simp only [z4o];rw [if_neg h2]
     conv=>simp (disch:=omega) only [go_sem,yim,h,w64,e]
     exact ⟨rfl,rfl,rfl,2,rfl,by rw [hfin];rfl⟩
 . have h0:n=0:=by omega
   subst h0
   conv=>simp (disch:=omega) only [go_sem,yim,h,w64]
   exact ⟨rfl,rfl,rfl,2,rfl,by rw [ht];rfl⟩
theorem wlw (L:List Int) (n:Nat) (hn:n=L.length) (hL:L.length<4611686018427387904):vpg prog 160 [.any] 0 (.wn (.ints .i64 L) 0 n) (.wn (.ints .i64 L) 0 n) (.awn 0 1 0 (z4o L L.length)):=fun pre q=>by
 have:(Cell.ints .i64 L).sub 0 n=.ints .i64 L:=by simp [Cell.sub,hn]
 rw [this];exact zu8 pre q L hL
theorem v6x {L:List Int} {n:Int} (hd:digits L) (h:num L=n):AV.arr [] (.ints .i64 (L.take (z4o L L.length))) none=.arr [] (.ints .i64 (dig n.toNat)) none:=by
 rw [<-wah hd h];rfl
def bigC (s:Int) (L:List Int):List Cell:=[.raw (.int .i64 s),.ints .i64 L]
theorem y7y (s:Int) (L:List Int) (hL:L.length<4611686018427387904) :
 yn2 prog 114 [.one (.raw (.int .i64 s)),.one (.ints .i64 L)] (.agg (bigC (if xun L=[] then 0 else s) (xun L))):=by
 refine yn2.run [] Go.Proofs.Tryz.func114 rfl rfl ?_
 conv=>simp (disch:=omega) only [go_sem,Go.Proofs.Tryz.f114,List.replicate]
 refine v1h (xam L hL) ?_;rw [show L.take (z4o L L.length)=xun L from rfl]
 conv=>simp (disch:=omega) only [go_sem]
 refine z08 (fun h=>?_) (fun h=>?_)
 . have h0:xun L=[]:=by have:(xun L).length=0:=(by omega);simpa using this
   conv=>simp (disch:=omega) only [go_sem,yim]
   refine ⟨_,rfl,?_⟩;rw [h0];exact .one (.agg (.cons (.refl _) (.cons (.ysc _) .nil)))
 . have h0:xun L≠[]:=fun e=>h (by rw [e];rfl)
   conv=>simp (disch:=omega) only [go_sem,yim]
   refine ⟨_,rfl,?_⟩
   try rw [if_neg h0]
   exact .one (.refl _)
theorem z8n (b:Bool) (s:Int) (L:List Int) :
 yn2 prog 111 [.one (.raw (.bool b)),.agg (bigC s L)] (.tup [.agg (if b then bigC s L else bigC 0 []),.one (.raw (.int .i64 (if b then 0 else 1)))]):=by
 refine yn2.run [] Go.Proofs.Tryz.func111 rfl rfl ?_
 conv=>simp (disch:=omega) only [go_sem,Go.Proofs.Tryz.f111,List.replicate,bigC]
 refine wqz (fun h=>?_) (fun h=>?_)
 . have h:b=false:=by simpa using h
   subst h
   conv=>simp (disch:=omega) only [go_sem,yim]
   refine ⟨_,rfl,?_⟩;exact .tup (.cons (.agg (.cons (.refl _) (.cons (.ysc _) .nil))) (.cons (.refl _) .nil))
 . have h:b=true:=by simpa using h
   subst h
   conv=>simp (disch:=omega) only [go_sem,yim]
   refine ⟨_,rfl,?_⟩;exact .tup (.cons (.refl _) (.cons (.refl _) .nil))
theorem xl1:yn2 prog 112 [.one (.ints .i64 [])] (.one (.ints .i64 [])):=by
 refine yn2.zrt (fun b=>?_);refine yn2.run [] Go.Proofs.Tryz.func112 rfl rfl ?_
 conv=>simp (disch:=omega) only [go_sem,Go.Proofs.Tryz.f112,List.replicate]
 refine wqz (fun h=>?_) (fun h=>?_)
 . conv=>simp (disch:=omega) only [go_sem,yim]
   exact ⟨_,rfl,.one (.one (.zrt _))⟩
 . conv=>simp (disch:=omega) only [go_sem,yim]
   exact ⟨_,rfl,.one (.refl _)⟩
theorem xfv (L:List Int) (h0:0<L.length) (hL:L.length<=17592186044416):yn2 prog 112 [.one (.ints .i64 L)] (.arr [] (.ints .i64 L) none):=by
 refine yn2.run [] Go.Proofs.Tryz.func112 rfl rfl ?_
 conv=>simp (disch:=omega) only [go_sem,Go.Proofs.Tryz.f112,List.replicate,yim]
 exact ⟨_,rfl,.one (.refl _)⟩
theorem yud (L:List Int) (hL:L.length<=17592186044416):yn2 prog 112 [.one (.ints .i64 L)] (.one (.ints .i64 L)):=by
 by_cases h:L=[]
 . subst h;exact xl1
 . exact (xfv L (List.length_pos_iff.2 h) hL).le .own
theorem wu3 (a b:List Int) (ha:digits a) (hb:digits b) (la:a.length<=1099511627776) (lb:b.length<=1099511627776) :
 yn2 prog 138 [.one (.ints .i64 a),.one (.ints .i64 b)] (.one (.ints .i64 (dig (num a+num b).toNat))):=by
 refine yn2.run [(3,[.join])] Go.Proofs.Tryz.func138 rfl rfl ?_;simp only [Go.Proofs.Tryz.f138];refine rgR ?_;refine zu4 [0,1] (fun p:List Int×List Int=>[(0,.one (.ints .i64 p.1)),(1,.one (.ints .i64 p.2))])
  (fun p=>p.2.length<=p.1.length/\digits p.1/\digits p.2/\num p.1+num p.2=num a+num b/\p.1.length<=1099511627776) ?_ ?_
 . refine rg ?_;refine z08 (fun h=>?_) (fun h=>?_)
   . refine rg ?_;exact ⟨(b,a),⟨by dsimp only;omega,hb,ha,Int.add_comm _ _,lb⟩,StLe.weaken (by repeat' first | exact .nil | refine .cons (by first | exact .refl _ | exact .any _) ?_) rfl⟩
   . refine rg ?_;exact ⟨(a,b),⟨by dsimp only;omega,ha,hb,rfl,la⟩,StLe.weaken (by repeat' first | exact .nil | refine .cons (by first | exact .refl _ | exact .any _) ?_) rfl⟩
 rintro ⟨p,q⟩ ⟨hle,hp,hq,hs,hl⟩;simp only at hle hp hq hs hl;refine rg ?_;refine vxs [0,1,5,20,21] (fun x:Nat×List Int×Int=>[(6,.one (.raw (.int .i64 x.2.2))),(19,.arr [] (.ints .i64 x.2.1) none),(22,.one (.raw (.int .i64 x.1)))])
  (fun x=>x.1<=p.length/\x.2.1.length=p.length+1/\digits x.2.1/\xl7 x.2.1 x.1/\(0<=x.2.2/\x.2.2<=1)/\num x.2.1+1048576 ^ x.1*x.2.2=num (p.take x.1)+num (q.take x.1))
  (fun x=>p.length-x.1) (0,List.replicate ((p.length:Int)+1).toNat 0,0)
  ⟨Nat.zero_le _,by simp,digits.rep _,xl7.rep _,by simp,by simp [ya9,num]⟩ ?_ ?_
 . refine rg ?_;exact StLe.weaken (by repeat' first | exact .nil | refine .cons (by first | exact .refl _ | exact .any _) ?_) rfl
 rintro ⟨i,o,c⟩ ⟨hi,ho,hdo,hz,hc,hn⟩;simp only at hi ho hdo hz hc hn;refine rg ?_;refine z08 (fun h=>?_) (fun h=>?_)
 . have hpi:=hp.getD i;have hqi:=hq.getD i;refine rg ?_;have hz0:=hz i (Nat.le_refl _)
   have key:∀ s:Int,s=c+p.getD i 0+q.getD i 0->num (o.set i (s % 1048576))+1048576 ^ (i+1)*(s / 1048576)=num (p.take (i+1))+num (q.take (i+1)):=fun s hs=>by
    rw [vks (by omega) s,w4d,w4d,hz0,hs]
    grind
   refine z08 (fun h1=>?_) (fun h1=>?_)
   . refine rg2 @vuf @v2y ?_
     exact ⟨(i+1,o.set i ((c+p.getD i 0+q.getD i 0) % 1048576),(c+p.getD i 0+q.getD i 0) / 1048576),
      ⟨by dsimp only;omega,by simpa using ho,hdo.set i (by omega),hz.set _,by dsimp only;omega,key _ rfl⟩,by dsimp only;omega,StLe.weaken (by repeat' first | exact .nil | refine .cons (by first | exact .refl _ | exact .any _) ?_) rfl⟩
   . refine rg2 @vuf @v2y ?_;have hq0:=vv7 (l:=q) (i:=i) (by omega)
     exact ⟨(i+1,o.set i ((c+p.getD i 0) % 1048576),(c+p.getD i 0) / 1048576),
      ⟨by dsimp only;omega,by simpa using ho,hdo.set i (by omega),hz.set _,by dsimp only;omega,key _ (by omega)⟩,by dsimp only;omega,StLe.weaken (by repeat' first | exact .nil | refine .cons (by first | exact .refl _ | exact .any _) ?_) rfl⟩
 . refine rg ?_
   have hip:i=p.length:=by omega
   subst hip
   have hlen:(o.set p.length c).length<4611686018427387904:=by simp;omega
   have hnum:num (o.set p.length c)=num a+num b:=by
    rw [y8v _ _ _ (by omega),hz _ (Nat.le_refl _),<-hs];rw [zvp (Nat.le_refl _),zvp hle] at hn;rw [<-hn];grind
   have hdig:digits (o.set p.length c):=hdo.set _ (by omega);rw [show o.length=(o.set p.length c).length by simp];generalize o.set p.length c=r at *;have htr:=zdf r r.length;refine ownk (wlw r _ rfl hlen) ?_;refine rg ?_;exact ⟨_,rfl,by rw [v6x hdig hnum];exact .own⟩
end Go.Slot.T
