import Derived.Test.YtpkininnjhbeaaaGreatDoorY35
import Derived.Test.YtpkininnjhbeaaaGreatDoorY28
import Derived.Test.YtpkininnjhbeaaaGreatDoorY33
import Derived.Test.YtpkininnjhbeaaaGreatDoorY21
import Derived.Test.YtpkininnjhbeaaaGreatDoorY34
import Derived.Test.YtpkininnjhbeaaaGreatDoorY32
import Derived.Test.YtpkininnjhbeaaaGreatDoorChecked
namespace Go.Hp.T
open Go Go.RowKit Go.Slot Go.Hp Go.Slot.T
open Go.Proofs.Tryz (prog)
set_option maxRecDepth 10000
set_option maxHeartbeats 0
variable {Γ:List (Nat×List Cell)}
theorem ya7 {α:Type} {l:List α} {i:Nat} (d:α) (h:i<l.length):l.take (i+1)=l.take i++[l.getD i d]:=by
 rw [List.take_add_one];simp [h]
theorem yge (f:Fc) (n:Int) (_h1:f.L.length<=1099511627776) (_h2:f.M.length<=1099511627776) :
 CallsD Γ prog 47 [.agg f.C,.one (.raw (.int .i64 n))] (.one (.raw (.bool (decide ((f.sz:Int)<=n))))):=by
 have e:((f.sz:Nat):Int)=max (f.L.length:Int) f.M.length:=by unfold Fc.sz;omega
 refine CallsD.run [] Go.Proofs.Tryz.func47 rfl rfl rfl ?_;simp only [Go.Proofs.Tryz.f47];refine hgR ?_;refine ywj (fun h _=>?_) (fun h _=>?_)
 . have h':=decide_eq_true h;refine hg1 @h' ?_;exact (by rw [show decide ((f.sz:Int)<=n)=decide ((f.M.length:Int)<=n) from decide_eq_decide.2 (by omega)];exact .one (.refl _))
 . have h':=decide_eq_false h;refine hg1 @h' ?_;exact (by rw [decide_eq_false (by omega)];exact .one (.refl _))
theorem xlr (f:Fc) (h1:f.L.length<=1099511627776) (h2:f.M.length<=1099511627776) :
 CallsD Γ prog 47 [.agg f.C,.one (.raw (.int .i64 4))] (.one (.raw (.bool (decide (f.sz<=4))))):=by
 have:=yge (Γ:=Γ) f 4 h1 h2
 rwa [decide_eq_decide.2 (show (f.sz:Int)<=4↔f.sz<=4 by omega)] at this
theorem wbl (s:Int) (L:List Int) (s':Int) (M:List Int) (lL:L.length<=1073741824) (_lM:M.length<=1073741824) :
 CallsD Γ prog 89 [.agg [.raw (.int .i64 s),.ints .i64 L],.agg [.raw (.int .i64 s'),.ints .i64 M]] (.one (.raw (.bool (decide (s=s'/\L=M))))):=by
 obtain ⟨r,hr⟩:∃ r,r=decide (s=s'/\L=M):=⟨_,rfl⟩;rw [<-hr]
 have bad:¬(s=s'/\L=M)->false=r:=fun h=>by rw [hr,decide_eq_false h]
 by_cases h1:s=s'
 . subst h1;by_cases h2:(L.length:Int)=M.length
   . have hl:L.length=M.length:=by omega
     have h2':¬((L.length:Int)≠M.length):=fun h=>h h2
     refine CallsD.run [] Go.Proofs.Tryz.func89 rfl rfl rfl ?_;simp only [Go.Proofs.Tryz.f89];refine hgR ?_;refine vt2 (fun h _=>absurd h h2') (fun _ _=>?_);refine hg ?_;refine x20 [2,3] (fun i:Nat=>[(5,.one (.dat (cI (i))))]) (fun _=>[.box [.dat (cI s),.dat (.ints .i64 L)] (some 31),.box [.dat (cI s),.dat (.ints .i64 M)] (some 31)]) (fun i=>i<=L.length/\L.take i=M.take i) (fun i=>L.length-i) 0 ⟨Nat.zero_le _,rfl⟩ ?_ ?_
     . refine hg ?_;exact StH.same svl rfl
     rintro i ⟨hi,he⟩;refine hg ?_;refine vt2 (fun h1 _=>?_) (fun h1 _=>?_)
     . have hgg:∀(l:List Int),i<l.length->l.take (i+1)=l.take i++[l.getD i 0]:=fun l h=>ya7 0 h
       refine hg ?_;refine hik ?_;refine hg ?_;refine vt2 (fun h2 _=>?_) (fun h2 _=>?_)
       . refine hg ?_;exact (by rw [bad (fun e=>h2 (by rw [e.2]))];exact .one (.refl _))
       . have h2:L.getD i 0=M.getD i 0:=by omega
         refine hg ?_;refine ⟨i+1,⟨by omega,?_⟩,by omega,StH.same svl rfl⟩;rw [hgg L (by omega),hgg M (by omega),he,h2]
     . have hi:i=L.length:=by omega
       subst hi;rw [List.take_length,hl,List.take_length] at he
       have e:true=r:=by rw [hr,decide_eq_true ⟨rfl,he⟩]
       refine hg ?_;exact (by rw [e];exact .one (.refl _))
   . have h2:(L.length:Int)≠M.length:=h2;refine CallsD.run [] Go.Proofs.Tryz.func89 rfl rfl rfl ?_;simp only [Go.Proofs.Tryz.f89];refine hgR ?_;refine vt2 (fun _ _=>?_) (fun h _=>absurd h2 h);refine hg ?_;exact (by rw [bad (fun e=>h2 (by rw [e.2]))];exact .one (.refl _))
 . have h1':=decide_eq_true (show s≠s' from h1);refine CallsD.run [] Go.Proofs.Tryz.func89 rfl rfl rfl ?_;simp only [Go.Proofs.Tryz.f89];refine hgR ?_;refine wj9 (fun h _=>absurd h1 h) (fun h _=>?_);refine hg1 @h1' ?_;exact (by rw [bad (fun e=>h1 e.1)];exact .one (.refl _))
theorem xz0 (a b:Fc) (ha:a.sz<=67108864) (hb:b.sz<=67108864):CallsD Γ prog 46 [.agg a.C,.agg b.C] (.one (.raw (.bool (decide (a=b))))):=by
 have la:=szL ha;have lb:=szL hb;obtain ⟨r,hr⟩:∃ r,r=decide (a=b):=⟨_,rfl⟩;rw [<-hr];by_cases h:a.s=b.s/\a.L=b.L
 . have h1:=wbl (Γ:=Γ) a.s a.L b.s b.L (by omega) (by omega);rw [decide_eq_true h] at h1;have h2:=wbl (Γ:=Γ) a.t a.M b.t b.M (by omega) (by omega)
   have e:decide (a.t=b.t/\a.M=b.M)=r:=by
    rw [hr];apply decide_eq_decide.2;constructor
    . intro h';cases a;cases b;simp at h h';simp [h,h']
    . intro h';rw [h'];exact ⟨rfl,rfl⟩
   rw [e] at h2;refine CallsD.run [] Go.Proofs.Tryz.func46 rfl rfl rfl ?_;simp only [Go.Proofs.Tryz.f46];refine hgR ?_
   first | refine wml h1 ?_ | refine ysj h1 ?_
   refine hg ?_
   first | refine wml h2 ?_ | refine ysj h2 ?_
   refine hg ?_;exact (.one (.refl _))
 . have h1:=wbl (Γ:=Γ) a.s a.L b.s b.L (by omega) (by omega);rw [decide_eq_false h] at h1
   have e:r=false:=by rw [hr,decide_eq_false (fun e=>h (by rw [e];exact ⟨rfl,rfl⟩))]
   subst e;refine CallsD.run [] Go.Proofs.Tryz.func46 rfl rfl rfl ?_;simp only [Go.Proofs.Tryz.f46];refine hgR ?_
   first | refine wml h1 ?_ | refine ysj h1 ?_
   refine hg ?_;exact (.one (.refl _))
def fewA (a:Af):Prop:=a.l.length<=6/\a.le 4
instance (a:Af):Decidable (fewA a):=inferInstanceAs (Decidable (a.l.length<=6/\(a.c.sz<=4/\∀ f∈a.l,f.sz<=4)))
theorem w5v (a:Af) (hl:a.l.length<=1048576) (hs:a.le 1048576):CallsD Γ prog 16 [.agg a.C] (.one (cB (decide (fewA a)))):=by
 have few:∀ f:Fc,f.sz<=1048576->CallsD Γ prog 47 [.agg f.C,.one (.raw (.int .i64 4))] (.one (.raw (.bool (decide (f.sz<=4))))):=fun f h=>by
  have h2:=szL h;exact xlr f (by omega) (by omega)
 simp only [Fc.C_eq] at few;have hc:=few a.c hs.1;generalize hR:decide (fewA a)=R;refine CallsD.run [] Go.Proofs.Tryz.func16 rfl rfl rfl ?_;simp only [Go.Proofs.Tryz.f16];refine hgR ?_;refine x20 [1] (fun i:Nat=>[(3,.one (.dat (cI i)))]) (fun _=>[.box (a.C.map .dat) (some 36)]) (fun i=>i<=a.l.length/\i<=7/\∀ j,j<i->(a.l.getD j Fc.zero).sz<=4) (fun i=>a.l.length-i) 0 ⟨Nat.zero_le _,Nat.zero_le _,fun j hj=>by omega⟩ ?_ ?_
 . refine hg ?_;exact StH.same svl rfl
 rintro i ⟨h1,h2,h3⟩;refine hg ?_;by_cases hlt:i<a.l.length
 . have hf:=few (a.l.getD i Fc.zero) (zmm hs.2 hlt)
   have bad:¬(a.l.getD i Fc.zero).sz<=4->R=false:=fun h=>by
    rw [<-hR];exact decide_eq_false (fun hh=>h (zmm hh.2.2 hlt))
   have big:¬a.l.length<=6->R=false:=fun h=>by
    rw [<-hR];exact decide_eq_false (fun hh=>h hh.1)
   repeat' ((first | refine hfk ?_ ?_<;>intros | refine hik ?_ | with_reducible first | refine hcA ?_ | refine hcB ?_)<;>refine hgS ?_)
   all_goals first
    | exact .one (.refl _)
    | (exfalso;omega)
    | (rw [bad (by assumption)];exact .one (.refl _))
    | (rw [big (by omega)];exact .one (.refl _))
    | exact ⟨i+1,⟨by omega,by omega,xm4 (p:=fun j=>(a.l.getD j Fc.zero).sz<=4) h3 (by first | assumption | exact of_decide_eq_true (by assumption) | exact Decidable.of_not_not (by assumption))⟩,by omega,StH.same svl rfl⟩
 . have hi:i=a.l.length:=by omega
   have e:a.l.length<=6->R=decide (a.c.sz<=4):=fun h=>by
    rw [<-hR]
    exact decide_eq_decide.2 ⟨fun hh=>hh.2.1,fun hh=>⟨h,hh,fun f hf=>by
     obtain ⟨j,hj,rfl⟩:=List.getElem_of_mem hf
     have:=h3 j (by omega)
     rwa [show a.l.getD j Fc.zero=a.l[j] from by simp [hj]] at this⟩⟩
   have big:¬a.l.length<=6->R=false:=fun h=>by
    rw [<-hR];exact decide_eq_false (fun hh=>h hh.1)
   repeat' ((first | refine hfk ?_ ?_<;>intros | refine hik ?_ | with_reducible first | refine hcA ?_ | refine hcB ?_)<;>refine hgS ?_)
   all_goals first
    | exact .one (.refl _)
    | (exfalso;omega)
    | (rw [big (by omega)];exact .one (.refl _))
    | (rw [e (by omega)];exact .one (.refl _))
theorem CallsD.ws4 {Γ:List (Nat×List Cell)} {P:Program} {f:FuncId} {args args':List AV} {res:AV} (h:CallsD Γ P f args' res) (hle:LeS args args'):CallsD Γ P f args res:=⟨h.1,fun M w vs hM hg hr=>h.2 M w vs hM hg (RdBL.le hle hr)⟩
def yw7 (x:Ex) (ss:List Sl) (ms:List Tb):Bool:=(ss.take 7).all (fun s=>decide ((s.name.size:Int)<=30)&&decide (fewA s.f))&&(decide ((ss.length:Int)<=6)&&(v1w x [] ms&&(decide (0<=x.rsz 40 12)||!ygj x)))
theorem zt1 (x:Ex) (hx:x.Sm) (ss:List Sl) (ms:List Tb) (hl:ss.length<=1073741824) (hs:∀ s∈ss,s.f.l.length<=1048576/\s.f.le 1048576) (hm:ms.length<=1073741824):CallsD Γ prog 9 [.agg (exC x),.one (.sl 6 (ss.map Sl.C)),.one (.sl 3 (ms.map Tb.C))] (.one (cB (yw7 x ss ms))):=by
 have h1:=znv (Γ:=Γ) x hx [] ms (by decide) hm;have h2:=rFew (Γ:=Γ) x hx 40 12 (by decide) (by decide) (by decide) (by decide);have h3:=xsr (Γ:=Γ) x hx;generalize hR:yw7 x ss ms=R;have e:R=((ss.take 7).all (fun s=>decide ((s.name.size:Int)<=30)&&decide (fewA s.f))&&(decide ((ss.length:Int)<=6)&&(v1w x [] ms&&(decide (0<=x.rsz 40 12)||!ygj x)))):=hR.symm;clear hR;generalize v1w x [] ms=b1 at h1 e;generalize decide (0<=x.rsz 40 12)=b2 at h2 e;generalize ygj x=b3 at h3 e;rw [List.map_nil] at h1;have h1:=CallsD.ws4 h1 (args:=[.agg (exC x),.one (.raw (.slice none 0 0)),.one (.sl 3 (ms.map Tb.C))]) (.cons (.refl _) (.cons (.one (.nilSl _)) (.cons (.refl _) .nil)));refine CallsD.run [] Go.Proofs.Tryz.func9 rfl rfl rfl ?_;simp only [Go.Proofs.Tryz.f9];refine hgR ?_;refine x20 [1,2,3] (fun i:Nat=>[(7,.one (.dat (cI i)))]) (fun _=>[.box ((exC x).map .dat) (some 24)]) (fun i=>i<=ss.length/\i<=7/\∀ j,j<i->(decide (((ss.getD j default).name.size:Int)<=30)&&decide (fewA (ss.getD j default).f))=true) (fun i=>ss.length-i) 0 ⟨Nat.zero_le _,Nat.zero_le _,fun j hj=>by omega⟩ ?_ ?_
 . refine hg ?_;exact StH.same svl rfl
 rintro i ⟨k1,k2,k3⟩;refine hg ?_;by_cases hlt:i<ss.length/\i<7
 . have hm2:=hs _ (y7p hlt.1);have hf:=w5v (Γ:=Γ) (ss.getD i default).f hm2.1 hm2.2;simp only [Af.C_eq] at hf;have no:=xdn (p:=fun s:Sl=>decide ((s.name.size:Int)<=30)&&decide (fewA s.f)) hlt.2 hlt.1;generalize hb:decide (fewA (ss.getD i default).f)=b at hf no
   have yes1:¬30<((ss.getD i default).name.size:Int)->b=true->(decide (((ss.getD i default).name.size:Int)<=30)&&b)=true:=fun h k=>by rw [k,decide_eq_true (by omega)];rfl
   have no1:30<((ss.getD i default).name.size:Int)->(decide (((ss.getD i default).name.size:Int)<=30)&&b)=false:=fun h=>by rw [decide_eq_false (by omega)];rfl
   have no2:b=false->(decide (((ss.getD i default).name.size:Int)<=30)&&b)=false:=fun h=>by rw [h,Bool.and_false]
   repeat' ((first | refine hfk ?_ ?_<;>intros | refine hik ?_ | with_reducible first | refine hcA ?_ | refine hcB ?_)<;>refine hgS ?_)
   all_goals first
    | (exfalso;omega)
    | (rw [no (by first | exact no1 (by assumption) | exact no2 (by assumption))];exact .one (.refl _))
    | (rw [e,no (by first | exact no1 (by assumption) | exact no2 (by assumption))];exact .one (.refl _))
    | exact ⟨i+1,⟨by omega,by omega,vol k3 (by rw [hb];exact yes1 (by assumption) (by assumption))⟩,by omega,StH.same svl rfl⟩
 . have yes:=z8a (p:=fun s:Sl=>decide ((s.name.size:Int)<=30)&&decide (fewA s.f)) (n:=7) k3 (by omega);rw [yes,Bool.true_and] at e
   repeat' ((first | refine hfk ?_ ?_<;>intros | refine hik ?_ | with_reducible first | refine hcA ?_ | refine hcB ?_)<;>refine hgS ?_)
   all_goals first
    | (exfalso;omega)
    | exact RLe.ofEq rfl
    | exact RLe.ofEq (by simp [*])
    | exact RLe.ofEq (by rw [e];simp [*])
instance:DecidableEq Af:=fun a b=>decidable_of_iff (a.c=b.c/\a.l=b.l) ⟨fun h=>by cases a;cases b;simp at h;simp [h],fun h=>by rw [h];exact ⟨rfl,rfl⟩⟩
theorem z4n (a b:Af) (la:a.l.length<=1048576) (lb:b.l.length<=1048576) (ha:a.le 67108864) (hb:b.le 67108864):CallsD Γ prog 15 [.agg a.C,.agg b.C] (.one (cB (decide (a=b)))):=by
 have hc:=xz0 (Γ:=Γ) a.c b.c ha.1 hb.1
 have hx:∀ i,i<a.l.length->i<b.l.length->CallsD Γ prog 46 [.agg (a.l.getD i Fc.zero).C,.agg (b.l.getD i Fc.zero).C] (.one (.raw (.bool (decide (a.l.getD i Fc.zero=b.l.getD i Fc.zero))))):=fun i h k=>xz0 _ _ (zmm ha.2 h) (zmm hb.2 k)
 generalize hR:decide (a=b)=R
 have bad1:¬a.l.length=b.l.length->R=false:=fun h=>by rw [<-hR];exact decide_eq_false (fun hh=>h (by rw [hh]))
 have bad2:decide (a.c=b.c)=false->R=false:=fun h=>by rw [<-hR];exact decide_eq_false (fun hh=>of_decide_eq_false h (by rw [hh]))
 have bad3:∀ i,i<a.l.length->decide (a.l.getD i Fc.zero=b.l.getD i Fc.zero)=false->R=false:=fun i _ h=>by rw [<-hR];exact decide_eq_false (fun hh=>of_decide_eq_false h (by rw [hh]))
 have good:a.l.length=b.l.length->decide (a.c=b.c)=true->(∀ j,j<a.l.length->decide (a.l.getD j Fc.zero=b.l.getD j Fc.zero)=true)->R=true:=fun h1 h2 h3=>by
  rw [<-hR];refine decide_eq_true ?_
  have e:a.l=b.l:=List.ext_getElem h1 (fun j hj hk=>by
   have:=of_decide_eq_true (h3 j hj)
   simpa [List.getD_eq_getElem?_getD,hj,hk] using this)
  have e2:=of_decide_eq_true h2
  cases a;cases b;simp only at e e2;rw [e,e2]
 clear hR;simp only [Fc.C_eq] at hc hx;generalize decide (a.c=b.c)=q at hc bad2 good;refine CallsD.run [] Go.Proofs.Tryz.func15 rfl rfl rfl ?_;simp only [Go.Proofs.Tryz.f15];refine hgR ?_
 repeat' ((first | refine hfk ?_ ?_<;>intros | refine hik ?_ | with_reducible first | refine hcA ?_ | refine hcB ?_)<;>refine hgS ?_)
 all_goals try (first
  | exact .one (.refl _)
  | (rw [bad1 (by omega)];exact .one (.refl _))
  | (rw [bad2 (by assumption)];exact .one (.refl _)))
 refine x20 [2,3] (fun i:Nat=>[(5,.one (.dat (cI i)))]) (fun _=>[.box (a.C.map .dat) (some 36),.box (b.C.map .dat) (some 36)]) (fun i=>i<=a.l.length/\∀ j,j<i->decide (a.l.getD j Fc.zero=b.l.getD j Fc.zero)=true) (fun i=>a.l.length-i) 0 ⟨Nat.zero_le _,fun j hj=>by omega⟩ ?_ ?_
 . refine hg ?_;exact StH.same svl rfl
 rintro i ⟨h1,h2⟩;refine hg ?_;refine vt2 (fun hlt _=>?_) (fun hlt _=>?_)
 . have h:=hx i (by omega) (by omega);have bad:=bad3 i (by omega)
   have next:=fun h=>xm4 (p:=fun j=>decide (a.l.getD j Fc.zero=b.l.getD j Fc.zero)=true) h2 h
   generalize decide (a.l.getD i Fc.zero=b.l.getD i Fc.zero)=r at h bad next;clear bad1 bad2 bad3 good hx h2;refine hg ?_
   repeat' ((first | refine hfk ?_ ?_<;>intros | refine hik ?_ | with_reducible first | refine hcA ?_ | refine hcB ?_)<;>refine hgS ?_)
   all_goals first
    | exact .one (.refl _)
    | (rw [bad (by assumption)];exact .one (.refl _))
    | exact ⟨i+1,⟨by omega,next (by assumption)⟩,by omega,StH.same svl rfl⟩
 . have e:i=a.l.length:=by omega
   subst e;rw [good (by omega) (by assumption) h2];refine hg ?_;exact .one (.refl _)
end Go.Hp.T
namespace Go.Hp
open Go Go.RowKit Go.Slot
variable {P:Program} {Γ:List (Nat×List Cell)}
mutual
def uz (k:Nat):Cell->Cell
 | .zc=>.sl k []
 | .sl n rows=>.sl n (uzLL k rows)
 | c=>c
def uzL (k:Nat):List Cell->List Cell
 | []=>[]
 | c::l=>uz k c::uzL k l
def uzLL (k:Nat):List (List Cell)->List (List Cell)
 | []=>[]
 | r::l=>uzL k r::uzLL k l
end
theorem ysz (k:Nat):∀ l:List Cell,uzL k l=l.map (uz k)
 | []=>by rw [uzL];rfl
 | _::l=>by rw [uzL,ysz k l];rfl
theorem wqn (k:Nat):∀ l:List (List Cell),uzLL k l=l.map (uzL k)
 | []=>by rw [uzLL];rfl
 | _::l=>by rw [uzLL,wqn k l];rfl
theorem yxe (k:Nat) (l:List Cell):(uzL k l).length=l.length:=by rw [ysz,List.length_map]
theorem vh5 (k:Nat) (l:List (List Cell)):(uzLL k l).length=l.length:=by rw [wqn,List.length_map]
theorem xk6 (k:Nat) (l:List (List Cell)) (i:Nat) (h:i<(uzLL k l).length):(uzLL k l)[i]=uzL k (l[i]'(by rw [<-vh5 k];exact h)):=by
 simp only [wqn,List.getElem_map]
theorem zhb (k:Nat) (l:List Cell) (i:Nat) (h:i<(uzL k l).length):(uzL k l)[i]=uz k (l[i]'(by rw [<-yxe k];exact h)):=by
 simp only [ysz,List.getElem_map]
theorem RdC.uz {M:Nat->Nat->Prop} {w:World} {v:Value} {c:Cell} (k:Nat) (h:RdC M w v c):RdC M w v (uz k c):=by
 induction h with
 | raw h=>simp only [Go.Hp.uz];exact .raw h
 | zc=>rw [Go.Hp.uz];exact RdC.zcSl k
 | nn=>simp only [Go.Hp.uz];exact .nn
 | fnp h hp=>simp only [Go.Hp.uz];exact .fnp h hp
 | ints b off hl hc ha h=>simp only [Go.Hp.uz];exact .ints b off hl hc ha h
 | @sl a len cap n rows b off u hl hc ha hn hm hr ih =>
  rw [Go.Hp.uz];refine .sl b off u (by rw [vh5];exact hl) hc (fun hne=>ha (fun he=>hne (by rw [he];simp only [wqn,List.map_nil]))) (fun r hr'=>?_) (fun i hi j hj=>hm i (by rw [<-vh5 k];exact hi) j hj) (fun i hi j hj=>?_)
  . rw [wqn] at hr';obtain ⟨r0,h0,rfl⟩:=List.mem_map.1 hr';rw [yxe];exact hn _ h0
  . have hi2:i<rows.length:=by rw [<-vh5 k];exact hi
    have e1:((uzLL k rows)[i])=uzL k rows[i]:=xk6 k rows i hi
    have hj2:j<rows[i].length:=by rw [<-yxe k,<-e1];exact hj
    have e2:((uzLL k rows)[i])[j]=Go.Hp.uz k (rows[i][j]):=by
     have:=zhb k rows[i] j (by rw [yxe];exact hj2)
     rw [<-this];congr 1
    rw [e2];exact ih i hi2 j hj2
theorem RdD.uz {M:Nat->Nat->Prop} {w:World} (k:Nat):∀{vs:List Value} {cs:List Cell},RdD M w vs cs->RdD M w vs (uzL k cs)
 | [],[],h=>by rw [uzL];exact h
 | _::_,[],h=>h.elim
 | [],_::_,h=>h.elim
 | _::_,_::_,h=>by rw [uzL];exact ⟨RdC.uz k h.1,RdD.uz k h.2⟩
theorem CallsD.uz {f:FuncId} {args:List AV} {cs:List Cell} {l:List AV} (k:Nat) (h:CallsD Γ P f args (.tup (.agg cs::l))):CallsD Γ P f args (.tup (.agg (uzL k cs)::l)):=
 ⟨h.1,fun M w vs hM hg hr=>(h.2 M w vs hM hg hr).mono (fun _ _ ⟨v,h1,h2,h3,h4⟩=>by
  obtain ⟨us,hu,hl⟩:=h3
  match us,hl with
  | u::us,hl=>
   obtain ⟨ws,hw,hrd⟩:=hl.1
   exact ⟨v,h1,h2,⟨u::us,hu,⟨ws,hw,RdD.uz k hrd⟩,hl.2⟩,fun hh=>by cases hh⟩)⟩
end Go.Hp
namespace Go.Hp.T
open Go Go.RowKit Go.Slot Go.Hp
open Go.Proofs.Tryz (prog)
def Gs:List (Nat×List Cell):=[(0,[.raw (.int .u8 40),.raw (.int .u8 41),.raw (.int .u8 44),.raw (.int .u8 59),.raw (.int .u8 58),.raw (.int .u8 61),.raw (.int .u8 60),.raw (.int .u8 43),.raw (.int .u8 45),.raw (.int .u8 42),.raw (.int .u8 47),.raw (.int .u8 123),.raw (.int .u8 125)])]
def exOf (o n:Int) (u s:List UInt8) (l:List Ex):Ex:=.mk o n ⟨⟨u⟩⟩ ⟨⟨s⟩⟩ l
abbrev zS:Cell:=cS ⟨⟨[]⟩⟩
abbrev parR (x:Ex):AV:=.tup [.agg (exC x),.one (cI 0),.one (cI 0)]
theorem CallsD.uzE {f:FuncId} {args:List AV} {cs cs':List Cell} {l:List AV} (k:Nat) (h:CallsD Gs prog f args (.tup (.agg cs::l))) (e:uzL k cs=cs'):CallsD Gs prog f args (.tup (.agg cs'::l)):=e▸h.uz k
def sx0:List UInt8:=[40,50,32,42,32,97,41,32,43,32,40,98,32,47,32,99,41]
def ex0:Ex:=exOf 6 0 [] [] [(exOf 8 0 [] [] [(exOf 0 2 [] [] []),(exOf 1 0 [] [97] [])]),(exOf 9 0 [] [] [(exOf 1 0 [] [98] []),(exOf 1 0 [] [99] [])])]
def sx1:List UInt8:=[40,97,32,45,32,51,41,32,42,32,108,111,111,107,40,103,114,105,100,44,32,99,32,43,32,50,41]
def ex1:Ex:=exOf 8 0 [] [] [(exOf 7 0 [] [] [(exOf 1 0 [] [97] []),(exOf 0 3 [] [] [])]),(exOf 2 0 [] [103,114,105,100] [(exOf 6 0 [] [] [(exOf 1 0 [] [99] []),(exOf 0 2 [] [] [])])])]
def sx2:List UInt8:=[105,102,32,40,99,32,60,32,53,41,32,116,104,101,110,32,97,32,101,108,115,101,32,40,97,32,42,32,98,41]
def ex2:Ex:=exOf 5 0 [] [] [(exOf 12 0 [] [] [(exOf 1 0 [] [99] []),(exOf 0 5 [] [] [])]),(exOf 1 0 [] [97] []),(exOf 8 0 [] [] [(exOf 1 0 [] [97] []),(exOf 1 0 [] [98] [])])]
def sx3:List UInt8:=[97,32,47,32,40,99,32,45,32,52,41]
def ex3:Ex:=exOf 9 0 [] [] [(exOf 1 0 [] [97] []),(exOf 7 0 [] [] [(exOf 1 0 [] [99] []),(exOf 0 4 [] [] [])])]
def sx4:List UInt8:=[108,111,111,107,40,103,114,105,100,44,32,48,32,45,32,99,41]
def ex4:Ex:=exOf 2 0 [] [103,114,105,100] [(exOf 7 0 [] [] [(exOf 0 0 [] [] []),(exOf 1 0 [] [99] [])])]
def sx5:List UInt8:=[97,32,42,32,98]
def ex5:Ex:=exOf 8 0 [] [] [(exOf 1 0 [] [97] []),(exOf 1 0 [] [98] [])]
def sx6:List UInt8:=[49,32,47,32,97]
def ex6:Ex:=exOf 9 0 [] [] [(exOf 0 1 [] [] []),(exOf 1 0 [] [97] [])]
def sx7:List UInt8:=[109,105,110,40,97,44,32,49,41]
def ex7:Ex:=exOf 10 0 [] [] [(exOf 1 0 [] [97] []),(exOf 0 1 [] [] [])]
def sx8:List UInt8:=[97,32,60,32,49]
def ex8:Ex:=exOf 12 0 [] [] [(exOf 1 0 [] [97] []),(exOf 0 1 [] [] [])]
def sx9:List UInt8:=[108,111,111,107,40,103,114,105,100,44,32,97,41]
def ex9:Ex:=exOf 2 0 [] [103,114,105,100] [(exOf 1 0 [] [97] [])]
def sx10:List UInt8:=[99,32,60,32,53]
def ex10:Ex:=exOf 12 0 [] [] [(exOf 1 0 [] [99] []),(exOf 0 5 [] [] [])]
end Go.Hp.T
namespace Go.Hp.T
open Go Go.RowKit Go.Slot Go.Hp
open Go.Proofs.Tryz (prog)
set_option maxRecDepth 100000
theorem par0:CallsD Gs prog 71 [xv3 sx0] (parR ex0):=
 CallsD.uzE 5 (cs:=[cI 6,cI 0,zS,zS,(.sl 5 [[cI 8,cI 0,zS,zS,(.sl 5 [[cI 0,cI 2,zS,zS,.zc],[cI 1,cI 0,zS,cS ⟨⟨[97]⟩⟩,.zc]])],[cI 9,cI 0,zS,zS,(.sl 5 [[cI 1,cI 0,zS,cS ⟨⟨[98]⟩⟩,.zc],[cI 1,cI 0,zS,cS ⟨⟨[99]⟩⟩,.zc]])]])]) (CallsD.fv (N:=1000) (n:=60) OkD.none (by kernel_rfl)) (by kernel_rfl)
theorem par1:CallsD Gs prog 71 [xv3 sx1] (parR ex1):=
 CallsD.uzE 5 (cs:=[cI 8,cI 0,zS,zS,(.sl 5 [[cI 7,cI 0,zS,zS,(.sl 5 [[cI 1,cI 0,zS,cS ⟨⟨[97]⟩⟩,.zc],[cI 0,cI 3,zS,zS,.zc]])],[cI 2,cI 0,zS,cS ⟨⟨[103,114,105,100]⟩⟩,(.sl 5 [[cI 6,cI 0,zS,zS,(.sl 5 [[cI 1,cI 0,zS,cS ⟨⟨[99]⟩⟩,.zc],[cI 0,cI 2,zS,zS,.zc]])]])]])]) (CallsD.fv (N:=1000) (n:=60) OkD.none (by kernel_rfl)) (by kernel_rfl)
theorem par2:CallsD Gs prog 71 [xv3 sx2] (parR ex2):=
 CallsD.uzE 5 (cs:=[cI 5,cI 0,zS,zS,(.sl 5 [[cI 12,cI 0,zS,zS,(.sl 5 [[cI 1,cI 0,zS,cS ⟨⟨[99]⟩⟩,.zc],[cI 0,cI 5,zS,zS,.zc]])],[cI 1,cI 0,zS,cS ⟨⟨[97]⟩⟩,.zc],[cI 8,cI 0,zS,zS,(.sl 5 [[cI 1,cI 0,zS,cS ⟨⟨[97]⟩⟩,.zc],[cI 1,cI 0,zS,cS ⟨⟨[98]⟩⟩,.zc]])]])]) (CallsD.fv (N:=1000) (n:=60) OkD.none (by kernel_rfl)) (by kernel_rfl)
theorem par3:CallsD Gs prog 71 [xv3 sx3] (parR ex3):=
 CallsD.uzE 5 (cs:=[cI 9,cI 0,zS,zS,(.sl 5 [[cI 1,cI 0,zS,cS ⟨⟨[97]⟩⟩,.zc],[cI 7,cI 0,zS,zS,(.sl 5 [[cI 1,cI 0,zS,cS ⟨⟨[99]⟩⟩,.zc],[cI 0,cI 4,zS,zS,.zc]])]])]) (CallsD.fv (N:=1000) (n:=60) OkD.none (by kernel_rfl)) (by kernel_rfl)
theorem par4:CallsD Gs prog 71 [xv3 sx4] (parR ex4):=
 CallsD.uzE 5 (cs:=[cI 2,cI 0,zS,cS ⟨⟨[103,114,105,100]⟩⟩,(.sl 5 [[cI 7,cI 0,zS,zS,(.sl 5 [[cI 0,cI 0,zS,zS,.zc],[cI 1,cI 0,zS,cS ⟨⟨[99]⟩⟩,.zc]])]])]) (CallsD.fv (N:=1000) (n:=60) OkD.none (by kernel_rfl)) (by kernel_rfl)
theorem par5:CallsD Gs prog 71 [xv3 sx5] (parR ex5):=
 CallsD.uzE 5 (cs:=[cI 8,cI 0,zS,zS,(.sl 5 [[cI 1,cI 0,zS,cS ⟨⟨[97]⟩⟩,.zc],[cI 1,cI 0,zS,cS ⟨⟨[98]⟩⟩,.zc]])]) (CallsD.fv (N:=1000) (n:=60) OkD.none (by kernel_rfl)) (by kernel_rfl)
theorem par6:CallsD Gs prog 71 [xv3 sx6] (parR ex6):=
 CallsD.uzE 5 (cs:=[cI 9,cI 0,zS,zS,(.sl 5 [[cI 0,cI 1,zS,zS,.zc],[cI 1,cI 0,zS,cS ⟨⟨[97]⟩⟩,.zc]])]) (CallsD.fv (N:=1000) (n:=60) OkD.none (by kernel_rfl)) (by kernel_rfl)
theorem par7:CallsD Gs prog 71 [xv3 sx7] (parR ex7):=
 CallsD.uzE 5 (cs:=[cI 10,cI 0,zS,zS,(.sl 5 [[cI 1,cI 0,zS,cS ⟨⟨[97]⟩⟩,.zc],[cI 0,cI 1,zS,zS,.zc]])]) (CallsD.fv (N:=1000) (n:=60) OkD.none (by kernel_rfl)) (by kernel_rfl)
theorem par8:CallsD Gs prog 71 [xv3 sx8] (parR ex8):=
 CallsD.uzE 5 (cs:=[cI 12,cI 0,zS,zS,(.sl 5 [[cI 1,cI 0,zS,cS ⟨⟨[97]⟩⟩,.zc],[cI 0,cI 1,zS,zS,.zc]])]) (CallsD.fv (N:=1000) (n:=60) OkD.none (by kernel_rfl)) (by kernel_rfl)
theorem par9:CallsD Gs prog 71 [xv3 sx9] (parR ex9):=
 CallsD.uzE 5 (cs:=[cI 2,cI 0,zS,cS ⟨⟨[103,114,105,100]⟩⟩,(.sl 5 [[cI 1,cI 0,zS,cS ⟨⟨[97]⟩⟩,.zc]])]) (CallsD.fv (N:=1000) (n:=60) OkD.none (by kernel_rfl)) (by kernel_rfl)
theorem ycv:CallsD Gs prog 71 [xv3 sx10] (parR ex10):=
 CallsD.uzE 5 (cs:=[cI 12,cI 0,zS,zS,(.sl 5 [[cI 1,cI 0,zS,cS ⟨⟨[99]⟩⟩,.zc],[cI 0,cI 5,zS,zS,.zc]])]) (CallsD.fv (N:=1000) (n:=60) OkD.none (by kernel_rfl)) (by kernel_rfl)
end Go.Hp.T
namespace Go.Hp.T
open Go Go.RowKit Go.Slot Go.Hp Go.Slot.T
open Go.Proofs.Tryz (prog)
set_option maxRecDepth 100000
set_option maxHeartbeats 0
abbrev iq (n:Int):Rat:=(n:Rat)
def ss19:List Sl:=[⟨⟨⟨[97]⟩⟩,Af.of (iq 0) [iq 1,iq 0]⟩,⟨⟨⟨[98]⟩⟩,Af.of (iq 0) [iq 0,iq 1]⟩,⟨⟨⟨[99]⟩⟩,Af.of (iq 4) [iq 0,iq 0]⟩]
def ms19:List Tb:=[⟨⟨⟨[103,114,105,100]⟩⟩,⟨⟨[]⟩⟩,[⟨0,10⟩,⟨5,20⟩]⟩]
abbrev afX (k a b:Rat):List Cell:=[.raw (.int .i64 (qF (some k)).s),.ints .i64 (qF (some k)).L,.raw (.int .i64 (qF (some k)).t),.ints .i64 (qF (some k)).M,.sl 4 [qC (some a),qC (some b)]]
theorem voq (c a b:Int) (hc:inI c) (ha:inI a) (hb:inI b):CallsD Gs prog 34 [.one (cI c),.one (.ints .i64 [a,b])] (.agg (afC (iq c,[iq a,iq b]))):=by
 refine CallsD.run [] Go.Proofs.Tryz.func34 rfl rfl rfl ?_;simp only [Go.Proofs.Tryz.f34];refine hgR ?_
 repeat' ((first | refine hfk ?_ ?_<;>intros | refine hik ?_ | with_reducible refine v6k ?_ | with_reducible refine yp8 ?_ | with_reducible first | refine wml (oInt c hc) ?_ | refine ysj (oInt c hc) ?_ | refine wml (oInt a ha) ?_ | refine ysj (oInt a ha) ?_ | refine wml (oInt b hb) ?_ | refine ysj (oInt b hb) ?_)<;>refine hgS ?_)
 all_goals exact RLe.ofEq rfl
theorem xdb:∀ s∈ss19,(s.name.size<=1073741824/\s.f.l.length<=1048576/\s.f.le 67108864)/\s.sm 4300:=by
 have z:∀ n:Int,inI n->(Fc.of (iq n)).sz<=4:=fun n h=>x10 h
 have e:∀(nm:ByteArray) (c a b:Int),nm.size<=1073741824->inI c->inI a->inI b->((⟨nm,Af.of (iq c) [iq a,iq b]⟩:Sl).name.size<=1073741824/\(⟨nm,Af.of (iq c) [iq a,iq b]⟩:Sl).f.l.length<=1048576/\(⟨nm,Af.of (iq c) [iq a,iq b]⟩:Sl).f.le 67108864)/\(⟨nm,Af.of (iq c) [iq a,iq b]⟩:Sl).sm 4300:=fun nm c a b hn hc ha hb=>by
  have h1:=z c hc;have h2:=z a ha;have h3:=z b hb
  have hm:∀ f∈(Af.of (iq c) [iq a,iq b]).l,f.sz<=4:=fun f hf=>by
   have hf:f∈[Fc.of (iq a),Fc.of (iq b)]:=hf;simp only [List.mem_cons,List.not_mem_nil,or_false] at hf
   rcases hf with rfl | rfl<;>assumption
  exact ⟨⟨hn,by show 2<=1048576;decide,by show (Fc.of (iq c)).sz<=_;omega,fun f hf=>by have:=hm f hf;omega⟩,by show (Fc.of (iq c)).sz+10<=_;omega,fun f hf=>by have:=hm f hf;omega⟩
 intro s hs
 have hs':s=⟨⟨⟨[97]⟩⟩,Af.of (iq 0) [iq 1,iq 0]⟩\/s=⟨⟨⟨[98]⟩⟩,Af.of (iq 0) [iq 0,iq 1]⟩\/s=⟨⟨⟨[99]⟩⟩,Af.of (iq 4) [iq 0,iq 0]⟩:=by simpa [ss19] using hs
 rcases hs' with rfl | rfl | rfl
 . exact e _ _ _ _ (by decide) (by decide) (by decide) (by decide)
 . exact e _ _ _ _ (by decide) (by decide) (by decide) (by decide)
 . exact e _ _ _ _ (by decide) (by decide) (by decide) (by decide)
theorem zoi (s:ByteArray) (x:Ex) (hp:CallsD Gs prog 71 [.one (cS s)] (parR x)) (hx:x.Sm):CallsD Gs prog 32 [.one (cS s)] (afR (affF x ss19 ms19)):=by
 have ho:CallsD Gs prog 10 [.agg (exC x),.one (.sl 6 [cS ⟨⟨[97]⟩⟩::afX (iq 0) (iq 1) (iq 0),cS ⟨⟨[98]⟩⟩::afX (iq 0) (iq 0) (iq 1),cS ⟨⟨[99]⟩⟩::afX (iq 4) (iq 0) (iq 0)]),.one (.sl 3 [[cS ⟨⟨[103,114,105,100]⟩⟩,cS ⟨⟨[]⟩⟩,.sl 2 [[cI 0,cI 10],[cI 5,cI 20]]]])] (afR (affF x ss19 ms19)):=
  v0f (Γ:=Gs) (B:=4300) (by decide) (by decide) x ss19 ms19 hx (by decide) (by decide) (by decide) (fun s h=>(xdb s h).1) (fun s h=>(xdb s h).2) (fun t ht=>by
   cases List.mem_singleton.1 ht
   exact ⟨by decide,by decide,by decide⟩)
 have f1:=voq 0 1 0 (by decide) (by decide) (by decide);have f2:=voq 0 0 1 (by decide) (by decide) (by decide);have f3:=voq 4 0 0 (by decide) (by decide) (by decide);generalize affF x ss19 ms19=r at ho;obtain ⟨⟨t,i,v,l⟩,e⟩:=r;refine CallsD.run [] Go.Proofs.Tryz.func32 rfl rfl rfl ?_;simp only [Go.Proofs.Tryz.f32];refine hgR ?_
 repeat' ((first | refine hfk ?_ ?_<;>intros | refine hik ?_ | with_reducible first | refine hcA ?_ | refine hcB ?_)<;>refine hgS ?_)
 all_goals refine lfE ?_;first | exact trivial | rfl
mutual
def Ex.smB:Ex->Bool
 | .mk _ _ u s l=>Nat.ble l.length 1073741824&&Nat.ble u.size 1073741824&&Nat.ble s.size 1073741824&&Ex.smBL l
def Ex.smBL:List Ex->Bool
 | []=>true
 | x::l=>Ex.smB x&&Ex.smBL l
end
theorem Ex.zxs:∀ l:List Ex,Ex.smBL l=l.all Ex.smB
 | []=>by rw [Ex.smBL];rfl
 | x::l=>by rw [Ex.smBL,Ex.zxs l];rfl
theorem Ex.Sm.of:∀ x:Ex,x.smB=true->x.Sm:=by
 refine Ex.ind ?_;intro x ih h
 cases x with
 | mk o n u s l=>
  rw [Ex.smB,Ex.zxs] at h;simp only [Bool.and_eq_true,Nat.ble_eq,List.all_eq_true] at h;obtain ⟨⟨⟨h1,h2⟩,h3⟩,h4⟩:=h;exact .mk _ h1 h2 h3 (fun y hy=>ih y hy (h4 y hy))
def zi9 (a b:Th×Int):Bool:=a.1.t==b.1.t&&a.1.i==b.1.i&&decide (a.1.c.map (·.num)=b.1.c.map (·.num))&&decide (a.1.c.map (·.den)=b.1.c.map (·.den))&&decide (a.1.l.map (·.num)=b.1.l.map (·.num))&&decide (a.1.l.map (·.den)=b.1.l.map (·.den))&&decide (a.2=b.2)
theorem wfu:∀{l m:List Rat},l.map (·.num)=m.map (·.num)->l.map (·.den)=m.map (·.den)->l=m
 | [],[],_,_=>rfl
 | [],_::_,h,_=>by cases h
 | _::_,[],h,_=>by cases h
 | x::l,y::m,h,k=>by
  simp only [List.map_cons,List.cons.injEq] at h k;rw [Rat.ext h.1 k.1,wfu h.2 k.2]
theorem vdn {a b:Th×Int} (h:zi9 a b=true):a=b:=by
 obtain ⟨⟨t,i,v,l⟩,e⟩:=a;obtain ⟨⟨t',i',v',l'⟩,e'⟩:=b;unfold zi9 at h;simp only [Bool.and_eq_true,beq_iff_eq,decide_eq_true_eq] at h;obtain ⟨⟨⟨⟨⟨⟨rfl,rfl⟩,h1⟩,h2⟩,h3⟩,h4⟩,rfl⟩:=h
 have:v=v':=by
  cases v<;>cases v'<;>simp at h1 h2
  . rfl
  . rw [Rat.ext h1 h2]
 rw [this,wfu h3 h4]
theorem on0:CallsD Gs prog 32 [.one (cS ⟨⟨[40,50,32,42,32,97,41,32,43,32,40,98,32,47,32,99,41]⟩⟩)] (afR (⟨false,false,some 0,[2,Rat.divInt 1 4]⟩,0)):=by
 have h:=zoi ⟨⟨sx0⟩⟩ ex0 par0 (Ex.Sm.of _ (by kernel_rfl));rw [show affF ex0 ss19 ms19=(⟨false,false,some 0,[2,Rat.divInt 1 4]⟩,0) from vdn (by kernel_rfl)] at h;exact h
theorem on1:CallsD Gs prog 32 [.one (cS ⟨⟨[40,97,32,45,32,51,41,32,42,32,108,111,111,107,40,103,114,105,100,44,32,99,32,43,32,50,41]⟩⟩)] (afR (⟨false,false,some (((-60:Int):Rat)),[((20:Int):Rat),((0:Int):Rat)]⟩,0)):=by
 have h:=zoi ⟨⟨sx1⟩⟩ ex1 par1 (Ex.Sm.of _ (by kernel_rfl));rw [show affF ex1 ss19 ms19=(⟨false,false,some (((-60:Int):Rat)),[((20:Int):Rat),((0:Int):Rat)]⟩,0) from vdn (by kernel_rfl)] at h;exact h
theorem on2:CallsD Gs prog 32 [.one (cS ⟨⟨[105,102,32,40,99,32,60,32,53,41,32,116,104,101,110,32,97,32,101,108,115,101,32,40,97,32,42,32,98,41]⟩⟩)] (afR (⟨false,false,some (((0:Int):Rat)),[((1:Int):Rat),((0:Int):Rat)]⟩,0)):=by
 have h:=zoi ⟨⟨sx2⟩⟩ ex2 par2 (Ex.Sm.of _ (by kernel_rfl));rw [show affF ex2 ss19 ms19=(⟨false,false,some (((0:Int):Rat)),[((1:Int):Rat),((0:Int):Rat)]⟩,0) from vdn (by kernel_rfl)] at h;exact h
theorem on3:CallsD Gs prog 32 [.one (cS ⟨⟨[97,32,47,32,40,99,32,45,32,52,41]⟩⟩)] (afR (Th.zero,15)):=by
 have h:=zoi ⟨⟨sx3⟩⟩ ex3 par3 (Ex.Sm.of _ (by kernel_rfl));rw [show affF ex3 ss19 ms19=(Th.zero,15) from vdn (by kernel_rfl)] at h;exact h
theorem on4:CallsD Gs prog 32 [.one (cS ⟨⟨[108,111,111,107,40,103,114,105,100,44,32,48,32,45,32,99,41]⟩⟩)] (afR (Th.zero,4)):=by
 have h:=zoi ⟨⟨sx4⟩⟩ ex4 par4 (Ex.Sm.of _ (by kernel_rfl));rw [show affF ex4 ss19 ms19=(Th.zero,4) from vdn (by kernel_rfl)] at h;exact h
theorem on5:CallsD Gs prog 32 [.one (cS ⟨⟨[97,32,42,32,98]⟩⟩)] (afR (Th.zero,13)):=by
 have h:=zoi ⟨⟨sx5⟩⟩ ex5 par5 (Ex.Sm.of _ (by kernel_rfl));rw [show affF ex5 ss19 ms19=(Th.zero,13) from vdn (by kernel_rfl)] at h;exact h
theorem on6:CallsD Gs prog 32 [.one (cS ⟨⟨[49,32,47,32,97]⟩⟩)] (afR (Th.zero,13)):=by
 have h:=zoi ⟨⟨sx6⟩⟩ ex6 par6 (Ex.Sm.of _ (by kernel_rfl));rw [show affF ex6 ss19 ms19=(Th.zero,13) from vdn (by kernel_rfl)] at h;exact h
theorem on7:CallsD Gs prog 32 [.one (cS ⟨⟨[109,105,110,40,97,44,32,49,41]⟩⟩)] (afR (Th.zero,13)):=by
 have h:=zoi ⟨⟨sx7⟩⟩ ex7 par7 (Ex.Sm.of _ (by kernel_rfl));rw [show affF ex7 ss19 ms19=(Th.zero,13) from vdn (by kernel_rfl)] at h;exact h
theorem on8:CallsD Gs prog 32 [.one (cS ⟨⟨[97,32,60,32,49]⟩⟩)] (afR (Th.zero,13)):=by
 have h:=zoi ⟨⟨sx8⟩⟩ ex8 par8 (Ex.Sm.of _ (by kernel_rfl));rw [show affF ex8 ss19 ms19=(Th.zero,13) from vdn (by kernel_rfl)] at h;exact h
theorem on9:CallsD Gs prog 32 [.one (cS ⟨⟨[108,111,111,107,40,103,114,105,100,44,32,97,41]⟩⟩)] (afR (Th.zero,13)):=by
 have h:=zoi ⟨⟨sx9⟩⟩ ex9 par9 (Ex.Sm.of _ (by kernel_rfl));rw [show affF ex9 ss19 ms19=(Th.zero,13) from vdn (by kernel_rfl)] at h;exact h
theorem on10:CallsD Gs prog 32 [.one (cS ⟨⟨[99,32,60,32,53]⟩⟩)] (afR (Th.zero,13)):=by
 have h:=zoi ⟨⟨sx10⟩⟩ ex10 ycv (Ex.Sm.of _ (by kernel_rfl));rw [show affF ex10 ss19 ms19=(Th.zero,13) from vdn (by kernel_rfl)] at h;exact h
end Go.Hp.T
namespace Go.Hp.T
open Go Go.RowKit Go.Slot Go.Hp Go.Slot.T
open Go.Proofs.Tryz (prog)
set_option maxRecDepth 100000
set_option maxHeartbeats 0
variable {Γ:List (Nat×List Cell)}
def fewL (l:List Fc):Bool:=decide ((l.length:Int)<=8)&&(decide (fewA ⟨Fc.zero,l.take (min l.length 6)⟩)&&decide (fewA ⟨Fc.zero,l.drop (min l.length 6)⟩))
theorem zvu {l:List Fc} (h:fewL l=true):l.length<=8/\∀ f∈l,f.sz<=4:=by
 unfold fewL at h;simp only [Bool.and_eq_true,decide_eq_true_eq] at h;obtain ⟨h1,h2,h3⟩:=h;refine ⟨by omega,fun f hf=>?_⟩;rw [<-List.take_append_drop (min l.length 6) l] at hf
 rcases List.mem_append.1 hf with hf | hf
 . exact h2.2.2 f hf
 . exact h3.2.2 f hf
theorem zws (l:List Fc) (hl:l.length<=1048576) (hs:∀ f∈l,f.sz<=1048576):CallsD Γ prog 16 [.agg [cI 0,.zc,cI 0,.zc,.sl 4 (l.map Fc.C)]] (.one (cB (decide (fewA ⟨Fc.zero,l⟩)))):=
 CallsD.ws4 (w5v ⟨Fc.zero,l⟩ hl ⟨by show Fc.zero.sz<=1048576;decide,hs⟩) (.cons (.agg (.cons (.refl _) (.cons (.zuc _) (.cons (.refl _) (.cons (.zuc _) (.cons (.refl _) .nil)))))) .nil)
theorem v6h (l:List Fc) (hl:l.length<=1048576) (hs:∀ f∈l,f.sz<=1048576):CallsD Gs prog 17 [.one (.sl 4 (l.map Fc.C))] (.one (cB (fewL l))):=by
 have h1:=zws (Γ:=Gs) (l.take (min l.length 6)) (by rw [List.length_take];omega) (fun f hf=>hs f (List.mem_of_mem_take hf));have h2:=zws (Γ:=Gs) (l.drop (min l.length 6)) (by rw [List.length_drop];omega) (fun f hf=>hs f (List.mem_of_mem_drop hf));generalize hR:fewL l=R;have e:R=(decide ((l.length:Int)<=8)&&(decide (fewA ⟨Fc.zero,l.take (min l.length 6)⟩)&&decide (fewA ⟨Fc.zero,l.drop (min l.length 6)⟩))):=hR.symm;clear hR;generalize decide (fewA ⟨Fc.zero,l.take (min l.length 6)⟩)=b1 at h1 e;generalize decide (fewA ⟨Fc.zero,l.drop (min l.length 6)⟩)=b2 at h2 e;rw [List.map_take,show min l.length 6=(min (l.length:Int) 6).toNat-0 by omega] at h1;rw [List.map_drop,show min l.length 6=(min (l.length:Int) 6).toNat by omega,(List.take_of_length_le (show ((l.map Fc.C).drop (min (l.length:Int) 6).toNat).length<=l.length-(min (l.length:Int) 6).toNat by simp)).symm] at h2;refine CallsD.run [] Go.Proofs.Tryz.func17 rfl rfl rfl ?_;simp only [Go.Proofs.Tryz.f17];refine hgR ?_
 repeat' ((first | refine hfk ?_ ?_<;>intros | refine hik ?_ | with_reducible first | refine hcA ?_ | refine hcB ?_)<;>refine hgS ?_)
 all_goals refine lfE ?_;first | exact trivial | rfl
theorem xg8:CallsD Gs prog 8 [] (.one (cB true)):=by
 have q1:CallsD Gs prog 33 [.one (cI 1),.one (cI 4)] (qR (some (Rat.divInt 1 4)) 0):=qOf 1 4 (by decide) (by decide) (by decide)
 have sq:∀ q:Rat,qs q<=67108864->CallsD Gs prog 22 [.agg (qC (some q)),.agg (qC (some q))] (.one (cB true)):=fun q h=>by
  have:=xb9 (Γ:=Gs) (Fc.of q) (Fc.of q) h h
  rw [decide_eq_true rfl] at this;exact this
 have z:∀ n:Int,inI n->qs (iq n)<=67108864:=fun n h=>Nat.le_trans (show qs (iq n)<=4 from x10 h) (by decide)
 have s1:=sq (Rat.divInt 1 4) (by
  show max (dig (Rat.divInt 1 4).num.natAbs).length (dig (Rat.divInt 1 4).den).length<=67108864
  exact Nat.max_le.2 ⟨Nat.le_trans (y6j (of_decide_eq_true (by kernel_rfl))) (by decide),Nat.le_trans (y6j (of_decide_eq_true (by kernel_rfl))) (by decide)⟩)
 have s2:=sq (iq 2) (z 2 (by decide))
 have sA:∀(k a b:Rat),qs k<=67108864->qs a<=67108864->qs b<=67108864->CallsD Gs prog 15 [.agg (afX k a b),.agg (afX k a b)] (.one (cB true)):=fun k a b hk ha hb=>by
  have hz:(Af.of k [a,b]).le 67108864:=⟨hk,zf5 (fun q hq=>by
   simp only [List.mem_cons,List.not_mem_nil,or_false] at hq
   rcases hq with rfl | rfl<;>assumption)⟩
  have:=z4n (Γ:=Gs) (Af.of k [a,b]) (Af.of k [a,b]) (by show 2<=1048576;decide) (by show 2<=1048576;decide) hz hz
  rw [decide_eq_true rfl,y6w] at this;exact this
 have s3:=sA (iq (-60)) (iq 20) (iq 0) (z _ (by decide)) (z _ (by decide)) (z _ (by decide));have s4:=sA (iq 0) (iq 1) (iq 0) (z _ (by decide)) (z _ (by decide)) (z _ (by decide));have i2:=oInt (Γ:=Gs) 2 (by decide);have f1:=voq (-60) 20 0 (by decide) (by decide) (by decide);have f2:=voq 0 1 0 (by decide) (by decide) (by decide);refine CallsD.run [] Go.Proofs.Tryz.func8 rfl rfl rfl ?_;simp only [Go.Proofs.Tryz.f8];refine hgR ?_
 repeat' ((first | refine hfk ?_ ?_<;>intros | refine hik ?_ | with_reducible refine v6k ?_ | with_reducible refine yp8 ?_ | with_reducible first | refine hcA ?_ | refine hcB ?_ | refine ysj (s2) ?_ | refine wml (on0) ?_ | refine ysj (on0) ?_ | refine wml (on1) ?_ | refine ysj (on1) ?_ | refine wml (on2) ?_ | refine ysj (on2) ?_ | refine wml (on3) ?_ | refine ysj (on3) ?_ | refine wml (on4) ?_ | refine ysj (on4) ?_ | refine wml (on5) ?_ | refine ysj (on5) ?_ | refine wml (on6) ?_ | refine ysj (on6) ?_ | refine wml (on7) ?_ | refine ysj (on7) ?_ | refine wml (on8) ?_ | refine ysj (on8) ?_ | refine wml (on9) ?_ | refine ysj (on9) ?_ | refine wml (on10) ?_ | refine ysj (on10) ?_)<;>refine hgS ?_)
 all_goals first
  | (exfalso;omega)
  | refine lfE ?_;first | exact trivial | rfl
end Go.Hp.T
namespace Go.Hp.T
open Go Go.RowKit Go.Slot Go.Hp Go.Slot.T
open Go.Proofs.Tryz (prog)
set_option maxRecDepth 10000
set_option maxHeartbeats 0
variable {Γ:List (Nat×List Cell)}
variable {x:Ex} {ss:List Sl} {ms:List Tb}
structure Ar19 (x:Ex) (ss:List Sl) (ms:List Tb):Prop where
 x:x.Sm
 s:ss.length<=1048576
 m:ms.length<=1048576
 ss:∀ s∈ss,s.name.size<=1073741824/\AfS s.f
 ms:∀ t∈ms,t.Sm
theorem Ar19.few (h:Ar19 x ss ms):CallsD Γ prog 9 [.agg (exC x),.one (.sl 6 (ss.map Sl.C)),.one (.sl 3 (ms.map Tb.C))] (.one (cB (yw7 x ss ms))):=
 zt1 x h.x ss ms (by have:=h.s;omega) (fun s hs=>(h.ss s hs).2) (by have:=h.m;omega)
theorem wl2 (h:yw7 x ss ms=true):ss.length<=6/\∀ s∈ss,s.f.l.length<=6/\s.f.le 4:=by
 unfold yw7 at h;simp only [Bool.and_eq_true,decide_eq_true_eq] at h
 have hl:ss.length<=6:=by omega
 refine ⟨hl,fun s hs=>?_⟩;have h1:=h.1;rw [List.take_of_length_le (by omega),List.all_eq_true] at h1
 have:=h1 s hs
 simp only [Bool.and_eq_true,decide_eq_true_eq] at this;exact this.2
theorem vwh {n:Nat} (h:∀ s∈ss,s.f.l.length<=n):nOf ss<=n:=by
 cases ss with
 | nil=>exact Nat.zero_le _
 | cons s l=>exact h s (by simp)
theorem x8q {s:Sl} {n B:Nat} (h:s.f.le n) (hB:n+10<=B):s.sm B:=⟨by have:=h.1;omega,fun f hf=>by have:=h.2 f hf;omega⟩
theorem xtn (x:Ex) (ss:List Sl) (ms:List Tb) (hx:x.Sm) (hl:ss.length<=6) (hm:ms.length<=1048576) (hs:∀ s∈ss,s.name.size<=1073741824/\s.f.l.length<=6/\s.f.le 4) (hms:∀ t∈ms,t.Sm) :
 CallsD Γ prog 10 [.agg (exC x),.one (.sl 6 (ss.map Sl.C)),.one (.sl 3 (ms.map Tb.C))] (afR (affF x ss ms)):=
 v0f (B:=4300) (by decide) (by decide) x ss ms hx (vwh fun s h=>(hs s h).2.1) (by omega) (by omega) (fun s h=>⟨(hs s h).1,by have:=(hs s h).2.1;omega,Nat.le_trans (hs s h).2.2.1 (by decide),fun f hf=>Nat.le_trans ((hs s h).2.2.2 f hf) (by decide)⟩) (fun s h=>x8q (hs s h).2.2 (by decide)) hms
theorem Ar19.of (h:Ar19 x ss ms) (hf:yw7 x ss ms=true):CallsD Γ prog 10 [.agg (exC x),.one (.sl 6 (ss.map Sl.C)),.one (.sl 3 (ms.map Tb.C))] (afR (affF x ss ms)):=
 xtn x ss ms h.x (wl2 hf).1 h.m (fun s hs=>⟨(h.ss s hs).1,(wl2 hf).2 s hs⟩) h.ms
theorem ziw (x:Ex) (ss:List Sl) (ms:List Tb):(affF x ss ms).2≠0->affF x ss ms=(Th.zero,(affF x ss ms).2):=by
 unfold affF
 cases !zqs x||x.wqm with
 | true=>exact fun _=>rfl
 | false=>
  simp only [cond_false]
  cases entA ss ms with
  | none=>exact fun _=>rfl
  | some p=>
   obtain ⟨V,T⟩:=p;simp only;generalize x.aff (nOf ss) V T=r;obtain ⟨t,e⟩:=r;by_cases hd:¬e=0
   . rw [decide_eq_true hd];exact fun _=>rfl
   . rw [decide_eq_false hd]
     cases ht:t.t with
     | true=>exact fun _=>rfl
     | false=>
      exact fun h=>absurd rfl h
theorem w9s (hs:∀ s∈ss,s.f.l.length<=6/\s.f.le 4) (h:(affF x ss ms).2=0):(affF x ss ms).1.t=false/\(affF x ss ms).1.G (nOf ss) 860000:=by
 generalize hr:affF x ss ms=r at h ⊢;obtain ⟨r,e⟩:=r;simp only at h;subst h;obtain ⟨k1,k2,V,T,he,ha,ht⟩:=v57 hr;have hV:=zd4 (B:=4300) he (fun s hm=>x8q (hs s hm).2 (by decide));have hG:=xni (T:=T) (by decide) hV x (yvx k1) k2 (by rw [ha]);rw [ha] at hG;have hnd:=zvr k1;exact ⟨ht,hG.mono (by have:=Nat.mul_le_mul_left 4300 hnd;omega)⟩
end Go.Hp.T
namespace Go.Hp.T
open Go Go.RowKit Go.Slot Go.Hp Go.Slot.T
set_option maxRecDepth 10000
set_option maxHeartbeats 0
end Go.Hp.T
namespace Go.Hp.T
open Go Go.RowKit Go.Slot Go.Hp Go.Slot.T
open Go.Proofs.Tryz (prog)
set_option maxRecDepth 100000
set_option maxHeartbeats 0
attribute [local irreducible] hide
theorem v1x {a:Af} {v:List Fc} {B:Nat} (ha:a.le B) (hv:∀ f∈v,f.sz<=B):(a.at' v).sz<=B+2+a.l.length*(2*B+1):=by
 unfold Af.at'
 split
 . have h1:=vjl a.l v (Af.copy a.c) ha.2 hv;have h2:=w9x a.c;have h3:=ha.1;omega
 . exact Nat.le_trans (by decide:Fc.zero.sz<=0) (Nat.zero_le _)
end Go.Hp.T
