/- The proof, part E35: Ud, Ue, Uf, Ug, Gb, Gc. -/
import Derived.Test.YtmegdbbbllffkaaGreatDoorE34
import Derived.Test.YtmegdbbbllffkaaGreatDoorE31
import Derived.Test.YtmegdbbbllffkaaGreatDoorE32
namespace Go.Hp.T
open Go Go.RowKit Go.Slot Go.Hp Go.Slot.T
open Go.Proofs.Tryz (prog)
set_option maxRecDepth 10000
set_option maxHeartbeats 4000000
variable {Γ:List (Nat×List Cell)}
variable {a:Nat} {l:List Rw} {t i:Bool}
theorem z0bq (s:ByteArray) (k i:Nat) (h:k+i<s.size):x41 (wcs s k) i=x41 s (k+i):=by
 have h':k+i<s.data.size:=h;unfold x41 wcs;rw [ByteArray.data_extract,Array.getElem?_extract,if_pos (by simp only [Nat.min_def];split<;>simp_all<;>omega)]
theorem xzd (s:ByteArray) (a k:Nat):wcs (wcs s a) k=wcs s (a+k):=by
 unfold wcs;apply ByteArray.ext;simp only [ByteArray.data_extract,ByteArray.size_extract,Array.extract_extract]
 congr 1
 omega
theorem zq0 (s:ByteArray) (a n:Nat) (ha:a<=n) (hn:n<=s.size):zt0 (wcs s a) (n-a)=s.extract a n:=by
 unfold wcs zt0;apply ByteArray.ext;simp only [ByteArray.data_extract,Array.extract_extract]
 congr 1
 omega
theorem x1k (c:UInt8) (s:ByteArray):wcs (⟨#[c]⟩++s) 1=s:=by
 unfold wcs;apply ByteArray.ext;rw [ByteArray.data_extract,ByteArray.data_append,ByteArray.size_append];have h1:(⟨#[c]⟩:ByteArray).size=1:=rfl;have h2:(⟨#[c]⟩:ByteArray).data=#[c]:=rfl;rw [h1,h2];apply Array.ext
 . have:s.size=s.data.size:=rfl
   simp only [Array.size_extract,Array.size_append,List.size_toArray,List.length_cons,List.length_nil];omega
 . intro i h3 h4;rw [Array.getElem_extract,Array.getElem_append_right (by simp)]
   try simp
theorem xje {s:ByteArray} (h:1<=s.size):vhb s ⟨#[49]⟩=decide (x41 s 0=49):=by
 unfold vhb;rw [show ((⟨#[49]⟩:ByteArray).size)=1 from rfl,decide_eq_true (show ((1:Nat):Int)<=s.size by omega),Bool.true_and,z9f];refine decide_eq_decide.2 ⟨fun e=>?_,fun e=>?_⟩
 . have h':0<s.data.size:=h
   have h1:x41 (zt0 s 1) 0=49:=by rw [e];rfl
   unfold x41 zt0 at h1;rw [ByteArray.data_extract,Array.getElem?_extract,if_pos (by simp only [Nat.min_def];split<;>simp_all<;>omega)] at h1;simpa [x41] using h1
 . have h':0<s.data.size:=h;unfold x41 at e;rw [Array.getElem?_eq_getElem h'] at e;simp only [Option.getD_some] at e;have e2:s.data[0]=49:=UInt8.toNat_inj.1 (by have:(s.data[0]).toNat=49:=(by omega);rw [this];rfl);unfold zt0;apply ByteArray.ext;rw [ByteArray.data_extract];apply Array.ext
   . simp;omega
   . intro i h1 h2
     have hi:i=0:=by simp at h2;omega
     subst hi;rw [Array.getElem_extract];simpa using e2
def spI (r:ByteArray):List Cell:=bif zr8 r then itC (vl9 r) else [cS ⟨⟨[]⟩⟩,cI 0]
def spN (s:ByteArray) (a:Nat):Nat:=bif zr8 (wcs s a) then s.size-(x9p (wcs s a)).size else a
theorem z00q {s:ByteArray} (h:z1a yio (wcs s a)=0):zr8 (wcs s a)=false:=by
 unfold zr8;rw [h];rfl
theorem yw9 {s:ByteArray} {n:Nat} (ha:a<n) (hn:n<=s.size) (h:z1a yio (wcs s a)=n-a):zr8 (wcs s a)=true/\y6h (wcs s a)=wcs s n/\(vl9 (wcs s a)).w=s.extract a n/\
 x6x (wcs s a)=(decide (n<s.size)&&decide (50<=x41 s n)&&decide (x41 s n<=57)):=by
 have e1:y6h (wcs s a)=wcs s n:=by
  unfold y6h;rw [h,xzd]
  congr 1
  omega
 refine ⟨?_,e1,?_,?_⟩
 . unfold zr8;rw [h];exact decide_eq_true (by omega)
 . unfold vl9;show zt0 (wcs s a) (z1a yio (wcs s a))=_;rw [h,zq0 s a n (by omega) hn]
 . unfold x6x;rw [e1,yxt];by_cases hlt:n<s.size
   . rw [decide_eq_true hlt,decide_eq_true (show ¬s.size-n=0 by omega),z0bq s n 0 (by omega),Nat.add_zero]
   . rw [decide_eq_false hlt,decide_eq_false (show ¬¬s.size-n=0 by omega)];rfl
theorem yop {s:ByteArray} {n:Nat} (ha:a<n) (hn:n<=s.size) (h:z1a yio (wcs s a)=n-a) (hd:(decide (n<s.size)&&decide (50<=x41 s n)&&decide (x41 s n<=57))=true) :
 spI (wcs s a)=[cS (s.extract a n),cI (x41 s n-48)]/\spN s a=n+1/\zr8 (wcs s a)=true:=by
 obtain ⟨h1,h2,h3,h4⟩:=yw9 ha hn h;rw [hd] at h4
 have hlt:n<s.size:=by
  simp only [Bool.and_eq_true,decide_eq_true_eq] at hd;exact hd.1.1
 refine ⟨?_,?_,h1⟩
 . unfold spI;rw [h1,cond_true]
   have e:(vl9 (wcs s a)).e=x41 s n-48:=by
    unfold vl9;rw [h4];show x41 (y6h (wcs s a)) 0-48=_;rw [h2,z0bq s n 0 (by omega),Nat.add_zero]
   rw [itC,h3,e]
 . unfold spN x9p;rw [h1,h4,cond_true,cond_true,h2,xzd,yxt];omega
theorem z18q {s:ByteArray} {n:Nat} (ha:a<n) (hn:n<=s.size) (h:z1a yio (wcs s a)=n-a) (hd:(decide (n<s.size)&&decide (50<=x41 s n)&&decide (x41 s n<=57))=false) :
 spI (wcs s a)=[cS (s.extract a n),cI 1]/\spN s a=n/\zr8 (wcs s a)=true:=by
 obtain ⟨h1,h2,h3,h4⟩:=yw9 ha hn h;rw [hd] at h4;refine ⟨?_,?_,h1⟩
 . unfold spI;rw [h1,cond_true]
   have e:(vl9 (wcs s a)).e=1:=by
    unfold vl9;rw [h4];rfl
   rw [itC,h3,e]
 . unfold spN x9p;rw [h1,h4,cond_true,cond_false,h2,yxt];omega
theorem yd3 (s:ByteArray) (a:Nat) (hs:s.size<=1073741824) (ha:a<=s.size):CallsD Γ prog 207 [.one (cS s),.one (cI a)] (.tup [.agg (spI (wcs s a)),.one (cI (spN s a)),.one (cB (zr8 (wcs s a)))]):=by
 have hsz:=yxt s a;refine CallsD.run [] Go.Proofs.Tryz.func207 rfl rfl rfl ?_;simp only [Go.Proofs.Tryz.f207];refine hgR ?_;refine y55 [0,1,4] (fun n:Nat=>[(7,.one (.dat (cI n)))]) (fun _=>[.box [.dat (cS ⟨⟨[]⟩⟩),.dat (cI 0)] (some 198)]) (fun n=>a<=n/\n<=s.size/\∀ j,a<=j->j<n->yio (x41 s j)=true) (fun n=>s.size-n) a ⟨Nat.le_refl _,ha,fun j h1 h2=>by omega⟩ ?_ ?_
 . refine hg ?_;exact StH.same svl rfl
 intro n hn;obtain ⟨h1,h2,hj⟩:=hn
 have hj':∀ j,j<n-a->yio (x41 (wcs s a) j)=true:=fun j h=>by
  rw [z0bq _ _ _ (by omega)];exact hj _ (by omega) (by omega)
 refine hg ?_;refine vtf (fun hlt hd=>?_) (fun hlt _=>?_)
 . have hmin:min (n:Int) ((s.size:Int)-1)=n:=by omega
   refine hg2 @hd @hmin ?_;refine v6l (y06 _) ?_;refine hg ?_;refine wdg (fun h3=>?_) (fun h3=>?_)
   . refine hg ?_;refine ⟨n+1,⟨by omega,by omega,fun j g1 g2=>?_⟩,by omega,StH.same svl rfl⟩
     rcases Nat.lt_or_eq_of_le (Nat.le_of_lt_succ g2) with g | g
     . exact hj j g1 g
     . rw [g];exact h3
   have hsp:=xwo (p:=yio) (s:=wcs s a) (n:=n-a) (by omega) hj' (.inr (by rw [z0bq _ _ _ (by omega),show a+(n-a)=n by omega];exact h3));refine hg ?_;refine vnx (fun he _=>?_) (fun he _=>?_)
   . have e:n=a:=by omega
     subst e;refine hg ?_;have e2:=z00q (s:=s) (a:=n) (by rw [hsp];omega);exact RLe.ofEq (by unfold spI spN;rw [e2];rfl)
   have hn1:decide (n<s.size)=true:=decide_eq_true (by omega);refine hg2 @hd @hmin ?_
   repeat' ((first | refine hfk ?_ ?_<;>intros | refine hik ?_)<;>refine hgS ?_)
   . obtain ⟨g1,g2,g3⟩:=yop (s:=s) (a:=a) (n:=n) (by omega) h2 hsp (by simp [*]);exact RLe.ofEq (by rw [g1,g2,g3];rfl)
   all_goals
    obtain ⟨g1,g2,g3⟩:=z18q (s:=s) (a:=a) (n:=n) (by omega) h2 hsp (by simp [*]);exact RLe.ofEq (by rw [g1,g2,g3])
 . have hsp:=xwo (p:=yio) (s:=wcs s a) (n:=n-a) (by omega) hj' (.inl (by omega));refine hgS ?_;refine vnx (fun he _=>?_) (fun he _=>?_)
   . have e:n=a:=by omega
     subst e;refine hg ?_;have e2:=z00q (s:=s) (a:=n) (by rw [hsp];omega);exact RLe.ofEq (by unfold spI spN;rw [e2];rfl)
   refine hgS ?_;obtain ⟨g1,g2,g3⟩:=z18q (s:=s) (a:=a) (n:=n) (by omega) h2 hsp (by rw [decide_eq_false (show ¬n<s.size by omega)];rfl)
   repeat' ((first | refine hfk ?_ ?_<;>intros | refine hik ?_)<;>refine hgS ?_)
   all_goals exact RLe.ofEq (by rw [g1,g2,g3])
theorem zuk {x:ByteArray} (h:x.size=0):x=⟨#[]⟩:=ByteArray.ext (Array.eq_empty_of_size_eq_zero h)
theorem wkg (s:ByteArray):wcs s 0=s:=by
 unfold wcs;apply ByteArray.ext;rw [ByteArray.data_extract];exact Array.extract_size
theorem z6w {s:ByteArray} (ha:a<=s.size):spN s a<=s.size:=by
 unfold spN
 cases zr8 (wcs s a) with
 | true=>simp
 | false=>simpa using ha
theorem ywz {s:ByteArray} (h:zr8 (wcs s a)=true):wcs s (spN s a)=x9p (wcs s a):=by
 unfold spN;rw [h,cond_true];unfold x9p y6h
 cases x6x (wcs s a) with
 | true=>
  simp only [cond_true,xzd];by_cases hl:a+z1a yio (wcs s a)+1<=s.size
  . refine congrArg (wcs s) ?_;rw [yxt];omega
  . have e1:(wcs s (a+z1a yio (wcs s a)+1)).size=0:=by rw [yxt];omega
    rw [e1,Nat.sub_zero]
    have e2:(wcs s s.size).size=0:=by rw [yxt];omega
    exact (zuk e2).trans (zuk e1).symm
 | false=>
  simp only [cond_false,xzd];by_cases hl:a+z1a yio (wcs s a)<=s.size
  . refine congrArg (wcs s) ?_;rw [yxt];omega
  . have e1:(wcs s (a+z1a yio (wcs s a))).size=0:=by rw [yxt];omega
    rw [e1,Nat.sub_zero]
    have e2:(wcs s s.size).size=0:=by rw [yxt];omega
    exact (zuk e2).trans (zuk e1).symm
def zs7 (s:ByteArray) (p:Nat×List It) (k:Nat):Prop:=p.1<=s.size/\(wcs s p.1).size<k/\p.2.length+(wcs s p.1).size<=100/\ymw k (wcs s p.1) p.2=vhi s
def Hid (p:Prop):Prop:=p
theorem z16q (s:ByteArray) (hs:s.size<=1073741824):CallsD Γ prog 178 [.one (cS s)] (.tup [.one (.sl 2 ((itO (vhi s)).map It.C)),.one (cB (vhi s).isSome)]):=by
 by_cases h0:s.size=0
 . have hi:vhi s=some []:=by unfold vhi;rw [decide_eq_true h0];rfl
   rw [hi];refine CallsD.run [] Go.Proofs.Tryz.func178 rfl rfl rfl ?_;simp only [Go.Proofs.Tryz.f178];refine hgR ?_;refine hg1 @h0 ?_
   repeat' ((first | refine hfk ?_ ?_<;>intros | refine hik ?_)<;>refine hgS ?_)
   exact .tup (.cons (.one (.nilSl 2)) (.cons (.refl _) .nil))
 by_cases h40:40<(s.size:Int)
 . have hi:vhi s=none:=by unfold vhi;rw [decide_eq_false h0,decide_eq_true h40];rfl
   rw [hi];clear hi;have d0:decide (s.size=0)=false:=decide_eq_false h0;have d1:decide (40<(s.size:Int))=true:=decide_eq_true h40;refine CallsD.run [] Go.Proofs.Tryz.func178 rfl rfl rfl ?_;simp only [Go.Proofs.Tryz.f178];refine hgR ?_
   repeat' ((first | refine hfk ?_ ?_<;>intros | refine hik ?_)<;>refine hgS ?_)
   all_goals first
    | exact .tup (.cons (.one (.nilSl 2)) (.cons (.refl _) .nil))
    | (exfalso;simp_all;done)
 have hF:vhi s=ymw (s.size+2) (ztm s) []:=by unfold vhi;rw [decide_eq_false h0,decide_eq_false h40];rfl
 have hP:=xje (s:=s) (by omega);have c0:=yd3 (Γ:=Γ) s 0 hs (Nat.zero_le _);rw [wkg] at c0
 have hinv:∀ p k,zs7 s p k->ymw k (wcs s p.1) p.2=vhi s:=fun p k h=>h.2.2.2
 have hst:x41 s 0=49->zs7 s (1,[]) (s.size+2):=fun h=>by
  have e:ztm s=wcs s 1:=by unfold ztm;rw [hP,decide_eq_true h];rfl
  have h1:=yxt s 1;exact ⟨by simp only;omega,by simp only;omega,by simp only [List.length_nil];omega,by simp only;rw [hF,e]⟩
 have hsplit:¬x41 s 0=49->vhi s=bif zr8 s then ymw (s.size+1) (x9p s) [vl9 s] else none:=fun h=>by
  have e:ztm s=⟨#[42]⟩++s:=by unfold ztm;rw [hP,decide_eq_false h];rfl
  rw [hF,e,ymw]
  have hs1:(⟨#[42]⟩++s:ByteArray).size=1+s.size:=by rw [ByteArray.size_append];rfl
  have hb:x41 (⟨#[42]⟩++s) 0=42:=by
   unfold x41
   have:(⟨#[42]⟩++s:ByteArray).data=#[42]++s.data:=by simp
   rw [this,Array.getElem?_append_left (by simp)];rfl
  rw [decide_eq_false (show ¬(⟨#[42]⟩++s:ByteArray).size=0 by omega),x1k,hb,cond_false]
  cases zr8 s with
  | false=>rfl
  | true=>rfl
 have hnext:¬x41 s 0=49->zr8 s=true->zs7 s (spN s 0,[vl9 s]) (s.size+1):=fun h hok=>by
  have e:=ywz (s:=s) (a:=0) (by rw [wkg];exact hok);rw [wkg] at e;have h2:=x87 s;have h3:=hsplit h;rw [hok,cond_true] at h3;exact ⟨z6w (Nat.zero_le _),by simp only;rw [e];omega,by simp only [List.length_singleton];rw [e];omega,by simp only;rw [e,h3]⟩
 have hno:¬x41 s 0=49->zr8 s=false->vhi s=none:=fun h hok=>by rw [hsplit h,hok];rfl
 have hbody:∀ a acc k,zs7 s (a,acc) k->a<s.size->vhi s=(bif !zr8 (wcs s (a+1))||(decide (¬x41 s a=42)&&decide (¬x41 s a=47)) then none else ymw (k-1) (x9p (wcs s (a+1))) (acc++[y5c (x41 s a) (vl9 (wcs s (a+1)))])):=fun a acc k h ha=>by
  obtain ⟨g1,g2,g3,g4⟩:=h;simp only at g1 g2 g3 g4;have hd:=yxt s a;obtain ⟨k,rfl⟩:∃ m,k=m+1:=⟨k-1,by omega⟩;rw [ymw,decide_eq_false (show ¬(wcs s a).size=0 by omega),cond_false,xzd,z0bq s a 0 (by omega),Nat.add_zero] at g4;exact g4.symm
 clear hF hP hsplit;generalize hR:vhi s=R at *
 have bad:∀ b,R=none->b=false->RLe (.tup [.one (.raw (.slice none 0 0)),.one (cB b)]) (.tup [.one (.sl 2 ((itO R).map It.C)),.one (cB R.isSome)]):=fun b h hb=>by
  rw [h,hb];exact .tup (.cons (.one (.nilSl 2)) (.cons (.refl _) .nil))
 have hno':Hid (¬x41 s 0=49->zr8 s=false->R=none):=hno;have hbody':Hid (∀ a acc k,zs7 s (a,acc) k->a<s.size->R=(bif !zr8 (wcs s (a+1))||(decide (¬x41 s a=42)&&decide (¬x41 s a=47)) then none else ymw (k-1) (x9p (wcs s (a+1))) (acc++[y5c (x41 s a) (vl9 (wcs s (a+1)))]))):=hbody;clear hno hbody hinv;refine CallsD.run [(13,[.join])] Go.Proofs.Tryz.func178 rfl rfl rfl ?_;simp only [Go.Proofs.Tryz.f178];refine hgR ?_
 repeat' ((first | refine hfk ?_ ?_<;>intros | refine hik ?_)<;>refine hgS ?_)
 . exfalso;omega
 refine ztg [0,2,3] (fun p:Nat×List It=>[(4,.one (.sl 0 2 0 p.2.length)),(5,.one (.dat (cI p.1)))]) (fun p=>[.arr (.sl 2 (p.2.map It.C)) 0 (some 198)]) (fun p=>∃ k,zs7 s p k) ?_ ?_
 . by_cases h1:x41 s 0=49
   . refine hg1 @h1 ?_;refine ⟨(1,[]),⟨_,hst h1⟩,?_⟩;refine StH.trans (StH.empty (d:=4) (es:=2) (c:=.sl 2 []) (T:=some 198) rfl rfl (fun r hr=>by cases hr) rfl) ?_;refine hg ?_;exact StH.same svl rfl
   . cases hok:zr8 s with
     | false=>
      unfold spI spN at c0;rw [wkg,hok] at c0;simp only [cond_false] at c0;refine hg ?_
      repeat' ((first | refine hfk ?_ ?_<;>intros | refine hik ?_ | with_reducible first | refine v6l (c0) ?_ | refine vgi (c0) ?_)<;>refine hgS ?_)
      all_goals first
       | exact bad _ (hno' h1 hok) rfl
       | (exfalso;simp_all;done)
     | true=>
      unfold spI at c0;rw [hok] at c0;simp only [cond_true] at c0;refine hg ?_
      repeat' ((first | refine hfk ?_ ?_<;>intros | refine hik ?_ | with_reducible first | refine v6l (c0) ?_ | refine vgi (c0) ?_)<;>refine hgS ?_)
      all_goals first
       | (exfalso;simp_all;done)
       | skip
      all_goals refine ⟨(spN s 0,[vl9 s]),⟨_,hnext h1 hok⟩,?_⟩
      all_goals refine StH.back [0,2,3,4,5] 0 1 1 rfl rfl rfl rfl rfl (by kernel_rfl) (StH.same svl rfl)
 rintro ⟨a0,acc0⟩ ⟨k0,hk0⟩;refine hg ?_;refine y55 [0,2,3] (fun p:Nat×Nat×List It=>[(4,.one (.sl 0 2 0 p.2.2.length)),(5,.one (.dat (cI p.2.1)))]) (fun p=>[.arr (.sl 2 (p.2.2.map It.C)) 0 (some 198)]) (fun p=>zs7 s (p.2.1,p.2.2) p.1) (fun p=>s.size-p.2.1) (k0,a0,acc0) hk0 ?_ ?_
 . refine hg ?_;exact StH.same svl rfl
 rintro ⟨k,a,acc⟩ hk;simp only at hk;clear hk0 hst hnext hno' c0;refine hg ?_;refine vnx (fun hlt _=>?_) (fun hlt _=>?_)
 . have hlt':a<s.size:=by omega
   have hB:Hid (R=_):=hbody' a acc k hk hlt'
   have hacc:acc.length<=100:=by have:=hk.2.2.1;simp only at this;omega
   clear hbody';have c1:=yd3 (Γ:=Γ) s (a+1) hs (by omega);have hce:=z0m (wcs s (a+1))
   have e1:((a+1:Nat):Int)=(a:Int)+1:=by omega
   cases hok:zr8 (wcs s (a+1)) with
   | false=>
    unfold spI spN at c1;rw [hok,e1] at c1;simp only [cond_false] at c1
    have hB':Hid (R=none):=by unfold Hid at hB ⊢;rw [hB,hok];rfl
    clear hB hce hk;refine hg ?_
    repeat' ((first | refine hfk ?_ ?_<;>intros | refine hik ?_ | with_reducible first | refine v6l (c1) ?_ | refine vgi (c1) ?_)<;>refine hgS ?_)
    all_goals exact bad _ hB' rfl
   | true=>
    have hsp:=ywz hok;unfold spI at c1;rw [hok,e1] at c1;simp only [cond_true] at c1
    have hdone:∀ x:It,Hid (R=ymw (k-1) (x9p (wcs s (a+1))) (acc++[x]))->Hid (zs7 s (spN s (a+1),acc++[x]) (k-1)/\s.size-spN s (a+1)<s.size-a):=fun x h=>by
     obtain ⟨g1,g2,g3,g4⟩:=hk;simp only at g1 g2 g3 g4;have h1:=x87 (wcs s (a+1));have h2:=yxt s (a+1);have h3:=yxt s a;have h4:=yxt s (spN s (a+1));have h5:=z6w (s:=s) (a:=a+1) (by omega);rw [hsp] at h4;refine ⟨⟨h5,by simp only;rw [hsp];omega,by simp only [List.length_append,List.length_singleton];rw [hsp];omega,by simp only;rw [hsp,hR];exact Eq.symm h⟩,by omega⟩
    clear hk;generalize spN s (a+1)=b at c1 hsp hdone
    have hmap:∀ x:It,acc.map It.C++[itC x]=(acc++[x]).map It.C:=fun x=>by simp;rfl
    refine hg ?_
    repeat' ((first | refine hfk ?_ ?_<;>intros | refine hik ?_ | with_reducible first | refine v6l (c1) ?_ | refine vgi (c1) ?_)<;>refine hgS ?_)
    . have hb:x41 s a=47:=by assumption
      have h':R=ymw (k-1) (x9p (wcs s (a+1))) (acc++[⟨(vl9 (wcs s (a+1))).w,0-(vl9 (wcs s (a+1))).e⟩]):=by
       have h2:R=_:=hB;rw [h2,hok,hb];rfl
      obtain ⟨i1,i2⟩:=hdone ⟨(vl9 (wcs s (a+1))).w,0-(vl9 (wcs s (a+1))).e⟩ h';refine ⟨(k-1,b,acc++[⟨(vl9 (wcs s (a+1))).w,0-(vl9 (wcs s (a+1))).e⟩]),i1,i2,?_⟩;rw [hmap ⟨(vl9 (wcs s (a+1))).w,0-(vl9 (wcs s (a+1))).e⟩];refine StH.back [0,2,3,4,5] 0 2 1 rfl rfl rfl rfl rfl (by kernel_rfl) ?_;refine hg ?_;exact StH.same svl rfl
    . exfalso;simp_all
    . refine bad _ ?_ rfl;have h2:R=_:=hB;rw [h2,hok,show decide (¬x41 s a=42)=true from decide_eq_true (by assumption),show decide (¬x41 s a=47)=true from decide_eq_true (by assumption)];rfl
    . exfalso;omega
    . have hb:x41 s a=42:=Decidable.not_not.1 (by assumption)
      have h':R=ymw (k-1) (x9p (wcs s (a+1))) (acc++[vl9 (wcs s (a+1))]):=by
       have h2:R=_:=hB;rw [h2,hok,hb];rfl
      obtain ⟨i1,i2⟩:=hdone (vl9 (wcs s (a+1))) h';refine ⟨(k-1,b,acc++[vl9 (wcs s (a+1))]),i1,i2,?_⟩
      try rw [hmap (vl9 (wcs s (a+1)))]
      refine StH.back [0,2,3,4,5] 0 2 1 rfl rfl rfl rfl rfl (by kernel_rfl) ?_;refine hg ?_;exact StH.same svl rfl
 . obtain ⟨g1,g2,g3,g4⟩:=hk;simp only at g1 g2 g4;obtain ⟨k,rfl⟩:∃ m,k=m+1:=⟨k-1,by omega⟩;rw [ymw,decide_eq_true (show (wcs s a).size=0 by rw [yxt];omega),cond_true,hR] at g4;refine hg ?_;rw [<-g4];exact RLe.ofEq rfl
theorem ydd (a f:Rat) (x:Int):∀ i,pw a f x i=a*pw (1:Int) f x i
 | 0=>by rw [wuy,wuy];exact (Rat.mul_one a).symm
 | i+1=>by
  have ih:=ydd a f x i;by_cases h:0<x
  . rw [xg4 h,xg4 h,ih,Rat.mul_assoc]
  . rw [zqi h,zqi h,ih,Rat.div_def,Rat.div_def,Rat.mul_assoc]
theorem vkp (a f:Rat) (x:Int):a*ymb (1:Int) f x=ymb a f x:=by
 rw [xbq,xbq,<-ydd]
theorem zoo (s:ByteArray) (hs:s.size<=1073741824):CallsD Γ prog 132 [.one (cS s)] (.tup [.agg (unO (zte s).1),.one (cI (zte s).2)]):=by
 refine CallsD.run [] Go.Proofs.Tryz.func132 rfl rfl rfl ?_;simp only [Go.Proofs.Tryz.f132];refine hgR ?_;refine v6l (z16q s hs) ?_
 cases hi:vhi s with
 | none=>
  conv=>simp (maxSteps:=2000000) (disch:=omega) only [go_sem,Nat.reduceAdd,Nat.reduceSub,Nat.reduceMul,Int.reduceToNat,Nat.reduceEqDiff,Nat.reduceBEq,Nat.reduceBneDiff,Nat.reduceLT,Int.reduceEq,Int.reduceLT,Int.reduceLE,Int.reduceNeg,Int.reduceAdd,Int.reduceSub,Int.reduceMul,Option.isSome,itO]
  exact RLe.ofEq (by simp only [zte,hi];rfl)
 | some l=>
  obtain ⟨hl,hx⟩:=yqi hi
  conv=>simp (maxSteps:=2000000) (disch:=omega) only [go_sem,Nat.reduceAdd,Nat.reduceSub,Nat.reduceMul,Int.reduceToNat,Nat.reduceEqDiff,Nat.reduceBEq,Nat.reduceBneDiff,Nat.reduceLT,Int.reduceEq,Int.reduceLT,Int.reduceLE,Int.reduceNeg,Int.reduceAdd,Int.reduceSub,Int.reduceMul,Option.isSome,itO]
  refine v6l (wof 1 (by decide)) ?_;refine hg ?_;refine y55 [2,4,6] (fun p:Nat×Un=>[(7,.one (.dat (cI p.1)))]) (fun p=>[.box (unZ.map .dat) (some 44),.box ((unC p.2).map .dat) (some 44)])
   (fun p=>p.1<=l.length/\p.2.d.le (27*p.1)/\qs p.2.f<=1+100*p.1/\wf3 (l.drop p.1) p.2=wf3 l ⟨Dm.zero,(1:Int)⟩) (fun p=>l.length-p.1) (0,⟨Dm.zero,(1:Int)⟩) ⟨Nat.zero_le _,by unfold Dm.le;decide,zn6,rfl⟩ ?_ ?_
  . refine hg ?_;exact StH.same svl rfl
  rintro ⟨i,u⟩ ⟨h1,h2,h3,h4⟩;simp only at h1 h2 h3 h4;refine hg ?_;refine vnx (fun hlt _=>?_) (fun hlt _=>?_)
  . have hlt':i<l.length:=by omega
    have hok:=hx _ (w4t hlt');rw [xqz hlt',wf3] at h4;refine hg ?_;refine v6l (yu2 _ (by have:=hok.2.1;omega)) ?_
    cases hw:ykz (l.getD i default).w with
    | none=>
     conv=>simp (maxSteps:=2000000) (disch:=omega) only [go_sem,Nat.reduceAdd,Nat.reduceSub,Nat.reduceMul,Int.reduceToNat,Nat.reduceEqDiff,Nat.reduceBEq,Nat.reduceBneDiff,Nat.reduceLT,Int.reduceEq,Int.reduceLT,Int.reduceLE,Int.reduceNeg,Int.reduceAdd,Int.reduceSub,Int.reduceMul,Option.isSome,unO]
     rw [hw] at h4;exact RLe.ofEq (by simp only [zte,hi,<-h4])
    | some v=>
     obtain ⟨hv1,hv2,hv3⟩:=xk3 hw;have hv4:=vuo hw;rw [hw] at h4;obtain ⟨b1,b2,b3,b4,b5,b6⟩:=h2;obtain ⟨d1,d2,d3,d4,d5,d6⟩:=hv1;have he:=hok.2.2;have c1:=yos d1 he;have c2:=yos d2 he;have c3:=yos d3 he;have c4:=yos d4 he;have c5:=yos d5 he;have c6:=yos d6 he
     have hq:qs (ymb u.f v.f (l.getD i default).e)<=qs u.f+9*(qs v.f+1):=by
      have:=zki u.f v.f (l.getD i default).e (l.getD i default).e.natAbs
      rw [<-xbq] at this;have h9:(l.getD i default).e.natAbs*(qs v.f+1)<=9*(qs v.f+1):=Nat.mul_le_mul_right _ (by omega);omega
     have hq1:qs (ymb (1:Int) v.f (l.getD i default).e)<=1+9*(qs v.f+1):=by
      have:=zki (1:Int) v.f (l.getD i default).e (l.getD i default).e.natAbs
      rw [<-xbq] at this;have h9:(l.getD i default).e.natAbs*(qs v.f+1)<=9*(qs v.f+1):=Nat.mul_le_mul_right _ (by omega)
      have:=zn6
      omega
     have hle:(u.d.acc v.d (l.getD i default).e).le (27*(i+1:Nat)):=by
      have:=Dm.v1r (x:=u.d) ⟨b1,b2,b3,b4,b5,b6⟩ ⟨d1,d2,d3,d4,d5,d6⟩ he
      rw [show (27*((i+1:Nat):Int))=27*i+27 from by omega];exact this
     have hm:=x3u (Γ:=Γ) u.f (ymb (1:Int) v.f (l.getD i default).e) (by omega) (by omega);rw [vkp] at hm
     conv=>simp (maxSteps:=2000000) (disch:=omega) only [go_sem,Nat.reduceAdd,Nat.reduceSub,Nat.reduceMul,Int.reduceToNat,Nat.reduceEqDiff,Nat.reduceBEq,Nat.reduceBneDiff,Nat.reduceLT,Int.reduceEq,Int.reduceLT,Int.reduceLE,Int.reduceNeg,Int.reduceAdd,Int.reduceSub,Int.reduceMul,Option.isSome,unO]
     repeat' ((first | refine hfk ?_ ?_<;>intros | refine hik ?_ | with_reducible refine zum ?_ | with_reducible refine v3j ?_ | with_reducible first | refine v6l (xca v.f (l.getD i default).e (by omega) (by omega) hv4) ?_ | refine vgi (xca v.f (l.getD i default).e (by omega) (by omega) hv4) ?_ | refine v6l (hm) ?_ | refine vgi (hm) ?_)<;>refine hgS ?_)
     refine ⟨(i+1,⟨u.d.acc v.d (l.getD i default).e,ymb u.f v.f (l.getD i default).e⟩),?_,?_,?_⟩
     . dsimp only;exact ⟨by omega,hle,by omega,h4⟩
     . dsimp only;omega
     refine StH.back [2,4,6,7] 2 2 2 rfl rfl rfl rfl rfl (by kernel_rfl) ?_;refine hg ?_;exact StH.same svl rfl
  . have h4':wf3 l ⟨Dm.zero,(1:Int)⟩=some u:=by rw [<-h4,List.drop_eq_nil_of_le (by omega)];rfl
    refine hg ?_
    repeat' ((first | refine hfk ?_ ?_<;>intros | refine hik ?_ | with_reducible first | refine v6l (x5b _) ?_ | refine vgi (x5b _) ?_)<;>refine hgS ?_)
    all_goals
     rename_i hd;exact RLe.ofEq (by simp only [zte,hi,h4',hd];rfl)
theorem zeq (s:ByteArray) (hs:s.size<=1073741824):CallsD Γ prog 132 [.one (cS s)] (.tup [.agg (unX (zte s).1),.one (cI (zte s).2)]):=by
 have:=zoo (Γ:=Γ) s hs
 rw [vtx] at this;exact this
theorem vf2 (t:Tb) (h1:t.name.size<=1073741824) (h2:t.unit.size<=1073741824) (h3:t.rows.length<=1073741824):CallsD Γ prog 99 [.agg (tbC t)] (.one (cB (zi4 (fun s=>(zte s).2) t))):=by
 generalize hR:zi4 (fun s=>(zte s).2) t=R;have u1:=zeq (Γ:=Γ) t.unit h2;have n1:=z2u (Γ:=Γ) t.name h1;refine CallsD.run [] Go.Proofs.Tryz.func99 rfl rfl rfl ?_;simp only [Go.Proofs.Tryz.f99];refine hgR ?_
 repeat' ((first | refine hfk ?_ ?_<;>intros | refine hik ?_ | with_reducible first | refine v6l (u1) ?_ | refine vgi (u1) ?_ | refine v6l (n1) ?_ | refine vgi (n1) ?_)<;>refine hgS ?_)
 all_goals first
  | (refine y55 [1] (fun i:Nat=>[(5,.one (.dat (cI i)))]) (fun _=>[.box ((tbC t).map .dat) (some 60),.box ((unX (zte t.unit).1).map .dat) (some 44)]) (fun i=>i<=t.rows.length/\∀ j,j<i->rowAt t.rows j=true) (fun i=>t.rows.length-i) 0 ⟨Nat.zero_le _,fun j hj=>by omega⟩ ?_ ?_)
  | (refine RLe.ofEq ?_;rw [<-hR];simp [zi4, *];done)
 . refine hg ?_;exact StH.same svl rfl
 rintro i ⟨hi,hj⟩
 have hbad:Hid (rowAt t.rows i=false->i<t.rows.length->R=false):=fun h h'=>by
  rw [<-hR];unfold zi4 zx5;rw [zch h' h,Bool.and_false]
 refine hg ?_
 repeat' ((first | refine hfk ?_ ?_<;>intros | refine hik ?_ | with_reducible first | refine v6l (wqk _) ?_ | refine vgi (wqk _) ?_)<;>refine hgS ?_)
 all_goals first
  | (refine RLe.ofEq ?_;rw [(hbad:rowAt t.rows i=false->i<t.rows.length->R=false) (by (refine bs1 @rowAt.eq_def ?_;try exact trivial)) (by omega)];done)
  | (refine ⟨i+1,⟨by omega,xrx hj (by (refine bs1 @rowAt.eq_def ?_;try exact trivial))⟩,by omega,StH.same svl rfl⟩)
  | (refine RLe.ofEq ?_;rw [<-hR,show zi4 (fun s=>(zte s).2) t=true from by unfold zi4 zx5;rw [ye8 (fun j hj'=>hj j (by omega))];simp [*]];done)
theorem yx5:∀(l:List It) (u v:Un),wf3 l u=some v->(∀ x∈l,x.ok)->qs v.f<=qs u.f+100*l.length
 | [],u,v,h,_=>by rw [wf3] at h;cases h;omega
 | x::l,u,v,h,hx=>by
  rw [wf3] at h;split at h
  . cases h
  . rename_i w hw;have h1:=yx5 l _ _ h (fun y hy=>hx y (by simp [hy]));obtain ⟨_,h2,_⟩:=xk3 hw;obtain ⟨_,_,h3,h4⟩:=hx x (by simp)
    have hq:qs (ymb u.f w.f x.e)<=qs u.f+9*(qs w.f+1):=by
     have:=zki u.f w.f x.e x.e.natAbs
     rw [<-xbq] at this;have h9:x.e.natAbs*(qs w.f+1)<=9*(qs w.f+1):=Nat.mul_le_mul_right _ (by omega);omega
    simp only at h1;rw [List.length_cons];omega
theorem veq (s:ByteArray):(∃ u,zte s=(some u,0)/\qs u.f<=4200)\/(∃ e,e≠0/\zte s=(none,e)):=by
 unfold zte
 split
 . exact .inr ⟨12,by decide,rfl⟩
 . rename_i l hl
   split
   . exact .inr ⟨11,by decide,rfl⟩
   . rename_i u hu
     cases hd:zmf u.d with
     | false=>exact .inr ⟨3,by decide,rfl⟩
     | true=>
      refine .inl ⟨u,rfl,?_⟩;have h1:=yqi hl;have h2:=yx5 _ _ _ hu h1.2
      have:=zn6
      simp only at h2;omega
def facO (s:ByteArray):Option Rat:=(zte s).1.map (·.f)
theorem z23q (s:ByteArray):qz (facO s)<=4200:=by
 unfold facO
 rcases veq s with ⟨u,h,hq⟩ | ⟨e,_,h⟩
 . rw [h];exact hq
 . rw [h];exact Nat.zero_le _
def aft (q:Rat):List Rw->Nat
 | []=>0
 | r::l=>bif decide ((r.k:Rat)<=q) then aft q l+1 else 0
theorem y5e {q:Rat}:∀{l:List Rw} {i:Nat},i<=l.length->(∀ j,j<i->(((l.getD j default).k:Rat)<=q))->(i<l.length->¬(((l.getD i default).k:Rat)<=q))->aft q l=i
 | [],i,hi,_,_=>by simp at hi;subst hi;rfl
 | x::l,0,_,_,h=>by
  have h':¬(x.k:Rat)<=q:=h (by simp);unfold aft;rw [decide_eq_false h'];rfl
 | x::l,i+1,hi,hj,h=>by
  have h0:(x.k:Rat)<=q:=hj 0 (by omega)
  have:=y5e (l:=l) (i:=i) (by simpa using hi) (fun j hj'=>by simpa using hj (j+1) (by omega)) (fun h'=>by simpa using h (by simpa using h'))
  unfold aft;rw [decide_eq_true h0,this];rfl
theorem wrt (q:Rat):∀ l:List Rw,aft q l<=l.length
 | []=>Nat.le_refl _
 | x::l=>by
  have:=wrt q l
  unfold aft
  cases decide ((x.k:Rat)<=q) with
  | true=>rw [cond_true,List.length_cons];omega
  | false=>rw [cond_false];omega
def Rows (l:List Rw):Prop:=∀ i,i<l.length->inT (l.getD i default).k=true/\inT (l.getD i default).v=true/\(0<i->(l.getD (i-1) default).k<(l.getD i default).k)
theorem z29q {n:Int} (h:inT n=true):-1099511627776<=n/\n<=1099511627776:=by
 unfold inT at h;simpa using h
theorem w8x (h:zx5 l=true):Rows l:=fun i hi=>by
 have:=List.all_eq_true.1 h i (List.mem_range.2 hi)
 unfold rowAt at this;simp only [Bool.and_eq_true,Bool.not_eq_true',Bool.and_eq_false_iff,decide_eq_false_iff_not] at this;exact ⟨this.1.1,this.1.2,fun h0=>by rcases this.2 with h | h<;>omega⟩
theorem Rows.mono (h:Rows l):∀{i j:Nat},i<=j->j<l.length->(l.getD i default).k<=(l.getD j default).k:=by
 intro i j hij
 induction j with
 | zero => intro _; have : i = 0 := by omega
           subst this;exact Int.le_refl _
 | succ j ih=>
  intro hj
  rcases Nat.lt_or_eq_of_le hij with h1 | h1
  . have h2:=ih (by omega) (by omega);have h3:=(h (j+1) hj).2.2 (by omega);rw [Nat.add_sub_cancel] at h3;omega
  . subst h1;exact Int.le_refl _
theorem z8y {a b:Int} (h:a<=b):(a:Rat)<=(b:Rat):=Rat.intCast_le_intCast.2 h
theorem yg5 {t:Tb} (h:zi4 (fun s=>(zte s).2) t=true):(∃ u,zte t.unit=(some u,0)/\qs u.f<=4200)/\isName t.name=true/\t.rows.length<=100/\Rows t.rows:=by
 unfold zi4 at h;simp only [Bool.and_eq_true,Bool.not_eq_true',decide_eq_false_iff_not,Classical.not_not] at h;obtain ⟨⟨⟨h1,h2⟩,h3⟩,h4⟩:=h;refine ⟨?_,h2,by omega,w8x h4⟩
 rcases veq t.unit with h | ⟨e,he,h⟩
 . exact h
 . rw [h] at h1;exact absurd h1 he
theorem z10q {k:Int} {q:Rat}:decide (cmpO (some (k:Rat)) (some q)<=0)=decide ((k:Rat)<=q):=by
 apply decide_eq_decide.2;show Fc.ordQ _ _<=0↔_
 rcases Fc.ygb (k:Rat) q with ⟨h,e⟩ | ⟨h,e⟩ | ⟨h,e⟩<;>rw [e]
 . exact ⟨fun _=>Rat.le_of_lt h,fun _=>by decide⟩
 . rw [h];exact ⟨fun _=>Rat.le_refl,fun _=>by decide⟩
 . exact ⟨fun h'=>absurd h' (by decide),fun h'=>absurd h' (Rat.not_le.2 h)⟩
theorem zpx (r:Rw) (q:Rat) (hr:inT r.k=true) (hq:qs q<=67108864):CallsD Γ prog 191 [.agg (rwC r),.agg (qC (some q))] (.one (cI (bif decide ((r.k:Rat)<=q) then -1 else 1))):=by
 have hk:=z29q hr
 have hin:inI r.k:=by unfold inI;omega
 have h1:=oInt (Γ:=Γ) r.k hin;have hz:=wtn hin;have h2:=oCmp (Γ:=Γ) (some (r.k:Rat)) (some q) (by omega) hq;rw [<-z10q];have hcr:=zpb (some (r.k:Rat)) (some q);generalize cmpO (some (r.k:Rat)) (some q)=c at *;refine CallsD.run [] Go.Proofs.Tryz.func191 rfl rfl rfl ?_;simp only [Go.Proofs.Tryz.f191];refine hgR ?_
 repeat' ((first | refine hfk ?_ ?_<;>intros | refine hik ?_ | with_reducible first | refine v6l (h1) ?_ | refine vgi (h1) ?_ | refine v6l (h2) ?_ | refine vgi (h2) ?_)<;>refine hgS ?_)
 all_goals refine lfE ?_;first | exact trivial | rfl
theorem ykx {i j:Nat} (h:i+j<=4611686018427387904):IntKind.i64.wrap (ishr .u64 ((i:Int)+j) 1)=(((i+j) / 2:Nat):Int):=by
 have e:ishr .u64 ((i:Int)+j) 1=((i:Int)+j) / 2:=by
  unfold ishr;rw [show (min (1:Int).toNat IntKind.u64.bits)=1 by decide];rw [Int.fdiv_eq_ediv_of_nonneg _ (by decide)];rfl
 rw [e,w64 (by omega)];omega
abbrev unQ (u:Un):List Cell:=[cI u.d.a,cI u.d.b,cI u.d.c,cI u.d.d,cI u.d.e,cI u.d.f,.raw (.int .i64 (qF (some u.f)).s),.ints .i64 (qF (some u.f)).L,.raw (.int .i64 (qF (some u.f)).t),.ints .i64 (qF (some u.f)).M]
theorem xyv {s:ByteArray} {u:Un} (hs:s.size<=1073741824) (h:zte s=(some u,0)):CallsD Γ prog 15 [.one (cS s)] (.tup [.agg (unQ u),.one (cI 0)]):=by
 have hr:=vqa (Γ:=Γ) s hs;rw [h] at hr;exact hr
theorem cBin (l:List Rw) (q:Rat) (f:FuncId) (hl:l.length<=1073741824) (hs:Rows l)
 (h:∀ r∈l,CallsD Γ prog f [.agg (rwC r),.agg (qC (some q))] (.one (cI (bif decide ((r.k:Rat)<=q) then -1 else 1)))) :
 CallsD Γ prog 190 [.one (.sl 2 (l.map Rw.C)),.agg (qC (some q)),fN f] (.tup [.one (cI (aft q l)),.one (cB false)]):=by
 generalize hR:aft q l=R;refine CallsD.run [] Go.Proofs.Tryz.func190 rfl rfl rfl ?_;simp only [Go.Proofs.Tryz.f190];refine hgR ?_;refine y55 [0,2,4,8] (fun p:Nat×Nat=>[(9,.one (.dat (cI p.1))),(10,.one (.dat (cI p.2)))]) (fun _=>[.box ((qC (some q)).map .dat) (some 33)])
  (fun p=>p.1<=p.2/\p.2<=l.length/\(∀ j,j<p.1->(((l.getD j default).k:Rat)<=q))/\(∀ j,p.2<=j->j<l.length->¬(((l.getD j default).k:Rat)<=q))) (fun p=>p.2-p.1) (0,l.length) ⟨Nat.zero_le _,Nat.le_refl _,fun j hj=>by omega,fun j h1 h2=>by omega⟩ ?_ ?_
 . refine hg ?_;exact StH.same svl rfl
 rintro ⟨i,j⟩ ⟨h1,h2,h3,h4⟩;simp only at h1 h2 h3 h4;refine hg ?_;refine vnx (fun hlt _=>?_) (fun hlt _=>?_)
 . have hw:=ykx (i:=i) (j:=j) (by omega)
   have hm:(i+j) / 2<l.length:=by omega
   have hmi:i<=(i+j) / 2:=by omega
   have hmj:(i+j) / 2<j:=by omega
   have hc:=h _ (w4t hm)
   have hlo:decide (((l.getD ((i+j) / 2) default).k:Rat)<=q)=true->∀ k,k<(i+j) / 2+1->(((l.getD k default).k:Rat)<=q):=fun hq k hk=>Rat.le_trans (z8y (hs.mono (by omega) hm)) (of_decide_eq_true hq)
   have hhi:decide (((l.getD ((i+j) / 2) default).k:Rat)<=q)=false->∀ k,(i+j) / 2<=k->k<l.length->¬(((l.getD k default).k:Rat)<=q):=fun hq k hk hk2 hle=>of_decide_eq_false hq (Rat.le_trans (z8y (hs.mono hk hk2)) hle)
   clear h hs;generalize hM:(i+j) / 2=m at *;clear hM;generalize decide (((l.getD m default).k:Rat)<=q)=b at hc hlo hhi;refine hg1 @hw ?_
   cases b with
   | true=>
    repeat' ((first | refine hfk ?_ ?_<;>intros | refine hik ?_ | with_reducible first | refine v6l (hc) ?_ | refine vgi (hc) ?_)<;>refine hgS ?_)
    all_goals first
     | exact ⟨(m+1,j),⟨by dsimp only;omega,h2,hlo rfl,h4⟩,by dsimp only;omega,StH.same svl rfl⟩
     | (exfalso;simp_all;done)
   | false=>
    repeat' ((first | refine hfk ?_ ?_<;>intros | refine hik ?_ | with_reducible first | refine v6l (hc) ?_ | refine vgi (hc) ?_)<;>refine hgS ?_)
    all_goals first
     | exact ⟨(i,m),⟨by dsimp only;omega,by dsimp only;omega,h3,hhi rfl⟩,by dsimp only;omega,StH.same svl rfl⟩
     | (exfalso;simp_all;done)
 . have h4':∀ k,i<=k->k<l.length->¬(((l.getD k default).k:Rat)<=q):=fun k hk=>h4 k (by omega)
   have hR2:R=i:=by rw [<-hR];exact y5e (by omega) h3 (fun h=>h4' i (Nat.le_refl _) h)
   rw [hR2];refine hg ?_;by_cases hn:i<l.length
   . have hc:=h _ (w4t hn);rw [decide_eq_false (h4' i (Nat.le_refl _) hn),cond_false] at hc
     repeat' ((first | refine hfk ?_ ?_<;>intros | refine hik ?_ | with_reducible first | refine v6l (hc) ?_ | refine vgi (hc) ?_)<;>refine hgS ?_)
     all_goals refine lfE ?_;first | exact trivial | rfl
   . repeat' ((first | refine hfk ?_ ?_<;>intros | refine hik ?_)<;>refine hgS ?_)
     all_goals first
      | (exfalso;omega)
      | refine lfE ?_;first | exact trivial | rfl
theorem z19q (t:Tb) (q:Rat) (ht:zi4 (fun s=>(zte s).2) t=true) (hq:qs q<=67108864):CallsD Γ prog 153 [.agg (tbC t),.agg (qC (some q))] (.tup [.one (cI (aft q t.rows)),.one (cB (decide (0<(aft q t.rows:Int))&&decide (cmpO (some (((t.rows.getD (aft q t.rows-1) default).k:Int):Rat)) (some q)=0)))]):=by
 obtain ⟨_,_,hl,hrows⟩:=yg5 ht
 have hb:=cBin (Γ:=Γ) t.rows q 191 (by omega) hrows (fun r hr=>zpx r q (by
  obtain ⟨i,hi,rfl⟩:=List.getElem_of_mem hr
  have:=(hrows i hi).1
  rw [show t.rows.getD i default=t.rows[i] from by simp [hi]] at this
  exact this) hq)
 have hle:=wrt q t.rows;have hcr:=zpb (some (((t.rows.getD (aft q t.rows-1) default).k:Int):Rat)) (some q);by_cases h0:aft q t.rows=0
 . rw [h0] at hb ⊢;refine CallsD.run [] Go.Proofs.Tryz.func153 rfl rfl rfl ?_;simp only [Go.Proofs.Tryz.f153];refine hgR ?_
   repeat' ((first | refine hfk ?_ ?_<;>intros | refine hik ?_ | with_reducible first | refine v6l (hb) ?_ | refine vgi (hb) ?_)<;>refine hgS ?_)
   all_goals first
    | (exfalso;omega)
    | refine lfE ?_;first | exact trivial | rfl
 . have hk:=z29q (hrows (aft q t.rows-1) (by omega)).1
   have hin:inI (t.rows.getD (aft q t.rows-1) default).k:=by unfold inI;omega
   have hz:=wtn hin;have o1:=oInt (Γ:=Γ) (t.rows.getD (aft q t.rows-1) default).k hin;have o2:=oCmp (Γ:=Γ) (some (((t.rows.getD (aft q t.rows-1) default).k:Int):Rat)) (some q) (by omega) hq;generalize cmpO (some (((t.rows.getD (aft q t.rows-1) default).k:Int):Rat)) (some q)=c at *;generalize aft q t.rows=k at *;refine CallsD.run [] Go.Proofs.Tryz.func153 rfl rfl rfl ?_;simp only [Go.Proofs.Tryz.f153];refine hgR ?_
   repeat' ((first | refine hfk ?_ ?_<;>intros | refine hik ?_ | with_reducible first | refine v6l (hb) ?_ | refine vgi (hb) ?_ | refine v6l (o1) ?_ | refine vgi (o1) ?_ | refine v6l (o2) ?_ | refine vgi (o2) ?_)<;>refine hgS ?_)
   all_goals refine lfE ?_;first | exact trivial | rfl
def zfd (t:Tb) (n:Int):Option Rat:=mulO (some (n:Rat)) (facO t.unit)
theorem xg9 (t:Tb) (n:Int) (ht:zi4 (fun s=>(zte s).2) t=true) (hu:t.unit.size<=1073741824) (hn:inI n):CallsD Γ prog 154 [.agg (tbC t),.one (cI n)] (.agg (qC (zfd t n))):=by
 obtain ⟨u,h1,h2⟩:=(yg5 ht).1;have hr:=xyv (Γ:=Γ) hu h1;have hz:=wtn hn;have hm:=oMul (Γ:=Γ) (some (n:Rat)) (some u.f) (by omega) (by show qs u.f<=_;omega);rw [show zfd t n=mulO (some (n:Rat)) (some u.f) by unfold zfd facO;rw [h1];rfl];refine CallsD.run [] Go.Proofs.Tryz.func154 rfl rfl rfl ?_;simp only [Go.Proofs.Tryz.f154];refine hgR ?_
 repeat' ((first | refine hfk ?_ ?_<;>intros | refine hik ?_ | with_reducible first | refine v6l (hr) ?_ | refine vgi (hr) ?_ | refine v6l (oInt n hn) ?_ | refine vgi (oInt n hn) ?_ | refine v6l (hm) ?_ | refine vgi (hm) ?_)<;>refine hgS ?_)
 all_goals refine lfE ?_;first | exact trivial | rfl
def z0cq (t:Tb) (v:Option Rat):Option Rat×Int:=bif !zi4 (fun s=>(zte s).2) t then (none,1) else match v with
 | none=>(none,1)
 | some q=>bif decide (aft q t.rows=0) then (none,4) else (zfd t (t.rows.getD (aft q t.rows-1) default).v,0)
theorem vud (t:Tb) (v:Option Rat) (hv:qz v<=67108864) (h1:t.name.size<=1073741824) (h2:t.unit.size<=1073741824) (h3:t.rows.length<=1073741824):CallsD Γ prog 102 [.agg (tbC t),.agg (qC v)] (qR (z0cq t v).1 (z0cq t v).2):=by
 have hr:=vv4 (Γ:=Γ) t h1 h2 h3
 cases ht:zi4 (fun s=>(zte s).2) t with
 | false=>
  rw [ht] at hr;rw [show z0cq t v=(none,1) by unfold z0cq;rw [ht];rfl];refine CallsD.run [] Go.Proofs.Tryz.func102 rfl rfl rfl ?_;simp only [Go.Proofs.Tryz.f102];refine hgR ?_
  repeat' ((first | refine hfk ?_ ?_<;>intros | refine hik ?_ | with_reducible first | refine v6l (hr) ?_ | refine vgi (hr) ?_)<;>refine hgS ?_)
  exact vmy
 | true=>
  rw [ht] at hr
  cases v with
  | none=>
   have hv2:CallsD Γ prog 26 [.agg (qC none)] (.one (cB false)):=wi6 none (by omega);rw [show z0cq t none=(none,1) by unfold z0cq;rw [ht];rfl];refine CallsD.run [] Go.Proofs.Tryz.func102 rfl rfl rfl ?_;simp only [Go.Proofs.Tryz.f102];refine hgR ?_
   repeat' ((first | refine hfk ?_ ?_<;>intros | refine hik ?_ | with_reducible first | refine v6l (hr) ?_ | refine vgi (hr) ?_ | refine v6l (hv2) ?_ | refine vgi (hv2) ?_)<;>refine hgS ?_)
   exact vmy
  | some q=>
   have hv2:CallsD Γ prog 26 [.agg (qC (some q))] (.one (cB true)):=wi6 (some q) (by omega);have ha:=z19q (Γ:=Γ) t q ht hv;have hle:=wrt q t.rows;by_cases h0:aft q t.rows=0
   . rw [show z0cq t (some q)=(none,4) by unfold z0cq;rw [ht];simp only [Bool.not_true,cond_false,h0,decide_true,cond_true]];rw [h0] at ha;refine CallsD.run [] Go.Proofs.Tryz.func102 rfl rfl rfl ?_;simp only [Go.Proofs.Tryz.f102];refine hgR ?_
     repeat' ((first | refine hfk ?_ ?_<;>intros | refine hik ?_ | with_reducible first | refine v6l (hr) ?_ | refine vgi (hr) ?_ | refine v6l (hv2) ?_ | refine vgi (hv2) ?_ | refine v6l (ha) ?_ | refine vgi (ha) ?_)<;>refine hgS ?_)
     all_goals first
      | exact vmy
      | (exfalso;omega)
   . rw [show z0cq t (some q)=(zfd t (t.rows.getD (aft q t.rows-1) default).v,0) by unfold z0cq;rw [ht];simp only [Bool.not_true,cond_false,decide_eq_false h0]];obtain ⟨_,_,hl,hrows⟩:=yg5 ht;have hn:=z29q (hrows (aft q t.rows-1) (by omega)).2.1;have hw:=xg9 (Γ:=Γ) t (t.rows.getD (aft q t.rows-1) default).v ht h2 (by unfold inI;omega);generalize aft q t.rows=k at *;refine CallsD.run [] Go.Proofs.Tryz.func102 rfl rfl rfl ?_;simp only [Go.Proofs.Tryz.f102];refine hgR ?_
     repeat' ((first | refine hfk ?_ ?_<;>intros | refine hik ?_ | with_reducible first | refine v6l (hr) ?_ | refine vgi (hr) ?_ | refine v6l (hv2) ?_ | refine vgi (hv2) ?_ | refine v6l (ha) ?_ | refine vgi (ha) ?_ | refine v6l (hw) ?_ | refine vgi (hw) ?_)<;>refine hgS ?_)
     all_goals first
      | (exfalso;omega)
      | refine lfE ?_;first | exact trivial | rfl
structure Rs where
 t:Bool
 i:Bool
 v:Option Rat
deriving DecidableEq
def Rs.zero:Rs:=⟨false,false,none⟩
instance:Inhabited Rs:=⟨Rs.zero⟩
def Rs.C (x:Rs):List Cell:=cB x.t::cB x.i::qC x.v
abbrev rsC (x:Rs):List Cell:=[cB x.t,cB x.i,.raw (.int .i64 (qF x.v).s),.ints .i64 (qF x.v).L,.raw (.int .i64 (qF x.v).t),.ints .i64 (qF x.v).M]
theorem Rs.C_eq (x:Rs):x.C=rsC x:=rfl
attribute [go_sem] Rs.C_eq
abbrev rsR (r:Rs×Int):AV:=.tup [.agg (rsC r.1),.one (cI r.2)]
abbrev rsS (r:Rs×Int):SV:=.tup [.agg ((rsC r.1).map .dat),.one (.dat (cI r.2))]
abbrev rsZ (t i:Bool):List Cell:=[cB t,cB i,cI 0,.zc,cI 0,.zc]
theorem rsLe:AV.Le (.agg (rsZ t i)) (.agg (rsC ⟨t,i,none⟩)):=.agg (.cons (.refl _) (.cons (.refl _) (.cons (.refl _) (.cons (.ysc _) (.cons (.refl _) (.cons (.ysc _) .nil))))))
theorem rsEq {e:Int} {r:Rs×Int} (h:r=(⟨t,i,none⟩,e)):RLe (.tup [.agg (rsZ t i),.one (cI e)]) (rsR r):=by
 subst h;exact .tup (.cons rsLe (.cons (.refl _) .nil))
theorem StH.rsZ {e:List SB} {I':List SV} {J:List SB} {t i:Bool} {n:Int} (h:StH Γ e [rsS (⟨t,i,none⟩,n)] J I' e):StH Γ e [SV.tup [.agg ((T.rsZ t i).map .dat),.one (.dat (cI n))]] J I' e:=
 StH.trans (StH.tup1 (l':=[.agg ((rsC ⟨t,i,none⟩).map .dat),.one (.dat (cI n))]) (.cons (.agg (.cons (.refl _) (.cons (.refl _) (.cons (.refl _) (.cons (.dat (.ysc _)) (.cons (.refl _) (.cons (.dat (.ysc _)) .nil))))))) (.cons (.refl _) .nil))) h
def numV (v:Option Rat) (e:Int):Rs×Int:=bif decide (¬e=0) then (Rs.zero,e) else (⟨false,false,v⟩,0)
def truV (b:Bool):Rs×Int:=(⟨true,b,none⟩,0)
def logV (o:Int) (l:List Rs):Rs×Int:=bif l.any (fun r=>!r.t) then (Rs.zero,13) else
 bif decide (o=14) then truV (l.all (·.i)) else bif decide (o=15) then truV (l.any (·.i)) else truV (!l.all (·.i))
def ariV (o:Int) (a b:Rs):Rs×Int:=bif a.t||b.t then (Rs.zero,13) else
 bif decide (o=6) then numV (addO a.v b.v) (erO a.v b.v) else
 bif decide (o=7) then numV (subO a.v b.v) (erO a.v b.v) else
 bif decide (o=8) then numV (mulO a.v b.v) (erO a.v b.v) else
 bif decide (o=9) then numV (divO a.v b.v) (divE a.v b.v) else
 bif decide (o=10) then numV (minO a.v b.v) (erO a.v b.v) else
 bif decide (o=11) then numV (maxO a.v b.v) (erO a.v b.v) else
 bif decide (o=12) then truV (decide (cmpO a.v b.v<0)) else truV (decide (cmpO a.v b.v=0))
theorem x7x (v:Option Rat) (e:Int):CallsD Γ prog 68 [.agg (qC v),.one (cI e)] (rsR (numV v e)):=by
 refine CallsD.run [] Go.Proofs.Tryz.func68 rfl rfl rfl ?_;simp only [Go.Proofs.Tryz.f68];refine hgR ?_
 repeat' ((first | refine hfk ?_ ?_<;>intros | refine hik ?_)<;>refine hgS ?_)
 all_goals first
  | exact rsEq (by (refine bs2 @numV.eq_def @Rs.zero.eq_def ?_;try exact trivial))
  | refine lf1 @numV.eq_def ?_;first | exact trivial | rfl
theorem wl0 (b:Bool):CallsD Γ prog 126 [.one (cB b)] (rsR (truV b)):=by
 refine CallsD.run [] Go.Proofs.Tryz.func126 rfl rfl rfl ?_;simp only [Go.Proofs.Tryz.f126];refine hgR ?_
 repeat' ((first | refine hfk ?_ ?_<;>intros | refine hik ?_)<;>refine hgS ?_)
 all_goals exact rsEq rfl
theorem yd6 (o:Int) (a b:Rs) (ha:qz a.v<=67108864) (hb:qz b.v<=67108864):CallsD Γ prog 73 [.one (cI o),.agg (rsC a),.agg (rsC b)] (rsR (ariV o a b)):=by
 have hcr:=zpb a.v b.v;refine CallsD.run [] Go.Proofs.Tryz.func73 rfl rfl rfl ?_;simp only [Go.Proofs.Tryz.f73];refine hgR ?_
 repeat' ((first | refine hfk ?_ ?_<;>intros | refine hik ?_ | with_reducible first | refine v6l (oAdd _ _ ha hb) ?_ | refine vgi (oAdd _ _ ha hb) ?_ | refine v6l (oSub _ _ ha hb) ?_ | refine vgi (oSub _ _ ha hb) ?_ | refine v6l (oMul _ _ ha hb) ?_ | refine vgi (oMul _ _ ha hb) ?_ | refine v6l (oDiv _ _ ha hb) ?_ | refine vgi (oDiv _ _ ha hb) ?_ | refine v6l (oMin _ _ ha hb) ?_ | refine vgi (oMin _ _ ha hb) ?_ | refine v6l (oMax _ _ ha hb) ?_ | refine vgi (oMax _ _ ha hb) ?_ | refine v6l (oCmp _ _ ha hb) ?_ | refine vgi (oCmp _ _ ha hb) ?_ | refine v6l (x7x _ _) ?_ | refine vgi (x7x _ _) ?_ | refine v6l (wl0 _) ?_ | refine vgi (wl0 _) ?_)<;>refine hgS ?_)
 all_goals first
  | exact rsEq (by (refine bs2 @ariV.eq_def @Rs.zero.eq_def ?_;try exact trivial))
  | refine lf1 @ariV.eq_def ?_;first | exact trivial | rfl
theorem xny:∀ x:Ex,x.Sm->CallsD Γ prog 32 [.agg (exC x)] (.one (cB x.xi4)):=by
 refine Ex.ind (fun x ih hx=>?_);have hl:=hx.len;have hc:CallsD Γ prog 63 [.one (.sl 5 (x.args.map Ex.cells)),fN 32] (.one (cB (x.args.any Ex.xi4))):=ynb x.args _ _ hl (fun y hy=>ih y hy (hx.arg y hy));refine CallsD.run [] Go.Proofs.Tryz.func32 rfl rfl rfl ?_;simp only [Go.Proofs.Tryz.f32];refine hgR ?_
 repeat' ((first | refine hfk ?_ ?_<;>intros | refine hik ?_ | with_reducible first | refine v6l (hc) ?_ | refine vgi (hc) ?_)<;>refine hgS ?_)
 all_goals refine RLe.ofEq ?_
 all_goals rw [Ex.wd9]
 all_goals (refine bsE ?_;try exact trivial)
end Go.Hp.T
