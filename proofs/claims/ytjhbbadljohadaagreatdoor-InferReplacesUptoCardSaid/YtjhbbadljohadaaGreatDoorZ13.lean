/- The proof, part Z13: Lb, Lc, Ba, Bb, Bc, Bd, Be, Bf, Bg, Bh, Bi, Bj, Bk, Bl, Bm, Bn, Ld. -/
import Derived.Test.YtjhbbadljohadaaGreatDoorZ12
namespace Go.Slot
open Go Go.RowKit
theorem num_top2 (l:List Int) (n:Nat) (hn:2≤n) (hl:l.length=n):num l=(l.getD (n-1) 0*1048576+l.getD (n-2) 0)*1048576 ^ (n-2)+num (l.take (n-2)):=by
 obtain ⟨m,rfl⟩:∃ m,n=m+2:=⟨n-2,by omega⟩
 have h1:=num_take_succ l (m+1)
 have h2:=num_take_succ l m
 rw [take_ge (by omega)] at h1
 rw [h1,h2,show m+2-1=m+1 by omega,show m+2-2=m by omega,Int.pow_succ]
 grind
theorem num_top3 (l:List Int) (n:Nat) (hn:2≤n) (hl:l.length=n+1) :
 num l=((l.getD n 0*1048576+l.getD (n-1) 0)*1048576+l.getD (n-2) 0)*1048576 ^ (n-2)+num (l.take (n-2)):=by
 obtain ⟨m,rfl⟩:∃ m,n=m+2:=⟨n-2,by omega⟩
 have h1:=num_take_succ l (m+2)
 have h2:=num_take_succ l (m+1)
 have h3:=num_take_succ l m
 rw [take_ge (by omega)] at h1
 rw [h1,h2,h3,show m+2-1=m+1 by omega,show m+2-2=m by omega,Int.pow_succ,Int.pow_succ]
 grind
section
variable {W V P t u2 v1 v2 w0 v0 g rest:Int}
theorem guess_init (hP:0<P) (hW:W=(t*1048576+u2)*P+w0) (hw:w0<P) (hu:u2≤1048575) (hV:V=(v1*1048576+v2)*P+v0) (hv0:0≤v0) (hv2:0≤v2) (hg:t+1≤(g+1)*v1) (hg0:0≤g):W<(g+1)*V:=by
 have h1:(t+1)*1048576*P≤(g+1)*v1*1048576*P:=Int.mul_le_mul_of_nonneg_right (Int.mul_le_mul_of_nonneg_right hg (by decide)) (Int.le_of_lt hP)
 have h2:0≤(g+1)*(v2*P+v0):=Int.mul_nonneg (by omega) (Int.add_nonneg (Int.mul_nonneg hv2 (Int.le_of_lt hP)) hv0)
 have h3:u2*P≤1048575*P:=Int.mul_le_mul_of_nonneg_right hu (Int.le_of_lt hP)
 have e1:(g+1)*V=(g+1)*v1*1048576*P+(g+1)*(v2*P+v0):=by rw [hV];grind
 have e2:(t*1048576+u2)*P=(t+1)*1048576*P-1048576*P+u2*P:=by grind
 omega
theorem guess_low (hP:0<P) (hW:W=(t*1048576+u2)*P+w0) (hw:w0<P) (hV:V=(v1*1048576+v2)*P+v0) (hv0:0≤v0) (hg0:0≤g) (ht:t=g*v1+rest) (hc:rest*1048576+u2<g*v2):W<g*V:=by
 have h1:(t*1048576+u2+1)*P≤g*(v1*1048576+v2)*P:=by
  apply Int.mul_le_mul_of_nonneg_right _ (Int.le_of_lt hP)
  have:g*(v1*1048576+v2)=g*v1*1048576+g*v2:=by grind
  omega
 have h2:0≤g*v0:=Int.mul_nonneg hg0 hv0
 have e1:g*V=g*(v1*1048576+v2)*P+g*v0:=by rw [hV];grind
 have e2:(t*1048576+u2+1)*P=(t*1048576+u2)*P+P:=by grind
 omega
theorem guess_high (hP:0<P) (hW:W=(t*1048576+u2)*P+w0) (hw:0≤w0) (hu2:0≤u2) (hV:V=(v1*1048576+v2)*P+v0) (hv0:v0<P) (hv1:1≤v1) (hv2:0≤v2∧v2≤1048575) (hV0:0<V) (hW0:0≤W) (hg0:0≤g) (hg1:g≤1048575) (ht:t=g*v1+rest)
 (hc:1048576≤rest∨g*v2≤rest*1048576+u2):(g-1)*V≤W:=by
 by_cases h0:g=0
 · subst h0
   have:(0-1)*V = - V:=by grind
   omega
 have hg:0≤g-1:=by omega
 have hb:(g-1)*(v1*1048576+v2+1)≤t*1048576+u2:=by
  have e:(g-1)*(v1*1048576+v2+1)=g*v1*1048576+g*v2+g-v1*1048576-v2-1:=by grind
  rcases hc with hc | hc
  · have h1:g*v2≤g*1048575:=Int.mul_le_mul_of_nonneg_left hv2.2 hg0
    rw [e,ht]
    have:(g*v1+rest)*1048576=g*v1*1048576+rest*1048576:=by grind
    omega
  · rw [e,ht]
    have:(g*v1+rest)*1048576=g*v1*1048576+rest*1048576:=by grind
    omega
 have h1:(g-1)*(v1*1048576+v2+1)*P≤(t*1048576+u2)*P:=Int.mul_le_mul_of_nonneg_right hb (Int.le_of_lt hP)
 have h2:(g-1)*v0≤(g-1)*P:=Int.mul_le_mul_of_nonneg_left (Int.le_of_lt hv0) hg
 have e1:(g-1)*V=(g-1)*(v1*1048576+v2+1)*P-(g-1)*P+(g-1)*v0:=by rw [hV];grind
 omega
end
theorem num_ge {l:List Int} (hd:digits l) (hn:norm l) (h:l≠[]):1048576 ^ (l.length-1)≤num l:=by
 have hp:0<l.length:=List.length_pos_iff.2 h
 have h1:=num_take_succ l (l.length-1)
 rw [take_ge (by omega)] at h1
 have h2:=num_nonneg (hd.take (l.length-1))
 have h3:=hn h
 have h4:=hd.getD (l.length-1)
 have h5:=Int.mul_le_mul_of_nonneg_left (show (1:Int)≤l.getD (l.length-1) 0 by omega) (Int.le_of_lt (pow_pos' (l.length-1)))
 rw [Int.mul_one] at h5
 omega
theorem num_three (w:List Int) (i k:Nat) (h:i+k≤w.length):num w=num (w.take i)+1048576 ^ i*num ((w.drop i).take k)+1048576 ^ (i+k)*num (w.drop (i+k)):=by
 have h1:=num_split w i
 have h2:=num_split (w.drop i) k
 have e1:(w.take i).length=i:=by simp;omega
 have e2:((w.drop i).take k).length=k:=by simp;omega
 rw [e1] at h1
 rw [e2,List.drop_drop] at h2
 rw [h1,h2,Int.pow_add]
 grind
theorem num_four (w d:List Int) (i k:Nat) (h:i+k≤w.length) (hd:d.length=k):num (w.take i++d++w.drop (i+k))=num (w.take i)+1048576 ^ i*num d+1048576 ^ (i+k)*num (w.drop (i+k)):=by
 have e1:(w.take i).length=i:=by simp;omega
 rw [num_append,num_append,List.length_append,e1,hd]
theorem div_back {a b s q w:Int} (hs:0<s) (hb:0<b) (he:a*s=b*s*q+w) (h0:0≤w) (h1:w<b*s):a / b=q∧a % b=w / s:=by
 have hbs:0<b*s:=Int.mul_pos hb hs
 have hq:a / b=q:=by
  rw [←Int.mul_ediv_mul_of_pos_left a b hs,he,Int.add_comm,Int.add_mul_ediv_left _ _ (by omega),Int.ediv_eq_zero_of_lt h0 h1]
  omega
 refine ⟨hq,?_⟩
 have h2:=Int.emod_add_mul_ediv a b
 rw [hq] at h2
 have h3:w=(a % b)*s:=by
  have:(a % b+b*q)*s=b*s*q+w:=by rw [h2];exact he
  have h4:(a % b+b*q)*s=a % b*s+b*s*q:=by grind
  omega
 rw [h3,Int.mul_ediv_cancel _ (by omega)]
theorem sub_getD {l:List Int} {i n k:Nat} (h:k<n):((l.drop i).take n).getD k 0=l.getD (i+k) 0:=by
 rw [take_getD h,List.getD_eq_getElem?_getD,List.getElem?_drop,List.getD_eq_getElem?_getD]
end Go.Slot

namespace Go.Slot
open Go Go.RowKit
def sg (z:Int):Int:=if z<0 then -1 else if 0<z then 1 else 0
theorem sg_pos {z:Int} (h:0<z):sg z=1:=by unfold sg;rw [if_neg (by omega),if_pos h]
theorem sg_neg {z:Int} (h:z<0):sg z = -1:=by unfold sg;rw [if_pos h]
theorem sg_zero:sg 0=0:=rfl
theorem sg_cases (z:Int):(z<0∧sg z = -1)∨(z=0∧sg z=0)∨(0<z∧sg z=1):=by
 rcases Int.lt_trichotomy z 0 with h | h | h
 · exact .inl ⟨h,sg_neg h⟩
 · exact .inr (.inl ⟨h,by rw [h];rfl⟩)
 · exact .inr (.inr ⟨h,sg_pos h⟩)
def zC (z:Int):List Cell:=[.raw (.int .i64 (sg z)),.ints .i64 (dig z.natAbs)]
def BigRight (s:Int) (L:List Int):Prop:=digits L∧((L=[]∧s=0)∨(L≠[]∧(s=1∨s = -1)∧L.getD (L.length-1) 0≠0))
instance (s:Int) (L:List Int):Decidable (BigRight s L):=inferInstanceAs (Decidable (_∧_))
theorem bigRight_iff (s:Int) (L:List Int):BigRight s L↔∃ z:Int,s=sg z∧L=dig z.natAbs:=by
 constructor
 · rintro ⟨hd,⟨rfl,rfl⟩ | ⟨hne,hs,htop⟩⟩
   · exact ⟨0,rfl,by rw [show (0:Int).natAbs=0 from rfl,dig_zero]⟩
   · have hn:norm L:=fun _=>htop
     have hp:=norm.pos hd hn hne
     rcases hs with rfl | rfl
     · exact ⟨num L,(sg_pos hp).symm,by rw [show (num L).natAbs=(num L).toNat by omega];exact dig_eq hd hn⟩
     · exact ⟨-num L,(sg_neg (by omega)).symm,by rw [show (-num L).natAbs=(num L).toNat by omega];exact dig_eq hd hn⟩
 · rintro ⟨z,rfl,rfl⟩
   refine ⟨dig_digits _,?_⟩
   rcases sg_cases z with ⟨h,e⟩ | ⟨h,e⟩ | ⟨h,e⟩
   · exact .inr ⟨fun h'=>by have:=dig_nil.1 h';omega,.inr e,dig_norm _ (fun h'=>by have:=dig_nil.1 h';omega)⟩
   · exact .inl ⟨by rw [h,show (0:Int).natAbs=0 from rfl,dig_zero],e⟩
   · exact .inr ⟨fun h'=>by have:=dig_nil.1 h';omega,.inl e,dig_norm _ (fun h'=>by have:=dig_nil.1 h';omega)⟩
theorem bigRight_z (z:Int):BigRight (sg z) (dig z.natAbs):=(bigRight_iff _ _).2 ⟨z,rfl,rfl⟩
def fits (k:Nat) (z:Int):Prop:=(dig z.natAbs).length≤k
theorem num_abs (z:Int):num (dig z.natAbs)=z.natAbs:=num_dig _
theorem dig_len_add (a b:Nat):(dig (a+b)).length≤max (dig a).length (dig b).length+1:=by
 apply dig_len
 have h1:=len_dig (n:=a) (k:=max (dig a).length (dig b).length) (Nat.le_max_left _ _)
 have h2:=len_dig (n:=b) (k:=max (dig a).length (dig b).length) (Nat.le_max_right _ _)
 rw [Nat.pow_succ]
 omega
theorem dig_len_mul (a b:Nat):(dig (a*b)).length≤(dig a).length+(dig b).length:=by
 apply dig_len
 rw [Nat.pow_add]
 have h1:=len_dig (n:=a) (Nat.le_refl _)
 have h2:=len_dig (n:=b) (Nat.le_refl _)
 exact Nat.mul_lt_mul_of_lt_of_lt h1 h2
theorem len_mul (x y:Int):(dig (x*y).natAbs).length≤(dig x.natAbs).length+(dig y.natAbs).length:=by
 rw [Int.natAbs_mul];exact dig_len_mul _ _
theorem ediv_of {x y q r:Int} (h:x=y*q+r) (h0:0≤r) (h1:r<y):x / y=q∧x % y=r:=by
 rw [h,Int.add_comm]
 refine ⟨?_,?_⟩
 · rw [Int.add_mul_ediv_left _ _ (by omega),Int.ediv_eq_zero_of_lt h0 h1];omega
 · rw [Int.add_mul_emod_self_left,Int.emod_eq_of_lt h0 h1]
theorem zC_of {s z:Int} (h:(s=1∧0≤z)∨(s = -1∧z≤0)∨z=0):[Cell.raw (.int .i64 (if trimL (dig z.natAbs)=[] then 0 else s)),Cell.ints .i64 (trimL (dig z.natAbs))]=zC z:=by
 rw [trimL_dig]
 unfold zC
 by_cases h0:z=0
 · subst h0;rw [if_pos (by rw [show (0:Int).natAbs=0 from rfl,dig_zero])];rfl
 · rw [if_neg (fun h'=>by have:=dig_nil.1 h';omega)]
   rcases h with ⟨rfl,h⟩ | ⟨rfl,h⟩ | h
   · rw [sg_pos (by omega)]
   · rw [sg_neg (by omega)]
   · exact absurd h h0
end Go.Slot

namespace Go.Slot.T
open Go Go.RowKit Go.Slot
open Go.Proofs.Tryz (prog)
set_option maxRecDepth 10000
set_option maxHeartbeats 2000000
theorem cRight (s:Int) (L:List Int) (hL:L.length<4611686018427387904):CallsTo prog 114 [.agg [.raw (.int .i64 s),.ints .i64 L]] (.one (.raw (.bool (decide (BigRight s L))))):=by
 refine CallsTo.run [] Go.Proofs.Tryz.func114 rfl rfl ?_
 conv=>simp (disch:=omega) only [go_sem,Go.Proofs.Tryz.f114,List.replicate]
 refine loopk (fun i:Nat=>[(5,.any),(12,.one (.raw (.int .i64 i))),(13,.any),(14,.any),(15,.any),(16,.any),(17,.any),(18,.any),(19,.any),(20,.any),(21,.any),(22,.any)])
  (fun i=>i≤L.length∧digits (L.take i)) (fun i=>L.length-i) 0 ⟨by omega,by simp [digits]⟩ ?_ ?_
 · simp only [go_sem]
   exact StLe.weaken (by repeat' first | exact .nil | refine .cons (by first | exact .refl _ | exact .any _) ?_) rfl
 intro i ⟨hi,hd⟩
 conv=>simp (disch:=omega) only [go_sem]
 refine condd (fun h=>?_) (fun h=>?_)
 · have hi':i<L.length:=by omega
   have hget:L.getD i 0=L[i]:=by simp [hi']
   have hmem:L[i]∈L:=List.getElem_mem hi'
   have hbad:¬(0≤L.getD i 0∧L.getD i 0≤1048575)→¬BigRight s L:=fun hn hr=>hn (by rw [hget];exact hr.1 _ hmem)
   conv=>simp (disch:=omega) only [go_sem,ite_t]
   refine guardn (fun h1=>?_) (fun h1=>?_)
   · conv=>simp (disch:=omega) only [go_sem,ite_t,h1]
     refine condd (fun h2=>?_) (fun h2=>?_)
     · conv=>simp (disch:=omega) only [go_sem,ite_t]
       refine ⟨_,rfl,?_⟩
       rw [decide_eq_false (hbad (by omega))]
       exact .one (.refl _)
     · conv=>simp (disch:=omega) only [go_sem,ite_t,w64]
       refine ⟨i+1,⟨by omega,?_⟩,by omega,?_⟩
       · intro x hx
         rw [List.take_add_one,List.mem_append] at hx
         rcases hx with hx | hx
         · exact hd x hx
         · simp [hi'] at hx
           subst hx
           rw [←hget];omega
       · exact StLe.weaken (by repeat' first | exact .nil | refine .cons (by first | exact .refl _ | exact .any _) ?_) rfl
   · conv=>simp (disch:=omega) only [go_sem,ite_t,h1]
     refine ⟨_,rfl,?_⟩
     rw [decide_eq_false (hbad (by omega))]
     exact .one (.refl _)
 · have hi':i=L.length:=by omega
   have hdig:digits L:=by rw [hi',List.take_length] at hd;exact hd
   conv=>simp (disch:=omega) only [go_sem,ite_t]
   refine condd (fun h1=>?_) (fun h1=>?_)
   · have hnil : L = [] := by have : L.length = 0 := by omega
                              simpa using this
     conv=>simp (disch:=omega) only [go_sem,ite_t]
     refine ⟨_,rfl,?_⟩
     have:decide (BigRight s L)=decide (s=0):=by
      apply decide_eq_decide.2
      simp [BigRight,hnil,digits]
     rw [this]
     exact .one (.refl _)
   · have hne:L≠[]:=fun e=>h1 (by rw [e];rfl)
     have hpos:0<L.length:=List.length_pos_iff.2 hne
     conv=>simp (disch:=omega) only [go_sem,ite_t]
     have hlast:(s=1∨s = -1)→decide (BigRight s L)=decide (L.getD (L.length-1) 0≠0):=fun hs=>by
      apply decide_eq_decide.2
      simp only [BigRight]
      constructor
      · rintro ⟨_,⟨h4,_⟩ | ⟨_,_,h4⟩⟩
        · exact absurd h4 hne
        · exact h4
      · exact fun h4=>⟨hdig,.inr ⟨hne,hs,h4⟩⟩
     have e:((L.length:Int)-1).toNat=L.length-1:=by omega
     refine guardn (fun h2=>?_) (fun h2=>?_)
     · conv=>simp (disch:=omega) only [go_sem,ite_t,h2]
       refine guardd (fun h3=>?_) (fun h3=>?_)
       · subst h3
         conv=>simp (disch:=omega) only [go_sem,ite_t,w64,e]
         refine ⟨_,rfl,?_⟩
         rw [hlast (.inr rfl)]
         exact .one (.refl _)
       · conv=>simp (disch:=omega) only [go_sem,ite_t,h3]
         refine ⟨_,rfl,?_⟩
         have:¬BigRight s L:=by
          rintro ⟨_,⟨h4,_⟩ | ⟨_,h4,_⟩⟩
          · exact hne h4
          · omega
         rw [decide_eq_false this]
         exact .one (.refl _)
     · subst h2
       conv=>simp (disch:=omega) only [go_sem,ite_t,w64,e]
       refine ⟨_,rfl,?_⟩
       rw [hlast (.inl rfl)]
       exact .one (.refl _)
end Go.Slot.T

namespace Go.Slot.T
open Go Go.RowKit Go.Slot
open Go.Proofs.Tryz (prog)
set_option maxRecDepth 10000
set_option maxHeartbeats 2000000
theorem cTrim (L:List Int) (hL:L.length<4611686018427387904):CallsTo prog 113 [.one (.ints .i64 L)] (.one (.ints .i64 (L.take (trimN L L.length)))):=by
 refine CallsTo.run [] Go.Proofs.Tryz.func113 rfl rfl ?_
 conv=>simp (disch:=omega) only [go_sem,Go.Proofs.Tryz.f113,List.replicate]
 refine loopk (fun n:Nat=>[(3,.one (.raw (.int .i64 n))),(6,.any),(7,.any),(8,.any),(9,.any),(10,.any),(11,.any),(12,.any),(13,.any),(14,.any),(15,.any),(16,.any),(17,.any)])
  (fun n=>n≤L.length∧trimN L L.length=trimN L n) (fun n=>n) L.length ⟨Nat.le_refl _,rfl⟩ ?_ ?_
 · simp only [go_sem]
   exact StLe.weaken (by repeat' first | exact .nil | refine .cons (by first | exact .refl _ | exact .any _) ?_) rfl
 intro n ⟨hn,ht⟩
 conv=>simp (disch:=omega) only [go_sem]
 have done:trimN L L.length=n→((n:Int)).toNat=trimN L L.length:=fun h=>by omega
 refine guardd (fun h=>?_) (fun h=>?_)
 · obtain ⟨m,rfl⟩:∃ m,n=m+1:=⟨n-1,by omega⟩
   have e:((m+1:Nat):Int)-1=(m:Nat):=by omega
   conv=>simp (disch:=omega) only [go_sem,ite_t,h,w64,e]
   refine condd (fun h2=>?_) (fun h2=>?_)
   · conv=>simp (disch:=omega) only [go_sem,ite_t,h,w64,e]
     refine ⟨m,⟨by omega,by rw [ht];simp only [trimN];rw [if_pos h2]⟩,by omega,?_⟩
     exact StLe.weaken (by repeat' first | exact .nil | refine .cons (by first | exact .refl _ | exact .any _) ?_) rfl
   · have hfin:trimN L L.length=m+1:=by rw [ht];simp only [trimN];rw [if_neg h2]
     conv=>simp (disch:=omega) only [go_sem,ite_t,h,w64,e]
     refine ⟨_,rfl,?_⟩
     rw [hfin]
     exact .one (.refl _)
 · have h0:n=0:=by omega
   subst h0
   conv=>simp (disch:=omega) only [go_sem,ite_t,h,w64]
   refine ⟨_,rfl,?_⟩
   rw [ht]
   exact .one (.refl _)
theorem xTrim (pre:List Value) (q:List Value) (L:List Int) (hL:L.length<4611686018427387904):CallsX prog 113 [.arr pre (.ints .i64 L) (some q)] 0 (.arr pre (.ints .i64 L) (some q)) (.awn 0 1 0 (trimN L L.length)):=by
 refine CallsX.run [] Go.Proofs.Tryz.func113 rfl rfl (fun t h=>h) ?_
 conv=>simp (disch:=omega) only [go_sem,Go.Proofs.Tryz.f113,List.replicate]
 refine loopk (fun n:Nat=>[(3,.one (.raw (.int .i64 n))),(6,.any),(7,.any),(8,.any),(9,.any),(10,.any),(11,.any),(12,.any),(13,.any),(14,.any),(15,.any),(16,.any),(17,.any)])
  (fun n=>n≤L.length∧trimN L L.length=trimN L n) (fun n=>n) L.length ⟨Nat.le_refl _,rfl⟩ ?_ ?_
 · simp only [go_sem]
   exact StLe.weaken (by repeat' first | exact .nil | refine .cons (by first | exact .refl _ | exact .any _) ?_) rfl
 intro n ⟨hn,ht⟩
 conv=>simp (disch:=omega) only [go_sem]
 have done:trimN L L.length=n→((n:Int)).toNat=trimN L L.length:=fun h=>by omega
 refine guardd (fun h=>?_) (fun h=>?_)
 · obtain ⟨m,rfl⟩:∃ m,n=m+1:=⟨n-1,by omega⟩
   have e:((m+1:Nat):Int)-1=(m:Nat):=by omega
   conv=>simp (disch:=omega) only [go_sem,ite_t,h,w64,e]
   refine condd (fun h2=>?_) (fun h2=>?_)
   · conv=>simp (disch:=omega) only [go_sem,ite_t,h,w64,e]
     refine ⟨m,⟨by omega,by rw [ht];simp only [trimN];rw [if_pos h2]⟩,by omega,?_⟩
     exact StLe.weaken (by repeat' first | exact .nil | refine .cons (by first | exact .refl _ | exact .any _) ?_) rfl
   · have hfin:trimN L L.length=m+1:=by rw [ht];simp only [trimN];rw [if_neg h2]
     conv=>simp (disch:=omega) only [go_sem,ite_t,h,w64,e]
     exact ⟨rfl,rfl,rfl,2,rfl,by rw [hfin];rfl⟩
 · have h0:n=0:=by omega
   subst h0
   conv=>simp (disch:=omega) only [go_sem,ite_t,h,w64]
   exact ⟨rfl,rfl,rfl,2,rfl,by rw [ht];rfl⟩
theorem trimX (L:List Int) (n:Nat) (hn:n=L.length) (hL:L.length<4611686018427387904):CallX prog 113 [.any] 0 (.wn (.ints .i64 L) 0 n) (.wn (.ints .i64 L) 0 n) (.awn 0 1 0 (trimN L L.length)):=fun pre q=>by
 have:(Cell.ints .i64 L).sub 0 n=.ints .i64 L:=by simp [Cell.sub,hn]
 rw [this]
 exact xTrim pre q L hL
theorem trim_own {L:List Int} {n:Int} (hd:digits L) (h:num L=n):AV.arr [] (.ints .i64 (L.take (trimN L L.length))) none=.arr [] (.ints .i64 (dig n.toNat)) none:=by
 rw [←trimL_eq' hd h];rfl
end Go.Slot.T

namespace Go.Slot.T
open Go Go.RowKit Go.Slot
open Go.Proofs.Tryz (prog)
set_option maxRecDepth 10000
set_option maxHeartbeats 2000000
def bigC (s:Int) (L:List Int):List Cell:=[.raw (.int .i64 s),.ints .i64 L]
theorem cSigned (s:Int) (L:List Int) (hL:L.length<4611686018427387904) :
 CallsTo prog 89 [.one (.raw (.int .i64 s)),.one (.ints .i64 L)] (.agg (bigC (if trimL L=[] then 0 else s) (trimL L))):=by
 refine CallsTo.run [] Go.Proofs.Tryz.func89 rfl rfl ?_
 conv=>simp (disch:=omega) only [go_sem,Go.Proofs.Tryz.f89,List.replicate]
 refine callk (cTrim L hL) ?_
 rw [show L.take (trimN L L.length)=trimL L from rfl]
 conv=>simp (disch:=omega) only [go_sem]
 refine condd (fun h=>?_) (fun h=>?_)
 · have h0 : trimL L = [] := by have : (trimL L).length = 0 := by omega
                                simpa using this
   conv=>simp (disch:=omega) only [go_sem,ite_t]
   refine ⟨_,rfl,?_⟩
   rw [h0]
   exact .one (.agg (.cons (.refl _) (.cons (.zcInts _) .nil)))
 · have h0:trimL L≠[]:=fun e=>h (by rw [e];rfl)
   conv=>simp (disch:=omega) only [go_sem,ite_t]
   refine ⟨_,rfl,?_⟩
   try rw [if_neg h0]
   exact .one (.refl _)
theorem cChecked (b:Bool) (s:Int) (L:List Int) :
 CallsTo prog 144 [.one (.raw (.bool b)),.agg (bigC s L)] (.tup [.agg (if b then bigC s L else bigC 0 []),.one (.raw (.int .i64 (if b then 0 else 1)))]):=by
 refine CallsTo.run [] Go.Proofs.Tryz.func144 rfl rfl ?_
 conv=>simp (disch:=omega) only [go_sem,Go.Proofs.Tryz.f144,List.replicate,bigC]
 refine condk (fun h=>?_) (fun h=>?_)
 · have h:b=false:=by simpa using h
   subst h
   conv=>simp (disch:=omega) only [go_sem,ite_t]
   refine ⟨_,rfl,?_⟩
   exact .tup (.cons (.agg (.cons (.refl _) (.cons (.zcInts _) .nil))) (.cons (.refl _) .nil))
 · have h:b=true:=by simpa using h
   subst h
   conv=>simp (disch:=omega) only [go_sem,ite_t]
   refine ⟨_,rfl,?_⟩
   exact .tup (.cons (.refl _) (.cons (.refl _) .nil))
end Go.Slot.T

namespace Go.Slot.T
open Go Go.RowKit Go.Slot
open Go.Proofs.Tryz (prog)
set_option maxRecDepth 10000
set_option maxHeartbeats 2000000
theorem cClone0:CallsTo prog 143 [.one (.ints .i64 [])] (.one (.ints .i64 [])):=by
 refine CallsTo.nilInts (fun b=>?_)
 refine CallsTo.run [] Go.Proofs.Tryz.func143 rfl rfl ?_
 conv=>simp (disch:=omega) only [go_sem,Go.Proofs.Tryz.f143,List.replicate]
 refine condk (fun h=>?_) (fun h=>?_)
 · conv=>simp (disch:=omega) only [go_sem,ite_t]
   exact ⟨_,rfl,.one (.one (.nilInts _))⟩
 · conv=>simp (disch:=omega) only [go_sem,ite_t]
   exact ⟨_,rfl,.one (.refl _)⟩
theorem cClone1 (L:List Int) (h0:0<L.length) (hL:L.length≤17592186044416):CallsTo prog 143 [.one (.ints .i64 L)] (.arr [] (.ints .i64 L) none):=by
 refine CallsTo.run [] Go.Proofs.Tryz.func143 rfl rfl ?_
 conv=>simp (disch:=omega) only [go_sem,Go.Proofs.Tryz.f143,List.replicate,ite_t]
 exact ⟨_,rfl,.one (.refl _)⟩
theorem cClone (L:List Int) (hL:L.length≤17592186044416):CallsTo prog 143 [.one (.ints .i64 L)] (.one (.ints .i64 L)):=by
 by_cases h:L=[]
 · subst h;exact cClone0
 · exact (cClone1 L (List.length_pos_iff.2 h) hL).le .own
end Go.Slot.T

namespace Go.Slot.T
open Go Go.RowKit Go.Slot
open Go.Proofs.Tryz (prog)
set_option maxRecDepth 10000
set_option maxHeartbeats 2000000
theorem cAdd' (a b:List Int) (ha:digits a) (hb:digits b) (la:a.length≤1099511627776) (lb:b.length≤1099511627776) :
 CallsTo prog 146 [.one (.ints .i64 a),.one (.ints .i64 b)] (.one (.ints .i64 (dig (num a+num b).toNat))):=by
 refine CallsTo.run [(3,[.join])] Go.Proofs.Tryz.func146 rfl rfl ?_;conv=>simp (maxSteps:=2000000) (disch:=omega) only [go_sem,Nat.reduceAdd,Nat.reduceSub,Nat.reduceMul,Int.reduceToNat,Nat.reduceEqDiff,Nat.reduceBEq,Nat.reduceBneDiff,Go.Proofs.Tryz.f146,List.replicate]
 refine joino [0,1] (fun p:List Int×List Int=>[(0,.one (.ints .i64 p.1)),(1,.one (.ints .i64 p.2))])
  (fun p=>p.2.length≤p.1.length∧digits p.1∧digits p.2∧num p.1+num p.2=num a+num b∧p.1.length≤1099511627776) ?_ ?_
 · refine rg ?_
   refine condd (fun h=>?_) (fun h=>?_)
   · refine rg ?_
     exact ⟨(b,a),⟨by dsimp only;omega,hb,ha,Int.add_comm _ _,lb⟩,StLe.weaken (by repeat' first | exact .nil | refine .cons (by first | exact .refl _ | exact .any _) ?_) rfl⟩
   · refine rg ?_
     exact ⟨(a,b),⟨by dsimp only;omega,ha,hb,rfl,la⟩,StLe.weaken (by repeat' first | exact .nil | refine .cons (by first | exact .refl _ | exact .any _) ?_) rfl⟩
 rintro ⟨p,q⟩ ⟨hle,hp,hq,hs,hl⟩
 simp only at hle hp hq hs hl
 refine rg ?_
 refine loopo [0,1,5,20,21] (fun x:Nat×List Int×Int=>[(6,.one (.raw (.int .i64 x.2.2))),(19,.arr [] (.ints .i64 x.2.1) none),(22,.one (.raw (.int .i64 x.1)))])
  (fun x=>x.1≤p.length∧x.2.1.length=p.length+1∧digits x.2.1∧zeroFrom x.2.1 x.1∧(0≤x.2.2∧x.2.2≤1)∧num x.2.1+1048576 ^ x.1*x.2.2=num (p.take x.1)+num (q.take x.1))
  (fun x=>p.length-x.1) (0,List.replicate ((p.length:Int)+1).toNat 0,0)
  ⟨Nat.zero_le _,by simp,digits.rep _,zeroFrom.rep _,by simp,by simp [num_rep,num]⟩ ?_ ?_
 · refine rg ?_
   exact StLe.weaken (by repeat' first | exact .nil | refine .cons (by first | exact .refl _ | exact .any _) ?_) rfl
 rintro ⟨i,o,c⟩ ⟨hi,ho,hdo,hz,hc,hn⟩
 simp only at hi ho hdo hz hc hn
 refine rg ?_
 refine condd (fun h=>?_) (fun h=>?_)
 · have hpi:=hp.getD i
   have hqi:=hq.getD i
   refine rg ?_
   have hz0:=hz i (Nat.le_refl _)
   have key:∀ s:Int,s=c+p.getD i 0+q.getD i 0→num (o.set i (s % 1048576))+1048576 ^ (i+1)*(s / 1048576)=num (p.take (i+1))+num (q.take (i+1)):=fun s hs=>by
    rw [carry_set (by omega) s,num_take_succ,num_take_succ,hz0,hs]
    grind
   refine condd (fun h1=>?_) (fun h1=>?_)
   · conv=>simp (maxSteps:=2000000) (disch:=omega) only [go_sem,Nat.reduceAdd,Nat.reduceSub,Nat.reduceMul,Int.reduceToNat,Nat.reduceEqDiff,Nat.reduceBEq,Nat.reduceBneDiff,and20,shr20]
     exact ⟨(i+1,o.set i ((c+p.getD i 0+q.getD i 0) % 1048576),(c+p.getD i 0+q.getD i 0) / 1048576),
      ⟨by dsimp only;omega,by simpa using ho,hdo.set i (by omega),hz.set _,by dsimp only;omega,key _ rfl⟩,by dsimp only;omega,StLe.weaken (by repeat' first | exact .nil | refine .cons (by first | exact .refl _ | exact .any _) ?_) rfl⟩
   · conv=>simp (maxSteps:=2000000) (disch:=omega) only [go_sem,Nat.reduceAdd,Nat.reduceSub,Nat.reduceMul,Int.reduceToNat,Nat.reduceEqDiff,Nat.reduceBEq,Nat.reduceBneDiff,and20,shr20]
     have hq0:=getD_ge (l:=q) (i:=i) (by omega)
     exact ⟨(i+1,o.set i ((c+p.getD i 0) % 1048576),(c+p.getD i 0) / 1048576),
      ⟨by dsimp only;omega,by simpa using ho,hdo.set i (by omega),hz.set _,by dsimp only;omega,key _ (by omega)⟩,by dsimp only;omega,StLe.weaken (by repeat' first | exact .nil | refine .cons (by first | exact .refl _ | exact .any _) ?_) rfl⟩
 · refine rg ?_
   have hip:i=p.length:=by omega
   subst hip
   have hlen:(o.set p.length c).length<4611686018427387904:=by simp;omega
   have hnum:num (o.set p.length c)=num a+num b:=by
    rw [num_set _ _ _ (by omega),hz _ (Nat.le_refl _),←hs]
    rw [take_ge (Nat.le_refl _),take_ge hle] at hn
    rw [←hn];grind
   have hdig:digits (o.set p.length c):=hdo.set _ (by omega)
   rw [show o.length=(o.set p.length c).length by simp]
   generalize o.set p.length c=r at *
   have htr:=trimN_le r r.length
   refine ownk (trimX r _ rfl hlen) ?_
   refine rg ?_
   exact ⟨_,rfl,by rw [trim_own hdig hnum];exact .own⟩
end Go.Slot.T

namespace Go.Slot.T
open Go Go.RowKit Go.Slot
open Go.Proofs.Tryz (prog)
set_option maxRecDepth 10000
set_option maxHeartbeats 2000000
theorem cSub' (a b:List Int) (ha:digits a) (hb:digits b) (la:a.length≤1099511627776) (hlen:b.length≤a.length) (hle:num b≤num a) :
 CallsTo prog 147 [.one (.ints .i64 a),.one (.ints .i64 b)] (.one (.ints .i64 (dig (num a-num b).toNat))):=by
 by_cases hnil:a=[]
 · subst hnil
   have hb0:b=[]:=List.eq_nil_of_length_eq_zero (by simpa using hlen)
   subst hb0
   refine CallsTo.run [] Go.Proofs.Tryz.func147 rfl rfl ?_;conv=>simp (maxSteps:=2000000) (disch:=omega) only [go_sem,Nat.reduceAdd,Nat.reduceSub,Nat.reduceMul,Int.reduceToNat,Nat.reduceEqDiff,Nat.reduceBEq,Nat.reduceBneDiff,Go.Proofs.Tryz.f147,List.replicate]
   refine callk cClone0 ?_
   refine rg ?_
   refine loopk (fun _:Unit=>[(14,.any)]) (fun _=>True) (fun _=>0) () trivial ?_ ?_
   · refine rg ?_
     exact StLe.weaken (by repeat' first | exact .nil | refine .cons (by first | exact .refl _ | exact .any _) ?_) rfl
   rintro ⟨⟩ _
   refine rg ?_
   refine condd (fun h=>?_) (fun h=>?_)
   · exact absurd h (by simp)
   · refine rg ?_
     refine callk (cTrim [] (by decide)) ?_
     refine rg ?_
     refine ⟨_,rfl,?_⟩
     rw [show num []-num []=0 from rfl,show (0:Int).toNat=0 from rfl,dig_zero]
     exact .one (.refl _)
 have hpos:0<a.length:=List.length_pos_iff.2 hnil
 refine CallsTo.run [] Go.Proofs.Tryz.func147 rfl rfl ?_;conv=>simp (maxSteps:=2000000) (disch:=omega) only [go_sem,Nat.reduceAdd,Nat.reduceSub,Nat.reduceMul,Int.reduceToNat,Nat.reduceEqDiff,Nat.reduceBEq,Nat.reduceBneDiff,Go.Proofs.Tryz.f147,List.replicate]
 refine callk (cClone1 a hpos (by omega)) ?_
 refine rg ?_
 refine loopo [0,1,5,11,12] (fun x:Nat×List Int×Int=>[(6,.one (.raw (.int .i64 x.2.2))),(10,.arr [] (.ints .i64 x.2.1) none),(13,.one (.raw (.int .i64 x.1)))])
  (fun x=>x.1≤a.length∧x.2.1.length=a.length∧digits x.2.1∧(0≤x.2.2∧x.2.2≤1)∧num x.2.1-1048576 ^ x.1*x.2.2=num a-num (b.take x.1))
  (fun x=>a.length-x.1) (0,a,0)
  ⟨Nat.zero_le _,rfl,ha,by simp,by simp [num]⟩ ?_ ?_
 · refine rg ?_
   exact StLe.weaken (by repeat' first | exact .nil | refine .cons (by first | exact .refl _ | exact .any _) ?_) rfl
 rintro ⟨i,o,c⟩ ⟨hi,ho,hdo,hc,hn⟩
 simp only at hi ho hdo hc hn
 refine rg ?_
 refine condd (fun h=>?_) (fun h=>?_)
 · have hoi:=hdo.getD i
   have hbi:=hb.getD i
   refine rg ?_
   have key:∀ s:Int,s=o.getD i 0-c-b.getD i 0→num (o.set i (s % 1048576))-1048576 ^ (i+1)*(s / 1048576 % 2)=num a-num (b.take (i+1)):=fun s hs=>by
    have h1:=carry_set (o:=o) (i:=i) (by omega) s
    have h2:s / 1048576 % 2 = - (s / 1048576):=by omega
    rw [num_take_succ,h2]
    rw [hs] at h1 ⊢
    grind
   refine condd (fun h1=>?_) (fun h1=>?_)
   · conv=>simp (maxSteps:=2000000) (disch:=omega) only [go_sem,Nat.reduceAdd,Nat.reduceSub,Nat.reduceMul,Int.reduceToNat,Nat.reduceEqDiff,Nat.reduceBEq,Nat.reduceBneDiff,and20,and1,shr20]
     exact ⟨(i+1,o.set i ((o.getD i 0-c-b.getD i 0) % 1048576),(o.getD i 0-c-b.getD i 0) / 1048576 % 2),
      ⟨by dsimp only;omega,by simpa using ho,hdo.set i (by omega),by dsimp only;omega,key _ rfl⟩,by dsimp only;omega,StLe.weaken (by repeat' first | exact .nil | refine .cons (by first | exact .refl _ | exact .any _) ?_) rfl⟩
   · conv=>simp (maxSteps:=2000000) (disch:=omega) only [go_sem,Nat.reduceAdd,Nat.reduceSub,Nat.reduceMul,Int.reduceToNat,Nat.reduceEqDiff,Nat.reduceBEq,Nat.reduceBneDiff,and20,and1,shr20]
     have hb0:=getD_ge (l:=b) (i:=i) (by omega)
     exact ⟨(i+1,o.set i ((o.getD i 0-c) % 1048576),(o.getD i 0-c) / 1048576 % 2),
      ⟨by dsimp only;omega,by simpa using ho,hdo.set i (by omega),by dsimp only;omega,key _ (by omega)⟩,by dsimp only;omega,StLe.weaken (by repeat' first | exact .nil | refine .cons (by first | exact .refl _ | exact .any _) ?_) rfl⟩
 · refine rg ?_
   have hip:i=a.length:=by omega
   subst hip
   rw [take_ge hlen] at hn
   have h1:=num_lt hdo
   have h2:=num_nonneg hdo
   rw [ho] at h1
   have hc0:c=0:=by
    rcases Int.le_iff_eq_or_lt.1 hc.2 with h3 | h3
    · rw [h3] at hn;omega
    · omega
   subst hc0
   have hnum:num o=num a-num b:=by rw [←hn];simp
   have htr:=trimN_le o o.length
   refine ownk (trimX o _ rfl (by omega)) ?_
   refine rg ?_
   exact ⟨_,rfl,by rw [trim_own hdo hnum];exact .own⟩
end Go.Slot.T

namespace Go.Slot.T
open Go Go.RowKit Go.Slot
open Go.Proofs.Tryz (prog)
set_option maxRecDepth 10000
set_option maxHeartbeats 2000000
theorem cMul' (a b:List Int) (ha:digits a) (hb:digits b) (la:a.length≤1099511627776) (lb:b.length≤1099511627776) :
 CallsTo prog 149 [.one (.ints .i64 a),.one (.ints .i64 b)] (.arr [] (.ints .i64 (dig (num a*num b).toNat)) none):=by
 refine CallsTo.run [] Go.Proofs.Tryz.func149 rfl rfl ?_;conv=>simp (maxSteps:=2000000) (disch:=omega) only [go_sem,Nat.reduceAdd,Nat.reduceSub,Nat.reduceMul,Int.reduceToNat,Nat.reduceEqDiff,Nat.reduceBEq,Nat.reduceBneDiff,Go.Proofs.Tryz.f149,List.replicate]
 refine loopo [0,1,5,18,19] (fun x:Nat×List Int=>[(17,.arr [] (.ints .i64 x.2) none),(20,.one (.raw (.int .i64 x.1)))])
  (fun x=>x.1≤a.length∧x.2.length=a.length+b.length∧digits x.2∧zeroFrom x.2 (x.1+b.length)∧num x.2=num (a.take x.1)*num b)
  (fun x=>a.length-x.1) (0,List.replicate ((a.length:Int)+b.length).toNat 0)
  ⟨Nat.zero_le _,by simp;omega,digits.rep _,(zeroFrom.rep _).mono (Nat.zero_le _),by simp [num,num_rep]⟩ ?_ ?_
 · refine rg ?_
   exact StLe.weaken (by repeat' first | exact .nil | refine .cons (by first | exact .refl _ | exact .any _) ?_) rfl
 rintro ⟨i,o⟩ ⟨hi,ho,hdo,hz,hn⟩
 simp only at hi ho hdo hz hn
 refine rg ?_
 refine condd (fun h=>?_) (fun h=>?_)
 · refine rg ?_
   have hai:=ha.getD i
   refine loopo [0,1,5,6,7,18,19,20,25,26] (fun x:Nat×List Int×Int=>[(8,.one (.raw (.int .i64 x.2.2))),(17,.arr [] (.ints .i64 x.2.1) none),(27,.one (.raw (.int .i64 x.1)))])
    (fun x=>x.1≤b.length∧x.2.1.length=a.length+b.length∧digits x.2.1∧zeroFrom x.2.1 (i+b.length)∧(0≤x.2.2∧x.2.2≤1048575)∧
      num x.2.1+1048576 ^ (i+x.1)*x.2.2=num (a.take i)*num b+1048576 ^ i*(a.getD i 0*num (b.take x.1)))
    (fun x=>b.length-x.1) (0,o,0)
    ⟨Nat.zero_le _,ho,hdo,hz,by simp,by simp [num,hn]⟩ ?_ ?_
   · refine rg ?_
     exact StLe.weaken (by repeat' first | exact .nil | refine .cons (by first | exact .refl _ | exact .any _) ?_) rfl
   rintro ⟨k,o',c⟩ ⟨hk,ho',hdo',hz',hc,hn'⟩
   simp only at hk ho' hdo' hz' hc hn'
   refine rg ?_
   refine condd (fun h1=>?_) (fun h1=>?_)
   · have hbk:=hb.getD k
     have hok:=hdo'.getD (i+k)
     have hprod:0≤a.getD i 0*b.getD k 0∧a.getD i 0*b.getD k 0≤1048575*1048575:=⟨Int.mul_nonneg hai.1 hbk.1,Int.mul_le_mul hai.2 hbk.2 hbk.1 (by decide)⟩
     have eik:((i:Int)+k).toNat=i+k:=by omega
     conv=>simp (maxSteps:=2000000) (disch:=omega) only [go_sem,Nat.reduceAdd,Nat.reduceSub,Nat.reduceMul,Int.reduceToNat,Nat.reduceEqDiff,Nat.reduceBEq,Nat.reduceBneDiff,and20,shr20,eik]
     generalize hs:o'.getD (i+k) 0+a.getD i 0*b.getD k 0+c=s at *
     have h2:=carry_set (o:=o') (i:=i+k) (by omega) s
     refine ⟨(k+1,o'.set (i+k) (s % 1048576),s / 1048576),
      ⟨by dsimp only;omega,by simpa using ho',hdo'.set _ (by omega),hz'.set_lt _ (by omega),by dsimp only;omega,?_⟩,by dsimp only;omega,?_⟩
     · dsimp only
       rw [num_take_succ,show i+(k+1)=i+k+1 by omega,h2,←hs,Int.pow_add]
       rw [Int.pow_add] at hn'
       grind
     · exact StLe.weaken (by repeat' first | exact .nil | refine .cons (by first | exact .refl _ | exact .any _) ?_) rfl
   · have hkb:k=b.length:=by omega
     subst hkb
     have eib:((i:Int)+b.length).toNat=i+b.length:=by omega
     have hz0:=hz' (i+b.length) (Nat.le_refl _)
     conv=>simp (maxSteps:=2000000) (disch:=omega) only [go_sem,Nat.reduceAdd,Nat.reduceSub,Nat.reduceMul,Int.reduceToNat,Nat.reduceEqDiff,Nat.reduceBEq,Nat.reduceBneDiff,eib,hz0,Int.zero_add]
     refine ⟨(i+1,o'.set (i+b.length) c),⟨by dsimp only;omega,by simpa using ho',hdo'.set _ (by omega),?_,?_⟩,by dsimp only;omega,?_⟩
     · exact (hz'.set c).mono (by dsimp only;omega)
     · dsimp only
       rw [num_set _ _ _ (by omega),hz0,num_take_succ]
       rw [List.take_length] at hn'
       grind
     · exact StLe.weaken (by repeat' first | exact .nil | refine .cons (by first | exact .refl _ | exact .any _) ?_) rfl
 · have hia:i=a.length:=by omega
   subst hia
   rw [List.take_length] at hn
   refine rg ?_
   have htr:=trimN_le o o.length
   refine ownk (trimX o _ rfl (by omega)) ?_
   refine rg ?_
   exact ⟨_,rfl,by rw [trim_own hdo hn];exact .one (.refl _)⟩
end Go.Slot.T

namespace Go.Slot.T
open Go Go.RowKit Go.Slot
open Go.Proofs.Tryz (prog)
set_option maxRecDepth 10000
set_option maxHeartbeats 2000000
theorem trim_data {L:List Int} {n:Int} (hd:digits L) (h:num L=n):Cell.ints .i64 (L.take (trimN L L.length))=.ints .i64 (dig n.toNat):=by
 rw [←trimL_eq' hd h];rfl
theorem cShort (a:List Int) (d:Int) (ha:digits a) (la:a.length≤1099511627776) (hd:1≤d∧d≤1048576) :
 CallsTo prog 170 [.one (.ints .i64 a),.one (.raw (.int .i64 d))] (.tup [.one (.ints .i64 (dig (num a / d).toNat)),.one (.raw (.int .i64 (num a % d)))]):=by
 refine CallsTo.run [] Go.Proofs.Tryz.func170 rfl rfl ?_;conv=>simp (maxSteps:=2000000) (disch:=omega) only [go_sem,Nat.reduceAdd,Nat.reduceSub,Nat.reduceMul,Int.reduceToNat,Nat.reduceEqDiff,Nat.reduceBEq,Nat.reduceBneDiff,Go.Proofs.Tryz.f170,List.replicate]
 refine loopo [0,1,6] (fun x:Nat×List Int×Int=>[(7,.one (.raw (.int .i64 x.2.2))),(8,.one (.raw (.int .i64 ((x.1:Int)-1)))),(11,.arr [] (.ints .i64 x.2.1) none)])
  (fun x=>x.1≤a.length∧x.2.1.length=a.length∧digits x.2.1∧(0≤x.2.2∧x.2.2<d)∧num (a.drop x.1)=d*num (x.2.1.drop x.1)+x.2.2)
  (fun x=>x.1) (a.length,List.replicate (a.length:Int).toNat 0,0)
  ⟨Nat.le_refl _,by simp,digits.rep _,by simp;omega,by simp [num]⟩ ?_ ?_
 · refine rg ?_
   exact StLe.weaken (by repeat' first | exact .nil | refine .cons (by first | exact .refl _ | exact .any _) ?_) rfl
 rintro ⟨n,o,r⟩ ⟨hn,ho,hdo,hr,he⟩
 simp only at hn ho hdo hr he
 refine rg ?_
 refine condd (fun h=>?_) (fun h=>?_)
 · obtain ⟨i,rfl⟩:∃ i,n=i+1:=⟨n-1,by omega⟩
   have ei:((i+1:Nat):Int)-1=(i:Nat):=by omega
   have hai:=ha.getD i
   conv=>simp (maxSteps:=2000000) (disch:=omega) only [go_sem,Nat.reduceAdd,Nat.reduceSub,Nat.reduceMul,Int.reduceToNat,Nat.reduceEqDiff,Nat.reduceBEq,Nat.reduceBneDiff,ei,shl20,or20]
   generalize ht:r*1048576+a.getD i 0=t at *
   have ht0:0≤t:=by omega
   have htd:t<d*1048576:=by
    have:r*1048576≤(d-1)*1048576:=Int.mul_le_mul_of_nonneg_right (by omega) (by decide)
    omega
   have hq:t.tdiv d=t / d:=Int.tdiv_eq_ediv_of_nonneg ht0
   have hm:t.tmod d=t % d:=Int.tmod_eq_emod_of_nonneg ht0
   have hq0:0≤t / d:=Int.ediv_nonneg ht0 (by omega)
   have hq1:t / d<1048576:=Int.ediv_lt_of_lt_mul (by omega) (by rw [Int.mul_comm];exact htd)
   have hm0:0≤t % d:=Int.emod_nonneg _ (by omega)
   have hm1:t % d<d:=Int.emod_lt_of_pos _ (by omega)
   have hdm:=Int.emod_add_mul_ediv t d
   rw [hq,hm]
   refine rg ?_
   refine ⟨(i,o.set i (t / d),t % d),⟨by dsimp only;omega,by simpa using ho,hdo.set _ (by omega),by dsimp only;omega,?_⟩,by dsimp only;omega,?_⟩
   · dsimp only
     rw [drop_set_self _ (by omega),num_drop,he]
     simp only [num]
     grind
   · exact StLe.weaken (by repeat' first | exact .nil | refine .cons (by first | exact .refl _ | exact .any _) ?_) rfl
 · have h0:n=0:=by omega
   subst h0
   simp only [List.drop_zero] at he
   refine rg ?_
   have htr:=trimN_le o o.length
   refine ownk (trimX o _ rfl (by omega)) ?_
   refine rg ?_
   have hq:num a / d=num o:=by
    rw [he,Int.add_comm,Int.add_mul_ediv_left _ _ (by omega),Int.ediv_eq_zero_of_lt hr.1 hr.2];omega
   have hm:num a % d=r:=by
    rw [he,Int.add_comm,Int.add_mul_emod_self_left,Int.emod_eq_of_lt hr.1 hr.2]
   exact ⟨_,rfl,by rw [trim_data hdo rfl,hq,hm];exact .tup (.cons (.refl _) (.cons (.refl _) .nil))⟩
theorem cNaN (x:Int):CallsTo prog 182 [.one (.raw (.int .i64 x))] (.one (.raw (.bool false))):=by
 refine CallsTo.run [] Go.Proofs.Tryz.func182 rfl rfl ?_;conv=>simp (maxSteps:=2000000) (disch:=omega) only [go_sem,Nat.reduceAdd,Nat.reduceSub,Nat.reduceMul,Int.reduceToNat,Nat.reduceEqDiff,Nat.reduceBEq,Nat.reduceBneDiff,Go.Proofs.Tryz.f182,List.replicate]
 exact ⟨_,rfl,.one (.refl _)⟩
theorem cCmp (x y:Int):CallsTo prog 181 [.one (.raw (.int .i64 x)),.one (.raw (.int .i64 y))] (.one (.raw (.int .i64 (ord x y)))):=by
 refine CallsTo.run [] Go.Proofs.Tryz.func181 rfl rfl ?_;conv=>simp (maxSteps:=2000000) (disch:=omega) only [go_sem,Nat.reduceAdd,Nat.reduceSub,Nat.reduceMul,Int.reduceToNat,Nat.reduceEqDiff,Nat.reduceBEq,Nat.reduceBneDiff,Go.Proofs.Tryz.f181,List.replicate]
 refine callk (cNaN x) ?_
 refine rg ?_
 refine callk (cNaN y) ?_
 refine rg ?_
 unfold ord
 refine condd (fun h=>?_) (fun h=>?_)
 · refine rg ?_
   exact ⟨_,rfl,.one (.refl _)⟩
 · refine rg ?_
   refine condd (fun h1=>?_) (fun h1=>?_)
   · refine rg ?_
     exact ⟨_,rfl,.one (.refl _)⟩
   · refine rg ?_
     exact ⟨_,rfl,.one (.refl _)⟩
theorem cCompare (a b:List Int) (ha:digits a) (na:norm a) (hb:digits b) (nb:norm b) (la:a.length≤1099511627776) (_lb:b.length≤1099511627776) :
 CallsTo prog 169 [.one (.ints .i64 a),.one (.ints .i64 b)] (.one (.raw (.int .i64 (ord (num a) (num b))))):=by
 refine CallsTo.run [] Go.Proofs.Tryz.func169 rfl rfl ?_;conv=>simp (maxSteps:=2000000) (disch:=omega) only [go_sem,Nat.reduceAdd,Nat.reduceSub,Nat.reduceMul,Int.reduceToNat,Nat.reduceEqDiff,Nat.reduceBEq,Nat.reduceBneDiff,Go.Proofs.Tryz.f169,List.replicate]
 refine condd (fun h=>?_) (fun h=>?_)
 · refine rg ?_
   refine callk (cCmp _ _) ?_
   refine rg ?_
   refine ⟨_,rfl,?_⟩
   have:ord (a.length:Int) b.length=ord (num a) (num b):=by
    unfold ord
    rcases Nat.lt_or_gt_of_ne (fun e:a.length=b.length=>h (by omega)) with h1 | h1
    · have:=ord_len ha na hb nb h1
      rw [if_pos (by omega),if_pos this]
    · have:=ord_len hb nb ha na h1
      rw [if_neg (by omega),if_pos (by omega),if_neg (by omega),if_pos this]
   rw [this]
   exact .one (.refl _)
 · have hl:a.length=b.length:=by omega
   refine rg ?_
   refine loopo [0,1] (fun n:Nat=>[(5,.one (.raw (.int .i64 ((n:Int)-1))))])
    (fun n=>n≤a.length∧a.drop n=b.drop n) (fun n=>n) a.length
    ⟨Nat.le_refl _,by rw [List.drop_length,hl,List.drop_length]⟩ ?_ ?_
   · refine rg ?_
     exact StLe.weaken (by repeat' first | exact .nil | refine .cons (by first | exact .refl _ | exact .any _) ?_) rfl
   rintro n ⟨hn,he⟩
   refine rg ?_
   refine condd (fun h1=>?_) (fun h1=>?_)
   · obtain ⟨i,rfl⟩:∃ i,n=i+1:=⟨n-1,by omega⟩
     have ei:((i+1:Nat):Int)-1=(i:Nat):=by omega
     conv=>simp (maxSteps:=2000000) (disch:=omega) only [go_sem,Nat.reduceAdd,Nat.reduceSub,Nat.reduceMul,Int.reduceToNat,Nat.reduceEqDiff,Nat.reduceBEq,Nat.reduceBneDiff,ei]
     refine indk (by kernel_rfl) ?_
     conv=>simp (maxSteps:=2000000) (disch:=omega) only [go_sem,Nat.reduceAdd,Nat.reduceSub,Nat.reduceMul,Int.reduceToNat,Nat.reduceEqDiff,Nat.reduceBEq,Nat.reduceBneDiff,ei]
     refine condd (fun h2=>?_) (fun h2=>?_)
     · conv=>simp (maxSteps:=2000000) (disch:=omega) only [go_sem,Nat.reduceAdd,Nat.reduceSub,Nat.reduceMul,Int.reduceToNat,Nat.reduceEqDiff,Nat.reduceBEq,Nat.reduceBneDiff,ei]
       refine callk (cCmp _ _) ?_
       conv=>simp (maxSteps:=2000000) (disch:=omega) only [go_sem,Nat.reduceAdd,Nat.reduceSub,Nat.reduceMul,Int.reduceToNat,Nat.reduceEqDiff,Nat.reduceBEq,Nat.reduceBneDiff,ei]
       refine indk (by kernel_rfl) ?_
       conv=>simp (maxSteps:=2000000) (disch:=omega) only [go_sem,Nat.reduceAdd,Nat.reduceSub,Nat.reduceMul,Int.reduceToNat,Nat.reduceEqDiff,Nat.reduceBEq,Nat.reduceBneDiff,ei]
       refine ⟨_,rfl,?_⟩
       have:ord (a.getD i 0) (b.getD i 0)=ord (num a) (num b):=by
        unfold ord
        rcases Int.lt_or_gt_of_ne h2 with h3 | h3
        · have:=num_top ha hb hl i (by omega) he h3
          rw [if_pos h3,if_pos this]
        · have:=num_top hb ha hl.symm i (by omega) he.symm h3
          rw [if_neg (by omega),if_pos (by omega),if_neg (by omega),if_pos this]
       rw [this]
       exact .one (.refl _)
     · have h2:a.getD i 0=b.getD i 0:=by omega
       conv=>simp (maxSteps:=2000000) (disch:=omega) only [go_sem,Nat.reduceAdd,Nat.reduceSub,Nat.reduceMul,Int.reduceToNat,Nat.reduceEqDiff,Nat.reduceBEq,Nat.reduceBneDiff,ei]
       refine ⟨i,⟨by omega,?_⟩,by omega,StLe.weaken (by repeat' first | exact .nil | refine .cons (by first | exact .refl _ | exact .any _) ?_) rfl⟩
       have e1:∀(l:List Int),i<l.length→l.drop i=l.getD i 0::l.drop (i+1):=fun l hi=>by
        rw [List.drop_eq_getElem_cons hi]
        congr 1
        simp [hi]
       rw [e1 a (by omega),e1 b (by omega),he,h2]
   · have h0:n=0:=by omega
     subst h0
     have he:a=b:=by simpa using he
     refine rg ?_
     refine ⟨_,rfl,?_⟩
     have:ord (num a) (num b)=0:=by rw [he];simp [ord]
     rw [this]
     exact .one (.refl _)
end Go.Slot.T

namespace Go.Slot.T
open Go Go.RowKit Go.Slot
open Go.Proofs.Tryz (prog)
set_option maxRecDepth 10000
set_option maxHeartbeats 4000000
def settled (u v g:Int):Int:=if u<g*v then g-1 else g
theorem xSettle (pre q:List Value) (u v:List Int) (g:Int) (hu:digits u) (hv:digits v) (lu:u.length≤1099511627776) (hl:v.length≤u.length) (hg:0≤g∧g≤1048575)
 (h1:(g-1)*num v≤num u) :
 CallsX prog 171 [.arr pre (.ints .i64 u) (some q),.one (.ints .i64 v),.one (.raw (.int .i64 g))] 0
  (.arr pre (.ints .i64 (fixd u.length (num u-settled (num u) (num v) g*num v))) (some q)) (.one (.raw (.int .i64 (settled (num u) (num v) g)))):=by
 refine CallsX.run [] Go.Proofs.Tryz.func171 rfl rfl (fun t h=>h) ?_;conv=>simp (maxSteps:=2000000) (disch:=omega) only [go_sem,Nat.reduceAdd,Nat.reduceSub,Nat.reduceMul,Int.reduceToNat,Nat.reduceEqDiff,Nat.reduceBEq,Nat.reduceBneDiff,Go.Proofs.Tryz.f171,List.replicate]
 refine loopo [1,2,12,13] (fun x:Nat×List Int×Int=>[(0,.arr pre (.ints .i64 x.2.1) (some q)),(7,.one (.raw (.int .i64 x.2.2))),(14,.one (.raw (.int .i64 x.1)))])
  (fun x=>x.1≤u.length∧x.2.1.length=u.length∧digits x.2.1∧(0≤x.2.2∧x.2.2≤1048575)∧num x.2.1-1048576 ^ x.1*x.2.2=num u-g*num (v.take x.1))
  (fun x=>u.length-x.1) (0,u,0)
  ⟨Nat.zero_le _,rfl,hu,by simp,by simp [num]⟩ ?_ ?_
 · refine rg ?_
   exact StLe.weaken (by repeat' first | exact .nil | refine .cons (by first | exact .refl _ | exact .any _) ?_) rfl
 rintro ⟨i,o,c⟩ ⟨hi,ho,hdo,hc,hn⟩
 simp only at hi ho hdo hc hn
 refine rg ?_
 refine condd (fun h=>?_) (fun h=>?_)
 · have hoi:=hdo.getD i
   have hvi:=hv.getD i
   have hprod:0≤g*v.getD i 0∧g*v.getD i 0≤1048575*1048575:=⟨Int.mul_nonneg hg.1 hvi.1,Int.mul_le_mul hg.2 hvi.2 hvi.1 (by decide)⟩
   have key:∀ s:Int,s=o.getD i 0-c-g*v.getD i 0→num (o.set i (s % 1048576))-1048576 ^ (i+1)*(0-s / 1048576)=num u-g*num (v.take (i+1)):=fun s hs=>by
    have h1:=carry_set (o:=o) (i:=i) (by omega) s
    rw [num_take_succ]
    rw [hs] at h1 ⊢
    grind
   refine rg ?_
   refine condd (fun h1=>?_) (fun h1=>?_)
   · refine rg ?_
     generalize hp:g*v.getD i 0=p at *
     conv=>simp (maxSteps:=2000000) (disch:=omega) only [go_sem,Nat.reduceAdd,Nat.reduceSub,Nat.reduceMul,Int.reduceToNat,Nat.reduceEqDiff,Nat.reduceBEq,Nat.reduceBneDiff,and20,shr20]
     exact ⟨(i+1,o.set i ((o.getD i 0-c-p) % 1048576),0-(o.getD i 0-c-p) / 1048576),
      ⟨by dsimp only;omega,by simpa using ho,hdo.set i (by omega),by dsimp only;omega,key _ rfl⟩,by dsimp only;omega,StLe.weaken (by repeat' first | exact .nil | refine .cons (by first | exact .refl _ | exact .any _) ?_) rfl⟩
   · have hv0:=getD_ge (l:=v) (i:=i) (by omega)
     conv=>simp (maxSteps:=2000000) (disch:=omega) only [go_sem,Nat.reduceAdd,Nat.reduceSub,Nat.reduceMul,Int.reduceToNat,Nat.reduceEqDiff,Nat.reduceBEq,Nat.reduceBneDiff,and20,shr20]
     exact ⟨(i+1,o.set i ((o.getD i 0-c) % 1048576),0-(o.getD i 0-c) / 1048576),
      ⟨by dsimp only;omega,by simpa using ho,hdo.set i (by omega),by dsimp only;omega,key _ (by rw [hv0];simp)⟩,by dsimp only;omega,StLe.weaken (by repeat' first | exact .nil | refine .cons (by first | exact .refl _ | exact .any _) ?_) rfl⟩
 · have hip:i=u.length:=by omega
   subst hip
   rw [take_ge hl] at hn
   have hlt:=num_lt hdo
   have hnn:=num_nonneg hdo
   have hvn:=num_nonneg hv
   have hvl:=num_lt hv
   rw [ho] at hlt
   refine rg ?_
   refine condd (fun hc0=>?_) (fun hc0=>?_)
   · subst hc0
     have hs:settled (num u) (num v) g=g:=by
      unfold settled;rw [if_neg];simp at hn;omega
     refine rg ?_
     refine ⟨?_,rfl,rfl,rfl,?_⟩
     · rw [hs,←fixd_eq' hdo ho (by simpa using hn)];rfl
     · rw [hs];exact ⟨_,rfl,.one (.refl _)⟩
   · have hlow:num u-g*num v<0:=by
      have hp:(1048576:Int) ^ u.length≤1048576 ^ u.length*c:=by
       have:=Int.mul_le_mul_of_nonneg_left (show (1:Int)≤c by omega) (Int.le_of_lt (pow_pos' u.length))
       rwa [Int.mul_one] at this
      omega
     have hs:settled (num u) (num v) g=g-1:=by
      unfold settled;rw [if_pos];omega
     rw [hs]
     have hgm:(g-1)*num v=g*num v-num v:=by rw [Int.sub_mul,Int.one_mul]
     refine rg ?_
     have hbig:num o+num v=num u-(g-1)*num v+1048576 ^ u.length:=by
      have hc1:c=1:=by
       rcases Int.lt_or_gt_of_ne hc0 with h4 | h4
       · omega
       · rcases Int.lt_or_le 1 c with h5 | h5
         · have hp:(1048576:Int) ^ u.length*2≤1048576 ^ u.length*c:=Int.mul_le_mul_of_nonneg_left (by omega) (Int.le_of_lt (pow_pos' u.length))
           have hvu:(1048576:Int) ^ v.length≤1048576 ^ u.length:=pow_mono' hl
           omega
         · omega
      subst hc1
      omega
     refine loopo [1,2,47,48] (fun x:Nat×List Int×Int=>[(0,.arr pre (.ints .i64 x.2.1) (some q)),(10,.one (.raw (.int .i64 x.2.2))),(49,.one (.raw (.int .i64 x.1)))])
      (fun x=>x.1≤u.length∧x.2.1.length=u.length∧digits x.2.1∧(0≤x.2.2∧x.2.2≤1)∧num x.2.1+1048576 ^ x.1*x.2.2=num o+num (v.take x.1))
      (fun x=>u.length-x.1) (0,o,0)
      ⟨Nat.zero_le _,ho,hdo,by simp,by simp [num]⟩ ?_ ?_
     · refine rg ?_
       exact StLe.weaken (by repeat' first | exact .nil | refine .cons (by first | exact .refl _ | exact .any _) ?_) rfl
     rintro ⟨i,r,d⟩ ⟨hi',hr,hdr,hd,hn'⟩
     simp only at hi' hr hdr hd hn'
     refine rg ?_
     refine condd (fun h=>?_) (fun h=>?_)
     · have hri:=hdr.getD i
       have hvi:=hv.getD i
       have key:∀ s:Int,s=d+r.getD i 0+v.getD i 0→num (r.set i (s % 1048576))+1048576 ^ (i+1)*(s / 1048576)=num o+num (v.take (i+1)):=fun s hs=>by
        rw [carry_set (by omega) s,num_take_succ,hs]
        grind
       refine rg ?_
       refine condd (fun h1=>?_) (fun h1=>?_)
       · conv=>simp (maxSteps:=2000000) (disch:=omega) only [go_sem,Nat.reduceAdd,Nat.reduceSub,Nat.reduceMul,Int.reduceToNat,Nat.reduceEqDiff,Nat.reduceBEq,Nat.reduceBneDiff,and20,shr20]
         exact ⟨(i+1,r.set i ((d+r.getD i 0+v.getD i 0) % 1048576),(d+r.getD i 0+v.getD i 0) / 1048576),
          ⟨by dsimp only;omega,by simpa using hr,hdr.set i (by omega),by dsimp only;omega,key _ rfl⟩,by dsimp only;omega,StLe.weaken (by repeat' first | exact .nil | refine .cons (by first | exact .refl _ | exact .any _) ?_) rfl⟩
       · have hv0:=getD_ge (l:=v) (i:=i) (by omega)
         conv=>simp (maxSteps:=2000000) (disch:=omega) only [go_sem,Nat.reduceAdd,Nat.reduceSub,Nat.reduceMul,Int.reduceToNat,Nat.reduceEqDiff,Nat.reduceBEq,Nat.reduceBneDiff,and20,shr20]
         exact ⟨(i+1,r.set i ((d+r.getD i 0) % 1048576),(d+r.getD i 0) / 1048576),
          ⟨by dsimp only;omega,by simpa using hr,hdr.set i (by omega),by dsimp only;omega,key _ (by omega)⟩,by dsimp only;omega,StLe.weaken (by repeat' first | exact .nil | refine .cons (by first | exact .refl _ | exact .any _) ?_) rfl⟩
     · have hip:i=u.length:=by omega
       subst hip
       rw [take_ge hl] at hn'
       have hlt':=num_lt hdr
       have hnn':=num_nonneg hdr
       rw [hr] at hlt'
       have hd1:d=1:=by
        rcases Int.le_iff_eq_or_lt.1 hd.2 with h4 | h4
        · exact h4
        · have:d=0:=by omega
          subst this
          omega
       subst hd1
       refine rg ?_
       refine ⟨?_,rfl,rfl,rfl,?_⟩
       · rw [←fixd_eq' hdr hr (by omega)];rfl
       · exact ⟨_,rfl,.one (.refl _)⟩
theorem settled_spec {W V g:Int} (h1:(g-1)*V≤W) (h2:W<(g+1)*V) (_hV:0<V) (hW:0≤W) (hg:0≤g∧g≤1048575) :
 0≤settled W V g∧settled W V g≤1048575∧settled W V g*V≤W∧W<(settled W V g+1)*V:=by
 unfold settled
 split
 · rename_i h
   refine ⟨?_,by omega,h1,by rw [show g-1+1=g by omega];exact h⟩
   rcases Int.lt_or_le 0 g with h3 | h3
   · omega
   · have:g=0:=by omega
     subst this
     omega
 · exact ⟨hg.1,hg.2,by omega,h2⟩
theorem settleX (w v:List Int) (i k:Nat) (g:Int) (hw:digits w) (hv:digits v) (hk:k≤1099511627776) (hi:i+k≤w.length) (hl:v.length≤k) (hg:0≤g∧g≤1048575)
 (h1:(g-1)*num v≤num ((w.drop i).take k)) :
 CallX prog 171 [.any,.one (.ints .i64 v),.one (.raw (.int .i64 g))] 0 (.wn (.ints .i64 w) i k)
  (.wn (.ints .i64 (fixd k (num ((w.drop i).take k)-settled (num ((w.drop i).take k)) (num v) g*num v))) i k) (.one (.raw (.int .i64 (settled (num ((w.drop i).take k)) (num v) g)))):=fun pre q=>by
 have hlen:((w.drop i).take k).length=k:=by simp;omega
 have h:=xSettle pre q ((w.drop i).take k) v g ((hw.drop i).take k) hv (by omega) (by omega) hg h1
 rw [hlen] at h
 exact h
end Go.Slot.T

namespace Go.Slot.T
open Go Go.RowKit Go.Slot
open Go.Proofs.Tryz (prog)
set_option maxRecDepth 10000
set_option maxHeartbeats 8000000
theorem cDivLt (a b:List Int) (ha:digits a) (na:norm a) (hb:digits b) (nb:norm b) (la:a.length≤1073741824) (lb:b.length≤1073741824) (hlt:num a<num b) :
 CallsTo prog 145 [.one (.ints .i64 a),.one (.ints .i64 b)] (.tup [.one (.ints .i64 (dig (num a / num b).toNat)),.one (.ints .i64 (dig (num a % num b).toNat))]):=by
 refine CallsTo.run [] Go.Proofs.Tryz.func145 rfl rfl ?_;conv=>simp (maxSteps:=2000000) (disch:=omega) only [go_sem,Nat.reduceAdd,Nat.reduceSub,Nat.reduceMul,Int.reduceToNat,Nat.reduceEqDiff,Nat.reduceBEq,Nat.reduceBneDiff,Go.Proofs.Tryz.f145,List.replicate]
 refine callk (cCompare a b ha na hb nb (by omega) (by omega)) ?_
 refine rg ?_
 refine condd (fun h=>?_) (fun h=>?_)
 · refine rg ?_
   refine callk (cClone a (by omega)) ?_
   refine rg ?_
   refine ⟨_,rfl,?_⟩
   have h0:=num_nonneg ha
   rw [Int.ediv_eq_zero_of_lt h0 hlt,Int.emod_eq_of_lt h0 hlt,←dig_eq ha na,show (0:Int).toNat=0 from rfl,dig_zero]
   exact .tup (.cons (.one (.nilInts _)) (.cons (.refl _) .nil))
 · exact absurd (by unfold ord;rw [if_pos hlt];decide) h
theorem cDivOne (a b:List Int) (ha:digits a) (na:norm a) (hb:digits b) (nb:norm b) (la:a.length≤1073741824) (lb:b.length=1) (hle:num b≤num a) :
 CallsTo prog 145 [.one (.ints .i64 a),.one (.ints .i64 b)] (.tup [.one (.ints .i64 (dig (num a / num b).toNat)),.one (.ints .i64 (dig (num a % num b).toNat))]):=by
 have hord:¬ord (num a) (num b)<0:=by unfold ord;rw [if_neg (by omega)];split<;>decide
 have hb0:=hb.getD 0
 have hbp:=norm.pos hb nb (fun e=>by rw [e] at lb;cases lb)
 have hbn:num b=b.getD 0 0:=by
  match b,lb with
  | [d],_=>simp [num]
 refine CallsTo.run [] Go.Proofs.Tryz.func145 rfl rfl ?_;conv=>simp (maxSteps:=2000000) (disch:=omega) only [go_sem,Nat.reduceAdd,Nat.reduceSub,Nat.reduceMul,Int.reduceToNat,Nat.reduceEqDiff,Nat.reduceBEq,Nat.reduceBneDiff,Go.Proofs.Tryz.f145,List.replicate]
 refine callk (cCompare a b ha na hb nb (by omega) (by omega)) ?_
 refine rg ?_
 refine condd (fun h=>absurd h hord) (fun _=>?_)
 refine rg ?_
 refine condd (fun h=>?_) (fun h=>absurd (by omega) h)
 refine rg ?_
 refine callk (cShort a _ ha (by omega) (by omega)) ?_
 refine rg ?_
 have hr0:0≤num a % b.getD 0 0:=Int.emod_nonneg _ (by omega)
 have hr1:num a % b.getD 0 0<b.getD 0 0:=Int.emod_lt_of_pos _ (by omega)
 refine callk (cTrim [num a % b.getD 0 0] (by simp)) ?_
 refine rg ?_
 refine ⟨_,rfl,?_⟩
 have hd:digits [num a % b.getD 0 0]:=digits.cons (by omega) digits.nil
 have:=trim_data (L:=[num a % b.getD 0 0]) (n:=num a % num b) hd (by rw [hbn];simp [num])
 simp only [List.length_cons,List.length_nil,Nat.zero_add] at this
 rw [this,hbn]
 exact .tup (.cons (.refl _) (.cons (.refl _) .nil))
end Go.Slot.T

namespace Go.Slot.T
open Go Go.RowKit Go.Slot
open Go.Proofs.Tryz (prog)
set_option maxRecDepth 10000
set_option maxHeartbeats 8000000
theorem cDivBig' (a b:List Int) (Uf Vf:Nat→List Int) (hUf:∀ s:Nat,Uf s=dig (num a*(s:Int)).toNat) (hVf:∀ s:Nat,Vf s=dig (num b*(s:Int)).toNat) (ha:digits a) (na:norm a) (hb:digits b) (nb:norm b) (la:a.length≤1073741824) (lb:2≤b.length) (hle:num b≤num a) :
 CallsTo prog 145 [.one (.ints .i64 a),.one (.ints .i64 b)] (.tup [.one (.ints .i64 (dig (num a / num b).toNat)),.one (.ints .i64 (dig (num a % num b).toNat))]):=by
 have hord:¬ord (num a) (num b)<0:=by unfold ord;rw [if_neg (by omega)];split<;>decide
 have hbp:=norm.pos hb nb (fun e=>by rw [e] at lb;simp at lb)
 have hlab:b.length≤a.length:=Nat.le_of_not_lt (fun h=>by have:=ord_len ha na hb nb h;omega)
 refine CallsTo.run [(12,[.frz 60]),(22,[.join]),(23,[.frz 56,.frz 75])] Go.Proofs.Tryz.func145 rfl rfl ?_;conv=>simp (maxSteps:=2000000) (disch:=omega) only [go_sem,Nat.reduceAdd,Nat.reduceSub,Nat.reduceMul,Int.reduceToNat,Nat.reduceEqDiff,Nat.reduceBEq,Nat.reduceBneDiff,Go.Proofs.Tryz.f145,List.replicate]
 refine callk (cCompare a b ha na hb nb (by omega) (by omega)) ?_
 refine rg ?_
 refine condd (fun h=>absurd h hord) (fun _=>?_)
 refine rg ?_
 refine condd (fun h=>absurd h (by omega)) (fun h=>?_)
 have htop:1≤b.getD (b.length-1) 0∧b.getD (b.length-1) 0≤1048575:=by
  have h1:=hb.getD (b.length-1)
  have h2:=nb (fun e=>by rw [e] at lb;simp at lb)
  omega
 have eb:((b.length:Int)-1).toNat=b.length-1:=by omega
 refine rg ?_
 refine loopo [0,1] (fun s:Nat=>[(8,.one (.raw (.int .i64 (s:Int))))])
  (fun s=>1≤s∧s≤1048575) (fun s=>1048576-s) 1
  (by omega) ?_ ?_
 · refine rg ?_
   exact StLe.weaken (by repeat' first | exact .nil | refine .cons (by first | exact .refl _ | exact .any _) ?_) rfl
 rintro s ⟨hs1,hs2⟩
 conv=>simp (maxSteps:=2000000) (disch:=omega) only [go_sem,Nat.reduceAdd,Nat.reduceSub,Nat.reduceMul,Int.reduceToNat,Nat.reduceEqDiff,Nat.reduceBEq,Nat.reduceBneDiff,eb]
 have hprod:0≤b.getD (b.length-1) 0*(s:Int)∧b.getD (b.length-1) 0*(s:Int)≤1048575*1048575:=⟨Int.mul_nonneg (by omega) (by omega),Int.mul_le_mul htop.2 (by omega) (by omega) (by decide)⟩
 conv=>simp (maxSteps:=2000000) (disch:=omega) only [go_sem,Nat.reduceAdd,Nat.reduceSub,Nat.reduceMul,Int.reduceToNat,Nat.reduceEqDiff,Nat.reduceBEq,Nat.reduceBneDiff,eb]
 refine condd (fun h1=>?_) (fun h1=>?_)
 · have hs:(s:Int)<524288:=by
    have:=Int.mul_le_mul_of_nonneg_right htop.1 (show (0:Int)≤s by omega)
    omega
   refine rg ?_
   exact ⟨2*s,by omega,by omega,by simp only [go_sem,Int.natCast_mul,Int.mul_comm];exact StLe.weaken (by repeat' first | exact .nil | refine .cons (by first | exact .refl _ | exact .any _) ?_) rfl⟩
 refine rg ?_
 have hds:digits [(s:Int)]:=digits.cons (by omega) digits.nil
 have hns:num [(s:Int)]=s:=by simp [num]
 refine callk (cMul' a [(s:Int)] ha hds (by omega) (by simp)) ?_
 have hna0:0≤num a*s:=Int.mul_nonneg (by omega) (by omega)
 have hnb0:0<num b*s:=Int.mul_pos hbp (by omega)
 rw [hns]
 have hU:=hUf s
 have hV:=hVf s
 have hUd:digits (Uf s):=by rw [hU];exact dig_digits _
 have hVd:digits (Vf s):=by rw [hV];exact dig_digits _
 have hUn:num (Uf s)=num a*s:=by rw [hU,num_dig];omega
 have hVn:num (Vf s)=num b*s:=by rw [hV,num_dig];omega
 have hVnorm:norm (Vf s):=by rw [hV];exact dig_norm _
 have hxs:∀ x:Int,0≤x→x≤x*s:=fun x hx=>by
  have:=Int.mul_le_mul_of_nonneg_left (show (1:Int)≤s by omega) hx
  rwa [Int.mul_one] at this
 have haU:a.length≤(Uf s).length:=by
  have e:=congrArg List.length (dig_eq ha na)
  rw [hU,e]
  refine dig_len_le ?_
  have:=hxs (num a) (by omega)
  omega
 have hbV:b.length≤(Vf s).length:=by
  have e:=congrArg List.length (dig_eq hb nb)
  rw [hV,e]
  refine dig_len_le ?_
  have:=hxs (num b) (by omega)
  omega
 have hVU:(Vf s).length≤(Uf s).length:=by
  rw [hU,hV]
  refine dig_len_le ?_
  have:num b*s≤num a*s:=Int.mul_le_mul_of_nonneg_right hle (by omega)
  omega
 have hUl:(Uf s).length≤1073741825:=by
  have h1:(Uf s).length≤a.length+1:=by
   rw [hU]
   apply dig_len
   have h1:=num_lt ha
   have h2:num a*(s:Int)≤num a*1048576:=Int.mul_le_mul_of_nonneg_left (by omega) (by omega)
   have h3:((1048576 ^ (a.length+1):Nat):Int)=1048576 ^ a.length*1048576:=by rw [Nat.pow_succ];simp
   omega
  omega
 rw [←hU]
 refine rg ?_
 refine callk (cMul' b [(s:Int)] hb hds (by omega) (by simp)) ?_
 rw [hns,←hV]
 refine rg ?_
 refine condd (fun h2=>absurd h2 (by simp;omega)) (fun h2=>?_)
 obtain ⟨u,hu⟩:∃ u,u=(Uf s)++[0]:=⟨_,rfl⟩
 rw [←hu]
 have hud:digits u:=by rw [hu];exact hUd.append (digits.cons (by decide) digits.nil)
 have hun:num u=num a*s:=by rw [hu,num_append];simp [num,hUn]
 have hul:u.length=(Uf s).length+1:=by rw [hu];simp
 have hVne:(Vf s)≠[]:=fun e=>by
  have:=congrArg List.length e
  simp only [List.length_nil] at this
  omega
 have hV0:0<num (Vf s):=norm.pos hVd hVnorm hVne
 obtain ⟨m,hm⟩:∃ m,u.length=m+(Vf s).length:=⟨u.length-(Vf s).length,by omega⟩
 have hm1:((u.length:Int)-(Vf s).length).toNat=m:=by omega
 have hult:num u<num (Vf s)*1048576 ^ m:=by
  rw [hun,←hUn]
  have h3:=num_lt hUd
  have h4:=num_ge hVd hVnorm hVne
  have h5:=Int.mul_le_mul_of_nonneg_right h4 (Int.le_of_lt (pow_pos' m))
  have e:(Uf s).length=(Vf s).length-1+m:=by omega
  rw [e,Int.pow_add] at h3
  omega
 have hord2:u.length≤1073741826:=by omega
 clear hu h2
 conv=>simp (maxSteps:=2000000) (disch:=omega) only [go_sem,Nat.reduceAdd,Nat.reduceSub,Nat.reduceMul,Int.reduceToNat,Nat.reduceEqDiff,Nat.reduceBEq,Nat.reduceBneDiff,hm1]
 refine loopo [8,9,10,11,12] (fun x:Nat×List Int×List Int=>[(13,.one (.raw (.int .i64 ((x.1:Int)-1)))),(56,.arr [] (.ints .i64 x.2.1) none),(75,.arr [] (.ints .i64 x.2.2) none)])
  (fun x=>x.1≤m∧x.2.1.length=u.length∧digits x.2.1∧x.2.2.length=m∧digits x.2.2∧num a*s=num (Vf s)*(1048576 ^ x.1*num (x.2.2.drop x.1))+num x.2.1∧num x.2.1<num (Vf s)*1048576 ^ x.1)
  (fun x=>x.1) (m,u,List.replicate m 0)
  ⟨Nat.le_refl _,rfl,hud,by simp,digits.rep _,by simp [num,hun],hult⟩ ?_ ?_
 · refine rg ?_
   exact StLe.weaken (by repeat' first | exact .nil | refine .cons (by first | exact .refl _ | exact .any _) ?_) rfl
 rintro ⟨j,w,q⟩ ⟨hj,hw,hwd,hq,hqd,he,hlt⟩
 simp only at hj hw hwd hq hqd he hlt
 refine rg ?_
 refine condd (fun h3=>?_) (fun h3=>?_)
 · obtain ⟨i,rfl⟩:∃ i,j=i+1:=⟨j-1,by omega⟩
   have ei:((i+1:Nat):Int)-1=(i:Nat):=by omega
   have e1:((i:Int)+(Vf s).length).toNat=i+(Vf s).length:=by omega
   have e2:((i:Int)+(Vf s).length-1).toNat=i+((Vf s).length-1):=by omega
   have e3:(((Vf s).length:Int)-1).toNat=(Vf s).length-1:=by omega
   have d1:=hwd.getD (i+(Vf s).length)
   have d2:=hwd.getD (i+((Vf s).length-1))
   have d3:=hVd.getD ((Vf s).length-1)
   have d4:=hVnorm hVne
   conv=>simp (maxSteps:=2000000) (disch:=omega) only [go_sem,Nat.reduceAdd,Nat.reduceSub,Nat.reduceMul,Int.reduceToNat,Nat.reduceEqDiff,Nat.reduceBEq,Nat.reduceBneDiff,ei,e1,e2,e3,shl20,or20]
   refine indk (by kernel_rfl) ?_
   obtain ⟨T,hT⟩:∃ T,T=w.getD (i+(Vf s).length) 0*1048576+w.getD (i+((Vf s).length-1)) 0:=⟨_,rfl⟩
   obtain ⟨v1,hv1⟩:∃ v1,v1=(Vf s).getD ((Vf s).length-1) 0:=⟨_,rfl⟩
   rw [←hT]
   rw [←hv1] at d3 d4
   have hT0:0≤T∧T<1099511627776:=by omega
   conv=>simp (maxSteps:=2000000) (disch:=omega) only [go_sem,Nat.reduceAdd,Nat.reduceSub,Nat.reduceMul,Int.reduceToNat,Nat.reduceEqDiff,Nat.reduceBEq,Nat.reduceBneDiff,ei,e1,e2,e3,←hv1]
   have hq0:T.tdiv v1=T / v1:=Int.tdiv_eq_ediv_of_nonneg hT0.1
   have hm0:T.tmod v1=T % v1:=Int.tmod_eq_emod_of_nonneg hT0.1
   have hq1:0≤T / v1:=Int.ediv_nonneg hT0.1 (by omega)
   have hq2:T / v1≤T:=Int.ediv_le_self _ hT0.1
   have hm1':0≤T % v1:=Int.emod_nonneg _ (by omega)
   have hm2:T % v1<v1:=Int.emod_lt_of_pos _ (by omega)
   have hdm:=Int.emod_add_mul_ediv T v1
   rw [hq0,hm0]
   conv=>simp (maxSteps:=2000000) (disch:=omega) only [go_sem,Nat.reduceAdd,Nat.reduceSub,Nat.reduceMul,Int.reduceToNat,Nat.reduceEqDiff,Nat.reduceBEq,Nat.reduceBneDiff,ei,e1,e2,e3,←hv1]
   refine indk (by kernel_rfl) ?_
   refine rg ?_
   have hn2:2≤(Vf s).length:=by omega
   have e4:((i:Int)+(Vf s).length-2).toNat=i+((Vf s).length-2):=by omega
   have e5:(((Vf s).length:Int)-2).toNat=(Vf s).length-2:=by omega
   have e6:((i:Int)+(Vf s).length+1).toNat=i+((Vf s).length+1):=by omega
   have hin:i+((Vf s).length+1)≤w.length:=by omega
   have hWlen:((w.drop i).take ((Vf s).length+1)).length=(Vf s).length+1:=by simp;omega
   obtain ⟨u2,hu2⟩:∃ u2,u2=w.getD (i+((Vf s).length-2)) 0:=⟨_,rfl⟩
   obtain ⟨v2,hv2⟩:∃ v2,v2=(Vf s).getD ((Vf s).length-2) 0:=⟨_,rfl⟩
   have hW:=num_top3 _ (Vf s).length hn2 hWlen
   rw [sub_getD (by omega),sub_getD (by omega),sub_getD (by omega),←hT,←hu2] at hW
   have hVt:=num_top2 (Vf s) (Vf s).length hn2 rfl
   rw [←hv1,←hv2] at hVt
   have hWd:digits ((w.drop i).take ((Vf s).length+1)):=(hwd.drop i).take _
   have hw0:=num_lt (hWd.take ((Vf s).length-2))
   have hw1:=num_nonneg (hWd.take ((Vf s).length-2))
   have hv0:=num_lt (hVd.take ((Vf s).length-2))
   have hv0':=num_nonneg (hVd.take ((Vf s).length-2))
   rw [List.length_take,hWlen,Nat.min_eq_left (by omega)] at hw0
   rw [List.length_take,Nat.min_eq_left (by omega)] at hv0
   have hP:=pow_pos' ((Vf s).length-2)
   have hW0:=num_nonneg hWd
   have du:=hwd.getD (i+((Vf s).length-2))
   have dv:=hVd.getD ((Vf s).length-2)
   rw [←hu2] at du
   rw [←hv2] at dv
   obtain ⟨W,hWW⟩:∃ W,W=num ((w.drop i).take ((Vf s).length+1)):=⟨_,rfl⟩
   rw [←hWW] at hW hW0
   refine joino [8,9,10,11,12,13] (fun g:Int=>[(15,.one (.raw (.int .i64 g)))])
    (fun g=>0≤g∧g≤1048575∧W<(g+1)*num (Vf s)∧(g-1)*num (Vf s)≤W) ?_ ?_
   · refine rg ?_
     have hinit:W<(T / v1+1)*num (Vf s):=by
      refine guess_init hP hW hw0 du.2 hVt hv0' dv.1 ?_ hq1
      have:(T / v1+1)*v1=v1*(T / v1)+v1:=by grind
      omega
     refine loopo [8,9,10,11,12,13,14] (fun x:Int×Int=>[(15,.one (.raw (.int .i64 x.1))),(16,.one (.raw (.int .i64 x.2)))])
      (fun x=>0≤x.1∧T=x.1*v1+x.2∧W<(x.1+1)*num (Vf s)∧0≤x.2∧x.1≤T)
      (fun x=>x.1.toNat) (T / v1,T % v1) ⟨hq1,by dsimp only;rw [Int.mul_comm];omega,hinit,hm1',hq2⟩ ?_ ?_
     · refine rg ?_
       exact StLe.weaken (by repeat' first | exact .nil | refine .cons (by first | exact .refl _ | exact .any _) ?_) rfl
     rintro ⟨g,r⟩ ⟨hg0,hgT,hgW,hr0,hgT2⟩
     simp only at hg0 hgT hgW hr0 hgT2
     have hgv:0≤g*v1:=Int.mul_nonneg hg0 (by omega)
     have hrT:r≤T:=by omega
     refine rg ?_
     have hfin:g≤1048575→(1048576≤r∨g*v2≤r*1048576+u2)→(g-1)*num (Vf s)≤W:=fun hg1 hc=>
      guess_high hP hW hw1 du.1 hVt hv0 (by omega) dv hV0 hW0 hg0 hg1 hgT hc
     have hdec:W<g*num (Vf s)→0<g∧T=(g-1)*v1+(r+v1)∧W<(g-1+1)*num (Vf s):=fun h=>by
      refine ⟨?_,?_,?_⟩
      · rcases Int.lt_or_le 0 g with h' | h'
        · exact h'
        · have:g=0:=by omega
          subst this
          omega
      · rw [hgT];grind
      · rw [show g-1+1=g by omega];exact h
     refine guardn (fun h4=>?_) (fun h4=>?_)
     · conv=>simp (maxSteps:=2000000) (disch:=omega) only [go_sem,Nat.reduceAdd,Nat.reduceSub,Nat.reduceMul,Int.reduceToNat,Nat.reduceEqDiff,Nat.reduceBEq,Nat.reduceBneDiff,h4]
       refine guardd (fun h5=>?_) (fun h5=>?_)
       · have hgv2:0≤g*v2∧g*v2≤1048575*1048575:=⟨Int.mul_nonneg hg0 dv.1,Int.mul_le_mul (by omega) dv.2 dv.1 (by decide)⟩
         conv=>simp (maxSteps:=2000000) (disch:=omega) only [go_sem,Nat.reduceAdd,Nat.reduceSub,Nat.reduceMul,Int.reduceToNat,Nat.reduceEqDiff,Nat.reduceBEq,Nat.reduceBneDiff,h4,h5,ei,e1,e4,e5,←hv2,←hu2,shl20,or20]
         refine indk (by kernel_rfl) ?_
         refine rg ?_
         refine condd (fun h6=>?_) (fun h6=>?_)
         · obtain ⟨g1,g2,g3⟩:=hdec (guess_low hP hW hw0 hVt hv0' hg0 hgT h6)
           conv=>simp (maxSteps:=2000000) (disch:=omega) only [go_sem,Nat.reduceAdd,Nat.reduceSub,Nat.reduceMul,Int.reduceToNat,Nat.reduceEqDiff,Nat.reduceBEq,Nat.reduceBneDiff,e3,←hv1]
           exact ⟨(g-1,r+v1),⟨by dsimp only;omega,g2,g3,by dsimp only;omega,by dsimp only;omega⟩,by dsimp only;omega,StLe.weaken (by repeat' first | exact .nil | refine .cons (by first | exact .refl _ | exact .any _) ?_) rfl⟩
         · refine rg ?_
           exact ⟨g,⟨hg0,by omega,hgW,hfin (by omega) (.inr (by omega))⟩,StLe.weaken (by repeat' first | exact .nil | refine .cons (by first | exact .refl _ | exact .any _) ?_) rfl⟩
       · conv=>simp (maxSteps:=2000000) (disch:=omega) only [go_sem,Nat.reduceAdd,Nat.reduceSub,Nat.reduceMul,Int.reduceToNat,Nat.reduceEqDiff,Nat.reduceBEq,Nat.reduceBneDiff,h4,h5]
         refine indk (by kernel_rfl) ?_
         conv=>simp (maxSteps:=2000000) (disch:=omega) only [go_sem,Nat.reduceAdd,Nat.reduceSub,Nat.reduceMul,Int.reduceToNat,Nat.reduceEqDiff,Nat.reduceBEq,Nat.reduceBneDiff,h4,h5]
         exact ⟨g,⟨hg0,by omega,hgW,hfin (by omega) (.inl (by omega))⟩,StLe.weaken (by repeat' first | exact .nil | refine .cons (by first | exact .refl _ | exact .any _) ?_) rfl⟩
     · have hWB:W<num (Vf s)*1048576:=by
        have h7:=num_three w i ((Vf s).length+1) hin
        rw [←hWW] at h7
        have h8:=Int.mul_nonneg (Int.le_of_lt (pow_pos' (i+((Vf s).length+1)))) (num_nonneg (hwd.drop (i+((Vf s).length+1))))
        have h9:=num_nonneg (hwd.take i)
        rw [Int.pow_succ] at hlt
        refine Int.lt_of_mul_lt_mul_left (a:=1048576 ^ i) ?_ (Int.le_of_lt (pow_pos' i))
        have:(1048576:Int) ^ i*(num (Vf s)*1048576)=num (Vf s)*(1048576 ^ i*1048576):=by grind
        omega
       have hlow:W<g*num (Vf s):=by
        have:=Int.mul_le_mul_of_nonneg_right h4 (Int.le_of_lt hV0)
        omega
       obtain ⟨g1,g2,g3⟩:=hdec hlow
       conv=>simp (maxSteps:=2000000) (disch:=omega) only [go_sem,Nat.reduceAdd,Nat.reduceSub,Nat.reduceMul,Int.reduceToNat,Nat.reduceEqDiff,Nat.reduceBEq,Nat.reduceBneDiff,h4]
       refine indk (by kernel_rfl) ?_
       conv=>simp (maxSteps:=2000000) (disch:=omega) only [go_sem,Nat.reduceAdd,Nat.reduceSub,Nat.reduceMul,Int.reduceToNat,Nat.reduceEqDiff,Nat.reduceBEq,Nat.reduceBneDiff,h4,e3,←hv1]
       exact ⟨(g-1,r+v1),⟨by dsimp only;omega,g2,g3,by dsimp only;omega,by dsimp only;omega⟩,by dsimp only;omega,StLe.weaken (by repeat' first | exact .nil | refine .cons (by first | exact .refl _ | exact .any _) ?_) rfl⟩
   · intro g hg
     have hg:0≤g∧g≤1048575∧W<(g+1)*num (Vf s)∧(g-1)*num (Vf s)≤W:=hg
     have hg0:=hg.1
     have hg1:=hg.2.1
     have hgW:=hg.2.2.1
     have hgl:=hg.2.2.2
     have hsp:=settled_spec hgl hgW hV0 hW0 ⟨hg0,hg1⟩
     conv=>simp (maxSteps:=2000000) (disch:=omega) only [go_sem,Nat.reduceAdd,Nat.reduceSub,Nat.reduceMul,Int.reduceToNat,Nat.reduceEqDiff,Nat.reduceBEq,Nat.reduceBneDiff,e6]
     rw [show i+((Vf s).length+1)-i=(Vf s).length+1 by omega]
     refine ownk (settleX w (Vf s) i ((Vf s).length+1) g hwd hVd (by omega) hin (by omega) ⟨hg0,hg1⟩ (by rw [←hWW];exact hgl)) ?_
     rw [←hWW]
     generalize settled W (num (Vf s)) g=G at *
     obtain ⟨hG0,hG1,hG2,hG3⟩:=hsp
     obtain ⟨D,hD⟩:∃ D,D=fixd ((Vf s).length+1) (W-G*num (Vf s)):=⟨_,rfl⟩
     have hDl:D.length=(Vf s).length+1:=by rw [hD];exact fixd_len _ _
     have hDd:digits D:=by rw [hD];exact fixd_digits _ _
     have hGV:(G+1)*num (Vf s)=G*num (Vf s)+num (Vf s):=by grind
     have hDn:num D=W-G*num (Vf s):=by
      rw [hD]
      refine num_fixd _ _ (by omega) ?_
      have h7:=num_lt hVd
      have h8:=pow_mono' (show (Vf s).length≤(Vf s).length+1 by omega)
      omega
     rw [←hD]
     conv=>simp (maxSteps:=2000000) (disch:=omega) only [go_sem,Nat.reduceAdd,Nat.reduceSub,Nat.reduceMul,Int.reduceToNat,Nat.reduceEqDiff,Nat.reduceBEq,Nat.reduceBneDiff,hDl]
     have h7:=num_three w i ((Vf s).length+1) hin
     have h8:=num_four w D i ((Vf s).length+1) hin hDl
     rw [←hWW] at h7
     rw [hDn] at h8
     have hA0:=num_nonneg (hwd.take i)
     have hA1:=num_lt (hwd.take i)
     rw [List.length_take,Nat.min_eq_left (by omega)] at hA1
     have hX0:num (w.drop (i+((Vf s).length+1)))=0:=by
      have hX:=num_nonneg (hwd.drop (i+((Vf s).length+1)))
      rcases Int.lt_or_le 0 (num (w.drop (i+((Vf s).length+1)))) with h9 | h9
      · have k1:=Int.mul_le_mul_of_nonneg_left (show (1:Int)≤num (w.drop (i+((Vf s).length+1))) by omega) (Int.le_of_lt (pow_pos' (i+((Vf s).length+1))))
        have k2:=Int.mul_nonneg (Int.le_of_lt (pow_pos' i)) hW0
        have k3:=Int.mul_lt_mul_of_pos_right (num_lt hVd) (pow_pos' (i+1))
        have k4:(1048576:Int) ^ (Vf s).length*1048576 ^ (i+1)=1048576 ^ (i+((Vf s).length+1)):=by rw [←Int.pow_add];congr 1;omega
        omega
      · omega
     rw [hX0,Int.mul_zero,Int.add_zero] at h7 h8
     refine ⟨(i,w.take i++D++w.drop (i+((Vf s).length+1)),q.set i G),⟨by dsimp only;omega,?_,((hwd.take i).append hDd).append (hwd.drop _),by simpa using hq,hqd.set i ⟨hG0,hG1⟩,?_,?_⟩,by dsimp only;omega,StLe.weaken (by repeat' first | exact .nil | refine .cons (by first | exact .refl _ | exact .any _) ?_) rfl⟩
     · dsimp only
       rw [List.length_append,List.length_append,List.length_take,List.length_drop,hDl]
       omega
     · dsimp only
       rw [drop_set_self G (by omega),h8,he,h7,Int.pow_succ]
       simp only [num]
       grind
     · dsimp only
       rw [h8]
       have k1:=Int.mul_le_mul_of_nonneg_left (show W-G*num (Vf s)≤num (Vf s)-1 by omega) (Int.le_of_lt (pow_pos' i))
       have k2:(1048576:Int) ^ i*(num (Vf s)-1)=num (Vf s)*1048576 ^ i-1048576 ^ i:=by grind
       omega
 · have h0:j=0:=by omega
   subst h0
   simp only [Int.pow_zero,Int.one_mul,List.drop_zero,Int.mul_one] at he hlt
   refine rg ?_
   refine callk (cTrim w (by omega)) ?_
   rw [trim_data hwd rfl]
   have hwn:=num_nonneg hwd
   have hqn:=num_nonneg hqd
   have e7:num (dig (num w).toNat)=num w:=by rw [num_dig];omega
   have hlw:(dig (num w).toNat).length≤w.length:=by rw [←trimL_eq hwd];exact trimL_le w
   refine rg ?_
   refine callk (cShort (dig (num w).toNat) s (dig_digits _) (by omega) (by omega)) ?_
   rw [e7]
   refine rg ?_
   refine callk (cTrim q (by omega)) ?_
   rw [trim_data hqd rfl]
   refine rg ?_
   refine ⟨_,rfl,?_⟩
   rw [hVn] at he hlt
   obtain ⟨hq',hr'⟩:=div_back (show (0:Int)<s by omega) hbp he hwn hlt
   rw [hq',hr']
   exact .tup (.cons (.refl _) (.cons (.refl _) .nil))
theorem cDivBig (a b:List Int) (ha:digits a) (na:norm a) (hb:digits b) (nb:norm b) (la:a.length≤1073741824) (lb:2≤b.length) (hle:num b≤num a) :
 CallsTo prog 145 [.one (.ints .i64 a),.one (.ints .i64 b)] (.tup [.one (.ints .i64 (dig (num a / num b).toNat)),.one (.ints .i64 (dig (num a % num b).toNat))]):=
 cDivBig' a b (fun s=>dig (num a*(s:Int)).toNat) (fun s=>dig (num b*(s:Int)).toNat) (fun _=>rfl) (fun _=>rfl) ha na hb nb la lb hle
end Go.Slot.T

namespace Go.Slot.T
open Go Go.RowKit Go.Slot
open Go.Proofs.Tryz (prog)
set_option maxRecDepth 10000
set_option maxHeartbeats 4000000
abbrev okZ (z:Int):Prop:=(dig z.natAbs).length≤268435456
theorem cRightZ (z:Int) (hz:okZ z):CallsTo prog 114 [.agg [.raw (.int .i64 (sg z)),.ints .i64 (dig z.natAbs)]] (.one (.raw (.bool true))):=by
 have h:=cRight (sg z) (dig z.natAbs) (by omega)
 rw [decide_eq_true (bigRight_z z)] at h
 exact h
theorem cRightN (s:Int) (L:List Int) (hL:L.length≤268435456) (h:¬BigRight s L):CallsTo prog 114 [.agg [.raw (.int .i64 s),.ints .i64 L]] (.one (.raw (.bool false))):=by
 have h':=cRight s L (by omega)
 rw [decide_eq_false h] at h'
 exact h'
theorem cSignedZ (s z:Int) (hz:(dig z.natAbs).length≤1073741824) (h:(s=1∧0≤z)∨(s = -1∧z≤0)∨z=0) :
 CallsTo prog 89 [.one (.raw (.int .i64 s)),.one (.ints .i64 (dig z.natAbs))] (.agg [.raw (.int .i64 (sg z)),.ints .i64 (dig z.natAbs)]):=by
 have h':=cSigned s (dig z.natAbs) (by omega)
 unfold bigC at h'
 rw [zC_of h] at h'
 exact h'
theorem cCheckedZ (z:Int):CallsTo prog 144 [.one (.raw (.bool true)),.agg [.raw (.int .i64 (sg z)),.ints .i64 (dig z.natAbs)]]
 (.tup [.agg [.raw (.int .i64 (sg z)),.ints .i64 (dig z.natAbs)],.one (.raw (.int .i64 0))]):=cChecked true (sg z) (dig z.natAbs)
theorem cNegZ (x:Int) (hx:okZ x) :
 CallsTo prog 115 [.agg [.raw (.int .i64 (sg x)),.ints .i64 (dig x.natAbs)]] (.agg [.raw (.int .i64 (sg (-x))),.ints .i64 (dig (-x).natAbs)]):=by
 have sx:=sg_cases x
 have e:(-x).natAbs=x.natAbs:=by omega
 have hs:=cSignedZ (0-sg x) (-x) (by rw [e];omega) (by omega)
 rw [e] at hs ⊢
 refine CallsTo.run [] Go.Proofs.Tryz.func115 rfl rfl ?_;conv=>simp (maxSteps:=2000000) (disch:=omega) only [go_sem,Nat.reduceAdd,Nat.reduceSub,Nat.reduceMul,Int.reduceToNat,Nat.reduceEqDiff,Nat.reduceBEq,Nat.reduceBneDiff,Go.Proofs.Tryz.f115,List.replicate]
 refine callk (cRightZ x hx) ?_
 refine rg ?_
 refine callk (cClone _ (by omega)) ?_
 refine rg ?_
 refine callk hs ?_
 refine rg ?_
 refine indk (by kernel_rfl) ?_
 refine rg ?_
 exact ⟨_,rfl,.one (.refl _)⟩
end Go.Slot.T

namespace Go.Slot.T
open Go Go.RowKit Go.Slot
open Go.Proofs.Tryz (prog)
set_option maxRecDepth 10000
set_option maxHeartbeats 4000000
theorem sg_mul (x y:Int):sg x*sg y=sg (x*y):=by
 rcases sg_cases x with ⟨h1,e⟩ | ⟨h1,e⟩ | ⟨h1,e⟩<;>rcases sg_cases y with ⟨h2,e'⟩ | ⟨h2,e'⟩ | ⟨h2,e'⟩<;>rw [e,e']
 · rw [sg_pos (Int.mul_pos_of_neg_of_neg h1 h2)];rfl
 · subst h2;simp [sg_zero]
 · rw [sg_neg (Int.mul_neg_of_neg_of_pos h1 h2)];rfl
 · subst h1;simp [sg_zero]
 · subst h1;simp [sg_zero]
 · subst h1;simp [sg_zero]
 · rw [sg_neg (Int.mul_neg_of_pos_of_neg h1 h2)];rfl
 · subst h2;simp [sg_zero]
 · rw [sg_pos (Int.mul_pos h1 h2)];rfl
theorem sg_ok (z:Int):(sg z=1∧0≤z)∨(sg z = -1∧z≤0)∨z=0:=by
 rcases sg_cases z with ⟨h,e⟩ | ⟨h,e⟩ | ⟨h,e⟩<;>omega
theorem cMulZ (x y:Int) (hx:okZ x) (hy:okZ y) :
 CallsTo prog 119 [.agg [.raw (.int .i64 (sg x)),.ints .i64 (dig x.natAbs)],.agg [.raw (.int .i64 (sg y)),.ints .i64 (dig y.natAbs)]]
  (.tup [.agg [.raw (.int .i64 (sg (x*y))),.ints .i64 (dig (x*y).natAbs)],.one (.raw (.int .i64 0))]):=by
 have hl:=len_mul x y
 have ex:=num_abs x
 have ey:=num_abs y
 have hs:=sg_mul x y
 have hs1:=sg_cases (x*y)
 refine CallsTo.run [] Go.Proofs.Tryz.func119 rfl rfl ?_;conv=>simp (maxSteps:=2000000) (disch:=omega) only [go_sem,Nat.reduceAdd,Nat.reduceSub,Nat.reduceMul,Int.reduceToNat,Nat.reduceEqDiff,Nat.reduceBEq,Nat.reduceBneDiff,Go.Proofs.Tryz.f119,List.replicate]
 refine callk (cRightZ x hx) ?_
 refine rg ?_
 refine callk (cRightZ y hy) ?_
 refine rg ?_
 refine callk ((cMul' _ _ (dig_digits _) (dig_digits _) (by omega) (by omega)).le .own) ?_
 rw [ex,ey,show ((x.natAbs:Int)*y.natAbs).toNat=(x*y).natAbs by rw [Int.natAbs_mul,←Int.natCast_mul];rfl]
 conv=>simp (maxSteps:=2000000) (disch:=omega) only [go_sem,Nat.reduceAdd,Nat.reduceSub,Nat.reduceMul,Int.reduceToNat,Nat.reduceEqDiff,Nat.reduceBEq,Nat.reduceBneDiff,hs]
 refine callk (cSignedZ _ (x*y) (by omega) (sg_ok _)) ?_
 refine rg ?_
 refine callk (cCheckedZ (x*y)) ?_
 refine rg ?_
 refine indk (by kernel_rfl) ?_
 refine rg ?_
 exact ⟨_,rfl,.one (.refl _)⟩
end Go.Slot.T

namespace Go.Slot.T
open Go Go.RowKit Go.Slot
open Go.Proofs.Tryz (prog)
set_option maxRecDepth 10000
set_option maxHeartbeats 4000000
theorem cDiv (a b:Nat) (la:(dig a).length≤1073741824) (hl:(dig b).length≤1073741824) (hb:b≠0) :
 CallsTo prog 145 [.one (.ints .i64 (dig a)),.one (.ints .i64 (dig b))] (.tup [.one (.ints .i64 (dig (a / b))),.one (.ints .i64 (dig (a % b)))]):=by
 have ea:=num_dig a
 have eb:=num_dig b
 have e1:(num (dig a) / num (dig b)).toNat=a / b:=by rw [ea,eb];exact Int.toNat_natCast _
 have e2:(num (dig a) % num (dig b)).toNat=a % b:=by rw [ea,eb];exact Int.toNat_natCast _
 rw [←e1,←e2]
 rcases Nat.lt_or_ge a b with h | h
 · exact cDivLt _ _ (dig_digits _) (dig_norm _) (dig_digits _) (dig_norm _) la hl (by omega)
 · rcases Nat.lt_or_ge (dig b).length 2 with h1 | h1
   · have h0:(dig b).length≠0:=fun e=>hb (dig_nil.1 (List.eq_nil_of_length_eq_zero e))
     exact cDivOne _ _ (dig_digits _) (dig_norm _) (dig_digits _) (dig_norm _) la (by omega) (by omega)
   · exact cDivBig _ _ (dig_digits _) (dig_norm _) (dig_digits _) (dig_norm _) la h1 (by omega)
theorem cDivZ (x y:Int) (hx:okZ x) (hy:okZ y) (hy0:0<y) :
 CallsTo prog 117 [.agg [.raw (.int .i64 (sg x)),.ints .i64 (dig x.natAbs)],.agg [.raw (.int .i64 (sg y)),.ints .i64 (dig y.natAbs)]]
  (.tup [.agg [.raw (.int .i64 (sg (x / y))),.ints .i64 (dig (x / y).natAbs)],.agg [.raw (.int .i64 (sg (x % y))),.ints .i64 (dig (x % y).natAbs)],.one (.raw (.int .i64 0))]):=by
 have sx:=sg_cases x
 have sy:=sg_pos hy0
 have hn:=Nat.div_add_mod x.natAbs y.natAbs
 have hr:=Nat.mod_lt x.natAbs (show 0<y.natAbs by omega)
 have hqx:=Nat.div_le_self x.natAbs y.natAbs
 have hrx:=Nat.mod_le x.natAbs y.natAbs
 have hlq:=dig_len_le hqx
 have hlr:=dig_len_le hrx
 generalize hQ:x.natAbs / y.natAbs=Q at *
 generalize hR:x.natAbs % y.natAbs=R at *
 have hyQ:((y.natAbs*Q:Nat):Int)=y*Q:=by rw [Int.natCast_mul];congr 1;omega
 have eR:=num_dig R
 have eQ:=num_dig Q
 have ey:=num_abs y
 have hlQ1:=dig_len_add Q 1
 have h1l:(dig 1).length=1:=by rw [dig_pos (by decide),dig_zero];rfl
 have hcd:=cDiv x.natAbs y.natAbs (by omega) (by omega) (by omega)
 rw [hQ,hR] at hcd
 refine CallsTo.run [] Go.Proofs.Tryz.func117 rfl rfl ?_;conv=>simp (maxSteps:=2000000) (disch:=omega) only [go_sem,Nat.reduceAdd,Nat.reduceSub,Nat.reduceMul,Int.reduceToNat,Nat.reduceEqDiff,Nat.reduceBEq,Nat.reduceBneDiff,Go.Proofs.Tryz.f117,List.replicate]
 refine callk (cRightZ x hx) ?_
 refine rg ?_
 refine callk (cRightZ y hy) ?_
 refine rg ?_
 refine condd (fun h=>absurd h (by omega)) (fun _=>?_)
 refine rg ?_
 refine callk hcd ?_
 conv=>simp (maxSteps:=2000000) (disch:=omega) only [go_sem,Nat.reduceAdd,Nat.reduceSub,Nat.reduceMul,Int.reduceToNat,Nat.reduceEqDiff,Nat.reduceBEq,Nat.reduceBneDiff,sy,Int.mul_one]
 refine guardd (fun h1=>?_) (fun h1=>?_)
 · have hx0:x<0:=by omega
   conv=>simp (maxSteps:=2000000) (disch:=omega) only [go_sem,Nat.reduceAdd,Nat.reduceSub,Nat.reduceMul,Int.reduceToNat,Nat.reduceEqDiff,Nat.reduceBEq,Nat.reduceBneDiff,h1,sy,Int.mul_one]
   refine condd (fun h2=>?_) (fun h2=>?_)
   · have hR0:R≠0:=fun e=>by rw [e,dig_zero] at h2;simp at h2
     obtain ⟨k1,k2⟩:=ediv_of (x:=x) (y:=y) (q:=-((Q:Int)+1)) (r:=y-R) (by
      have:y * -((Q:Int)+1) = -(y*Q)-y:=by grind
      omega) (by omega) (by omega)
     have m1:(x / y).natAbs=Q+1:=by rw [k1];omega
     have m2:(x % y).natAbs=y.natAbs-R:=by rw [k2];omega
     have m3:(num (dig Q)+num [1]).toNat=Q+1:=by rw [eQ];simp [num]
     have m4:(num (dig y.natAbs)-num (dig R)).toNat=y.natAbs-R:=by rw [ey,eR];omega
     have hA:=cAdd' (dig Q) [1] (dig_digits _) (digits.cons (by decide) digits.nil) (by omega) (by simp)
     rw [m3,←m1] at hA
     have hS:=cSub' (dig y.natAbs) (dig R) (dig_digits _) (dig_digits _) (by omega) (dig_len_le (by omega)) (by omega)
     rw [m4,←m2] at hS
     have hs1:=cSignedZ (-1) (x / y) (by rw [m1];omega) (by rw [k1];omega)
     have hs2:=cSignedZ 1 (x % y) (by rw [m2];have:=dig_len_le (show y.natAbs-R≤y.natAbs by omega);omega) (by rw [k2];omega)
     refine rg ?_
     refine callk hA ?_
     refine rg ?_
     refine callk hs1 ?_
     refine rg ?_
     refine callk hS ?_
     refine rg ?_
     refine callk hs2 ?_
     refine rg ?_
     refine indk (by kernel_rfl) ?_
     refine rg ?_
     exact ⟨_,rfl,.one (.refl _)⟩
   · have hR0:R=0:=dig_nil.1 (List.eq_nil_of_length_eq_zero (by omega))
     obtain ⟨k1,k2⟩:=ediv_of (x:=x) (y:=y) (q:=-(Q:Int)) (r:=0) (by
      have:y * -(Q:Int) = -(y*Q):=by grind
      omega) (by omega) (by omega)
     have m1:(x / y).natAbs=Q:=by rw [k1];omega
     have m2:(x % y).natAbs=R:=by rw [k2];omega
     have hs1:=cSignedZ (sg x) (x / y) (by rw [m1];omega) (by rw [k1];omega)
     have hs2:=cSignedZ (sg x) (x % y) (by rw [m2];omega) (by rw [k2];omega)
     rw [←m1,←m2]
     conv=>simp (maxSteps:=2000000) (disch:=omega) only [go_sem,Nat.reduceAdd,Nat.reduceSub,Nat.reduceMul,Int.reduceToNat,Nat.reduceEqDiff,Nat.reduceBEq,Nat.reduceBneDiff,sy,Int.mul_one]
     refine callk hs1 ?_
     refine rg ?_
     refine callk hs2 ?_
     refine rg ?_
     refine indk (by kernel_rfl) ?_
     refine rg ?_
     exact ⟨_,rfl,.one (.refl _)⟩
 · have hx0:0≤x:=by omega
   obtain ⟨k1,k2⟩:=ediv_of (x:=x) (y:=y) (q:=(Q:Int)) (r:=(R:Int)) (by omega) (by omega) (by omega)
   have m1:(x / y).natAbs=Q:=by rw [k1];omega
   have m2:(x % y).natAbs=R:=by rw [k2];omega
   have hQ0:x=0→Q=0∧R=0:=fun e=>by subst e;simp at hqx hrx;exact ⟨hqx,hrx⟩
   have hs1:=cSignedZ (sg x) (x / y) (by rw [m1];omega) (by rw [k1];omega)
   have hs2:=cSignedZ (sg x) (x % y) (by rw [m2];omega) (by rw [k2];omega)
   rw [←m1,←m2]
   conv=>simp (maxSteps:=2000000) (disch:=omega) only [go_sem,Nat.reduceAdd,Nat.reduceSub,Nat.reduceMul,Int.reduceToNat,Nat.reduceEqDiff,Nat.reduceBEq,Nat.reduceBneDiff,h1,sy,Int.mul_one]
   refine callk hs1 ?_
   refine rg ?_
   refine callk hs2 ?_
   refine rg ?_
   refine indk (by kernel_rfl) ?_
   refine rg ?_
   exact ⟨_,rfl,.one (.refl _)⟩
theorem cGcdZ (x y:Int) (hx:okZ x) (hy:okZ y) :
 CallsTo prog 116 [.agg [.raw (.int .i64 (sg x)),.ints .i64 (dig x.natAbs)],.agg [.raw (.int .i64 (sg y)),.ints .i64 (dig y.natAbs)]]
  (.tup [.agg [.raw (.int .i64 (sg (Int.gcd x y:Int))),.ints .i64 (dig (Int.gcd x y:Int).natAbs)],.one (.raw (.int .i64 0))]):=by
 refine CallsTo.run [] Go.Proofs.Tryz.func116 rfl rfl ?_;conv=>simp (maxSteps:=2000000) (disch:=omega) only [go_sem,Nat.reduceAdd,Nat.reduceSub,Nat.reduceMul,Int.reduceToNat,Nat.reduceEqDiff,Nat.reduceBEq,Nat.reduceBneDiff,Go.Proofs.Tryz.f116,List.replicate]
 refine callk (cRightZ x hx) ?_
 refine rg ?_
 refine callk (cRightZ y hy) ?_
 refine rg ?_
 refine callk (cClone _ (by omega)) ?_
 refine rg ?_
 refine indk (by kernel_rfl) ?_
 refine rg ?_
 refine loopo [5] (fun p:Nat×Nat=>[(6,.one (.ints .i64 (dig p.1))),(7,.one (.ints .i64 (dig p.2)))])
  (fun p=>Nat.gcd p.1 p.2=Int.gcd x y∧(dig p.1).length≤268435456∧(dig p.2).length≤268435456) (fun p=>p.2) (x.natAbs,y.natAbs) ⟨rfl,hx,hy⟩ ?_ ?_
 · refine rg ?_
   exact StLe.weaken (by repeat' first | exact .nil | refine .cons (by first | exact .refl _ | exact .any _) ?_) rfl
 rintro ⟨m,n⟩ ⟨hg,hm,hn⟩
 simp only at hg hm hn
 refine rg ?_
 refine condd (fun h=>?_) (fun h=>?_)
 · have hn0:n≠0:=fun e=>by rw [e,dig_zero] at h;simp at h
   refine rg ?_
   refine callk (cDiv m n (by omega) (by omega) hn0) ?_
   refine rg ?_
   refine ⟨(n,m % n),⟨?_,hn,Nat.le_trans (dig_len_le (Nat.mod_le _ _)) hm⟩,Nat.mod_lt _ (by omega),StLe.weaken (by repeat' first | exact .nil | refine .cons (by first | exact .refl _ | exact .any _) ?_) rfl⟩
   dsimp only
   rw [←hg,Nat.gcd_comm n,←Nat.gcd_rec,Nat.gcd_comm]
 · have hn0:n=0:=dig_nil.1 (List.eq_nil_of_length_eq_zero (by omega))
   subst hn0
   rw [Nat.gcd_zero_right] at hg
   have e:(Int.gcd x y:Int).natAbs=m:=by rw [←hg];rfl
   have hs:=cSignedZ 1 (Int.gcd x y:Int) (by rw [e];omega) (.inl ⟨rfl,by omega⟩)
   rw [e] at hs ⊢
   have hc:=cChecked true (sg (Int.gcd x y:Int)) (dig m)
   refine rg ?_
   refine callk (cClone _ (by omega)) ?_
   refine rg ?_
   refine callk hs ?_
   refine rg ?_
   refine callk hc ?_
   conv=>simp (maxSteps:=2000000) (disch:=omega) only [go_sem,Nat.reduceAdd,Nat.reduceSub,Nat.reduceMul,Int.reduceToNat,Nat.reduceEqDiff,Nat.reduceBEq,Nat.reduceBneDiff,bigC]
   exact ⟨_,rfl,.one (.refl _)⟩
end Go.Slot.T

namespace Go.Slot
open Go Go.RowKit
theorem wu64 {n:Int} (h:0≤n∧n≤18446744073709551615):IntKind.u64.wrap n=n:=by
 unfold IntKind.wrap
 simp [IntKind.bits,IntKind.signed]
 omega
theorem pow_small {i:Nat} (h:i≤3):(i=0∧(1048576:Int) ^ i=1)∨(i=1∧(1048576:Int) ^ i=1048576)∨(i=2∧(1048576:Int) ^ i=1099511627776)∨(i=3∧(1048576:Int) ^ i=1152921504606846976):=by
 have:i=0∨i=1∨i=2∨i=3:=by omega
 rcases this with rfl | rfl | rfl | rfl
 · exact .inl ⟨rfl,by decide⟩
 · exact .inr (.inl ⟨rfl,by decide⟩)
 · exact .inr (.inr (.inl ⟨rfl,by decide⟩))
 · exact .inr (.inr (.inr ⟨rfl,by decide⟩))
theorem shlB {d:Int} {i:Nat} (hi:i≤3) (h0:0≤d) (h1:d*1048576 ^ i≤18446744073709551615):ishl .u64 d (20*(i:Int))=d*1048576 ^ i:=by
 unfold ishl
 have:(2:Int) ^ (min (20*(i:Int)).toNat IntKind.u64.bits)=1048576 ^ i:=by
  rcases pow_small hi with ⟨rfl,e⟩ | ⟨rfl,e⟩ | ⟨rfl,e⟩ | ⟨rfl,e⟩<;>rw [e]<;>decide
 rw [this]
 exact wu64 ⟨Int.mul_nonneg h0 (Int.le_of_lt (pow_pos' i)),h1⟩
theorem orB {u d:Int} {i:Nat} (hi:i≤3) (hu:0≤u∧u<1048576 ^ i) (h0:0≤d) (h1:d*1048576 ^ i+u≤18446744073709551615):ior .u64 u (d*1048576 ^ i)=u+d*1048576 ^ i:=by
 unfold ior
 have key:∀(k:Nat) (x y:Nat),x<2 ^ k→y*2 ^ k+x<2 ^ 64→(BitVec.ofInt 64 (x:Int) |||BitVec.ofInt 64 ((y*2 ^ k:Nat):Int)).toNat=y*2 ^ k+x:=fun k x y hx hy=>by
  rw [BitVec.toNat_or,BitVec.toNat_ofInt,BitVec.toNat_ofInt]
  have e1:(((x:Int)) % ((2 ^ 64:Nat):Int)).toNat=x:=by omega
  have e2:((((y*2 ^ k:Nat)):Int) % ((2 ^ 64:Nat):Int)).toNat=y <<< k:=by rw [Nat.shiftLeft_eq];omega
  rw [e1,e2,Nat.or_comm,←Nat.shiftLeft_add_eq_or_of_lt hx,Nat.shiftLeft_eq]
 obtain ⟨x,rfl⟩:=Int.eq_ofNat_of_zero_le hu.1
 obtain ⟨y,rfl⟩:=Int.eq_ofNat_of_zero_le h0
 have main:∀ k:Nat,(1048576:Int) ^ i=((2 ^ k:Nat):Int)→IntKind.u64.wrap ((BitVec.ofInt IntKind.u64.bits (x:Int) |||BitVec.ofInt IntKind.u64.bits ((y:Int)*1048576 ^ i)).toNat:Int)=(x:Int)+(y:Int)*1048576 ^ i:=fun k e=>by
  rw [e] at h1 hu ⊢
  have h2:(y:Int)*((2 ^ k:Nat):Int)=((y*2 ^ k:Nat):Int):=by rw [Int.natCast_mul]
  rw [h2] at h1 ⊢
  have h3:=key k x y (by omega) (by omega)
  rw [show IntKind.u64.bits=64 from rfl,h3,wu64 (by omega)]
  omega
 rcases pow_small hi with ⟨rfl,e⟩ | ⟨rfl,e⟩ | ⟨rfl,e⟩ | ⟨rfl,e⟩
 · exact main 0 (by rw [e];rfl)
 · exact main 20 (by rw [e];rfl)
 · exact main 40 (by rw [e];rfl)
 · exact main 60 (by rw [e];rfl)
theorem w64_neg {n:Int} (h:9223372036854775808≤n∧n≤18446744073709551615):IntKind.i64.wrap n=n-18446744073709551616:=by rw [IntKind.wrap_i64];omega
theorem wu64_neg {n:Int} (h:-18446744073709551616≤n∧n<0):IntKind.u64.wrap n=n+18446744073709551616:=by
 unfold IntKind.wrap
 simp [IntKind.bits,IntKind.signed]
 omega
attribute [go_sem] wu64
end Go.Slot
