/- The proof, part Y39: Ue, Uf, Ug, Uh. -/
import Derived.Test.YtjhbbadljohadaaGreatDoorY38
namespace Go.Hp.T
open Go Go.RowKit Go.Slot Go.Hp Go.Slot.T
open Go.Proofs.Tryz (prog)
set_option maxRecDepth 10000
set_option maxHeartbeats 4000000
variable {Γ:List (Nat×List Cell)}
theorem zze {x:ByteArray} (h:x.size=0):x=⟨#[]⟩:=ByteArray.ext (Array.eq_empty_of_size_eq_zero h)
theorem ziz (s:ByteArray):za8 s 0=s:=by
 unfold za8
 apply ByteArray.ext
 rw [ByteArray.data_extract]
 exact Array.extract_size
theorem yed {s:ByteArray} {a:Nat} (ha:a<=s.size):spN s a<=s.size:=by
 unfold spN
 cases zbw (za8 s a) with
 | true=>simp
 | false=>simpa using ha
theorem zzx {s:ByteArray} {a:Nat} (h:zbw (za8 s a)=true):za8 s (spN s a)=zb1 (za8 s a):=by
 unfold spN
 rw [h,cond_true]
 unfold zb1 zda
 cases zje (za8 s a) with
 | true=>
  simp only [cond_true,zgk]
  by_cases hl:a+zgo zaq (za8 s a)+1<=s.size
  · refine congrArg (za8 s) ?_
    rw [zas];omega
  · have e1:(za8 s (a+zgo zaq (za8 s a)+1)).size=0:=by rw [zas];omega
    rw [e1,Nat.sub_zero]
    have e2:(za8 s s.size).size=0:=by rw [zas];omega
    exact (zze e2).trans (zze e1).symm
 | false=>
  simp only [cond_false,zgk]
  by_cases hl:a+zgo zaq (za8 s a)<=s.size
  · refine congrArg (za8 s) ?_
    rw [zas];omega
  · have e1:(za8 s (a+zgo zaq (za8 s a))).size=0:=by rw [zas];omega
    rw [e1,Nat.sub_zero]
    have e2:(za8 s s.size).size=0:=by rw [zas];omega
    exact (zze e2).trans (zze e1).symm
def zvr (s:ByteArray) (p:Nat×List It) (k:Nat):Prop:=p.1<=s.size/\(za8 s p.1).size<k/\p.2.length+(za8 s p.1).size<=100/\zcz k (za8 s p.1) p.2=zbg s
def Hid (p:Prop):Prop:=p
theorem ygv (s:ByteArray) (hs:s.size<=1073741824):CallsD Γ prog 105 [.one (cS s)] (.tup [.one (.sl 2 ((itO (zbg s)).map It.C)),.one (cB (zbg s).isSome)]):=by
 by_cases h0:s.size=0
 · have hi:zbg s=some []:=by unfold zbg;rw [decide_eq_true h0];rfl
   rw [hi]
   refine CallsD.run [] Go.Proofs.Tryz.func105 rfl rfl rfl ?_;simp only [Go.Proofs.Tryz.f105];refine hgR ?_
   conv=>simp (maxSteps:=2000000) (disch:=omega) only [go_sem,Nat.reduceAdd,Nat.reduceSub,Nat.reduceMul,Int.reduceToNat,Nat.reduceEqDiff,Nat.reduceBEq,Nat.reduceBneDiff,Nat.reduceLT,Int.reduceEq,Int.reduceLT,Int.reduceLE,Int.reduceNeg,Int.reduceAdd,Int.reduceSub,Int.reduceMul,h0]
   repeat' ((first | refine hfk ?_ ?_<;>intros | refine hik ?_)<;>refine hgS ?_)
   exact .tup (.cons (.one (.nilSl 2)) (.cons (.refl _) .nil))
 by_cases h40:40<(s.size:Int)
 · have hi:zbg s=none:=by unfold zbg;rw [decide_eq_false h0,decide_eq_true h40];rfl
   rw [hi]
   clear hi
   have d0:decide (s.size=0)=false:=decide_eq_false h0
   have d1:decide (40<(s.size:Int))=true:=decide_eq_true h40
   refine CallsD.run [] Go.Proofs.Tryz.func105 rfl rfl rfl ?_;simp only [Go.Proofs.Tryz.f105];refine hgR ?_
   repeat' ((first | refine hfk ?_ ?_<;>intros | refine hik ?_)<;>refine hgS ?_)
   all_goals first
    | exact .tup (.cons (.one (.nilSl 2)) (.cons (.refl _) .nil))
    | (exfalso;simp_all;done)
 have hF:zbg s=zcz (s.size+2) (zbp s) []:=by unfold zbg;rw [decide_eq_false h0,decide_eq_false h40];rfl
 have hP:=yjh (s:=s) (by omega)
 have c0:=z81 (Γ:=Γ) s 0 hs (Nat.zero_le _)
 rw [ziz] at c0
 have hinv:∀ p k,zvr s p k->zcz k (za8 s p.1) p.2=zbg s:=fun p k h=>h.2.2.2
 have hst:zab s 0=49->zvr s (1,[]) (s.size+2):=fun h=>by
  have e:zbp s=za8 s 1:=by unfold zbp;rw [hP,decide_eq_true h];rfl
  have h1:=zas s 1
  exact ⟨by simp only;omega,by simp only;omega,by simp only [List.length_nil];omega,by simp only;rw [hF,e]⟩
 have hsplit:¬zab s 0=49->zbg s=bif zbw s then zcz (s.size+1) (zb1 s) [zbz s] else none:=fun h=>by
  have e:zbp s=⟨#[42]⟩++s:=by unfold zbp;rw [hP,decide_eq_false h];rfl
  rw [hF,e,zcz]
  have hs1:(⟨#[42]⟩++s:ByteArray).size=1+s.size:=by rw [ByteArray.size_append];rfl
  have hb:zab (⟨#[42]⟩++s) 0=42:=by
   unfold zab
   have:(⟨#[42]⟩++s:ByteArray).data=#[42]++s.data:=by simp
   rw [this,Array.getElem?_append_left (by simp)]
   rfl
  rw [decide_eq_false (show ¬(⟨#[42]⟩++s:ByteArray).size=0 by omega),z1c,hb,cond_false]
  cases zbw s with
  | false=>rfl
  | true=>rfl
 have hnext:¬zab s 0=49->zbw s=true->zvr s (spN s 0,[zbz s]) (s.size+1):=fun h hok=>by
  have e:=zzx (s:=s) (a:=0) (by rw [ziz];exact hok)
  rw [ziz] at e
  have h2:=zeu s
  have h3:=hsplit h
  rw [hok,cond_true] at h3
  exact ⟨yed (Nat.zero_le _),by simp only;rw [e];omega,by simp only [List.length_singleton];rw [e];omega,by simp only;rw [e,h3]⟩
 have hno:¬zab s 0=49->zbw s=false->zbg s=none:=fun h hok=>by rw [hsplit h,hok];rfl
 have hbody:∀ a acc k,zvr s (a,acc) k->a<s.size->zbg s=(bif !zbw (za8 s (a+1))||(decide (¬zab s a=42)&&decide (¬zab s a=47)) then none else zcz (k-1) (zb1 (za8 s (a+1))) (acc++[zwn (zab s a) (zbz (za8 s (a+1)))])):=fun a acc k h ha=>by
  obtain ⟨g1,g2,g3,g4⟩:=h
  simp only at g1 g2 g3 g4
  have hd:=zas s a
  obtain ⟨k,rfl⟩:∃ m,k=m+1:=⟨k-1,by omega⟩
  rw [zcz,decide_eq_false (show ¬(za8 s a).size=0 by omega),cond_false,zgk,zek s a 0 (by omega),Nat.add_zero] at g4
  exact g4.symm
 clear hF hP hsplit
 generalize hR:zbg s=R at *
 have bad:∀ b,R=none->b=false->RLe (.tup [.one (.raw (.slice none 0 0)),.one (cB b)]) (.tup [.one (.sl 2 ((itO R).map It.C)),.one (cB R.isSome)]):=fun b h hb=>by
  rw [h,hb];exact .tup (.cons (.one (.nilSl 2)) (.cons (.refl _) .nil))
 have hno':Hid (¬zab s 0=49->zbw s=false->R=none):=hno
 have hbody':Hid (∀ a acc k,zvr s (a,acc) k->a<s.size->R=(bif !zbw (za8 s (a+1))||(decide (¬zab s a=42)&&decide (¬zab s a=47)) then none else zcz (k-1) (zb1 (za8 s (a+1))) (acc++[zwn (zab s a) (zbz (za8 s (a+1)))]))):=hbody
 clear hno hbody hinv
 refine CallsD.run [(13,[.join])] Go.Proofs.Tryz.func105 rfl rfl rfl ?_;simp only [Go.Proofs.Tryz.f105];refine hgR ?_
 repeat' ((first | refine hfk ?_ ?_<;>intros | refine hik ?_)<;>refine hgS ?_)
 · exfalso;omega
 refine zfi [0,2,3] (fun p:Nat×List It=>[(4,.one (.sl 0 2 0 p.2.length)),(5,.one (.dat (cI p.1)))]) (fun p=>[.arr (.sl 2 (p.2.map It.C)) 0 (some 150)]) (fun p=>∃ k,zvr s p k) ?_ ?_
 · by_cases h1:zab s 0=49
   · conv=>simp (maxSteps:=2000000) (disch:=omega) only [go_sem,Nat.reduceAdd,Nat.reduceSub,Nat.reduceMul,Int.reduceToNat,Nat.reduceEqDiff,Nat.reduceBEq,Nat.reduceBneDiff,Nat.reduceLT,Int.reduceEq,Int.reduceLT,Int.reduceLE,Int.reduceNeg,Int.reduceAdd,Int.reduceSub,Int.reduceMul,h1]
     refine ⟨(1,[]),⟨_,hst h1⟩,?_⟩
     refine StH.trans (StH.empty (d:=4) (es:=2) (c:=.sl 2 []) (T:=some 150) rfl rfl (fun r hr=>by cases hr) rfl) ?_
     refine hg ?_
     exact StH.same svl rfl
   · cases hok:zbw s with
     | false=>
      unfold spI spN at c0
      rw [ziz,hok] at c0
      simp only [cond_false] at c0
      refine hg ?_
      repeat' ((first | refine hfk ?_ ?_<;>intros | refine hik ?_ | with_reducible first | refine za3 (c0) ?_ | refine za0 (c0) ?_)<;>refine hgS ?_)
      all_goals first
       | exact bad _ (hno' h1 hok) rfl
       | (exfalso;simp_all;done)
     | true=>
      unfold spI at c0
      rw [hok] at c0
      simp only [cond_true] at c0
      refine hg ?_
      repeat' ((first | refine hfk ?_ ?_<;>intros | refine hik ?_ | with_reducible first | refine za3 (c0) ?_ | refine za0 (c0) ?_)<;>refine hgS ?_)
      all_goals first
       | (exfalso;simp_all;done)
       | skip
      all_goals refine ⟨(spN s 0,[zbz s]),⟨_,hnext h1 hok⟩,?_⟩
      all_goals refine StH.back [0,2,3,4,5] 0 1 1 rfl rfl rfl rfl rfl (by kernel_rfl) (StH.same svl rfl)
 rintro ⟨a0,acc0⟩ ⟨k0,hk0⟩
 refine hg ?_
 refine zcu [0,2,3] (fun p:Nat×Nat×List It=>[(4,.one (.sl 0 2 0 p.2.2.length)),(5,.one (.dat (cI p.2.1)))]) (fun p=>[.arr (.sl 2 (p.2.2.map It.C)) 0 (some 150)]) (fun p=>zvr s (p.2.1,p.2.2) p.1) (fun p=>s.size-p.2.1) (k0,a0,acc0) hk0 ?_ ?_
 · refine hg ?_
   exact StH.same svl rfl
 rintro ⟨k,a,acc⟩ hk
 simp only at hk
 clear hk0 hst hnext hno' c0
 refine hg ?_
 refine zfv (fun hlt _=>?_) (fun hlt _=>?_)
 · have hlt':a<s.size:=by omega
   have hB:Hid (R=_):=hbody' a acc k hk hlt'
   have hacc:acc.length<=100:=by have:=hk.2.2.1;simp only at this;omega
   clear hbody'
   have c1:=z81 (Γ:=Γ) s (a+1) hs (by omega)
   have hce:=zx2 (za8 s (a+1))
   have e1:((a+1:Nat):Int)=(a:Int)+1:=by omega
   cases hok:zbw (za8 s (a+1)) with
   | false=>
    unfold spI spN at c1
    rw [hok,e1] at c1
    simp only [cond_false] at c1
    have hB':Hid (R=none):=by unfold Hid at hB ⊢;rw [hB,hok];rfl
    clear hB hce hk
    refine hg ?_
    repeat' ((first | refine hfk ?_ ?_<;>intros | refine hik ?_ | with_reducible first | refine za3 (c1) ?_ | refine za0 (c1) ?_)<;>refine hgS ?_)
    all_goals exact bad _ hB' rfl
   | true=>
    have hsp:=zzx hok
    unfold spI at c1
    rw [hok,e1] at c1
    simp only [cond_true] at c1
    have hdone:∀ x:It,Hid (R=zcz (k-1) (zb1 (za8 s (a+1))) (acc++[x]))->Hid (zvr s (spN s (a+1),acc++[x]) (k-1)/\s.size-spN s (a+1)<s.size-a):=fun x h=>by
     obtain ⟨g1,g2,g3,g4⟩:=hk
     simp only at g1 g2 g3 g4
     have h1:=zeu (za8 s (a+1))
     have h2:=zas s (a+1)
     have h3:=zas s a
     have h4:=zas s (spN s (a+1))
     have h5:=yed (s:=s) (a:=a+1) (by omega)
     rw [hsp] at h4
     refine ⟨⟨h5,by simp only;rw [hsp];omega,by simp only [List.length_append,List.length_singleton];rw [hsp];omega,by simp only;rw [hsp,hR];exact Eq.symm h⟩,by omega⟩
    clear hk
    generalize spN s (a+1)=b at c1 hsp hdone
    have hmap:∀ x:It,acc.map It.C++[itC x]=(acc++[x]).map It.C:=fun x=>by simp;rfl
    refine hg ?_
    repeat' ((first | refine hfk ?_ ?_<;>intros | refine hik ?_ | with_reducible first | refine za3 (c1) ?_ | refine za0 (c1) ?_)<;>refine hgS ?_)
    · have hb:zab s a=47:=by assumption
      have h':R=zcz (k-1) (zb1 (za8 s (a+1))) (acc++[⟨(zbz (za8 s (a+1))).w,0-(zbz (za8 s (a+1))).e⟩]):=by
       have h2:R=_:=hB
       rw [h2,hok,hb];rfl
      obtain ⟨i1,i2⟩:=hdone ⟨(zbz (za8 s (a+1))).w,0-(zbz (za8 s (a+1))).e⟩ h'
      refine ⟨(k-1,b,acc++[⟨(zbz (za8 s (a+1))).w,0-(zbz (za8 s (a+1))).e⟩]),i1,i2,?_⟩
      rw [hmap ⟨(zbz (za8 s (a+1))).w,0-(zbz (za8 s (a+1))).e⟩]
      refine StH.back [0,2,3,4,5] 0 2 1 rfl rfl rfl rfl rfl (by kernel_rfl) ?_
      refine hg ?_
      exact StH.same svl rfl
    · exfalso;simp_all
    · refine bad _ ?_ rfl
      have h2:R=_:=hB
      rw [h2,hok,show decide (¬zab s a=42)=true from decide_eq_true (by assumption),show decide (¬zab s a=47)=true from decide_eq_true (by assumption)]
      rfl
    · exfalso;omega
    · have hb:zab s a=42:=Decidable.not_not.1 (by assumption)
      have h':R=zcz (k-1) (zb1 (za8 s (a+1))) (acc++[zbz (za8 s (a+1))]):=by
       have h2:R=_:=hB
       rw [h2,hok,hb];rfl
      obtain ⟨i1,i2⟩:=hdone (zbz (za8 s (a+1))) h'
      refine ⟨(k-1,b,acc++[zbz (za8 s (a+1))]),i1,i2,?_⟩
      try rw [hmap (zbz (za8 s (a+1)))]
      refine StH.back [0,2,3,4,5] 0 2 1 rfl rfl rfl rfl rfl (by kernel_rfl) ?_
      refine hg ?_
      exact StH.same svl rfl
 · obtain ⟨g1,g2,g3,g4⟩:=hk
   simp only at g1 g2 g4
   obtain ⟨k,rfl⟩:∃ m,k=m+1:=⟨k-1,by omega⟩
   rw [zcz,decide_eq_true (show (za8 s a).size=0 by rw [zas];omega),cond_true,hR] at g4
   refine hg ?_
   rw [<-g4]
   exact RLe.ofEq rfl
end Go.Hp.T

namespace Go.Hp.T
open Go Go.RowKit Go.Slot Go.Hp Go.Slot.T
open Go.Proofs.Tryz (prog)
set_option maxRecDepth 10000
set_option maxHeartbeats 4000000
variable {Γ:List (Nat×List Cell)}
theorem ydo (a f:Rat) (x:Int):∀ i,pw a f x i=a*pw (1:Int) f x i
 | 0=>by rw [zm6,zm6];exact (Rat.mul_one a).symm
 | i+1=>by
  have ih:=ydo a f x i
  by_cases h:0<x
  · rw [zvn h,zvn h,ih,Rat.mul_assoc]
  · rw [zvk h,zvk h,ih,Rat.div_def,Rat.div_def,Rat.mul_assoc]
theorem z21 (a f:Rat) (x:Int):a*zht (1:Int) f x=zht a f x:=by
 rw [zf6,zf6,<-ydo]
theorem yn5 (s:ByteArray) (hs:s.size<=1073741824):CallsD Γ prog 79 [.one (cS s)] (.tup [.agg (unO (zaz s).1),.one (cI (zaz s).2)]):=by
 refine CallsD.run [] Go.Proofs.Tryz.func79 rfl rfl rfl ?_;simp only [Go.Proofs.Tryz.f79];refine hgR ?_
 refine za3 (ygv s hs) ?_
 cases hi:zbg s with
 | none=>
  conv=>simp (maxSteps:=2000000) (disch:=omega) only [go_sem,Nat.reduceAdd,Nat.reduceSub,Nat.reduceMul,Int.reduceToNat,Nat.reduceEqDiff,Nat.reduceBEq,Nat.reduceBneDiff,Nat.reduceLT,Int.reduceEq,Int.reduceLT,Int.reduceLE,Int.reduceNeg,Int.reduceAdd,Int.reduceSub,Int.reduceMul,Option.isSome,itO]
  exact RLe.ofEq (by simp only [zaz,hi];rfl)
 | some l=>
  obtain ⟨hl,hx⟩:=zv7 hi
  conv=>simp (maxSteps:=2000000) (disch:=omega) only [go_sem,Nat.reduceAdd,Nat.reduceSub,Nat.reduceMul,Int.reduceToNat,Nat.reduceEqDiff,Nat.reduceBEq,Nat.reduceBneDiff,Nat.reduceLT,Int.reduceEq,Int.reduceLT,Int.reduceLE,Int.reduceNeg,Int.reduceAdd,Int.reduceSub,Int.reduceMul,Option.isSome,itO]
  refine za3 (zqa 1 (by decide)) ?_
  refine hg ?_
  refine zcu [2,4,6] (fun p:Nat×Un=>[(7,.one (.dat (cI p.1)))]) (fun p=>[.box (unZ.map .dat) (some 49),.box ((unC p.2).map .dat) (some 49)])
   (fun p=>p.1<=l.length/\p.2.d.le (27*p.1)/\qs p.2.f<=1+100*p.1/\zpt (l.drop p.1) p.2=zpt l ⟨Dm.zero,(1:Int)⟩) (fun p=>l.length-p.1) (0,⟨Dm.zero,(1:Int)⟩) ⟨Nat.zero_le _,by unfold Dm.le;decide,zy2,rfl⟩ ?_ ?_
  · refine hg ?_
    exact StH.same svl rfl
  rintro ⟨i,u⟩ ⟨h1,h2,h3,h4⟩
  simp only at h1 h2 h3 h4
  refine hg ?_
  refine zfv (fun hlt _=>?_) (fun hlt _=>?_)
  · have hlt':i<l.length:=by omega
    have hok:=hx _ (zal hlt')
    rw [zed hlt',zpt] at h4
    refine hg ?_
    refine za3 (yn8 _ (by have:=hok.2.1;omega)) ?_
    cases hw:zcy (l.getD i default).w with
    | none=>
     conv=>simp (maxSteps:=2000000) (disch:=omega) only [go_sem,Nat.reduceAdd,Nat.reduceSub,Nat.reduceMul,Int.reduceToNat,Nat.reduceEqDiff,Nat.reduceBEq,Nat.reduceBneDiff,Nat.reduceLT,Int.reduceEq,Int.reduceLT,Int.reduceLE,Int.reduceNeg,Int.reduceAdd,Int.reduceSub,Int.reduceMul,Option.isSome,unO]
     rw [hw] at h4
     exact RLe.ofEq (by simp only [zaz,hi,<-h4])
    | some v=>
     obtain ⟨hv1,hv2,hv3⟩:=zop hw
     have hv4:=z28 hw
     rw [hw] at h4
     obtain ⟨b1,b2,b3,b4,b5,b6⟩:=h2
     obtain ⟨d1,d2,d3,d4,d5,d6⟩:=hv1
     have he:=hok.2.2
     have c1:=zhz d1 he
     have c2:=zhz d2 he
     have c3:=zhz d3 he
     have c4:=zhz d4 he
     have c5:=zhz d5 he
     have c6:=zhz d6 he
     have hq:qs (zht u.f v.f (l.getD i default).e)<=qs u.f+9*(qs v.f+1):=by
      have:=zxa u.f v.f (l.getD i default).e (l.getD i default).e.natAbs
      rw [<-zf6] at this
      have h9:(l.getD i default).e.natAbs*(qs v.f+1)<=9*(qs v.f+1):=Nat.mul_le_mul_right _ (by omega)
      omega
     have hq1:qs (zht (1:Int) v.f (l.getD i default).e)<=1+9*(qs v.f+1):=by
      have:=zxa (1:Int) v.f (l.getD i default).e (l.getD i default).e.natAbs
      rw [<-zf6] at this
      have h9:(l.getD i default).e.natAbs*(qs v.f+1)<=9*(qs v.f+1):=Nat.mul_le_mul_right _ (by omega)
      have:=zy2
      omega
     have hle:(u.d.acc v.d (l.getD i default).e).le (27*(i+1:Nat)):=by
      have:=Dm.yds (x:=u.d) ⟨b1,b2,b3,b4,b5,b6⟩ ⟨d1,d2,d3,d4,d5,d6⟩ he
      rw [show (27*((i+1:Nat):Int))=27*i+27 from by omega]
      exact this
     have hm:=z2t (Γ:=Γ) u.f (zht (1:Int) v.f (l.getD i default).e) (by omega) (by omega)
     rw [z21] at hm
     conv=>simp (maxSteps:=2000000) (disch:=omega) only [go_sem,Nat.reduceAdd,Nat.reduceSub,Nat.reduceMul,Int.reduceToNat,Nat.reduceEqDiff,Nat.reduceBEq,Nat.reduceBneDiff,Nat.reduceLT,Int.reduceEq,Int.reduceLT,Int.reduceLE,Int.reduceNeg,Int.reduceAdd,Int.reduceSub,Int.reduceMul,Option.isSome,unO]
     repeat' ((first | refine hfk ?_ ?_<;>intros | refine hik ?_ | with_reducible refine zcs ?_ | with_reducible refine zfj ?_ | with_reducible first | refine za3 (z5s v.f (l.getD i default).e (by omega) (by omega) hv4) ?_ | refine za0 (z5s v.f (l.getD i default).e (by omega) (by omega) hv4) ?_ | refine za3 (hm) ?_ | refine za0 (hm) ?_)<;>refine hgS ?_)
     refine ⟨(i+1,⟨u.d.acc v.d (l.getD i default).e,zht u.f v.f (l.getD i default).e⟩),?_,?_,?_⟩
     · dsimp only
       exact ⟨by omega,hle,by omega,h4⟩
     · dsimp only
       omega
     refine StH.back [2,4,6,7] 2 2 2 rfl rfl rfl rfl rfl (by kernel_rfl) ?_
     refine hg ?_
     exact StH.same svl rfl
  · have h4':zpt l ⟨Dm.zero,(1:Int)⟩=some u:=by rw [<-h4,List.drop_eq_nil_of_le (by omega)];rfl
    refine hg ?_
    repeat' ((first | refine hfk ?_ ?_<;>intros | refine hik ?_ | with_reducible first | refine za3 (zk4 _) ?_ | refine za0 (zk4 _) ?_)<;>refine hgS ?_)
    all_goals
     rename_i hd
     exact RLe.ofEq (by simp only [zaz,hi,h4',hd];rfl)
end Go.Hp.T

namespace Go.Hp.T
open Go Go.RowKit Go.Slot Go.Hp Go.Slot.T
open Go.Proofs.Tryz (prog)
set_option maxRecDepth 10000
set_option maxHeartbeats 4000000
variable {Γ:List (Nat×List Cell)}
theorem zw3 (s:ByteArray) (hs:s.size<=1073741824):CallsD Γ prog 79 [.one (cS s)] (.tup [.agg (unX (zaz s).1),.one (cI (zaz s).2)]):=by
 have:=yn5 (Γ:=Γ) s hs
 rw [ydt] at this
 exact this
theorem ycb (t:Tb) (h1:t.name.size<=1073741824) (h2:t.unit.size<=1073741824) (h3:t.rows.length<=1073741824):CallsD Γ prog 49 [.agg (tbC t)] (.one (cB (zca (fun s=>(zaz s).2) t))):=by
 generalize hR:zca (fun s=>(zaz s).2) t=R
 have u1:=zw3 (Γ:=Γ) t.unit h2
 have n1:=ya5 (Γ:=Γ) t.name h1
 refine CallsD.run [] Go.Proofs.Tryz.func49 rfl rfl rfl ?_;simp only [Go.Proofs.Tryz.f49];refine hgR ?_
 repeat' ((first | refine hfk ?_ ?_<;>intros | refine hik ?_ | with_reducible first | refine za3 (u1) ?_ | refine za0 (u1) ?_ | refine za3 (n1) ?_ | refine za0 (n1) ?_)<;>refine hgS ?_)
 all_goals first
  | (refine zcu [1] (fun i:Nat=>[(5,.one (.dat (cI i)))]) (fun _=>[.box ((tbC t).map .dat) (some 55),.box ((unX (zaz t.unit).1).map .dat) (some 49)]) (fun i=>i<=t.rows.length/\∀ j,j<i->rowAt t.rows j=true) (fun i=>t.rows.length-i) 0 ⟨Nat.zero_le _,fun j hj=>by omega⟩ ?_ ?_)
  | (refine RLe.ofEq ?_;rw [<-hR];simp [zca, *];done)
 · refine hg ?_
   exact StH.same svl rfl
 rintro i ⟨hi,hj⟩
 have hbad:Hid (rowAt t.rows i=false->i<t.rows.length->R=false):=fun h h'=>by
  rw [<-hR];unfold zca z8g;rw [zey h' h,Bool.and_false]
 refine hg ?_
 repeat' ((first | refine hfk ?_ ?_<;>intros | refine hik ?_ | with_reducible first | refine za3 (yl5 _) ?_ | refine za0 (yl5 _) ?_)<;>refine hgS ?_)
 all_goals first
  | (refine RLe.ofEq ?_;rw [(hbad:rowAt t.rows i=false->i<t.rows.length->R=false) (by ((conv=>simp only [Bool.and_true,Bool.true_and,Bool.and_false,Bool.false_and,Bool.or_true,Bool.true_or,Bool.or_false,Bool.false_or,Bool.not_true,Bool.not_false,decide_true,decide_false,not_true_eq_false,not_false_eq_true,za2,if_true,if_false,Bool.and_self,Bool.or_self,cond_true,cond_false,List.length_map,ne_eq,Int.reduceEq,Int.reduceLT,Int.reduceLE, *,rowAt])<;>try exact trivial)) (by omega)];done)
  | (refine ⟨i+1,⟨by omega,zho hj (by ((conv=>simp only [Bool.and_true,Bool.true_and,Bool.and_false,Bool.false_and,Bool.or_true,Bool.true_or,Bool.or_false,Bool.false_or,Bool.not_true,Bool.not_false,decide_true,decide_false,not_true_eq_false,not_false_eq_true,za2,if_true,if_false,Bool.and_self,Bool.or_self,cond_true,cond_false,List.length_map,ne_eq,Int.reduceEq,Int.reduceLT,Int.reduceLE, *,rowAt])<;>try exact trivial))⟩,by omega,StH.same svl rfl⟩)
  | (refine RLe.ofEq ?_;rw [<-hR,show zca (fun s=>(zaz s).2) t=true from by unfold zca z8g;rw [zl9 (fun j hj'=>hj j (by omega))];simp [*]];done)
def okV (vs:List Vr) (i:Nat):Bool:=isName (vs.getD i default).name&&!isWord (vs.getD i default).name&&zaw (vs.getD i default).d&&!decide (0<=idxF (fun u:Vr=>seq u.name (vs.getD i default).name) (vs.take i))
def okT (vs:List Vr) (ms:List Tb) (i:Nat):Bool:=zca (fun s=>(zaz s).2) (ms.getD i default)&&!isWord (ms.getD i default).name&&!decide (0<=idxF (fun u:Tb=>seq u.name (ms.getD i default).name) (ms.take i))&&!decide (0<=idxF (fun u:Vr=>seq u.name (ms.getD i default).name) vs)
def rR15 (vs:List Vr) (ms:List Tb):Bool:=(List.range vs.length).all (okV vs)&&(List.range ms.length).all (okT vs ms)
theorem ydb (vs:List Vr) (ms:List Tb) (hv:vs.length<=1073741824) (hm:ms.length<=1073741824) (hvn:∀ v∈vs,v.name.size<=1073741824) (hms:∀ t∈ms,t.Sm):CallsD Γ prog 25 [.one (.sl 7 (vs.map Vr.C)),.one (.sl 3 (ms.map Tb.C))] (.one (cB (rR15 vs ms))):=by
 generalize hR:rR15 vs ms=R
 refine CallsD.run [] Go.Proofs.Tryz.func25 rfl rfl rfl ?_;simp only [Go.Proofs.Tryz.f25];refine hgR ?_
 refine zcu [0,1] (fun i:Nat=>[(5,.one (.dat (cI i)))]) (fun _=>[]) (fun i=>i<=vs.length/\∀ j,j<i->okV vs j=true) (fun i=>vs.length-i) 0 ⟨Nat.zero_le _,fun j hj=>by omega⟩ ?_ ?_
 · refine hg ?_
   exact StH.same svl rfl
 rintro i ⟨hi,hj⟩
 refine hg ?_
 refine zfv (fun hlt _=>?_) (fun hlt _=>?_)
 · have hlt':i<vs.length:=by omega
   have hmem:=zal hlt'
   have c1:=ya5 (Γ:=Γ) (vs.getD i default).name (hvn _ hmem)
   have c2:=ycj (Γ:=Γ) (vs.getD i default).name
   have c3:=zk4 (Γ:=Γ) (vs.getD i default).d
   have c4:=z4z (Γ:=Γ) (vs.take i) (vs.getD i default).name (by simp;omega)
   rw [List.map_take] at c4
   have l0:i-0=i:=rfl
   refine hgS ?_
   have hbad:Hid (okV vs i=false->R=false):=fun h=>by rw [<-hR];unfold rR15;rw [zey hlt' h];rfl
   repeat' ((first | refine hfk ?_ ?_<;>intros | refine hik ?_ | with_reducible first | refine za3 (c1) ?_ | refine za0 (c1) ?_ | refine za3 (c2) ?_ | refine za0 (c2) ?_ | refine za3 (c3) ?_ | refine za0 (c3) ?_ | refine za3 (c4) ?_ | refine za0 (c4) ?_)<;>refine hgS ?_)
   all_goals first
    | (refine RLe.ofEq ?_;rw [(hbad:okV vs i=false->R=false) (by ((conv=>simp only [Bool.and_true,Bool.true_and,Bool.and_false,Bool.false_and,Bool.or_true,Bool.true_or,Bool.or_false,Bool.false_or,Bool.not_true,Bool.not_false,decide_true,decide_false,not_true_eq_false,not_false_eq_true,za2,if_true,if_false,Bool.and_self,Bool.or_self,cond_true,cond_false,List.length_map,ne_eq,Int.reduceEq,Int.reduceLT,Int.reduceLE, *,okV])<;>try exact trivial))];done)
    | (refine ⟨i+1,⟨by omega,zco hj (by ((conv=>simp only [Bool.and_true,Bool.true_and,Bool.and_false,Bool.false_and,Bool.or_true,Bool.true_or,Bool.or_false,Bool.false_or,Bool.not_true,Bool.not_false,decide_true,decide_false,not_true_eq_false,not_false_eq_true,za2,if_true,if_false,Bool.and_self,Bool.or_self,cond_true,cond_false,List.length_map,ne_eq,Int.reduceEq,Int.reduceLT,Int.reduceLE, *,okV])<;>try exact trivial))⟩,by omega,StH.back [0,1,5] 0 0 0 rfl rfl rfl rfl rfl (by kernel_rfl) (StH.same svl rfl)⟩)
 have hvs:(List.range vs.length).all (okV vs)=true:=zl9 (fun j hj'=>hj j (by omega))
 clear hj hlt hi
 refine hg ?_
 refine zcu [0,1] (fun i:Nat=>[(7,.one (.dat (cI i)))]) (fun _=>[]) (fun i=>i<=ms.length/\∀ j,j<i->okT vs ms j=true) (fun i=>ms.length-i) 0 ⟨Nat.zero_le _,fun j hj=>by omega⟩ ?_ ?_
 · refine hg ?_
   exact StH.same svl rfl
 rintro i ⟨hi,hj⟩
 refine hg ?_
 refine zfv (fun hlt _=>?_) (fun hlt _=>?_)
 · have hlt':i<ms.length:=by omega
   have hmem:=hms _ (zal hlt')
   have c1:=ycb (Γ:=Γ) (ms.getD i default) hmem.n hmem.u hmem.r
   have c2:=ycj (Γ:=Γ) (ms.getD i default).name
   have c3:=z4z (Γ:=Γ) vs (ms.getD i default).name hv
   have c4:=zyb (Γ:=Γ) (ms.take i) (ms.getD i default).name (by simp;omega)
   rw [List.map_take] at c4
   have l0:i-0=i:=rfl
   have hbad:Hid (okT vs ms i=false->R=false):=fun h=>by rw [<-hR];unfold rR15;rw [zey hlt' h,Bool.and_false]
   clear hvs
   refine hgS ?_
   repeat' ((first | refine hfk ?_ ?_<;>intros | refine hik ?_ | with_reducible first | refine za3 (c1) ?_ | refine za0 (c1) ?_ | refine za3 (c2) ?_ | refine za0 (c2) ?_ | refine za3 (c3) ?_ | refine za0 (c3) ?_ | refine za3 (c4) ?_ | refine za0 (c4) ?_)<;>refine hgS ?_)
   all_goals first
    | (refine RLe.ofEq ?_;rw [(hbad:okT vs ms i=false->R=false) (by ((conv=>simp only [Bool.and_true,Bool.true_and,Bool.and_false,Bool.false_and,Bool.or_true,Bool.true_or,Bool.or_false,Bool.false_or,Bool.not_true,Bool.not_false,decide_true,decide_false,not_true_eq_false,not_false_eq_true,za2,if_true,if_false,Bool.and_self,Bool.or_self,cond_true,cond_false,List.length_map,ne_eq,Int.reduceEq,Int.reduceLT,Int.reduceLE, *,okT])<;>try exact trivial))];done)
    | (refine ⟨i+1,⟨by omega,zco hj (by ((conv=>simp only [Bool.and_true,Bool.true_and,Bool.and_false,Bool.false_and,Bool.or_true,Bool.true_or,Bool.or_false,Bool.false_or,Bool.not_true,Bool.not_false,decide_true,decide_false,not_true_eq_false,not_false_eq_true,za2,if_true,if_false,Bool.and_self,Bool.or_self,cond_true,cond_false,List.length_map,ne_eq,Int.reduceEq,Int.reduceLT,Int.reduceLE, *,okT])<;>try exact trivial))⟩,by omega,StH.back [0,1,7] 0 0 0 rfl rfl rfl rfl rfl (by kernel_rfl) (StH.same svl rfl)⟩)
 · have hR2:R=true:=by rw [<-hR];unfold rR15;rw [hvs,zl9 (fun j hj'=>hj j (by omega))];rfl
   subst hR2
   refine hg ?_
   exact RLe.ofEq rfl
def zim (o:Int) (un nm:ByteArray) (ts:List Ty) (vs:List Vr) (ms:List Tb):Ty×Int:=
 bif decide (o=0) then (bif decide (¬(zaz un).2=0) then (Ty.zero,14) else (⟨false,dmO (zaz un).1⟩,0)) else
 bif decide (o=1) then (bif decide (idxF (fun v:Vr=>seq v.name nm) vs<0) then (Ty.zero,11) else (⟨false,(vs.getD (idxF (fun v:Vr=>seq v.name nm) vs).toNat default).d⟩,0)) else
 bif decide (o=2) then (bif decide (idxF (fun t:Tb=>seq t.name nm) ms<0) then (Ty.zero,11) else bif (ts.getD 0 default).t then (Ty.zero,13) else bif decide (¬(ts.getD 0 default).d=Dm.zero) then (Ty.zero,14) else (⟨false,dmO (zaz (ms.getD (idxF (fun t:Tb=>seq t.name nm) ms).toNat default).unit).1⟩,0)) else
 bif decide (o=4) then (bif !(ts.getD 0 default).t then (Ty.zero,13) else (ts.getD 0 default,0)) else
 bif decide (o=14)||decide (o=15) then (bif !(ts.getD 0 default).t||!(ts.getD 1 default).t then (Ty.zero,13) else (ts.getD 0 default,0)) else
 bif decide (o=5) then (bif !(ts.getD 0 default).t then (Ty.zero,13) else bif decide (¬zia (ts.getD 1 default) (ts.getD 2 default)=0) then (Ty.zero,zia (ts.getD 1 default) (ts.getD 2 default)) else (ts.getD 1 default,0)) else
 bif decide (o=8)||decide (o=9) then (bif (ts.getD 0 default).t||(ts.getD 1 default).t then (Ty.zero,13) else bif decide (¬(dMul (ts.getD 0 default).d (bif decide (o=9) then (ts.getD 1 default).d.neg else (ts.getD 1 default).d)).2=0) then (Ty.zero,14) else (⟨false,(dMul (ts.getD 0 default).d (bif decide (o=9) then (ts.getD 1 default).d.neg else (ts.getD 1 default).d)).1⟩,0)) else
 bif decide (¬zia (ts.getD 0 default) (ts.getD 1 default)=0) then (Ty.zero,zia (ts.getD 0 default) (ts.getD 1 default)) else
 bif decide (o=12)||decide (o=13) then (⟨true,Dm.zero⟩,0) else (ts.getD 0 default,0)
end Go.Hp.T

namespace Go.Hp.T
open Go Go.RowKit Go.Slot Go.Hp Go.Slot.T
open Go.Proofs.Tryz (prog)
set_option maxRecDepth 10000
set_option maxHeartbeats 8000000
variable {Γ:List (Nat×List Cell)}
theorem zpm {α:Type} (p:α->Bool):∀ l:List α,idxF p l<l.length
 | []=>by unfold idxF;simp
 | x::l=>by
  have:=zpm p l
  unfold idxF
  rw [List.length_cons]
  cases p x with
  | true=>rw [cond_true];omega
  | false=>
   by_cases h:idxF p l = -1
   · rw [cond_false,decide_eq_true h,cond_true];omega
   · rw [cond_false,decide_eq_false h,cond_false];omega
theorem yet (x:Ex) (ts:List Ty) (vs:List Vr) (ms:List Tb) (hx:x.Sm) (hv:vs.length<=1073741824) (hm:ms.length<=1073741824) (hms:∀ t∈ms,t.Sm) (hl:ts.length<=1073741824)
 (hA:x.op≠0->x.op≠1->1<=ts.length) (hB:x.op≠0->x.op≠1->x.op≠2->x.op≠4->2<=ts.length) (hC:x.op=5->3<=ts.length) (hD:∀ t∈ts,zaw t.d=true) :
 CallsD Γ prog 51 [.agg (exC x),.one (.sl 7 (ts.map Ty.C)),.one (.sl 7 (vs.map Vr.C)),.one (.sl 3 (ms.map Tb.C))] (tyR (zim x.op x.unit x.name ts vs ms)):=by
 have u1:=zw3 (Γ:=Γ) x.unit hx.u
 have v1:=z4z (Γ:=Γ) vs x.name hv
 have t1:=zyb (Γ:=Γ) ms x.name hm
 have b1:=zpm (fun v:Vr=>seq v.name x.name) vs
 have b2:=zpm (fun t:Tb=>seq t.name x.name) ms
 have u2:0<=idxF (fun t:Tb=>seq t.name x.name) ms->CallsD Γ prog 79 [.one (cS (ms.getD (idxF (fun t:Tb=>seq t.name x.name) ms).toNat default).unit)] (.tup [.agg (unX (zaz (ms.getD (idxF (fun t:Tb=>seq t.name x.name) ms).toNat default).unit).1),.one (cI (zaz (ms.getD (idxF (fun t:Tb=>seq t.name x.name) ms).toNat default).unit).2)]):=fun h=>zw3 _ (hms _ (zal (by omega))).u
 have hd1:2<=ts.length->zaw (ts.getD 1 default).d=true:=fun h=>hD _ (zal (by omega))
 unfold zim
 rcases e0:ts.getD 0 default with ⟨t0,d0⟩
 rcases e1:ts.getD 1 default with ⟨t1',d1⟩
 rcases e2:ts.getD 2 default with ⟨t2',d2⟩
 rw [e1] at hd1
 have n1:=zra (Γ:=Γ) ⟨t0,d0⟩ ⟨t1',d1⟩
 have n2:=zra (Γ:=Γ) ⟨t1',d1⟩ ⟨t2',d2⟩
 have m1:=yk8 (Γ:=Γ) d0 d1
 have m2:=yk8 (Γ:=Γ) d0 d1.neg
 have w1:2<=ts.length->CallsD Γ prog 82 [.agg (dmC d1)] (.agg (dmC d1.neg)):=fun h=>z47 _ (hd1 h)
 generalize idxF (fun v:Vr=>seq v.name x.name) vs=k1 at v1 b1 ⊢
 generalize idxF (fun t:Tb=>seq t.name x.name) ms=k2 at t1 b2 u2 ⊢
 try dsimp only
 generalize d1.neg=e3 at m2 w1 ⊢
 generalize zia ⟨t0,d0⟩ ⟨t1',d1⟩=q1 at n1 ⊢
 generalize zia ⟨t1',d1⟩ ⟨t2',d2⟩=q2 at n2 ⊢
 try dsimp only at n1 n2
 clear hms hD hd1
 refine CallsD.run [] Go.Proofs.Tryz.func51 rfl rfl rfl ?_;simp only [Go.Proofs.Tryz.f51];refine hgR ?_
 repeat' ((first | refine hfk ?_ ?_<;>intros | refine hik ?_ | with_reducible first | refine za3 (u1) ?_ | refine za0 (u1) ?_ | refine za3 (v1) ?_ | refine za0 (v1) ?_ | refine za3 (t1) ?_ | refine za0 (t1) ?_ | refine za3 (u2 (by omega)) ?_ | refine za0 (u2 (by omega)) ?_ | refine za3 (n1) ?_ | refine za0 (n1) ?_ | refine za3 (n2) ?_ | refine za0 (n2) ?_ | refine za3 (w1 (by omega)) ?_ | refine za0 (w1 (by omega)) ?_ | refine za3 (m1) ?_ | refine za0 (m1) ?_ | refine za3 (m2) ?_ | refine za0 (m2) ?_)<;>refine hgS ?_)
 all_goals (refine RLe.ofEq ?_;conv=>simp only [Bool.and_true,Bool.true_and,Bool.and_false,Bool.false_and,Bool.or_true,Bool.true_or,Bool.or_false,Bool.false_or,Bool.not_true,Bool.not_false,decide_true,decide_false,not_true_eq_false,not_false_eq_true,za2,if_true,if_false,Bool.and_self,Bool.or_self,cond_true,cond_false,List.length_map,ne_eq,Int.reduceEq,Int.reduceLT,Int.reduceLE, *]);first | exact trivial | rfl
theorem zj3 {x:Ex} (h:zd5 x=true) (h0:x.op≠0) (h1:x.op≠1):x.args.length≠0:=by
 intro e
 unfold zd5 at h
 rw [decide_eq_false h0,decide_eq_false h1,e] at h
 cases hb:(decide (¬x.n=0)||decide (¬x.unit.size=0)) with
 | true=>rw [hb] at h;cases h
 | false=>
  rw [hb] at h
  simp at h
def okTy (t:Ty):Prop:=zaw t.d=true/\(t.t=true->t.d=Dm.zero)
theorem ya2 (V T:List (ByteArray×Dm)) (vs:List Vr) (ms:List Tb) (hv:vs.length<=1073741824) (hm:ms.length<=1073741824) (hms:∀ t∈ms,t.Sm)
 (H:∀(x:Ex) (ts:List Ty),zd5 x=true->x.op≠3->ts.length=x.args.length->(∀ t∈ts,okTy t)->zim x.op x.unit x.name ts vs ms=bif decide ((x.args.length:Int)=0) then znf V x else zjw T x.op x.name ts)
 (Hok:∀ x:Ex,x.shaped=true->(x.ty V T).2=0->okTy (x.ty V T).1) :
 ∀ x:Ex,x.Sm->x.shaped=true->x.zci=false->CallsD Γ prog 26 [.agg (exC x),.one (.sl 7 (vs.map Vr.C)),.one (.sl 3 (ms.map Tb.C))] (tyR (x.ty V T)):=by
 refine Ex.ind (fun x ih hx hsh hcl=>?_)
 have hl:=hx.len
 have hnode:zd5 x=true:=by rw [Ex.zeg,Bool.and_eq_true] at hsh;exact hsh.1
 have hargs:∀ y∈x.args,y.shaped=true:=by rw [Ex.zeg,Bool.and_eq_true,List.all_eq_true] at hsh;exact hsh.2
 have hcalls:x.op≠3/\∀ y∈x.args,y.zci=false:=by
  rw [Ex.zgm,Bool.or_eq_false_iff,decide_eq_false_iff_not,List.any_eq_false] at hcl
  exact ⟨hcl.1,fun y hy=>by simpa using hcl.2 y hy⟩
 have hinl:∀ e,Ex.tyL V T x.args=.inl e->x.ty V T=(Ty.zero,e):=fun e h=>by
  rw [Ex.z32,h]
  by_cases h0:(x.args.length:Int)=0
  · rw [List.eq_nil_of_length_eq_zero (show x.args.length=0 by omega),Ex.tyL] at h;cases h
  · rw [decide_eq_false h0];rfl
 have hinr:∀ ts,Ex.tyL V T x.args=.inr ts->ts.length=x.args.length->(∀ t∈ts,okTy t)->x.ty V T=zim x.op x.unit x.name ts vs ms:=fun ts h h1 h2=>by
  rw [Ex.z32,h,H x ts hnode hcalls.1 h1 h2]
 have hnd:∀ ts:List Ty,ts.length=x.args.length->(∀ t∈ts,okTy t)->CallsD Γ prog 51 [.agg (exC x),.one (.sl 7 (ts.map Ty.C)),.one (.sl 7 (vs.map Vr.C)),.one (.sl 3 (ms.map Tb.C))] (tyR (zim x.op x.unit x.name ts vs ms)):=fun ts h1 h2=>by
  refine yet x ts vs ms hx hv hm hms (by omega) (fun a b=>?_) (fun a b c d=>?_) (fun a=>?_) (fun t ht=>(h2 t ht).1)
  · have:=zj3 hnode a b;omega
  · have:=(zm5 hnode hcalls.1 (zj3 hnode a b)).1 c d;omega
  · have:=(zm5 hnode hcalls.1 (zj3 hnode (by omega) (by omega))).2 a;omega
 generalize hR:x.ty V T=R at hinl hinr
 refine CallsD.run [] Go.Proofs.Tryz.func26 rfl rfl rfl ?_;simp only [Go.Proofs.Tryz.f26];refine hgR ?_
 refine zcu [1,2,3,6] (fun p:Nat×List Ty=>[(8,.one (.sl 2 7 0 p.2.length)),(9,.one (.dat (cI p.1)))])
  (fun p=>[.box ((exC x).map .dat) (some 24),.box ((tyC Ty.zero).map .dat) (some 32),.arr (.sl 7 (p.2.map Ty.C)) 0 (some 32)])
  (fun p=>p.1<=x.args.length/\p.2.length=p.1/\(∀ t∈p.2,okTy t)/\Ex.tyL V T x.args=match Ex.tyL V T (x.args.drop p.1) with
    | .inl e=>.inl e
    | .inr r=>.inr (p.2++r)) (fun p=>x.args.length-p.1) (0,[]) ⟨Nat.zero_le _,rfl,fun t ht=>(by cases ht),by simp only [List.drop_zero,List.nil_append];split<;>simp only [*]⟩ ?_ ?_
 · refine hg ?_
   refine StH.trans (StH.empty (d:=8) (es:=7) (c:=.sl 7 []) (T:=some 32) rfl rfl (fun r hr=>by cases hr) rfl) ?_
   refine hg ?_
   exact StH.same svl rfl
 rintro ⟨i,ts⟩ ⟨h1,h2,h5,h3⟩
 simp only at h1 h2 h3 h5
 refine hg ?_
 refine zfv (fun hlt _=>?_) (fun hlt _=>?_)
 · have hlt':i<x.args.length:=by omega
   have hy:=zal hlt'
   rw [zed hlt',Ex.tyL] at h3
   have hok:=Hok _ (hargs _ hy)
   refine hg ?_
   refine za3 (ih _ hy (hx.arg _ hy) (hargs _ hy) (hcalls.2 _ hy)) ?_
   generalize hr:Ex.ty V T (x.args.getD i default)=r at h3 hok ⊢
   obtain ⟨t,e⟩:=r
   simp only at h3 hok
   refine hg ?_
   refine zfv (fun he hd=>?_) (fun he hd=>?_)
   · have h3':Ex.tyL V T x.args=.inl e:=by rw [h3,show decide (¬e=0)=true from hd];rfl
     have h4:=hinl e h3'
     subst h4
     refine hg ?_
     exact RLe.ofEq rfl
   · rw [show decide (¬ e = 0) = false from hd, cond_false] at h3
     have hokt:=hok (Decidable.not_not.1 he)
     have h3':Ex.tyL V T x.args=match Ex.tyL V T (x.args.drop (i+1)) with
      | .inl e=>.inl e
      | .inr r=>.inr ((ts++[t])++r):=by
      rw [h3]
      cases Ex.tyL V T (x.args.drop (i+1)) with
      | inl e=>rfl
      | inr r=>simp only [List.append_assoc,List.singleton_append]
     have hmap:ts.map Ty.C++[tyC t]=(ts++[t]).map Ty.C:=by simp;rfl
     refine hg ?_
     rw [hmap]
     refine ⟨(i+1,ts++[t]),⟨by dsimp only;omega,by dsimp only;rw [List.length_append,List.length_singleton,h2],?_,h3'⟩,by dsimp only;omega,?_⟩
     · dsimp only
       intro u hu
       rcases List.mem_append.1 hu with h | h
       · exact h5 u h
       · rw [List.mem_singleton.1 h];exact hokt
     refine StH.back [1,2,3,6,8,9] 2 4 3 rfl rfl rfl rfl rfl (by kernel_rfl) ?_
     refine hg ?_
     exact StH.same svl rfl
 · have h3':Ex.tyL V T x.args=.inr ts:=by rw [h3,List.drop_eq_nil_of_le (by omega),Ex.tyL];simp only [List.append_nil]
   have h4:=hinr ts h3' (by omega) h5
   subst h4
   have hn:=hnd ts (by omega) h5
   generalize zim x.op x.unit x.name ts vs ms=q at hn ⊢
   refine hg ?_
   repeat' ((first | refine hfk ?_ ?_<;>intros | refine hik ?_ | with_reducible first | refine za3 (hn) ?_ | refine za0 (hn) ?_)<;>refine hgS ?_)
   exact RLe.ofEq rfl
end Go.Hp.T
