/- The proof, part Q35: 7a, 3p. -/
import Derived.Test.YtkbkjjahlafhoaaGreatDoorQ17
import Derived.Test.YtkbkjjahlafhoaaGreatDoorQ30
import Derived.Test.YtkbkjjahlafhoaaGreatDoorQ34
import Derived.Test.YtkbkjjahlafhoaaGreatDoorQ33
namespace Go.Hp.T
open Go Go.RowKit Go.Slot Go.Hp Go.Slot.T
open Go.Proofs.Tryz
variable {α:Type} {l:List Fc} {i:Nat} {x:Rat}
attribute [local irreducible] hide RH
set_option maxRecDepth 10000
set_option maxHeartbeats 8000000
variable {Γ:List (Nat×List Cell)}
theorem z6d [Inhabited α] {p:α->Bool} {l:List α} (h:i<l.length) (hp:p (l.getD i default)=false):l.all p=false:=by
 rw [List.all_eq_false];exact ⟨_,z1y h,by rw [hp];simp⟩
theorem ypq [Inhabited α] {p:α->Bool} {l:List α} (h:∀ j,j<l.length->p (l.getD j default)=true):l.all p=true:=by
 rw [List.all_eq_true];intro x hx;obtain ⟨j,hj,rfl⟩:=List.getElem_of_mem hx
 have:=h j hj
 rw [List.getD_eq_getElem?_getD,List.getElem?_eq_getElem hj] at this;simpa using this
def sz60 (s:ByteArray):Bool:=decide ((s.size:Int)<=60)
def vfj (l:List ByteArray) (n:Int):Bool:=decide ((l.length:Int)<=n)&&l.all sz60
theorem wa6 (l:List ByteArray) (n:Int) (hl:l.length<=8589934592):CallsD Γ prog 112 [.one (zjy l),.one (cI n)] (.one (cB (vfj l n))):=by
 unfold vfj;refine hE [] func112 f112.eq_1 ?_;refine wf5 [0,1] (fun i:Nat=>[(5,.one (.dat (cI i)))]) (fun _=>[]) (fun i=>i<=l.length/\∀ j,j<i->sz60 (l.getD j default)=true) (fun i=>l.length-i) 0 ⟨Nat.zero_le _,fun j hj=>by omega⟩ ?_ ?_
 . refine hg ?_;exact sS
 rintro i ⟨hi,hj⟩;generalize hR:(decide ((l.length:Int)<=n)&&l.all sz60)=R
 have e1:i<l.length->¬(((l.getD i default).size:Int)<=60)->R=false:=fun h h'=>by
  rw [<-hR,z6d h (decide_eq_false h'),Bool.and_false]
 have e2:¬i<l.length->R=decide ((l.length:Int)<=n):=fun h=>by
  rw [<-hR,ypq (fun j hjl=>hj j (by omega)),Bool.and_true]
 have e3:¬(l.length:Int)<=n->R=false:=fun h=>by rw [<-hR,decide_eq_false h];rfl
 clear hR;refine hg ?_
 repeat' (refine hF ?_ ?_<;>intros)
 all_goals first
  | (refine ⟨i+1,⟨by omega,yas hj (decide_eq_true (by omega))⟩,by omega,sS⟩)
  | exact RLe.ofEq rfl
  | exact RLe.ofEq (by rw [decide_eq_false (by omega)])
def v07 (y:Stp):Bool:=vfj y.inn 102&&(vfj y.out 102&&(vfj y.cells 102&&vfj [y.name] 1))
def z1c (l:List Stp):Bool:=(decide ((l.length:Int)<=30)||(decide (99<=(l.length:Int))&&decide ((l.length:Int)<=102)))&&l.all v07
theorem ya6 (l:List Stp) (hl:l.length<=1073741824) (h:∀ y∈l,y.Sm):CallsD Γ prog 114 [.one (.sl 6 (l.map Stp.C))] (.one (cB (z1c l))):=by
 unfold z1c;refine hE [] func114 f114.eq_1 ?_;refine wf5 [0] (fun i:Nat=>[(3,.one (.dat (cI i)))]) (fun _=>[]) (fun i=>i<=l.length/\∀ j,j<i->v07 (l.getD j default)=true) (fun i=>l.length-i) 0 ⟨Nat.zero_le _,fun j hj=>by omega⟩ ?_ ?_
 . refine hg ?_;exact sS
 rintro i ⟨hi,hj⟩;generalize hR:((decide ((l.length:Int)<=30)||(decide (99<=(l.length:Int))&&decide ((l.length:Int)<=102)))&&l.all v07)=R
 have e1:i<l.length->v07 (l.getD i default)=false->R=false:=fun h h'=>by
  rw [<-hR,z6d h h',Bool.and_false]
 have e2:¬i<l.length->R=(decide ((l.length:Int)<=30)||(decide (99<=(l.length:Int))&&decide ((l.length:Int)<=102))):=fun h=>by
  rw [<-hR,ypq (fun j hjl=>hj j (by omega)),Bool.and_true]
 have e3:102<(l.length:Int)->R=false:=fun h=>by rw [<-hR,decide_eq_false (by omega),decide_eq_false (show ¬(l.length:Int)<=102 by omega)];simp
 clear hR;by_cases hlt:i<l.length
 . have hy:=h _ (z1y hlt);have c1:=wa6 (Γ:=Γ) (l.getD i default).inn 102 (by have:=hy.il;omega);have c2:=wa6 (Γ:=Γ) (l.getD i default).out 102 (by have:=hy.ol;omega);have c3:=wa6 (Γ:=Γ) (l.getD i default).cells 102 (by have:=hy.cl;omega);have c4:CallsD Γ prog 112 [.one (.sl 1 [[cS (l.getD i default).name]]),.one (cI 1)] (.one (cB (vfj [(l.getD i default).name] 1))):=wa6 [(l.getD i default).name] 1 (by simp);have e4:v07 (l.getD i default)=(vfj (l.getD i default).inn 102&&(vfj (l.getD i default).out 102&&(vfj (l.getD i default).cells 102&&vfj [(l.getD i default).name] 1))):=rfl;generalize vfj (l.getD i default).inn 102=b1 at *;generalize vfj (l.getD i default).out 102=b2 at *;generalize vfj (l.getD i default).cells 102=b3 at *;generalize vfj [(l.getD i default).name] 1=b4 at *;clear e2 hy h;refine hg ?_
   repeat' first|refine hF ?_ ?_<;>intros|(with_reducible first|refine wdy c1 ?_|refine wdy c2 ?_|refine wdy c3 ?_|refine wdy c4 ?_)<;>refine hgS ?_
   all_goals try (exfalso;omega)
   all_goals first
    | (refine ⟨i+1,⟨by omega,yas hj (by rw [e4];simp [*])⟩,by omega,?_⟩
       refine StH.cutN [0,3] 0 rfl ?_ ?_
       . refine hg ?_
         first | exact trivial | rfl
       exact sS)
    | exact RLe.ofEq rfl
    | exact RLe.ofEq (by rw [decide_eq_false (by omega)])
    | exact RLe.ofEq (by rw [e1 hlt (by rw [e4];simp [*])])
    | exact RLe.ofEq (by rw [e3 (by omega)])
    | exact RLe.ofEq (by rw [e3 (by omega),decide_eq_false (by omega)])
 . have e2:=e2 hlt;clear e1 e3 h;refine hg ?_
   repeat' (refine hF ?_ ?_<;>intros)
   all_goals try (exfalso;omega)
   all_goals exact RLe.ofEq (by simp)
def v6w (x:Ex):Bool:=decide (0<=x.rsz 60 12)||(!decide (0<=x.rsz 200 20)&&decide (0<=x.rsz 260 30))
theorem xpw (x:Ex) (hx:x.Sm):CallsD Γ prog 115 [.agg (exC x)] (.one (cB (v6w x))):=by
 have c1:=rFew (Γ:=Γ) x hx 60 12 (by decide) (by decide) (by decide) (by decide);have c2:=rFew (Γ:=Γ) x hx 200 20 (by decide) (by decide) (by decide) (by decide);have c3:=rFew (Γ:=Γ) x hx 260 30 (by decide) (by decide) (by decide) (by decide);unfold v6w;generalize decide (0<=x.rsz 60 12)=b1 at *;generalize decide (0<=x.rsz 200 20)=b2 at *;generalize decide (0<=x.rsz 260 30)=b3 at *;refine hE [] func115 f115.eq_1 ?_
 repeat' first|refine hF ?_ ?_<;>intros|(with_reducible first|refine wdy c1 ?_|refine wdy c2 ?_|refine wdy c3 ?_)<;>refine hgS ?_
 all_goals refine lfE ?_;first | exact trivial | rfl
def zp7 (s:Sht):List ByteArray:=s.imports.map Imp.name++s.inputs.map Inp.name++s.tables.map Tb.name++s.funcs.map Fnc.name++s.cells.map Cel.name++s.ports.map Por.name++s.stores.map Sto.name
theorem ytj (s:Sht) (hs:s.Sm):CallsD Γ prog 113 [.agg (shtC s)] (.one (zjy (zp7 s))):=by
 unfold zp7;have h1:=hs.il;have h2:=hs.nl;have h3:=hs.tl;have h4:=hs.fl;have h5:=hs.cl;have h6:=hs.pl;have h7:=hs.sl;clear hs;refine hE [] func113 f113.eq_1 ?_;refine wf5 [1] (fun p:Nat×List ByteArray=>[(3,.one (.sl 1 1 0 p.2.length)),(4,.one (.dat (cI p.1)))]) (fun p=>[.box ((shtC s).map .dat) (some 31),.arr (zjy p.2) 0 (some 9)])
  (fun p=>p.1<=s.imports.length/\p.2=([]:List ByteArray)++(s.imports.take p.1).map Imp.name) (fun p=>s.imports.length-p.1) (0,([]:List ByteArray)) ⟨Nat.zero_le _,by simp⟩ ?_ ?_
 . refine hg ?_;refine StH.trans (StH.empty (d:=3) (es:=1) (c:=.sl 1 []) (T:=some 9) rfl rfl (fun r hr=>by cases hr) rfl) ?_;refine hg ?_;exact sS
 rintro ⟨i,acc0⟩ ⟨hi,ha⟩;dsimp only at hi ha
 have hal:acc0.length<=1073741824:=by rw [ha];simp;omega
 refine hg ?_;refine y8g (fun hlt _=>?_) (fun hlt _=>?_)
 . have hlt':i<s.imports.length:=by omega
   refine hg ?_;refine ⟨(i+1,acc0++[(s.imports.getD i default).name]),⟨by dsimp only;omega,?_⟩,by dsimp only;omega,?_⟩
   . dsimp only;rw [ha,List.take_succ_eq_append_getElem hlt',List.getD_eq_getElem?_getD,List.getElem?_eq_getElem hlt',List.map_append];simp
   refine StH.back [1,3,4] 1 2 2 rfl rfl rfl rfl rfl (by kernel_rfl) ?_;simp only;refine hg2 @List.length_append.{0} @List.length_singleton.{0} ?_;exact StH.same svl (by simp only [zjy,List.map_append,List.map_cons,List.map_nil];rfl)
 rw [List.take_of_length_le (show s.imports.length<=i by omega)] at ha;rw [<-List.nil_append (s.imports.map Imp.name),<-ha];clear ha hlt hi;refine hg ?_;refine wf5 [1] (fun p:Nat×List ByteArray=>[(3,.one (.sl 1 1 0 p.2.length)),(5,.one (.dat (cI p.1)))]) (fun p=>[.box ((shtC s).map .dat) (some 31),.arr (zjy p.2) 0 (some 9)])
  (fun p=>p.1<=s.inputs.length/\p.2=acc0++(s.inputs.take p.1).map Inp.name) (fun p=>s.inputs.length-p.1) (0,acc0) ⟨Nat.zero_le _,by simp⟩ ?_ ?_
 . refine hg ?_;exact sS
 rintro ⟨i,acc1⟩ ⟨hi,ha⟩;dsimp only at hi ha
 have hal:acc1.length<=2147483648:=by rw [ha];simp;omega
 refine hg ?_;refine y8g (fun hlt _=>?_) (fun hlt _=>?_)
 . have hlt':i<s.inputs.length:=by omega
   refine hg ?_;refine ⟨(i+1,acc1++[(s.inputs.getD i default).name]),⟨by dsimp only;omega,?_⟩,by dsimp only;omega,?_⟩
   . dsimp only;rw [ha,List.take_succ_eq_append_getElem hlt',List.getD_eq_getElem?_getD,List.getElem?_eq_getElem hlt',List.map_append];simp
   refine StH.back [1,3,5] 1 2 2 rfl rfl rfl rfl rfl (by kernel_rfl) ?_;simp only;refine hg2 @List.length_append.{0} @List.length_singleton.{0} ?_;exact StH.same svl (by simp only [zjy,List.map_append,List.map_cons,List.map_nil];rfl)
 rw [List.take_of_length_le (show s.inputs.length<=i by omega)] at ha;rw [<-ha];clear ha hlt hi;refine hg ?_;refine wf5 [1] (fun p:Nat×List ByteArray=>[(3,.one (.sl 1 1 0 p.2.length)),(6,.one (.dat (cI p.1)))]) (fun p=>[.box ((shtC s).map .dat) (some 31),.arr (zjy p.2) 0 (some 9)])
  (fun p=>p.1<=s.tables.length/\p.2=acc1++(s.tables.take p.1).map Tb.name) (fun p=>s.tables.length-p.1) (0,acc1) ⟨Nat.zero_le _,by simp⟩ ?_ ?_
 . refine hg ?_;exact sS
 rintro ⟨i,acc2⟩ ⟨hi,ha⟩;dsimp only at hi ha
 have hal:acc2.length<=3221225472:=by rw [ha];simp;omega
 refine hg ?_;refine y8g (fun hlt _=>?_) (fun hlt _=>?_)
 . have hlt':i<s.tables.length:=by omega
   refine hg ?_;refine ⟨(i+1,acc2++[(s.tables.getD i default).name]),⟨by dsimp only;omega,?_⟩,by dsimp only;omega,?_⟩
   . dsimp only;rw [ha,List.take_succ_eq_append_getElem hlt',List.getD_eq_getElem?_getD,List.getElem?_eq_getElem hlt',List.map_append];simp
   refine StH.back [1,3,6] 1 2 2 rfl rfl rfl rfl rfl (by kernel_rfl) ?_;simp only;refine hg2 @List.length_append.{0} @List.length_singleton.{0} ?_;exact StH.same svl (by simp only [zjy,List.map_append,List.map_cons,List.map_nil];rfl)
 rw [List.take_of_length_le (show s.tables.length<=i by omega)] at ha;rw [<-ha];clear ha hlt hi;refine hg ?_;refine wf5 [1] (fun p:Nat×List ByteArray=>[(3,.one (.sl 1 1 0 p.2.length)),(7,.one (.dat (cI p.1)))]) (fun p=>[.box ((shtC s).map .dat) (some 31),.arr (zjy p.2) 0 (some 9)])
  (fun p=>p.1<=s.funcs.length/\p.2=acc2++(s.funcs.take p.1).map Fnc.name) (fun p=>s.funcs.length-p.1) (0,acc2) ⟨Nat.zero_le _,by simp⟩ ?_ ?_
 . refine hg ?_;exact sS
 rintro ⟨i,acc3⟩ ⟨hi,ha⟩;dsimp only at hi ha
 have hal:acc3.length<=4294967296:=by rw [ha];simp;omega
 refine hg ?_;refine y8g (fun hlt _=>?_) (fun hlt _=>?_)
 . have hlt':i<s.funcs.length:=by omega
   refine hg ?_;refine ⟨(i+1,acc3++[(s.funcs.getD i default).name]),⟨by dsimp only;omega,?_⟩,by dsimp only;omega,?_⟩
   . dsimp only;rw [ha,List.take_succ_eq_append_getElem hlt',List.getD_eq_getElem?_getD,List.getElem?_eq_getElem hlt',List.map_append];simp
   refine StH.back [1,3,7] 1 2 2 rfl rfl rfl rfl rfl (by kernel_rfl) ?_;simp only;refine hg2 @List.length_append.{0} @List.length_singleton.{0} ?_;exact StH.same svl (by simp only [zjy,List.map_append,List.map_cons,List.map_nil];rfl)
 rw [List.take_of_length_le (show s.funcs.length<=i by omega)] at ha;rw [<-ha];clear ha hlt hi;refine hg ?_;refine wf5 [1] (fun p:Nat×List ByteArray=>[(3,.one (.sl 1 1 0 p.2.length)),(8,.one (.dat (cI p.1)))]) (fun p=>[.box ((shtC s).map .dat) (some 31),.arr (zjy p.2) 0 (some 9)])
  (fun p=>p.1<=s.cells.length/\p.2=acc3++(s.cells.take p.1).map Cel.name) (fun p=>s.cells.length-p.1) (0,acc3) ⟨Nat.zero_le _,by simp⟩ ?_ ?_
 . refine hg ?_;exact sS
 rintro ⟨i,acc4⟩ ⟨hi,ha⟩;dsimp only at hi ha
 have hal:acc4.length<=5368709120:=by rw [ha];simp;omega
 refine hg ?_;refine y8g (fun hlt _=>?_) (fun hlt _=>?_)
 . have hlt':i<s.cells.length:=by omega
   refine hg ?_;refine ⟨(i+1,acc4++[(s.cells.getD i default).name]),⟨by dsimp only;omega,?_⟩,by dsimp only;omega,?_⟩
   . dsimp only;rw [ha,List.take_succ_eq_append_getElem hlt',List.getD_eq_getElem?_getD,List.getElem?_eq_getElem hlt',List.map_append];simp
   refine StH.back [1,3,8] 1 2 2 rfl rfl rfl rfl rfl (by kernel_rfl) ?_;simp only;refine hg2 @List.length_append.{0} @List.length_singleton.{0} ?_;exact StH.same svl (by simp only [zjy,List.map_append,List.map_cons,List.map_nil];rfl)
 rw [List.take_of_length_le (show s.cells.length<=i by omega)] at ha;rw [<-ha];clear ha hlt hi;refine hg ?_;refine wf5 [1] (fun p:Nat×List ByteArray=>[(3,.one (.sl 1 1 0 p.2.length)),(9,.one (.dat (cI p.1)))]) (fun p=>[.box ((shtC s).map .dat) (some 31),.arr (zjy p.2) 0 (some 9)])
  (fun p=>p.1<=s.ports.length/\p.2=acc4++(s.ports.take p.1).map Por.name) (fun p=>s.ports.length-p.1) (0,acc4) ⟨Nat.zero_le _,by simp⟩ ?_ ?_
 . refine hg ?_;exact sS
 rintro ⟨i,acc5⟩ ⟨hi,ha⟩;dsimp only at hi ha
 have hal:acc5.length<=6442450944:=by rw [ha];simp;omega
 refine hg ?_;refine y8g (fun hlt _=>?_) (fun hlt _=>?_)
 . have hlt':i<s.ports.length:=by omega
   refine hg ?_;refine ⟨(i+1,acc5++[(s.ports.getD i default).name]),⟨by dsimp only;omega,?_⟩,by dsimp only;omega,?_⟩
   . dsimp only;rw [ha,List.take_succ_eq_append_getElem hlt',List.getD_eq_getElem?_getD,List.getElem?_eq_getElem hlt',List.map_append];simp
   refine StH.back [1,3,9] 1 2 2 rfl rfl rfl rfl rfl (by kernel_rfl) ?_;simp only;refine hg2 @List.length_append.{0} @List.length_singleton.{0} ?_;exact StH.same svl (by simp only [zjy,List.map_append,List.map_cons,List.map_nil];rfl)
 rw [List.take_of_length_le (show s.ports.length<=i by omega)] at ha;rw [<-ha];clear ha hlt hi;refine hg ?_;refine wf5 [1] (fun p:Nat×List ByteArray=>[(3,.one (.sl 1 1 0 p.2.length)),(10,.one (.dat (cI p.1)))]) (fun p=>[.box ((shtC s).map .dat) (some 31),.arr (zjy p.2) 0 (some 9)])
  (fun p=>p.1<=s.stores.length/\p.2=acc5++(s.stores.take p.1).map Sto.name) (fun p=>s.stores.length-p.1) (0,acc5) ⟨Nat.zero_le _,by simp⟩ ?_ ?_
 . refine hg ?_;exact sS
 rintro ⟨i,acc6⟩ ⟨hi,ha⟩;dsimp only at hi ha
 have hal:acc6.length<=7516192768:=by rw [ha];simp;omega
 refine hg ?_;refine y8g (fun hlt _=>?_) (fun hlt _=>?_)
 . have hlt':i<s.stores.length:=by omega
   refine hg ?_;refine ⟨(i+1,acc6++[(s.stores.getD i default).name]),⟨by dsimp only;omega,?_⟩,by dsimp only;omega,?_⟩
   . dsimp only;rw [ha,List.take_succ_eq_append_getElem hlt',List.getD_eq_getElem?_getD,List.getElem?_eq_getElem hlt',List.map_append];simp
   refine StH.back [1,3,10] 1 2 2 rfl rfl rfl rfl rfl (by kernel_rfl) ?_;simp only;refine hg2 @List.length_append.{0} @List.length_singleton.{0} ?_;exact StH.same svl (by simp only [zjy,List.map_append,List.map_cons,List.map_nil];rfl)
 rw [List.take_of_length_le (show s.stores.length<=i by omega)] at ha;rw [<-ha];clear ha hlt hi;refine hg ?_;exact RLe.ofEq rfl
def voe (l:List Fc):Bool:=decide ((l.length:Int)<=8)&&l.all fun x=>decide (x.sz<=4)
theorem wss {p:Fc->Bool} (h:i<l.length) (hp:p (l.getD i Fc.zero)=false):l.all p=false:=List.all_eq_false.2 ⟨_,ldM h,by rw [hp];decide⟩
theorem v1y {p:Fc->Bool} (h:∀ j,j<l.length->p (l.getD j Fc.zero)=true):l.all p=true:=List.all_eq_true.2 fun x hx=>by
 obtain ⟨k,hk,rfl⟩:=List.getElem_of_mem hx;rw [<-ldE (d:=Fc.zero) hk];exact h k hk
theorem fFew (x:Fc) (h:x.sz<=67108864):CallsD Γ prog 20 [.agg (fcC x),.one (cI 4)] (.one (cB (decide (x.sz<=4)))):=vdp x (by have:=szL h;omega) (by have:=szL h;omega)
theorem zr1 (l:List Fc) (hl:l.length<=1048576) (hz:∀ x∈l,x.sz<=67108864):CallsD Γ prog 9 [.one (frsC l)] (.one (cB (voe l))):=by
 unfold voe;refine hE [] func9 f9.eq_1 ?_;refine wf5 [0] (fun i:Nat=>[(3,.one (.dat (cI i)))]) (fun _=>[]) (fun i=>i<=l.length/\∀ j,j<i->decide ((l.getD j Fc.zero).sz<=4)=true) (fun i=>l.length-i) 0 ⟨Nat.zero_le _,fun j hj=>by omega⟩ ?_ ?_
 . refine hg ?_;exact sS
 rintro i ⟨hi,hj⟩;obtain ⟨R,hR⟩:∃ R,(decide ((l.length:Int)<=8)&&l.all fun x=>decide (x.sz<=4))=R:=⟨_,rfl⟩;rw [hR]
 have e1:i<l.length->decide ((l.getD i Fc.zero).sz<=4)=false->R=false:=fun h h'=>by rw [<-hR,wss h h',Bool.and_false]
 have e2:¬i<l.length->R=decide ((l.length:Int)<=8):=fun h=>by rw [<-hR,v1y (fun j hjl=>hj j (by omega)),Bool.and_true]
 have e3:¬(l.length:Int)<=8->R=false:=fun h=>by rw [<-hR,decide_eq_false h];rfl
 clear hR;by_cases hlt:i<l.length
 . have c1:=fFew (Γ:=Γ) (l.getD i Fc.zero) (hz _ (ldM hlt))
   replace e1:=e1 hlt
   obtain ⟨q,hq⟩:∃ q,decide ((l.getD i Fc.zero).sz<=4)=q:=⟨_,rfl⟩;rw [hq] at c1 e1;have hq2:∃ _:Unit,decide ((l.getD i Fc.zero).sz<=4)=q:=⟨(),hq⟩;clear e2 hq hz;refine hg ?_
   repeat' first|refine hF ?_ ?_<;>intros|(with_reducible refine wdy c1 ?_)<;>refine hgS ?_
   all_goals first
    | (exfalso;omega)
    | exact RLe.ofEq rfl
    | exact RLe.ofEq (by rw [e1 (by assumption)])
    | exact RLe.ofEq (by rw [e3 (by omega),decide_eq_false (by omega)])
    | exact RLe.ofEq (by rw [decide_eq_false (by omega)])
    | (refine ⟨i+1,⟨by omega,yas hj (hq2.elim fun _ h=>h.trans (by assumption))⟩,by omega,sS⟩)
 . have e4:=e2 hlt;rw [e4];clear e1 e2 e3 e4 hz;refine hg ?_
   repeat' (refine hF ?_ ?_<;>intros)
   all_goals first
    | (exfalso;omega)
    | exact RLe.ofEq rfl
theorem xbj (x:Fc) (h:x.sz<=67108864):CallsD Γ prog 12 [.agg (fcC x),.agg (fcC x)] (.one (cB true)):=by
 have:=vpl (Γ:=Γ) x x h h
 rw [decide_eq_true rfl] at this;exact this
theorem cSmF (l:List Fc) (hl:l.length<=1048576) (hz:∀ x∈l,x.sz<=67108864):CallsD Γ prog 28 [.one (frsC l),.one (frsC l)] (.one (cB true)):=by
 refine hE [] func28 f28.eq_1 ?_
 all_goals try (exfalso;omega)
 refine wf5 [0,1] (fun i:Nat=>[(5,.one (.dat (cI i)))]) (fun _=>[]) (fun i=>i<=l.length) (fun i=>l.length-i) 0 (Nat.zero_le _) ?_ ?_
 . refine hg ?_;exact sS
 intro i hi;by_cases hlt:i<l.length
 . have c1:=xbj (Γ:=Γ) (l.getD i Fc.zero) (hz _ (ldM hlt));refine hg ?_
   repeat' first|refine hF ?_ ?_<;>intros|refine hI ?_|(with_reducible refine y04 c1 ?_)<;>refine hgS ?_
   all_goals try (exfalso;omega)
   exact ⟨i+1,by omega,by omega,sS⟩
 . refine hg ?_
   refine hF ?_ ?_<;>intros
   all_goals try (exfalso;omega)
   exact RLe.ofEq rfl
theorem v2v:(zl7 prog 9 60=some 3)=True:=eq_true (by kernel_rfl)
theorem xu7:aggT prog 60=true:=by kernel_rfl
theorem wm9:prog.eqGuardType prog.depth 60=false:=by kernel_rfl
theorem zi1 (a b c:Int):fitT prog 9 60 [.int .i64 a,.int .i64 b,.int .i64 c]=true:=by kernel_rfl
theorem flOt:(zl7 prog 9 62=some 4)=True:=eq_true (by kernel_rfl)
theorem agOt:aggT prog 62=true:=by kernel_rfl
theorem egOt:prog.eqGuardType prog.depth 62=false:=by kernel_rfl
theorem xv8 (a b c:Int) (s:ByteArray):fitT prog 9 62 [.int .i64 a,.int .i64 b,.int .i64 c,.string s]=true:=by kernel_rfl
attribute [go_sem] v2v xu7 wm9 zi1 flOt agOt egOt xv8
theorem z5s (f:Fl) (hf:f.Sm):CallsD Γ prog 24 [.agg (flC f),.agg (flC f)] (.one (cB true)):=by
 have hc:=fun l (hl:l∈f.shares)=>cSmF (Γ:=Γ) l (hf.rl l hl) (fun x hx=>Nat.le_trans (hf.fz l hl x hx) (by decide))
 have hhl:=hf.hl;have hsl:=hf.sl;have hol:=hf.ol;clear hf;refine hE [] func24 f24.eq_1 ?_
 all_goals try (exfalso;omega)
 refine wf5 [2,3] (fun i:Nat=>[(5,.one (.dat (cI i)))]) (fun _=>[flB f,flB f]) (fun i=>i<=f.srcs.length) (fun i=>f.srcs.length-i) 0 (Nat.zero_le _) ?_ ?_
 . refine hg ?_;exact sS
 intro i hi;refine hg ?_;refine y8g (fun hlt _=>?_) (fun hlt _=>?_)
 . have hlt':i<f.srcs.length:=by omega
   refine hg ?_;refine hI ?_
   all_goals first
    | exact ⟨i+1,by omega,by omega,sS⟩
    | (exfalso;simp_all;done)
 refine hg ?_;refine wf5 [2,3] (fun i:Nat=>[(6,.one (.dat (cI i)))]) (fun _=>[flB f,flB f]) (fun i=>i<=f.outs.length) (fun i=>f.outs.length-i) 0 (Nat.zero_le _) ?_ ?_
 . refine hg ?_;exact sS
 intro i hi;refine hg ?_;refine y8g (fun hlt _=>?_) (fun hlt _=>?_)
 . have hlt':i<f.outs.length:=by omega
   have hq:seq (f.outs.getD i default).name (f.outs.getD i default).name=true:=by rw [z8u];exact decide_eq_true rfl
   refine hg1 @hq ?_;refine hI ?_
   all_goals first
    | exact ⟨i+1,by omega,by omega,sS⟩
    | (exfalso;simp_all;done)
 refine hg ?_;refine wf5 [2,3] (fun i:Nat=>[(7,.one (.dat (cI i)))]) (fun _=>[flB f,flB f]) (fun i=>i<=f.shares.length) (fun i=>f.shares.length-i) 0 (Nat.zero_le _) ?_ ?_
 . refine hg ?_;exact sS
 intro i hi;refine hg ?_;refine y8g (fun hlt _=>?_) (fun hlt _=>?_)
 . have hlt':i<f.shares.length:=by omega
   have c1:=hc _ (z1y hlt');refine hg ?_
   repeat' first|refine hI ?_|(with_reducible refine y04 c1 ?_)<;>refine hgS ?_
   exact ⟨i+1,by omega,by omega,sS⟩
 refine hg ?_;exact RLe.ofEq rfl
theorem zwt:({ data:=(([115,104,101,101,116,32,109,32,123,32,105,109,112,111,114,116,32,102,108,111,117,114,32,34,107,103,34,32,53,32,61,32,51,32,58,32,111,117,116,32,58,32,49,32,59,32,105,110,112,117,116,32,103,97,115,32,34,107,103,34,32,99,111,50].append [32,59,32,99,101,108,108,32,119,32,34,34,32,61,32,51,32,59,32,99,101,108,108,32,118,32,34,34,32,61,32,49,32,59,32,112,111,114,116,32,98,114,101,97,100,32,34,107,103,34,32,57,32,59,32,115,116,111,114,101,32,115,105,108]).append ([111,32,34,107,103,34,32,102,105,114,115,116,32,59,32,114,101,99,105,112,101,32,99,111,50,32,123,32,109,101,116,101,114,32,112,32,61,32,103,97,115,32,59,32,116,97,107,101,32,113,32,61,32,102,108,111,117,114,32,59,32,115,112,108].append [105,116,32,112,32,105,110,116,111,32,97,32,58,32,119,32,44,32,98,32,58,32,118,32,59,32,106,111,105,110,32,97,32,44,32,113,32,105,110,116,111,32,114,32,59,32,103,105,118,101,32,114,32,116,111,32,98,114,101,97,100,32,59,32])).toArray }:ByteArray)=wus:=rfl
theorem xm1:((([(115:UInt8),104,101,101,116,32,109,32,123,32,105,109,112,111,114,116,32,102,108,111,117,114,32,34,107,103,34,32,53,32,61,32,51,32,58,32,111,117,116,32,58,32,49,32,59,32,105,110,112,117,116,32,103,97,115,32,34,107,103,34,32,99,111,50].append [32,59,32,99,101,108,108,32,119,32,34,34,32,61,32,51,32,59,32,99,101,108,108,32,118,32,34,34,32,61,32,49,32,59,32,112,111,114,116,32,98,114,101,97,100,32,34,107,103,34,32,57,32,59,32,115,116,111,114,101,32,115,105,108]).append ([111,32,34,107,103,34,32,102,105,114,115,116,32,59,32,114,101,99,105,112,101,32,99,111,50,32,123,32,109,101,116,101,114,32,112,32,61,32,103,97,115,32,59,32,116,97,107,101,32,113,32,61,32,102,108,111,117,114,32,59,32,115,112,108].append [105,116,32,112,32,105,110,116,111,32,97,32,58,32,119,32,44,32,98,32,58,32,118,32,59,32,106,111,105,110,32,97,32,44,32,113,32,105,110,116,111,32,114,32,59,32,103,105,118,101,32,114,32,116,111,32,98,114,101,97,100,32,59,32]))).length=wus.size:=rfl
theorem yir:([32,125,32,125]:List UInt8).length=vyp.size:=rfl
theorem xk4:({ data:=#[32,125,32,125] }:ByteArray)=vyp:=rfl
theorem zpv {t:ByteArray} {s:Sht} (hG:vjd Γ 0=.elt sgC) (ht:t.size<=1000) (h:ztg (exT t) s) (hs:s.Sm) (hr:vtb s=true):CallsD Γ prog 25 [.one (cS t)] (.agg (shtC s)):=by
 have h1:wus.size<=1000:=by decide +kernel
 have h2:vyp.size<=1000:=by decide +kernel
 have hl:(exT t).size<=1073741824:=by
  unfold exT;rw [ByteArray.size_append,ByteArray.size_append];omega
 have l1:(wus.size+t.size<=9223372036854775807)=True:=eq_true (by omega);have l2:(wus.size+t.size+vyp.size<=9223372036854775807)=True:=eq_true (by omega);have cr:=zjd (Γ:=Γ) s hs;rw [hr] at cr;have c:=z8q (Γ:=Γ) hG hl h cr;clear h cr hr hs;unfold exT at c;refine hE [] func25 f25.eq_1 ?_;refine hg6 @zwt @xk4 @xm1 @yir @l1 @l2 ?_
 (with_reducible refine wdy c ?_)<;>refine hgS ?_
 all_goals exact RLe.ofEq rfl
theorem cOf5 (p:Int) (d:Nat) (hp:inI p) (hd:d≠0) (hdi:inI d):CallsD Γ prog 40 [.one (cI p),.one (cI d)] (.tup [.agg (Fc.of (mkRat p d)).C,.one (cI 0)]):=by
 have h0:=rOf (Γ:=Γ) p hp;have h1:=rOf (Γ:=Γ) d hdi;rw [z8z hd,Int.natAbs_natCast] at h1;have hN:=xk3 (Γ:=Γ) p d (v6j hp) hd (by have:=zlm (n:=d) (by unfold inI at hdi;omega);omega);refine hE [] func40 f40.eq_1 ?_
 repeat' ((with_reducible first|refine wdy h0 ?_|refine wdy h1 ?_|refine wdy hN ?_)<;>refine hgS ?_)
 exact RLe.ofEq rfl
theorem wix (p:Int) (d:Nat) (hp:inI p) (hd:d≠0) (hdi:inI d) (hx:mkRat p d=x):CallsD Γ prog 27 [.one (cI p),.one (cI d)] (.agg (Fc.of x).C):=by
 have h:=cOf5 (Γ:=Γ) p d hp hd hdi;rw [hx] at h;obtain ⟨q,hq⟩:∃ q,Fc.of x=q:=⟨_,rfl⟩;rw [hq] at h ⊢;simp only [Fc.C_eq] at h;clear hq;refine hE [] func27 f27.eq_1 ?_
 (with_reducible refine wdy h ?_)<;>refine hgS ?_
 exact RLe.ofEq rfl
theorem zha (n:Int) (hn:inI n) (hx:(n:Rat)=x):CallsD Γ prog 26 [.one (cI n)] (.agg (Sc.C ⟨Fc.of x,Fc.of x⟩)):=by
 have h:=zzp (Γ:=Γ) n hn;rw [hx] at h;obtain ⟨q,hq⟩:∃ q,Fc.of x=q:=⟨_,rfl⟩;rw [hq] at h ⊢;simp only [Fc.C_eq] at h;clear hq;refine hE [] func26 f26.eq_1 ?_
 repeat' ((with_reducible refine wdy h ?_)<;>refine hgS ?_)
 exact RLe.ofEq rfl
end Go.Hp.T
