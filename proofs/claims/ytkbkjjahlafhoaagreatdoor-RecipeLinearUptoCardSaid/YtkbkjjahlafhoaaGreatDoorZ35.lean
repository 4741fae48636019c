/- The proof, part Z35: 3p, 3q, Ja, Jb, Jd. -/
import Derived.Test.YtkbkjjahlafhoaaGreatDoorZ15
import Derived.Test.YtkbkjjahlafhoaaGreatDoorZ33
import Derived.Test.YtkbkjjahlafhoaaGreatDoorZ34
import Derived.Test.YtkbkjjahlafhoaaGreatDoorZ14
import Derived.WalkKit
import Derived.ProofKit
import Derived.OpenShut
import Derived.JoinedCond
import Derived.ChangeBook
import Derived.ChangeStays
namespace Go.Hp.T
open Go Go.RowKit Go.Slot Go.Hp Go.Slot.T
open Go.Proofs.Tryz
attribute [local irreducible] hide RH
set_option maxRecDepth 10000
set_option maxHeartbeats 8000000
variable {Γ:List (Nat×List Cell)}
def y2k (l:List Fc):Bool:=decide ((l.length:Int)<=8)&&l.all fun x=>decide (x.sz<=4)
def zbg (f:Fl):Bool:=(decide ((f.srcs.length:Int)<=6)&&(decide ((f.outs.length:Int)<=6)&&decide ((f.shares.length:Int)<=8)))&&f.shares.all y2k
theorem v4s {p:Fc->Bool} {l:List Fc} {i:Nat} (h:i<l.length) (hp:p (l.getD i Fc.zero)=false):l.all p=false:=List.all_eq_false.2 ⟨_,ldM h,by rw [hp];decide⟩
theorem y2i {p:Fc->Bool} {l:List Fc} (h:∀ j,j<l.length->p (l.getD j Fc.zero)=true):l.all p=true:=List.all_eq_true.2 fun x hx=>by
 obtain ⟨k,hk,rfl⟩:=List.getElem_of_mem hx;rw [<-ldE (d:=Fc.zero) hk];exact h k hk
theorem fFew (x:Fc) (h:x.sz<=67108864):CallsD Γ prog 20 [.agg (fcC x),.one (cI 4)] (.one (cB (decide (x.sz<=4)))):=wvk x (by have:=szL h;omega) (by have:=szL h;omega)
theorem zex (l:List Fc) (hl:l.length<=1048576) (hz:∀ x∈l,x.sz<=67108864):CallsD Γ prog 9 [.one (frsC l)] (.one (cB (y2k l))):=by
 unfold y2k;refine hE [] func9 f9.eq_1 ?_;refine vi3 [0] (fun i:Nat=>[(3,.one (.dat (cI i)))]) (fun _=>[]) (fun i=>i<=l.length/\∀ j,j<i->decide ((l.getD j Fc.zero).sz<=4)=true) (fun i=>l.length-i) 0 ⟨Nat.zero_le _,fun j hj=>by omega⟩ ?_ ?_
 . refine hg ?_;exact sS
 rintro i ⟨hi,hj⟩;obtain ⟨R,hR⟩:∃ R,(decide ((l.length:Int)<=8)&&l.all fun x=>decide (x.sz<=4))=R:=⟨_,rfl⟩;rw [hR]
 have e1:i<l.length->decide ((l.getD i Fc.zero).sz<=4)=false->R=false:=fun h h'=>by rw [<-hR,v4s h h',Bool.and_false]
 have e2:¬i<l.length->R=decide ((l.length:Int)<=8):=fun h=>by rw [<-hR,y2i (fun j hjl=>hj j (by omega)),Bool.and_true]
 have e3:¬(l.length:Int)<=8->R=false:=fun h=>by rw [<-hR,decide_eq_false h];rfl
 clear hR;by_cases hlt:i<l.length
 . have c1:=fFew (Γ:=Γ) (l.getD i Fc.zero) (hz _ (ldM hlt))
   replace e1:=e1 hlt
   obtain ⟨q,hq⟩:∃ q,decide ((l.getD i Fc.zero).sz<=4)=q:=⟨_,rfl⟩;rw [hq] at c1 e1;have hq2:∃ _:Unit,decide ((l.getD i Fc.zero).sz<=4)=q:=⟨(),hq⟩;clear e2 hq hz;refine hg ?_
   repeat' first | refine hF ?_ ?_<;>intros | refine hI ?_ | (with_reducible first | refine w5a (c1) ?_ | refine xqd (c1) ?_)<;>refine hgS ?_
   all_goals first
    | (exfalso;omega)
    | exact RLe.ofEq rfl
    | exact RLe.ofEq (by rw [e1 (by assumption)])
    | exact RLe.ofEq (by rw [e3 (by omega),decide_eq_false (by omega)])
    | exact RLe.ofEq (by rw [decide_eq_false (by omega)])
    | (refine ⟨i+1,⟨by omega,za5 hj (hq2.elim fun _ h=>h.trans (by assumption))⟩,by omega,sS⟩)
 . have e4:=e2 hlt;rw [e4];clear e1 e2 e3 e4 hz;refine hg ?_
   repeat' first | refine hF ?_ ?_<;>intros | refine hI ?_
   all_goals first
    | (exfalso;omega)
    | exact RLe.ofEq rfl
structure Fl.Big (f:Fl):Prop where
 sl:f.srcs.length<=1048576
 ol:f.outs.length<=1048576
 hl:f.shares.length<=1048576
 rl:∀ r∈f.shares,r.length<=1048576
 fz:∀ r∈f.shares,∀ x∈r,x.sz<=1048576
theorem ym3 (f:Fl) (hf:f.Big):CallsD Γ prog 17 [.agg (flC f)] (.one (cB (zbg f))):=by
 have hc:=fun l (hl:l∈f.shares)=>zex (Γ:=Γ) l (hf.rl l hl) (fun x hx=>Nat.le_trans (hf.fz l hl x hx) (by decide))
 have hhl:=hf.hl;have hsl:=hf.sl;have hol:=hf.ol;clear hf;unfold zbg;refine hE [] func17 f17.eq_1 ?_;refine vi3 [1] (fun i:Nat=>[(3,.one (.dat (cI i)))]) (fun _=>[flB f]) (fun i=>i<=f.shares.length/\∀ j,j<i->y2k (f.shares.getD j default)=true) (fun i=>f.shares.length-i) 0 ⟨Nat.zero_le _,fun j hj=>by omega⟩ ?_ ?_
 . refine hg ?_;exact sS
 rintro i ⟨hi,hj⟩;obtain ⟨R,hR⟩:∃ R,((decide ((f.srcs.length:Int)<=6)&&(decide ((f.outs.length:Int)<=6)&&decide ((f.shares.length:Int)<=8)))&&f.shares.all y2k)=R:=⟨_,rfl⟩;rw [hR]
 have e1:i<f.shares.length->y2k (f.shares.getD i default)=false->R=false:=fun h h'=>by rw [<-hR,vju h h',Bool.and_false]
 have e2:¬i<f.shares.length->R=(decide ((f.srcs.length:Int)<=6)&&(decide ((f.outs.length:Int)<=6)&&decide ((f.shares.length:Int)<=8))):=fun h=>by rw [<-hR,v6j (fun j hjl=>hj j (by omega)),Bool.and_true]
 have e3:¬(f.shares.length:Int)<=8->R=false:=fun h=>by rw [<-hR,decide_eq_false h,Bool.and_false,Bool.and_false];rfl
 clear hR;by_cases hlt:i<f.shares.length
 . have c1:=hc (f.shares.getD i default) (vdv hlt)
   replace e1:=e1 hlt
   obtain ⟨q,hq⟩:∃ q,y2k (f.shares.getD i default)=q:=⟨_,rfl⟩;rw [hq] at c1 e1;have hq2:∃ _:Unit,y2k (f.shares.getD i default)=q:=⟨(),hq⟩;clear e2 hq hc;refine hg ?_
   repeat' first | refine hF ?_ ?_<;>intros | refine hI ?_ | (with_reducible first | refine w5a (c1) ?_ | refine xqd (c1) ?_)<;>refine hgS ?_
   all_goals first
    | (exfalso;omega)
    | exact RLe.ofEq rfl
    | exact RLe.ofEq (by rw [e1 (by assumption)])
    | exact RLe.ofEq (by rw [e3 (by omega),decide_eq_false (by omega)])
    | exact RLe.ofEq (by rw [decide_eq_false (by omega)])
    | exact RLe.ofEq (by rw [e3 (by omega)])
    | (refine ⟨i+1,⟨by omega,za5 hj (hq2.elim fun _ h=>h.trans (by assumption))⟩,by omega,sS⟩)
 . have e4:=e2 hlt;rw [e4];clear e1 e2 e3 e4 hc;refine hg ?_
   repeat' first | refine hF ?_ ?_<;>intros | refine hI ?_
   all_goals first
    | (exfalso;omega)
    | exact RLe.ofEq rfl
    | exact RLe.ofEq (by simp [*])
theorem w7v (x:Fc) (h:x.sz<=67108864):CallsD Γ prog 12 [.agg (fcC x),.agg (fcC x)] (.one (cB true)):=by
 have:=ytn (Γ:=Γ) x x h h
 rw [decide_eq_true rfl] at this;exact this
theorem cSmF (l:List Fc) (hl:l.length<=1048576) (hz:∀ x∈l,x.sz<=67108864):CallsD Γ prog 28 [.one (frsC l),.one (frsC l)] (.one (cB true)):=by
 refine hE [] func28 f28.eq_1 ?_
 repeat' first | refine hF ?_ ?_<;>intros | refine hI ?_
 all_goals try (exfalso;omega)
 refine vi3 [0,1] (fun i:Nat=>[(5,.one (.dat (cI i)))]) (fun _=>[]) (fun i=>i<=l.length) (fun i=>l.length-i) 0 (Nat.zero_le _) ?_ ?_
 . refine hg ?_;exact sS
 intro i hi;by_cases hlt:i<l.length
 . have c1:=w7v (Γ:=Γ) (l.getD i Fc.zero) (hz _ (ldM hlt));refine hg ?_
   repeat' first | refine hF ?_ ?_<;>intros | refine hI ?_ | (with_reducible first | refine w5a (c1) ?_ | refine xqd (c1) ?_)<;>refine hgS ?_
   all_goals try (exfalso;omega)
   exact ⟨i+1,by omega,by omega,sS⟩
 . refine hg ?_
   repeat' first | refine hF ?_ ?_<;>intros | refine hI ?_
   all_goals try (exfalso;omega)
   exact RLe.ofEq rfl
theorem xwq:(xsk prog 9 60=some 3)=True:=eq_true (by kernel_rfl)
theorem x08:aggT prog 60=true:=by kernel_rfl
theorem zav:prog.eqGuardType prog.depth 60=false:=by kernel_rfl
theorem w6e (a b c:Int):fitT prog 9 60 [.int .i64 a,.int .i64 b,.int .i64 c]=true:=by kernel_rfl
theorem flOt:(xsk prog 9 62=some 4)=True:=eq_true (by kernel_rfl)
theorem agOt:aggT prog 62=true:=by kernel_rfl
theorem egOt:prog.eqGuardType prog.depth 62=false:=by kernel_rfl
theorem zma (a b c:Int) (s:ByteArray):fitT prog 9 62 [.int .i64 a,.int .i64 b,.int .i64 c,.string s]=true:=by kernel_rfl
attribute [go_sem] xwq x08 zav w6e flOt agOt egOt zma
theorem xs2 (f:Fl) (hf:f.Sm):CallsD Γ prog 24 [.agg (flC f),.agg (flC f)] (.one (cB true)):=by
 have hc:=fun l (hl:l∈f.shares)=>cSmF (Γ:=Γ) l (hf.rl l hl) (fun x hx=>Nat.le_trans (hf.fz l hl x hx) (by decide))
 have hhl:=hf.hl;have hsl:=hf.sl;have hol:=hf.ol;clear hf;refine hE [] func24 f24.eq_1 ?_
 repeat' first | refine hF ?_ ?_<;>intros | refine hI ?_
 all_goals try (exfalso;omega)
 refine vi3 [2,3] (fun i:Nat=>[(5,.one (.dat (cI i)))]) (fun _=>[flB f,flB f]) (fun i=>i<=f.srcs.length) (fun i=>f.srcs.length-i) 0 (Nat.zero_le _) ?_ ?_
 . refine hg ?_;exact sS
 intro i hi;refine hg ?_;refine vdi (fun hlt _=>?_) (fun hlt _=>?_)
 . have hlt':i<f.srcs.length:=by omega
   refine hg ?_
   repeat' first | refine hF ?_ ?_<;>intros | refine hI ?_
   all_goals first
    | exact ⟨i+1,by omega,by omega,sS⟩
    | (exfalso;simp_all;done)
 refine hg ?_;refine vi3 [2,3] (fun i:Nat=>[(6,.one (.dat (cI i)))]) (fun _=>[flB f,flB f]) (fun i=>i<=f.outs.length) (fun i=>f.outs.length-i) 0 (Nat.zero_le _) ?_ ?_
 . refine hg ?_;exact sS
 intro i hi;refine hg ?_;refine vdi (fun hlt _=>?_) (fun hlt _=>?_)
 . have hlt':i<f.outs.length:=by omega
   have hq:seq (f.outs.getD i default).name (f.outs.getD i default).name=true:=by rw [xju];exact decide_eq_true rfl
   refine hg1 @hq ?_
   repeat' first | refine hF ?_ ?_<;>intros | refine hI ?_
   all_goals first
    | exact ⟨i+1,by omega,by omega,sS⟩
    | (exfalso;simp_all;done)
 refine hg ?_;refine vi3 [2,3] (fun i:Nat=>[(7,.one (.dat (cI i)))]) (fun _=>[flB f,flB f]) (fun i=>i<=f.shares.length) (fun i=>f.shares.length-i) 0 (Nat.zero_le _) ?_ ?_
 . refine hg ?_;exact sS
 intro i hi;refine hg ?_;refine vdi (fun hlt _=>?_) (fun hlt _=>?_)
 . have hlt':i<f.shares.length:=by omega
   have c1:=hc _ (vdv hlt');refine hg ?_
   repeat' first | refine hF ?_ ?_<;>intros | refine hI ?_ | (with_reducible first | refine w5a (c1) ?_ | refine xqd (c1) ?_)<;>refine hgS ?_
   exact ⟨i+1,by omega,by omega,sS⟩
 refine hg ?_
 repeat' first | refine hF ?_ ?_<;>intros | refine hI ?_
 exact RLe.ofEq rfl
theorem zuo:({ data:=(([115,104,101,101,116,32,109,32,123,32,105,109,112,111,114,116,32,102,108,111,117,114,32,34,107,103,34,32,53,32,61,32,51,32,58,32,111,117,116,32,58,32,49,32,59,32,105,110,112,117,116,32,103,97,115,32,34,107,103,34,32,99,111,50].append [32,59,32,99,101,108,108,32,119,32,34,34,32,61,32,51,32,59,32,99,101,108,108,32,118,32,34,34,32,61,32,49,32,59,32,112,111,114,116,32,98,114,101,97,100,32,34,107,103,34,32,57,32,59,32,115,116,111,114,101,32,115,105,108]).append ([111,32,34,107,103,34,32,102,105,114,115,116,32,59,32,114,101,99,105,112,101,32,99,111,50,32,123,32,109,101,116,101,114,32,112,32,61,32,103,97,115,32,59,32,116,97,107,101,32,113,32,61,32,102,108,111,117,114,32,59,32,115,112,108].append [105,116,32,112,32,105,110,116,111,32,97,32,58,32,119,32,44,32,98,32,58,32,118,32,59,32,106,111,105,110,32,97,32,44,32,113,32,105,110,116,111,32,114,32,59,32,103,105,118,101,32,114,32,116,111,32,98,114,101,97,100,32,59,32])).toArray }:ByteArray)=xye:=rfl
theorem x9z:((([(115:UInt8),104,101,101,116,32,109,32,123,32,105,109,112,111,114,116,32,102,108,111,117,114,32,34,107,103,34,32,53,32,61,32,51,32,58,32,111,117,116,32,58,32,49,32,59,32,105,110,112,117,116,32,103,97,115,32,34,107,103,34,32,99,111,50].append [32,59,32,99,101,108,108,32,119,32,34,34,32,61,32,51,32,59,32,99,101,108,108,32,118,32,34,34,32,61,32,49,32,59,32,112,111,114,116,32,98,114,101,97,100,32,34,107,103,34,32,57,32,59,32,115,116,111,114,101,32,115,105,108]).append ([111,32,34,107,103,34,32,102,105,114,115,116,32,59,32,114,101,99,105,112,101,32,99,111,50,32,123,32,109,101,116,101,114,32,112,32,61,32,103,97,115,32,59,32,116,97,107,101,32,113,32,61,32,102,108,111,117,114,32,59,32,115,112,108].append [105,116,32,112,32,105,110,116,111,32,97,32,58,32,119,32,44,32,98,32,58,32,118,32,59,32,106,111,105,110,32,97,32,44,32,113,32,105,110,116,111,32,114,32,59,32,103,105,118,101,32,114,32,116,111,32,98,114,101,97,100,32,59,32]))).length=xye.size:=rfl
theorem xch:([32,125,32,125]:List UInt8).length=zig.size:=rfl
theorem xhm:({ data:=#[32,125,32,125] }:ByteArray)=zig:=rfl
theorem w2v {t:ByteArray} {s:Sht} (hG:w2q Γ 0=.elt sgC) (ht:t.size<=1000) (h:yui (exT t) s) (hs:s.Sm) (hr:wp4 s=true):CallsD Γ prog 25 [.one (cS t)] (.agg (shtC s)):=by
 have h1:xye.size<=1000:=by decide +kernel
 have h2:zig.size<=1000:=by decide +kernel
 have hl:(exT t).size<=1073741824:=by
  unfold exT;rw [ByteArray.size_append,ByteArray.size_append];omega
 have l1:(xye.size+t.size<=9223372036854775807)=True:=eq_true (by omega);have l2:(xye.size+t.size+zig.size<=9223372036854775807)=True:=eq_true (by omega);have cr:=xwi (Γ:=Γ) s hs;rw [hr] at cr;have c:=vsj (Γ:=Γ) hG hl h cr;clear h cr hr hs;unfold exT at c;refine hE [] func25 f25.eq_1 ?_;refine hg6 @zuo @xhm @x9z @xch @l1 @l2 ?_
 repeat' first | refine hF ?_ ?_<;>intros | refine hI ?_ | (with_reducible first | refine w5a (c) ?_ | refine xqd (c) ?_)<;>refine hgS ?_
 all_goals exact RLe.ofEq rfl
theorem cOf5 (p:Int) (d:Nat) (hp:inI p) (hd:d≠0) (hdi:inI d):CallsD Γ prog 40 [.one (cI p),.one (cI d)] (.tup [.agg (Fc.of (mkRat p d)).C,.one (cI 0)]):=by
 have h0:=rOf (Γ:=Γ) p hp;have h1:=rOf (Γ:=Γ) d hdi;rw [vsn hd,Int.natAbs_natCast] at h1;have hN:=w4c (Γ:=Γ) p d (zq0 hp) hd (by have:=vii (n:=d) (by unfold inI at hdi;omega);omega);refine hE [] func40 f40.eq_1 ?_
 repeat' first | refine hF ?_ ?_<;>intros | refine hI ?_ | (with_reducible first | refine w5a (h0) ?_ | refine xqd (h0) ?_ | refine w5a (h1) ?_ | refine xqd (h1) ?_ | refine w5a (hN) ?_ | refine xqd (hN) ?_)<;>refine hgS ?_
 exact RLe.ofEq rfl
theorem wpa (p:Int) (d:Nat) {x:Rat} (hp:inI p) (hd:d≠0) (hdi:inI d) (hx:mkRat p d=x):CallsD Γ prog 27 [.one (cI p),.one (cI d)] (.agg (Fc.of x).C):=by
 have h:=cOf5 (Γ:=Γ) p d hp hd hdi;rw [hx] at h;obtain ⟨q,hq⟩:∃ q,Fc.of x=q:=⟨_,rfl⟩;rw [hq] at h ⊢;simp only [Fc.C_eq] at h;clear hq;refine hE [] func27 f27.eq_1 ?_
 repeat' first | refine hF ?_ ?_<;>intros | refine hI ?_ | (with_reducible first | refine w5a (h) ?_ | refine xqd (h) ?_)<;>refine hgS ?_
 exact RLe.ofEq rfl
theorem yh1 (n:Int) (hn:inI n) {x:Rat} (hx:(n:Rat)=x):CallsD Γ prog 26 [.one (cI n)] (.agg (Sc.C ⟨Fc.of x,Fc.of x⟩)):=by
 have h:=vq4 (Γ:=Γ) n hn;rw [hx] at h;obtain ⟨q,hq⟩:∃ q,Fc.of x=q:=⟨_,rfl⟩;rw [hq] at h ⊢;simp only [Fc.C_eq] at h;clear hq;refine hE [] func26 f26.eq_1 ?_
 repeat' first | refine hF ?_ ?_<;>intros | refine hI ?_ | (with_reducible first | refine w5a (h) ?_ | refine xqd (h) ?_)<;>refine hgS ?_
 exact RLe.ofEq rfl
theorem vfc {q:Rat} (h:q.num.natAbs<=1000/\q.den<=1000):(Fc.of q).sz<=4:=by
 rw [Fc.yv7];have h1:=vii (n:=q.num.natAbs) (by omega);have h2:=vii (n:=q.den) (by omega);omega
theorem vmf (x y u v:Rat) (h1:x<=y) (h2:u<=v) (hx:(Fc.of x).sz<=4) (hy:(Fc.of y).sz<=4) (hu:(Fc.of u).sz<=4) (hv:(Fc.of v).sz<=4):CallsD Γ prog 10 [.agg (shtC (exSh exS6)),.one (cI 0),.one (.sl 8 ((exC2 (Fc.of x) (Fc.of y) (Fc.of u) (Fc.of v)).map Sc.C))] (frR (x0f (exSh exS6) 0 (exC2 (Fc.of x) (Fc.of y) (Fc.of u) (Fc.of v)))):=
 z4e (exSh exS6) 0 _ vz6 (by show 2<=1048576;decide) (fun w hw=>by
  have e:w=⟨Fc.of x,Fc.of y⟩\/w=⟨Fc.of u,Fc.of v⟩:=by simpa using hw
  rcases e with rfl | rfl<;>(unfold Sc.sz;dsimp only;omega)) (xpl h1 h2) (by rw [ydt]) (vcf (Fc.zf6 x) (Fc.zf6 u) (by omega) (by omega) (by omega) (by omega))
theorem zrt (x y u v:Rat) (h1:x<=y) (h2:u<=v) (hx:(Fc.of x).sz<=4) (hy:(Fc.of y).sz<=4) (hu:(Fc.of u).sz<=4) (hv:(Fc.of v).sz<=4):CallsD Γ prog 10 [.agg (shtC (exSh exS5)),.one (cI 0),.one (.sl 8 ((exC2 (Fc.of x) (Fc.of y) (Fc.of u) (Fc.of v)).map Sc.C))] (frR (x0f (exSh exS5) 0 (exC2 (Fc.of x) (Fc.of y) (Fc.of u) (Fc.of v)))):=
 z3l (exSh exS5) 0 _ wa3 (by show 2<=1048576;decide) (fun w hw=>by
  have e:w=⟨Fc.of x,Fc.of y⟩\/w=⟨Fc.of u,Fc.of v⟩:=by simpa using hw
  rcases e with rfl | rfl<;>(unfold Sc.sz;dsimp only;omega)) (vkt h1 h2) (by rw [x9j.1];decide)
theorem vjz:v32.Sm:=by
 have h1:(Fc.of (3 / 4)).sz<=4:=vfc (by decide +kernel);have h2:(Fc.of 1).sz<=4:=vfc (by decide +kernel);have h3:(Fc.of (1 / 4)).sz<=4:=vfc (by decide +kernel);have h4:(Fc.of 0).sz<=4:=vfc (by decide +kernel);refine ⟨by show 2<=1048576;decide,by show 2<=1048576;decide,by show 2<=1048576;decide,fun r hr=>?_,fun r hr x hx=>?_⟩
 . have e:r=[Fc.of (3 / 4),Fc.of 1]\/r=[Fc.of (1 / 4),Fc.of 0]:=by simpa [v32] using hr
   rcases e with rfl | rfl<;>(show 2<=1048576;decide)
 . have e:r=[Fc.of (3 / 4),Fc.of 1]\/r=[Fc.of (1 / 4),Fc.of 0]:=by simpa [v32] using hr
   rcases e with rfl | rfl<;>(rcases List.mem_cons.1 hx with rfl | hx;omega;rw [List.mem_singleton.1 hx];omega)
abbrev scC (a b:Fc):List Cell:=[.raw (.int .i64 a.s),.ints .i64 a.L,.raw (.int .i64 a.t),.ints .i64 a.M,.raw (.int .i64 b.s),.ints .i64 b.L,.raw (.int .i64 b.t),.ints .i64 b.M]
theorem z9f (hG:w2q Γ 0=.elt sgC):CallsD Γ prog 7 [] (.one (cB true)):=by
 have s3:(Fc.of 3).sz<=4:=vfc (by decide +kernel);have s1:(Fc.of 1).sz<=4:=vfc (by decide +kernel);have s0:(Fc.of 0).sz<=4:=vfc (by decide +kernel);have s4:(Fc.of 4).sz<=4:=vfc (by decide +kernel);have s8:(Fc.of 8).sz<=4:=vfc (by decide +kernel);have s5:(Fc.of 5).sz<=4:=vfc (by decide +kernel);have s11:(Fc.of 11).sz<=4:=vfc (by decide +kernel);have s2:(Fc.of 2).sz<=4:=vfc (by decide +kernel);have c1:CallsD Γ prog 25 [.one (cS ⟨#[108,111,115,101,32,98,32,97,115,32,104,101,97,116,32,59]⟩)] (.agg (shtC (exSh exS6))):=w2v (t:=exL) hG (by decide +kernel) y87 vz6 wtd;have c2:CallsD Γ prog 25 [.one (cS ⟨#[]⟩)] (.agg (shtC (exSh exS5))):=w2v (t:=⟨#[]⟩) hG (by decide) zjy wa3 wvs;have p3:CallsD Γ prog 26 [.one (cI 3)] (.agg (scC (Fc.of 3) (Fc.of 3))):=yh1 3 (by decide) (by decide +kernel);have p1:CallsD Γ prog 26 [.one (cI 1)] (.agg (scC (Fc.of 1) (Fc.of 1))):=yh1 1 (by decide) (by decide +kernel);have p0:CallsD Γ prog 26 [.one (cI 0)] (.agg (scC (Fc.of 0) (Fc.of 0))):=yh1 0 (by decide) (by decide +kernel);have f34:CallsD Γ prog 27 [.one (cI 3),.one (cI 4)] (.agg (fcC (Fc.of (3 / 4)))):=wpa 3 4 (by decide) (by decide) (by decide) (by decide +kernel);have f1:CallsD Γ prog 27 [.one (cI 1),.one (cI 1)] (.agg (fcC (Fc.of 1))):=wpa 1 1 (by decide) (by decide) (by decide) (by decide +kernel);have f14:CallsD Γ prog 27 [.one (cI 1),.one (cI 4)] (.agg (fcC (Fc.of (1 / 4)))):=wpa 1 4 (by decide) (by decide) (by decide) (by decide +kernel);have f0:CallsD Γ prog 27 [.one (cI 0),.one (cI 1)] (.agg (fcC (Fc.of 0))):=wpa 0 1 (by decide) (by decide) (by decide) (by decide +kernel);have f8:CallsD Γ prog 27 [.one (cI 8),.one (cI 1)] (.agg (fcC (Fc.of 8))):=wpa 8 1 (by decide) (by decide) (by decide) (by decide +kernel);have f5:CallsD Γ prog 27 [.one (cI 5),.one (cI 1)] (.agg (fcC (Fc.of 5))):=wpa 5 1 (by decide) (by decide) (by decide) (by decide +kernel);have f3:CallsD Γ prog 27 [.one (cI 3),.one (cI 1)] (.agg (fcC (Fc.of 3))):=wpa 3 1 (by decide) (by decide) (by decide) (by decide +kernel);have f4:CallsD Γ prog 27 [.one (cI 4),.one (cI 1)] (.agg (fcC (Fc.of 4))):=wpa 4 1 (by decide) (by decide) (by decide) (by decide +kernel);have f11:CallsD Γ prog 27 [.one (cI 11),.one (cI 1)] (.agg (fcC (Fc.of 11))):=wpa 11 1 (by decide) (by decide) (by decide) (by decide +kernel);have f2:CallsD Γ prog 27 [.one (cI 2),.one (cI 1)] (.agg (fcC (Fc.of 2))):=wpa 2 1 (by decide) (by decide) (by decide) (by decide +kernel);have w1:=vmf (Γ:=Γ) 3 3 1 1 (by decide +kernel) (by decide +kernel) s3 s3 s1 s1;rw [vbs] at w1;have w2:=vmf (Γ:=Γ) 3 4 1 1 (by decide +kernel) (by decide +kernel) s3 s4 s1 s1;rw [yv6] at w2;have w3:=vmf (Γ:=Γ) 0 0 0 0 (by decide +kernel) (by decide +kernel) s0 s0 s0 s0;rw [ypq] at w3;have w4:=zrt (Γ:=Γ) 3 3 1 1 (by decide +kernel) (by decide +kernel) s3 s3 s1 s1;rw [xa9] at w4
 have r1:=vcl (Γ:=Γ) v32 [Fc.of 8,Fc.of 5] vjz (by show 2<=1048576;decide) (fun x hx=>by
  rcases List.mem_cons.1 hx with rfl | hx
  . omega
  . rw [List.mem_singleton.1 hx];omega)
 rw [zyd.1,zyd.2] at r1;have m1:=xs2 (Γ:=Γ) v32 vjz
 have m2:=cSmF (Γ:=Γ) [Fc.of 11,Fc.of 2] (by show 2<=1048576;decide) (fun x hx=>by
  rcases List.mem_cons.1 hx with rfl | hx
  . omega
  . rw [List.mem_singleton.1 hx];omega)
 replace w1:CallsD Γ prog 10 [.agg (shtC (exSh exS6)),.one (cI 0),.one (.sl 8 [scC (Fc.of 3) (Fc.of 3),scC (Fc.of 1) (Fc.of 1)])] (.tup [.agg (flC v32),.one (cI 0),.one (cI 0)]):=w1
 replace w2:CallsD Γ prog 10 [.agg (shtC (exSh exS6)),.one (cI 0),.one (.sl 8 [scC (Fc.of 3) (Fc.of 4),scC (Fc.of 1) (Fc.of 1)])] (.tup [.agg [.sl 3 [],.sl 4 [],.sl 1 []],.one (cI 3),.one (cI 2)]):=w2
 replace w3:CallsD Γ prog 10 [.agg (shtC (exSh exS6)),.one (cI 0),.one (.sl 8 [scC (Fc.of 0) (Fc.of 0),scC (Fc.of 0) (Fc.of 0)])] (.tup [.agg [.sl 3 [],.sl 4 [],.sl 1 []],.one (cI 15),.one (cI 2)]):=w3
 replace w4:CallsD Γ prog 10 [.agg (shtC (exSh exS5)),.one (cI 0),.one (.sl 8 [scC (Fc.of 3) (Fc.of 3),scC (Fc.of 1) (Fc.of 1)])] (.tup [.agg [.sl 3 [],.sl 4 [],.sl 1 []],.one (cI 21),.one (cI 5)]):=w4
 replace r1:CallsD Γ prog 15 [.agg (flC v32),.one (.sl 4 [fcC (Fc.of 8),fcC (Fc.of 5)])] (.tup [.one (.sl 4 [fcC (Fc.of 11),fcC (Fc.of 2)]),.one (cB true)]):=r1
 replace m1:CallsD Γ prog 24 [.agg (flC v32),.agg [.sl 3 [[cI 0,cI 0,cI 0],[cI 1,cI 0,cI 0]],.sl 4 [[cI 0,cI 0,cI 0,cS ⟨#[]⟩],[cI 2,cI 0,cI 0,cS ⟨#[104,101,97,116]⟩]],.sl 1 [[.sl 4 [fcC (Fc.of (3 / 4)),fcC (Fc.of 1)]],[.sl 4 [fcC (Fc.of (1 / 4)),fcC (Fc.of 0)]]]]] (.one (cB true)):=m1
 replace m2:CallsD Γ prog 28 [.one (.sl 4 [fcC (Fc.of 11),fcC (Fc.of 2)]),.one (.sl 4 [fcC (Fc.of 11),fcC (Fc.of 2)])] (.one (cB true)):=m2
 clear s3 s1 s0 s4 s8 s5 s11 s2;generalize Fc.of 3=q3 at *;generalize Fc.of 1=q1 at *;generalize Fc.of 0=q0 at *;generalize Fc.of 4=q4 at *;generalize Fc.of (3 / 4)=q34 at *;generalize Fc.of (1 / 4)=q14 at *;generalize Fc.of 8=q8 at *;generalize Fc.of 5=q5 at *;generalize Fc.of 11=q11 at *;generalize Fc.of 2=q2 at *;generalize exSh exS6=sh6 at *;generalize exSh exS5=sh5 at *;generalize v32=xf at *;refine hE [] func7 f7.eq_1 ?_
 repeat' first | refine hF ?_ ?_<;>intros | refine hI ?_ | (with_reducible first | refine w5a (c1) ?_ | refine xqd (c1) ?_ | refine w5a (c2) ?_ | refine xqd (c2) ?_ | refine w5a (p3) ?_ | refine xqd (p3) ?_ | refine w5a (p1) ?_ | refine xqd (p1) ?_ | refine w5a (p0) ?_ | refine xqd (p0) ?_ | refine w5a (f34) ?_ | refine xqd (f34) ?_ | refine w5a (f1) ?_ | refine xqd (f1) ?_ | refine w5a (f14) ?_ | refine xqd (f14) ?_ | refine w5a (f0) ?_ | refine xqd (f0) ?_ | refine w5a (f8) ?_ | refine xqd (f8) ?_ | refine w5a (f5) ?_ | refine xqd (f5) ?_ | refine w5a (f3) ?_ | refine xqd (f3) ?_ | refine w5a (f4) ?_ | refine xqd (f4) ?_ | refine w5a (f11) ?_ | refine xqd (f11) ?_ | refine w5a (f2) ?_ | refine xqd (f2) ?_ | refine w5a (w1) ?_ | refine xqd (w1) ?_ | refine w5a (w2) ?_ | refine xqd (w2) ?_ | refine w5a (w3) ?_ | refine xqd (w3) ?_ | refine w5a (w4) ?_ | refine xqd (w4) ?_ | refine w5a (r1) ?_ | refine xqd (r1) ?_ | refine w5a (m1) ?_ | refine xqd (m1) ?_ | refine w5a (m2) ?_ | refine xqd (m2) ?_)<;>refine hgS ?_
 all_goals first
  | exact RLe.ofEq rfl
  | (exfalso;omega)
end Go.Hp.T
namespace Go.Slot
open Go Go.RowKit Go.ChangeShapes
variable {P:Program} {H:Type} {enc:TypeId×Value->H} {w:World} {spare:Nat->Bool} {held:Bool}
structure Bulk (bk:DataW H->Nat):Prop where
 str:∀ b,b.length<=bk (.lit (.string b))
 elems:∀ l r,l.length<=bk (.slice l r)
 elem:∀ l r d,d∈l->bk d<=bk (.slice l r)
 part:∀ l d,d∈l->bk d<=bk (.agg l)
theorem RdD.app0 {M:Nat->Nat->Prop} {w:World}:∀{vs us:List Value} {cs ds:List Cell},RdD M w vs cs->RdD M w us ds->RdD M w (vs++us) (cs++ds)
 | [],_,[],_,_,h=>h
 | _::_,_,_::_,_,h,h'=>⟨h.1,RdD.app0 h.2 h'⟩
theorem cellAt {a:Addr} {v:Value} (h:w.cell? a=some v):a.spot=none:=by
 unfold World.cell? at h;split at h
 . split at h
   . cases h
   . rename_i hs;simpa using hs
 . cases h
theorem addrAt {a:Addr} (h:a.spot=none) (n:Nat):a.add n=⟨a.block,a.off+n,none⟩:=by
 unfold Addr.add
 split
 . rename_i e;subst e;cases a;simp at h;subst h;rfl
 . rfl
section
variable {bk:DataW H->Nat} {N:Nat}
end
end Go.Slot
namespace Go.Slot
open Go Go.RowKit Go.ChangeShapes Go.WideShapes
variable {P:Program} {H:Type} {enc:TypeId×Value->H}
def M0:Nat->Nat->Prop:=fun _ _=>False
section
variable {w:World} {spare:Nat->Bool} {held:Bool} {bk:DataW H->Nat} {N:Nat} {r:Reach} {b0:Nat}
end
theorem vf3 (hl:laidOutB P=true) {W W':World} (hb:Below W.heap.size W W') {sp:Nat->Bool}:∀{ts:List TypeId} {vs:List Value} {ds:List (DataW H)} {ps:List MemPlace},(∀ t∈ts,P.readableRec t=true/\t<P.types.size)->
 DataW.TrodAll enc P W 0 (fun _=>true) true ts vs ds ps->(∀ p∈ps,p.block<W.heap.size)->(∀ p∈ps,sp p.block=true)->DataW.TrodAll enc P W' 0 sp true ts vs ds ps
 | [],vs,ds,ps,_,h,_,_=>by
  obtain ⟨rfl,rfl,rfl⟩:=trodAll_nil h;exact trodAll_mk0
 | t::ts,vs,ds,ps,hts,h,hlt,hsp=>by
  obtain ⟨v,vs',d,ds',p,q,rfl,rfl,rfl,⟨fuel,h1⟩,h2⟩:=trodAll_cons h;have ht:=hts t (by simp)
  exact ⟨p,q,⟨fuel,DataW.trod_stays (kids_book hl ht.1) (book_sized ht.1) (fun h=>by cases h) ⟨ht.2,book_self t⟩ h1 (fun x hx=>hb.same (hlt x (by simp [hx]))) (fun x hx=>hsp x (by simp [hx]))⟩,
   vf3 hl hb (fun u hu=>hts u (by simp [hu])) h2 (fun x hx=>hlt x (by simp [hx])) (fun x hx=>hsp x (by simp [hx])),rfl⟩
theorem xv8 {W W':World} {may:MemPlace->Prop} (hb:Below W.heap.size W W'):W.keptBut W' may:=by
 refine ⟨hb.os,hb.output,fun i hi=>?_⟩;rw [hb.block i hi]
 split
 . rename_i h1 h2;rw [h1] at h2;cases h2;exact ⟨rfl,rfl,rfl,fun _ _=>rfl⟩
 . rename_i h1 h2;rw [h1] at h2;cases h2;exact .inr ⟨rfl,rfl⟩
 . rfl
theorem vzu {W W':World} (hb:Below W.heap.size W W') {a:Addr} (h:a.block<W.heap.size):W'.frozen? a=W.frozen? a:=by
 unfold World.frozen?;rw [hb.block _ h]
theorem zh8 (hl:laidOutB P=true) {f:Func} {s:ChangeSpec} {apart fresh handsOn again:Bool} {W W':World} {args:Array Value} {ds gs:List (DataW H)} {before:List MemPlace} {tb:TypeId}
 (hts:∀ t∈f.params.toList,P.readableRec t=true/\t<P.types.size) (hv:s.vars=[]) (hrt:f.resultTypes=#[tb]) (htb:P.underlying tb=some .bool)
 (hfn:∀ ds gs:List (DataW H),DataW.TrodAll enc P W 0 (fun _=>true) true f.params.toList args.toList ds before->gs=[]->(s.fn H (ds++gs)).results=[.lit (.bool true)]/\(s.fn H (ds++gs)).args=ds/\(s.fn H (ds++gs)).vars=[])
 (hW:DataW.Whole enc P f.params.toList s.vars apart W args.toList ds gs before) (hb:Below W.heap.size W W'):s.post enc P f apart fresh handsOn again W args (.bool true) W':=by
 have hlt:∀ p∈before,p.block<W.heap.size:=fun p hp=>hW.lt p hp
 have hW':=hW;obtain ⟨p,q,hA,hV,rfl,hfz,hnd⟩:=hW;rw [hv] at hV;obtain ⟨rfl,rfl⟩:=trodVars_none hV;rw [List.append_nil] at hW' hlt hfz hnd hfn;obtain ⟨e1,e2,e3⟩:=hfn ds [] hA rfl
 have hres:∀(b:Nat) (sp:Nat->Bool) (hd:Bool),DataW.TrodAll enc P W' b sp hd f.resultTypes.toList ((Value.bool true).resultList f.resultTypes.size) (s.fn H (ds++[])).results []:=fun b sp hd=>by
  rw [e1,hrt];exact trodAll_cons_mk (shut_bool htb true) trodAll_mk0
 have hargs:∀ sp:Nat->Bool,(∀ x∈p,sp x.block=true)->DataW.TrodAll enc P W' 0 sp true f.params.toList args.toList (s.fn H (ds++[])).args p:=fun sp hsp=>by
  rw [e2];exact vf3 hl hb hts hA hlt hsp
 have hvars:∀ sp:Nat->Bool,DataW.TrodVars enc P W' sp s.vars (s.fn H (ds++[])).vars []:=fun sp=>by
  rw [e3,hv];exact rfl
 refine ⟨ds,[],p,[],p,[],hW',hres _ _ _,hargs _ (fun x hx=>by simpa using hlt x hx),hvars _,xv8 hb,fun _=>⟨?_,_,_,([]++p)++[],⟨[]++p,[],trodAll_append (hargs _ (fun _ _=>rfl)) (hres _ _ _),hvars _,rfl,?_,?_⟩,?_⟩⟩
 . exact ok_one hrt rfl (okWide_bool_mk htb true)
 . intro b off hp
   have hp':MemPlace.cell b off∈p:=by simpa using hp
   rw [vzu hb (hlt _ hp')];exact hfz b off hp'
 . intro ha;simpa using hnd ha
 . intro x hx _;simpa using hx
end Go.Slot
namespace Go.Slot
open Go Go.RowKit Go.ChangeShapes
def zt8 (P:Program):Nat->List Field->Bool
 | _,[]=>true
 | off,f::r=>f.offset==off&&zt8 P (off+P.cellsOf f.type) r
def yhh (P:Program):List Field->Nat
 | []=>0
 | f::r=>P.cellsOf f.type+yhh P r
def vs8 (P:Program) (L:List TypeId):Bool:=L.all fun t=>match P.underlying t with
 | some .bool=>true
 | some (.int _)=>true
 | some .string=>true
 | some (.slice e)=>L.contains e&&(P.cellsOf e != 0)&&(match P.underlying e with | some (.int _)=>P.cellsOf e==1 | _=>true)
 | some (.array n e)=>L.contains e&&(P.cellsOf t==n*P.cellsOf e)
 | some (.struct fs)=>(fs.toList.all fun f=>L.contains f.type)&&zt8 P 0 fs.toList&&(P.cellsOf t==yhh P fs.toList)
 | _=>false
inductive FitT (P:Program) (N:Nat):TypeId->List Cell->Prop
 | int {t:TypeId} {k:IntKind} {n:Int} (ht:P.underlying t=some (.int k)) (h:k.min<=n/\n<=k.max):FitT P N t [.raw (.int k n)]
 | bool {t:TypeId} {b:Bool} (ht:P.underlying t=some .bool):FitT P N t [.raw (.bool b)]
 | str {t:TypeId} {s:ByteArray} (ht:P.underlying t=some .string) (h:s.size<=N):FitT P N t [.raw (.string s)]
 | ints {t e:TypeId} {k:IntKind} {l:List Int} (ht:P.underlying t=some (.slice e)) (he:P.underlying e=some (.int k)) (hl:l.length<=N) (h:∀ x∈l,k.min<=x/\x<=k.max):FitT P N t [.ints k l]
 | sl {t e:TypeId} {rows:List (List Cell)} (ht:P.underlying t=some (.slice e)) (he:∀ k,P.underlying e≠some (.int k)) (hl:rows.length<=N) (h:∀ r∈rows,FitT P N e r):FitT P N t [.sl (P.cellsOf e) rows]
 | struct {t:TypeId} {fs:Array Field} {rows:List (List Cell)} (ht:P.underlying t=some (.struct fs)) (hl:rows.length=fs.size) (h:∀(i:Nat) (f:Field) (r:List Cell),fs.toList[i]? = some f->rows[i]? = some r->FitT P N f.type r):FitT P N t rows.flatten
 | array {t e:TypeId} {n:Nat} {rows:List (List Cell)} (ht:P.underlying t=some (.array n e)) (hl:rows.length=n) (h:∀ r∈rows,FitT P N e r):FitT P N t rows.flatten
section
variable {P:Program} {N:Nat} {t:TypeId} {cs:List Cell}
theorem FitT.wru (h:FitT P N t cs) {k:IntKind} (ht:P.underlying t=some (.int k)):∃ n,cs=[.raw (.int k n)]/\k.min<=n/\n<=k.max:=by
 cases h with
 | int h1 h2=>rw [ht] at h1;cases h1;exact ⟨_,rfl,h2⟩
 | bool h1=>rw [ht] at h1;cases h1
 | str h1=>rw [ht] at h1;cases h1
 | ints h1=>rw [ht] at h1;cases h1
 | sl h1=>rw [ht] at h1;cases h1
 | struct h1=>rw [ht] at h1;cases h1
 | array h1=>rw [ht] at h1;cases h1
theorem FitT.y9i (h:FitT P N t cs) (ht:P.underlying t=some .string):∃ s,cs=[.raw (.string s)]/\s.size<=N:=by
 cases h with
 | int h1 h2=>rw [ht] at h1;cases h1
 | bool h1=>rw [ht] at h1;cases h1
 | str h1 h2=>exact ⟨_,rfl,h2⟩
 | ints h1=>rw [ht] at h1;cases h1
 | sl h1=>rw [ht] at h1;cases h1
 | struct h1=>rw [ht] at h1;cases h1
 | array h1=>rw [ht] at h1;cases h1
theorem FitT.x96 (h:FitT P N t cs) {e:TypeId} {k:IntKind} (ht:P.underlying t=some (.slice e)) (he:P.underlying e=some (.int k)):∃ l,cs=[.ints k l]/\l.length<=N/\∀ x∈l,k.min<=x/\x<=k.max:=by
 cases h with
 | int h1 h2=>rw [ht] at h1;cases h1
 | bool h1=>rw [ht] at h1;cases h1
 | str h1 h2=>rw [ht] at h1;cases h1
 | ints h1 h2 h3 h4=>rw [ht] at h1;cases h1;rw [he] at h2;cases h2;exact ⟨_,rfl,h3,h4⟩
 | sl h1 h2=>rw [ht] at h1;cases h1;exact absurd he (h2 _)
 | struct h1=>rw [ht] at h1;cases h1
 | array h1=>rw [ht] at h1;cases h1
theorem FitT.wrw (h:FitT P N t cs) {e:TypeId} (ht:P.underlying t=some (.slice e)) (he:∀ k,P.underlying e≠some (.int k)):∃ rows,cs=[.sl (P.cellsOf e) rows]/\rows.length<=N/\∀ r∈rows,FitT P N e r:=by
 cases h with
 | int h1 h2=>rw [ht] at h1;cases h1
 | bool h1=>rw [ht] at h1;cases h1
 | str h1 h2=>rw [ht] at h1;cases h1
 | ints h1 h2 h3 h4=>rw [ht] at h1;cases h1;exact absurd h2 (he _)
 | sl h1 h2 h3 h4=>rw [ht] at h1;cases h1;exact ⟨_,rfl,h3,h4⟩
 | struct h1=>rw [ht] at h1;cases h1
 | array h1=>rw [ht] at h1;cases h1
theorem FitT.ztv (h:FitT P N t cs) {fs:Array Field} (ht:P.underlying t=some (.struct fs)):∃ rows:List (List Cell),cs=rows.flatten/\rows.length=fs.size/\
 ∀(i:Nat) (f:Field) (r:List Cell),fs.toList[i]? = some f->rows[i]? = some r->FitT P N f.type r:=by
 cases h with
 | int h1 h2=>rw [ht] at h1;cases h1
 | bool h1=>rw [ht] at h1;cases h1
 | str h1 h2=>rw [ht] at h1;cases h1
 | ints h1 h2 h3 h4=>rw [ht] at h1;cases h1
 | sl h1 h2 h3 h4=>rw [ht] at h1;cases h1
 | struct h1 h2 h3=>rw [ht] at h1;cases h1;exact ⟨_,rfl,h2,h3⟩
 | array h1=>rw [ht] at h1;cases h1
end
variable {P:Program} {H:Type} {enc:TypeId×Value->H} {w:World} {spare:Nat->Bool} {held:Bool} {bk:DataW H->Nat} {N:Nat}
theorem RdD.zve {M:Nat->Nat->Prop}:∀{vs:List Value} {cs:List Cell},RdD M w vs cs->∀ j (hj:j<cs.length),RdC M w (vs.getD j Go.undef) cs[j]
 | [],[],_,j,hj=>by simp at hj
 | _::_,[],h,_,_=>h.elim
 | [],_::_,h,_,_=>h.elim
 | _::_,_::_,h,0,_=>h.1
 | _::vs,_::cs,h,j+1,hj=>by simpa using RdD.zve (vs:=vs) (cs:=cs) h.2 j (by simpa using hj)
theorem z2w {L:List TypeId} {fuel:Nat} (hrec:∀(t:TypeId),t∈L->∀(cs:List Value) (x:DataW H×List MemPlace),DataW.trod enc P w 0 spare held fuel t cs=some x->bk x.1<=N->
 ∃ cells,RdD (fun _ _=>False) w cs cells/\FitT P N t cells) :
 ∀(fs:List Field) (off:Nat) (cs:List Value) (xs:List (DataW H×List MemPlace)),zt8 P off fs=true->(∀ f∈fs,f.type∈L)->cs.length=off+yhh P fs->xs.length=fs.length->
  (∀(i:Nat) (f:Field),fs[i]? = some f->DataW.trod enc P w 0 spare held fuel f.type ((cs.drop f.offset).take (P.cellsOf f.type))=xs[i]?)->(∀ x∈xs,bk x.1<=N)->
  ∃ rows:List (List Cell),RdD (fun _ _=>False) w (cs.drop off) rows.flatten/\rows.length=fs.length/\∀(i:Nat) (f:Field) (r:List Cell),fs[i]? = some f->rows[i]? = some r->FitT P N f.type r
 | [],off,cs,xs,_,_,hlen,_,_,_=>by
  refine ⟨[],?_,rfl,fun i f r hf=>by simp at hf⟩;rw [List.drop_eq_nil_of_le (by simp [yhh] at hlen;omega)];exact trivial
 | f::fs,off,cs,xs,ht,hL,hlen,hxs,hx,hb=>by
  simp only [zt8,Bool.and_eq_true,beq_iff_eq] at ht;obtain ⟨hoff,ht⟩:=ht;simp only [yhh] at hlen
  cases xs with
  | nil=>simp at hxs
  | cons x xs=>
   have h0:=hx 0 f rfl;simp only [List.getElem?_cons_zero] at h0;obtain ⟨c0,r0,f0⟩:=hrec f.type (hL f (by simp)) _ x h0 (hb x (by simp))
   obtain ⟨rows,r1,f1,f2⟩:=z2w hrec fs (off+P.cellsOf f.type) cs xs ht (fun g hg=>hL g (by simp [hg])) (by omega) (by simpa using hxs) (fun i f' hf=>by
    have:=hx (i+1) f' (by simpa using hf)
    simpa using this) (fun y hy=>hb y (by simp [hy]))
   refine ⟨c0::rows,?_,by simp [f1],fun i f' r hf hr=>?_⟩
   . have:cs.drop off=(cs.drop f.offset).take (P.cellsOf f.type)++cs.drop (off+P.cellsOf f.type):=by
      rw [hoff,<-List.drop_drop,List.take_append_drop]
     rw [this,List.flatten_cons];exact r0.app0 r1
   . cases i with
     | zero=>simp at hf hr;subst hf hr;exact f0
     | succ i=>exact f2 i f' r (by simpa using hf) (by simpa using hr)
theorem znu {e:TypeId} {fuel:Nat} (hrec:∀(cs:List Value) (x:DataW H×List MemPlace),DataW.trod enc P w 0 spare held fuel e cs=some x->bk x.1<=N->
 ∃ cells,RdD (fun _ _=>False) w cs cells/\FitT P N e cells) (cs:List Value) :
 ∀(n k:Nat) (xs:List (DataW H×List MemPlace)),cs.length=(k+n)*P.cellsOf e->xs.length=k+n->
  (∀(i:Nat),k<=i->i<k+n->DataW.trod enc P w 0 spare held fuel e ((cs.drop (i*P.cellsOf e)).take (P.cellsOf e))=xs[i]?)->(∀ x∈xs,bk x.1<=N)->
  ∃ rows:List (List Cell),RdD (fun _ _=>False) w (cs.drop (k*P.cellsOf e)) rows.flatten/\rows.length=n/\∀ r∈rows,FitT P N e r
 | 0,k,xs,hlen,_,_,_=>by
  refine ⟨[],?_,rfl,fun r hr=>by cases hr⟩;rw [List.drop_eq_nil_of_le (by rw [hlen];simp)];exact trivial
 | n+1,k,xs,hlen,hxs,hx,hb=>by
  have hk:k<xs.length:=by omega
  have h0:=hx k (Nat.le_refl _) (by omega);rw [List.getElem?_eq_getElem hk] at h0;obtain ⟨c0,r0,f0⟩:=hrec _ _ h0 (hb _ (List.getElem_mem hk));obtain ⟨rows,r1,f1,f2⟩:=znu hrec cs n (k+1) xs (by rw [hlen];congr 1;omega) (by omega) (fun i h1 h2=>hx i (by omega) (by omega)) hb;refine ⟨c0::rows,?_,by simp [f1],fun r hr=>?_⟩
  . have:cs.drop (k*P.cellsOf e)=(cs.drop (k*P.cellsOf e)).take (P.cellsOf e)++cs.drop ((k+1)*P.cellsOf e):=by
     rw [Nat.add_mul,Nat.one_mul,<-List.drop_drop,List.take_append_drop]
    rw [this,List.flatten_cons];exact r0.app0 r1
  . cases List.mem_cons.1 hr with
    | inl h=>subst h;exact f0
    | inr h=>exact f2 r h
theorem y21 (hB:Bulk bk) {L:List TypeId} (hL:vs8 P L=true):∀(fuel:Nat) (t:TypeId),t∈L->∀(cs:List Value) (x:DataW H×List MemPlace),DataW.trod enc P w 0 spare held fuel t cs=some x->bk x.1<=N->
 ∃ cells,RdD (fun _ _=>False) w cs cells/\FitT P N t cells:=by
 intro fuel
 induction fuel with
 | zero=>intro t _ cs x h;simp [DataW.trod] at h
 | succ fuel ih=>
  intro t htL cs x hx hb;have hok:=List.all_eq_true.1 hL t htL;split at hok
  . rename_i ht;obtain ⟨b,rfl,rfl⟩:=DataW.trod_bool ht hx;exact ⟨[.raw (.bool b)],⟨.raw rfl,trivial⟩,.bool ht⟩
  . rename_i k ht;obtain ⟨m,rfl,rfl,hw⟩:=DataW.trod_int ht hx;exact ⟨[.raw (.int k m)],⟨.raw rfl,trivial⟩,.int ht (by simpa [Lit.wf] using hw)⟩
  . rename_i ht;obtain ⟨s,rfl,rfl,_⟩:=DataW.trod_string ht hx;refine ⟨[.raw (.string s)],⟨.raw rfl,trivial⟩,.str ht ?_⟩;have h1:=hB.str s.data.toList;have e:s.data.toList.length=s.size:=Array.length_toList;have hb:bk (.lit (.string s.data.toList))<=N:=hb;omega
  . rename_i e ht;simp only [Bool.and_eq_true,bne_iff_ne,ne_eq] at hok;obtain ⟨⟨heL,hc0⟩,hk⟩:=hok
    have heL:e∈L:=by simpa using heL
    by_cases hint:∃ k,P.underlying e=some (.int k)
    . obtain ⟨k,he⟩:=hint;rw [he] at hk
      have hc:P.cellsOf e=1:=by simpa using hk
      rcases open_ints ht he hc hx with ⟨rfl,rfl⟩ | ⟨a,len,cap,zs,rfl,_,hlc,_,hzl,rfl,hcell,hwf⟩
      . exact ⟨[.ints k []],⟨.ints 0 0 rfl (Nat.le_refl _) (fun h=>absurd rfl h) (fun i hi=>absurd hi (Nat.not_lt_zero i)),trivial⟩,.ints ht he (Nat.zero_le _) (fun x hx=>by cases hx)⟩
      . have hle:len<=zs.length:=by rw [hzl];split<;>omega
        have htl:(zs.take len).length=len:=by simp;omega
        refine ⟨[.ints k (zs.take len)],⟨.ints a.block a.off htl.symm hlc (fun hne=>?_) (fun i hi=>⟨fun h=>h,?_⟩),trivial⟩,.ints ht he ?_ (fun x hx=>?_)⟩
        . have hpos:0<zs.length:=by
           have:=List.length_pos_iff.2 hne
           omega
          have h0:=cellAt (hcell 0 hpos)
          have h0:a.spot=none:=by simpa [Addr.add] using h0
          cases a;simp at h0;subst h0;rfl
        . have hi':i<zs.length:=by omega
          have h1:=hcell i hi'
          have hs:a.spot=none:=by
           have h0:=cellAt (hcell 0 (by omega));simpa [Addr.add] using h0
          rw [addrAt hs] at h1;rw [h1];simp [hi']
        . have:=hB.elems (lits (H:=H) k (zs.take len)) (lits k (zs.drop len))
          have e1:(lits (H:=H) k (zs.take len)).length=len:=by simp [lits];omega
          have hb:bk (.slice (lits k (zs.take len)) (lits k (zs.drop len)))<=N:=hb;omega
        . have:=hwf x (List.mem_of_mem_take hx)
          simpa [Lit.wf] using this
    . have hint:∀ k,P.underlying e≠some (.int k):=fun k hk=>hint ⟨k,hk⟩
      rcases DataW.trod_slice ht hx with ⟨rfl,rfl⟩ | ⟨a,len,cap,elems,rest,m,hm,rfl,rfl,_,hlc,_,hlen,hel,_,_⟩
      . exact ⟨[.sl (P.cellsOf e) []],⟨.sl 0 0 (fun _ _=>Go.undef) rfl (Nat.le_refl _) (fun h=>absurd rfl h) (fun r hr=>by cases hr) (fun i hi=>absurd hi (Nat.not_lt_zero i)) (fun i hi=>absurd hi (Nat.not_lt_zero i)),trivial⟩,
         .sl ht hint (Nat.zero_le _) (fun r hr=>by cases hr)⟩
      . obtain rfl:fuel=m:=by omega
        have each:∀ i,i<len->∃(vs:List Value) (row:List Cell),vs.length=P.cellsOf e/\(∀ j,j<P.cellsOf e->w.cell? ((a.add (i*P.cellsOf e)).add j)=vs[j]?)/\RdD (fun _ _=>False) w vs row/\FitT P N e row:=fun i hi=>by
         have h1:=hel i hi
         have hi':i<elems.length:=by omega
         rw [List.getElem?_eq_getElem hi'] at h1;simp only [Option.bind_eq_some_iff] at h1;obtain ⟨vs,hvs,htr⟩:=h1;obtain ⟨_,h2,h3⟩:=World.cells?_some hvs;have hbe:bk elems[i].1<=N:=Nat.le_trans (hB.elem (elems.map (·.1)) (rest.map (·.1)) elems[i].1 (List.mem_map.2 ⟨_,List.getElem_mem hi',rfl⟩)) hb;obtain ⟨row,r1,r2⟩:=ih e heL vs _ htr hbe;exact ⟨vs,row,h2,h3,r1,r2⟩
        have hlN:len<=N:=by
         have h1:=hB.elems (elems.map (·.1)) (rest.map (·.1));rw [List.length_map] at h1;have hb:bk (.slice (elems.map (·.1)) (rest.map (·.1)))<=N:=hb;omega
        have pick:∃(V:Nat->List Value) (R:Nat->List Cell),∀ i,i<len->(V i).length=P.cellsOf e/\(∀ j,j<P.cellsOf e->w.cell? ((a.add (i*P.cellsOf e)).add j)=(V i)[j]?)/\RdD (fun _ _=>False) w (V i) (R i)/\FitT P N e (R i):=by
         refine ⟨fun i=>if h:i<len then Classical.choose (each i h) else [],fun i=>if h:i<len then Classical.choose (Classical.choose_spec (each i h)) else [],fun i hi=>?_⟩;simp only [dif_pos hi];exact Classical.choose_spec (Classical.choose_spec (each i hi))
        obtain ⟨V,R,hVR⟩:=pick
        have hspot:∀ i j,i<len->j<P.cellsOf e->a.spot=none:=fun i j hi hj=>by
         have h0:0<len:=by omega
         have h2:=(hVR 0 h0).2.1 0 (by omega)
         have hl0':0<(V 0).length:=by rw [(hVR 0 h0).1];omega
         rw [List.getElem?_eq_getElem hl0'] at h2
         have:=cellAt h2
         simpa [Addr.add] using this
        have hrl:∀ i,i<len->(R i).length=P.cellsOf e:=fun i hi=>by rw [<-(hVR i hi).2.2.1.length];exact (hVR i hi).1
        refine ⟨[.sl (P.cellsOf e) ((List.range len).map R)],⟨.sl a.block a.off (fun i j=>(V i).getD j Go.undef) (by simp) hlc (fun hne=>?_) (fun r hr=>?_) (fun i hi j hj=>⟨fun h=>h,?_⟩) (fun i hi j hj=>?_),trivial⟩,.sl ht hint (by simpa using hlN) (fun r hr=>?_)⟩
        . have h0:0<len:=by
           rcases Nat.eq_zero_or_pos len with h | h
           . subst h;simp at hne
           . exact h
          have h1:=hspot 0 0 h0 (by omega)
          cases a;simp at h1;subst h1;rfl
        . obtain ⟨i,hi,rfl⟩:=List.mem_map.1 hr;exact hrl i (List.mem_range.1 hi)
        . simp at hi;have h1:=(hVR i hi).2.1 j hj
          have hjl:j<(V i).length:=by rw [(hVR i hi).1];exact hj
          rw [addrAt (hspot i j hi hj),addrAt rfl] at h1;simp only at h1;rw [h1,List.getElem?_eq_getElem hjl];simp [hjl]
        . simp at hi;simp only [List.getElem_map,List.getElem_range] at hj ⊢;exact RdD.zve (hVR i hi).2.2.1 j hj
        . obtain ⟨i,hi,rfl⟩:=List.mem_map.1 hr;exact (hVR i (List.mem_range.1 hi)).2.2.2
  . rename_i n e ht;simp only [Bool.and_eq_true,beq_iff_eq] at hok;obtain ⟨heL,hc⟩:=hok
    have heL:e∈L:=by simpa using heL
    obtain ⟨xs,m,hm,rfl,hcl,hxl,hel⟩:=DataW.trod_array ht hx
    obtain rfl:fuel=m:=by omega
    obtain ⟨rows,r1,r2,r3⟩:=znu (fun cs' x' h1 h2=>ih e heL cs' x' h1 h2) cs n 0 xs (by rw [hcl,hc,Nat.zero_add]) (by omega) (fun i _ h2=>hel i (by omega)) (fun y hy=>
     Nat.le_trans (hB.part (xs.map (·.1)) y.1 (List.mem_map.2 ⟨y,hy,rfl⟩)) hb)
    exact ⟨rows.flatten,by simpa using r1,.array ht r2 r3⟩
  . rename_i fs ht;simp only [Bool.and_eq_true,beq_iff_eq] at hok;obtain ⟨⟨hfL,htt⟩,hc⟩:=hok;obtain ⟨xs,m,hm,rfl,hcl,hxl,hf⟩:=DataW.trod_struct ht hx
    obtain rfl:fuel=m:=by omega
    obtain ⟨rows,r1,r2,r3⟩:=z2w (fun t' hL' cs' x' h1 h2=>ih t' hL' cs' x' h1 h2) fs.toList 0 cs xs htt (fun f hf=>by simpa using List.all_eq_true.1 hfL f hf) (by omega) (by simpa using hxl) (fun i f hf'=>hf i f (by simpa using hf')) (fun y hy=>
     Nat.le_trans (hB.part (xs.map (·.1)) y.1 (List.mem_map.2 ⟨y,hy,rfl⟩)) hb)
    exact ⟨rows.flatten,by simpa using r1,.struct ht (by simpa using r2) r3⟩
  . cases hok
end Go.Slot
