/- The proof, part Z26: Ys, 3a, Ne, 5a, Is, 5b, Nf. -/
import Derived.Test.YtkbkjjahlafhoaaGreatDoorZ15
import Derived.Test.YtkbkjjahlafhoaaGreatDoorZ19
import Derived.Test.YtkbkjjahlafhoaaGreatDoorZ25
import Derived.Test.YtkbkjjahlafhoaaGreatDoorZ22
import Derived.Test.YtkbkjjahlafhoaaGreatDoorZ20
import Derived.Test.YtkbkjjahlafhoaaGreatDoorZ16
namespace Go.Hp.T
open Go Go.RowKit Go.Slot Go.Hp Go.Slot.T
open Go.Proofs.Tryz
attribute [local irreducible] hide RH
set_option maxRecDepth 10000
set_option maxHeartbeats 8000000
variable {Γ:List (Nat×List Cell)}
theorem xdl (f:Fc) (h:f.sz<=268435456) (hb:f.ok):CallsD Γ prog 16 [.agg f.C] (.one (.raw (.bool true))):=by
 have:=wwc (Γ:=Γ) f h
 rwa [decide_eq_true hb] at this
theorem vkl (g:FuncId) (p:Fc->Bool) (l:List Fc) (hl:l.length<=1099511627776) (hgg:∀ i,i<l.length->CallsD Γ prog g [.agg (l.getD i Fc.zero).C] (.one (.raw (.bool (p (l.getD i Fc.zero)))))) :
 CallsD Γ prog 84 [.one (.sl 4 (l.map Fc.C)),.one (.raw (.func (.func g) #[] #[]))] (.one (.raw (.int .i64 (idxJ p l 0)))):=by
 refine hE [] func84 f84.eq_1 ?_;refine vi3 [0,1,7] (fun i:Nat=>[(8,.one (.dat (cI (i))))]) (fun _=>[]) (fun i=>i<=l.length/\idxJ p l 0=idxJ p (l.drop i) i) (fun i=>l.length-i) 0 ⟨Nat.zero_le _,rfl⟩ ?_ ?_
 . refine hg ?_;exact sS
 rintro i ⟨hi,he⟩;refine hg ?_;refine vdi (fun h _=>?_) (fun h _=>?_)
 . have hd:=drop_cons (l:=l) Fc.zero (show i<l.length by omega);rw [hd] at he;refine hg ?_
   first | refine w5a (hgg i (by omega)) ?_ | refine xqd (hgg i (by omega)) ?_
   refine hg ?_;refine zb8 (fun h1=>?_) (fun h1=>?_)
   . refine hg ?_;rw [he];unfold idxJ;rw [if_pos h1];exact .one (.refl _)
   . refine hg ?_;refine ⟨i+1,⟨by omega,?_⟩,by omega,sS⟩;rw [he]
     conv=>lhs;unfold idxJ
     rw [if_neg (show ¬p (l.getD i Fc.zero)=true by rw [h1];decide)];rfl
 . have hi':i=l.length:=by omega
   rw [hi',List.drop_length] at he;refine hg ?_;exact (by rw [he];exact .one (.refl _))
theorem ydb (g:FuncId) (p:Fc->Bool) (l:List Fc) (hl:l.length<=1099511627776) (hgg:∀ i,i<l.length->CallsD Γ prog g [.agg (l.getD i Fc.zero).C] (.one (.raw (.bool (p (l.getD i Fc.zero)))))) :
 CallsD Γ prog 43 [.one (.sl 4 (l.map Fc.C)),.one (.raw (.func (.func g) #[] #[]))] (.one (.raw (.bool (l.any p)))):=by
 rw [<-vxJ p l 0 (by decide)];refine hE [] func43 f43.eq_1 ?_
 first | refine w5a (vkl g p l hl hgg) ?_ | refine xqd (vkl g p l hl hgg) ?_
 refine hg ?_;exact (.one (.refl _))
theorem zb6 (g:FuncId) (p:Sc->Bool) (l:List Sc) (hl:l.length<=1099511627776) (hgg:∀ i,i<l.length->CallsD Γ prog g [.agg (l.getD i Sc.zero).C] (.one (.raw (.bool (p (l.getD i Sc.zero)))))) :
 CallsD Γ prog 64 [.one (.sl 8 (l.map Sc.C)),.one (.raw (.func (.func g) #[] #[]))] (.one (.raw (.int .i64 (idxJ p l 0)))):=by
 refine hE [] func64 f64.eq_1 ?_;refine vi3 [0,1,7] (fun i:Nat=>[(8,.one (.dat (cI (i))))]) (fun _=>[]) (fun i=>i<=l.length/\idxJ p l 0=idxJ p (l.drop i) i) (fun i=>l.length-i) 0 ⟨Nat.zero_le _,rfl⟩ ?_ ?_
 . refine hg ?_;exact sS
 rintro i ⟨hi,he⟩;refine hg ?_;refine vdi (fun h _=>?_) (fun h _=>?_)
 . have hd:=drop_cons (l:=l) Sc.zero (show i<l.length by omega);rw [hd] at he;refine hg ?_
   first | refine w5a (hgg i (by omega)) ?_ | refine xqd (hgg i (by omega)) ?_
   refine hg ?_;refine zb8 (fun h1=>?_) (fun h1=>?_)
   . refine hg ?_;rw [he];unfold idxJ;rw [if_pos h1];exact .one (.refl _)
   . refine hg ?_;refine ⟨i+1,⟨by omega,?_⟩,by omega,sS⟩;rw [he]
     conv=>lhs;unfold idxJ
     rw [if_neg (show ¬p (l.getD i Sc.zero)=true by rw [h1];decide)];rfl
 . have hi':i=l.length:=by omega
   rw [hi',List.drop_length] at he;refine hg ?_;exact (by rw [he];exact .one (.refl _))
theorem w8c (g:FuncId) (p:Sc->Bool) (l:List Sc) (hl:l.length<=1099511627776) (hgg:∀ i,i<l.length->CallsD Γ prog g [.agg (l.getD i Sc.zero).C] (.one (.raw (.bool (p (l.getD i Sc.zero)))))) :
 CallsD Γ prog 34 [.one (.sl 8 (l.map Sc.C)),.one (.raw (.func (.func g) #[] #[]))] (.one (.raw (.bool (l.any p)))):=by
 rw [<-vxJ p l 0 (by decide)];refine hE [] func34 f34.eq_1 ?_
 first | refine w5a (zb6 g p l hl hgg) ?_ | refine xqd (zb6 g p l hl hgg) ?_
 refine hg ?_;exact (.one (.refl _))
theorem vmg (s:Sc) (h:s.sz<=67108864):CallsD Γ prog 33 [.agg s.C] (.one (.raw (.bool (decide s.ok)))):=by
 have ⟨hl,hh⟩:=Sc.ymg h;by_cases h1:s.low.ok
 . by_cases h2:s.high.ok
   . rw [show decide s.ok=decide (Fc.cmp s.low s.high<=0) from decide_eq_decide.2 ⟨fun h=>h.2.2,fun h=>⟨h1,h2,h⟩⟩];refine hE [] func33 f33.eq_1 ?_
     first | refine w5a (xdl s.low (by omega) h1) ?_ | refine xqd (xdl s.low (by omega) h1) ?_
     refine hg ?_
     first | refine w5a (xdl s.high (by omega) h2) ?_ | refine xqd (xdl s.high (by omega) h2) ?_
     refine hg ?_
     first | refine w5a (z0e s.low s.high hl hh) ?_ | refine xqd (z0e s.low s.high hl hh) ?_
     refine hg ?_;exact (.one (.refl _))
   . rw [decide_eq_false (fun h=>h2 h.2.1)];refine hE [] func33 f33.eq_1 ?_
     first | refine w5a (xdl s.low (by omega) h1) ?_ | refine xqd (xdl s.low (by omega) h1) ?_
     refine hg ?_
     first | refine w5a (zyv s.high (by omega) h2) ?_ | refine xqd (zyv s.high (by omega) h2) ?_
     refine hg ?_;exact (.one (.refl _))
 . rw [decide_eq_false (fun h=>h1 h.1)];refine hE [] func33 f33.eq_1 ?_
   first | refine w5a (zyv s.low (by omega) h1) ?_ | refine xqd (zyv s.low (by omega) h1) ?_
   refine hg ?_;exact (.one (.refl _))
end Go.Hp.T
namespace Go.Hp.T
open Go Go.RowKit Go.Slot Go.Hp Go.Slot.T
set_option maxRecDepth 10000
theorem ldE {α:Type} {l:List α} {d:α} {i:Nat} (h:i<l.length):l.getD i d=l[i]:=by
 rw [List.getD_eq_getElem?_getD,List.getElem?_eq_getElem h];rfl
theorem ldM {α:Type} {l:List α} {d:α} {i:Nat} (h:i<l.length):l.getD i d∈l:=by rw [ldE h];exact List.getElem_mem _
theorem ldN {α:Type} {l:List α} {d:α} {i:Nat} (h:l.length<=i):l.getD i d=d:=by
 rw [List.getD_eq_getElem?_getD,List.getElem?_eq_none h];rfl
structure Src where
 kind:Int
 index:Int
 amount:Int
structure Ot where
 kind:Int
 index:Int
 amount:Int
 name:ByteArray
instance:Inhabited Src:=⟨⟨0,0,0⟩⟩
instance:Inhabited Ot:=⟨⟨0,0,0,⟨#[]⟩⟩⟩
def Src.C (x:Src):List Cell:=[cI x.kind,cI x.index,cI x.amount]
theorem Src.C_eq (x:Src):x.C=[cI x.kind,cI x.index,cI x.amount]:=rfl
def Ot.C (x:Ot):List Cell:=[cI x.kind,cI x.index,cI x.amount,cS x.name]
theorem Ot.C_eq (x:Ot):x.C=[cI x.kind,cI x.index,cI x.amount,cS x.name]:=rfl
attribute [go_sem] Src.C_eq Ot.C_eq
abbrev frsC (l:List Fc):Cell:=.sl 4 (l.map Fc.C)
abbrev shsC (l:List (List Fc)):Cell:=.sl 1 (l.map fun r=>[frsC r])
structure Fl where
 srcs:List Src
 outs:List Ot
 shares:List (List Fc)
abbrev flC (f:Fl):List Cell:=[.sl 3 (f.srcs.map Src.C),.sl 4 (f.outs.map Ot.C),shsC f.shares]
structure Fl.Sm (f:Fl):Prop where
 sl:f.srcs.length<=1048576
 ol:f.outs.length<=1048576
 hl:f.shares.length<=1048576
 rl:∀ r∈f.shares,r.length<=1048576
 fz:∀ r∈f.shares,∀ x∈r,x.sz<=100000
def colF (i:Nat):List (List Fc)->Fc->Bool
 | [],s=>decide (s=Fc.of 1)
 | l::r,s=>decide (l.getD i Fc.zero).ok&&(!decide (Fc.sign (l.getD i Fc.zero)<0)&&colF i r (Fc.add s (l.getD i Fc.zero)))
def outR (n:Nat) (x:Ot) (l:List Fc):Bool:=!decide (x.kind<0)&&(!decide (4<=x.kind)&&(!decide (x.index<0)&&decide (l.length=n)))
def srcR (x:Src):Bool:=!decide (x.kind<0)&&(!decide (3<=x.kind)&&!decide (x.index<0))
def ype (f:Fl):Bool:=(List.range f.outs.length).all fun k=>outR f.srcs.length (f.outs.getD k default) (f.shares.getD k default)
def xe1 (f:Fl):Bool:=(List.range f.srcs.length).all fun i=>srcR (f.srcs.getD i default)&&colF i f.shares (Fc.of 0)
def x4e (f:Fl):Bool:=(decide (f.srcs.length<=100)&&(decide (f.outs.length<=100)&&decide (f.shares.length=f.outs.length)))&&(ype f&&xe1 f)
theorem x5o {n i:Nat} {p:Nat->Bool} (h:i<n) (hp:p i=false):(List.range n).all p=false:=by
 rw [List.all_eq_false];exact ⟨i,List.mem_range.2 h,by rw [hp];decide⟩
theorem v67 {n:Nat} {p:Nat->Bool} (h:∀ i,i<n->p i=true):(List.range n).all p=true:=by
 rw [List.all_eq_true]
 exact fun i hi=>h i (List.mem_range.1 hi)
theorem zku {n i:Nat} {p:Nat->Bool} (h:(List.range n).all p=true) (hi:i<n):p i=true:=List.all_eq_true.1 h i (List.mem_range.2 hi)
def dotN (a l:List Fc) (n:Nat):Fc:=(List.range n).foldl (fun s i=>Fc.add s (Fc.mul (l.getD i Fc.zero) (a.getD i Fc.zero))) (Fc.of 0)
theorem vl3 (a l:List Fc):dotN a l 0=Fc.of 0:=rfl
theorem vid (a l:List Fc) (n:Nat):dotN a l (n+1)=Fc.add (dotN a l n) (Fc.mul (l.getD n Fc.zero) (a.getD n Fc.zero)):=by
 unfold dotN;rw [List.range_succ,List.foldl_append];rfl
theorem y2e:(Fc.of 0).sz<=1:=by
 show max (dig (0:Int).natAbs).length (dig 1).length<=1;rw [show (0:Int).natAbs=0 from rfl,vhp,yma (by decide),vhp];decide
theorem y1h:(Fc.of 1).sz<=1:=by
 show max (dig 1).length (dig 1).length<=1;rw [yma (by decide),vhp];decide
theorem x01 {a l:List Fc} {k:Nat} (ha:∀ x∈a,x.sz<=k) (hl:∀ x∈l,x.sz<=k):∀ n,n<=l.length->n<=a.length->(dotN a l n).sz<=n*(2*k+1)+1
 | 0,_,_=>by rw [vl3];have:=y2e;omega
 | n+1,h1,h2=>by
  have ih:=x01 ha hl n (by omega) (by omega);rw [vid,Nat.succ_mul];have e1:=Fc.vdr (dotN a l n) (Fc.mul (l.getD n Fc.zero) (a.getD n Fc.zero));have e2:=Fc.yfv (l.getD n Fc.zero) (a.getD n Fc.zero);have e3:(l.getD n Fc.zero).sz<=k:=hl _ (ldM (by omega));have e4:(a.getD n Fc.zero).sz<=k:=ha _ (ldM (by omega));omega
def ypc (f:Fl) (a:List Fc):Bool:=x4e f&&(decide (a.length=f.srcs.length)&&!a.any fun x=>!decide x.ok)
def runF (f:Fl) (a:List Fc):List Fc:=bif ypc f a then f.shares.map fun l=>dotN a l l.length else []
end Go.Hp.T
namespace Go.Hp.T
open Go Go.RowKit Go.Slot Go.Hp Go.Slot.T
open Go.Proofs.Tryz
attribute [local irreducible] hide RH
set_option maxRecDepth 10000
set_option maxHeartbeats 4000000
variable {Γ:List (Nat×List Cell)}
theorem cTIn (n:Int):CallsD Γ prog 152 [.one (cI n)] (.one (cB (inT n))):=by
 refine hE [] func152 f152.eq_1 ?_
 repeat' first | refine hF ?_ ?_<;>intros | refine hI ?_
 all_goals refine lf1 @inT.eq_def ?_;first | exact trivial | rfl
theorem ymc (s:ByteArray) (hs:s.size<=1073741824):CallsD Γ prog 151 [.one (cS s)] (.tup [.agg (unX (xe6 s).1),.one (cI (xe6 s).2)]):=by
 have:=v66 (Γ:=Γ) s hs
 rw [ynp] at this;exact this
theorem vu2:(xsk prog 9 233=some 6)=True:=eq_true (by kernel_rfl)
theorem w3t:aggT prog 233=true:=by kernel_rfl
theorem zjq:prog.eqGuardType prog.depth 233=false:=by kernel_rfl
theorem y9b (a b c d e f:Int):fitT prog 9 233 [.int .i64 a,.int .i64 b,.int .i64 c,.int .i64 d,.int .i64 e,.int .i64 f]=true:=by kernel_rfl
attribute [go_sem] vu2 w3t zjq y9b
theorem ydk (t:Tb) (h1:t.name.size<=1073741824) (h2:t.unit.size<=1073741824) (h3:t.rows.length<=1073741824):CallsD Γ prog 102 [.agg (tbC t)] (.one (cB (zjr (fun s=>(xe6 s).2) t))):=by
 refine hE [] func102 f102.eq_1 ?_
 repeat' first | refine hF ?_ ?_<;>intros | refine hI ?_ | (with_reducible first | refine w5a (ymc t.unit h2) ?_ | refine xqd (ymc t.unit h2) ?_ | refine w5a (x2a t.name (by omega)) ?_ | refine xqd (x2a t.name (by omega)) ?_)<;>refine hgS ?_
 . refine lf1 @zjr.eq_def ?_;first | exact trivial | rfl
 . refine vi3 [1,28,29] (fun i:Nat=>[(30,.one (.dat (cI i)))]) (fun _=>[.box ((tbC t).map .dat) (some 122),.box ((unX (xe6 t.unit).1).map .dat) (some 235)]) (fun i=>i<=t.rows.length/\∀ j,j<i->rowAt t.rows j=true) (fun i=>t.rows.length-i) 0 ⟨Nat.zero_le _,fun j hj=>by omega⟩ ?_ ?_
   . refine hg ?_;exact sS
   rintro i ⟨hi,hj⟩
   have hbad:rowAt t.rows i=false->i<t.rows.length->zjr (fun s=>(xe6 s).2) t=false:=fun h h'=>by
    unfold zjr ycg;rw [w5b h' h,Bool.and_false]
   refine hg ?_
   repeat' first | refine hF ?_ ?_<;>intros | refine hI ?_ | (with_reducible first | refine w5a (cTIn _) ?_ | refine xqd (cTIn _) ?_)<;>refine hgS ?_
   all_goals first
    | (rw [hbad (by (refine bs1 @rowAt.eq_def ?_;try exact trivial)) (by omega)];exact RLe.ofEq rfl)
    | (refine ⟨i+1,⟨by omega,za5 hj (by (refine bs1 @rowAt.eq_def ?_;try exact trivial))⟩,by omega,StH.back [1,28,29,30] 2 2 2 rfl rfl rfl rfl rfl (by kernel_rfl) (sS)⟩)
    | (refine RLe.ofEq ?_;rw [show zjr (fun s=>(xe6 s).2) t=true from by unfold zjr ycg;rw [y4w (fun j hj'=>hj j (by omega))];(refine bsE ?_;try exact trivial)])
 . refine lf1 @zjr.eq_def ?_;first | exact trivial | rfl
 . refine lf1 @zjr.eq_def ?_;first | exact trivial | rfl
theorem ybq {x:Dm}:(decide (x.a=0)&&(decide (x.b=0)&&(decide (x.c=0)&&(decide (x.d=0)&&(decide (x.e=0)&&decide (x.f=0))))))=decide (x=Dm.zero):=wwx (y:=Dm.zero)
attribute [go_sem] ybq
end Go.Hp.T
namespace Go.Hp.T
open Go Go.RowKit Go.Slot Go.Hp Go.Slot.T
open Go.Proofs.Tryz
attribute [local irreducible] hide RH
set_option maxRecDepth 10000
set_option maxHeartbeats 8000000
variable {Γ:List (Nat×List Cell)}
def z6s (s:ByteArray):Bool:=isName s&&!isWord s
def zf8 (s:ByteArray):Bool:=decide ((xe6 s).2=0)
def amtS (n:Int):Bool:=decide (1<=n)&&decide (n<=1099511627776)
theorem xg4 (s:ByteArray) (hs:s.size<=1073741824):CallsD Γ prog 51 [.one (cS s)] (.one (cB (z6s s))):=by
 have h1:=x2a (Γ:=Γ) s (by omega);have h2:=zsl (Γ:=Γ) s;unfold z6s;generalize isName s=a at *;generalize isWord s=b at *;refine hE [] func51 f51.eq_1 ?_
 repeat' first | refine hF ?_ ?_<;>intros | refine hI ?_ | (with_reducible first | refine w5a (h1) ?_ | refine xqd (h1) ?_ | refine w5a (h2) ?_ | refine xqd (h2) ?_)<;>refine hgS ?_
 all_goals refine lfE ?_;first | exact trivial | rfl
theorem yb8 (s:ByteArray) (hs:s.size<=1073741824):CallsD Γ prog 100 [.one (cS s)] (.one (cB (zf8 s))):=by
 have h1:=ymc (Γ:=Γ) s hs;unfold zf8;generalize xe6 s=r at *;refine hE [] func100 f100.eq_1 ?_
 repeat' first | refine hF ?_ ?_<;>intros | refine hI ?_ | (with_reducible first | refine w5a (h1) ?_ | refine xqd (h1) ?_)<;>refine hgS ?_
 all_goals refine lfE ?_;first | exact trivial | rfl
theorem zjz (n:Int):CallsD Γ prog 101 [.one (cI n)] (.one (cB (amtS n))):=by
 unfold amtS;refine hE [] func101 f101.eq_1 ?_
 repeat' first | refine hF ?_ ?_<;>intros | refine hI ?_
 all_goals refine lfE ?_;first | exact trivial | rfl
theorem wt7 (l:List ByteArray) (f:FuncId) (p:ByteArray->Bool) (hl:l.length<=1073741824) (h:∀ y∈l,CallsD Γ prog f [.one (cS y)] (.one (cB (p y)))) :
 CallsD Γ prog 166 [.one (.sl 1 (l.map fun s=>[cS s])),fN f] (.one (cI (idxF p l))):=by
 refine hE [] func166 f166.eq_1 ?_;refine vi3 [0,1,7] (fun i:Nat=>[(8,.one (.dat (cI i)))]) (fun _=>[]) (fun i=>i<=l.length/\∀ j,j<i->p (l.getD j default)=false) (fun i=>l.length-i) 0 ⟨Nat.zero_le _,fun j hj=>by omega⟩ ?_ ?_
 . refine hg ?_;exact sS
 intro i hi;obtain ⟨hi,hj⟩:=hi;refine hg ?_
 repeat' first | refine hF ?_ ?_<;>intros | refine hI ?_ | (with_reducible first | refine w5a (h _ (vdv (show i<l.length by omega))) ?_ | refine xqd (h _ (vdv (show i<l.length by omega))) ?_)<;>refine hgS ?_
 . rename_i hp;rw [(v04 hi hj).2 (by omega) hp];exact RLe.ofEq rfl
 . rename_i hp;exact ⟨i+1,⟨by omega,za5 hj hp⟩,by omega,sS⟩
 . rw [(v04 hi hj).1 (by omega)];exact RLe.ofEq rfl
theorem x6k (l:List ByteArray) (f:FuncId) (p:ByteArray->Bool) (hl:l.length<=1073741824) (h:∀ y∈l,CallsD Γ prog f [.one (cS y)] (.one (cB (p y)))) :
 CallsD Γ prog 128 [.one (.sl 1 (l.map fun s=>[cS s])),fN f] (.one (cB (l.any p))):=by
 refine hE [] func128 f128.eq_1 ?_
 repeat' first | refine hF ?_ ?_<;>intros | refine hI ?_ | (with_reducible first | refine w5a (wt7 l f p hl h) ?_ | refine xqd (wt7 l f p hl h) ?_)<;>refine hgS ?_
 exact RLe.ofEq (by rw [<-vx3])
theorem v25 (l:List Stp) (f:FuncId) (p:Stp->Bool) (hl:l.length<=1073741824) (h:∀ y∈l,CallsD Γ prog f [.agg (stpC y)] (.one (cB (p y)))) :
 CallsD Γ prog 106 [.one (.sl 6 (l.map Stp.C)),fN f] (.one (cI (idxF p l))):=by
 refine hE [] func106 f106.eq_1 ?_;refine vi3 [0,1,7] (fun i:Nat=>[(8,.one (.dat (cI i)))]) (fun _=>[]) (fun i=>i<=l.length/\∀ j,j<i->p (l.getD j default)=false) (fun i=>l.length-i) 0 ⟨Nat.zero_le _,fun j hj=>by omega⟩ ?_ ?_
 . refine hg ?_;exact sS
 intro i hi;obtain ⟨hi,hj⟩:=hi;refine hg ?_
 repeat' first | refine hF ?_ ?_<;>intros | refine hI ?_ | (with_reducible first | refine w5a (h _ (vdv (show i<l.length by omega))) ?_ | refine xqd (h _ (vdv (show i<l.length by omega))) ?_)<;>refine hgS ?_
 . rename_i hp;rw [(v04 hi hj).2 (by omega) hp];exact RLe.ofEq rfl
 . rename_i hp;exact ⟨i+1,⟨by omega,za5 hj hp⟩,by omega,sS⟩
 . rw [(v04 hi hj).1 (by omega)];exact RLe.ofEq rfl
theorem znd (l:List Stp) (f:FuncId) (p:Stp->Bool) (hl:l.length<=1073741824) (h:∀ y∈l,CallsD Γ prog f [.agg (stpC y)] (.one (cB (p y)))) :
 CallsD Γ prog 55 [.one (.sl 6 (l.map Stp.C)),fN f] (.one (cB (l.any p))):=by
 refine hE [] func55 f55.eq_1 ?_
 repeat' first | refine hF ?_ ?_<;>intros | refine hI ?_ | (with_reducible first | refine w5a (v25 l f p hl h) ?_ | refine xqd (v25 l f p hl h) ?_)<;>refine hgS ?_
 exact RLe.ofEq (by rw [<-vx3])
theorem xig (l:List Prm) (f:FuncId) (p:Prm->Bool) (hl:l.length<=1073741824) (h:∀ y∈l,CallsD Γ prog f [.agg (prmC y)] (.one (cB (p y)))) :
 CallsD Γ prog 153 [.one (.sl 2 (l.map Prm.C)),fN f] (.one (cI (idxF p l))):=by
 refine hE [] func153 f153.eq_1 ?_;refine vi3 [0,1,7] (fun i:Nat=>[(8,.one (.dat (cI i)))]) (fun _=>[]) (fun i=>i<=l.length/\∀ j,j<i->p (l.getD j default)=false) (fun i=>l.length-i) 0 ⟨Nat.zero_le _,fun j hj=>by omega⟩ ?_ ?_
 . refine hg ?_;exact sS
 intro i hi;obtain ⟨hi,hj⟩:=hi;refine hg ?_
 repeat' first | refine hF ?_ ?_<;>intros | refine hI ?_ | (with_reducible first | refine w5a (h _ (vdv (show i<l.length by omega))) ?_ | refine xqd (h _ (vdv (show i<l.length by omega))) ?_)<;>refine hgS ?_
 . rename_i hp;rw [(v04 hi hj).2 (by omega) hp];exact RLe.ofEq rfl
 . rename_i hp;exact ⟨i+1,⟨by omega,za5 hj hp⟩,by omega,sS⟩
 . rw [(v04 hi hj).1 (by omega)];exact RLe.ofEq rfl
theorem yjd (l:List Prm) (f:FuncId) (p:Prm->Bool) (hl:l.length<=1073741824) (h:∀ y∈l,CallsD Γ prog f [.agg (prmC y)] (.one (cB (p y)))) :
 CallsD Γ prog 103 [.one (.sl 2 (l.map Prm.C)),fN f] (.one (cB (l.any p))):=by
 refine hE [] func103 f103.eq_1 ?_
 repeat' first | refine hF ?_ ?_<;>intros | refine hI ?_ | (with_reducible first | refine w5a (xig l f p hl h) ?_ | refine xqd (xig l f p hl h) ?_)<;>refine hgS ?_
 exact RLe.ofEq (by rw [<-vx3])
def z2v (l:List ByteArray) (lo hi:Int):Bool:=decide (lo<=l.length)&&decide ((l.length:Int)<=hi)&&!l.any fun s=>!z6s s
theorem y3x (s:ByteArray) (hs:s.size<=1073741824):CallsD Γ prog 156 [.one (cS s)] (.one (cB (!z6s s))):=by
 have h1:=xg4 (Γ:=Γ) s hs;refine hE [] func156 f156.eq_1 ?_
 repeat' first | refine hF ?_ ?_<;>intros | refine hI ?_ | (with_reducible first | refine w5a (h1) ?_ | refine xqd (h1) ?_)<;>refine hgS ?_
 all_goals refine lfE ?_;first | exact trivial | rfl
theorem zeo (l:List ByteArray) (lo hi:Int) (hl:l.length<=1073741824) (hs:∀ y∈l,y.size<=1073741824):CallsD Γ prog 108 [.one (wy9 l),.one (cI lo),.one (cI hi)] (.one (cB (z2v l lo hi))):=by
 have h1:=x6k (Γ:=Γ) l 156 (fun s=>!z6s s) hl (fun y hy=>y3x y (hs y hy));unfold z2v;generalize (l.any fun s=>!z6s s)=b at *;refine hE [] func108 f108.eq_1 ?_
 repeat' first | refine hF ?_ ?_<;>intros | refine hI ?_ | (with_reducible first | refine w5a (h1) ?_ | refine xqd (h1) ?_)<;>refine hgS ?_
 all_goals refine lfE ?_;first | exact trivial | rfl
structure Shp where
 i0:Int
 i1:Int
 o0:Int
 o1:Int
 n:Bool
 c:Bool
 a:Bool
def vse (k:Int):Shp:=
 bif decide (k=0)||decide (k=1) then ⟨0,0,1,1,true,false,false⟩ else
 bif decide (k=2) then ⟨0,0,1,1,true,false,true⟩ else
 bif decide (k=3) then ⟨1,1,1,100,false,true,false⟩ else
 bif decide (k=4) then ⟨1,100,1,1,false,false,false⟩ else
 bif decide (k=5)||decide (k=7) then ⟨1,1,0,0,true,false,false⟩ else
 bif decide (k=6) then ⟨1,1,0,0,true,false,true⟩ else ⟨1,1,0,0,false,false,false⟩
def xyj (s:Shp) (x:Stp):Bool:=z2v x.inn s.i0 s.i1&&(z2v x.out s.o0 s.o1&&(bif s.c then z2v x.cells x.out.length x.out.length else z2v x.cells 0 0))&&
 (bif s.n then z6s x.name else seq x.name ⟨#[]⟩)&&(bif s.a then amtS x.amount else decide (x.amount=0))
def vdf (x:Stp):Bool:=decide (0<=x.kind)&&decide (x.kind<9)&&xyj (vse x.kind) x
structure Stp.Sm (x:Stp):Prop where
 il:x.inn.length<=1073741824
 ol:x.out.length<=1073741824
 cl:x.cells.length<=1073741824
 i:∀ y∈x.inn,y.size<=1073741824
 o:∀ y∈x.out,y.size<=1073741824
 c:∀ y∈x.cells,y.size<=1073741824
 n:x.name.size<=1073741824
theorem zbf (x:Stp) (hx:x.Sm):CallsD Γ prog 57 [.agg (stpC x)] (.one (cB (vdf x))):=by
 obtain ⟨k,inn,out,nm,cells,amt⟩:=x
 have hi:=fun a b=>zeo (Γ:=Γ) inn a b hx.il hx.i
 have ho:=fun a b=>zeo (Γ:=Γ) out a b hx.ol hx.o
 have hc:=fun a b=>zeo (Γ:=Γ) cells a b hx.cl hx.c
 have hn:=xg4 (Γ:=Γ) nm hx.n;have ha:=zjz (Γ:=Γ) amt;have hol:=hx.ol;have hz:((0:Nat):Int)=0:=rfl;clear hx;dsimp only at *;by_cases hk:0<=k/\k<9
 . obtain rfl | rfl | rfl | rfl | rfl | rfl | rfl | rfl | rfl:k=0\/k=1\/k=2\/k=3\/k=4\/k=5\/k=6\/k=7\/k=8:=by omega
   . have h1:=hi 0 0;have h2:=ho 1 1;have h3:=hc 0 0;have e:vdf ⟨0,inn,out,nm,cells,amt⟩=(z2v inn 0 0&&(z2v out 1 1&&z2v cells 0 0)&&z6s nm&&decide (amt=0)):=rfl;rw [e];clear e hi ho hc hk;generalize z2v inn 0 0=b1 at *;generalize z2v out 1 1=b2 at *;generalize z2v cells 0 0=b3 at *;generalize z6s nm=b4 at *;clear ha;refine hE [] func57 f57.eq_1 ?_
     repeat' first | refine hF ?_ ?_<;>intros | refine hI ?_ | (with_reducible first | refine w5a (x3b) ?_ | refine xqd (x3b) ?_ | refine w5a (h1) ?_ | refine xqd (h1) ?_ | refine w5a (h2) ?_ | refine xqd (h2) ?_ | refine w5a (h3) ?_ | refine xqd (h3) ?_ | refine w5a (hn) ?_ | refine xqd (hn) ?_ | refine w5a (ha) ?_ | refine xqd (ha) ?_)<;>refine hgS ?_
     all_goals refine lfE ?_;first | exact trivial | rfl
   . have h1:=hi 0 0;have h2:=ho 1 1;have h3:=hc 0 0;have e:vdf ⟨1,inn,out,nm,cells,amt⟩=(z2v inn 0 0&&(z2v out 1 1&&z2v cells 0 0)&&z6s nm&&decide (amt=0)):=rfl;rw [e];clear e hi ho hc hk;generalize z2v inn 0 0=b1 at *;generalize z2v out 1 1=b2 at *;generalize z2v cells 0 0=b3 at *;generalize z6s nm=b4 at *;clear ha;refine hE [] func57 f57.eq_1 ?_
     repeat' first | refine hF ?_ ?_<;>intros | refine hI ?_ | (with_reducible first | refine w5a (x3b) ?_ | refine xqd (x3b) ?_ | refine w5a (h1) ?_ | refine xqd (h1) ?_ | refine w5a (h2) ?_ | refine xqd (h2) ?_ | refine w5a (h3) ?_ | refine xqd (h3) ?_ | refine w5a (hn) ?_ | refine xqd (hn) ?_ | refine w5a (ha) ?_ | refine xqd (ha) ?_)<;>refine hgS ?_
     all_goals refine lfE ?_;first | exact trivial | rfl
   . have h1:=hi 0 0;have h2:=ho 1 1;have h3:=hc 0 0;have e:vdf ⟨2,inn,out,nm,cells,amt⟩=(z2v inn 0 0&&(z2v out 1 1&&z2v cells 0 0)&&z6s nm&&amtS amt):=rfl;rw [e];clear e hi ho hc hk;generalize z2v inn 0 0=b1 at *;generalize z2v out 1 1=b2 at *;generalize z2v cells 0 0=b3 at *;generalize z6s nm=b4 at *;generalize amtS amt=b5 at *;refine hE [] func57 f57.eq_1 ?_
     repeat' first | refine hF ?_ ?_<;>intros | refine hI ?_ | (with_reducible first | refine w5a (x3b) ?_ | refine xqd (x3b) ?_ | refine w5a (h1) ?_ | refine xqd (h1) ?_ | refine w5a (h2) ?_ | refine xqd (h2) ?_ | refine w5a (h3) ?_ | refine xqd (h3) ?_ | refine w5a (hn) ?_ | refine xqd (hn) ?_ | refine w5a (ha) ?_ | refine xqd (ha) ?_)<;>refine hgS ?_
     all_goals refine lfE ?_;first | exact trivial | rfl
   . have h1:=hi 1 1;have h2:=ho 1 100;have h3:=hc out.length out.length;have e:vdf ⟨3,inn,out,nm,cells,amt⟩=(z2v inn 1 1&&(z2v out 1 100&&z2v cells out.length out.length)&&seq nm ⟨#[]⟩&&decide (amt=0)):=rfl;rw [e];clear e hi ho hc hk;generalize z2v inn 1 1=b1 at *;generalize z2v out 1 100=b2 at *;generalize z2v cells out.length out.length=b3 at *;clear hn;clear ha;refine hE [] func57 f57.eq_1 ?_
     repeat' first | refine hF ?_ ?_<;>intros | refine hI ?_ | (with_reducible first | refine w5a (x3b) ?_ | refine xqd (x3b) ?_ | refine w5a (h1) ?_ | refine xqd (h1) ?_ | refine w5a (h2) ?_ | refine xqd (h2) ?_ | refine w5a (h3) ?_ | refine xqd (h3) ?_ | refine w5a (hn) ?_ | refine xqd (hn) ?_ | refine w5a (ha) ?_ | refine xqd (ha) ?_)<;>refine hgS ?_
     all_goals try simp only [Decidable.not_not] at *
     all_goals refine lfE ?_;first | exact trivial | rfl
   . have h1:=hi 1 100;have h2:=ho 1 1;have h3:=hc 0 0;have e:vdf ⟨4,inn,out,nm,cells,amt⟩=(z2v inn 1 100&&(z2v out 1 1&&z2v cells 0 0)&&seq nm ⟨#[]⟩&&decide (amt=0)):=rfl;rw [e];clear e hi ho hc hk;generalize z2v inn 1 100=b1 at *;generalize z2v out 1 1=b2 at *;generalize z2v cells 0 0=b3 at *;clear hn;clear ha;refine hE [] func57 f57.eq_1 ?_
     repeat' first | refine hF ?_ ?_<;>intros | refine hI ?_ | (with_reducible first | refine w5a (x3b) ?_ | refine xqd (x3b) ?_ | refine w5a (h1) ?_ | refine xqd (h1) ?_ | refine w5a (h2) ?_ | refine xqd (h2) ?_ | refine w5a (h3) ?_ | refine xqd (h3) ?_ | refine w5a (hn) ?_ | refine xqd (hn) ?_ | refine w5a (ha) ?_ | refine xqd (ha) ?_)<;>refine hgS ?_
     all_goals try simp only [Decidable.not_not] at *
     all_goals refine lfE ?_;first | exact trivial | rfl
   . have h1:=hi 1 1;have h2:=ho 0 0;have h3:=hc 0 0;have e:vdf ⟨5,inn,out,nm,cells,amt⟩=(z2v inn 1 1&&(z2v out 0 0&&z2v cells 0 0)&&z6s nm&&decide (amt=0)):=rfl;rw [e];clear e hi ho hc hk;generalize z2v inn 1 1=b1 at *;generalize z2v out 0 0=b2 at *;generalize z2v cells 0 0=b3 at *;generalize z6s nm=b4 at *;clear ha;refine hE [] func57 f57.eq_1 ?_
     repeat' first | refine hF ?_ ?_<;>intros | refine hI ?_ | (with_reducible first | refine w5a (x3b) ?_ | refine xqd (x3b) ?_ | refine w5a (h1) ?_ | refine xqd (h1) ?_ | refine w5a (h2) ?_ | refine xqd (h2) ?_ | refine w5a (h3) ?_ | refine xqd (h3) ?_ | refine w5a (hn) ?_ | refine xqd (hn) ?_ | refine w5a (ha) ?_ | refine xqd (ha) ?_)<;>refine hgS ?_
     all_goals refine lfE ?_;first | exact trivial | rfl
   . have h1:=hi 1 1;have h2:=ho 0 0;have h3:=hc 0 0;have e:vdf ⟨6,inn,out,nm,cells,amt⟩=(z2v inn 1 1&&(z2v out 0 0&&z2v cells 0 0)&&z6s nm&&amtS amt):=rfl;rw [e];clear e hi ho hc hk;generalize z2v inn 1 1=b1 at *;generalize z2v out 0 0=b2 at *;generalize z2v cells 0 0=b3 at *;generalize z6s nm=b4 at *;generalize amtS amt=b5 at *;refine hE [] func57 f57.eq_1 ?_
     repeat' first | refine hF ?_ ?_<;>intros | refine hI ?_ | (with_reducible first | refine w5a (x3b) ?_ | refine xqd (x3b) ?_ | refine w5a (h1) ?_ | refine xqd (h1) ?_ | refine w5a (h2) ?_ | refine xqd (h2) ?_ | refine w5a (h3) ?_ | refine xqd (h3) ?_ | refine w5a (hn) ?_ | refine xqd (hn) ?_ | refine w5a (ha) ?_ | refine xqd (ha) ?_)<;>refine hgS ?_
     all_goals refine lfE ?_;first | exact trivial | rfl
   . have h1:=hi 1 1;have h2:=ho 0 0;have h3:=hc 0 0;have e:vdf ⟨7,inn,out,nm,cells,amt⟩=(z2v inn 1 1&&(z2v out 0 0&&z2v cells 0 0)&&z6s nm&&decide (amt=0)):=rfl;rw [e];clear e hi ho hc hk;generalize z2v inn 1 1=b1 at *;generalize z2v out 0 0=b2 at *;generalize z2v cells 0 0=b3 at *;generalize z6s nm=b4 at *;clear ha;refine hE [] func57 f57.eq_1 ?_
     repeat' first | refine hF ?_ ?_<;>intros | refine hI ?_ | (with_reducible first | refine w5a (x3b) ?_ | refine xqd (x3b) ?_ | refine w5a (h1) ?_ | refine xqd (h1) ?_ | refine w5a (h2) ?_ | refine xqd (h2) ?_ | refine w5a (h3) ?_ | refine xqd (h3) ?_ | refine w5a (hn) ?_ | refine xqd (hn) ?_ | refine w5a (ha) ?_ | refine xqd (ha) ?_)<;>refine hgS ?_
     all_goals refine lfE ?_;first | exact trivial | rfl
   . have h1:=hi 1 1;have h2:=ho 0 0;have h3:=hc 0 0;have e:vdf ⟨8,inn,out,nm,cells,amt⟩=(z2v inn 1 1&&(z2v out 0 0&&z2v cells 0 0)&&seq nm ⟨#[]⟩&&decide (amt=0)):=rfl;rw [e];clear e hi ho hc hk;generalize z2v inn 1 1=b1 at *;generalize z2v out 0 0=b2 at *;generalize z2v cells 0 0=b3 at *;clear hn;clear ha;refine hE [] func57 f57.eq_1 ?_
     repeat' first | refine hF ?_ ?_<;>intros | refine hI ?_ | (with_reducible first | refine w5a (x3b) ?_ | refine xqd (x3b) ?_ | refine w5a (h1) ?_ | refine xqd (h1) ?_ | refine w5a (h2) ?_ | refine xqd (h2) ?_ | refine w5a (h3) ?_ | refine xqd (h3) ?_ | refine w5a (hn) ?_ | refine xqd (hn) ?_ | refine w5a (ha) ?_ | refine xqd (ha) ?_)<;>refine hgS ?_
     all_goals try simp only [Decidable.not_not] at *
     all_goals refine lfE ?_;first | exact trivial | rfl
 . have e:vdf ⟨k,inn,out,nm,cells,amt⟩=false:=by
    unfold vdf;by_cases h1:0<=k
    . rw [decide_eq_false (show ¬k<9 by omega)];simp
    . rw [decide_eq_false h1];simp
   rw [e];clear e hi ho hc hn ha;refine hE [] func57 f57.eq_1 ?_
   repeat' first | refine hF ?_ ?_<;>intros | refine hI ?_ | (with_reducible first | refine w5a (x3b) ?_ | refine xqd (x3b) ?_)<;>refine hgS ?_
   all_goals try (exfalso;omega)
   all_goals exact RLe.ofEq rfl
end Go.Hp.T
namespace Go.Hp.T
open Go Go.RowKit Go.Slot Go.Hp Go.Slot.T
set_option maxRecDepth 10000
theorem vpy {α:Type} {C:α->SV} (h:∀ r a,wi2 r (C a)=C a) (r:Nat->Nat) (l:List (ByteArray×α)):rnSB r (.map (envM C l))=.map (envM C l):=by
 have:(envM C l).map (fun p=>(p.1,wi2 r p.2))=envM C l:=by
  induction l with
  | nil=>rfl
  | cons p l ih=>
   show (Value.string p.1,wi2 r (C p.2))::(envM C l).map _=_;rw [ih,h];rfl
 show SB.map _=_;rw [this]
theorem x4n {α:Type} {C:α->SV} (h:∀ i j a,ym6 i j (C a)=C a) (i j:Nat) (l:List (ByteArray×α)):swSB i j (.map (envM C l))=.map (envM C l):=by
 have:(envM C l).map (fun p=>(p.1,ym6 i j p.2))=envM C l:=by
  induction l with
  | nil=>rfl
  | cons p l ih=>
   show (Value.string p.1,ym6 i j (C p.2))::(envM C l).map _=_;rw [ih,h];rfl
 show SB.map _=_;rw [this]
theorem zmc {α:Type} {C:α->SV} (h:∀ a,x8g (C a)=[]) (l:List (ByteArray×α)):zj7 (.map (envM C l))=[]:=by
 show (envM C l).flatMap (fun p=>x8g p.2)=[]
 induction l with
 | nil=>rfl
 | cons p l ih=>show x8g (C p.2)++(envM C l).flatMap _=[];rw [ih,h];rfl
section
variable {κ α:Type}
def entG (K:κ->Value) (C:α->SV):List (κ×α)->List (Value×SV)
 | []=>[]
 | p::l=>(K p.1,C p.2)::entG K C l
def vlc (eq:κ->κ->Bool):List (κ×α)->κ->Option α
 | [],_=>none
 | p::l,s=>bif eq s p.1 then some p.2 else vlc eq l s
def updG (eq:κ->κ->Bool):List (κ×α)->κ->α->List (κ×α)
 | [],s,v=>[(s,v)]
 | p::l,s,v=>bif eq s p.1 then (s,v)::l else p::updG eq l s v
theorem vgq {K:κ->Value} {C:α->SV} {eq:κ->κ->Bool} (h:∀ a b,kEq (K a) (K b)=some (eq a b)) {s:κ}:∀{l:List (κ×α)},xpi (entG K C l) (K s)=some ((vlc eq l s).map C)
 | []=>rfl
 | p::l=>by
  have ih:=vgq h (C:=C) (s:=s) (l:=l);simp only [entG,xpi,h,vlc];rw [ih]
  cases eq s p.1<;>rfl
theorem xww {K:κ->Value} {C:α->SV} {eq:κ->κ->Bool} (h:∀ a b,kEq (K a) (K b)=some (eq a b)) {s:κ} {v:α}:∀{l:List (κ×α)},updM (entG K C l) (K s) (C v)=some (entG K C (updG eq l s v))
 | []=>rfl
 | p::l=>by
  have ih:=xww h (C:=C) (s:=s) (v:=v) (l:=l);simp only [entG,updM,h,updG];rw [ih]
  cases eq s p.1<;>rfl
theorem vk3 {K:κ->Value} {C:α->SV} (h:∀ r a,wi2 r (C a)=C a) (r:Nat->Nat) (l:List (κ×α)):rnSB r (.map (entG K C l))=.map (entG K C l):=by
 have:(entG K C l).map (fun p=>(p.1,wi2 r p.2))=entG K C l:=by
  induction l with
  | nil=>rfl
  | cons p l ih=>
   show (K p.1,wi2 r (C p.2))::(entG K C l).map _=_;rw [ih,h];rfl
 show SB.map _=_;rw [this]
theorem x8n {K:κ->Value} {C:α->SV} (h:∀ a,x8g (C a)=[]) (l:List (κ×α)):zj7 (.map (entG K C l))=[]:=by
 show (entG K C l).flatMap (fun p=>x8g p.2)=[]
 induction l with
 | nil=>rfl
 | cons p l ih=>show x8g (C p.2)++(entG K C l).flatMap _=[];rw [ih,h];rfl
end
end Go.Hp.T
namespace Go.Hp.T
open Go Go.RowKit Go.Slot Go.Hp Go.Slot.T
open Go.Proofs.Tryz
attribute [local irreducible] hide RH
set_option maxRecDepth 10000
set_option maxHeartbeats 8000000
variable {Γ:List (Nat×List Cell)}
abbrev Vu:=List (ByteArray×Unit)
def envU (l:Vu):List (Value×SV):=envM (fun _=>.one (.dat (cB true))) l
theorem yq5 {T:Vu} {s:ByteArray}:xpi (envU T) (.string s)=some ((yvz T s).map fun _=>.one (.dat (.raw (.bool true)))):=xmv
theorem wyx {T:Vu} {s:ByteArray}:updM (envU T) (.string s) (.one (.dat (.raw (.bool true))))=some (envU (updF T s ())):=yfp (C:=fun _:Unit=>.one (.dat (cB true))) (l:=T) (s:=s) (v:=())
theorem xf9 {r:Nat->Nat} {l:Vu}:rnSB r (.map (envU l))=.map (envU l):=vpy (fun _ _=>rfl) r l
theorem v03 (l:Vu):zj7 (.map (envU l))=[]:=zmc (fun _=>rfl) l
theorem x0w (l:Vu):(envU l).length=l.length:=xhs _ l
attribute [go_sem] v03 yq5 wyx x0w
attribute [go_sem 20000] xf9
abbrev scB (ok:Bool):SB:=.box [.mp 1,.dat (cB ok)] (some 112)
abbrev mU (l:Vu):SB:=.map (envU l)
abbrev Scu:=Bool×Vu
abbrev scBs (c:Scu):List SB:=[scB c.1,mU c.2]
abbrev Us:=ByteArray×Bool×Bool
def useM (c:Scu) (u:Us):Scu:=(c.1&&(u.2.1&&(u.2.2&&(z6s u.1&&!(yvz c.2 u.1).isSome))),updF c.2 u.1 ())
theorem cUse (c:Scu) (s:ByteArray) (u m:Bool) (hs:s.size<=1073741824):z00 Γ prog 54 (scBs c) [.one (.ptr 0 0),.one (.dat (cS s)),.one (.dat (cB u)),.one (.dat (cB m))] (scBs (useM c (s,u,m))) (.tup []):=by
 obtain ⟨ok,T⟩:=c;have hf:=xg4 (Γ:=Γ) s hs;unfold useM;dsimp only;generalize z6s s=f at *
 cases hl:yvz T s with
 | none=>
  simp only [Option.isSome_none,Bool.not_false,Bool.and_true];refine hEh [] func54 f54.eq_1 ?_
  repeat' first | refine hF ?_ ?_<;>intros | refine hI ?_ | (with_reducible first | refine w5a (hf) ?_ | refine xqd (hf) ?_)<;>refine hgS ?_
  all_goals
   refine hg1 @hl ?_
   repeat' first | refine hF ?_ ?_<;>intros | refine hI ?_
  all_goals exact StH.same svl (by simp [*])
 | some x=>
  simp only [Option.isSome_some,Bool.not_true,Bool.and_false];refine hEh [] func54 f54.eq_1 ?_
  repeat' first | refine hF ?_ ?_<;>intros | refine hI ?_ | (with_reducible first | refine w5a (hf) ?_ | refine xqd (hf) ?_)<;>refine hgS ?_
  all_goals
   refine hg1 @hl ?_
   repeat' first | refine hF ?_ ?_<;>intros | refine hI ?_
  all_goals exact StH.same svl (by simp [*])
end Go.Hp.T
namespace Go.Hp
open Go Go.RowKit Go.Slot
variable {P:Program} {Γ:List (Nat×List Cell)} {e:List SB}
theorem zvl {a b:Nat}:Nat.blt a b=decide (a<b):=by
 by_cases h:a<b
 . rw [decide_eq_true h];simpa using h
 . rw [decide_eq_false h]
   cases hh:Nat.blt a b with
   | false=>rfl
   | true=>exact absurd (by simpa using hh) h
end Go.Hp
namespace Go.Hp.T
open Go Go.RowKit Go.Slot Go.Hp Go.Slot.T
open Go.Proofs.Tryz (prog)
set_option maxRecDepth 10000
set_option maxHeartbeats 4000000
variable {Γ:List (Nat×List Cell)}
theorem xi9 (l:List HC) (T:Option TypeId):zj7 (.box l T)=l.flatMap wkc:=rfl
theorem z2z (c:Cell) (k:Nat) (T:Option TypeId):zj7 (.arr c k T)=[]:=rfl
theorem wgd:zj7 .dead=[]:=rfl
attribute [go_sem] z6m x8g wkc xi9 z2z wgd zvl List.flatMap_cons List.flatMap_nil List.all_append
structure Tb.Sm (t:Tb):Prop where
 n:t.name.size<=1073741824
 u:t.unit.size<=1073741824
 r:t.rows.length<=1073741824
end Go.Hp.T
