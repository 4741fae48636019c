/- The proof, part B30: Gd, Gt, Ac, Al. -/
import Derived.Test.YtglblfkobflpmaaGreatB29
import Derived.Test.YtglblfkobflpmaaGreatB27
namespace Go.Hp.T
open Go Go.RowKit Go.Slot Go.Hp Go.Slot.T
set_option maxRecDepth 10000
set_option maxHeartbeats 4000000
structure Bd where
 name:ByteArray
 v:Fc
instance:Inhabited Bd:=⟨⟨⟨#[]⟩,Fc.zero⟩⟩
abbrev Vq:=List (ByteArray×Rat)
abbrev Vt:=List (ByteArray×Tb)
def envB (l:Vt):List (Value×SV):=envM (fun t=>.agg ((tbC t).map .dat)) l
theorem xwl {T:Vt} {s:ByteArray}:yvo (envB T) (.string s)=some ((z2f T s).map fun t=>.agg ((tbC t).map .dat)):=x0f
theorem w7y {T:Vt} {s:ByteArray} {t:Tb}:updM (envB T) (.string s) (.agg [.dat (cS t.name),.dat (cS t.unit),.dat (.sl 2 (t.rows.map Rw.C))])=some (envB (updF T s t)):=y5p (C:=fun t=>.agg ((tbC t).map .dat))
attribute [go_sem] xwl w7y
abbrev tbOk (t:Tb):Bool:=vgr (fun s=>(xx7 s).2) t
abbrev entF (bs:List Bd) (ms:List Tb):Option (Vq×Vt):=entG Bd.name (fun b=>decide b.v.ok) (fun b=>b.v.val) tbOk bs ms
def xoq (n:Int) (u:ByteArray):Rs×Int:=bif decide (¬(xx7 u).2=0) then (Rs.zero,14) else numV (mulO (some (n:Rat)) (facO u)) (erO (some (n:Rat)) (facO u))
def y21 (V:Vq) (s:ByteArray):Rs×Int:=match z2f V s with
 | none=>(Rs.zero,11)
 | some q=>numV (addO (some q) (some ((0:Int):Rat))) 0
def vi3 (T:Vt) (s:ByteArray) (k:Rs):Rs×Int:=match z2f T s with
 | none=>(Rs.zero,11)
 | some t=>bif k.t then (Rs.zero,13) else numV (xwc t k.v).1 (xwc t k.v).2
def chV (rs:List (Rs×Int)):Rs×Int:=bif decide (¬(rs.getD 0 default).2=0) then (Rs.zero,(rs.getD 0 default).2) else
 bif !(rs.getD 0 default).1.t then (Rs.zero,13) else bif (rs.getD 0 default).1.i then rs.getD 1 default else rs.getD 2 default
def seqV:List (Rs×Int)->Int ⊕ List Rs
 | []=>.inr []
 | (r,e)::l=>bif decide (¬e=0) then .inl e else match seqV l with
  | .inl e=>.inl e
  | .inr rs=>.inr (r::rs)
def opV (T:Vt) (o:Int) (s:ByteArray) (rs:List Rs):Rs×Int:=bif decide (o=2) then vi3 T s (rs.getD 0 default) else
 bif decide (o=4)||decide (o=14)||decide (o=15) then logV o rs else ariV o (rs.getD 0 default) (rs.getD 1 default)
def v24 (T:Vt) (o:Int) (s:ByteArray) (q:Int ⊕ List Rs):Rs×Int:=match q with
 | .inl e=>(Rs.zero,e)
 | .inr rs=>opV T o s rs
mutual
def Ex.cal (V:Vq) (T:Vt):Ex->Rs×Int
 | .mk o n u s l=>bif decide (o=0) then xoq n u else bif decide (o=1) then y21 V s else
  bif decide (o=5) then chV (Ex.calA V T l) else v24 T o s (seqV (Ex.calA V T l))
def Ex.calA (V:Vq) (T:Vt):List Ex->List (Rs×Int)
 | []=>[]
 | y::l=>Ex.cal V T y::Ex.calA V T l
end
theorem Ex.vnj (V:Vq) (T:Vt):∀ l:List Ex,Ex.calA V T l=l.map (Ex.cal V T)
 | []=>by rw [Ex.calA];rfl
 | y::l=>by rw [Ex.calA,Ex.vnj V T l];rfl
theorem Ex.yre (V:Vq) (T:Vt) (x:Ex):x.cal V T=bif decide (x.op=0) then xoq x.n x.unit else bif decide (x.op=1) then y21 V x.name else
 bif decide (x.op=5) then chV (x.args.map (Ex.cal V T)) else v24 T x.op x.name (seqV (x.args.map (Ex.cal V T))):=by cases x;rw [Ex.cal,Ex.vnj];rfl
def valF (x:Ex) (bs:List Bd) (ms:List Tb):Rs×Int:=bif !zqs x||x.wqm then (Rs.zero,2) else match entF bs ms with
 | none=>(Rs.zero,1)
 | some p=>x.cal p.1 p.2
mutual
def Ex.nd:Ex->Nat
 | .mk _ _ _ _ l=>Ex.ndL l+1
def Ex.ndL:List Ex->Nat
 | []=>0
 | y::l=>Ex.nd y+Ex.ndL l
end
theorem Ex.xk0 (x:Ex):x.nd=Ex.ndL x.args+1:=by cases x;rw [Ex.nd];rfl
theorem Ex.xka:∀{l:List Ex} {y:Ex},y∈l->y.nd<=Ex.ndL l
 | z::l,y,h=>by
  rw [Ex.ndL]
  rcases List.mem_cons.1 h with rfl | h
  . omega
  . have:=Ex.xka h;omega
theorem Ex.nd2 {l:List Ex} (h:2<=l.length):(l.getD 0 default).nd+(l.getD 1 default).nd<=Ex.ndL l:=by
 match l,h with
 | a::b::l,_=>rw [Ex.ndL,Ex.ndL];simp only [List.getD_cons_zero,List.getD_cons_succ];omega
theorem Ex.y73:∀(x:Ex) (n lv k:Int),x.cnt n lv=(true,k)->k=n+x.nd:=by
 have hL:∀ l:List Ex,(∀ y∈l,∀(n lv k:Int),y.cnt n lv=(true,k)->k=n+y.nd)->∀ n lv k:Int,Ex.cntL l n lv=(true,k)->k=n+Ex.ndL l:=by
  intro l
  induction l with
  | nil=>intro _ n lv k h;rw [Ex.cntL] at h;cases h;rw [Ex.ndL];omega
  | cons y l ih=>
   intro hy n lv k h;rw [Ex.cntL] at h;split at h
   . cases h
   . rename_i m hm;have h1:=hy y (by simp) _ _ _ hm;have h2:=ih (fun z hz=>hy z (by simp [hz])) _ _ _ h;rw [Ex.ndL];omega
 refine Ex.ind (fun x ih n lv k h=>?_);rw [Ex.yn2] at h;by_cases h1:200<n+1
 . simp [h1] at h
 . by_cases h2:20<lv
   . simp [h2] at h
   . simp only [h1,h2,decide_false,Bool.or_self,cond_false] at h
     have:=hL x.args ih _ _ _ h
     rw [Ex.xk0];omega
theorem zvr {x:Ex} (h:zqs x=true):x.nd<=200:=by
 unfold zqs at h;rw [Bool.and_eq_true] at h
 have h1:x.cnt 0 1=(true,(x.cnt 0 1).2):=by rw [<-h.1]
 have h2:=Ex.y73 _ _ _ _ h1;have h3:=Ex.xh3 _ _ _ _ h1;omega
theorem vkw (t:Tb) {n:Int} (h:inI n):qz (zfd t n)<=4204:=by
 have h1:=zcu (some (n:Rat)) (facO t.unit);have h2:=x11 h;have h3:=xne t.unit;unfold zfd;omega
theorem x24 (t:Tb) (v:Option Rat):qz (xwc t v).1<=4204:=by
 unfold xwc
 cases ht:vgr (fun s=>(xx7 s).2) t with
 | false=>exact Nat.zero_le _
 | true=>
  cases v with
  | none=>exact Nat.zero_le _
  | some q=>
   simp only [Bool.not_true,cond_false];by_cases h0:aft q t.rows=0
   . rw [decide_eq_true h0];exact Nat.zero_le _
   . rw [decide_eq_false h0];obtain ⟨_,_,hl,hrows⟩:=yg5 ht;have hle:=wrt q t.rows;have hn:=zr8 (hrows (aft q t.rows-1) (by omega)).2.1;exact vkw t (by unfold inI;omega)
theorem xsm {x:Ex} (h:xes x=true) (h0:x.op=0):0<=x.n/\x.n<=1099511627776:=by
 unfold xes at h;rw [decide_eq_true h0] at h;simp only [cond_true,Bool.and_eq_true,decide_eq_true_eq] at h;omega
end Go.Hp.T
namespace Go.Hp.T
open Go Go.RowKit Go.Slot Go.Hp
set_option maxRecDepth 10000
theorem nc0:((0:Nat):Int)=0:=rfl
theorem nc1:((1:Nat):Int)=1:=rfl
theorem nc2:((2:Nat):Int)=2:=rfl
theorem nc3:((3:Nat):Int)=3:=rfl
attribute [go_sem] decide_true decide_false nc0 nc1 nc2 nc3
theorem yl9 {x:Ex} (h:xes x=true) (hne:x.args.length≠0):2<=x.op/\x.op<=15:=by
 unfold xes at h;by_cases a0:x.op=0
 . rw [decide_eq_true a0,cond_true] at h;simp only [Bool.and_eq_true,decide_eq_true_eq] at h;omega
 rw [decide_eq_false a0,cond_false] at h
 cases hb:(decide (¬x.n=0)||decide (¬x.unit.size=0)) with
 | true=>rw [hb,cond_true] at h;cases h
 | false=>
 rw [hb,cond_false] at h;by_cases a1:x.op=1
 . rw [decide_eq_true a1,cond_true] at h;simp only [Bool.and_eq_true,decide_eq_true_eq] at h;omega
 rw [decide_eq_false a1,cond_false] at h;by_cases a2:x.op=2
 . omega
 by_cases a3:x.op=3
 . omega
 by_cases a4:x.op=4
 . omega
 by_cases a5:x.op=5
 . omega
 rw [decide_eq_false a2,decide_eq_false a3,decide_eq_false a4,decide_eq_false a5] at h;simp only [cond_false] at h;by_cases a6:x.op=10\/x.op=11
 . omega
 rw [decide_eq_false (fun h=>a6 (.inl h)),decide_eq_false (fun h=>a6 (.inr h))] at h;simp only [Bool.or_self,cond_false,Bool.and_eq_true] at h
 have:=h.1.1
 unfold isOp at this;simp only [Bool.or_eq_true,decide_eq_true_eq] at this;omega
end Go.Hp.T
namespace Go.Hp.T
open Go Go.RowKit Go.Slot Go.Hp Go.Slot.T
set_option maxRecDepth 10000
set_option maxHeartbeats 4000000
structure Th where
 t:Bool
 i:Bool
 c:Option Rat
 l:List Rat
deriving DecidableEq
def Th.zero:Th:=⟨false,false,none,[]⟩
instance:Inhabited Th:=⟨Th.zero⟩
def rowQ (q:Rat):List Cell:=(Fc.of q).C
theorem zdq (q:Rat):rowQ q=qC (some q):=rfl
def Th.C (x:Th):List Cell:=[cB x.t,cB x.i,.raw (.int .i64 (qF x.c).s),.ints .i64 (qF x.c).L,.raw (.int .i64 (qF x.c).t),.ints .i64 (qF x.c).M,.sl 4 (x.l.map rowQ)]
abbrev thC (x:Th):List Cell:=[cB x.t,cB x.i,.raw (.int .i64 (qF x.c).s),.ints .i64 (qF x.c).L,.raw (.int .i64 (qF x.c).t),.ints .i64 (qF x.c).M,.sl 4 (x.l.map rowQ)]
theorem Th.C_eq (x:Th):x.C=thC x:=rfl
attribute [go_sem] zdq Th.C_eq
def Th.con (x:Th):Bool:=!x.t&&x.l.all (fun q=>decide (q=0))
def numA (n:Nat) (v:Option Rat):Th:=⟨false,false,v,List.replicate n 0⟩
def truA (b:Bool):Th×Int:=(⟨true,b,none,[]⟩,0)
abbrev Fm:=Rat×List Rat
abbrev Va:=List (ByteArray×Fm)
def wfn (n:Nat) (z:Int) (u:ByteArray):Th×Int:=bif decide (¬(xx7 u).2=0) then (Th.zero,14) else (numA n (mulO (some (z:Rat)) (facO u)),0)
def x5a (V:Va) (s:ByteArray):Th×Int:=match z2f V s with
 | none=>(Th.zero,11)
 | some f=>(⟨false,false,some f.1,f.2⟩,0)
def xu8 (n:Nat) (T:Vt) (s:ByteArray) (k:Th):Th×Int:=match z2f T s with
 | none=>(Th.zero,11)
 | some t=>bif !k.con then (Th.zero,13) else bif decide (¬(xwc t k.c).2=0) then (Th.zero,(xwc t k.c).2) else (numA n (xwc t k.c).1,0)
def logA (o:Int) (l:List Th):Th×Int:=bif l.any (fun t=>!t.t) then (Th.zero,13) else
 truA (bif decide (o=14) then (l.getD 0 default).i&&(l.getD 1 default).i else bif decide (o=15) then (l.getD 0 default).i||(l.getD 1 default).i else !(l.getD 0 default).i)
def timA (a:Th) (v:Option Rat):Th:=⟨false,false,mulO a.c v,a.l.map fun q=>q*v.getD 0⟩
def scaA (o:Int) (a b:Th):Th×Int:=bif a.t||b.t||(!b.con&&(decide (o=9)||!a.con)) then (Th.zero,13) else
 bif decide (o=8)&&!b.con then (timA b a.c,0) else
 bif decide (o=9) then (bif decide (¬divE (some ((1:Int):Rat)) b.c=0) then (Th.zero,15) else (timA a (divO (some ((1:Int):Rat)) b.c),0)) else (timA a b.c,0)
def addA (a b:Th):Th:=⟨false,false,addO a.c b.c,List.zipWith (· + ·) a.l b.l⟩
def subA (a b:Th):Th:=⟨false,false,subO a.c b.c,List.zipWith (· - ·) a.l b.l⟩
def sumA (o:Int) (a b:Th):Th×Int:=bif a.t||b.t then (Th.zero,13) else bif decide (o=7) then (subA a b,0) else (addA a b,0)
def cmpA (o:Int) (a b:Th):Th×Int:=bif !a.con||!b.con then (Th.zero,13) else
 bif decide (o=12) then truA (decide (cmpO a.c b.c<0)) else bif decide (o=13) then truA (decide (cmpO a.c b.c=0)) else
 bif decide (o=10)==decide (cmpO a.c b.c<=0) then (a,0) else (b,0)
def chA (rs:List (Th×Int)):Th×Int:=bif decide (¬(rs.getD 0 default).2=0) then (Th.zero,(rs.getD 0 default).2) else
 bif !(rs.getD 0 default).1.t then (Th.zero,13) else bif (rs.getD 0 default).1.i then rs.getD 1 default else rs.getD 2 default
def seqA:List (Th×Int)->Int ⊕ List Th
 | []=>.inr []
 | (r,e)::l=>bif decide (¬e=0) then .inl e else match seqA l with
  | .inl e=>.inl e
  | .inr rs=>.inr (r::rs)
def opA (n:Nat) (T:Vt) (o:Int) (s:ByteArray) (rs:List Th):Th×Int:=bif decide (o=2) then xu8 n T s (rs.getD 0 default) else
 bif decide (o=4)||decide (o=14)||decide (o=15) then logA o rs else
 bif decide (o=8)||decide (o=9) then scaA o (rs.getD 0 default) (rs.getD 1 default) else
 bif decide (o=6)||decide (o=7) then sumA o (rs.getD 0 default) (rs.getD 1 default) else cmpA o (rs.getD 0 default) (rs.getD 1 default)
def wxq (n:Nat) (T:Vt) (o:Int) (s:ByteArray) (q:Int ⊕ List Th):Th×Int:=match q with
 | .inl e=>(Th.zero,e)
 | .inr rs=>opA n T o s rs
mutual
def Ex.aff (n:Nat) (V:Va) (T:Vt):Ex->Th×Int
 | .mk o z u s l=>bif decide (o=0) then wfn n z u else bif decide (o=1) then x5a V s else
  bif decide (o=5) then chA (Ex.affL n V T l) else wxq n T o s (seqA (Ex.affL n V T l))
def Ex.affL (n:Nat) (V:Va) (T:Vt):List Ex->List (Th×Int)
 | []=>[]
 | y::l=>Ex.aff n V T y::Ex.affL n V T l
end
theorem Ex.zih (n:Nat) (V:Va) (T:Vt):∀ l:List Ex,Ex.affL n V T l=l.map (Ex.aff n V T)
 | []=>by rw [Ex.affL];rfl
 | y::l=>by rw [Ex.affL,Ex.zih n V T l];rfl
theorem Ex.xpb (n:Nat) (V:Va) (T:Vt) (x:Ex):x.aff n V T=bif decide (x.op=0) then wfn n x.n x.unit else bif decide (x.op=1) then x5a V x.name else
 bif decide (x.op=5) then chA (x.args.map (Ex.aff n V T)) else wxq n T x.op x.name (seqA (x.args.map (Ex.aff n V T))):=by cases x;rw [Ex.aff,Ex.zih];rfl
structure Sl where
 name:ByteArray
 f:Af
instance:Inhabited Sl:=⟨⟨⟨#[]⟩,Af.zero⟩⟩
def Sl.C (x:Sl):List Cell:=[cS x.name,.raw (.int .i64 x.f.c.s),.ints .i64 x.f.c.L,.raw (.int .i64 x.f.c.t),.ints .i64 x.f.c.M,.sl 4 (x.f.l.map Fc.C)]
abbrev slC (x:Sl):List Cell:=[cS x.name,.raw (.int .i64 x.f.c.s),.ints .i64 x.f.c.L,.raw (.int .i64 x.f.c.t),.ints .i64 x.f.c.M,.sl 4 (x.f.l.map Fc.C)]
theorem Sl.C_eq (x:Sl):x.C=slC x:=rfl
attribute [go_sem] Sl.C_eq
def Sl.val (x:Sl):Fm:=(x.f.c.val,x.f.l.map Fc.val)
def nOf (ss:List Sl):Nat:=match ss with
 | []=>0
 | s::_=>s.f.l.length
def gS (n:Nat) (V:Va):List Sl->Option Va
 | []=>some V
 | s::l=>bif !isName s.name||isWord s.name||!decide (s.f.ok n) then none else gS n (updF V s.name s.val) l
def gTb (V:Va) (T:Vt):List Tb->Option Vt
 | []=>some T
 | t::l=>bif (z2f V t.name).isSome||isWord t.name||!tbOk t then none else gTb V (updF T t.name t) l
def entA (ss:List Sl) (ms:List Tb):Option (Va×Vt):=match gS (nOf ss) [] ss with
 | none=>none
 | some V=>match gTb V [] ms with
  | none=>none
  | some T=>bif decide ((V.length:Int)=ss.length)&&decide ((T.length:Int)=ms.length) then some (V,T) else none
def affF (x:Ex) (ss:List Sl) (ms:List Tb):Th×Int:=bif !zqs x||x.wqm then (Th.zero,2) else match entA ss ms with
 | none=>(Th.zero,1)
 | some p=>bif decide (¬(x.aff (nOf ss) p.1 p.2).2=0) then (Th.zero,(x.aff (nOf ss) p.1 p.2).2) else bif (x.aff (nOf ss) p.1 p.2).1.t then (Th.zero,13) else ((x.aff (nOf ss) p.1 p.2).1,0)
def Th.G (n B:Nat) (x:Th):Prop:=(x.t=true/\x.c=none/\x.l=[])\/(x.t=false/\x.i=false/\x.l.length=n/\(∃ q,x.c=some q/\qs q<=B)/\∀ q∈x.l,qs q<=B)
theorem Th.G.mono {n B C:Nat} {x:Th} (h:x.G n B) (hb:B<=C):x.G n C:=by
 rcases h with h | ⟨h1,h2,h3,⟨q,h4,h5⟩,h6⟩
 . exact .inl h
 . exact .inr ⟨h1,h2,h3,⟨q,h4,by omega⟩,fun q hq=>Nat.le_trans (h6 q hq) hb⟩
theorem Th.G.form {n B:Nat} {x:Th} (h:x.G n B) (ht:x.t=false):x.i=false/\x.l.length=n/\(∃ q,x.c=some q/\qs q<=B)/\∀ q∈x.l,qs q<=B:=by
 rcases h with ⟨h1,_⟩ | ⟨_,h⟩
 . rw [h1] at ht;cases ht
 . exact h
theorem y6i (n B:Nat) (b:Bool):(truA b).1.G n B:=.inl ⟨rfl,rfl,rfl⟩
theorem z3n:qs (0:Rat)<=1:=by
 show max (dig (0:Int).natAbs).length (dig 1).length<=1;rw [show (0:Int).natAbs=0 from rfl,y89,xxw (by decide),y89];decide
theorem va1 {n B:Nat} {v:Option Rat} {q:Rat} (hv:v=some q) (hq:qs q<=B) (hB:1<=B):(numA n v).G n B:=
 .inr ⟨rfl,rfl,List.length_replicate,⟨q,hv,hq⟩,fun r hr=>by
  rw [List.eq_of_mem_replicate hr]
  exact Nat.le_trans z3n hB⟩
theorem xa1 (x y:Rat):qs (x+y)<=qs x+qs y+1:=Fc.v2c x y
theorem zae (x y:Rat):qs (x-y)<=qs x+qs y+1:=yde (some x) (some y)
theorem ysq {n B C:Nat} {a:Th} (ha:a.G n B) (ht:a.t=false) {v:Option Rat} {y:Rat} (hv:v=some y) (hy:qs y<=C):(timA a v).G n (B+C):=by
 obtain ⟨_,h2,⟨q,h3,h4⟩,h5⟩:=ha.form ht;subst hv;refine .inr ⟨rfl,rfl,by show (a.l.map _).length=n;rw [List.length_map];exact h2,⟨q*y,by show mulO a.c (some y)=_;rw [h3];rfl,Nat.le_trans (vmu q y) (by omega)⟩,fun r hr=>?_⟩;obtain ⟨p,hp,rfl⟩:=List.mem_map.1 (show r∈a.l.map fun q=>q*y from hr);exact Nat.le_trans (vmu p y) (Nat.add_le_add (h5 p hp) hy)
theorem ycf {α β γ:Type} {f:α->β->γ}:∀{l:List α} {m:List β} {r:γ},r∈List.zipWith f l m->∃ x∈l,∃ y∈m,r=f x y
 | [],_,_,h=>by simp at h
 | _::_,[],_,h=>by simp at h
 | x::l,y::m,r,h=>by
  rw [List.zipWith_cons_cons,List.mem_cons] at h
  rcases h with rfl | h
  . exact ⟨x,by simp,y,by simp,rfl⟩
  . obtain ⟨a,ha,b,hb,e⟩:=ycf h;exact ⟨a,by simp [ha],b,by simp [hb],e⟩
theorem zn1 {n B C:Nat} {g:Rat->Rat->Rat} (hg:∀ x y,qs (g x y)<=qs x+qs y+1) {a b:Th} (ha:a.G n B) (hb:b.G n C) (h1:a.t=false) (h2:b.t=false):Th.G n (B+C+1) ⟨false,false,op2O g a.c b.c,List.zipWith g a.l b.l⟩:=by
 obtain ⟨_,a2,⟨q,a3,a4⟩,a5⟩:=ha.form h1;obtain ⟨_,b2,⟨p,b3,b4⟩,b5⟩:=hb.form h2;refine .inr ⟨rfl,rfl,by rw [List.length_zipWith];omega,⟨g q p,by rw [a3,b3];rfl,Nat.le_trans (hg q p) (by omega)⟩,fun r hr=>?_⟩;obtain ⟨x,hx,y,hy,rfl⟩:=ycf hr
 have:=hg x y
 have:=a5 x hx
 have:=b5 y hy
 omega
theorem wmy {x:Th} (h:x.con=true):x.t=false/\∀ q∈x.l,q=0:=by
 unfold Th.con at h;rw [Bool.and_eq_true,List.all_eq_true] at h;exact ⟨by simpa using h.1,fun q hq=>by simpa using h.2 q hq⟩
theorem x4r {c:Bool} {a b:Th×Int} {n B:Nat} (h1:a.2=0->a.1.G n B) (h2:b.2=0->b.1.G n B):(bif c then a else b).2=0->(bif c then a else b).1.G n B:=by cases c<;>assumption
theorem xsk {n B:Nat} {e:Int} (he:e≠0) {t:Th}:((t,e):Th×Int).2=0->((t,e):Th×Int).1.G n B:=fun h=>absurd h he
theorem yz3 {v:Option Rat} (h:¬(¬divE (some ((1:Int):Rat)) v=0)):∃ y,v=some y/\y≠0/\divO (some ((1:Int):Rat)) v=some (((1:Int):Rat) / y):=by
 cases v with
 | none=>exact absurd (fun h=>by cases h) h
 | some y=>
  by_cases hy:y=0
  . exact absurd (by show ¬(bif decide (y=0) then (15:Int) else 0)=0;rw [decide_eq_true hy];decide) h
  . exact ⟨y,rfl,hy,by show (bif decide (y=0) then none else some (((1:Int):Rat) / y))=_;rw [decide_eq_false hy];rfl⟩
theorem w9o {n B C:Nat} (o:Int) {a b:Th} (ha:a.G n B) (hb:b.G n C):(scaA o a b).2=0->(scaA o a b).1.G n (B+C+5):=by
 unfold scaA
 cases h:a.t||b.t||(!b.con&&(decide (o=9)||!a.con)) with
 | true=>exact xsk (by decide)
 | false=>
  rw [Bool.or_eq_false_iff,Bool.or_eq_false_iff] at h;obtain ⟨⟨h1,h2⟩,_⟩:=h;obtain ⟨_,_,⟨q,a3,a4⟩,_⟩:=ha.form h1;obtain ⟨_,_,⟨p,b3,b4⟩,_⟩:=hb.form h2;rw [cond_false];refine x4r (fun _=>(ysq hb h2 a3 a4).mono (by omega)) (x4r ?_ (fun _=>(ysq ha h1 b3 b4).mono (by omega)));by_cases hd:¬divE (some ((1:Int):Rat)) b.c=0
  . rw [decide_eq_true hd];exact xsk (by decide)
  . rw [decide_eq_false hd];obtain ⟨y,e1,hy,e2⟩:=yz3 hd;have hs:=x6h ((1:Int):Rat) y;have h1':qs ((1:Int):Rat)<=4:=x11 (n:=1) (by decide);rw [e1] at b3;cases b3
    exact fun _=>(ysq ha h1 e2 hs).mono (by omega)
theorem x9q {n B C:Nat} (o:Int) {a b:Th} (ha:a.G n B) (hb:b.G n C):(sumA o a b).2=0->(sumA o a b).1.G n (B+C+1):=by
 unfold sumA
 cases h:a.t||b.t with
 | true=>exact xsk (by decide)
 | false=>
  rw [Bool.or_eq_false_iff] at h;rw [cond_false];exact x4r (fun _=>zn1 zae ha hb h.1 h.2) (fun _=>zn1 xa1 ha hb h.1 h.2)
theorem xd6 {n B C:Nat} (o:Int) {a b:Th} (ha:a.G n B) (hb:b.G n C):(cmpA o a b).2=0->(cmpA o a b).1.G n (B+C+1):=by
 unfold cmpA;exact x4r (xsk (by decide)) (x4r (fun _=>y6i _ _ _) (x4r (fun _=>y6i _ _ _) (x4r (fun _=>ha.mono (by omega)) (fun _=>hb.mono (by omega)))))
theorem xfb {n B:Nat} (o:Int) (l:List Th):(logA o l).2=0->(logA o l).1.G n B:=by
 unfold logA;exact x4r (xsk (by decide)) (fun _=>y6i _ _ _)
theorem wxi {t:Tb} {v:Option Rat} (h:¬(¬(xwc t v).2=0)):∃ q,(xwc t v).1=some q/\qs q<=4204:=by
 have hq:=x24 t v;unfold xwc at h hq ⊢
 cases ht:vgr (fun s=>(xx7 s).2) t with
 | false=>rw [ht] at h;exact absurd (show ¬(1:Int)=0 by decide) h
 | true=>
  rw [ht] at h hq
  cases v with
  | none=>exact absurd (show ¬(1:Int)=0 by decide) h
  | some q=>
   simp only [Bool.not_true,cond_false] at h hq ⊢
   cases h0:decide (aft q t.rows=0) with
   | true=>rw [h0] at h;exact absurd (show ¬(4:Int)=0 by decide) h
   | false=>
    rw [h0] at hq;obtain ⟨u,h1,h2⟩:=(yg5 ht).1
    have e:zfd t (t.rows.getD (aft q t.rows-1) default).v=some (((t.rows.getD (aft q t.rows-1) default).v:Rat)*u.f):=by unfold zfd facO;rw [h1];rfl
    simp only [cond_false] at hq ⊢;rw [e] at hq ⊢;exact ⟨_,rfl,hq⟩
theorem wlu {n:Nat} (T:Vt) (s:ByteArray) (k:Th):(xu8 n T s k).2=0->(xu8 n T s k).1.G n 4204:=by
 unfold xu8
 cases z2f T s with
 | none=>exact xsk (by decide)
 | some t=>
  refine x4r (xsk (by decide)) ?_;by_cases h:¬(xwc t k.c).2=0
  . rw [decide_eq_true h];exact xsk h
  . rw [decide_eq_false h];obtain ⟨q,h1,h2⟩:=wxi h
    exact fun _=>va1 h1 h2 (by omega)
theorem yws {n:Nat} {z:Int} (hz:inI z) (u:ByteArray):(wfn n z u).2=0->(wfn n z u).1.G n 4204:=by
 unfold wfn;by_cases h:¬(xx7 u).2=0
 . rw [decide_eq_true h];exact xsk (by decide)
 . rw [decide_eq_false h]
   rcases ver u with ⟨v,h1,h2⟩ | ⟨e,he,h1⟩
   . have e1:mulO (some (z:Rat)) (facO u)=some ((z:Rat)*v.f):=by unfold facO;rw [h1];rfl
     have h3:qs (z:Rat)<=4:=x11 hz
     exact fun _=>va1 e1 (Nat.le_trans (vmu _ _) (by omega)) (by omega)
   . rw [h1] at h;exact absurd he h
theorem z8d : ∀ {l : List (Th × Int)} {rs : List Th}, seqA l = .inr rs → rs.length = l.length ∧ ∀ i, i < l.length → l.getD i default = (rs.getD i default, 0)
 | [],rs,h=>by rw [seqA] at h;cases h;exact ⟨rfl,fun i hi=>by simp at hi⟩
 | (r, e) :: l, rs, h => by
  rw [seqA] at h;by_cases he:e=0
  . subst he;simp only [not_true_eq_false,decide_false,cond_false] at h
    cases hs:seqA l with
    | inl e=>rw [hs] at h;cases h
    | inr r2=>
     rw [hs] at h;cases h;obtain ⟨h1,h2⟩:=z8d hs;refine ⟨by simp [h1],fun i hi=>?_⟩
     cases i with
     | zero=>rfl
     | succ i=>simpa using h2 i (by simpa using hi)
  . rw [decide_eq_true he] at h;cases h
theorem wiy:∀{l:List (Th×Int)} {e:Int},seqA l=.inl e->e≠0
 | [],e,h=>by rw [seqA] at h;cases h
 | (r,e0)::l,e,h=>by
  rw [seqA] at h;by_cases he:e0=0
  . subst he;simp only [not_true_eq_false,decide_false,cond_false] at h
    cases hs:seqA l with
    | inl e1=>rw [hs] at h;cases h;exact wiy hs
    | inr r2=>rw [hs] at h;cases h
  . rw [decide_eq_true he] at h;cases h;exact he
def Asm (n B:Nat) (V:Va):Prop:=∀ s f,z2f V s=some f->f.2.length=n/\qs f.1+10<=B/\∀ q∈f.2,qs q+10<=B
theorem xni {n B:Nat} {V:Va} {T:Vt} (hB:4300<=B) (hV:Asm n B V):∀ x:Ex,x.shaped=true->x.wqm=false->(x.aff n V T).2=0->(x.aff n V T).1.G n (B*x.nd-5):=by
 refine Ex.ind (fun x ih hsh hcl=>?_);rw [Ex.ypb,Bool.and_eq_true,List.all_eq_true] at hsh;rw [Ex.xrx,Bool.or_eq_false_iff,decide_eq_false_iff_not,List.any_eq_false] at hcl;obtain ⟨hnode,hargs⟩:=hsh;have hnd:=Ex.xk0 x;have h1:B<=B*x.nd:=Nat.le_mul_of_pos_right _ (by omega)
 have hmem:∀ i,i<x.args.length->((x.args.map (Ex.aff n V T)).getD i default).2=0->((x.args.map (Ex.aff n V T)).getD i default).1.G n (B*(x.args.getD i default).nd-5):=fun i hi=>by
  have hm:=y7p hi;rw [getD_map hi];exact ih _ hm (hargs _ hm) (by simpa using hcl.2 _ hm)
 have hle:∀ i,i<x.args.length->B*(x.args.getD i default).nd<=B*x.nd:=fun i hi=>Nat.mul_le_mul_left _ (by have:=Ex.xka (y7p hi);omega)
 rw [Ex.xpb];by_cases h0:x.op=0
 . rw [decide_eq_true h0,cond_true];have hn:=xsm hnode h0
   exact fun h=>(yws (by unfold inI;omega) _ h).mono (by omega)
 rw [decide_eq_false h0,cond_false];by_cases h01:x.op=1
 . rw [decide_eq_true h01,cond_true];unfold x5a
   cases hl:z2f V x.name with
   | none=>exact xsk (by decide)
   | some f=>
    obtain ⟨a1,a2,a3⟩:=hV _ _ hl
    exact fun _=>.inr ⟨rfl,rfl,a1,⟨_,rfl,by omega⟩,fun q hq=>by have:=a3 q hq;omega⟩
 rw [decide_eq_false h01,cond_false]
 have hne:x.args.length≠0:=fun h=>by
  unfold xes at hnode;rw [decide_eq_false h0,decide_eq_false h01,h] at hnode;simp at hnode
 obtain ⟨hl2,hl3⟩:=zd3 hnode hcl.1 hne;by_cases h5:x.op=5
 . rw [decide_eq_true h5,cond_true];have hl:=hl3 h5;unfold chA;by_cases hc:¬((x.args.map (Ex.aff n V T)).getD 0 default).2=0
   . rw [decide_eq_true hc];exact xsk hc
   . rw [decide_eq_false hc,cond_false];exact x4r (xsk (by decide)) (x4r (fun h=>(hmem 1 (by omega) h).mono (by have:=hle 1 (by omega);omega)) (fun h=>(hmem 2 (by omega) h).mono (by have:=hle 2 (by omega);omega)))
 rw [decide_eq_false h5,cond_false]
 cases hs:seqA (x.args.map (Ex.aff n V T)) with
 | inl e=>exact xsk (wiy hs)
 | inr rs=>
  obtain ⟨hlen,hget⟩:=z8d hs;rw [List.length_map] at hlen hget;show (opA n T x.op x.name rs).2=0->_;show (opA n T x.op x.name rs).2=0->(opA n T x.op x.name rs).1.G _ _;unfold opA;by_cases h2:x.op=2
  . rw [decide_eq_true h2,cond_true]
    exact fun h=>(wlu T _ _ h).mono (by omega)
  rw [decide_eq_false h2,cond_false]
  cases hlg:decide (x.op=4)||decide (x.op=14)||decide (x.op=15) with
  | true=>exact xfb _ _
  | false=>
   rw [cond_false]
   have h4:x.op≠4:=fun h=>by rw [decide_eq_true h] at hlg;simp at hlg
   have hl:=hl2 h2 h4;have m0:=hmem 0 (by omega);have m1:=hmem 1 (by omega);rw [hget 0 (by omega)] at m0;rw [hget 1 (by omega)] at m1;have m0:=m0 rfl;have m1:=m1 rfl;have hn2:=Ex.nd2 hl;have hd:=Nat.mul_add B (x.args.getD 0 default).nd (x.args.getD 1 default).nd;have he:B*((x.args.getD 0 default).nd+(x.args.getD 1 default).nd+1)<=B*x.nd:=Nat.mul_le_mul_left _ (by omega);rw [Nat.mul_add,hd] at he;have p0:B<=B*(x.args.getD 0 default).nd:=Nat.le_mul_of_pos_right _ (by rw [Ex.xk0];omega);have p1:B<=B*(x.args.getD 1 default).nd:=Nat.le_mul_of_pos_right _ (by rw [Ex.xk0];omega);exact x4r (fun h=>(w9o _ m0 m1 h).mono (by omega)) (x4r (fun h=>(x9q _ m0 m1 h).mono (by omega)) (fun h=>(xd6 _ m0 m1 h).mono (by omega)))
theorem yvy (a:List Rat):dot a []=0:=by cases a<;>rfl
theorem zen:∀{a b vs:List Rat},a.length=b.length->dot (List.zipWith (· + ·) a b) vs=dot a vs+dot b vs
 | [],[],vs,_=>by rw [List.zipWith_nil_left,vp4,Rat.add_zero]
 | x::a,y::b,[],_=>by simp only [yvy,Rat.add_zero]
 | x::a,y::b,v::vs,h=>by
  rw [List.zipWith_cons_cons,wkb,wkb,wkb,zen (by simpa using h)];grind
theorem x17:∀{a b vs:List Rat},a.length=b.length->dot (List.zipWith (· - ·) a b) vs=dot a vs-dot b vs
 | [],[],vs,_=>by rw [List.zipWith_nil_left,vp4];grind
 | x::a,y::b,[],_=>by simp only [yvy];grind
 | x::a,y::b,v::vs,h=>by
  rw [List.zipWith_cons_cons,wkb,wkb,wkb,x17 (by simpa using h)];grind
theorem zo9 (y:Rat):∀ a vs:List Rat,dot (a.map fun q=>q*y) vs=dot a vs*y
 | [],vs=>by rw [List.map_nil,vp4,Rat.zero_mul]
 | x::a,[]=>by rw [yvy,yvy,Rat.zero_mul]
 | x::a,v::vs=>by
  rw [List.map_cons,wkb,wkb,zo9 y a vs];grind
theorem vcw:∀{a:List Rat} (vs:List Rat),(∀ q∈a,q=0)->dot a vs=0
 | [],vs,_=>vp4 vs
 | x::a,[],_=>yvy _
 | x::a,v::vs,h=>by
  rw [wkb,h x (by simp),vcw vs (fun q hq=>h q (by simp [hq])),Rat.zero_mul,Rat.add_zero]
def subL (m:Nat) (g:List Fm) (l:List Rat):List Rat:=(List.range m).map fun k=>dot l (g.map fun f=>f.2.getD k 0)
def subC (g:List Fm) (l:List Rat) (c:Rat):Rat:=c+dot l (g.map (·.1))
def subT (m:Nat) (g:List Fm) (x:Th):Th:=⟨x.t,x.i,x.c.map (subC g x.l),bif x.t then [] else subL m g x.l⟩
theorem zdi (m:Nat) (g:List Fm) (l:List Rat):(subL m g l).length=m:=by unfold subL;rw [List.length_map,List.length_range]
theorem yxp {m:Nat} {g:List Fm} {a b:List Rat} (h:a.length=b.length):subL m g (List.zipWith (· + ·) a b)=List.zipWith (· + ·) (subL m g a) (subL m g b):=by
 apply List.ext_getElem
 . rw [List.length_zipWith,zdi,zdi,zdi,Nat.min_self]
 . intro i h1 h2;rw [List.getElem_zipWith];unfold subL;simp only [List.getElem_map,zen h]
theorem x04 {m:Nat} {g:List Fm} {a b:List Rat} (h:a.length=b.length):subL m g (List.zipWith (· - ·) a b)=List.zipWith (· - ·) (subL m g a) (subL m g b):=by
 apply List.ext_getElem
 . rw [List.length_zipWith,zdi,zdi,zdi,Nat.min_self]
 . intro i h1 h2;rw [List.getElem_zipWith];unfold subL;simp only [List.getElem_map,x17 h]
theorem yrh (m:Nat) (g:List Fm) (y:Rat) (a:List Rat):subL m g (a.map fun q=>q*y)=(subL m g a).map fun q=>q*y:=by
 unfold subL;rw [List.map_map];exact List.map_congr_left (fun k _=>zo9 y a _)
theorem vxg {m:Nat} {g:List Fm} {a:List Rat} (h:∀ q∈a,q=0):subL m g a=List.replicate m 0:=by
 apply List.ext_getElem
 . rw [zdi,List.length_replicate]
 . intro i h1 h2;simp only [subL,List.getElem_map,List.getElem_replicate,vcw _ h]
theorem y0e {g:List Fm} {a:List Rat} (h:∀ q∈a,q=0) (c:Rat):subC g a c=c:=by unfold subC;rw [vcw _ h,Rat.add_zero]
theorem all_zero {l:List Rat}:l.all (fun q=>decide (q=0))=true↔∀ q∈l,q=0:=by simp only [List.all_eq_true,decide_eq_true_eq]
theorem xt1 {m:Nat} {g:List Fm} {x:Th} (h:x.con=true):(subT m g x).con=true/\(subT m g x).c=x.c/\(subT m g x).l=List.replicate m 0:=by
 obtain ⟨h1,h2⟩:=wmy h
 have e:(subT m g x).l=List.replicate m 0:=by show (bif x.t then [] else subL m g x.l)=_;rw [h1,cond_false,vxg h2]
 refine ⟨?_,?_,e⟩
 . unfold Th.con;rw [e,show (subT m g x).t=false from h1,all_zero.2 (fun q hq=>List.eq_of_mem_replicate hq)];rfl
 . show x.c.map (subC g x.l)=x.c
   cases x.c with
   | none=>rfl
   | some c=>show some _=_;rw [y0e h2]
theorem zv5 (n m:Nat) (g:List Fm) (v:Option Rat):subT m g (numA n v)=numA m v:=by
 have h:∀ q∈(numA n v).l,q=0:=fun q hq=>List.eq_of_mem_replicate hq
 unfold subT;show Th.mk false false (v.map (subC g (numA n v).l)) (subL m g (numA n v).l)=_;rw [vxg h]
 cases v with
 | none=>rfl
 | some c=>show Th.mk false false (some _) _=_;rw [y0e h];rfl
theorem x9g {m:Nat} {g:List Fm} {a:Th} (ht:a.t=false) {y:Rat}:subT m g (timA a (some y))=timA (subT m g a) (some y):=by
 unfold subT timA;simp only [ht,cond_false];show Th.mk false false ((mulO a.c (some y)).map (subC g (a.l.map fun q=>q*y))) (subL m g (a.l.map fun q=>q*y))=Th.mk false false (mulO (a.c.map (subC g a.l)) (some y)) ((subL m g a.l).map fun q=>q*y);rw [yrh]
 cases a.c with
 | none=>rfl
 | some c=>
  show Th.mk false false (some (subC g _ (c*y))) _=Th.mk false false (some (subC g a.l c*y)) _;unfold subC;rw [zo9]
  congr 2
  grind
theorem xrl {m:Nat} {g:List Fm} {a b:Th} (h1:a.t=false) (h2:b.t=false) (hl:a.l.length=b.l.length):subT m g (addA a b)=addA (subT m g a) (subT m g b):=by
 unfold subT addA;simp only [h1,h2,cond_false];rw [yxp hl]
 cases a.c with
 | none=>rfl
 | some x=>cases b.c with
  | none=>rfl
  | some y=>
   show Th.mk false false (some (subC g _ (x+y))) _=Th.mk false false (some (subC g a.l x+subC g b.l y)) _;unfold subC;rw [zen hl]
   congr 2
   grind
theorem vva {m:Nat} {g:List Fm} {a b:Th} (h1:a.t=false) (h2:b.t=false) (hl:a.l.length=b.l.length):subT m g (subA a b)=subA (subT m g a) (subT m g b):=by
 unfold subT subA;simp only [h1,h2,cond_false];rw [x04 hl]
 cases a.c with
 | none=>rfl
 | some x=>cases b.c with
  | none=>rfl
  | some y=>
   show Th.mk false false (some (subC g _ (x-y))) _=Th.mk false false (some (subC g a.l x-subC g b.l y)) _;unfold subC;rw [x17 hl]
   congr 2
   grind
theorem zmy (m:Nat) (y:Rat):(List.replicate m (0:Rat)).map (fun q=>q*y)=List.replicate m 0:=by rw [List.map_replicate,Rat.zero_mul]
theorem yhc {n B C m:Nat} {g:List Fm} {o:Int} (ho:o=8\/o=9) {a b:Th} (ha:a.G n B) (hb:b.G n C) (h:(scaA o a b).2=0):scaA o (subT m g a) (subT m g b)=(subT m g (scaA o a b).1,0):=by
 unfold scaA at h ⊢;have h1':(subT m g a).t=a.t:=rfl;have h2':(subT m g b).t=b.t:=rfl
 cases ha':a.t with
 | true=>rw [ha'] at h;exact absurd h (by simp)
 | false=>cases hb':b.t with
  | true=>rw [ha',hb'] at h;exact absurd h (by simp)
  | false=>
   obtain ⟨_,_,⟨p,pa,_⟩,_⟩:=ha.form ha';obtain ⟨_,_,⟨q,pb,_⟩,_⟩:=hb.form hb';rw [ha',hb'] at h;rw [h1',h2',ha',hb']
   cases hcb:b.con with
   | true=>
    obtain ⟨k1,k2,_⟩:=xt1 (m:=m) (g:=g) hcb;rw [hcb] at h;rw [k1,k2];simp only [Bool.not_true,Bool.false_and,Bool.or_false,cond_false,Bool.and_false] at h ⊢;by_cases h9:o=9
    . rw [decide_eq_true h9,cond_true] at h ⊢;by_cases hd:¬divE (some ((1:Int):Rat)) b.c=0
      . rw [decide_eq_true hd] at h;exact absurd (show (15:Int)=0 from h) (by decide)
      . obtain ⟨y,e1,_,e2⟩:=yz3 hd;rw [decide_eq_false hd,e2];simp only [cond_true,cond_false,x9g ha']
    . rw [decide_eq_false h9];rw [pb];simp only [cond_false,x9g ha']
   | false=>
    rw [hcb] at h
    cases hca:a.con with
    | false=>rw [hca] at h;exact absurd h (by cases decide (o=9)<;>simp)
    | true=>
     rw [hca] at h;obtain ⟨k1,k2,k3⟩:=xt1 (m:=m) (g:=g) hca;rw [k1]
     rcases ho with rfl | rfl
     . simp only [Bool.not_true,Bool.not_false,Bool.or_false,show decide ((8:Int)=9)=false from rfl,decide_true,Bool.and_false,cond_false,Bool.true_and,cond_true]
       cases hsb:(subT m g b).con with
       | false=>simp only [Bool.not_false,cond_true,k2];rw [pa,x9g hb']
       | true=>
        simp only [Bool.not_true,cond_false];rw [pa,x9g hb'];have hz:=(wmy hsb).2
        have hl:(subT m g b).l.length=m:=by show (bif b.t then [] else subL m g b.l).length=m;rw [hb',cond_false,zdi]
        have hl2:(subT m g b).l=List.replicate m 0:=List.eq_replicate_iff.2 ⟨hl,hz⟩
        have hc:(subT m g b).c=some (subC g b.l q):=by show b.c.map _=_;rw [pb];rfl
        unfold timA;rw [k2,pa,hc,k3,hl2];show (Th.mk false false (some (p*subC g b.l q)) _,(0:Int))=(Th.mk false false (some (subC g b.l q*p)) _,0);rw [Rat.mul_comm p,zmy,zmy]
     . exact absurd h (by simp)
theorem zv3 {n B C m:Nat} {g:List Fm} {o:Int} {a b:Th} (ha:a.G n B) (hb:b.G n C) (h:(sumA o a b).2=0):sumA o (subT m g a) (subT m g b)=(subT m g (sumA o a b).1,0):=by
 unfold sumA at h ⊢;have h1':(subT m g a).t=a.t:=rfl;have h2':(subT m g b).t=b.t:=rfl
 cases ha':a.t with
 | true=>rw [ha'] at h;exact absurd h (by simp)
 | false=>cases hb':b.t with
  | true=>rw [ha',hb'] at h;exact absurd h (by simp)
  | false=>
   have hl:a.l.length=b.l.length:=by rw [(ha.form ha').2.1,(hb.form hb').2.1]
   rw [h1',h2',ha',hb']
   cases decide (o=7) with
   | true=>simp only [Bool.or_self,cond_false,cond_true,vva ha' hb' hl]
   | false=>simp only [Bool.or_self,cond_false,xrl ha' hb' hl]
theorem vzc {m:Nat} {g:List Fm} {o:Int} {a b:Th} (h:(cmpA o a b).2=0):cmpA o (subT m g a) (subT m g b)=(subT m g (cmpA o a b).1,0):=by
 unfold cmpA at h ⊢
 cases hca:a.con with
 | false=>rw [hca] at h;exact absurd h (by simp)
 | true=>cases hcb:b.con with
  | false=>rw [hca,hcb] at h;exact absurd h (by simp)
  | true=>
   obtain ⟨k1,k2,_⟩:=xt1 (m:=m) (g:=g) hca;obtain ⟨l1,l2,_⟩:=xt1 (m:=m) (g:=g) hcb;rw [k1,l1,k2,l2];simp only [Bool.not_true,Bool.or_self,cond_false]
   cases decide (o=12) with
   | true=>rfl
   | false=>cases decide (o=13) with
    | true=>rfl
    | false=>cases (decide (o=10)==decide (cmpO a.c b.c<=0))<;>rfl
theorem xc1 (m:Nat) (g:List Fm) (l:List Th) (k:Nat):((l.map (subT m g)).getD k default).i=(l.getD k default).i:=by
 rw [List.getD_eq_getElem?_getD,List.getD_eq_getElem?_getD,List.getElem?_map]
 cases l[k]?<;>rfl
theorem zf7 {m:Nat} {g:List Fm} {o:Int} {l:List Th} (h:(logA o l).2=0):logA o (l.map (subT m g))=(subT m g (logA o l).1,0):=by
 unfold logA at h ⊢
 have e:(l.map (subT m g)).any (fun t=>!t.t)=l.any (fun t=>!t.t):=by rw [List.any_map];rfl
 rw [e]
 cases ha:l.any (fun t=>!t.t) with
 | true=>rw [ha] at h;exact absurd (show (13:Int)=0 from h) (by decide)
 | false=>
  simp only [cond_false,xc1];rfl
theorem v4b {n m:Nat} {g:List Fm} {T:Vt} {s:ByteArray} {k:Th} (h:(xu8 n T s k).2=0):xu8 m T s (subT m g k)=(subT m g (xu8 n T s k).1,0):=by
 unfold xu8 at h ⊢
 cases hl:z2f T s with
 | none=>rw [hl] at h;exact absurd (show (11:Int)=0 from h) (by decide)
 | some t=>
  rw [hl] at h;simp only at h ⊢
  cases hk:k.con with
  | false=>rw [hk] at h;exact absurd h (by simp)
  | true=>
   obtain ⟨k1,k2,_⟩:=xt1 (m:=m) (g:=g) hk;rw [hk] at h;rw [k1,k2];simp only [Bool.not_true,cond_false] at h ⊢;by_cases hd:¬(xwc t k.c).2=0
   . rw [decide_eq_true hd] at h;exact absurd h hd
   . rw [decide_eq_false hd];simp only [cond_false,zv5]
theorem y9h {α:Type} {m:Nat} {g:List Fm} {f f':α->Th×Int}:∀{l:List α} {rs:List Th},(∀ y∈l,(f y).2=0->f' y=(subT m g (f y).1,0))->seqA (l.map f)=.inr rs->seqA (l.map f')=.inr (rs.map (subT m g))
 | [],rs,_,h=>by rw [List.map_nil,seqA] at h;cases h;rfl
 | y::l,rs,hy,h=>by
  rw [List.map_cons] at h;generalize hf:f y=p at h;obtain ⟨r,e⟩:=p;rw [seqA] at h;by_cases he:e=0
  . subst he;simp only [not_true_eq_false,decide_false,cond_false] at h
    cases hs:seqA (l.map f) with
    | inl e=>rw [hs] at h;cases h
    | inr r2=>
     rw [hs] at h;cases h;have h1:=hy y (by simp) (by rw [hf]);rw [List.map_cons,h1,seqA,y9h (fun z hz=>hy z (by simp [hz])) hs,hf];rfl
  . rw [decide_eq_true he] at h;cases h
theorem wav {x:Ex} (h:xes x=true) (hne:x.args.length≠0) (h2:x.op≠2) (h3:x.op≠3) (h5:x.op≠5):(x.op=4/\x.args.length=1)\/(6<=x.op/\x.op<=15/\x.args.length=2):=by
 unfold xes at h;by_cases a0:x.op=0
 . rw [decide_eq_true a0,cond_true] at h;simp only [Bool.and_eq_true,decide_eq_true_eq] at h;omega
 rw [decide_eq_false a0,cond_false] at h
 cases hb:(decide (¬x.n=0)||decide (¬x.unit.size=0)) with
 | true=>rw [hb,cond_true] at h;cases h
 | false=>
 rw [hb,cond_false] at h;by_cases a1:x.op=1
 . rw [decide_eq_true a1,cond_true] at h;simp only [Bool.and_eq_true,decide_eq_true_eq] at h;omega
 rw [decide_eq_false a1,decide_eq_false h2,decide_eq_false h3] at h;simp only [cond_false] at h;by_cases a4:x.op=4
 . rw [decide_eq_true a4] at h;simp only [cond_true,Bool.and_eq_true,decide_eq_true_eq] at h;omega
 rw [decide_eq_false a4,decide_eq_false h5] at h;simp only [cond_false] at h;by_cases a6:x.op=10\/x.op=11
 . rw [show (decide (x.op=10)||decide (x.op=11))=true by rcases a6 with h | h<;>simp [h]] at h;simp only [cond_true,Bool.and_eq_true,decide_eq_true_eq] at h;omega
 rw [decide_eq_false (fun h=>a6 (.inl h)),decide_eq_false (fun h=>a6 (.inr h))] at h;simp only [Bool.or_self,cond_false,Bool.and_eq_true] at h;have h7:=h.1.1;unfold isOp at h7;simp only [Bool.or_eq_true,decide_eq_true_eq] at h7 h;omega
theorem we1 {n m B:Nat} {V V':Va} {T:Vt} {g:List Fm} (hB:4300<=B) (hV:Asm n B V) (hV':∀ s,z2f V' s=(z2f V s).map fun f=>(subC g f.2 f.1,subL m g f.2)) :
 ∀ x:Ex,x.shaped=true->x.wqm=false->(x.aff n V T).2=0->x.aff m V' T=(subT m g (x.aff n V T).1,0):=by
 refine Ex.ind (fun x ih hsh hcl=>?_);have hG:=xni (T:=T) hB hV;rw [Ex.ypb,Bool.and_eq_true,List.all_eq_true] at hsh;rw [Ex.xrx,Bool.or_eq_false_iff,decide_eq_false_iff_not,List.any_eq_false] at hcl;obtain ⟨hnode,hargs⟩:=hsh
 have ih':∀ y∈x.args,(y.aff n V T).2=0->y.aff m V' T=(subT m g (y.aff n V T).1,0):=fun y hy=>ih y hy (hargs y hy) (by simpa using hcl.2 y hy)
 rw [Ex.xpb,Ex.xpb];by_cases h0:x.op=0
 . rw [decide_eq_true h0,cond_true,cond_true];unfold wfn
   cases decide (¬(xx7 x.unit).2=0) with
   | true=>exact fun h=>absurd (show (14:Int)=0 from h) (by decide)
   | false=>exact fun _=>by simp only [cond_false,zv5]
 rw [decide_eq_false h0,cond_false,cond_false];by_cases h01:x.op=1
 . rw [decide_eq_true h01,cond_true,cond_true];unfold x5a;rw [hV' x.name]
   cases z2f V x.name with
   | none=>exact fun h=>absurd (show (11:Int)=0 from h) (by decide)
   | some f=>exact fun _=>rfl
 rw [decide_eq_false h01,cond_false,cond_false]
 have hne:x.args.length≠0:=fun h=>by
  unfold xes at hnode;rw [decide_eq_false h0,decide_eq_false h01,h] at hnode;simp at hnode
 obtain ⟨hl2,hl3⟩:=zd3 hnode hcl.1 hne;by_cases h5:x.op=5
 . rw [decide_eq_true h5,cond_true,cond_true];have hl:=hl3 h5;unfold chA;rw [getD_map (show 0<x.args.length by omega),getD_map (show 1<x.args.length by omega),getD_map (show 2<x.args.length by omega),getD_map (show 0<x.args.length by omega),getD_map (show 1<x.args.length by omega),getD_map (show 2<x.args.length by omega)];have i0:=ih' _ (y7p (show 0<x.args.length by omega));have i1:=ih' _ (y7p (show 1<x.args.length by omega));have i2:=ih' _ (y7p (show 2<x.args.length by omega));by_cases hc:¬((x.args.getD 0 default).aff n V T).2=0
   . rw [decide_eq_true hc];exact fun h=>absurd h hc
   . have hc':=Classical.not_not.1 hc;rw [decide_eq_false hc,i0 hc'];simp only [cond_false,not_true_eq_false,decide_false];show _->(bif !((x.args.getD 0 default).aff n V T).1.t then _ else bif ((x.args.getD 0 default).aff n V T).1.i then _ else _)=_
     cases ((x.args.getD 0 default).aff n V T).1.t with
     | false=>exact fun h=>absurd (show (13:Int)=0 from h) (by decide)
     | true=>
      simp only [Bool.not_true,cond_false]
      cases ((x.args.getD 0 default).aff n V T).1.i with
      | true=>exact i1
      | false=>exact i2
 rw [decide_eq_false h5,cond_false,cond_false]
 cases hs:seqA (x.args.map (Ex.aff n V T)) with
 | inl e=>exact fun h=>absurd h (wiy hs)
 | inr rs=>
  rw [y9h ih' hs];obtain ⟨hlen,hget⟩:=z8d hs;rw [List.length_map] at hlen hget;show (opA n T x.op x.name rs).2=0->opA m T x.op x.name (rs.map (subT m g))=(subT m g (opA n T x.op x.name rs).1,0);unfold opA;have r0:(rs.map (subT m g)).getD 0 default=subT m g (rs.getD 0 default):=getD_map (by omega);rw [r0];by_cases h2:x.op=2
  . rw [decide_eq_true h2,cond_true,cond_true];exact v4b
  rw [decide_eq_false h2,cond_false,cond_false]
  cases hlg:decide (x.op=4)||decide (x.op=14)||decide (x.op=15) with
  | true=>exact zf7
  | false=>
   rw [cond_false,cond_false]
   have h4:x.op≠4:=fun h=>by rw [decide_eq_true h] at hlg;simp at hlg
   have hl:=hl2 h2 h4;have r1:(rs.map (subT m g)).getD 1 default=subT m g (rs.getD 1 default):=getD_map (by omega);rw [r1]
   have g0:(rs.getD 0 default).G n (B*(x.args.getD 0 default).nd-5):=by
    have h1:=hget 0 (by omega);rw [getD_map (show 0<x.args.length by omega)] at h1;have hm:=y7p (show 0<x.args.length by omega)
    have:=hG _ (hargs _ hm) (by simpa using hcl.2 _ hm) (by rw [h1])
    rwa [h1] at this
   have g1:(rs.getD 1 default).G n (B*(x.args.getD 1 default).nd-5):=by
    have h1:=hget 1 (by omega);rw [getD_map (show 1<x.args.length by omega)] at h1;have hm:=y7p (show 1<x.args.length by omega)
    have:=hG _ (hargs _ hm) (by simpa using hcl.2 _ hm) (by rw [h1])
    rwa [h1] at this
   by_cases h8:x.op=8\/x.op=9
   . rw [show (decide (x.op=8)||decide (x.op=9))=true by rcases h8 with h | h<;>simp [h],cond_true,cond_true];exact yhc h8 g0 g1
   . rw [show (decide (x.op=8)||decide (x.op=9))=false by simp only [Bool.or_eq_false_iff,decide_eq_false_iff_not];exact ⟨fun h=>h8 (.inl h),fun h=>h8 (.inr h)⟩,cond_false,cond_false]
     cases decide (x.op=6)||decide (x.op=7) with
     | true=>exact zv3 g0 g1
     | false=>exact vzc
end Go.Hp.T
