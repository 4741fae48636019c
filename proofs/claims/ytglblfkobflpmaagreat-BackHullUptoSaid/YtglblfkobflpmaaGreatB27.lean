/- The proof, part B27: Ke, Lj, Lk, Ll, Kg, Nc, Na. -/
import Derived.Test.YtglblfkobflpmaaGreatB26
import Derived.Test.YtglblfkobflpmaaGreatB25
import Derived.Test.YtglblfkobflpmaaGreatB24
import Derived.Test.YtglblfkobflpmaaGreatB19
namespace Go.Hp.T
open Go Go.RowKit Go.Slot Go.Hp Go.Slot.T
open Go.Proofs.Tryz (prog)
attribute [local irreducible] hide RH
set_option maxRecDepth 10000
set_option maxHeartbeats 8000000
variable {Γ:List (Nat×List Cell)}
def fewF (l:List Fc) (n:Nat):Prop:=l.length<=n/\∀ f∈l,f.sz<=4
instance (l:List Fc) (n:Nat):Decidable (fewF l n):=inferInstanceAs (Decidable (_/\_))
def fewC (f:Af) (l:List Sc):Prop:=l.length<=8/\(∀ s∈l,s.sz<=4)/\f.c.sz<=4/\fewF f.l 8
instance (f:Af) (l:List Sc):Decidable (fewC f l):=inferInstanceAs (Decidable (_/\_/\_/\_))
theorem wd2 {α:Type} {p:α->Prop} {l:List α} {i:Nat} (d:α) (h:∀ x∈l.take i,p x) (hi:i<l.length) (hx:p (l.getD i d)):∀ x∈l.take (i+1),p x:=by
 rw [x4e d hi];intro x hx'
 rcases List.mem_append.1 hx' with h' | h'
 . exact h x h'
 . simp at h';subst h';simpa using hx
theorem vmw (l:List Fc) (n:Nat) (hn:n<=1048576) (_hl:l.length<=1048576) (hs:∀ f∈l,f.sz<=67108864) :
 CallsD Γ prog 24 [.one (.sl 4 (l.map Fc.C)),.one (.raw (.int .i64 n))] (.one (.raw (.bool (decide (fewF l n))))):=by
 obtain ⟨r,hr⟩:∃ r,r=decide (fewF l n):=⟨_,rfl⟩;rw [<-hr]
 have bad:¬fewF l n->false=r:=fun h=>by rw [hr,decide_eq_false h]
 refine CallsD.run [] Go.Proofs.Tryz.func24 rfl rfl rfl ?_;simp only [Go.Proofs.Tryz.f24];refine hgR ?_;refine x20 [0,1] (fun i:Nat=>[(5,.one (.dat (cI (i))))]) (fun _=>[]) (fun i=>i<=l.length/\∀ f∈l.take i,f.sz<=4) (fun i=>l.length-i) 0 ⟨Nat.zero_le _,by simp⟩ ?_ ?_
 . refine hg ?_;exact StH.same svl rfl
 rintro i ⟨hi,he⟩;refine hg ?_;refine ywj (fun h1 _=>?_) (fun h1 _=>?_)
 . have h1':=decide_eq_true h1;refine hg1 @h1' ?_;refine vt2 (fun h2 _=>?_) (fun h2 _=>?_)
   . have hb:=zmm hs (show i<l.length by omega);have hbl:=szL hb;refine hg ?_
     first | refine wml (xlr (l.getD i Fc.zero) (by omega) (by omega)) ?_ | refine ysi (xlr (l.getD i Fc.zero) (by omega) (by omega)) ?_
     refine hg ?_;refine zub (fun h3=>?_) (fun h3=>?_)
     . have h3:¬(l.getD i Fc.zero).sz<=4:=by simpa using h3
       refine hg ?_;exact (by rw [bad (fun h=>h3 (zmm h.2 (by omega)))];exact .one (.refl _))
     . have h3:(l.getD i Fc.zero).sz<=4:=by simpa using h3
       refine hg ?_;exact ⟨i+1,⟨by omega,wd2 Fc.zero he (by omega) h3⟩,by omega,StH.same svl rfl⟩
   . refine hg ?_;exact (by rw [decide_eq_false (by omega),bad (fun h=>by have:=h.1;omega)];exact .one (.refl _))
 . have h1':=decide_eq_false h1
   have hi':i=l.length:=by omega
   rw [hi',List.take_length] at he;refine hg1 @h1' ?_;exact (by rw [hr,show decide ((l.length:Int)<=n)=decide (fewF l n) from decide_eq_decide.2 ⟨fun h=>⟨by omega,he⟩,fun h=>by have:=h.1;omega⟩];exact .one (.refl _))
theorem zhl (f:Af) (l:List Sc) (h1:f.l.length<=1048576) (h2:l.length<=1048576) (h3:f.le 67108864) (h4:∀ s∈l,s.sz<=67108864) :
 CallsD Γ prog 6 [.agg f.C,.one (.sl 8 (l.map Sc.C))] (.one (.raw (.bool (decide (fewC f l))))):=by
 obtain ⟨r,hr⟩:∃ r,r=decide (fewC f l):=⟨_,rfl⟩;rw [<-hr]
 have bad:¬fewC f l->false=r:=fun h=>by rw [hr,decide_eq_false h]
 have lc:=szL h3.1;refine CallsD.run [] Go.Proofs.Tryz.func6 rfl rfl rfl ?_;simp only [Go.Proofs.Tryz.f6];refine hgR ?_;refine x20 [1,2] (fun i:Nat=>[(5,.one (.dat (cI (i))))]) (fun _=>[.box [.dat (.raw (.int .i64 f.c.s)),.dat (.ints .i64 f.c.L),.dat (.raw (.int .i64 f.c.t)),.dat (.ints .i64 f.c.M),.dat (.sl 4 (f.l.map Fc.C))] (some 37)]) (fun i=>i<=l.length/\∀ s∈l.take i,s.sz<=4) (fun i=>l.length-i) 0 ⟨Nat.zero_le _,by simp⟩ ?_ ?_
 . refine hg ?_;exact StH.same svl rfl
 rintro i ⟨hi,he⟩;refine hg ?_;refine ywj (fun h1 _=>?_) (fun h1 _=>?_)
 . have h1':=decide_eq_true h1;refine hg1 @h1' ?_;refine vt2 (fun h2 _=>?_) (fun h2 _=>?_)
   . have hb:=xxi h4 (show i<l.length by omega);refine hg ?_
     first | refine wml (zz0 (l.getD i Sc.zero) hb) ?_ | refine ysi (zz0 (l.getD i Sc.zero) hb) ?_
     refine hg ?_;refine zub (fun h3=>?_) (fun h3=>?_)
     . have h3:¬(l.getD i Sc.zero).sz<=4:=by simpa using h3
       refine hg ?_;exact (by rw [bad (fun h=>h3 (xxi h.2.1 (by omega)))];exact .one (.refl _))
     . have h3:(l.getD i Sc.zero).sz<=4:=by simpa using h3
       refine hg ?_;exact ⟨i+1,⟨by omega,wd2 Sc.zero he (by omega) h3⟩,by omega,StH.same svl rfl⟩
   . have h5:¬(l.length:Int)<=8:=by omega
     refine hg ?_;refine ywj (fun h _=>absurd h h5) (fun _ _=>?_);have h5':=decide_eq_false h5;refine hg1 @h5' ?_;exact (by rw [bad (fun h=>by have:=h.1;omega)];exact .one (.refl _))
 . have h1':=decide_eq_false h1
   have hi':i=l.length:=by omega
   rw [hi',List.take_length] at he;refine hg1 @h1' ?_;refine ywj (fun h5 _=>?_) (fun h5 _=>?_)
   . have h5':=decide_eq_true h5;refine hg1 @h5' ?_
     first | refine wml (xlr f.c (by omega) (by omega)) ?_ | refine ysi (xlr f.c (by omega) (by omega)) ?_
     refine hg ?_;by_cases h6:f.c.sz<=4
     . refine v4c (fun _=>?_) (fun h=>by rw [decide_eq_true h6] at h;cases h);have h6':=decide_eq_true h6;refine hg1 @h6' ?_
       first | refine wml (vmw f.l 8 (by decide) (by omega) h3.2) ?_ | refine ysi (vmw f.l 8 (by decide) (by omega) h3.2) ?_
       refine hg ?_;exact (by rw [hr,show decide (fewC f l)=decide (fewF f.l 8) from decide_eq_decide.2 ⟨fun h=>h.2.2.2,fun h=>⟨by omega,he,h6,h⟩⟩];exact .one (.refl _))
     . refine v4c (fun h=>by rw [decide_eq_false h6] at h;cases h) (fun _=>?_);have h6':=decide_eq_false h6;refine hg1 @h6' ?_;exact (by rw [bad (fun h=>h6 h.2.2.1)];exact .one (.refl _))
   . have h5':=decide_eq_false h5;refine hg1 @h5' ?_;exact (by rw [bad (fun h=>by have:=h.1;omega)];exact .one (.refl _))
theorem zri (a b:List Fc) (la:a.length<=1048576) (_lb:b.length<=1048576) (ha:∀ f∈a,f.sz<=67108864) (hb:∀ f∈b,f.sz<=67108864) :
 CallsD Γ prog 19 [.one (.sl 4 (a.map Fc.C)),.one (.sl 4 (b.map Fc.C))] (.one (.raw (.bool (decide (a=b))))):=by
 obtain ⟨r,hr⟩:∃ r,r=decide (a=b):=⟨_,rfl⟩;rw [<-hr]
 have bad:¬a=b->false=r:=fun h=>by rw [hr,decide_eq_false h]
 refine CallsD.run [] Go.Proofs.Tryz.func19 rfl rfl rfl ?_;simp only [Go.Proofs.Tryz.f19];refine hgR ?_;refine vt2 (fun h _=>?_) (fun h _=>?_)
 . refine hg ?_;exact (by rw [bad (fun e=>h (by rw [e]))];exact .one (.refl _))
 have hl:a.length=b.length:=by omega
 refine hg ?_;refine x20 [0,1] (fun i:Nat=>[(5,.one (.dat (cI (i))))]) (fun _=>[]) (fun i=>i<=a.length/\a.take i=b.take i) (fun i=>a.length-i) 0 ⟨Nat.zero_le _,rfl⟩ ?_ ?_
 . refine hg ?_;exact StH.same svl rfl
 rintro i ⟨hi,he⟩;refine hg ?_;refine vt2 (fun h1 _=>?_) (fun h1 _=>?_)
 . have hi1:i<a.length:=by omega
   have hi2:i<b.length:=by omega
   refine hg ?_
   first | refine wml (xz0 (a.getD i Fc.zero) (b.getD i Fc.zero) (zmm ha hi1) (zmm hb hi2)) ?_ | refine ysi (xz0 (a.getD i Fc.zero) (b.getD i Fc.zero) (zmm ha hi1) (zmm hb hi2)) ?_
   refine hg ?_;refine hik ?_;refine hg ?_;by_cases h2:a.getD i Fc.zero=b.getD i Fc.zero
   . refine zub (fun h=>absurd h2 (of_decide_eq_true h)) (fun _=>?_);refine hg ?_;refine ⟨i+1,⟨by omega,?_⟩,by omega,StH.same svl rfl⟩;rw [x4e Fc.zero hi1,x4e Fc.zero hi2,he,h2]
   . refine zub (fun _=>?_) (fun h=>absurd h2 (of_decide_eq_false h));refine hg ?_;exact (by rw [bad (fun e=>h2 (by rw [e]))];exact .one (.refl _))
 . have hi':i=a.length:=by omega
   rw [hi',List.take_length,hl,List.take_length] at he
   have e:true=r:=by rw [hr,decide_eq_true he]
   refine hg ?_;exact (by rw [e];exact .one (.refl _))
end Go.Hp.T
namespace Go.Slot
open Go Go.RowKit Go.Slot.T
namespace Sc
def of (p:Rat×Rat):Sc:=⟨Fc.of p.1,Fc.of p.2⟩
end Sc
theorem xg5 (r:Rat):sg r.num<0↔r<0:=by
 rw [Rat.lt_iff];simp only [Rat.zero_num,Rat.zero_den]
 rcases vvv r.num with ⟨h,e⟩ | ⟨h,e⟩ | ⟨h,e⟩<;>rw [e]<;>omega
theorem yhx (r:Rat):0<=sg r.num↔0<=r:=by
 have:=xg5 r
 rw [<-Rat.not_lt,<-this];omega
theorem zkr (x y:Rat):Fc.ordQ x y<=0↔x<=y:=by
 rcases Fc.yyw x y with ⟨h,e⟩ | ⟨h,e⟩ | ⟨h,e⟩<;>rw [e]
 . exact ⟨fun _=>Rat.le_of_lt h,fun _=>by decide⟩
 . exact ⟨fun _=>by rw [h];exact Rat.le_refl,fun _=>by decide⟩
 . exact ⟨fun h'=>absurd h' (by decide),fun h'=>absurd h (Rat.not_lt.2 h')⟩
theorem vfh (x y:Rat):0<Fc.ordQ x y↔y<x:=by
 have:=zkr x y
 rw [<-Rat.not_le,<-this];omega
theorem yxg (x y:Rat):0<=Fc.ordQ x y↔y<=x:=by
 rcases Fc.yyw x y with ⟨h,e⟩ | ⟨h,e⟩ | ⟨h,e⟩<;>rw [e]
 . exact ⟨fun h'=>absurd h' (by decide),fun h'=>absurd h (Rat.not_lt.2 h')⟩
 . exact ⟨fun _=>by rw [h];exact Rat.le_refl,fun _=>by decide⟩
 . exact ⟨fun _=>Rat.le_of_lt h,fun _=>by decide⟩
theorem Sc.xd3 (p:Rat×Rat):(Sc.of p).ok↔p.1<=p.2:=by
 unfold Sc.ok Sc.of;rw [Fc.w7n,zkr];exact ⟨fun h=>h.2.2,fun h=>⟨Fc.xd3 _,Fc.xd3 _,h⟩⟩
theorem Sc.vy4 {s:Sc} (h:s.ok):∃ p:Rat×Rat,s=Sc.of p/\p.1<=p.2:=by
 obtain ⟨x,hx⟩:=Fc.vy4 h.1;obtain ⟨y,hy⟩:=Fc.vy4 h.2.1
 have e:s=Sc.of (x,y):=by cases s;simp only at hx hy;rw [hx,hy];rfl
 exact ⟨(x,y),e,(Sc.xd3 _).1 (e▸h)⟩
theorem yl3 (qs:List Rat):oks (qs.map Fc.of):=fun f hf=>by
 obtain ⟨r,_,rfl⟩:=List.mem_map.1 hf;exact Fc.xd3 r
theorem x7l:∀{l:List Fc},oks l->∃ qs:List Rat,l=qs.map Fc.of
 | [],_=>⟨[],rfl⟩
 | f::l,h=>by
  obtain ⟨r,hr⟩:=Fc.vy4 (h f (by simp));obtain ⟨qs,hq⟩:=x7l (fun g hg=>h g (by simp [hg]):oks l);exact ⟨r::qs,by rw [hr,hq];rfl⟩
def okP (ps:List (Rat×Rat)):Prop:=∀ p∈ps,p.1<=p.2
theorem ylu (ps:List (Rat×Rat)):okS (ps.map Sc.of)↔okP ps:=by
 constructor
 . intro h p hp;exact (Sc.xd3 p).1 (h _ (List.mem_map.2 ⟨p,hp,rfl⟩))
 . intro h s hs;obtain ⟨p,hp,rfl⟩:=List.mem_map.1 hs;exact (Sc.xd3 p).2 (h p hp)
theorem xct:∀{l:List Sc},okS l->∃ ps:List (Rat×Rat),l=ps.map Sc.of/\okP ps
 | [],_=>⟨[],rfl,fun p hp=>by cases hp⟩
 | s::l,h=>by
  obtain ⟨p,hp,hp'⟩:=Sc.vy4 (h s (by simp));obtain ⟨ps,hq,hq'⟩:=xct (fun g hg=>h g (by simp [hg]):okS l)
  exact ⟨p::ps,by rw [hp,hq];rfl,fun p' h'=>by
   rcases List.mem_cons.1 h' with rfl | h'
   . exact hp'
   . exact hq' p' h'⟩
def Af.of (k:Rat) (cs:List Rat):Af:=⟨Fc.of k,cs.map Fc.of⟩
theorem Af.xd3 (k:Rat) (cs:List Rat) (n:Nat):(Af.of k cs).ok n↔cs.length=n:=by
 unfold Af.ok Af.of;simp only [List.length_map];exact ⟨fun h=>h.1,fun h=>⟨h,Fc.xd3 k,yl3 cs⟩⟩
theorem Af.vy4 {f:Af} {n:Nat} (h:f.ok n):∃ k cs,f=Af.of k cs/\cs.length=n:=by
 obtain ⟨k,hk⟩:=Fc.vy4 h.2.1;obtain ⟨cs,hc⟩:=x7l h.2.2
 have e:f=Af.of k cs:=by cases f;simp only at hk hc;rw [hk,hc];rfl
 exact ⟨k,cs,e,by rw [e] at h;exact (Af.xd3 k cs n).1 h⟩
theorem Bk.vin (k:Rat) (cs:List Rat) (ps:List (Rat×Rat)):Bk.ok (Af.of k cs) (ps.map Sc.of)↔(cs.length=ps.length/\okP ps):=by
 unfold Bk.ok;rw [Af.xd3,ylu,List.length_map]
def sumQ:Rat->List Rat->List Rat->Rat
 | s,c::cs,v::vs=>sumQ (s+c*v) cs vs
 | s,_,_=>s
theorem Af.zvt (r:Rat):Af.copy (Fc.of r)=Fc.of r:=by unfold Af.copy;rw [Fc.xac,Rat.add_zero]
theorem Af.ya6:∀(cs vs:List Rat) (s:Rat),Af.sum (Fc.of s) (cs.map Fc.of) (vs.map Fc.of)=Fc.of (sumQ s cs vs)
 | [],vs,s=>by cases vs<;>rfl
 | c::cs,[],s=>rfl
 | c::cs,v::vs,s=>by
  show Af.sum (Fc.add (Fc.of s) (Fc.mul (Fc.of c) (Fc.of v))) (cs.map Fc.of) (vs.map Fc.of)=_;rw [Fc.x5c,Fc.xac,Af.ya6 cs vs];rfl
theorem Af.vei (k:Rat) (cs vs:List Rat) (h:cs.length=vs.length):(Af.of k cs).at' (vs.map Fc.of)=Fc.of (sumQ k cs vs):=by
 unfold Af.at';rw [if_pos ⟨(Af.xd3 k cs _).2 (by rw [List.length_map,h]),yl3 vs⟩];show Af.sum (Af.copy (Fc.of k)) (cs.map Fc.of) (vs.map Fc.of)=_;rw [Af.zvt,Af.ya6]
theorem ymn:∀(cs vs:List Rat) (s t:Rat),sumQ (s+t) cs vs=s+sumQ t cs vs
 | [],vs,s,t=>by cases vs<;>rfl
 | c::cs,[],s,t=>rfl
 | c::cs,v::vs,s,t=>by
  show sumQ (s+t+c*v) cs vs=s+sumQ (t+c*v) cs vs;rw [Rat.add_assoc,ymn cs vs]
def dot (cs vs:List Rat):Rat:=sumQ 0 cs vs
theorem zh9 (s:Rat) (cs vs:List Rat):sumQ s cs vs=s+dot cs vs:=by
 have:=ymn cs vs s 0
 rwa [Rat.add_zero] at this
theorem vp4 (vs:List Rat):dot [] vs=0:=by cases vs<;>rfl
theorem wkb (c v:Rat) (cs vs:List Rat):dot (c::cs) (v::vs)=c*v+dot cs vs:=by
 show sumQ (0+c*v) cs vs=_;rw [zh9,Rat.zero_add]
def loQ (c:Rat) (p:Rat×Rat):Rat:=if c<0 then p.2 else p.1
def hiQ (c:Rat) (p:Rat×Rat):Rat:=if c<0 then p.1 else p.2
theorem zqx (c:Rat) (p:Rat×Rat):Bk.lo (Fc.of c) (Sc.of p)=Fc.of (loQ c p):=by
 unfold Bk.lo loQ;rw [Fc.w9s];by_cases h:c<0
 . rw [if_pos ((xg5 c).2 h),if_pos h];exact Af.zvt _
 . rw [if_neg (fun h'=>h ((xg5 c).1 h')),if_neg h];exact Af.zvt _
theorem y97 (c:Rat) (p:Rat×Rat):Bk.hi (Fc.of c) (Sc.of p)=Fc.of (hiQ c p):=by
 unfold Bk.hi hiQ;rw [Fc.w9s];by_cases h:c<0
 . rw [if_pos ((xg5 c).2 h),if_pos h];exact Af.zvt _
 . rw [if_neg (fun h'=>h ((xg5 c).1 h')),if_neg h];exact Af.zvt _
theorem wpg {op:Fc->Sc->Fc} {g:Rat->Rat×Rat->Rat} (h:∀ c p,op (Fc.of c) (Sc.of p)=Fc.of (g c p)):∀(cs:List Rat) (ps:List (Rat×Rat)),List.zipWith op (cs.map Fc.of) (ps.map Sc.of)=(List.zipWith g cs ps).map Fc.of
 | [],_=>rfl
 | _::_,[]=>rfl
 | c::cs,p::ps=>by
  simp only [List.map_cons,List.zipWith_cons_cons,h,wpg h cs ps]
def ysk (cs:List Rat) (ps:List (Rat×Rat)):List Rat:=List.zipWith loQ cs ps
def zfn (cs:List Rat) (ps:List (Rat×Rat)):List Rat:=List.zipWith hiQ cs ps
theorem ytp (k:Rat) (cs:List Rat) (ps:List (Rat×Rat)):Bk.lows (Af.of k cs) (ps.map Sc.of)=(ysk cs ps).map Fc.of:=wpg zqx cs ps
theorem y5k (k:Rat) (cs:List Rat) (ps:List (Rat×Rat)):Bk.vwi (Af.of k cs) (ps.map Sc.of)=(zfn cs ps).map Fc.of:=wpg y97 cs ps
theorem yxw {cs:List Rat} {ps:List (Rat×Rat)} (h:cs.length=ps.length):cs.length=(ysk cs ps).length:=by unfold ysk;simp;omega
theorem wb1 {cs:List Rat} {ps:List (Rat×Rat)} (h:cs.length=ps.length):cs.length=(zfn cs ps).length:=by unfold zfn;simp;omega
def ws3 (k:Rat) (cs:List Rat) (ps:List (Rat×Rat)):Rat×Rat:=(sumQ k cs (ysk cs ps),sumQ k cs (zfn cs ps))
theorem vgy (k:Rat) (cs:List Rat) (ps:List (Rat×Rat)) (h:cs.length=ps.length) (hp:okP ps):Bk.bounds (Af.of k cs) (ps.map Sc.of)=Sc.of (ws3 k cs ps):=by
 unfold Bk.bounds;rw [if_pos ((Bk.vin k cs ps).2 ⟨h,hp⟩),ytp,y5k,Af.vei _ _ _ (yxw h),Af.vei _ _ _ (wb1 h)];rfl
theorem y0x (k:Rat) (cs:List Rat) (ps:List (Rat×Rat)) (h:cs.length=ps.length):(Af.of k cs).at' (Bk.lows (Af.of k cs) (ps.map Sc.of))=Fc.of (ws3 k cs ps).1:=by
 rw [ytp,Af.vei _ _ _ (yxw h)];rfl
def inP:List Rat->List (Rat×Rat)->Prop
 | [],[]=>True
 | v::vs,p::ps=>(p.1<=v/\v<=p.2)/\inP vs ps
 | _,_=>False
theorem x0k:∀{vs:List Rat} {ps:List (Rat×Rat)},inP vs ps->vs.length=ps.length
 | [],[],_=>rfl
 | _::_,_::_,h=>by simp [x0k h.2]
theorem y02 (c:Rat) (p:Rat×Rat) (v:Rat) (h:p.1<=v/\v<=p.2):c*loQ c p<=c*v:=by
 unfold loQ
 split
 . rename_i hc;have h1:=Rat.mul_le_mul_of_nonneg_left h.2 (show (0:Rat)<=-c by grind)
   grind
 . rename_i hc;exact Rat.mul_le_mul_of_nonneg_left h.1 (Rat.not_lt.1 hc)
theorem x1v (c:Rat) (p:Rat×Rat) (v:Rat) (h:p.1<=v/\v<=p.2):c*v<=c*hiQ c p:=by
 unfold hiQ
 split
 . rename_i hc;have h1:=Rat.mul_le_mul_of_nonneg_left h.1 (show (0:Rat)<=-c by grind)
   grind
 . rename_i hc;exact Rat.mul_le_mul_of_nonneg_left h.2 (Rat.not_lt.1 hc)
theorem zh2:∀(cs vs:List Rat) (ps:List (Rat×Rat)),cs.length=ps.length->inP vs ps->dot cs (ysk cs ps)<=dot cs vs
 | [],vs,ps,_,_=>by rw [vp4,vp4];exact Rat.le_refl
 | _::_,[],ps,h,hi=>by cases ps with
  | nil=>simp at h
  | cons p ps=>exact hi.elim
 | c::cs,v::vs,p::ps,h,hi=>by
  show dot (c::cs) (loQ c p::ysk cs ps)<=_;rw [wkb,wkb];have h1:=zh2 cs vs ps (by simpa using h) hi.2;have h2:=y02 c p v hi.1
  grind
theorem vnk:∀(cs vs:List Rat) (ps:List (Rat×Rat)),cs.length=ps.length->inP vs ps->dot cs vs<=dot cs (zfn cs ps)
 | [],vs,ps,_,_=>by rw [vp4,vp4];exact Rat.le_refl
 | _::_,[],ps,h,hi=>by cases ps with
  | nil=>simp at h
  | cons p ps=>exact hi.elim
 | c::cs,v::vs,p::ps,h,hi=>by
  show _<=dot (c::cs) (hiQ c p::zfn cs ps);rw [wkb,wkb];have h1:=vnk cs vs ps (by simpa using h) hi.2;have h2:=x1v c p v hi.1
  grind
theorem wp9 (k:Rat) (cs vs:List Rat) (ps:List (Rat×Rat)) (h:cs.length=ps.length) (hi:inP vs ps):(ws3 k cs ps).1<=sumQ k cs vs/\sumQ k cs vs<=(ws3 k cs ps).2:=by
 unfold ws3;simp only [zh9];have h1:=zh2 cs vs ps h hi;have h2:=vnk cs vs ps h hi
 grind
theorem zzm:∀(cs:List Rat) (ps:List (Rat×Rat)),cs.length=ps.length->okP ps->inP (ysk cs ps) ps
 | [],[],_,_=>trivial
 | [],p::ps,h,_=>by simp at h
 | c::cs,[],h,_=>by simp at h
 | c::cs,p::ps,h,hp=>by
  refine ⟨?_,zzm cs ps (by simpa using h) (fun q hq=>hp q (by simp [hq]))⟩
  have:=hp p (by simp)
  unfold loQ
  split
  . exact ⟨this,Rat.le_refl⟩
  . exact ⟨Rat.le_refl,this⟩
theorem yff:∀(cs:List Rat) (ps:List (Rat×Rat)),cs.length=ps.length->okP ps->inP (zfn cs ps) ps
 | [],[],_,_=>trivial
 | [],p::ps,h,_=>by simp at h
 | c::cs,[],h,_=>by simp at h
 | c::cs,p::ps,h,hp=>by
  refine ⟨?_,yff cs ps (by simpa using h) (fun q hq=>hp q (by simp [hq]))⟩
  have:=hp p (by simp)
  unfold hiQ
  split
  . exact ⟨Rat.le_refl,this⟩
  . exact ⟨this,Rat.le_refl⟩
theorem wcd (k:Rat) (cs:List Rat) (ps:List (Rat×Rat)) (h:cs.length=ps.length) (hp:okP ps):(ws3 k cs ps).1<=(ws3 k cs ps).2:=
 (wp9 k cs _ ps h (yff cs ps h hp)).1
theorem vvy (p:Rat×Rat) (v:Rat):(Sc.of p).has (Fc.of v)↔(p.1<=v/\v<=p.2):=by
 unfold Sc.has;rw [Sc.xd3];show (p.1<=p.2/\(Fc.of v).ok/\Fc.cmp (Fc.of p.1) (Fc.of v)<=0/\Fc.cmp (Fc.of v) (Fc.of p.2)<=0)↔_;rw [Fc.w7n,Fc.w7n,zkr,zkr];exact ⟨fun h=>h.2.2,fun h=>⟨Rat.le_trans h.1 h.2,Fc.xd3 v,h⟩⟩
theorem w5i (p q:Rat×Rat):(Sc.of p).inside (Sc.of q)↔(p.1<=p.2/\q.1<=p.1/\p.2<=q.2):=by
 unfold Sc.inside;rw [Sc.xd3,Sc.xd3];show (p.1<=p.2/\q.1<=q.2/\Fc.cmp (Fc.of q.1) (Fc.of p.1)<=0/\Fc.cmp (Fc.of p.2) (Fc.of q.2)<=0)↔_;rw [Fc.w7n,Fc.w7n,zkr,zkr];exact ⟨fun h=>⟨h.1,h.2.2⟩,fun h=>⟨h.1,Rat.le_trans h.2.1 (Rat.le_trans h.1 h.2.2),h.2⟩⟩
theorem zc6 (p:Rat×Rat) (h:p.1<=p.2):Sc.width (Sc.of p)=Fc.of (p.2-p.1):=by
 unfold Sc.width;rw [if_pos ((Sc.xd3 p).2 h)];exact Fc.zig _ _
end Go.Slot
namespace Go.Slot
open Go Go.RowKit Go.Slot.T
def floQ:Rat->List Rat->List Rat->List (Rat×Rat)->Option Rat
 | s,u::d::ms,c::cs,p::ps=>if u-d=c then floQ (s+(u*p.1-d*p.2)) ms cs ps else none
 | s,_,_,_=>some s
theorem zhz:∀(ms cs:List Rat) (ps:List (Rat×Rat)) (s:Rat),Bk.flo (Fc.of s) (ms.map Fc.of) (cs.map Fc.of) (ps.map Sc.of)=(floQ s ms cs ps).map Fc.of
 | [],_,_,s=>rfl
 | [_],_,_,s=>rfl
 | _::_::_,[],_,s=>rfl
 | _::_::_,_::_,[],s=>rfl
 | u::d::ms,c::cs,p::ps,s=>by
  show (if Fc.sub (Fc.of u) (Fc.of d)=Fc.of c then Bk.flo (Fc.add (Fc.of s) (Fc.sub (Fc.mul (Fc.of u) (Fc.of p.1)) (Fc.mul (Fc.of d) (Fc.of p.2)))) (ms.map Fc.of) (cs.map Fc.of) (ps.map Sc.of) else none)=_;rw [Fc.zig,Fc.x5c,Fc.x5c,Fc.zig,Fc.xac,zhz ms cs ps];by_cases h:u-d=c
  . rw [if_pos (by rw [h])];show _=(if u-d=c then floQ (s+(u*p.1-d*p.2)) ms cs ps else none).map Fc.of;rw [if_pos h]
  . rw [if_neg (fun h'=>h (Fc.wlk h'))];show _=(if u-d=c then floQ (s+(u*p.1-d*p.2)) ms cs ps else none).map Fc.of;rw [if_neg h];rfl
theorem wcx (ms:List Rat):Bk.okM (ms.map Fc.of)↔∀ m∈ms,0<=m:=by
 constructor
 . intro h m hm
   have:=(h _ (List.mem_map.2 ⟨m,hm,rfl⟩)).2
   rw [Fc.w9s] at this;exact (yhx m).1 this
 . intro h f hf;obtain ⟨m,hm,rfl⟩:=List.mem_map.1 hf;exact ⟨Fc.xd3 m,by rw [Fc.w9s];exact (yhx m).2 (h m hm)⟩
def verQ (v:Rat):Option Rat->Bool
 | some s=>decide (v<=s)
 | none=>false
theorem wfm (k:Rat) (cs:List Rat) (ps:List (Rat×Rat)) (v:Rat) (ms:List Rat) (h:cs.length=ps.length) (hp:okP ps) (hl:ms.length=2*ps.length) (hm:∀ m∈ms,0<=m) :
 Bk.floor (Af.of k cs) (ps.map Sc.of) (Fc.of v) (ms.map Fc.of)=verQ v (floQ k ms cs ps):=by
 unfold Bk.floor;rw [if_pos ⟨(Bk.vin k cs ps).2 ⟨h,hp⟩,Fc.xd3 v,by simpa using hl,(wcx ms).2 hm⟩];show Bk.verdict (Fc.of v) (Bk.flo (Fc.of k) (ms.map Fc.of) (cs.map Fc.of) (ps.map Sc.of))=_;rw [zhz]
 cases floQ k ms cs ps with
 | none=>rfl
 | some s=>
  show decide (0<=Fc.cmp (Fc.of s) (Fc.of v))=decide (v<=s);rw [Fc.w7n];exact decide_eq_decide.2 (yxg s v)
theorem w8v {op:Fc->Fc->Fc} {g:Rat->Rat->Rat} (hop:∀ x y,op (Fc.of x) (Fc.of y)=Fc.of (g x y)) (k m:Rat) (cs ds:List Rat):Af.each op (Af.of k cs) (Af.of m ds)=Af.of (g k m) (List.zipWith g cs ds):=by
 have:∀(cs ds:List Rat),List.zipWith op (cs.map Fc.of) (ds.map Fc.of)=(List.zipWith g cs ds).map Fc.of:=by
  intro cs
  induction cs with
  | nil=>intro ds;rfl
  | cons c cs ih=>intro ds;cases ds with
   | nil=>rfl
   | cons d ds=>simp only [List.map_cons,List.zipWith_cons_cons,hop,ih]
 unfold Af.each Af.of;simp only [hop,this]
theorem vq8 {g:Rat->Rat->Rat} {f:Rat->Rat} (h:∀ x,g x x=f x):∀ cs:List Rat,List.zipWith g cs cs=cs.map f
 | []=>rfl
 | c::cs=>by simp only [List.zipWith_cons_cons,h,vq8 h cs,List.map_cons]
theorem xi2 (k q:Rat) (cs:List Rat):Af.times (Af.of k cs) (Fc.of q)=Af.of (k*q) (cs.map (· * q)):=by
 unfold Af.times
 have e:(Af.of k cs).l.length=cs.length:=by simp [Af.of]
 rw [if_pos ⟨(Af.xd3 k cs _).2 e.symm,Fc.xd3 q⟩];rw [w8v (g:=fun x _=>x*q) (fun x y=>Fc.x5c x q) k k cs cs,vq8 (f:=(· * q)) (fun x=>rfl)]
theorem yzr (x y:Rat):Fc.cmp (Fc.of x) (Fc.of y) > 0↔y<x:=by rw [Fc.w7n];exact vfh x y
def swQ (c:Rat) (p:Rat×Rat):Rat:=max (c*(p.2-p.1)) (-(c*(p.2-p.1)))
theorem xz8 (c:Rat) (p:Rat×Rat) (hp:p.1<=p.2):Bk.v41 (Fc.of c) (Sc.of p)=Fc.of (swQ c p):=by
 unfold Bk.v41 swQ;rw [zc6 p hp,Fc.x5c,Fc.ymu,Fc.wij]
def narQ:Nat->Int×Rat->List Rat->List (Rat×Rat)->Int×Rat
 | i,st,c::cs,p::ps=>narQ (i+1) (if st.2<swQ c p then ((i:Int),swQ c p) else st) cs ps
 | _,st,_,_=>st
theorem vzw:∀(cs:List Rat) (ps:List (Rat×Rat)) (i:Nat) (a:Int) (b:Rat),okP ps->Bk.nar i (a,Fc.of b) (cs.map Fc.of) (ps.map Sc.of)=((narQ i (a,b) cs ps).1,Fc.of (narQ i (a,b) cs ps).2)
 | [],ps,i,a,b,_=>by cases ps<;>rfl
 | c::cs,[],i,a,b,_=>rfl
 | c::cs,p::ps,i,a,b,hp=>by
  show Bk.nar (i+1) (if Fc.cmp (Bk.v41 (Fc.of c) (Sc.of p)) (Fc.of b) > 0 then ((i:Int),Bk.v41 (Fc.of c) (Sc.of p)) else (a,Fc.of b)) (cs.map Fc.of) (ps.map Sc.of)=((narQ (i+1) (if b<swQ c p then ((i:Int),swQ c p) else (a,b)) cs ps).1,Fc.of (narQ (i+1) (if b<swQ c p then ((i:Int),swQ c p) else (a,b)) cs ps).2);rw [xz8 c p (hp p (by simp))]
  have hp':okP ps:=fun q hq=>hp q (by simp [hq])
  by_cases h:b<swQ c p
  . rw [if_pos ((yzr _ _).2 h),if_pos h];exact vzw cs ps (i+1) i (swQ c p) hp'
  . rw [if_neg (fun h'=>h ((yzr _ _).1 h')),if_neg h];exact vzw cs ps (i+1) a b hp'
theorem ya9 (k:Rat) (cs:List Rat) (ps:List (Rat×Rat)) (h:cs.length=ps.length) (hp:okP ps) (h0:0<ps.length) :
 Bk.narrow (Af.of k cs) (ps.map Sc.of)=((narQ 0 (0,0) cs ps).1,Fc.of (narQ 0 (0,0) cs ps).2,0):=by
 unfold Bk.narrow;rw [if_pos ((Bk.vin k cs ps).2 ⟨h,hp⟩),if_neg (by simp;intro e;subst e;simp at h0)];show ((Bk.nar 0 (0,Fc.of 0) (cs.map Fc.of) (ps.map Sc.of)).1,(Bk.nar 0 (0,Fc.of 0) (cs.map Fc.of) (ps.map Sc.of)).2,0)=_;rw [vzw cs ps 0 0 0 hp]
def wal:Af:=Af.of 10 [2,-3]
def zbt:List Sc:=[(1,4),(0,5)].map Sc.of
theorem wbr:okP [((1:Rat),(4:Rat)),(0,5)]:=by unfold okP;decide +kernel
theorem wn9:Bk.ok wal zbt:=(Bk.vin 10 [2,-3] [(1,4),(0,5)]).2 ⟨rfl,wbr⟩
theorem viv:Bk.bounds wal zbt=Sc.of (-3,18):=by
 unfold wal zbt;rw [vgy 10 [2,-3] [(1,4),(0,5)] rfl wbr,show ws3 10 [2,-3] [((1:Rat),(4:Rat)),(0,5)]=(-3,18) by decide +kernel]
theorem z3r:Bk.narrow wal zbt=(1,Fc.of 15,0):=by
 unfold wal zbt;rw [ya9 10 [2,-3] [(1,4),(0,5)] rfl wbr (by decide)];rw [show narQ 0 (0,0) [2,-3] [((1:Rat),(4:Rat)),(0,5)]=(1,15) by decide +kernel]
theorem veq:Bk.lows wal zbt=[1,5].map Fc.of:=by
 unfold wal zbt;rw [ytp,show ysk [2,-3] [((1:Rat),(4:Rat)),(0,5)]=[1,5] by decide +kernel]
theorem ye0:wal.at' (Bk.lows wal zbt)=Fc.of (-3):=by
 unfold wal zbt;rw [y0x 10 [2,-3] [(1,4),(0,5)] rfl,show ws3 10 [2,-3] [((1:Rat),(4:Rat)),(0,5)]=(-3,18) by decide +kernel]
theorem xpa (v:Rat) (ms:List Rat) (b:Bool) (hl:ms.length=4) (hm:∀ m∈ms,0<=m) (h:verQ v (floQ 10 ms [2,-3] [((1:Rat),(4:Rat)),(0,5)])=b) :
 Bk.floor wal zbt (Fc.of v) (ms.map Fc.of)=b:=by
 unfold wal zbt;rw [wfm 10 [2,-3] [(1,4),(0,5)] v ms rfl wbr hl hm,h]
theorem v96:Bk.floor wal zbt (Fc.of (-3)) ([2,0,0,3].map Fc.of)=true:=xpa _ _ _ rfl (by decide +kernel) (by decide +kernel)
theorem wvf:Bk.floor wal zbt (Fc.of (-2)) ([2,0,0,3].map Fc.of)=false:=xpa _ _ _ rfl (by decide +kernel) (by decide +kernel)
theorem v4f:Bk.floor wal zbt (Fc.of (-3)) ([3,1,0,3].map Fc.of)=false:=xpa _ _ _ rfl (by decide +kernel) (by decide +kernel)
end Go.Slot
namespace Go.Hp.T
open Go Go.RowKit Go.Slot Go.Hp Go.Slot.T
open Go.Proofs.Tryz (prog)
attribute [local irreducible] hide RH
set_option maxRecDepth 10000
set_option maxHeartbeats 8000000
variable {Γ:List (Nat×List Cell)}
theorem yqm (L:List Int) (hl:L.length<=1048576) (hL:∀ n∈L,inI n) :
 CallsD Γ prog 13 [.one (.ints .i64 L)] (.one (.sl 4 ((L.map fun (n:Int)=>Fc.of (n:Rat)).map Fc.C))):=by
 refine CallsD.run [] Go.Proofs.Tryz.func13 rfl rfl rfl ?_;simp only [Go.Proofs.Tryz.f13];refine hgR ?_;refine x20 [0] (fun i:Nat=>[(3,.one (.sl 0 4 0 i)),(4,.one (.dat (cI (i))))]) (fun i=>[.arr (.sl 4 (((L.take i).map fun (n:Int)=>Fc.of (n:Rat)).map Fc.C)) 0 (some 34)]) (fun i=>i<=L.length) (fun i=>L.length-i) 0 (Nat.zero_le _) ?_ ?_
 . refine hg ?_;refine StH.trans (StH.empty (d:=3) (es:=4) (c:=.sl 4 []) (T:=some 34) rfl rfl (fun r hr=>by cases hr) rfl) ?_;refine hg ?_;exact StH.same svl rfl
 rintro i hi
 have hz:((L.take i).map fun (n:Int)=>Fc.of (n:Rat)).length=i:=by simp;omega
 refine hg ?_;refine vt2 (fun h _=>?_) (fun h _=>?_)
 . have hi1:i<L.length:=by omega
   have e:=x4e (0:Int) hi1;have hin:inI (L.getD i 0):=hL _ (by simp [hi1]);refine hg ?_
   first | refine wml (wv5 (L.getD i 0) hin) ?_ | refine ysi (wv5 (L.getD i 0) hin) ?_
   refine hg1 @hz ?_;refine ⟨i+1,by omega,by omega,?_⟩;rw [e,List.map_append,List.map_append];refine StH.back [0,3,4] 0 1 1 rfl rfl rfl rfl rfl (by kernel_rfl) ?_
   conv=>simp (maxSteps:=2000000) (disch:=omega) only [go_sem,Nat.reduceAdd,Nat.reduceSub,Nat.reduceMul,Int.reduceToNat,Nat.reduceEqDiff,Nat.reduceBEq,Nat.reduceBneDiff,Nat.reduceLT,Int.reduceEq,Int.reduceLT,Int.reduceLE,Int.reduceNeg,Int.reduceAdd,Int.reduceSub,Int.reduceMul,List.length_append,List.length_singleton,hz]
   exact StH.same svl rfl
 . have hi':i=L.length:=by omega
   rw [hi',List.take_length];refine hg ?_;exact (.one (.refl _))
theorem wOf (a b:Int) (ha:inI a) (hb:inI b):CallsD Γ prog 14 [.one (.raw (.int .i64 a)),.one (.raw (.int .i64 b))] (.agg (Sc.of ((a:Rat),(b:Rat))).C):=by
 refine CallsD.run [] Go.Proofs.Tryz.func14 rfl rfl rfl ?_;simp only [Go.Proofs.Tryz.f14];refine hgR ?_
 first | refine wml (wv5 a ha) ?_ | refine ysi (wv5 a ha) ?_
 refine hg ?_
 first | refine wml (wv5 b hb) ?_ | refine ysi (wv5 b hb) ?_
 refine hg ?_;exact (.one (.refl _))
theorem w1o (q:Rat) (h1:q.num.natAbs<=18446744073709551615) (h2:q.den<=18446744073709551615):(Fc.of q).sz<=4:=by
 have a:=y6j h1;have b:=y6j h2;rw [Fc.zom];omega
theorem xaj (L:List Rat) (h:∀ q∈L,q.num.natAbs<=18446744073709551615/\q.den<=18446744073709551615):∀ m∈L.map Fc.of,m.sz<=4:=fun m hm=>by
 obtain ⟨q,hq,rfl⟩:=List.mem_map.1 hm;exact w1o q (h q hq).1 (h q hq).2
theorem yvu:small wal zbt:=by
 have h1:=xaj [2,-3] (by decide);have h2:=xaj [1,4,0,5] (by decide);refine ⟨by decide,by decide,⟨Nat.le_trans (w1o 10 (by decide) (by decide)) (by decide),fun f hf=>Nat.le_trans (h1 f hf) (by decide)⟩,fun s hs=>?_⟩;have e:zbt=[Sc.of (1,4),Sc.of (0,5)]:=rfl;rw [e] at hs;simp only [List.mem_cons,List.not_mem_nil,or_false] at hs;have a1:=h2 (Fc.of 1) (by simp);have a2:=h2 (Fc.of 4) (by simp);have a3:=h2 (Fc.of 0) (by simp);have a4:=h2 (Fc.of 5) (by simp)
 rcases hs with rfl | rfl
 . show max (Fc.of 1).sz (Fc.of 4).sz<=4096;omega
 . show max (Fc.of 0).sz (Fc.of 5).sz<=4096;omega
theorem v5v:CallsD Γ prog 4 [] (.one (.raw (.bool true))):=by
 have s3:(Fc.of (-3)).sz<=4:=w1o _ (by decide) (by decide);have s2:(Fc.of (-2)).sz<=4:=w1o _ (by decide) (by decide);have s15:(Fc.of 15).sz<=4:=w1o _ (by decide) (by decide);have s18:(Fc.of 18).sz<=4:=w1o _ (by decide) (by decide);have i10:=wv5 (Γ:=Γ) 10 (by decide);have i15:=wv5 (Γ:=Γ) 15 (by decide);have i3:=wv5 (Γ:=Γ) (-3) (by decide);have i2:=wv5 (Γ:=Γ) (-2) (by decide);have l1:=yqm (Γ:=Γ) [2,-3] (by decide) (by decide);have l2:=yqm (Γ:=Γ) [1,5] (by decide) (by decide);have l3:=yqm (Γ:=Γ) [2,0,0,3] (by decide) (by decide);have l4:=yqm (Γ:=Γ) [3,1,0,3] (by decide) (by decide);have o1:=wOf (Γ:=Γ) 1 4 (by decide) (by decide);have o2:=wOf (Γ:=Γ) 0 5 (by decide) (by decide);have o3:=wOf (Γ:=Γ) (-3) 18 (by decide) (by decide);have hB:=yod (Γ:=Γ) wal zbt yvu.big;rw [viv,Fc.wop wn9] at hB;have hN:=xak (Γ:=Γ) wal zbt yvu;rw [z3r] at hN;have hL:=xeh (Γ:=Γ) wal zbt yvu;rw [if_pos wn9,if_pos wn9,Fc.wop wn9,ye0,veq] at hL;have m3:=xaj [2,0,0,3] (by decide);have m4:=xaj [3,1,0,3] (by decide);have m2:=xaj [1,5] (by decide);have f1:=zyc (Γ:=Γ) wal zbt (Fc.of (-3)) ([2,0,0,3].map Fc.of) yvu (by omega) (fun m hm=>by have:=m3 m hm;omega) (by decide);rw [v96] at f1;have f2:=zyc (Γ:=Γ) wal zbt (Fc.of (-2)) ([2,0,0,3].map Fc.of) yvu (by omega) (fun m hm=>by have:=m3 m hm;omega) (by decide);rw [wvf] at f2;have f3:=zyc (Γ:=Γ) wal zbt (Fc.of (-3)) ([3,1,0,3].map Fc.of) yvu (by omega) (fun m hm=>by have:=m4 m hm;omega) (by decide);rw [v4f] at f3;have q1:=wkm (Γ:=Γ) (Sc.of (-3,18)) (Sc.of (-3,18)) (by show max _ _<=_;simp only [Sc.of];omega) (by show max _ _<=_;simp only [Sc.of];omega);rw [decide_eq_true rfl] at q1;have q2:=xz0 (Γ:=Γ) (Fc.of 15) (Fc.of 15) (by omega) (by omega);rw [decide_eq_true rfl] at q2;have q3:=xz0 (Γ:=Γ) (Fc.of (-3)) (Fc.of (-3)) (by omega) (by omega);rw [decide_eq_true rfl] at q3;have q4:=zri (Γ:=Γ) ([1,5].map Fc.of) ([1,5].map Fc.of) (by decide) (by decide) (fun m hm=>by have:=m2 m hm;omega) (fun m hm=>by have:=m2 m hm;omega);rw [decide_eq_true rfl] at q4;refine CallsD.run [] Go.Proofs.Tryz.func4 rfl rfl rfl ?_;simp only [Go.Proofs.Tryz.f4];refine hgR ?_
 first | refine wml i10 ?_ | refine ysi i10 ?_
 refine hg ?_
 first | refine wml l1 ?_ | refine ysi l1 ?_
 refine hg ?_
 first | refine wml o1 ?_ | refine ysi o1 ?_
 refine hg ?_
 first | refine wml o2 ?_ | refine ysi o2 ?_
 refine hg ?_
 first | refine wml hB ?_ | refine ysi hB ?_
 refine hg ?_
 first | refine wml hN ?_ | refine ysi hN ?_
 refine hg ?_
 first | refine wml hL ?_ | refine ysi hL ?_
 refine hg ?_
 first | refine wml o3 ?_ | refine ysi o3 ?_
 refine hg ?_
 first | refine wml q1 ?_ | refine ysi q1 ?_
 refine hg ?_
 first | refine wml i15 ?_ | refine ysi i15 ?_
 refine hg ?_
 first | refine wml q2 ?_ | refine ysi q2 ?_
 refine hg ?_
 first | refine wml l2 ?_ | refine ysi l2 ?_
 refine hg ?_
 first | refine wml q4 ?_ | refine ysi q4 ?_
 refine hg ?_
 first | refine wml i3 ?_ | refine ysi i3 ?_
 refine hg ?_
 first | refine wml q3 ?_ | refine ysi q3 ?_
 refine hg ?_;refine hik ?_;refine hg ?_
 first | refine wml l3 ?_ | refine ysi l3 ?_
 refine hg ?_
 first | refine wml i3 ?_ | refine ysi i3 ?_
 refine hg ?_
 first | refine wml f1 ?_ | refine ysi f1 ?_
 refine hg ?_
 first | refine wml i2 ?_ | refine ysi i2 ?_
 refine hg ?_
 first | refine wml f2 ?_ | refine ysi f2 ?_
 refine hg ?_
 first | refine wml i3 ?_ | refine ysi i3 ?_
 refine hg ?_
 first | refine wml l4 ?_ | refine ysi l4 ?_
 refine hg ?_
 first | refine wml f3 ?_ | refine ysi f3 ?_
 refine hg ?_;refine hik ?_;refine hg ?_;exact (.one (.refl _))
end Go.Hp.T
namespace Go.Hp.T
open Go Go.RowKit Go.Slot Go.Hp Go.Slot.T
open Go.Proofs.Tryz (prog)
attribute [local irreducible] hide RH
set_option maxRecDepth 10000
set_option maxHeartbeats 4000000
variable {Γ:List (Nat×List Cell)}
theorem wuc (x:Dm):CallsD Γ prog 140 [.agg (dmC x)] (.one (cB (ytl x))):=by
 refine CallsD.run [] Go.Proofs.Tryz.func140 rfl rfl rfl ?_;simp only [Go.Proofs.Tryz.f140];refine hgR ?_
 repeat' ((first | refine hfk ?_ ?_<;>intros | refine hik ?_ | with_reducible refine v6k ?_ | with_reducible refine yp8 ?_)<;>refine hgS ?_)
 all_goals refine lf2 @ytl.eq_def @bad9.eq_def ?_;first | exact trivial | rfl
theorem zbx (c:Int):CallsD Γ prog 95 [.one (c8 c)] (.one (cB (wxl c))):=by
 refine CallsD.run [] Go.Proofs.Tryz.func95 rfl rfl rfl ?_;simp only [Go.Proofs.Tryz.f95];refine hgR ?_
 repeat' ((first | refine hfk ?_ ?_<;>intros | refine hik ?_)<;>refine hgS ?_)
 all_goals refine lf1 @wxl.eq_def ?_;first | exact trivial | rfl
theorem xzs (c:Int):CallsD Γ prog 136 [.one (c8 c)] (.one (cB (isDigit c))):=by
 refine CallsD.run [] Go.Proofs.Tryz.func136 rfl rfl rfl ?_;simp only [Go.Proofs.Tryz.f136];refine hgR ?_
 repeat' ((first | refine hfk ?_ ?_<;>intros | refine hik ?_)<;>refine hgS ?_)
 all_goals refine lf1 @isDigit.eq_def ?_;first | exact trivial | rfl
theorem ywf (c:Int):CallsD Γ prog 167 [.one (c8 c)] (.one (cB (xtc c))):=by
 refine CallsD.run [] Go.Proofs.Tryz.func167 rfl rfl rfl ?_;simp only [Go.Proofs.Tryz.f167];refine hgR ?_
 repeat' ((first | refine hfk ?_ ?_<;>intros | refine hik ?_)<;>refine hgS ?_)
 all_goals refine lf1 @xtc.eq_def ?_;first | exact trivial | rfl
theorem w8o (c:Int):CallsD Γ prog 97 [.one (c8 c)] (.one (cB (xic c))):=by
 refine CallsD.run [] Go.Proofs.Tryz.func97 rfl rfl rfl ?_;simp only [Go.Proofs.Tryz.f97];refine hgR ?_
 repeat' ((first | refine hfk ?_ ?_<;>intros | refine hik ?_ | with_reducible first | refine wml (zbx _) ?_ | refine ysi (zbx _) ?_ | refine wml (xzs _) ?_ | refine ysi (xzs _) ?_)<;>refine hgS ?_)
 all_goals refine lf1 @xic.eq_def ?_;first | exact trivial | rfl
theorem vtn (s:ByteArray) (f:FuncId) (p:Int->Bool) (hs:s.size<=1099511627776) (h:∀ c,CallsD Γ prog f [.one (c8 c)] (.one (cB (p c)))):CallsD Γ prog 96 [.one (cS s),fN f] (.one (cI (xg6 p s))):=by
 refine CallsD.run [] Go.Proofs.Tryz.func96 rfl rfl rfl ?_;simp only [Go.Proofs.Tryz.f96];refine hgR ?_;refine x20 [0,1] (fun n:Nat=>[(5,.one (.dat (cI n)))]) (fun _=>[]) (fun n=>n<=s.size/\∀ j,j<n->p (yuk s j)=true) (fun n=>s.size-n) 0 ⟨Nat.zero_le _,fun j hj=>by omega⟩ ?_ ?_
 . refine hg ?_;exact StH.zrj (by repeat' first | exact .nil | refine .cons (by first | exact .refl _ | exact .any _) ?_)
 intro n hn;obtain ⟨hn,hj⟩:=hn;refine hg ?_
 repeat' ((first | refine hfk ?_ ?_<;>intros | refine hik ?_ | with_reducible first | refine wml (h _) ?_ | refine ysi (h _) ?_)<;>refine hgS ?_)
 . rename_i h1;refine ⟨n+1,⟨by omega,fun j hj'=>?_⟩,by omega,by exact StH.zrj (by repeat' first | exact .nil | refine .cons (by first | exact .refl _ | exact .any _) ?_)⟩
   rcases Nat.lt_or_eq_of_le (Nat.le_of_lt_succ hj') with h2 | h2
   . exact hj j h2
   . rw [h2];exact h1
 . rename_i h1;rw [yxq hn hj (.inr h1)];exact RLe.ofEq rfl
 . rw [yxq hn hj (.inl (by omega))];exact RLe.ofEq rfl
theorem vfk (s:ByteArray) (hs:s.size<=1099511627776):CallsD Γ prog 55 [.one (cS s)] (.one (cB (isName s))):=by
 refine CallsD.run [] Go.Proofs.Tryz.func55 rfl rfl rfl ?_;simp only [Go.Proofs.Tryz.f55];refine hgR ?_
 repeat' ((first | refine hfk ?_ ?_<;>intros | refine hik ?_ | with_reducible first | refine wml (zbx _) ?_ | refine ysi (zbx _) ?_ | refine wml (vtn s _ _ hs w8o) ?_ | refine ysi (vtn s _ _ hs w8o) ?_)<;>refine hgS ?_)
 all_goals refine lf1 @isName.eq_def ?_;first | exact trivial | rfl
abbrev bldB (n:Nat):SB:=.box [.ptr 0 0,.sl 1 1 0 n] (some 217)
abbrev bldA (l:List Int):SB:=.arr (.ints .u8 l) 0 (some 5)
theorem ybv:liesAt prog prog.depth 217 (2 / prog.cellsOf 217) 0 217 1=true:=by kernel_rfl
theorem coU8:prog.cellsOf 5=1:=by kernel_rfl
attribute [go_sem] ybv coU8
theorem wy8 (x:HC):xpp Γ prog 191 [.box [.dat (.raw (.pointer none)),x] (some 217)] [.one (.ptr 0 0)] [.box [.ptr 0 0,x] (some 217)] (.tup []):=by
 refine xpp.run [] Go.Proofs.Tryz.func191 rfl rfl ?_;simp only [Go.Proofs.Tryz.f191];refine hgR ?_;exact StH.refl
theorem zcd (x:HC) (T:Option TypeId) (y:SB):xpp Γ prog 191 [.box [.ptr 0 0,x] T,y] [.one (.ptr 0 0)] [.box [.ptr 0 0,x] T,y] (.tup []):=by
 refine xpp.run [] Go.Proofs.Tryz.func191 rfl rfl ?_;simp only [Go.Proofs.Tryz.f191];refine hgR ?_;exact StH.refl
theorem y47 (c:Int):xpp Γ prog 182 [.box [.dat (.raw (.pointer none)),.dat .zc] (some 217)] [.one (.ptr 0 0),.one (.dat (c8 c))] [bldB 1,bldA [c]] (.one (.dat (.raw .nilIface))):=by
 refine xpp.run [] Go.Proofs.Tryz.func182 rfl rfl ?_;simp only [Go.Proofs.Tryz.f182];refine hgR ?_;refine x6x (wy8 _) ?_;refine hg ?_;exact StH.refl
theorem wmx (l:List Int) (c:Int) (hl:l.length<=68719476736):xpp Γ prog 182 [bldB l.length,bldA l] [.one (.ptr 0 0),.one (.dat (c8 c))] [.box [.ptr 0 0,.sl 2 1 0 (l++[c]).length] (some 217),.dead,bldA (l++[c])] (.one (.dat (.raw .nilIface))):=by
 refine xpp.run [] Go.Proofs.Tryz.func182 rfl rfl ?_;simp only [Go.Proofs.Tryz.f182];refine hgR ?_;refine x6x (zcd _ _ _) ?_;refine hg ?_;exact StH.refl
theorem z7a (l:List Int) (hl:l.all x7g=true) (h0:0<l.length) (h1:l.length<=1099511627776):xpp Γ prog 183 [bldB l.length,bldA l] [.one (.ptr 0 0)] [bldB l.length,.dead] (.one (.dat (cS (strOfNums l)))):=by
 refine xpp.run [] Go.Proofs.Tryz.func183 rfl rfl ?_;simp only [Go.Proofs.Tryz.f183];refine hgR ?_
 conv=>simp (maxSteps:=2000000) (disch:=omega) only [go_sem,Nat.reduceAdd,Nat.reduceSub,Nat.reduceMul,Int.reduceToNat,Nat.reduceEqDiff,Nat.reduceBEq,Nat.reduceBneDiff,Nat.reduceLT,Int.reduceEq,Int.reduceLT,Int.reduceLE,Int.reduceNeg,Int.reduceAdd,Int.reduceSub,Int.reduceMul,hl,h0,true_and,show l.length<=9223372036854775807 from by omega]
 repeat' ((first | refine hfk ?_ ?_<;>intros | refine hik ?_)<;>refine hgS ?_)
 exact StH.refl
theorem vq3 (s:ByteArray) (hs:s.size<=1073741824):CallsD Γ prog 168 [.one (cS s)] (.one (cS (escS s))):=by
 refine CallsD.run [] Go.Proofs.Tryz.func168 rfl rfl rfl ?_;simp only [Go.Proofs.Tryz.f168];refine hgR ?_;refine x6x (y47 _) ?_;refine hg ?_;refine x20 [0,2,3,7] (fun i:Nat=>[(8,.one (.dat (cI i)))]) (fun i=>[bldB (escA s i).length,bldA (escA s i)]) (fun i=>i<=s.size) (fun i=>s.size-i) 0 (Nat.zero_le _) ?_ ?_
 . refine hg ?_;exact StH.same svl rfl
 intro i hi;have hlen:=y0a s i;refine hg ?_
 have two:∀ c,(c=34\/c=92)->i<s.size->yuk s i=c->escA s (i+1)=escA s i++[92]++[c]:=fun c h hi h2=>by
  rw [zh3 hi,List.append_assoc,h2];rcases h with h | h<;>rw [h]<;>rfl
 repeat' ((first | refine hfk ?_ ?_<;>intros | refine hik ?_)<;>refine hgS ?_)
 . rename_i h _;refine x6x (wmx _ _ (by omega)) ?_;refine hgS ?_;refine vvn [0,2] (wmx (escA s i++[92]) _ (by simp only [List.length_append,List.length_singleton];omega)) rfl (by decide) rfl rfl rfl ?_;refine hgS ?_;rw [<-two 92 (.inr rfl) (by omega) h];refine ⟨i+1,by omega,by omega,StH.back [0,2,3,7,8] 1 3 2 rfl rfl rfl rfl rfl (by kernel_rfl) ?_⟩;refine hg ?_;exact StH.same svl rfl
 . rename_i h1 _ h2 _ h3 _;refine x6x (wmx _ _ (by omega)) ?_;refine hgS ?_
   have one:escA s i++[yuk s i]=escA s (i+1):=by
    rw [zh3 (by omega)];unfold escB;rw [decide_eq_false h2,decide_eq_false h3];rfl
   rw [one];refine ⟨i+1,by omega,by omega,StH.back [0,2,3,7,8] 1 2 2 rfl rfl rfl rfl rfl (by kernel_rfl) ?_⟩;refine hg ?_;exact StH.same svl rfl
 . rename_i h _;refine x6x (wmx _ _ (by omega)) ?_;refine hgS ?_;refine vvn [0,2] (wmx (escA s i++[92]) _ (by simp only [List.length_append,List.length_singleton];omega)) rfl (by decide) rfl rfl rfl ?_;refine hgS ?_;rw [<-two 34 (.inl rfl) (by omega) h];refine ⟨i+1,by omega,by omega,StH.back [0,2,3,7,8] 1 3 2 rfl rfl rfl rfl rfl (by kernel_rfl) ?_⟩;refine hg ?_;exact StH.same svl rfl
 . have e:i=s.size:=by omega
   subst e;refine x6x (wmx _ _ (by omega)) ?_;refine hg ?_;refine vvn [0,2] (z7a (escA s s.size++[34]) (by rw [List.all_append,ybn];rfl) (by simp) (by simp only [List.length_append,List.length_singleton];omega)) rfl (by decide) rfl rfl rfl ?_;refine hg ?_;exact RLe.ofEq rfl
theorem yk6 (s:ByteArray) (hs:s.size<=1073741824):∃ t,CallsD Γ prog 133 [.one (cS s)] (.tup [.one (cS t),.one (cB (yn7 s))]):=by
 refine ⟨bif yn7 s then escS s else ⟨#[]⟩,?_⟩;refine CallsD.run [] Go.Proofs.Tryz.func133 rfl rfl rfl ?_;simp only [Go.Proofs.Tryz.f133];refine hgR ?_
 repeat' ((first | refine hfk ?_ ?_<;>intros | refine hik ?_ | with_reducible first | refine wml (vtn s _ _ (by omega) ywf) ?_ | refine ysi (vtn s _ _ (by omega) ywf) ?_ | refine wml (vq3 s hs) ?_ | refine ysi (vq3 s hs) ?_)<;>refine hgS ?_)
 all_goals refine lf1 @yn7.eq_def ?_;first | exact trivial | rfl
end Go.Hp.T
