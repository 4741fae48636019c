/- The proof, part E36: Gn, Gd, Qc, Qd, Xb, Lg, Sa, Rm, Gt. -/
import Derived.Test.YtmegdbbbllffkaaGreatDoorE26
import Derived.Test.YtmegdbbbllffkaaGreatDoorE35
import Derived.Test.YtmegdbbbllffkaaGreatDoorE32
import Derived.Test.YtmegdbbbllffkaaGreatDoorE34
import Derived.Test.YtmegdbbbllffkaaGreatDoorE30
import Derived.Test.YtmegdbbbllffkaaGreatDoorE33
namespace Go.Hp.T
open Go Go.RowKit Go.Slot Go.Hp
set_option maxRecDepth 10000
variable {a b:ByteArray} {ms:List Tb}
theorem zfk (s:ByteArray):seq s s=true:=by rw [z9f];exact decide_eq_true rfl
theorem vyd (h:seq a b=true):a=b:=by rw [z9f] at h;exact of_decide_eq_true h
theorem x2w (h:a≠b):seq a b=false:=by rw [z9f];exact decide_eq_false h
theorem ztq {α:Type} (s:ByteArray) (v:α) (t:ByteArray):∀ l:List (ByteArray×α),ycr (updF l s v) t=bif seq t s then some v else ycr l t
 | []=>rfl
 | p::l=>by
  have ih:=ztq s v t l;rw [updF]
  cases h:seq s p.1 with
  | true=>
   have e:s=p.1:=vyd h;rw [cond_true]
   show (bif seq t s then some v else ycr l t)=bif seq t s then some v else (bif seq t p.1 then some p.2 else ycr l t)
   rw [<-e];cases seq t s<;>rfl
  | false=>
   rw [cond_false]
   show (bif seq t p.1 then some p.2 else ycr (updF l s v) t)=bif seq t s then some v else (bif seq t p.1 then some p.2 else ycr l t)
   rw [ih]
   cases h1:seq t p.1 with
   | false=>rfl
   | true=>cases h2:seq t s with
    | false=>rfl
    | true=>
     have e1:t=p.1:=vyd h1;have e2:t=s:=vyd h2;rw [<-e1,e2,zfk] at h
     cases h
section
variable {α β:Type} (nm:β->ByteArray) (ok:β->Bool) (val:β->α) (out:ByteArray->Bool)
def gE (V:List (ByteArray×α)):List β->Option (List (ByteArray×α))
 | []=>some V
 | b::l=>bif (ycr V (nm b)).isSome||out (nm b)||!isName (nm b)||isWord (nm b)||!ok b then none else gE (updF V (nm b) (val b)) l
def fnd (l:List β) (s:ByteArray):Option β:=l.find? (fun b=>seq s (nm b))
end
section
variable {α β:Type} {nm:β->ByteArray} {ok:β->Bool} {val:β->α} {out:ByteArray->Bool}
theorem z7v (s:ByteArray):fnd nm [] s=none:=rfl
theorem vvu (b:β) (l:List β) (s:ByteArray):fnd nm (b::l) s=bif seq s (nm b) then some b else fnd nm l s:=by
 unfold fnd;rw [List.find?_cons];cases seq s (nm b)<;>rfl
theorem z2v {l:List β} {s:ByteArray}:fnd nm l s=none↔s∉l.map nm:=by
 induction l with
 | nil=>simp [z7v]
 | cons b l ih=>
  rw [vvu,List.map_cons,List.mem_cons,not_or]
  cases h:seq s (nm b) with
  | true=>rw [cond_true];exact ⟨fun h=>(by cases h),fun h2=>absurd (vyd h) h2.1⟩
  | false=>
   rw [cond_false,ih];exact ⟨fun h2=>⟨fun e=>(by rw [e,zfk] at h;cases h),h2⟩,fun h2=>h2.2⟩
theorem ypj {l:List β} {s:ByteArray} {b:β} (h:fnd nm l s=some b):b∈l/\s=nm b:=by
 unfold fnd at h;have h1:=List.find?_some h;exact ⟨List.mem_of_find?_eq_some h,vyd h1⟩
theorem xto {l:List β} {s:ByteArray}:(fnd nm l s).isSome=true↔s∈l.map nm:=by
 cases h:fnd nm l s with
 | none=>exact ⟨fun h=>(by cases h),fun hm=>absurd hm (z2v.1 h)⟩
 | some b=>
  have:=ypj h
  exact ⟨fun _=>(by rw [this.2];exact List.mem_map_of_mem this.1),fun _=>rfl⟩
def zc7 (nm:β->ByteArray) (ok:β->Bool) (out:ByteArray->Bool) (V:List (ByteArray×α)) (b:β):Prop:=ok b=true/\isNamed (nm b)=true/\out (nm b)=false/\ycr V (nm b)=none
theorem w5y {V:List (ByteArray×α)} {b:β}:((ycr V (nm b)).isSome||out (nm b)||!isName (nm b)||isWord (nm b)||!ok b)=false↔zc7 nm ok out V b:=by
 unfold zc7 isNamed
 cases ycr V (nm b)<;>cases out (nm b)<;>cases isName (nm b)<;>cases isWord (nm b)<;>cases ok b<;>simp
theorem xvn:∀{l:List β} {V W:List (ByteArray×α)},gE nm ok val out V l=some W->(∀ b∈l,zc7 nm ok out V b)/\(l.map nm).Nodup/\∀ s,ycr W s=(match fnd nm l s with
 | some b=>some (val b)
 | none=>ycr V s)
 | [],V,W,h=>by
  rw [gE] at h;cases h;exact ⟨fun b hb=>by (cases hb),List.nodup_nil,fun s=>rfl⟩
 | b::l,V,W,h=>by
  rw [gE] at h
  cases hc:((ycr V (nm b)).isSome||out (nm b)||!isName (nm b)||isWord (nm b)||!ok b) with
  | true=>rw [hc] at h;cases h
  | false=>
   rw [hc,cond_false] at h;have hb:=w5y.1 hc;obtain ⟨h1,h2,h3⟩:=xvn h
   have hnot:∀ c∈l,nm c≠nm b:=fun c hc' e=>by
    have:=(h1 c hc').2.2.2
    rw [e,ztq,zfk] at this
    cases this
   refine ⟨fun c hc'=>?_,?_,fun s=>?_⟩
   . rcases List.mem_cons.1 hc' with rfl | hc'
     . exact hb
     . obtain ⟨q1,q2,q3,q4⟩:=h1 c hc';rw [ztq,x2w (hnot c hc')] at q4;exact ⟨q1,q2,q3,q4⟩
   . rw [List.map_cons,List.nodup_cons];refine ⟨fun hm=>?_,h2⟩;obtain ⟨c,hc1,hc2⟩:=List.mem_map.1 hm;exact hnot c hc1 hc2
   . rw [h3 s, vvu]
     cases hs:seq s (nm b) with
     | true=>
      have e:=vyd hs
      have:fnd nm l s=none:=z2v.2 (fun hm=>by
       obtain ⟨c,hc1,hc2⟩:=List.mem_map.1 hm
       exact hnot c hc1 (by rw [hc2,e]))
      rw [this];simp only [cond_true];rw [ztq,hs];rfl
     | false=>
      rw [cond_false]
      cases fnd nm l s with
      | some c=>rfl
      | none=>simp only;rw [ztq,hs];rfl
theorem ych:∀{l:List β} {V:List (ByteArray×α)},(∀ b∈l,zc7 nm ok out V b)->(l.map nm).Nodup->∃ W,gE nm ok val out V l=some W
 | [],V,_,_=>⟨V,rfl⟩
 | b::l,V,h,hn=>by
  rw [List.map_cons,List.nodup_cons] at hn;rw [gE,w5y.2 (h b (by simp)),cond_false];refine ych (fun c hc=>?_) hn.2;obtain ⟨q1,q2,q3,q4⟩:=h c (by simp [hc]);refine ⟨q1,q2,q3,?_⟩;rw [ztq,x2w (fun e=>hn.1 (by rw [<-e];exact List.mem_map_of_mem hc))];exact q4
end
section
variable {α β:Type} (nm:β->ByteArray) (ok:β->Bool) (val:β->α) (tok:Tb->Bool)
def entG (bs:List β) (ms:List Tb):Option (List (ByteArray×α)×List (ByteArray×Tb)):=match gE nm ok val (fun _=>false) [] bs with
 | none=>none
 | some V=>(gE Tb.name tok id (fun s=>(ycr V s).isSome) [] ms).map fun T=>(V,T)
def x6g (l:List ByteArray):Prop:=(∀ s∈l,isNamed s=true)/\l.Nodup
instance (l:List ByteArray):Decidable (x6g l):=inferInstanceAs (Decidable (_/\_))
end
section
variable {α β:Type} {nm:β->ByteArray} {ok:β->Bool} {val:β->α} {tok:Tb->Bool}
theorem vxk {bs:List β} {V:List (ByteArray×α)} {T:List (ByteArray×Tb)} (h:entG nm ok val tok bs ms=some (V,T)) :
 (∀ b∈bs,ok b=true)/\(∀ t∈ms,tok t=true)/\x6g (bs.map nm++ms.map Tb.name)/\(∀ s,ycr V s=(fnd nm bs s).map val)/\(∀ s,ycr T s=fnd Tb.name ms s):=by
 unfold entG at h
 cases h1:gE nm ok val (fun _=>false) [] bs with
 | none=>rw [h1] at h;cases h
 | some W=>
  rw [h1] at h;simp only at h
  cases h2:gE Tb.name tok id (fun s=>(ycr W s).isSome) [] ms with
  | none=>rw [h2] at h;cases h
  | some U=>
   rw [h2] at h
   cases h;obtain ⟨a1,a2,a3⟩:=xvn h1;obtain ⟨b1,b2,b3⟩:=xvn h2
   have hV:∀ s,ycr V s=(fnd nm bs s).map val:=fun s=>by rw [a3 s];cases fnd nm bs s<;>rfl
   refine ⟨fun b hb=>(a1 b hb).1,fun t ht=>(b1 t ht).1,⟨fun s hs=>?_,?_⟩,hV,fun s=>by rw [b3 s];cases fnd Tb.name ms s<;>rfl⟩
   . rcases List.mem_append.1 hs with hs | hs
     . obtain ⟨b,hb,rfl⟩:=List.mem_map.1 hs;exact (a1 b hb).2.1
     . obtain ⟨t,ht,rfl⟩:=List.mem_map.1 hs;exact (b1 t ht).2.1
   . rw [List.nodup_append];refine ⟨a2,b2,fun x hx y hy e=>?_⟩;subst e;obtain ⟨t,ht,rfl⟩:=List.mem_map.1 hy
     have:=(b1 t ht).2.2.1
     simp only [hV,Option.isSome_map] at this;rw [xto.2 hx] at this
     cases this
theorem zuo {bs:List β} (h1:∀ b∈bs,ok b=true) (h2:∀ t∈ms,tok t=true) (h3:x6g (bs.map nm++ms.map Tb.name)):∃ p,entG nm ok val tok bs ms=some p:=by
 obtain ⟨h3,h4⟩:=h3;rw [List.nodup_append] at h4;obtain ⟨n1,n2,n3⟩:=h4;obtain ⟨V,hV⟩:=ych (val:=val) (V:=([]:List (ByteArray×α))) (out:=fun _=>false) (ok:=ok) (nm:=nm) (fun b hb=>⟨h1 b hb,h3 _ (by simp only [List.mem_append];exact .inl (List.mem_map_of_mem hb)),rfl,rfl⟩) n1
 have hlV:∀ s,ycr V s=(fnd nm bs s).map val:=fun s=>by rw [(xvn hV).2.2 s];cases fnd nm bs s<;>rfl
 obtain ⟨T,hT⟩:=ych (val:=id) (V:=([]:List (ByteArray×Tb))) (out:=fun s=>(ycr V s).isSome) (ok:=tok) (nm:=Tb.name) (l:=ms) (fun t ht=>⟨h2 t ht,h3 _ (by simp only [List.mem_append];exact .inr (List.mem_map_of_mem ht)),by
  simp only [hlV,Option.isSome_map];rw [Bool.eq_false_iff]
  exact fun hm=>n3 _ (xto.1 hm) _ (List.mem_map_of_mem ht) rfl,rfl⟩) n2
 exact ⟨(V,T),by unfold entG;rw [hV];simp only [hT];rfl⟩
theorem yee {bs:List β}:(entG nm ok val tok bs ms).isSome=(bs.all ok&&ms.all tok&&decide (x6g (bs.map nm++ms.map Tb.name))):=by
 cases h:entG nm ok val tok bs ms with
 | some p=>
  obtain ⟨V,T⟩:=p;obtain ⟨h1,h2,h3,_,_⟩:=vxk h;rw [decide_eq_true h3,List.all_eq_true.2 h1,List.all_eq_true.2 h2];rfl
 | none=>
  cases h4:(bs.all ok&&ms.all tok&&decide (x6g (bs.map nm++ms.map Tb.name))) with
  | false=>rfl
  | true=>
   simp only [Bool.and_eq_true,List.all_eq_true,decide_eq_true_eq] at h4;obtain ⟨p,hp⟩:=zuo (val:=val) h4.1.1 h4.1.2 h4.2;rw [h] at hp;cases hp
end
end Go.Hp.T
namespace Go.Hp.T
open Go Go.RowKit Go.Slot Go.Hp Go.Slot.T
set_option maxRecDepth 10000
set_option maxHeartbeats 4000000
variable {B:Nat} {ms:List Tb}
structure Bd where
 name:ByteArray
 v:Fc
instance:Inhabited Bd:=⟨⟨⟨#[]⟩,Fc.zero⟩⟩
def Bd.C (x:Bd):List Cell:=[cS x.name,.raw (.int .i64 x.v.s),.ints .i64 x.v.L,.raw (.int .i64 x.v.t),.ints .i64 x.v.M]
abbrev bdC (x:Bd):List Cell:=[cS x.name,.raw (.int .i64 x.v.s),.ints .i64 x.v.L,.raw (.int .i64 x.v.t),.ints .i64 x.v.M]
theorem Bd.C_eq (x:Bd):x.C=bdC x:=rfl
attribute [go_sem] Bd.C_eq
abbrev Vq:=List (ByteArray×Rat)
abbrev Vt:=List (ByteArray×Tb)
variable {T:Vt}
def envQ (l:Vq):List (Value×SV):=envM (fun q=>.agg ((qC (some q)).map .dat)) l
def envB (l:Vt):List (Value×SV):=envM (fun t=>.agg ((tbC t).map .dat)) l
theorem z2aq {T:Vq} {s:ByteArray}:zgw (envQ T) (.string s)=some ((ycr T s).map fun q=>.agg ((qC (some q)).map .dat)):=vi5
theorem xwl {s:ByteArray}:zgw (envB T) (.string s)=some ((ycr T s).map fun t=>.agg ((tbC t).map .dat)):=vi5
theorem z0fq {T:Vq} {s:ByteArray} {q:Rat}:updM (envQ T) (.string s) (.agg [.dat (.raw (.int .i64 (qF (some q)).s)),.dat (.ints .i64 (qF (some q)).L),.dat (.raw (.int .i64 (qF (some q)).t)),.dat (.ints .i64 (qF (some q)).M)])=some (envQ (updF T s q)):=z6j (C:=fun q=>.agg ((qC (some q)).map .dat))
theorem w7z {s:ByteArray} {t:Tb}:updM (envB T) (.string s) (.agg [.dat (cS t.name),.dat (cS t.unit),.dat (.sl 2 (t.rows.map Rw.C))])=some (envB (updF T s t)):=z6j (C:=fun t=>.agg ((tbC t).map .dat))
attribute [go_sem] z2aq xwl z0fq w7z
abbrev tbOk (t:Tb):Bool:=zi4 (fun s=>(zte s).2) t
abbrev rB (V:Vq) (l:List Bd):Option Vq:=gE Bd.name (fun b=>decide b.v.ok) (fun b=>b.v.val) (fun _=>false) V l
abbrev rTb (V:Vq) (T:Vt) (l:List Tb):Option Vt:=gE Tb.name tbOk id (fun s=>(ycr V s).isSome) T l
abbrev entF (bs:List Bd) (ms:List Tb):Option (Vq×Vt):=entG Bd.name (fun b=>decide b.v.ok) (fun b=>b.v.val) tbOk bs ms
def xoq (n:Int) (u:ByteArray):Rs×Int:=bif decide (¬(zte u).2=0) then (Rs.zero,14) else numV (mulO (some (n:Rat)) (facO u)) (erO (some (n:Rat)) (facO u))
def y21 (V:Vq) (s:ByteArray):Rs×Int:=match ycr V s with
 | none=>(Rs.zero,11)
 | some q=>numV (addO (some q) (some ((0:Int):Rat))) 0
def woh (T:Vt) (s:ByteArray) (k:Rs):Rs×Int:=match ycr T s with
 | none=>(Rs.zero,11)
 | some t=>bif k.t then (Rs.zero,13) else numV (z0cq t k.v).1 (z0cq t k.v).2
def chV (rs:List (Rs×Int)):Rs×Int:=bif decide (¬(rs.getD 0 default).2=0) then (Rs.zero,(rs.getD 0 default).2) else
 bif !(rs.getD 0 default).1.t then (Rs.zero,13) else bif (rs.getD 0 default).1.i then rs.getD 1 default else rs.getD 2 default
def seqV:List (Rs×Int)->Int ⊕ List Rs
 | []=>.inr []
 | (r,e)::l=>bif decide (¬e=0) then .inl e else match seqV l with
  | .inl e=>.inl e
  | .inr rs=>.inr (r::rs)
def opV (T:Vt) (o:Int) (s:ByteArray) (rs:List Rs):Rs×Int:=bif decide (o=2) then woh T s (rs.getD 0 default) else
 bif decide (o=4)||decide (o=14)||decide (o=15) then logV o rs else ariV o (rs.getD 0 default) (rs.getD 1 default)
def z03q (T:Vt) (o:Int) (s:ByteArray) (q:Int ⊕ List Rs):Rs×Int:=match q with
 | .inl e=>(Rs.zero,e)
 | .inr rs=>opV T o s rs
mutual
def Ex.cal (V:Vq) (T:Vt):Ex->Rs×Int
 | .mk o n u s l=>bif decide (o=0) then xoq n u else bif decide (o=1) then y21 V s else
  bif decide (o=5) then chV (Ex.calA V T l) else z03q T o s (seqV (Ex.calA V T l))
def Ex.calA (V:Vq) (T:Vt):List Ex->List (Rs×Int)
 | []=>[]
 | y::l=>Ex.cal V T y::Ex.calA V T l
end
theorem Ex.vnj (V:Vq) (T:Vt):∀ l:List Ex,Ex.calA V T l=l.map (Ex.cal V T)
 | []=>by rw [Ex.calA];rfl
 | y::l=>by rw [Ex.calA,Ex.vnj V T l];rfl
theorem Ex.yre (V:Vq) (T:Vt) (x:Ex):x.cal V T=bif decide (x.op=0) then xoq x.n x.unit else bif decide (x.op=1) then y21 V x.name else
 bif decide (x.op=5) then chV (x.args.map (Ex.cal V T)) else z03q T x.op x.name (seqV (x.args.map (Ex.cal V T))):=by cases x;rw [Ex.cal,Ex.vnj];rfl
def valF (x:Ex) (bs:List Bd) (ms:List Tb):Rs×Int:=bif !xub x||x.xi4 then (Rs.zero,2) else match entF bs ms with
 | none=>(Rs.zero,1)
 | some p=>x.cal p.1 p.2
mutual
def Ex.nd:Ex->Nat
 | .mk _ _ _ _ l=>Ex.ndL l+1
def Ex.ndL:List Ex->Nat
 | []=>0
 | y::l=>Ex.nd y+Ex.ndL l
end
theorem Ex.z1dq (x:Ex):x.nd=Ex.ndL x.args+1:=by cases x;rw [Ex.nd];rfl
theorem Ex.xka:∀{l:List Ex} {y:Ex},y∈l->y.nd<=Ex.ndL l
 | z::l,y,h=>by
  rw [Ex.ndL]
  rcases List.mem_cons.1 h with rfl | h
  . omega
  . have:=Ex.xka h;omega
theorem Ex.nd2 {l:List Ex} (h:2<=l.length):(l.getD 0 default).nd+(l.getD 1 default).nd<=Ex.ndL l:=by
 match l,h with
 | a::b::l,_=>rw [Ex.ndL,Ex.ndL];simp only [List.getD_cons_zero,List.getD_cons_succ];omega
theorem Ex.y73:∀(x:Ex) (n lv k:Int),x.cnt n lv=(true,k)->k=n+x.nd:=by
 have hL:∀ l:List Ex,(∀ y∈l,∀(n lv k:Int),y.cnt n lv=(true,k)->k=n+y.nd)->∀ n lv k:Int,Ex.cntL l n lv=(true,k)->k=n+Ex.ndL l:=by
  intro l
  induction l with
  | nil=>intro _ n lv k h;rw [Ex.cntL] at h;cases h;rw [Ex.ndL];omega
  | cons y l ih=>
   intro hy n lv k h;rw [Ex.cntL] at h;split at h
   . cases h
   . rename_i m hm;have h1:=hy y (by simp) _ _ _ hm;have h2:=ih (fun z hz=>hy z (by simp [hz])) _ _ _ h;rw [Ex.ndL];omega
 refine Ex.ind (fun x ih n lv k h=>?_);rw [Ex.vrw] at h;by_cases h1:200<n+1
 . simp [h1] at h
 . by_cases h2:20<lv
   . simp [h2] at h
   . simp only [h1,h2,decide_false,Bool.or_self,cond_false] at h
     have:=hL x.args ih _ _ _ h
     rw [Ex.z1dq];omega
theorem zvr {x:Ex} (h:xub x=true):x.nd<=200:=by
 unfold xub at h;rw [Bool.and_eq_true] at h
 have h1:x.cnt 0 1=(true,(x.cnt 0 1).2):=by rw [<-h.1]
 have h2:=Ex.y73 _ _ _ _ h1;have h3:=Ex.v24 _ _ _ _ h1;omega
theorem yts (v:Option Rat) (e:Int):qz (numV v e).1.v<=qz v:=by
 unfold numV
 cases decide (¬e=0) with
 | true=>exact Nat.zero_le _
 | false=>exact Nat.le_refl _
theorem zyb {c:Bool} {a b:Rs×Int} {n:Nat} (h1:qz a.1.v<=n) (h2:qz b.1.v<=n):qz (bif c then a else b).1.v<=n:=by cases c<;>assumption
theorem xes (o:Int) (l:List Rs):qz (logV o l).1.v<=0:=
 zyb (Nat.le_refl _) (zyb (Nat.le_refl _) (zyb (Nat.le_refl _) (Nat.le_refl _)))
theorem ypy (o:Int) (a b:Rs):qz (ariV o a b).1.v<=qz a.v+qz b.v+1:=by
 have h1:=zwk a.v b.v;have h2:=we9 a.v b.v;have h3:=ylq a.v b.v;have h4:=wwn a.v b.v;have h5:=ygs a.v b.v;have h6:=vbu a.v b.v
 have n:∀(v:Option Rat) (e:Int),qz v<=qz a.v+qz b.v+1->qz (numV v e).1.v<=qz a.v+qz b.v+1:=fun v e h=>Nat.le_trans (yts v e) h
 exact zyb (Nat.zero_le _) (zyb (n _ _ h1) (zyb (n _ _ h2) (zyb (n _ _ (by omega)) (zyb (n _ _ h4) (zyb (n _ _ (by omega)) (zyb (n _ _ (by omega)) (zyb (Nat.zero_le _) (Nat.zero_le _))))))))
theorem vkw (t:Tb) {n:Int} (h:inI n):qz (zfd t n)<=4204:=by
 have h1:=ylq (some (n:Rat)) (facO t.unit);have h2:=wtn h;have h3:=z23q t.unit;unfold zfd;omega
theorem x24 (t:Tb) (v:Option Rat):qz (z0cq t v).1<=4204:=by
 unfold z0cq
 cases ht:zi4 (fun s=>(zte s).2) t with
 | false=>exact Nat.zero_le _
 | true=>
  cases v with
  | none=>exact Nat.zero_le _
  | some q=>
   simp only [Bool.not_true,cond_false];by_cases h0:aft q t.rows=0
   . rw [decide_eq_true h0];exact Nat.zero_le _
   . rw [decide_eq_false h0];obtain ⟨_,_,hl,hrows⟩:=yg5 ht;have hle:=wrt q t.rows;have hn:=z29q (hrows (aft q t.rows-1) (by omega)).2.1;exact vkw t (by unfold inI;omega)
def Vsm (B:Nat) (V:Vq):Prop:=∀ s q,ycr V s=some q->qs q+10<=B
theorem z01q {x:Ex} (h:yxn x=true) (h0:x.op=0):0<=x.n/\x.n<=1099511627776:=by
 unfold yxn at h;rw [decide_eq_true h0] at h;simp only [cond_true,Bool.and_eq_true,decide_eq_true_eq] at h;omega
theorem zgf : ∀ {l : List (Rs × Int)} {rs : List Rs}, seqV l = .inr rs → rs.length = l.length ∧ ∀ i, i < l.length → l.getD i default = (rs.getD i default, 0)
 | [],rs,h=>by rw [seqV] at h;cases h;exact ⟨rfl,fun i hi=>by simp at hi⟩
 | (r, e) :: l, rs, h => by
  rw [seqV] at h;by_cases he:e=0
  . subst he;simp only [not_true_eq_false,decide_false,cond_false] at h
    cases hs:seqV l with
    | inl e=>rw [hs] at h;cases h
    | inr r2=>
     rw [hs] at h;cases h;obtain ⟨h1,h2⟩:=zgf hs;refine ⟨by simp [h1],fun i hi=>?_⟩
     cases i with
     | zero=>rfl
     | succ i=>simpa using h2 i (by simpa using hi)
  . rw [decide_eq_true he] at h;cases h
theorem zau {V:Vq} (hB:4300<=B) (hV:Vsm B V):∀ x:Ex,x.shaped=true->x.xi4=false->qz (x.cal V T).1.v<=B*x.nd:=by
 refine Ex.ind (fun x ih hsh hcl=>?_);rw [Ex.xg3,Bool.and_eq_true,List.all_eq_true] at hsh;rw [Ex.wd9,Bool.or_eq_false_iff,decide_eq_false_iff_not,List.any_eq_false] at hcl;obtain ⟨hnode,hargs⟩:=hsh;have hnd:=Ex.z1dq x;have h1:B<=B*x.nd:=Nat.le_mul_of_pos_right _ (by omega)
 have hmem:∀ i,i<x.args.length->qz (((x.args.map (Ex.cal V T)).getD i default)).1.v<=B*(x.args.getD i default).nd:=fun i hi=>by
  have hm:=w4t hi;rw [getD_map hi];exact ih _ hm (hargs _ hm) (by simpa using hcl.2 _ hm)
 have hle:∀ i,i<x.args.length->B*(x.args.getD i default).nd<=B*x.nd:=fun i hi=>Nat.mul_le_mul_left _ (by have:=Ex.xka (w4t hi);omega)
 rw [Ex.yre];by_cases h0:x.op=0
 . rw [decide_eq_true h0,cond_true];have hn:=z01q hnode h0;unfold xoq
   cases decide (¬(zte x.unit).2=0) with
   | true=>exact Nat.zero_le _
   | false=>
    have:=yts (mulO (some (x.n:Rat)) (facO x.unit)) (erO (some (x.n:Rat)) (facO x.unit))
    have h2:=ylq (some (x.n:Rat)) (facO x.unit);have h3:=wtn (n:=x.n) (by unfold inI;omega);have h4:=z23q x.unit;rw [cond_false];omega
 rw [decide_eq_false h0,cond_false];by_cases h01:x.op=1
 . rw [decide_eq_true h01,cond_true];unfold y21
   cases hl:ycr V x.name with
   | none=>exact Nat.zero_le _
   | some q=>
    have:=hV _ _ hl
    have h2:=yts (addO (some q) (some ((0:Int):Rat))) 0;have h3:=zwk (some q) (some ((0:Int):Rat));have h4:=wtn (n:=0) (by decide);simp only;have h5:qz (some q)=qs q:=rfl;omega
 rw [decide_eq_false h01,cond_false]
 have hne:x.args.length≠0:=fun h=>by
  unfold yxn at hnode;rw [decide_eq_false h0,decide_eq_false h01,h] at hnode;simp at hnode
 obtain ⟨hl2,hl3⟩:=x6z hnode hcl.1 hne;by_cases h5:x.op=5
 . rw [decide_eq_true h5, cond_true];have hl:=hl3 h5;unfold chV
   cases decide (¬((x.args.map (Ex.cal V T)).getD 0 default).2=0) with
   | true=>exact Nat.zero_le _
   | false=>
    cases ((x.args.map (Ex.cal V T)).getD 0 default).1.t with
    | false=>exact Nat.zero_le _
    | true=>
     cases ((x.args.map (Ex.cal V T)).getD 0 default).1.i with
     | true=>exact Nat.le_trans (hmem 1 (by omega)) (hle 1 (by omega))
     | false=>exact Nat.le_trans (hmem 2 (by omega)) (hle 2 (by omega))
 rw [decide_eq_false h5,cond_false]
 cases hs:seqV (x.args.map (Ex.cal V T)) with
 | inl e=>exact Nat.zero_le _
 | inr rs=>
  obtain ⟨hlen,hget⟩:=zgf hs;rw [List.length_map] at hlen hget;show qz (opV T x.op x.name rs).1.v<=_;unfold opV;by_cases h2:x.op=2
  . rw [decide_eq_true h2, cond_true];unfold woh
    cases ycr T x.name with
    | none=>exact Nat.zero_le _
    | some t=>
     simp only
     cases (rs.getD 0 default).t with
     | true=>exact Nat.zero_le _
     | false=>
      have h3:=yts (z0cq t (rs.getD 0 default).v).1 (z0cq t (rs.getD 0 default).v).2;have h4:=x24 t (rs.getD 0 default).v;rw [cond_false];omega
  rw [decide_eq_false h2,cond_false]
  cases hlg:decide (x.op=4)||decide (x.op=14)||decide (x.op=15) with
  | true=>exact Nat.le_trans (xes _ _) (Nat.zero_le _)
  | false=>
   rw [cond_false]
   have h4:x.op≠4:=fun h=>by rw [decide_eq_true h] at hlg;simp at hlg
   have hl:=hl2 h2 h4;have ha:=ypy x.op (rs.getD 0 default) (rs.getD 1 default);have m0:=hmem 0 (by omega);have m1:=hmem 1 (by omega);rw [hget 0 (by omega)] at m0;rw [hget 1 (by omega)] at m1;have hn2:=Ex.nd2 hl;have hd:=Nat.mul_add B (x.args.getD 0 default).nd (x.args.getD 1 default).nd;have he:B*((x.args.getD 0 default).nd+(x.args.getD 1 default).nd+1)<=B*x.nd:=Nat.mul_le_mul_left _ (by omega);rw [Nat.mul_add,hd] at he;simp only at m0 m1;omega
theorem x98 {bs:List Bd} {V:Vq} (h:entF bs ms=some (V,T)) (hb:∀ b∈bs,b.v.sz+10<=B):Vsm B V:=fun s q hq=>by
 obtain ⟨h1,_,_,h4,_⟩:=vxk h;rw [h4 s] at hq
 cases hf:fnd Bd.name bs s with
 | none=>rw [hf] at hq;cases hq
 | some b=>
  rw [hf] at hq;cases hq;have hm:=(ypj hf).1;have e:=Fc.ylb (of_decide_eq_true (h1 b hm));have h2:=hb b hm;rw [e] at h2;exact h2
theorem wed {bs:List Bd} {V:Vq} (h:entF bs ms=some (V,T)) (hb:∀ t∈ms,t.Sm):∀ s t,ycr T s=some t->t.Sm/\tbOk t=true:=fun s t ht=>by
 obtain ⟨_,h2,_,_,h5⟩:=vxk h;rw [h5 s] at ht;have hm:=(ypj ht).1;exact ⟨hb t hm,h2 t hm⟩
end Go.Hp.T
namespace Go.Hp.T
open Go Go.RowKit Go.Slot Go.Hp Go.Slot.T
open Go.Proofs.Tryz (prog)
set_option maxRecDepth 10000
set_option maxHeartbeats 4000000
variable {Γ:List (Nat×List Cell)}
variable {α:Type} {i j:Nat}
theorem xdn [Inhabited α] {p:α->Bool} {l:List α} {n:Nat} (h1:i<n) (h2:i<l.length) (h:p (l.getD i default)=false):(l.take n).all p=false:=by
 cases e:(l.take n).all p with
 | false=>rfl
 | true=>
  have hm:l.getD i default∈l.take n:=by
   rw [show l.getD i default=l[i] from by simp [h2]];exact List.mem_take_iff_getElem.2 ⟨i,by omega,rfl⟩
  rw [List.all_eq_true.1 e _ hm] at h;cases h
theorem z8a [Inhabited α] {p:α->Bool} {l:List α} {n:Nat} (hj:∀ j,j<i->p (l.getD j default)=true) (h:i=n\/i=l.length):(l.take n).all p=true:=by
 rw [List.all_eq_true];intro y hy;obtain ⟨j,hj2,rfl⟩:=List.mem_take_iff_getElem.1 hy
 have:=hj j (by omega)
 rwa [show l.getD j default=l[j] from by simp [show j<l.length by omega]] at this
mutual
def Ex.has (op:Int) (nm:ByteArray):Ex->Bool
 | .mk o _ _ s l=>Ex.hasL op nm l||(decide (o=op)&&seq s nm)
def Ex.hasL (op:Int) (nm:ByteArray):List Ex->Bool
 | []=>false
 | y::l=>Ex.has op nm y||Ex.hasL op nm l
end
theorem any_true {p:Ex->Bool} {l:List Ex} (hj:j<l.length) (h:p (l.getD j default)=true):l.any p=true:=List.any_eq_true.2 ⟨_,w4t hj,h⟩
theorem any_false {p:Ex->Bool} {l:List Ex} (h:∀ j,j<l.length->p (l.getD j default)=false):l.any p=false:=by
 rw [List.any_eq_false];intro y hy;obtain ⟨j,hj,rfl⟩:=List.getElem_of_mem hy
 have:=h j hj
 rw [show l.getD j default=l[j] from by simp [hj]] at this;simp [this]
theorem z08q {q:Rat}:∀{l:List Rw} {j:Nat},j<aft q l->((l.getD j default).k:Rat)<=q
 | [],j,h=>by unfold aft at h;omega
 | x::l,j,h=>by
  unfold aft at h;by_cases hx:(x.k:Rat)<=q
  . rw [decide_eq_true hx,cond_true] at h
    cases j with
    | zero=>exact hx
    | succ j=>simpa using z08q (l:=l) (j:=j) (by omega)
  . rw [decide_eq_false hx,cond_false] at h;omega
theorem xza {q:Rat}:∀{l:List Rw},aft q l<l.length->¬((l.getD (aft q l) default).k:Rat)<=q
 | [],h=>by simp at h
 | x::l,h=>by
  unfold aft at h ⊢;by_cases hx:(x.k:Rat)<=q
  . rw [decide_eq_true hx,cond_true] at h ⊢;simpa using xza (l:=l) (by simpa using h)
  . rw [decide_eq_false hx,cond_false];exact hx
theorem w0c {q:Rat} {l:List Rw} (hs:Rows l) (hj:j<l.length):((l.getD j default).k:Rat)<=q↔j<aft q l:=by
 refine ⟨fun h=>?_,z08q⟩
 rcases Nat.lt_or_ge j (aft q l) with h1 | h1
 . exact h1
 . have h2:=xza (q:=q) (l:=l) (by omega);exact absurd (Rat.le_trans (z8y (hs.mono h1 hj)) h) h2
theorem z11q (t:Tb) (q:Rat) (ht:zi4 (fun s=>(zte s).2) t=true) (hq:qs q<=67108864):CallsD Γ prog 133 [.agg (tbC t),.agg (qC (some q))] (.one (cI ((aft q t.rows:Int)-1))):=by
 obtain ⟨_,_,hl,hrows⟩:=yg5 ht;have hle:=wrt q t.rows
 have hiff:=fun j hj=>w0c (q:=q) hrows (j:=j) hj
 have v6l:∀ j,j<t.rows.length->CallsD Γ prog 17 [.one (cI (t.rows.getD j default).k)] (.agg (qC (some ((t.rows.getD j default).k:Rat))))/\CallsD Γ prog 104 [.agg (qC (some ((t.rows.getD j default).k:Rat))),.agg (qC (some q))] (.one (cI (cmpO (some ((t.rows.getD j default).k:Rat)) (some q))))/\(decide (cmpO (some ((t.rows.getD j default).k:Rat)) (some q)<=0)=decide (j<aft q t.rows)):=fun j hj=>by
  have hk:=z29q (hrows j hj).1
  have hin:inI (t.rows.getD j default).k:=by unfold inI;omega
  have hz:=wtn hin;exact ⟨pInt _ hin,pCmp _ _ (by omega) hq,by rw [z10q];exact decide_eq_decide.2 (hiff j hj)⟩
 clear hiff hrows ht;generalize hk:aft q t.rows=k at *;refine CallsD.run [] Go.Proofs.Tryz.func133 rfl rfl rfl ?_;simp only [Go.Proofs.Tryz.f133];refine hgR ?_;refine y55 [2,3] (fun i:Nat=>[(5,.one (.dat (cI ((min i k:Nat)-1:Int)))),(6,.one (.dat (cI i)))]) (fun _=>[.box ((tbC t).map .dat) (some 60),.box ((qC (some q)).map .dat) (some 33)]) (fun i=>i<=t.rows.length) (fun i=>t.rows.length-i) 0 (Nat.zero_le _) ?_ ?_
 . refine hg ?_;exact StH.same svl rfl
 intro i hi;refine hg ?_;refine vnx (fun hlt _=>?_) (fun hlt _=>?_)
 . obtain ⟨c1,c2,c3⟩:=v6l i (by omega);generalize cmpO (some ((t.rows.getD i default).k:Rat)) (some q)=c at c2 c3;refine hg ?_
   repeat' ((first | refine hfk ?_ ?_<;>intros | refine hik ?_ | with_reducible first | refine v6l (c1) ?_ | refine vgi (c1) ?_ | refine v6l (c2) ?_ | refine vgi (c2) ?_)<;>refine hgS ?_)
   . have hik:i<k:=by first | omega | simp_all
     refine ⟨i+1,by omega,by omega,?_⟩;rw [show ((min (i+1) k:Nat):Int)-1=(i:Int) by omega];exact StH.back [2,3,5,6] 0 0 2 rfl rfl rfl rfl rfl (by kernel_rfl) (StH.same svl rfl)
   . have hik:¬i<k:=by first | omega | simp_all
     refine ⟨i+1,by omega,by omega,?_⟩;rw [show ((min (i+1) k:Nat):Int)-1=(min i k:Nat)-1 by omega];exact StH.back [2,3,5,6] 0 0 2 rfl rfl rfl rfl rfl (by kernel_rfl) (StH.same svl rfl)
 . refine hg ?_;exact RLe.ofEq (by rw [show ((min i k:Nat):Int)-1=(k:Int)-1 by omega])
theorem vbh {s:ByteArray} {u:Un} (hs:s.size<=1073741824) (h:zte s=(some u,0)):CallsD Γ prog 132 [.one (cS s)] (.tup [.agg (unQ u),.one (cI 0)]):=by
 have hr:=zeq (Γ:=Γ) s hs;rw [h] at hr;exact hr
theorem wm2 (t:Tb) (i:Nat) (ht:zi4 (fun s=>(zte s).2) t=true) (hu:t.unit.size<=1073741824) (hi:i<t.rows.length):CallsD Γ prog 134 [.agg (tbC t),.one (cI i)] (.agg (qC (zfd t (t.rows.getD i default).v))):=by
 obtain ⟨⟨u,h1,h2⟩,_,hl,hrows⟩:=yg5 ht;have hn:=z29q (hrows i hi).2.1
 have hin:inI (t.rows.getD i default).v:=by unfold inI;omega
 have hr:=vbh (Γ:=Γ) hu h1;have hz:=wtn hin;have hm:=pMul (Γ:=Γ) (some ((t.rows.getD i default).v:Rat)) (some u.f) (by omega) (by show qs u.f<=_;omega);have ho:=pInt (Γ:=Γ) (t.rows.getD i default).v hin;rw [show zfd t (t.rows.getD i default).v=mulO (some ((t.rows.getD i default).v:Rat)) (some u.f) by unfold zfd facO;rw [h1];rfl];refine CallsD.run [] Go.Proofs.Tryz.func134 rfl rfl rfl ?_;simp only [Go.Proofs.Tryz.f134];refine hgR ?_
 repeat' ((first | refine hfk ?_ ?_<;>intros | refine hik ?_ | with_reducible first | refine v6l (hr) ?_ | refine vgi (hr) ?_ | refine v6l (ho) ?_ | refine vgi (ho) ?_ | refine v6l (hm) ?_ | refine vgi (hm) ?_)<;>refine hgS ?_)
 all_goals refine lfE ?_;first | exact trivial | rfl
theorem z12q (t:Tb) (v:Option Rat) (hv:qz v<=67108864) (h1:t.name.size<=1073741824) (h2:t.unit.size<=1073741824) (h3:t.rows.length<=1073741824):CallsD Γ prog 78 [.agg (tbC t),.agg (qC v)] (qR (z0cq t v).1 (z0cq t v).2):=by
 have hr:=vf2 (Γ:=Γ) t h1 h2 h3
 cases ht:zi4 (fun s=>(zte s).2) t with
 | false=>
  rw [ht] at hr;rw [show z0cq t v=(none,1) by unfold z0cq;rw [ht];rfl];refine CallsD.run [] Go.Proofs.Tryz.func78 rfl rfl rfl ?_;simp only [Go.Proofs.Tryz.f78];refine hgR ?_
  repeat' ((first | refine hfk ?_ ?_<;>intros | refine hik ?_ | with_reducible first | refine v6l (hr) ?_ | refine vgi (hr) ?_)<;>refine hgS ?_)
  exact vmy
 | true=>
  rw [ht] at hr
  cases v with
  | none=>
   have hv2:CallsD Γ prog 48 [.agg (qC none)] (.one (cB false)):=vcj none (by omega);rw [show z0cq t none=(none,1) by unfold z0cq;rw [ht];rfl];refine CallsD.run [] Go.Proofs.Tryz.func78 rfl rfl rfl ?_;simp only [Go.Proofs.Tryz.f78];refine hgR ?_
   repeat' ((first | refine hfk ?_ ?_<;>intros | refine hik ?_ | with_reducible first | refine v6l (hr) ?_ | refine vgi (hr) ?_ | refine v6l (hv2) ?_ | refine vgi (hv2) ?_)<;>refine hgS ?_)
   exact vmy
  | some q=>
   have hv2:CallsD Γ prog 48 [.agg (qC (some q))] (.one (cB true)):=vcj (some q) (by omega);have ha:=z11q (Γ:=Γ) t q ht hv;have hle:=wrt q t.rows;by_cases h0:aft q t.rows=0
   . rw [show z0cq t (some q)=(none,4) by unfold z0cq;rw [ht];simp only [Bool.not_true,cond_false,h0,decide_true,cond_true]];rw [h0] at ha;refine CallsD.run [] Go.Proofs.Tryz.func78 rfl rfl rfl ?_;simp only [Go.Proofs.Tryz.f78];refine hgR ?_
     repeat' ((first | refine hfk ?_ ?_<;>intros | refine hik ?_ | with_reducible first | refine v6l (hr) ?_ | refine vgi (hr) ?_ | refine v6l (hv2) ?_ | refine vgi (hv2) ?_ | refine v6l (ha) ?_ | refine vgi (ha) ?_)<;>refine hgS ?_)
     all_goals first
      | exact vmy
      | (exfalso;omega)
   . rw [show z0cq t (some q)=(zfd t (t.rows.getD (aft q t.rows-1) default).v,0) by unfold z0cq;rw [ht];simp only [Bool.not_true,cond_false,decide_eq_false h0]];have hw:=wm2 (Γ:=Γ) t (aft q t.rows-1) ht h2 (by omega);rw [show ((aft q t.rows-1:Nat):Int)=(aft q t.rows:Int)-1 by omega] at hw;generalize aft q t.rows=k at *;refine CallsD.run [] Go.Proofs.Tryz.func78 rfl rfl rfl ?_;simp only [Go.Proofs.Tryz.f78];refine hgR ?_
     repeat' ((first | refine hfk ?_ ?_<;>intros | refine hik ?_ | with_reducible first | refine v6l (hr) ?_ | refine vgi (hr) ?_ | refine v6l (hv2) ?_ | refine vgi (hv2) ?_ | refine v6l (ha) ?_ | refine vgi (ha) ?_ | refine v6l (hw) ?_ | refine vgi (hw) ?_)<;>refine hgS ?_)
     all_goals first
      | (exfalso;omega)
      | refine lfE ?_;first | exact trivial | rfl
theorem xz1:∀ x:Ex,x.Sm->CallsD Γ prog 19 [.agg (exC x)] (.one (cB x.xi4)):=by
 refine Ex.ind (fun x ih hx=>?_);have hl:=hx.len;generalize hR:x.xi4=R;refine CallsD.run [] Go.Proofs.Tryz.func19 rfl rfl rfl ?_;simp only [Go.Proofs.Tryz.f19];refine hgR ?_;refine y55 [1] (fun n:Nat=>[(3,.one (.dat (cI n)))]) (fun _=>[.box ((exC x).map .dat) (some 24)]) (fun n=>n<=x.args.length/\∀ j,j<n->(x.args.getD j default).xi4=false) (fun n=>x.args.length-n) 0 ⟨Nat.zero_le _,fun j hj=>by omega⟩ ?_ ?_
 . refine hg ?_;exact StH.same svl rfl
 intro n hn;obtain ⟨hn,hj⟩:=hn;refine hg ?_
 repeat' ((first | refine hfk ?_ ?_<;>intros | refine hik ?_ | with_reducible first | refine v6l (ih _ (w4t (show n<x.args.length by omega)) (hx.arg _ (w4t (show n<x.args.length by omega)))) ?_ | refine vgi (ih _ (w4t (show n<x.args.length by omega)) (hx.arg _ (w4t (show n<x.args.length by omega)))) ?_)<;>refine hgS ?_)
 . rename_i h;exact RLe.ofEq (by rw [<-hR,Ex.wd9,any_true (by omega) h];simp)
 . rename_i h;exact ⟨n+1,⟨by omega,xf4 hj h⟩,by omega,StH.same svl rfl⟩
 all_goals
  have e:n=x.args.length:=by omega
  subst e;exact RLe.ofEq (by rw [<-hR,Ex.wd9,any_false hj];simp [*])
def tbO:Option Tb->List Cell
 | some t=>tbC t
 | none=>[cS ⟨⟨[]⟩⟩,cS ⟨⟨[]⟩⟩,.zc]
theorem wex {β:Type} [Inhabited β] {nm:β->ByteArray} {s:ByteArray}:∀{l:List β} {i:Nat},i<l.length->(∀ j,j<i->seq (nm (l.getD j default)) s=false)->seq (nm (l.getD i default)) s=true->fnd nm l s=some (l.getD i default)
 | [],i,h,_,_=>by simp at h
 | b::l,0,_,_,h=>by rw [vvu,wda,show seq (nm b) s=true from h];rfl
 | b::l,i+1,hi,hj,h=>by
  have h0:seq (nm b) s=false:=hj 0 (by omega);rw [vvu,wda,h0,cond_false,wex (l:=l) (i:=i) (by simpa using hi) (fun j hj'=>by simpa using hj (j+1) (by omega)) (by simpa using h)];rfl
theorem wtx {β:Type} [Inhabited β] {nm:β->ByteArray} {s:ByteArray} {l:List β} (h:∀ j,j<l.length->seq (nm (l.getD j default)) s=false):fnd nm l s=none:=by
 rw [z2v];intro hm;obtain ⟨b,hb,rfl⟩:=List.mem_map.1 hm;obtain ⟨j,hj,rfl⟩:=List.getElem_of_mem hb
 have:=h j hj
 rw [show l.getD j default=l[j] from by simp [hj],zfk] at this
 cases this
theorem zmt (ms:List Tb) (s:ByteArray) (hm:ms.length<=1073741824):CallsD Γ prog 77 [.one (.sl 3 (ms.map Tb.C)),.one (cS s)] (.tup [.agg (tbO (fnd Tb.name ms s)),.one (cB (fnd Tb.name ms s).isSome)]):=by
 generalize hR:fnd Tb.name ms s=R;refine CallsD.run [] Go.Proofs.Tryz.func77 rfl rfl rfl ?_;simp only [Go.Proofs.Tryz.f77];refine hgR ?_;refine y55 [0,1,4] (fun n:Nat=>[(6,.one (.dat (cI n)))]) (fun _=>[.box [.dat (cS ⟨⟨[]⟩⟩),.dat (cS ⟨⟨[]⟩⟩),.dat .zc] (some 60)]) (fun n=>n<=ms.length/\∀ j,j<n->seq (ms.getD j default).name s=false) (fun n=>ms.length-n) 0 ⟨Nat.zero_le _,fun j hj=>by omega⟩ ?_ ?_
 . refine hg ?_;exact StH.same svl rfl
 rintro n ⟨hn,hj⟩;refine hg ?_
 repeat' ((first | refine hfk ?_ ?_<;>intros | refine hik ?_)<;>refine hgS ?_)
 . rename_i h;rw [<-hR,wex (by omega) hj h];exact RLe.ofEq rfl
 . rename_i h;exact ⟨n+1,⟨by omega,xf4 hj h⟩,by omega,StH.same svl rfl⟩
 . have e:n=ms.length:=by omega
   subst e;rw [<-hR,wtx hj];exact RLe.ofEq rfl
end Go.Hp.T
namespace Go.Slot
open Go Go.RowKit Go.Slot.T
structure Sc where
 low:Fc
 high:Fc
namespace Sc
def C (s:Sc):List Cell:=[.raw (.int .i64 s.low.s),.ints .i64 s.low.L,.raw (.int .i64 s.low.t),.ints .i64 s.low.M,.raw (.int .i64 s.high.s),.ints .i64 s.high.L,.raw (.int .i64 s.high.t),.ints .i64 s.high.M]
theorem C_eq {s:Sc}:s.C=[.raw (.int .i64 s.low.s),.ints .i64 s.low.L,.raw (.int .i64 s.low.t),.ints .i64 s.low.M,.raw (.int .i64 s.high.s),.ints .i64 s.high.L,.raw (.int .i64 s.high.t),.ints .i64 s.high.M]:=_root_.id rfl
def ok (s:Sc):Prop:=s.low.ok/\s.high.ok/\Fc.cmp s.low s.high<=0
instance (s:Sc):Decidable s.ok:=inferInstanceAs (Decidable (_/\_))
def zero:Sc:=⟨Fc.zero,Fc.zero⟩
instance:DecidableEq Sc:=fun a b=>decidable_of_iff (a.low=b.low/\a.high=b.high) ⟨fun h=>by cases a;cases b;simp at h;simp [h],fun h=>by rw [h];exact ⟨rfl,rfl⟩⟩
def has (s:Sc) (f:Fc):Prop:=s.ok/\f.ok/\Fc.cmp s.low f<=0/\Fc.cmp f s.high<=0
instance (s:Sc) (f:Fc):Decidable (s.has f):=inferInstanceAs (Decidable (_/\_))
def inside (a b:Sc):Prop:=a.ok/\b.ok/\Fc.cmp b.low a.low<=0/\Fc.cmp a.high b.high<=0
instance (a b:Sc):Decidable (a.inside b):=inferInstanceAs (Decidable (_/\_))
def add (a b:Sc):Sc:=if a.ok/\b.ok then ⟨Fc.add a.low b.low,Fc.add a.high b.high⟩ else zero
end Sc
attribute [go_sem] Sc.C_eq
end Go.Slot
namespace Go.Slot.T
open Go Go.RowKit Go.Slot
open Go.Proofs.Tryz (prog)
set_option maxRecDepth 10000
set_option maxHeartbeats 4000000
theorem z26q {α:Type} {l:List α} {i:Nat} (d:α) (h:i<l.length):l.take (i+1)=l.take i++[l.getD i d]:=by
 rw [List.take_add_one];simp [h]
theorem rFew (f:Fc) (n:Int) (_h1:f.L.length<=1099511627776) (_h2:f.M.length<=1099511627776) :
 yn2 prog 25 [.agg f.C,.one (.raw (.int .i64 n))] (.one (.raw (.bool (decide ((f.sz:Int)<=n))))):=by
 have e:((f.sz:Nat):Int)=max (f.L.length:Int) f.M.length:=by unfold Fc.sz;omega
 refine yn2.run [] Go.Proofs.Tryz.func25 rfl rfl ?_;simp only [Go.Proofs.Tryz.f25];refine rgR ?_;refine z4u (fun h=>?_) (fun h=>?_)
 . have h':=decide_eq_true h;refine rg1 @h' ?_;exact ⟨_,rfl,by rw [show decide ((f.sz:Int)<=n)=decide ((f.M.length:Int)<=n) from decide_eq_decide.2 (by omega)];exact .one (.refl _)⟩
 . have h':=decide_eq_false h;refine rg1 @h' ?_;exact ⟨_,rfl,by rw [decide_eq_false (by omega)];exact .one (.refl _)⟩
theorem xlr (f:Fc) (h1:f.L.length<=1099511627776) (h2:f.M.length<=1099511627776) :
 yn2 prog 25 [.agg f.C,.one (.raw (.int .i64 4))] (.one (.raw (.bool (decide (f.sz<=4))))):=by
 have:=rFew f 4 h1 h2
 rwa [decide_eq_decide.2 (show (f.sz:Int)<=4↔f.sz<=4 by omega)] at this
theorem wbl (s:Int) (L:List Int) (s':Int) (M:List Int) (lL:L.length<=1073741824) (_lM:M.length<=1073741824) :
 yn2 prog 80 [.agg [.raw (.int .i64 s),.ints .i64 L],.agg [.raw (.int .i64 s'),.ints .i64 M]] (.one (.raw (.bool (decide (s=s'/\L=M))))):=by
 obtain ⟨r,hr⟩:∃ r,r=decide (s=s'/\L=M):=⟨_,rfl⟩;rw [<-hr]
 have bad:¬(s=s'/\L=M)->false=r:=fun h=>by rw [hr,decide_eq_false h]
 by_cases h1:s=s'
 . subst h1;by_cases h2:(L.length:Int)=M.length
   . have hl:L.length=M.length:=by omega
     have h2':¬((L.length:Int)≠M.length):=fun h=>h h2
     refine yn2.run [] Go.Proofs.Tryz.func80 rfl rfl ?_;simp only [Go.Proofs.Tryz.f80];refine rgR ?_;refine z08 (fun h=>absurd h h2') (fun _=>?_);refine rg ?_;refine vxs [] (fun i:Nat=>[(5,.one (.raw (.int .i64 i)))]) (fun i=>i<=L.length/\L.take i=M.take i) (fun i=>L.length-i) 0 ⟨Nat.zero_le _,rfl⟩ ?_ ?_
     . refine rg ?_;exact StLe.weaken (by repeat' first | exact .nil | refine .cons (by first | exact .refl _ | exact .any _) ?_) rfl
     rintro i ⟨hi,he⟩;refine rg ?_;refine z08 (fun h1=>?_) (fun h1=>?_)
     . have hg:∀(l:List Int),i<l.length->l.take (i+1)=l.take i++[l.getD i 0]:=fun l h=>z26q 0 h
       refine rg ?_;refine indk (by kernel_rfl) ?_;refine rg ?_;refine z08 (fun h2=>?_) (fun h2=>?_)
       . refine rg ?_;exact ⟨_,rfl,by rw [bad (fun e=>h2 (by rw [e.2]))];exact .one (.refl _)⟩
       . have h2:L.getD i 0=M.getD i 0:=by omega
         refine rg ?_;refine ⟨i+1,⟨by omega,?_⟩,by omega,StLe.weaken (by repeat' first | exact .nil | refine .cons (by first | exact .refl _ | exact .any _) ?_) rfl⟩;rw [hg L (by omega),hg M (by omega),he,h2]
     . have hi:i=L.length:=by omega
       subst hi;rw [List.take_length,hl,List.take_length] at he
       have e:true=r:=by rw [hr,decide_eq_true ⟨rfl,he⟩]
       refine rg ?_;exact ⟨_,rfl,by rw [e];exact .one (.refl _)⟩
   . have h2:(L.length:Int)≠M.length:=h2;refine yn2.run [] Go.Proofs.Tryz.func80 rfl rfl ?_;simp only [Go.Proofs.Tryz.f80];refine rgR ?_;refine z08 (fun _=>?_) (fun h=>absurd h2 h);refine rg ?_;exact ⟨_,rfl,by rw [bad (fun e=>h2 (by rw [e.2]))];exact .one (.refl _)⟩
 . have h1':=decide_eq_true (show s≠s' from h1);refine yn2.run [] Go.Proofs.Tryz.func80 rfl rfl ?_;simp only [Go.Proofs.Tryz.f80];refine rgR ?_;refine xjr (fun h=>absurd h1 h) (fun h=>?_);refine rg1 @h1' ?_;exact ⟨_,rfl,by rw [bad (fun e=>h1 e.1)];exact .one (.refl _)⟩
theorem z1cq (a b:Fc) (ha:a.sz<=67108864) (hb:b.sz<=67108864):yn2 prog 37 [.agg a.C,.agg b.C] (.one (.raw (.bool (decide (a=b))))):=by
 have la:=szL ha;have lb:=szL hb;obtain ⟨r,hr⟩:∃ r,r=decide (a=b):=⟨_,rfl⟩;rw [<-hr];by_cases h:a.s=b.s/\a.L=b.L
 . have h1:=wbl a.s a.L b.s b.L (by omega) (by omega);rw [decide_eq_true h] at h1;have h2:=wbl a.t a.M b.t b.M (by omega) (by omega)
   have e:decide (a.t=b.t/\a.M=b.M)=r:=by
    rw [hr];apply decide_eq_decide.2;constructor
    . intro h';cases a;cases b;simp at h h';simp [h,h']
    . intro h';rw [h'];exact ⟨rfl,rfl⟩
   rw [e] at h2;refine yn2.run [] Go.Proofs.Tryz.func37 rfl rfl ?_;simp only [Go.Proofs.Tryz.f37];refine rgR ?_;refine v1h h1 ?_;refine rg ?_;refine v1h h2 ?_;refine rg ?_;exact ⟨_,rfl,.one (.refl _)⟩
 . have h1:=wbl a.s a.L b.s b.L (by omega) (by omega);rw [decide_eq_false h] at h1
   have e:r=false:=by rw [hr,decide_eq_false (fun e=>h (by rw [e];exact ⟨rfl,rfl⟩))]
   subst e;refine yn2.run [] Go.Proofs.Tryz.func37 rfl rfl ?_;simp only [Go.Proofs.Tryz.f37];refine rgR ?_;refine v1h h1 ?_;refine rg ?_;exact ⟨_,rfl,.one (.refl _)⟩
end Go.Slot.T
namespace Go.Hp.T
open Go Go.RowKit Go.Slot Go.Hp
set_option maxRecDepth 10000
theorem nc0:((0:Nat):Int)=0:=rfl
theorem nc1:((1:Nat):Int)=1:=rfl
theorem nc2:((2:Nat):Int)=2:=rfl
theorem nc3:((3:Nat):Int)=3:=rfl
attribute [go_sem] decide_true decide_false nc0 nc1 nc2 nc3
theorem yl9 {x:Ex} (h:yxn x=true) (hne:x.args.length≠0):2<=x.op/\x.op<=15:=by
 unfold yxn at h;by_cases a0:x.op=0
 . rw [decide_eq_true a0,cond_true] at h;simp only [Bool.and_eq_true,decide_eq_true_eq] at h;omega
 rw [decide_eq_false a0,cond_false] at h
 cases hb:(decide (¬x.n=0)||decide (¬x.unit.size=0)) with
 | true=>rw [hb,cond_true] at h;cases h
 | false=>
 rw [hb,cond_false] at h;by_cases a1:x.op=1
 . rw [decide_eq_true a1,cond_true] at h;simp only [Bool.and_eq_true,decide_eq_true_eq] at h;omega
 rw [decide_eq_false a1,cond_false] at h;by_cases a2:x.op=2
 . omega
 by_cases a3:x.op=3
 . omega
 by_cases a4:x.op=4
 . omega
 by_cases a5:x.op=5
 . omega
 rw [decide_eq_false a2,decide_eq_false a3,decide_eq_false a4,decide_eq_false a5] at h;simp only [cond_false] at h;by_cases a6:x.op=10\/x.op=11
 . omega
 rw [decide_eq_false (fun h=>a6 (.inl h)),decide_eq_false (fun h=>a6 (.inr h))] at h;simp only [Bool.or_self,cond_false,Bool.and_eq_true] at h
 have:=h.1.1
 unfold isOp at this;simp only [Bool.or_eq_true,decide_eq_true_eq] at this;omega
end Go.Hp.T
