/- The proof, part R39: Xf, Dd, Qe, Qf, Qh, Qk, Gp. -/
import Derived.Test.YtmegdbbbllffkaaGreatDoorR38
import Derived.Test.YtmegdbbbllffkaaGreatDoorR37
import Derived.Test.YtmegdbbbllffkaaGreatDoorR36
namespace Go.Hp.T
open Go Go.RowKit Go.Slot Go.Hp Go.Slot.T
open Go.Proofs.Tryz (prog)
set_option maxRecDepth 10000
set_option maxHeartbeats 4000000
variable {Γ:List (Nat×List Cell)}
variable {l:List ByteArray}
def strC (s:ByteArray):List Cell:=[cS s]
theorem zh4 (s:ByteArray):strC s=[cS s]:=rfl
attribute [go_sem] zh4
def okN (l:List ByteArray) (j:Nat):Prop:=isNamed (l.getD j default)=true/\∀ k,k<j->l.getD k default≠l.getD j default
theorem x0c:xfk l↔∀ j,j<l.length->okN l j:=by
 unfold xfk okN;constructor
 . rintro ⟨h1,h2⟩ j hj
   have e:l.getD j default=l[j]:=by simp [hj]
   refine ⟨by rw [e];exact h1 _ (List.getElem_mem hj),fun k hk=>?_⟩
   have e2:l.getD k default=l[k]:=by simp [show k<l.length by omega]
   rw [e,e2];exact List.pairwise_iff_getElem.1 h2 k j (by omega) hj hk
 . intro h;refine ⟨fun s hs=>?_,?_⟩
   . obtain ⟨j,hj,rfl⟩:=List.getElem_of_mem hs
     have:=(h j hj).1
     rwa [show l.getD j default=l[j] by simp [hj]] at this
   . refine List.pairwise_iff_getElem.2 (fun i j hi hj hij=>?_)
     have:=(h j hj).2 i hij
     rwa [show l.getD j default=l[j] by simp [hj],show l.getD i default=l[i] by simp [hi]] at this
theorem zgt {j:Nat} (hj:j<l.length) (h:¬okN l j):decide (xfk l)=false:=decide_eq_false (fun hg=>h (x0c.1 hg j hj))
theorem w0x (names:List ByteArray) (ms:List Tb) (hn:names.length<=1048576) (hm:ms.length<=1048576) (hns:∀ s∈names,s.size<=1073741824) (hms:∀ t∈ms,t.Sm):CallsD Γ prog 49 [.one (.sl 1 (names.map strC)),.one (.sl 3 (ms.map Tb.C))] (.one (cB (ms.all tbOk&&decide (xfk (names++ms.map Tb.name))))):=by
 generalize hR:(ms.all tbOk&&decide (xfk (names++ms.map Tb.name)))=R;refine CallsD.run [] Go.Proofs.Tryz.func49 rfl rfl rfl ?_;simp only [Go.Proofs.Tryz.f49];refine hgR ?_;refine y55 [1] (fun n:Nat=>[(5,.one (.sl 0 1 0 (names.length+n))),(6,.one (.dat (cI n)))]) (fun n=>[.arr (.sl 1 ((names++(ms.take n).map Tb.name).map strC)) 0 (some 9)])
  (fun n=>n<=ms.length/\∀ j,j<n->tbOk (ms.getD j default)=true) (fun n=>ms.length-n) 0 ⟨Nat.zero_le _,fun j hj=>by omega⟩ ?_ ?_
 . refine hg ?_;exact StH.same svl (by simp)
 rintro n ⟨hn,hj⟩
 have hlenA:(names++(ms.take n).map Tb.name).length=names.length+n:=by simp;omega
 refine hg ?_;refine vnx (fun hlt _=>?_) (fun hlt _=>?_)
 . have hlt':n<ms.length:=by omega
   have hy:=hms _ (w4t hlt');have hc:=w8f (Γ:=Γ) _ hy.n hy.u hy.r
   have hbad:tbOk (ms.getD n default)=false->R=false:=fun h=>by
    rw [<-hR,show ms.all tbOk=false by
     cases hall:ms.all tbOk with
     | false=>rfl
     | true=>rw [List.all_eq_true.1 hall _ (w4t hlt')] at h;cases h]
    rfl
   have ht:(names++(ms.take n).map Tb.name).map strC++[[cS (ms.getD n default).name]]=(names++(ms.take (n+1)).map Tb.name).map strC:=by
    rw [z4f hlt'];simp only [List.map_append,List.append_assoc,List.map_cons,List.map_nil];rfl
   have hl2:((names++(ms.take (n+1)).map Tb.name).map strC).length=names.length+(n+1):=by simp;omega
   clear hR
   cases hT:tbOk (ms.getD n default) with
   | false=>
    have hT':zi4 (fun s=>(zth s).2) (ms.getD n default)=false:=hT;rw [hbad hT];rw [hT'] at hc;clear hbad ht;refine hg ?_
    repeat' ((first | refine hfk ?_ ?_<;>intros | refine hik ?_ | with_reducible first | refine v6l (hc) ?_ | refine vgi (hc) ?_)<;>refine hgS ?_)
    exact RLe.ofEq rfl
   | true=>
    have hT':zi4 (fun s=>(zth s).2) (ms.getD n default)=true:=hT;rw [hT'] at hc;have hnext:=xf4 (p:=fun j=>tbOk (ms.getD j default)=true) hj hT;clear hbad hj hT hT';refine hg ?_
    repeat' ((first | refine hfk ?_ ?_<;>intros | refine hik ?_ | with_reducible first | refine v6l (hc) ?_ | refine vgi (hc) ?_)<;>refine hgS ?_)
    refine ⟨n+1,⟨by omega,hnext⟩,by omega,?_⟩
    try simp only [ht,hl2]
    exact StH.back [1,5,6] 0 1 1 rfl rfl rfl rfl rfl (by kernel_rfl) (StH.same svl rfl)
 . have e:n=ms.length:=by omega
   subst e
   have hall:ms.all tbOk=true:=by
    rw [List.all_eq_true];intro t ht;obtain ⟨j,hj',rfl⟩:=List.getElem_of_mem ht
    have:=hj j hj'
    rwa [show ms.getD j default=ms[j] from by simp [hj']] at this
   rw [hall,Bool.true_and] at hR;rw [List.take_length] at hlenA ⊢
   have hsz:∀ j,j<(names++ms.map Tb.name).length->((names++ms.map Tb.name).getD j default).size<=1073741824:=fun j hj=>by
    rcases List.mem_append.1 (w4t hj) with h | h
    . exact hns _ h
    . obtain ⟨t,ht,e⟩:=List.mem_map.1 h;rw [<-e];exact (hms t ht).n
   clear hall hj hns hms;generalize names++ms.map Tb.name=L at *;rw [<-hlenA]
   have hL:L.length<=2097152:=by omega
   clear hlenA;refine hg ?_;refine y55 [5] (fun j:Nat=>[(7,.one (.dat (cI j)))]) (fun _=>[.arr (.sl 1 (L.map strC)) 0 (some 9)]) (fun j=>j<=L.length/\∀ k,k<j->okN L k) (fun j=>L.length-j) 0 ⟨Nat.zero_le _,fun k hk=>by omega⟩ ?_ ?_
   . refine hg ?_;exact StH.same svl rfl
   rintro j ⟨hj,hk⟩;refine hg ?_;refine vnx (fun hlt _=>?_) (fun hlt _=>?_)
   . have hlt':j<L.length:=by omega
     have c1:=z2u (Γ:=Γ) (L.getD j default) (hsz j hlt');have c2:=x1b (Γ:=Γ) (L.getD j default)
     cases hN:isName (L.getD j default) with
     | false=>
      rw [hN] at c1;rw [<-hR,zgt hlt' (fun h'=>by have:=h'.1;unfold isNamed at this;rw [hN] at this;cases this)];clear hR;refine hg ?_
      repeat' ((first | refine hfk ?_ ?_<;>intros | refine hik ?_ | with_reducible first | refine v6l (c1) ?_ | refine vgi (c1) ?_)<;>refine hgS ?_)
      exact RLe.ofEq rfl
     | true=>cases hW:isWord (L.getD j default) with
      | true=>
       rw [hN] at c1;rw [hW] at c2;rw [<-hR,zgt hlt' (fun h'=>by have:=h'.1;unfold isNamed at this;rw [hN,hW] at this;cases this)];clear hR;refine hg ?_
       repeat' ((first | refine hfk ?_ ?_<;>intros | refine hik ?_ | with_reducible first | refine v6l (c1) ?_ | refine vgi (c1) ?_ | refine v6l (c2) ?_ | refine vgi (c2) ?_)<;>refine hgS ?_)
       exact RLe.ofEq rfl
      | false=>
       rw [hN] at c1;rw [hW] at c2
       have hnm:isNamed (L.getD j default)=true:=by unfold isNamed;rw [hN,hW];rfl
       clear hN hW;refine hg ?_
       repeat' ((first | refine hfk ?_ ?_<;>intros | refine hik ?_ | with_reducible first | refine v6l (c1) ?_ | refine vgi (c1) ?_ | refine v6l (c2) ?_ | refine vgi (c2) ?_)<;>refine hgS ?_)
       refine y55 [5,7] (fun k:Nat=>[(8,.one (.dat (cI k)))]) (fun _=>[.arr (.sl 1 (L.map strC)) 0 (some 9)]) (fun k=>k<=j/\∀ i,i<k->L.getD i default≠L.getD j default) (fun k=>j-k) 0 ⟨Nat.zero_le _,fun i hi=>by omega⟩ ?_ ?_
       . refine hg ?_;exact StH.same svl rfl
       rintro k ⟨hkj,hne⟩;refine hg ?_;refine vnx (fun hkl _=>?_) (fun hkl _=>?_)
       . refine hg ?_
         repeat' ((first | refine hfk ?_ ?_<;>intros | refine hik ?_)<;>refine hgS ?_)
         . rename_i h;rw [<-hR,zgt hlt' (fun h'=>h'.2 k (by omega) (xjh h))];exact RLe.ofEq rfl
         . rename_i h;exact ⟨k+1,⟨by omega,xf4 hne (fun e=>by rw [e,vw8] at h;cases h)⟩,by omega,StH.same svl rfl⟩
       . have hkj':k=j:=by omega
         have hok:okN L j:=⟨hnm,fun i hi=>hne i (by omega)⟩;have hnext:=xf4 (p:=okN L) hk hok;clear hne hok hk;refine hg ?_;exact ⟨j+1,⟨by omega,hnext⟩,by omega,StH.same svl rfl⟩
   . have hgd:xfk L:=x0c.2 (fun k hk'=>hk k (by omega));rw [<-hR,decide_eq_true hgd];refine hg ?_;exact RLe.ofEq rfl
theorem yiu (bs:List Bd) (ms:List Tb) (hb:bs.length<=1048576) (hm:ms.length<=1048576) (hbs:∀ b∈bs,b.Sm) (hq:∀ b∈bs,b.v.sz<=268435456) (hms:∀ t∈ms,t.Sm):CallsD Γ prog 20 [.one (.sl 5 (bs.map Bd.C)),.one (.sl 3 (ms.map Tb.C))] (.one (cB (entF bs ms).isSome)):=by
 have hf:=w0x (Γ:=Γ) (bs.map Bd.name) ms (by rw [List.length_map];exact hb) hm (fun s hs=>by
  obtain ⟨b,hb',e⟩:=List.mem_map.1 hs
  rw [<-e];exact (hbs b hb').n) hms
 have hR:(entF bs ms).isSome=(bs.all (fun b=>decide b.v.ok)&&(ms.all tbOk&&decide (xfk (bs.map Bd.name++ms.map Tb.name)))):=by
  rw [show (entF bs ms).isSome=_ from xbc,Bool.and_assoc]
 rw [hR];generalize (ms.all tbOk&&decide (xfk (bs.map Bd.name++ms.map Tb.name)))=F at hf;clear hR hms;generalize hR:(bs.all (fun b=>decide b.v.ok)&&F)=R;rw [List.map_map] at hf;refine CallsD.run [] Go.Proofs.Tryz.func20 rfl rfl rfl ?_;simp only [Go.Proofs.Tryz.f20];refine hgR ?_;refine y55 [0,1] (fun n:Nat=>[(5,.one (.sl 0 1 0 n)),(6,.one (.dat (cI n)))]) (fun n=>[.arr (.sl 1 ((bs.take n).map (strC∘Bd.name))) 0 (some 9)])
  (fun n=>n<=bs.length/\∀ j,j<n->(bs.getD j default).v.ok) (fun n=>bs.length-n) 0 ⟨Nat.zero_le _,fun j hj=>by omega⟩ ?_ ?_
 . refine hg ?_;refine StH.trans (StH.empty (d:=5) (es:=1) (c:=.sl 1 []) (T:=some 9) rfl rfl (fun r hr=>by cases hr) rfl) ?_;refine hg ?_;exact StH.same svl rfl
 rintro n ⟨hn,hj⟩
 have hlenA:(bs.take n).length=n:=by rw [List.length_take];omega
 refine hg ?_;refine vnx (fun hlt _=>?_) (fun hlt _=>?_)
 . have hlt':n<bs.length:=by omega
   have hc:CallsD Γ prog 48 [.agg [.raw (.int .i64 (bs.getD n default).v.s),.ints .i64 (bs.getD n default).v.L,.raw (.int .i64 (bs.getD n default).v.t),.ints .i64 (bs.getD n default).v.M]] (.one (cB (decide (bs.getD n default).v.ok))):=xy2 _ (hq _ (w4t hlt'))
   have ht:(bs.take n).map (strC∘Bd.name)++[[cS (bs.getD n default).name]]=(bs.take (n+1)).map (strC∘Bd.name):=by
    rw [z4f hlt',List.map_append];rfl
   have hl2:((bs.take (n+1)).map (strC∘Bd.name)).length=n+1:=by simp;omega
   by_cases hok:(bs.getD n default).v.ok
   . rw [decide_eq_true hok] at hc;have hnext:=xf4 (p:=fun j=>(bs.getD j default).v.ok) hj hok;clear hj hok hR;refine hg ?_
     repeat' ((first | refine hfk ?_ ?_<;>intros | refine hik ?_ | with_reducible first | refine v6l (hc) ?_ | refine vgi (hc) ?_)<;>refine hgS ?_)
     refine ⟨n+1,⟨by omega,hnext⟩,by omega,?_⟩
     try simp only [ht,hl2]
     exact StH.back [0,1,5,6] 0 1 1 rfl rfl rfl rfl rfl (by kernel_rfl) (StH.same svl rfl)
   . rw [decide_eq_false hok] at hc
     rw [<-hR,show bs.all (fun b=>decide b.v.ok)=false by
      cases hall:bs.all (fun b=>decide b.v.ok) with
      | false=>rfl
      | true=>exact absurd (of_decide_eq_true (List.all_eq_true.1 hall _ (w4t hlt'))) hok]
     clear hR ht hok hj;refine hg ?_
     repeat' ((first | refine hfk ?_ ?_<;>intros | refine hik ?_ | with_reducible first | refine v6l (hc) ?_ | refine vgi (hc) ?_)<;>refine hgS ?_)
     exact RLe.ofEq rfl
 . have e:n=bs.length:=by omega
   subst e
   rw [<-hR,show bs.all (fun b=>decide b.v.ok)=true by
    rw [List.all_eq_true];intro b hb';obtain ⟨j,hj',rfl⟩:=List.getElem_of_mem hb'
    have:=hj j hj'
    rw [show bs.getD j default=bs[j] from by simp [hj']] at this
    exact decide_eq_true this,List.take_length,Bool.true_and]
   clear hR hj;refine hg ?_
   repeat' ((first | refine hfk ?_ ?_<;>intros | refine hik ?_ | with_reducible first | refine v6l (hf) ?_ | refine vgi (hf) ?_)<;>refine hgS ?_)
   exact RLe.ofEq rfl
end Go.Hp.T
namespace Go.Hp.T
open Go Go.RowKit Go.Slot Go.Hp Go.Slot.T
open Go.Proofs.Tryz (prog)
set_option maxRecDepth 10000
set_option maxHeartbeats 4000000
variable {x:Ex} {bs:List Bd} {ms:List Tb}
structure Ar16 (x:Ex) (bs:List Bd) (ms:List Tb):Prop where
 x:x.Sm
 b:bs.length<=1048576
 m:ms.length<=1048576
 bs:∀ b∈bs,b.Sm
 ms:∀ t∈ms,t.Sm
theorem vyj (h:wjp x bs ms=true):(∀ b∈bs,b.v.sz<=4)/\bs.length<=12:=by
 unfold wjp at h;simp only [Bool.and_eq_true,decide_eq_true_eq] at h
 have hl:bs.length<=12:=by omega
 refine ⟨fun b hb=>?_,hl⟩
 have:=h.2.1
 rw [List.take_of_length_le (by omega),List.all_eq_true] at this
 have:=this b hb
 unfold zi2 at this;simp only [Bool.and_eq_true,decide_eq_true_eq] at this;exact this.2
theorem Ar16.of (h:Ar16 x bs ms) (hf:wjp x bs ms=true) {Γ:List (Nat×List Cell)}:CallsD Γ prog 11 [.agg (exC x),.one (.sl 5 (bs.map Bd.C)),.one (.sl 3 (ms.map Tb.C))] (rsR (valF x bs ms)):=
 vsb x bs ms h.x (by have:=h.b;omega) (by have:=h.m;omega) (fun b hb=>⟨(h.bs b hb).n,Nat.le_trans ((vyj hf).1 b hb) (by decide)⟩) h.ms
theorem y4l {y:Ex} (hf:wjp y bs ms=true):qz (valF x bs ms).1.v<=67108864:=
 Nat.le_trans (vkv (B:=4300) (by decide) (fun b hb=>by have:=(vyj hf).1 b hb;omega)) (by decide)
end Go.Hp.T
namespace Go.Hp.T
open Go Go.RowKit Go.Slot Go.Hp Go.Slot.T
open Go.Proofs.Tryz (prog)
set_option maxRecDepth 10000
set_option maxHeartbeats 4000000
variable {Γ:List (Nat×List Cell)}
theorem n0:((0:Nat):Int)=0:=rfl
theorem CallsD.nil5 {f:FuncId} {args:List AV} {a b c d:Cell} (h:CallsD Γ prog f args (.agg [a,b,c,d,.raw (.slice none 0 0)])):CallsD Γ prog f args (.agg [a,b,c,d,.sl 5 []]):=
 ⟨h.1,fun M w vs hM hg hr=>(h.2 M w vs hM hg hr).mono (fun _ _ ⟨v,h1,h2,h3,h4⟩=>by
  obtain ⟨ws,hw,hrd⟩:=h3
  match ws,hrd with
  | [v1,v2,v3,v4,v5],⟨r1,r2,r3,r4,r5,r6⟩=>
   refine ⟨v,h1,h2,⟨_,hw,r1,r2,r3,r4,?_,r6⟩,fun hh=>by cases hh⟩
   cases r5
   exact RdC.zcSl 5)⟩
end Go.Hp.T
namespace Go.Hp.T
open Go Go.RowKit Go.Slot Go.Hp
set_option maxRecDepth 10000
variable {vs vs':List Vr} {ms:List Tb} {V V':Vq} {T T':Vt} {β:Type}
theorem w9l (s:ByteArray):seq s s=true:=by rw [z9f];exact decide_eq_true rfl
theorem yl1 {α:Type} (d:α) (s:ByteArray):∀ V:List (ByteArray×α),ycr (updF V s d) s=some d
 | []=>by simp [updF,ycr,w9l]
 | p::V=>by
  unfold updF
  cases h:seq s p.1 with
  | true=>simp [ycr,w9l]
  | false=>simp [ycr,h,yl1 d s V]
theorem zxb {α:Type} (d:α) (s:ByteArray):∀ V:List (ByteArray×α),(updF V s d).length<=V.length+1/\((updF V s d).length=V.length+1->ycr V s=none)
 | []=>⟨by simp [updF],fun _=>rfl⟩
 | p::V=>by
  unfold updF
  cases h:seq s p.1 with
  | true=>exact ⟨by simp,fun h2=>by simp at h2⟩
  | false=>
   have:=zxb d s V
   exact ⟨by simp;omega,fun h2=>by simp at h2;simp [ycr,h,this.2 h2]⟩
theorem z1t (V T : List (ByteArray × Dm)) : ∀ (l : List Ex) (e : Int), Ex.tyL V T l = .inl e → e ≠ 0
 | [],e,h=>by rw [Ex.tyL] at h;cases h
 | z::l,e,h=>by
  rw [Ex.tyL] at h
  cases hz:z.ty V T with
  | mk t f=>
   rw [hz] at h;simp only at h;by_cases hf:f=0
   . subst hf
     cases hl:Ex.tyL V T l with
     | inl g=>
      rw [hl] at h
      have:g=e:=by simpa using h
      subst this;exact z1t V T l g hl
     | inr ts=>rw [hl] at h;simp at h
   . have:f=e:=by simpa [hf] using h
     rw [<-this];exact hf
def rG {α:Type} (bad:α->Bool) (nm:α->ByteArray) (vl:α->Dm) (V:List (ByteArray×Dm)):List α->Option (List (ByteArray×Dm))
 | []=>some V
 | v::l=>bif bad v then none else rG bad nm vl (updF V (nm v) (vl v)) l
theorem x1e:∀(vs:List Vr) (V:List (ByteArray×Dm)),rV V vs=rG (fun v:Vr=>!isName v.name||isWord v.name||!zmf v.d) Vr.name Vr.d V vs
 | [],V=>by rw [rV,rG]
 | v::vs,V=>by rw [rV,rG,x1e vs]
def tbad (V:List (ByteArray×Dm)) (t:Tb):Bool:=(ycr V t.name).isSome||decide (¬(zth t.unit).2=0)||!zi4 (fun s=>(zth s).2) t||isWord t.name
def tval (t:Tb):Dm:=dmO (zth t.unit).1
theorem yrx (V:List (ByteArray×Dm)):∀(ms:List Tb) (T:List (ByteArray×Dm)),rT V T ms=rG (tbad V) Tb.name tval T ms
 | [],T=>by rw [rT,rG]
 | t::ms,T=>by rw [rT,rG,yrx V ms];rfl
section
variable {α:Type} {bad:α->Bool} {nm:α->ByteArray} {vl:α->Dm}
theorem wil:∀(l:List α) (V W:List (ByteArray×Dm)),rG bad nm vl V l=some W->W.length<=V.length+l.length
 | [],V,W,h=>by rw [rG] at h;cases h;simp
 | v::l,V,W,h=>by
  rw [rG] at h
  cases hb:bad v with
  | true=>rw [hb] at h;cases h
  | false=>
   rw [hb] at h;have h1:=wil l _ W h;have h2:=(zxb (vl v) (nm v) V).1;simp only [List.length_cons];omega
theorem w9f {β:Type} (d:β) (s:ByteArray):∀ V:List (ByteArray×β),ycr V s=none->updF V s d=V++[(s,d)]
 | [],_=>rfl
 | p::V,h=>by
  unfold ycr at h;unfold updF
  cases hs:seq s p.1 with
  | true=>rw [hs] at h;cases h
  | false=>
   rw [hs,cond_false] at h;rw [cond_false,w9f d s V h];rfl
theorem vj8 {β:Type} (s:ByteArray):∀ A B:List (ByteArray×β),ycr (A++B) s=(ycr A s).or (ycr B s)
 | [],B=>rfl
 | p::A,B=>by
  show (bif seq s p.1 then some p.2 else ycr (A++B) s)=(bif seq s p.1 then some p.2 else ycr A s).or (ycr B s)
  cases seq s p.1 with
  | true=>rfl
  | false=>exact vj8 s A B
theorem x68 (s:ByteArray):∀ l:List α,(∀ v∈l,seq s (nm v)=false)->ycr (l.map fun v=>(nm v,vl v)) s=none
 | [],_=>rfl
 | v::l,h=>by
  rw [List.map_cons,ycr,h v (by simp),cond_false];exact x68 s l (fun w hw=>h w (by simp [hw]))
theorem z6k {s:ByteArray}:∀{l:List α},ycr (l.map fun v=>(nm v,vl v)) s=none->∀ v∈l,seq s (nm v)=false
 | [],_,v,hv=>by cases hv
 | w::l,h,v,hv=>by
  rw [List.map_cons,ycr] at h
  cases hs:seq s (nm w) with
  | true=>rw [hs] at h;cases h
  | false=>
   rw [hs,cond_false] at h
   rcases List.mem_cons.1 hv with rfl | hv
   . exact hs
   . exact z6k h v hv
theorem y99:∀(l:List α) (V W:List (ByteArray×Dm)),rG bad nm vl V l=some W->W.length=V.length+l.length->
 W=V++(l.map fun v=>(nm v,vl v))/\(∀ v∈l,bad v=false/\ycr V (nm v)=none)/\l.Pairwise (fun a b=>seq (nm b) (nm a)=false)
 | [],V,W,h,_=>by rw [rG] at h;cases h;exact ⟨by simp,⟨fun v hv=>(by cases hv),List.Pairwise.nil⟩⟩
 | v::l,V,W,h,hlen=>by
  rw [rG] at h
  cases hb:bad v with
  | true=>rw [hb] at h;cases h
  | false=>
   rw [hb,cond_false] at h;have h1:=wil l _ W h;have h2:=zxb (vl v) (nm v) V;simp only [List.length_cons] at hlen
   have h3:(updF V (nm v) (vl v)).length=V.length+1:=by omega
   have hn:=h2.2 h3;obtain ⟨h4,h5,h6⟩:=y99 l _ W h (by omega);rw [w9f _ _ _ hn] at h4 h5;refine ⟨by rw [h4];simp,fun u hu=>?_,.cons (fun u hu=>?_) h6⟩
   . rcases List.mem_cons.1 hu with rfl | hu
     . exact ⟨hb,hn⟩
     . have:=h5 u hu
       refine ⟨this.1,?_⟩;have h7:=this.2;rw [vj8] at h7
       cases hl:ycr V (nm u) with
       | none=>rfl
       | some d=>rw [hl] at h7;cases h7
   . have h7:=(h5 u hu).2;rw [vj8] at h7
     cases hs:seq (nm u) (nm v) with
     | false=>rfl
     | true=>
      cases hl:ycr V (nm u) with
      | none=>
       rw [hl,ycr,hs] at h7
       cases h7
      | some d=>rw [hl] at h7;cases h7
theorem viy:∀(l:List α) (V:List (ByteArray×Dm)),(∀ v∈l,bad v=false/\ycr V (nm v)=none)->l.Pairwise (fun a b=>seq (nm b) (nm a)=false)->rG bad nm vl V l=some (V++(l.map fun v=>(nm v,vl v)))
 | [],V,_,_=>by rw [rG];simp
 | v::l,V,h,hp=>by
  have hv:=h v (by simp);rw [rG,hv.1,cond_false,w9f _ _ _ hv.2];rw [List.pairwise_cons] at hp;rw [viy l _ (fun u hu=>⟨(h u (by simp [hu])).1,by rw [vj8,(h u (by simp [hu])).2,ycr,hp.1 u hu];rfl⟩) hp.2];simp
end
structure xn9 (vs:List Vr) (ms:List Tb):Prop where
 v:∀ v∈vs,(!isName v.name||isWord v.name||!zmf v.d)=false
 vp:vs.Pairwise (fun a b=>seq b.name a.name=false)
 t:∀ t∈ms,tbad (vs.map fun v=>(v.name,v.d)) t=false
 tp:ms.Pairwise (fun a b=>seq b.name a.name=false)
theorem x4r {p:List (ByteArray×Dm)×List (ByteArray×Dm)} (h:yka vs ms=some p):xn9 vs ms/\p=(vs.map (fun v=>(v.name,v.d)),ms.map (fun t=>(t.name,tval t))):=by
 unfold yka at h
 cases hV:rV [] vs with
 | none=>rw [hV] at h;cases h
 | some W=>
  rw [hV] at h;simp only at h
  cases hT:rT W [] ms with
  | none=>rw [hT] at h;cases h
  | some X=>
   rw [hT] at h;simp only at h
   cases hd:(decide ((W.length:Int)=vs.length)&&decide ((X.length:Int)=ms.length)) with
   | false=>rw [hd] at h;cases h
   | true=>
    rw [hd] at h
    cases h;rw [Bool.and_eq_true,decide_eq_true_iff,decide_eq_true_iff] at hd;rw [x1e] at hV;rw [yrx] at hT;obtain ⟨a1,a2,a3⟩:=y99 _ _ _ hV (by simp;omega);obtain ⟨b1,b2,b3⟩:=y99 _ _ _ hT (by simp;omega);rw [List.nil_append] at a1 b1;subst a1;subst b1;exact ⟨⟨fun v hv=>(a2 v hv).1,a3,fun t ht=>(b2 t ht).1,b3⟩,rfl⟩
theorem y5w (h:xn9 vs ms):yka vs ms=some (vs.map (fun v=>(v.name,v.d)),ms.map (fun t=>(t.name,tval t))):=by
 unfold yka;rw [x1e,viy _ _ (fun v hv=>⟨h.v v hv,rfl⟩) h.vp];simp only [List.nil_append];rw [yrx,viy _ _ (fun t ht=>⟨h.t t ht,rfl⟩) h.tp];simp only [List.nil_append,List.length_map,decide_true,Bool.and_self,cond_true]
theorem w6e {t:Tb} (hsub:∀ v∈vs',v∈vs) (h:tbad (vs.map fun v=>(v.name,v.d)) t=false):tbad (vs'.map fun v=>(v.name,v.d)) t=false:=by
 unfold tbad at h ⊢;simp only [Bool.or_eq_false_iff] at h ⊢;refine ⟨⟨⟨?_,h.1.1.2⟩,h.1.2⟩,h.2⟩
 have h1:ycr (vs.map fun v=>(v.name,v.d)) t.name=none:=by
  cases hl:ycr (vs.map fun v=>(v.name,v.d)) t.name with
  | none=>rfl
  | some d=>rw [hl] at h;exact absurd h.1.1.1 (by simp)
 rw [x68 t.name vs' (fun v hv=>z6k h1 v (hsub v hv))];rfl
theorem xn9.less {ms':List Tb} (h:xn9 vs ms) (hv:vs'.Sublist vs) (ht:ms'.Sublist ms):xn9 vs' ms':=
 ⟨fun v hv'=>h.v v (hv.subset hv'),h.vp.sublist hv,fun t ht'=>w6e (fun _ hv'=>hv.subset hv') (h.t t (ht.subset ht')),h.tp.sublist ht⟩
theorem xri {x:Ex} (h:(ofF x vs ms).2=0):(!xub x||x.xi4)=false/\x.shaped=true/\xn9 vs ms/\(x.ty (vs.map fun v=>(v.name,v.d)) (ms.map fun t=>(t.name,tval t))).2=0:=by
 unfold ofF at h
 cases hb:(!xub x||x.xi4) with
 | true=>rw [hb] at h;cases h
 | false=>
  rw [hb,cond_false] at h
  cases hr:yka vs ms with
  | none=>rw [hr] at h;cases h
  | some p=>
   rw [hr] at h;obtain ⟨h1,rfl⟩:=x4r hr;rw [Bool.or_eq_false_iff,Bool.not_eq_false'] at hb;have hs:=hb.1;unfold xub at hs;rw [Bool.and_eq_true] at hs;exact ⟨rfl,hs.2,h1,h⟩
theorem wn1 {x:Ex} (hb:(!xub x||x.xi4)=false) (h:xn9 vs ms):ofF x vs ms=x.ty (vs.map fun v=>(v.name,v.d)) (ms.map fun t=>(t.name,tval t)):=by
 unfold ofF;rw [hb,cond_false,y5w h]
theorem w5e {x:Ex} {bs:List Bd} (h1:xub x=true) (h2:x.xi4=false) (h3:entF bs ms=some (V,T)):valF x bs ms=x.cal V T:=by
 unfold valF;rw [h1,h2,h3];rfl
theorem wxi (g:Ex->Ex) (x:Ex) (hop:(g x).op=x.op) (hnm:(g x).name=x.name) (hargs:(g x).args=x.args.map g)
 (h0:x.op=0->v43 (g x).n (g x).unit=v43 x.n x.unit) (h1:x.op=1->ztc V' x.name=ztc V x.name) (h2:x.op=2->ycr T' x.name=ycr T x.name)
 (ih:∀ y∈x.args,(g y).cal V' T'=y.cal V T):(g x).cal V' T'=x.cal V T:=by
 have hm:(x.args.map g).map (Ex.cal V' T')=x.args.map (Ex.cal V T):=by
  rw [List.map_map];exact List.map_congr_left (fun y hy=>ih y hy)
 rw [Ex.vwk,Ex.vwk V T x,hop,hnm,hargs,hm];by_cases c0:x.op=0
 . rw [h0 c0,decide_eq_true c0];rfl
 rw [decide_eq_false c0,cond_false,cond_false];by_cases c1:x.op=1
 . rw [h1 c1,decide_eq_true c1];rfl
 rw [decide_eq_false c1,cond_false,cond_false]
 cases decide (x.op=5) with
 | true=>rfl
 | false=>
  rw [cond_false,cond_false]
  cases seqV (x.args.map (Ex.cal V T)) with
  | inl e=>rfl
  | inr rs=>
   show opV T' x.op x.name rs=opV T x.op x.name rs;unfold opV;by_cases c2:x.op=2
   . rw [decide_eq_true c2];unfold woh;rw [h2 c2]
   . rw [decide_eq_false c2];rfl
def sKg:ByteArray:=⟨#[107,103]⟩
def sKWh:ByteArray:=⟨#[107,87,104]⟩
def zdc (o n:Int) (u:ByteArray):Bool:=decide (o=0)&&(decide (0<=n)&&(decide (n<=1099511627)&&(seq u sKg||seq u sKWh)))
mutual
def Ex.yoa:Ex->Ex
 | .mk o n u s l=>bif zdc o n u then .mk o (1000*n) (wcu u 1) s (Ex.wi6 l) else .mk o n u s (Ex.wi6 l)
def Ex.wi6:List Ex->List Ex
 | []=>[]
 | y::l=>Ex.yoa y::Ex.wi6 l
end
theorem Ex.v5z:∀ l:List Ex,Ex.wi6 l=l.map Ex.yoa
 | []=>by rw [Ex.wi6];rfl
 | y::l=>by rw [Ex.wi6,Ex.v5z l];rfl
theorem Ex.zva (x:Ex):x.yoa=bif zdc x.op x.n x.unit then .mk x.op (1000*x.n) (wcu x.unit 1) x.name (x.args.map Ex.yoa) else .mk x.op x.n x.unit x.name (x.args.map Ex.yoa):=by cases x;rw [Ex.yoa,Ex.v5z];rfl
theorem vhp {op:Int} {s:ByteArray} {x y:Ex} (hy:y∈x.args) (h:y.has op s=true):x.has op s=true:=by
 rw [Ex.has_eq,Bool.or_eq_true];exact .inl (List.any_eq_true.2 ⟨y,hy,h⟩)
theorem yyc:∀ x:Ex,(∀ s,x.has 1 s=true->ycr V' s=ycr V s)->(∀ s,x.has 2 s=true->ycr T' s=ycr T s)->x.cal V' T'=x.cal V T:=by
 refine Ex.ind (fun x ih h1 h2=>?_);refine wxi (fun y=>y) x rfl rfl (List.map_id' x.args).symm (fun _=>rfl) (fun ho=>?_) (fun ho=>h2 _ ?_) (fun y hy=>ih y hy (fun s hs=>h1 s (vhp hy hs)) (fun s hs=>h2 s (vhp hy hs)))
 . unfold ztc;rw [h1 x.name (by rw [Ex.has_eq,decide_eq_true ho,vw8];simp)]
 . rw [Ex.has_eq,decide_eq_true ho,vw8];simp
theorem vnq {α:Type} {l:List α} (h:l.Nodup):l.reverse.Nodup:=List.pairwise_reverse.2 (h.imp fun h e=>h e.symm)
theorem vyk {nm:β->ByteArray} {l:List β} (hn:(l.map nm).Nodup) (p:ByteArray->Bool) {s:ByteArray} (hs:p s=true):fnd nm (l.reverse.filter fun b=>p (nm b)) s=fnd nm l s:=by
 have hn':((l.reverse.filter fun b=>p (nm b)).map nm).Nodup:=by
  refine List.Nodup.sublist (List.Sublist.map nm List.filter_sublist) ?_;rw [List.map_reverse];exact vnq hn
 cases h:fnd nm l s with
 | some b=>
  have hb:=wud h;exact (ywx hn').2 ⟨List.mem_filter.2 ⟨List.mem_reverse.2 hb.1,by rw [<-hb.2];exact hs⟩,hb.2⟩
 | none=>
  rw [wm9] at h ⊢;intro hm;obtain ⟨b,hb,e⟩:=List.mem_map.1 hm;exact h (List.mem_map.2 ⟨b,List.mem_reverse.1 (List.mem_filter.1 hb).1,e⟩)
theorem ziz {γ:Type} {nm:β->ByteArray} {nm':γ->ByteArray} {l:List β} {l':List γ} (p p':ByteArray->Bool) (h:xfk (l.map nm++l'.map nm')):xfk ((l.reverse.filter fun b=>p (nm b)).map nm++(l'.reverse.filter fun b=>p' (nm' b)).map nm'):=by
 obtain ⟨h1,h2⟩:=h
 have s1:∀ s∈(l.reverse.filter fun b=>p (nm b)).map nm,s∈l.map nm:=fun s hs=>by
  obtain ⟨b,hb,e⟩:=List.mem_map.1 hs;exact List.mem_map.2 ⟨b,List.mem_reverse.1 (List.mem_filter.1 hb).1,e⟩
 have s2:∀ s∈(l'.reverse.filter fun b=>p' (nm' b)).map nm',s∈l'.map nm':=fun s hs=>by
  obtain ⟨b,hb,e⟩:=List.mem_map.1 hs;exact List.mem_map.2 ⟨b,List.mem_reverse.1 (List.mem_filter.1 hb).1,e⟩
 rw [List.nodup_append] at h2;refine ⟨fun s hs=>h1 s ?_,?_⟩
 . rcases List.mem_append.1 hs with hs | hs
   . exact List.mem_append.2 (.inl (s1 s hs))
   . exact List.mem_append.2 (.inr (s2 s hs))
 . rw [List.nodup_append];refine ⟨?_,?_,fun a ha b hb=>h2.2.2 a (s1 a ha) b (s2 b hb)⟩
   . refine List.Nodup.sublist (List.Sublist.map nm List.filter_sublist) ?_;rw [List.map_reverse];exact vnq h2.1
   . refine List.Nodup.sublist (List.Sublist.map nm' List.filter_sublist) ?_;rw [List.map_reverse];exact vnq h2.2.1
theorem z1u (x:Ex) (bs:List Bd) (ms:List Tb) (h:(entF bs ms).isSome=true):valF x (bs.reverse.filter fun b=>x.has 1 b.name) (ms.reverse.filter fun t=>x.has 2 t.name)=valF x bs ms:=by
 obtain ⟨⟨V,T⟩,he⟩:=Option.isSome_iff_exists.1 h;obtain ⟨e1,e2,e3,e4,e5⟩:=y36 he;obtain ⟨⟨V',T'⟩,he'⟩:=w1q (nm:=Bd.name) (ok:=fun b=>decide b.v.ok) (val:=fun b=>b.v.val) (tok:=tbOk) (bs:=bs.reverse.filter fun b=>x.has 1 b.name) (ms:=ms.reverse.filter fun t=>x.has 2 t.name)
  (fun b hb=>e1 b (List.mem_reverse.1 (List.mem_filter.1 hb).1)) (fun t ht=>e2 t (List.mem_reverse.1 (List.mem_filter.1 ht).1)) (ziz (x.has 1) (x.has 2) e3)
 obtain ⟨_,_,_,f4,f5⟩:=y36 he';have hn:=e3.2;rw [List.nodup_append] at hn;unfold valF
 cases (!xub x||x.xi4) with
 | true=>rfl
 | false=>
  rw [cond_false,cond_false,show entF (bs.reverse.filter fun b=>x.has 1 b.name) (ms.reverse.filter fun t=>x.has 2 t.name)=some (V',T') from he',he];exact yyc x (fun s hs=>by rw [f4,e4,vyk hn.1 (x.has 1) hs]) (fun s hs=>by rw [f5,e5,vyk hn.2.1 (x.has 2) hs])
end Go.Hp.T
