/- The proof, part C39: Xf, Dd, Qe, Qf, Qh, Qk, Gp, Dg, Dh. -/
import Derived.Test.YtmegdbbbllffkaaGreatDoorC38
import Derived.Test.YtmegdbbbllffkaaGreatDoorC36
namespace Go.Hp.T
open Go Go.RowKit Go.Slot Go.Hp Go.Slot.T
open Go.Proofs.Tryz (prog)
set_option maxRecDepth 10000
set_option maxHeartbeats 4000000
variable {Γ:List (Nat×List Cell)}
variable {l:List ByteArray}
def strC (s:ByteArray):List Cell:=[cS s]
theorem zh3 (s:ByteArray):strC s=[cS s]:=rfl
attribute [go_sem] zh3
def okN (l:List ByteArray) (j:Nat):Prop:=isNamed (l.getD j default)=true/\∀ k,k<j->l.getD k default≠l.getD j default
theorem x0c:xfk l↔∀ j,j<l.length->okN l j:=by
 unfold xfk okN;constructor
 . rintro ⟨h1,h2⟩ j hj
   have e:l.getD j default=l[j]:=by simp [hj]
   refine ⟨by rw [e];exact h1 _ (List.getElem_mem hj),fun k hk=>?_⟩
   have e2:l.getD k default=l[k]:=by simp [show k<l.length by omega]
   rw [e,e2];exact List.pairwise_iff_getElem.1 h2 k j (by omega) hj hk
 . intro h;refine ⟨fun s hs=>?_,?_⟩
   . obtain ⟨j,hj,rfl⟩:=List.getElem_of_mem hs
     have:=(h j hj).1
     rwa [show l.getD j default=l[j] by simp [hj]] at this
   . refine List.pairwise_iff_getElem.2 (fun i j hi hj hij=>?_)
     have:=(h j hj).2 i hij
     rwa [show l.getD j default=l[j] by simp [hj],show l.getD i default=l[i] by simp [hi]] at this
theorem zgt {j:Nat} (hj:j<l.length) (h:¬okN l j):decide (xfk l)=false:=decide_eq_false (fun hg=>h (x0c.1 hg j hj))
theorem w0x (names:List ByteArray) (ms:List Tb) (hn:names.length<=1048576) (hm:ms.length<=1048576) (hns:∀ s∈names,s.size<=1073741824) (hms:∀ t∈ms,t.Sm):CallsD Γ prog 49 [.one (.sl 1 (names.map strC)),.one (.sl 3 (ms.map Tb.C))] (.one (cB (ms.all tbOk&&decide (xfk (names++ms.map Tb.name))))):=by
 generalize hR:(ms.all tbOk&&decide (xfk (names++ms.map Tb.name)))=R;refine CallsD.run [] Go.Proofs.Tryz.func49 rfl rfl rfl ?_;simp only [Go.Proofs.Tryz.f49];refine hgR ?_;refine y55 [1] (fun n:Nat=>[(5,.one (.sl 0 1 0 (names.length+n))),(6,.one (.dat (cI n)))]) (fun n=>[.arr (.sl 1 ((names++(ms.take n).map Tb.name).map strC)) 0 (some 9)])
  (fun n=>n<=ms.length/\∀ j,j<n->tbOk (ms.getD j default)=true) (fun n=>ms.length-n) 0 ⟨Nat.zero_le _,fun j hj=>by omega⟩ ?_ ?_
 . refine hg ?_;exact StH.same svl (by simp)
 rintro n ⟨hn,hj⟩
 have hlenA:(names++(ms.take n).map Tb.name).length=names.length+n:=by simp;omega
 refine hg ?_;refine vnx (fun hlt _=>?_) (fun hlt _=>?_)
 . have hlt':n<ms.length:=by omega
   have hy:=hms _ (w4t hlt');have hc:=w8f (Γ:=Γ) _ hy.n hy.u hy.r
   have hbad:tbOk (ms.getD n default)=false->R=false:=fun h=>by
    rw [<-hR,show ms.all tbOk=false by
     cases hall:ms.all tbOk with
     | false=>rfl
     | true=>rw [List.all_eq_true.1 hall _ (w4t hlt')] at h;cases h]
    rfl
   have ht:(names++(ms.take n).map Tb.name).map strC++[[cS (ms.getD n default).name]]=(names++(ms.take (n+1)).map Tb.name).map strC:=by
    rw [z4f hlt'];simp only [List.map_append,List.append_assoc,List.map_cons,List.map_nil];rfl
   have hl2:((names++(ms.take (n+1)).map Tb.name).map strC).length=names.length+(n+1):=by simp;omega
   clear hR
   cases hT:tbOk (ms.getD n default) with
   | false=>
    have hT':zi4 (fun s=>(zte s).2) (ms.getD n default)=false:=hT;rw [hbad hT];rw [hT'] at hc;clear hbad ht;refine hg ?_
    repeat' ((first | refine hfk ?_ ?_<;>intros | refine hik ?_ | with_reducible first | refine v6l (hc) ?_ | refine vgi (hc) ?_)<;>refine hgS ?_)
    exact RLe.ofEq rfl
   | true=>
    have hT':zi4 (fun s=>(zte s).2) (ms.getD n default)=true:=hT;rw [hT'] at hc;have hnext:=xf4 (p:=fun j=>tbOk (ms.getD j default)=true) hj hT;clear hbad hj hT hT';refine hg ?_
    repeat' ((first | refine hfk ?_ ?_<;>intros | refine hik ?_ | with_reducible first | refine v6l (hc) ?_ | refine vgi (hc) ?_)<;>refine hgS ?_)
    refine ⟨n+1,⟨by omega,hnext⟩,by omega,?_⟩
    try simp only [ht,hl2]
    exact StH.back [1,5,6] 0 1 1 rfl rfl rfl rfl rfl (by kernel_rfl) (StH.same svl rfl)
 . have e:n=ms.length:=by omega
   subst e
   have hall:ms.all tbOk=true:=by
    rw [List.all_eq_true];intro t ht;obtain ⟨j,hj',rfl⟩:=List.getElem_of_mem ht
    have:=hj j hj'
    rwa [show ms.getD j default=ms[j] from by simp [hj']] at this
   rw [hall,Bool.true_and] at hR;rw [List.take_length] at hlenA ⊢
   have hsz:∀ j,j<(names++ms.map Tb.name).length->((names++ms.map Tb.name).getD j default).size<=1073741824:=fun j hj=>by
    rcases List.mem_append.1 (w4t hj) with h | h
    . exact hns _ h
    . obtain ⟨t,ht,e⟩:=List.mem_map.1 h;rw [<-e];exact (hms t ht).n
   clear hall hj hns hms;generalize names++ms.map Tb.name=L at *;rw [<-hlenA]
   have hL:L.length<=2097152:=by omega
   clear hlenA;refine hg ?_;refine y55 [5] (fun j:Nat=>[(7,.one (.dat (cI j)))]) (fun _=>[.arr (.sl 1 (L.map strC)) 0 (some 9)]) (fun j=>j<=L.length/\∀ k,k<j->okN L k) (fun j=>L.length-j) 0 ⟨Nat.zero_le _,fun k hk=>by omega⟩ ?_ ?_
   . refine hg ?_;exact StH.same svl rfl
   rintro j ⟨hj,hk⟩;refine hg ?_;refine vnx (fun hlt _=>?_) (fun hlt _=>?_)
   . have hlt':j<L.length:=by omega
     have c1:=z2u (Γ:=Γ) (L.getD j default) (hsz j hlt');have c2:=x1b (Γ:=Γ) (L.getD j default)
     cases hN:isName (L.getD j default) with
     | false=>
      rw [hN] at c1;rw [<-hR,zgt hlt' (fun h'=>by have:=h'.1;unfold isNamed at this;rw [hN] at this;cases this)];clear hR;refine hg ?_
      repeat' ((first | refine hfk ?_ ?_<;>intros | refine hik ?_ | with_reducible first | refine v6l (c1) ?_ | refine vgi (c1) ?_)<;>refine hgS ?_)
      exact RLe.ofEq rfl
     | true=>cases hW:isWord (L.getD j default) with
      | true=>
       rw [hN] at c1;rw [hW] at c2;rw [<-hR,zgt hlt' (fun h'=>by have:=h'.1;unfold isNamed at this;rw [hN,hW] at this;cases this)];clear hR;refine hg ?_
       repeat' ((first | refine hfk ?_ ?_<;>intros | refine hik ?_ | with_reducible first | refine v6l (c1) ?_ | refine vgi (c1) ?_ | refine v6l (c2) ?_ | refine vgi (c2) ?_)<;>refine hgS ?_)
       exact RLe.ofEq rfl
      | false=>
       rw [hN] at c1;rw [hW] at c2
       have hnm:isNamed (L.getD j default)=true:=by unfold isNamed;rw [hN,hW];rfl
       clear hN hW;refine hg ?_
       repeat' ((first | refine hfk ?_ ?_<;>intros | refine hik ?_ | with_reducible first | refine v6l (c1) ?_ | refine vgi (c1) ?_ | refine v6l (c2) ?_ | refine vgi (c2) ?_)<;>refine hgS ?_)
       refine y55 [5,7] (fun k:Nat=>[(8,.one (.dat (cI k)))]) (fun _=>[.arr (.sl 1 (L.map strC)) 0 (some 9)]) (fun k=>k<=j/\∀ i,i<k->L.getD i default≠L.getD j default) (fun k=>j-k) 0 ⟨Nat.zero_le _,fun i hi=>by omega⟩ ?_ ?_
       . refine hg ?_;exact StH.same svl rfl
       rintro k ⟨hkj,hne⟩;refine hg ?_;refine vnx (fun hkl _=>?_) (fun hkl _=>?_)
       . refine hg ?_
         repeat' ((first | refine hfk ?_ ?_<;>intros | refine hik ?_)<;>refine hgS ?_)
         . rename_i h;rw [<-hR,zgt hlt' (fun h'=>h'.2 k (by omega) (xjh h))];exact RLe.ofEq rfl
         . rename_i h;exact ⟨k+1,⟨by omega,xf4 hne (fun e=>by rw [e,vw8] at h;cases h)⟩,by omega,StH.same svl rfl⟩
       . have hkj':k=j:=by omega
         have hok:okN L j:=⟨hnm,fun i hi=>hne i (by omega)⟩;have hnext:=xf4 (p:=okN L) hk hok;clear hne hok hk;refine hg ?_;exact ⟨j+1,⟨by omega,hnext⟩,by omega,StH.same svl rfl⟩
   . have hgd:xfk L:=x0c.2 (fun k hk'=>hk k (by omega));rw [<-hR,decide_eq_true hgd];refine hg ?_;exact RLe.ofEq rfl
theorem yiu (bs:List Bd) (ms:List Tb) (hb:bs.length<=1048576) (hm:ms.length<=1048576) (hbs:∀ b∈bs,b.Sm) (hq:∀ b∈bs,b.v.sz<=268435456) (hms:∀ t∈ms,t.Sm):CallsD Γ prog 20 [.one (.sl 5 (bs.map Bd.C)),.one (.sl 3 (ms.map Tb.C))] (.one (cB (entF bs ms).isSome)):=by
 have hf:=w0x (Γ:=Γ) (bs.map Bd.name) ms (by rw [List.length_map];exact hb) hm (fun s hs=>by
  obtain ⟨b,hb',e⟩:=List.mem_map.1 hs
  rw [<-e];exact (hbs b hb').n) hms
 have hR:(entF bs ms).isSome=(bs.all (fun b=>decide b.v.ok)&&(ms.all tbOk&&decide (xfk (bs.map Bd.name++ms.map Tb.name)))):=by
  rw [show (entF bs ms).isSome=_ from xbc,Bool.and_assoc]
 rw [hR];generalize (ms.all tbOk&&decide (xfk (bs.map Bd.name++ms.map Tb.name)))=F at hf;clear hR hms;generalize hR:(bs.all (fun b=>decide b.v.ok)&&F)=R;rw [List.map_map] at hf;refine CallsD.run [] Go.Proofs.Tryz.func20 rfl rfl rfl ?_;simp only [Go.Proofs.Tryz.f20];refine hgR ?_;refine y55 [0,1] (fun n:Nat=>[(5,.one (.sl 0 1 0 n)),(6,.one (.dat (cI n)))]) (fun n=>[.arr (.sl 1 ((bs.take n).map (strC∘Bd.name))) 0 (some 9)])
  (fun n=>n<=bs.length/\∀ j,j<n->(bs.getD j default).v.ok) (fun n=>bs.length-n) 0 ⟨Nat.zero_le _,fun j hj=>by omega⟩ ?_ ?_
 . refine hg ?_;refine StH.trans (StH.empty (d:=5) (es:=1) (c:=.sl 1 []) (T:=some 9) rfl rfl (fun r hr=>by cases hr) rfl) ?_;refine hg ?_;exact StH.same svl rfl
 rintro n ⟨hn,hj⟩
 have hlenA:(bs.take n).length=n:=by rw [List.length_take];omega
 refine hg ?_;refine vnx (fun hlt _=>?_) (fun hlt _=>?_)
 . have hlt':n<bs.length:=by omega
   have hc:CallsD Γ prog 48 [.agg [.raw (.int .i64 (bs.getD n default).v.s),.ints .i64 (bs.getD n default).v.L,.raw (.int .i64 (bs.getD n default).v.t),.ints .i64 (bs.getD n default).v.M]] (.one (cB (decide (bs.getD n default).v.ok))):=xy2 _ (hq _ (w4t hlt'))
   have ht:(bs.take n).map (strC∘Bd.name)++[[cS (bs.getD n default).name]]=(bs.take (n+1)).map (strC∘Bd.name):=by
    rw [z4f hlt',List.map_append];rfl
   have hl2:((bs.take (n+1)).map (strC∘Bd.name)).length=n+1:=by simp;omega
   by_cases hok:(bs.getD n default).v.ok
   . rw [decide_eq_true hok] at hc;have hnext:=xf4 (p:=fun j=>(bs.getD j default).v.ok) hj hok;clear hj hok hR;refine hg ?_
     repeat' ((first | refine hfk ?_ ?_<;>intros | refine hik ?_ | with_reducible first | refine v6l (hc) ?_ | refine vgi (hc) ?_)<;>refine hgS ?_)
     refine ⟨n+1,⟨by omega,hnext⟩,by omega,?_⟩
     try simp only [ht,hl2]
     exact StH.back [0,1,5,6] 0 1 1 rfl rfl rfl rfl rfl (by kernel_rfl) (StH.same svl rfl)
   . rw [decide_eq_false hok] at hc
     rw [<-hR,show bs.all (fun b=>decide b.v.ok)=false by
      cases hall:bs.all (fun b=>decide b.v.ok) with
      | false=>rfl
      | true=>exact absurd (of_decide_eq_true (List.all_eq_true.1 hall _ (w4t hlt'))) hok]
     clear hR ht hok hj;refine hg ?_
     repeat' ((first | refine hfk ?_ ?_<;>intros | refine hik ?_ | with_reducible first | refine v6l (hc) ?_ | refine vgi (hc) ?_)<;>refine hgS ?_)
     exact RLe.ofEq rfl
 . have e:n=bs.length:=by omega
   subst e
   rw [<-hR,show bs.all (fun b=>decide b.v.ok)=true by
    rw [List.all_eq_true];intro b hb';obtain ⟨j,hj',rfl⟩:=List.getElem_of_mem hb'
    have:=hj j hj'
    rw [show bs.getD j default=bs[j] from by simp [hj']] at this
    exact decide_eq_true this,List.take_length,Bool.true_and]
   clear hR hj;refine hg ?_
   repeat' ((first | refine hfk ?_ ?_<;>intros | refine hik ?_ | with_reducible first | refine v6l (hf) ?_ | refine vgi (hf) ?_)<;>refine hgS ?_)
   exact RLe.ofEq rfl
end Go.Hp.T
namespace Go.Hp.T
open Go Go.RowKit Go.Slot Go.Hp Go.Slot.T
open Go.Proofs.Tryz (prog)
set_option maxRecDepth 10000
set_option maxHeartbeats 4000000
variable {x:Ex} {bs:List Bd} {ms:List Tb}
structure Ar16 (x:Ex) (bs:List Bd) (ms:List Tb):Prop where
 x:x.Sm
 b:bs.length<=1048576
 m:ms.length<=1048576
 bs:∀ b∈bs,b.Sm
 ms:∀ t∈ms,t.Sm
theorem vyj (h:wjp x bs ms=true):(∀ b∈bs,b.v.sz<=4)/\bs.length<=12:=by
 unfold wjp at h;simp only [Bool.and_eq_true,decide_eq_true_eq] at h
 have hl:bs.length<=12:=by omega
 refine ⟨fun b hb=>?_,hl⟩
 have:=h.2.1
 rw [List.take_of_length_le (by omega),List.all_eq_true] at this
 have:=this b hb
 unfold zi2 at this;simp only [Bool.and_eq_true,decide_eq_true_eq] at this;exact this.2
theorem Ar16.of (h:Ar16 x bs ms) (hf:wjp x bs ms=true) {Γ:List (Nat×List Cell)}:CallsD Γ prog 11 [.agg (exC x),.one (.sl 5 (bs.map Bd.C)),.one (.sl 3 (ms.map Tb.C))] (rsR (valF x bs ms)):=
 vsb x bs ms h.x (by have:=h.b;omega) (by have:=h.m;omega) (fun b hb=>⟨(h.bs b hb).n,Nat.le_trans ((vyj hf).1 b hb) (by decide)⟩) h.ms
theorem y4l {y:Ex} (hf:wjp y bs ms=true):qz (valF x bs ms).1.v<=67108864:=
 Nat.le_trans (vkv (B:=4300) (by decide) (fun b hb=>by have:=(vyj hf).1 b hb;omega)) (by decide)
end Go.Hp.T
namespace Go.Hp.T
open Go Go.RowKit Go.Slot Go.Hp Go.Slot.T
open Go.Proofs.Tryz (prog)
set_option maxRecDepth 10000
set_option maxHeartbeats 4000000
variable {Γ:List (Nat×List Cell)}
theorem n0:((0:Nat):Int)=0:=rfl
end Go.Hp.T
namespace Go.Hp.T
open Go Go.RowKit Go.Slot Go.Hp
set_option maxRecDepth 10000
variable {x:Ex} {vs vs':List Vr} {ms:List Tb}
theorem yye:∀(x:Ex) (n lv n' lv' k:Int),x.cnt n lv=(true,k)->n'<=n->lv'<=lv->∃ k',x.cnt n' lv'=(true,k')/\k'<=k:=by
 refine Ex.ind (fun x ih n lv n' lv' k h hn hl=>?_)
 have hL:∀ l:List Ex,(∀ z∈l,z∈x.args)->∀ n lv n' lv' k:Int,Ex.cntL l n lv=(true,k)->n'<=n->lv'<=lv->∃ k',Ex.cntL l n' lv'=(true,k')/\k'<=k:=by
  intro l
  induction l with
  | nil=>intro _ n lv n' lv' k h hn hl;rw [Ex.cntL] at h;cases h;exact ⟨n',by rw [Ex.cntL],hn⟩
  | cons z l ihl=>
   intro hz n lv n' lv' k h hn hl;rw [Ex.cntL] at h
   cases hc:z.cnt n lv with
   | mk c m=>
    rw [hc] at h
    cases c with
    | false=>cases h
    | true=>
     obtain ⟨m',h1,h2⟩:=ih z (hz z (by simp)) n lv n' lv' m hc hn hl;obtain ⟨k',h3,h4⟩:=ihl (fun w hw=>hz w (by simp [hw])) m lv m' lv' k h h2 hl;exact ⟨k',by rw [Ex.cntL,h1];exact h3,h4⟩
 rw [Ex.vrw] at h
 cases hb:(decide (200<n+1)||decide (20<lv)) with
 | true=>rw [hb] at h;cases h
 | false=>
  rw [hb,cond_false] at h;obtain ⟨k',h1,h2⟩:=hL x.args (fun z hz=>hz) _ _ (n'+1) (lv'+1) k h (by omega) (by omega);refine ⟨k',?_,h2⟩;rw [Bool.or_eq_false_iff,decide_eq_false_iff_not,decide_eq_false_iff_not] at hb;rw [Ex.vrw,decide_eq_false (by omega),decide_eq_false (by omega)];exact h1
theorem wtv : ∀ (l : List Ex) (n lv k : Int), Ex.cntL l n lv = (true, k) → ∀ y ∈ l, ∃ n' m, n ≤ n' ∧ y.cnt n' lv = (true, m)
 | [],_,_,_,_,y,hy=>by cases hy
 | z::l,n,lv,k,h,y,hy=>by
  rw [Ex.cntL] at h
  cases hc:z.cnt n lv with
  | mk c m=>
   rw [hc] at h
   cases c with
   | false=>cases h
   | true=>
    rcases List.mem_cons.1 hy with rfl | hy
    . exact ⟨n,m,Int.le_refl _,hc⟩
    . obtain ⟨n',m',h1,h2⟩:=wtv l m lv k h y hy;exact ⟨n',m',by have:=(Ex.v24 z n lv m hc).1;omega,h2⟩
theorem v4e (h:xub x=true):∀ y∈x.args,xub y=true:=by
 intro y hy;unfold xub at h ⊢;rw [Bool.and_eq_true] at h ⊢;constructor
 . have h1:=h.1;rw [Ex.vrw,show (decide (200<(0:Int)+1)||decide (20<(1:Int)))=false from by decide,cond_false] at h1
   cases hc:Ex.cntL x.args (0+1) (1+1) with
   | mk c k=>
    rw [hc] at h1;simp only at h1;subst h1;obtain ⟨n',m,h3,h4⟩:=wtv _ _ _ _ hc y hy;obtain ⟨k',h5,_⟩:=yye y n' (1+1) 0 1 m h4 (by omega) (by omega);rw [h5]
 . have h2:=h.2;rw [Ex.xg3,Bool.and_eq_true,List.all_eq_true] at h2;exact h2.2 y hy
theorem zi1 (h:x.xi4=false):∀ y∈x.args,y.xi4=false:=by
 rw [Ex.wd9,Bool.or_eq_false_iff,List.any_eq_false] at h;intro y hy;simpa using h.2 y hy
def tbad (V:List (ByteArray×Dm)) (t:Tb):Bool:=(ycr V t.name).isSome||decide (¬(zte t.unit).2=0)||!zi4 (fun s=>(zte s).2) t||isWord t.name
section
variable {α:Type} {bad:α->Bool} {nm:α->ByteArray} {vl:α->Dm}
theorem x68 (s:ByteArray):∀ l:List α,(∀ v∈l,seq s (nm v)=false)->ycr (l.map fun v=>(nm v,vl v)) s=none
 | [],_=>rfl
 | v::l,h=>by
  rw [List.map_cons,ycr,h v (by simp),cond_false];exact x68 s l (fun w hw=>h w (by simp [hw]))
theorem z6k {s:ByteArray}:∀{l:List α},ycr (l.map fun v=>(nm v,vl v)) s=none->∀ v∈l,seq s (nm v)=false
 | [],_,v,hv=>by cases hv
 | w::l,h,v,hv=>by
  rw [List.map_cons,ycr] at h
  cases hs:seq s (nm w) with
  | true=>rw [hs] at h;cases h
  | false=>
   rw [hs,cond_false] at h
   rcases List.mem_cons.1 hv with rfl | hv
   . exact hs
   . exact z6k h v hv
end
structure xn9 (vs:List Vr) (ms:List Tb):Prop where
 v:∀ v∈vs,(!isName v.name||isWord v.name||!zmf v.d)=false
 vp:vs.Pairwise (fun a b=>seq b.name a.name=false)
 t:∀ t∈ms,tbad (vs.map fun v=>(v.name,v.d)) t=false
 tp:ms.Pairwise (fun a b=>seq b.name a.name=false)
theorem w6e {t:Tb} (hsub:∀ v∈vs',v∈vs) (h:tbad (vs.map fun v=>(v.name,v.d)) t=false):tbad (vs'.map fun v=>(v.name,v.d)) t=false:=by
 unfold tbad at h ⊢;simp only [Bool.or_eq_false_iff] at h ⊢;refine ⟨⟨⟨?_,h.1.1.2⟩,h.1.2⟩,h.2⟩
 have h1:ycr (vs.map fun v=>(v.name,v.d)) t.name=none:=by
  cases hl:ycr (vs.map fun v=>(v.name,v.d)) t.name with
  | none=>rfl
  | some d=>rw [hl] at h;exact absurd h.1.1.1 (by simp)
 rw [x68 t.name vs' (fun v hv=>z6k h1 v (hsub v hv))];rfl
theorem xn9.less {ms':List Tb} (h:xn9 vs ms) (hv:vs'.Sublist vs) (ht:ms'.Sublist ms):xn9 vs' ms':=
 ⟨fun v hv'=>h.v v (hv.subset hv'),h.vp.sublist hv,fun t ht'=>w6e (fun _ hv'=>hv.subset hv') (h.t t (ht.subset ht')),h.tp.sublist ht⟩
theorem w5e {bs:List Bd} {V:Vq} {T:Vt} (h1:xub x=true) (h2:x.xi4=false) (h3:entF bs ms=some (V,T)):valF x bs ms=x.cal V T:=by
 unfold valF;rw [h1,h2,h3];rfl
theorem zna (h:xub x=true):x.shaped=true:=by unfold xub at h;rw [Bool.and_eq_true] at h;exact h.2
end Go.Hp.T
namespace Go.Hp.T
open Go Go.RowKit Go.Slot Go.Hp Go.Slot.T
open Go.Proofs.Tryz (prog)
set_option maxRecDepth 10000
set_option maxHeartbeats 4000000
variable {Γ:List (Nat×List Cell)}
theorem y1p (ms:List Tb) (T:Vt) (hm:ms.length<=1073741824) (hT:∀ s,ycr T s=fnd Tb.name ms s) (hTs:∀ s t,ycr T s=some t->t.Sm/\tbOk t=true) (s:ByteArray) (k:Rs) (hk:qz k.v<=67108864) :
 CallsD Γ prog 50 [.one (cS s),.agg (rsC k),.one (.sl 3 (ms.map Tb.C))] (rsR (woh T s k)):=by
 have hf:=vdv (Γ:=Γ) ms s hm;rw [<-hT s] at hf
 cases h:ycr T s with
 | none=>
  rw [h] at hf
  have e:woh T s k=(⟨false,false,none⟩,11):=by unfold woh;rw [h];rfl
  rw [e];have hf:CallsD Γ prog 77 [.one (.sl 3 (ms.map Tb.C)),.one (cS s)] (.tup [.agg [cS ⟨⟨[]⟩⟩,cS ⟨⟨[]⟩⟩,.zc],.one (cB false)]):=hf;refine CallsD.run [] Go.Proofs.Tryz.func50 rfl rfl rfl ?_;simp only [Go.Proofs.Tryz.f50];refine hgR ?_
  repeat' ((first | refine hfk ?_ ?_<;>intros | refine hik ?_ | with_reducible first | refine v6l (hf) ?_ | refine vgi (hf) ?_)<;>refine hgS ?_)
  exact rsEq rfl
 | some t=>
  rw [h] at hf;obtain ⟨h1,h2⟩:=hTs s t h;have hL:=ymc (Γ:=Γ) t k.v hk h1.n h1.u h1.r
  have e:woh T s k=bif k.t then (⟨false,false,none⟩,13) else numV (wyo t k.v).1 (wyo t k.v).2:=by unfold woh;rw [h];rfl
  rw [e];have hf:CallsD Γ prog 77 [.one (.sl 3 (ms.map Tb.C)),.one (cS s)] (.tup [.agg (tbC t),.one (cB true)]):=hf;generalize wyo t k.v=r at hL;obtain ⟨rv,re⟩:=r;simp only at hL;unfold numV;refine CallsD.run [] Go.Proofs.Tryz.func50 rfl rfl rfl ?_;simp only [Go.Proofs.Tryz.f50];refine hgR ?_
  repeat' ((first | refine hfk ?_ ?_<;>intros | refine hik ?_ | with_reducible first | refine v6l (hf) ?_ | refine vgi (hf) ?_ | refine v6l (hL) ?_ | refine vgi (hL) ?_)<;>refine hgS ?_)
  all_goals first
   | exact rsEq (by (refine bs1 @Rs.zero.eq_def ?_;try exact trivial))
   | refine lfE ?_;first | exact trivial | rfl
theorem zfu {B:Nat} (hB:4300<=B) (bs:List Bd) (ms:List Tb) (V:Vq) (T:Vt) (hm:ms.length<=1073741824) (hV:Vsm B V) (hT:∀ s,ycr T s=fnd Tb.name ms s) (hTs:∀ s t,ycr T s=some t->t.Sm/\tbOk t=true) (x:Ex) (hx:x.Sm) (hsh:x.shaped=true) (hcl:x.xi4=false) (hnd:B*x.nd<=67108864) (hne:x.args.length≠0)
 (hih:∀ y∈x.args,CallsD Γ prog 11 [.agg (exC y),.one (.sl 5 (bs.map Bd.C)),.one (.sl 3 (ms.map Tb.C))] (rsR (y.cal V T))) :
 CallsD Γ prog 21 [.agg (exC x),.one (.sl 5 (bs.map Bd.C)),.one (.sl 3 (ms.map Tb.C))] (rsR (x.cal V T)):=by
 have hl:=hx.len;have hcal:=Ex.vwk V T x
 have hnode:yxn x=true:=by rw [Ex.xg3,Bool.and_eq_true] at hsh;exact hsh.1
 have hargs:∀ y∈x.args,y.shaped=true:=by rw [Ex.xg3,Bool.and_eq_true,List.all_eq_true] at hsh;exact hsh.2
 have hcalls:x.op≠3/\∀ y∈x.args,y.xi4=false:=by
  rw [Ex.wd9,Bool.or_eq_false_iff,decide_eq_false_iff_not,List.any_eq_false] at hcl;exact ⟨hcl.1,fun y hy=>by simpa using hcl.2 y hy⟩
 have hnds:∀ y∈x.args,B*y.nd<=67108864:=fun y hy=>Nat.le_trans (Nat.mul_le_mul_left _ (by have:=Ex.xks hy;have:=Ex.yuy x;omega)) hnd
 obtain ⟨hl2,hl3⟩:=x6z hnode hcalls.1 hne;have hops:=z3r hnode hne
 have h0:¬x.op=0:=by omega
 have h1:¬x.op=1:=by omega
 rw [decide_eq_false h0,decide_eq_false h1,cond_false,cond_false] at hcal;by_cases h5:x.op=5
 . rw [decide_eq_true h5,cond_true] at hcal;have hl3':=hl3 h5;have q0:=hih _ (w4t (show 0<x.args.length by omega));have q1:=hih _ (w4t (show 1<x.args.length by omega));have q2:=hih _ (w4t (show 2<x.args.length by omega))
   have e:chV (x.args.map (Ex.cal V T))=bif decide (¬((x.args.getD 0 default).cal V T).2=0) then (Rs.zero,((x.args.getD 0 default).cal V T).2) else bif !((x.args.getD 0 default).cal V T).1.t then (Rs.zero,13) else bif ((x.args.getD 0 default).cal V T).1.i then (x.args.getD 1 default).cal V T else (x.args.getD 2 default).cal V T:=by
    unfold chV;rw [getD_map (show 0<x.args.length by omega),getD_map (show 1<x.args.length by omega),getD_map (show 2<x.args.length by omega)]
   rw [hcal,e];clear hih hcal e;generalize (x.args.getD 0 default).cal V T=r0 at q0;generalize (x.args.getD 1 default).cal V T=r1 at q1;generalize (x.args.getD 2 default).cal V T=r2 at q2;obtain ⟨⟨t0,i0,v0⟩,e0⟩:=r0;obtain ⟨⟨t1,i1,v1⟩,e1⟩:=r1;obtain ⟨⟨t2,i2,v2⟩,e2⟩:=r2;simp only at q0 q1 q2 ⊢;refine CallsD.run [] Go.Proofs.Tryz.func21 rfl rfl rfl ?_;simp only [Go.Proofs.Tryz.f21];refine hgR ?_
   repeat' ((first | refine hfk ?_ ?_<;>intros | refine hik ?_)<;>refine hgS ?_)
   refine zum ?_;refine hg ?_
   repeat' ((first | refine hfk ?_ ?_<;>intros | refine hik ?_ | with_reducible first | refine v6l (q0) ?_ | refine vgi (q0) ?_ | refine v6l (q1) ?_ | refine vgi (q1) ?_ | refine v6l (q2) ?_ | refine vgi (q2) ?_)<;>refine hgS ?_)
   all_goals first
    | (exfalso;omega)
    | exact rsEq rfl
    | refine lfE ?_;first | exact trivial | rfl
 rw [decide_eq_false h5,cond_false] at hcal
 have hqz:∀ y∈x.args,qz (y.cal V T).1.v<=67108864:=fun y hy=>Nat.le_trans (v6n hB hV y (hargs y hy) (hcalls.2 y hy)) (hnds y hy)
 rw [hcal];clear hcal hnd hV;generalize hS:seqV (x.args.map (Ex.cal V T))=S;refine CallsD.run [] Go.Proofs.Tryz.func21 rfl rfl rfl ?_;simp only [Go.Proofs.Tryz.f21];refine hgR ?_
 repeat' ((first | refine hfk ?_ ?_<;>intros | refine hik ?_)<;>refine hgS ?_)
 refine y55 [1,2,3,6] (fun p:Nat×List Rs=>[(8,.one (.sl 2 6 0 p.2.length)),(9,.one (.dat (cI p.1)))])
  (fun p=>[.box ((exC x).map .dat) (some 24),.box ((rsZ false false).map .dat) (some 35),.arr (.sl 6 (p.2.map Rs.C)) 0 (some 35)])
  (fun p=>p.1<=x.args.length/\p.2.length=p.1/\(∀ r∈p.2,qz r.v<=67108864)/\S=match seqV ((x.args.drop p.1).map (Ex.cal V T)) with
    | .inl e=>.inl e
    | .inr r=>.inr (p.2++r)) (fun p=>x.args.length-p.1) (0,[]) ⟨Nat.zero_le _,rfl,fun r hr=>(by cases hr),by simp only [List.drop_zero,List.nil_append];rw [hS];cases S<;>rfl⟩ ?_ ?_
 . refine hg ?_;refine StH.trans (StH.empty (d:=8) (es:=6) (c:=.sl 6 []) (T:=some 35) rfl rfl (fun r hr=>by cases hr) rfl) ?_;refine hg ?_;exact StH.same svl rfl
 clear hS;rintro ⟨i,rs⟩ ⟨q1,q2,q3,q4⟩;simp only at q1 q2 q3 q4;refine hg ?_;refine vnx (fun hlt _=>?_) (fun hlt _=>?_)
 . have hlt':i<x.args.length:=by omega
   have hy:=w4t hlt';rw [xqz hlt',List.map_cons] at q4;have hqy:=hqz _ hy;have hc:=hih _ hy;refine hg ?_;generalize hr:Ex.cal V T (x.args.getD i default)=r at q4 hqy hc;obtain ⟨t,e⟩:=r;rw [seqV] at q4;simp only at q4 hqy hc;refine v6l hc ?_;refine hg ?_;refine vnx (fun he hd=>?_) (fun he hd=>?_)
   . refine hg ?_
     have q4':S=.inl e:=by rw [q4,show decide (¬e=0)=true from hd];rfl
     rw [q4'];exact rsEq rfl
   . rw [show decide (¬ e = 0) = false from hd, cond_false] at q4
     have q4':S=match seqV ((x.args.drop (i+1)).map (Ex.cal V T)) with
      | .inl e=>.inl e
      | .inr r=>.inr ((rs++[t])++r):=by
      rw [q4]
      cases seqV ((x.args.drop (i+1)).map (Ex.cal V T)) with
      | inl e=>rfl
      | inr r=>simp only [List.append_assoc,List.singleton_append]
     clear q4;refine hg ?_;refine vnx (fun h5' _=>absurd h5' h5) (fun _ _=>?_);refine hg ?_
     have hmap:rs.map Rs.C++[rsC t]=(rs++[t]).map Rs.C:=by simp;rfl
     rw [hmap]
     refine ⟨(i+1,rs++[t]),⟨by dsimp only;omega,by dsimp only;rw [List.length_append,List.length_singleton,q2],fun r hr'=>by
      rcases List.mem_append.1 hr' with h | h
      . exact q3 r h
      . rw [List.mem_singleton.1 h];exact hqy,q4'⟩,by dsimp only;omega,?_⟩
     refine StH.back [1,2,3,6,8,9] 2 4 3 rfl rfl rfl rfl rfl (by kernel_rfl) ?_;refine hg ?_;exact StH.same svl rfl
 . have q4':S=.inr rs:=by rw [q4,List.drop_eq_nil_of_le (by omega)];show (match seqV [] with | .inl e=>Sum.inl e | .inr r=>Sum.inr (rs++r))=_;rw [seqV];simp only [List.append_nil]
   rw [q4'];clear q4 q4' hih
   have hlen:rs.length=x.args.length:=by omega
   have hlen0:0<rs.length:=by omega
   have hr0:=q3 _ (w4t hlen0);by_cases h2:x.op=2
   . rw [show xem T x.op x.name (.inr rs)=woh T x.name (rs.getD 0 default) by show opV T x.op x.name rs=_;unfold opV;rw [decide_eq_true h2];rfl];have hk:=y1p (Γ:=Γ) ms T hm hT hTs x.name (rs.getD 0 default) hr0;generalize woh T x.name (rs.getD 0 default)=r at hk;obtain ⟨⟨t,i,v⟩,e⟩:=r;refine hg ?_
     repeat' ((first | refine hfk ?_ ?_<;>intros | refine hik ?_ | with_reducible first | refine v6l (hk) ?_ | refine vgi (hk) ?_)<;>refine hgS ?_)
     all_goals first
      | (exfalso;omega)
      | refine lfE ?_;first | exact trivial | rfl
   . have hj:=ytm (Γ:=Γ) x.op rs (by rw [hlen];exact z0i hnode hne h2 hcalls.1 h5) q3;rw [show xem T x.op x.name (.inr rs)=wkq x.op rs by show opV T x.op x.name rs=_;unfold opV wkq;rw [decide_eq_false h2];rfl];generalize wkq x.op rs=r at hj;obtain ⟨⟨t,i,v⟩,e⟩:=r;refine hg ?_
     repeat' ((first | refine hfk ?_ ?_<;>intros | refine hik ?_ | with_reducible first | refine v6l (hj) ?_ | refine vgi (hj) ?_)<;>refine hgS ?_)
     all_goals first
      | (exfalso;omega)
      | refine lfE ?_;first | exact trivial | rfl
end Go.Hp.T
namespace Go.Hp.T
open Go Go.RowKit Go.Slot Go.Hp Go.Slot.T
open Go.Proofs.Tryz (prog)
set_option maxRecDepth 10000
set_option maxHeartbeats 4000000
theorem wyu (x:Ex) (bs:List Bd) (ms:List Tb) (h:Ar16 x bs ms):CallsD Gs prog 5 [.agg (exC x),.one (.sl 5 (bs.map Bd.C)),.one (.sl 3 (ms.map Tb.C))] (.one (cB true)):=by
 have s1:=zcg;have f1:=wc3 (Γ:=Gs) x bs ms h.x (by have:=h.b;omega) h.bs (by have:=h.m;omega) h.ms
 cases hf:wjp x bs ms with
 | false=>
  rw [hf] at f1;refine CallsD.run [] Go.Proofs.Tryz.func5 rfl rfl rfl ?_;simp only [Go.Proofs.Tryz.f5];refine hgR ?_
  repeat' ((first | refine hfk ?_ ?_<;>intros | refine hik ?_ | with_reducible first | refine v6l (s1) ?_ | refine vgi (s1) ?_ | refine v6l (f1) ?_ | refine vgi (f1) ?_)<;>refine hgS ?_)
  exact RLe.ofEq rfl
 | true=>
  rw [hf] at f1;have c1:=xz2 (Γ:=Gs) x h.x;have c2:=yv4 (Γ:=Gs) x h.x;have c3:=yiu (Γ:=Gs) bs ms h.b h.m h.bs (fun b hb=>Nat.le_trans ((vyj hf).1 b hb) (by decide)) h.ms;by_cases hall:xub x=true/\x.xi4=false/\(entF bs ms).isSome=true/\x.args.length≠0
  . obtain ⟨h1,h2,h3,h4⟩:=hall;obtain ⟨⟨V,T⟩,he⟩:=Option.isSome_iff_exists.1 h3;have hsm:=y2d (B:=4300) he (fun b hb=>by have:=(vyj hf).1 b hb;omega);have hnd:4300*x.nd<=67108864:=Nat.le_trans (Nat.mul_le_mul_left _ (wl8 h1)) (by decide);have o1:=h.of hf (Γ:=Gs)
    have o2:∀ y∈x.args,CallsD Gs prog 11 [.agg (exC y),.one (.sl 5 (bs.map Bd.C)),.one (.sl 3 (ms.map Tb.C))] (rsR (y.cal V T)):=fun y hy=>by
     have:=vsb (Γ:=Gs) y bs ms (h.x.arg y hy) (by have:=h.b;omega) (by have:=h.m;omega) (fun b hb=>⟨(h.bs b hb).n,Nat.le_trans ((vyj hf).1 b hb) (by decide)⟩) h.ms
     rwa [w5e (v4e h1 y hy) (zi1 h2 y hy) he] at this
    have o3:=zfu (Γ:=Gs) (B:=4300) (by decide) bs ms V T (by have:=h.m;omega) hsm (fun s=>(y36 he).2.2.2.2 s) (xhm he h.ms) x h.x (zna h1) h2 hnd h4 o2;have hq:=y4l (x:=x) hf;rw [w5e h1 h2 he] at o1 hq;rw [h1] at c1;rw [h2] at c2;rw [h3] at c3;generalize x.cal V T=r at o1 o3 hq;obtain ⟨r,e⟩:=r;have sm:=x6g (Γ:=Gs) r r hq hq;rw [decide_eq_true rfl] at sm;obtain ⟨t,i,v⟩:=r;clear o2 hsm h1 h2 h3 he hf;refine CallsD.run [] Go.Proofs.Tryz.func5 rfl rfl rfl ?_;simp only [Go.Proofs.Tryz.f5];refine hgR ?_
    repeat' ((first | refine hfk ?_ ?_<;>intros | refine hik ?_ | with_reducible first | refine v6l (s1) ?_ | refine vgi (s1) ?_ | refine v6l (f1) ?_ | refine vgi (f1) ?_ | refine v6l (c1) ?_ | refine vgi (c1) ?_ | refine v6l (c2) ?_ | refine vgi (c2) ?_ | refine v6l (c3) ?_ | refine vgi (c3) ?_ | refine v6l (o1) ?_ | refine vgi (o1) ?_ | refine v6l (o3) ?_ | refine vgi (o3) ?_ | refine v6l (sm) ?_ | refine vgi (sm) ?_)<;>refine hgS ?_)
    all_goals first
     | (exfalso;omega)
     | refine lfE ?_;first | exact trivial | rfl
  . generalize xub x=b1 at *;generalize x.xi4=b2 at *;generalize (entF bs ms).isSome=b3 at *;clear hf;refine CallsD.run [] Go.Proofs.Tryz.func5 rfl rfl rfl ?_;simp only [Go.Proofs.Tryz.f5];refine hgR ?_
    repeat' ((first | refine hfk ?_ ?_<;>intros | refine hik ?_ | with_reducible first | refine v6l (s1) ?_ | refine vgi (s1) ?_ | refine v6l (f1) ?_ | refine vgi (f1) ?_ | refine v6l (c1) ?_ | refine vgi (c1) ?_ | refine v6l (c2) ?_ | refine vgi (c2) ?_ | refine v6l (c3) ?_ | refine vgi (c3) ?_)<;>refine hgS ?_)
    all_goals first
     | exact RLe.ofEq rfl
     | (exfalso;exact hall ⟨by assumption,by assumption,by assumption,by omega⟩)
     | (exfalso;simp_all;done)
end Go.Hp.T
