/- The proof, part Q39: 3w, 7k, 3x, 4b. -/
import Derived.Test.YtkbkjjahlafhoaaGreatDoorQ38
import Derived.Test.YtkbkjjahlafhoaaGreatDoorQ37
import Derived.Test.YtkbkjjahlafhoaaGreatDoorQ33
namespace Go.Hp.T
open Go Go.RowKit Go.Slot Go.Hp Go.Slot.T
set_option maxRecDepth 10000
variable {w:Wk} {D:Nat}
section
variable {s:Sht} {r:Int} {x:Rcp} {cs:List Sc}
theorem vfp {l:List Stp} {n:Nat} (h:(l.getD n default).inn=[]):(yxs l n).filter (w07 (l.getD n default))=yxs l n:=List.filter_eq_self.2 fun p _=>ynw.2 (by rw [h];exact fun h=>by cases h)
theorem v1p (N i:Nat):((newL N).getD i (Fc.of 0)).val=if i=N then 1 else 0:=by
 unfold newL;by_cases h:i<N
 . rw [if_neg (by omega),ldE (by simp;omega),List.getElem_append_left (by simpa using h),List.getElem_replicate,zoy]
 . by_cases e:i=N
   . subst e;rw [if_pos rfl,ldE (by simp),List.getElem_append_right (by simp)];simp [Fc.y22]
   . rw [if_neg e,ldN (by simp;omega),zoy]
theorem v6e {α:Type} [Inhabited α] {l:List α} (h:l.length=1):l=[l.getD 0 default]:=by
 match l,h with
 | [a],_=>rfl
theorem vvz {m:Mf} {o p:ByteArray} {l:List Fc} (h:p=o\/∃ r,v7b m p=some r):∃ r,v7b (updF m o l) p=some r:=by
 rw [yih,z8u];by_cases e:p=o
 . rw [decide_eq_true e];exact ⟨_,rfl⟩
 . rw [decide_eq_false e,cond_false];exact h.resolve_left e
theorem wxp {w':Wk} {n D':Nat} (hI:InvW x.steps w n D) (hp':0<D') (hD:∀ q,isI D q->isI D' q) (hm:InvM w'.m w'.srcs.length D') (hN:w.srcs.length<=w'.srcs.length) (hdom:∀ p∈yxs x.steps (n+1),∃ l,v7b w'.m p=some l) (hsame:∀ p i,¬p∈(x.steps.getD n default).out->wrt w'.m p i=wrt w.m p i)
 (hsh:w'.shares=w.shares) (hcon:∀ i,i<w'.srcs.length->hasF w'.m (yxs x.steps (n+1)) i+outF w.shares i=1):InvW x.steps w' (n+1) D':=by
 refine ⟨hp',hm,hdom,fun p i=>?_,fun r hr=>?_,fun r hr i=>?_,fun i hi=>?_⟩
 . by_cases hp:p∈(x.steps.getD n default).out
   . exact xpe hm (vbw hI i) (hcon i) (show p∈yxs x.steps (n+1) by rw [yxs];exact List.mem_append.2 (.inr hp))
   . rw [hsame p i hp];exact hI.le p i
 . rw [hsh] at hr;obtain ⟨h1,h2,h3⟩:=hI.sh r hr;exact ⟨h1,by omega,h3⟩
 . rw [hsh] at hr;obtain ⟨h1,h2,h3⟩:=hI.shv r hr i;exact ⟨h1,h2,hD _ h3⟩
 . rw [hsh];exact hcon i hi
theorem zi2 (h:Acc s r x) {n:Nat} (hn:n<x.steps.length) (hI:InvW x.steps w n D) (hi:(x.steps.getD n default).inn=[]) (ho:(x.steps.getD n default).out.length=1) (y:Src):InvW x.steps (srcW w y ((x.steps.getD n default).out.getD 0 default)) (n+1) D:=by
 obtain ⟨o,eo⟩:∃ o,(x.steps.getD n default).out=[o]:=⟨_,v6e ho⟩;rw [eo];show InvW x.steps (srcW w y o) (n+1) D;have hno:¬o∈yxs x.steps n:=vo8 h hn (by rw [eo];exact List.mem_singleton.2 rfl)
 have hlen:(srcW w y o).srcs.length=w.srcs.length+1:=by unfold srcW;simp
 have hpt:∀ p i,wrt (srcW w y o).m p i=if p=o then (newL w.srcs.length).getD i (Fc.of 0) else wrt w.m p i:=fun p i=>v81 _ _ _ _ _
 have hm:InvM (srcW w y o).m (srcW w y o).srcs.length D:=by
  rw [hlen]
  exact hI.m.upd (by omega) (fun q hq=>hq) (by unfold newL;simp) (by unfold newL;simp) (fun z hz=>by
   unfold newL at hz
   rcases List.mem_append.1 hz with hz | hz
   . rw [(List.mem_replicate.1 hz).2];exact Fc.wvr 0
   . rw [List.mem_singleton.1 hz];exact Fc.wvr 1) (fun i=>by rw [v1p];split<;>decide) (fun i=>by
   rw [v1p]
   split
   . exact isI.one D
   . exact isI.zero D)
 have hlive:yxs x.steps (n+1)=yxs x.steps n++[o]:=by rw [yxs,vfp hi,eo]
 have hsm:∀ i,hasF (srcW w y o).m (yxs x.steps n) i=hasF w.m (yxs x.steps n) i:=fun i=>zaj (fun p hp=>by rw [hpt,if_neg (show ¬p=o from fun e=>hno (e▸hp))])
 refine wxp hI hI.pos (fun q hq=>hq) hm (by rw [hlen];omega) (fun p hp=>?_) (fun p i hp=>?_) rfl (fun i hi'=>?_)
 . rw [hlive] at hp;exact vvz ((List.mem_append.1 hp).elim (fun hp=>.inr (hI.dom p hp)) (fun hp=>.inl (List.mem_singleton.1 hp)))
 . rw [hpt,if_neg (fun e=>hp (by rw [eo,e];exact List.mem_singleton.2 rfl))]
 . have e1:hasF (srcW w y o).m (yxs x.steps (n+1)) i=hasF w.m (yxs x.steps n) i+if i=w.srcs.length then 1 else 0:=by
    rw [w2x,vfp hi,hsm,eo];show _+qsum [(wrt (srcW w y o).m o i).val]=_;rw [hpt,if_pos rfl,v1p];show _+(_+(0:Rat))=_;rw [Rat.add_zero]
   rw [e1];by_cases e:i=w.srcs.length
   . rw [if_pos e,hasF,ws1 (fun p _=>by rw [hI.m.xvs p (by omega),zoy]),outF,ws1 (fun z hz=>by rw [ldN (by have:=(hI.sh z hz).2.1;omega),zoy]),Rat.zero_add,Rat.add_zero]
   . rw [if_neg e,Rat.add_zero];exact hI.con i (by rw [hlen] at hi';omega)
theorem xs3 {n:Nat} (hI:InvW x.steps w n D) {p:ByteArray} (hp:p∈yxs x.steps n):0<w.srcs.length:=by
 obtain ⟨l,hl⟩:=hI.dom p hp
 have:=hI.m.len p l hl
 omega
theorem inv_split (h:Acc s r x) {n E:Nat} {wt:List Fc} (hn:n<x.steps.length) (hI:InvW x.steps w n D) (hi:(x.steps.getD n default).inn.length=1) (hw:zhw wt E) (hl:wt.length=(x.steps.getD n default).out.length) :
 InvW x.steps (setM w (zlv w.srcs.length (x.steps.getD n default).inn wt (x.steps.getD n default).out w.m (x.steps.getD n default).out.length)) (n+1) (D*E)/\∀ k,k<=(x.steps.getD n default).out.length->InvM (zlv w.srcs.length (x.steps.getD n default).inn wt (x.steps.getD n default).out w.m k) w.srcs.length (D*E)/\∀ p i,(wrt (zlv w.srcs.length (x.steps.getD n default).inn wt (x.steps.getD n default).out w.m k) p i).val<=1:=by
 have hN:0<w.srcs.length:=xs3 hI (wjk h hn (show (x.steps.getD n default).inn.getD 0 default∈_ from ldM (by omega)));have hk:=ysm hI.m hN hw.el (Nat.le_of_eq hl.symm) (h.y0g hn) (fun p hp=>wu5 h hn hp);obtain ⟨h1,h2,h3⟩:=hk _ (Nat.le_refl _)
 have hnot:∀ p,¬p∈(x.steps.getD n default).out->∀ j,j<(x.steps.getD n default).out.length->¬(x.steps.getD n default).out.getD j default=p:=fun p hp j hj e=>hp (e▸ldM hj)
 have hout:∀ i,hasF (zlv w.srcs.length (x.steps.getD n default).inn wt (x.steps.getD n default).out w.m (x.steps.getD n default).out.length) (x.steps.getD n default).out i=hasF w.m (x.steps.getD n default).inn i:=fun i=>by
  have e:((x.steps.getD n default).out.map fun p=>(wrt (zlv w.srcs.length (x.steps.getD n default).inn wt (x.steps.getD n default).out w.m (x.steps.getD n default).out.length) p i).val)=wt.map fun y=>hasF w.m (x.steps.getD n default).inn i*y.val:=wm6 (d:=default) (e:=Fc.zero) hl.symm (fun j hj=>h3 j hj i)
  rw [hasF,e,xr2,hw.sum,Rat.mul_one]
 have hlv:∀ i,hasF (zlv w.srcs.length (x.steps.getD n default).inn wt (x.steps.getD n default).out w.m (x.steps.getD n default).out.length) ((yxs x.steps n).filter (w07 (x.steps.getD n default))) i=hasF w.m ((yxs x.steps n).filter (w07 (x.steps.getD n default))) i:=fun i=>zaj (fun p hp=>by rw [h2 p i (hnot p fun ho=>vo8 h hn ho (List.mem_filter.1 hp).1)])
 have hW : InvW x.steps (setM w (zlv w.srcs.length (x.steps.getD n default).inn wt (x.steps.getD n default).out w.m (x.steps.getD n default).out.length)) (n + 1) (D * E) := by
  refine wxp hI (Nat.mul_pos hI.pos hw.pos) (fun q hq=>hq.up E) h1 (Nat.le_refl _) (fun p hp=>?_) (fun p i hp=>h2 p i (hnot p hp)) rfl (fun i hi'=>?_)
  . show ∃ l,v7b (zlv _ _ _ _ _ _) p=some l
    have key:∀ k,(p∈(x.steps.getD n default).out.take k\/∃ l,v7b w.m p=some l)->k<=(x.steps.getD n default).out.length->∃ l,v7b (zlv w.srcs.length (x.steps.getD n default).inn wt (x.steps.getD n default).out w.m k) p=some l:=by
     intro k
     induction k with
     | zero=>exact fun hh _=>hh.elim (fun hh=>by cases hh) id
     | succ k ih=>
      intro hh hk;rw [wgf];refine vvz ?_;rw [vys (by omega),List.mem_append] at hh
      rcases hh with (hh | hh) | hh
      . exact .inr (ih (.inl hh) (by omega))
      . exact .inl (List.mem_singleton.1 hh)
      . exact .inr (ih (.inr hh) (by omega))
    refine key _ ?_ (Nat.le_refl _);rw [yxs] at hp
    rcases List.mem_append.1 hp with hp | hp
    . exact .inr (hI.dom p (List.mem_filter.1 hp).1)
    . exact .inl (by rw [List.take_length];exact hp)
  . show hasF (zlv _ _ _ _ _ _) _ _+_=_;rw [w2x,hlv,hout]
    have:=hI.con i hi'
    rw [vna h hn,Rat.add_comm (hasF w.m (x.steps.getD n default).inn i)] at this;exact this
 refine ⟨hW,fun k hkl=>⟨(hk k hkl).1,fun p i=>?_⟩⟩;obtain ⟨_,g2,g3⟩:=hk k hkl;by_cases hp:∃ j,j<k/\(x.steps.getD n default).out.getD j default=p
 . obtain ⟨j,hj,rfl⟩:=hp;rw [g3 j hj,<-h3 j (by omega)];exact hW.le _ i
 . rw [g2 p i (fun j hj e=>hp ⟨j,hj,e⟩)];exact hI.le p i
theorem z7a (h:Acc s r x) {n:Nat} (hn:n<x.steps.length) (hI:InvW x.steps w n D) (hi:0<(x.steps.getD n default).inn.length) (ho:(x.steps.getD n default).out.length=1) :
 InvW x.steps (setM w (updF w.m ((x.steps.getD n default).out.getD 0 default) (mixF w.m w.srcs.length (x.steps.getD n default).inn (Fc.of 1)))) (n+1) D:=by
 have hN:0<w.srcs.length:=xs3 hI (wjk h hn (show (x.steps.getD n default).inn.getD 0 default∈_ from ldM hi));obtain ⟨o,eo⟩:∃ o,(x.steps.getD n default).out=[o]:=⟨_,v6e ho⟩
 have e0:(x.steps.getD n default).out.getD 0 default=o:=by rw [eo];rfl
 rw [e0];have hno:¬o∈yxs x.steps n:=vo8 h hn (by rw [eo];exact List.mem_singleton.2 rfl);have h1v:(Fc.of 1).val=1:=Fc.y22 1;have hm:InvM (updF w.m o (mixF w.m w.srcs.length (x.steps.getD n default).inn (Fc.of 1))) w.srcs.length D:=hI.m.mix hN (Fc.wvr 1) (by rw [h1v];decide) (fun q hq=>hq) (fun i=>by rw [h1v,Rat.mul_one];exact isI.sum fun p _=>hI.m.int p i) o;refine wxp hI hI.pos (fun q hq=>hq) hm (Nat.le_refl _) (fun p hp=>?_) (fun p i hp=>?_) rfl (fun i hi'=>?_)
 . rw [yxs,eo] at hp;exact vvz ((List.mem_append.1 hp).elim (fun hp=>.inr (hI.dom p (List.mem_filter.1 hp).1)) (fun hp=>.inl (List.mem_singleton.1 hp)))
 . show wrt (updF _ _ _) p i=_;rw [v81,if_neg (fun e=>hp (by rw [eo,e];exact List.mem_singleton.2 rfl))]
 . show hasF (updF _ _ _) _ _+_=_;have e1:hasF (updF w.m o (mixF w.m w.srcs.length (x.steps.getD n default).inn (Fc.of 1))) ((yxs x.steps n).filter (w07 (x.steps.getD n default))) i=hasF w.m ((yxs x.steps n).filter (w07 (x.steps.getD n default))) i:=zaj (fun p hp=>by rw [v81,if_neg (show ¬p=o from fun e=>hno (e▸(List.mem_filter.1 hp).1))]);rw [w2x,e1,eo]
   have e2:hasF (updF w.m o (mixF w.m w.srcs.length (x.steps.getD n default).inn (Fc.of 1))) [o] i=hasF w.m (x.steps.getD n default).inn i:=by
    show (wrt _ o i).val+(0:Rat)=_;rw [Rat.add_zero,v81,if_pos rfl,vtr hI.m (Fc.wvr 1),h1v,Rat.mul_one]
   rw [e2]
   have:=hI.con i hi'
   rw [vna h hn,Rat.add_comm (hasF w.m (x.steps.getD n default).inn i)] at this;exact this
theorem xph (h:Acc s r x) {n:Nat} (hn:n<x.steps.length) (hI:InvW x.steps w n D) (hi:(x.steps.getD n default).inn.length=1) (ho:(x.steps.getD n default).out=[]) (y:Ot) :
 InvW x.steps (outW w y ((x.steps.getD n default).inn.getD 0 default)) (n+1) D:=by
 obtain ⟨p0,ep⟩:∃ o,(x.steps.getD n default).inn=[o]:=⟨_,v6e hi⟩
 have e0:(x.steps.getD n default).inn.getD 0 default=p0:=by rw [ep];rfl
 rw [e0];obtain ⟨row,hrow⟩:=hI.dom p0 (wjk h hn (by rw [ep];exact List.mem_singleton.2 rfl))
 have hr:∀ i,row.getD i (Fc.of 0)=wrt w.m p0 i:=fun i=>by unfold wrt;rw [hrow];rfl
 have hlive:yxs x.steps (n+1)=(yxs x.steps n).filter (w07 (x.steps.getD n default)):=by rw [yxs,ho,List.append_nil]
 have hsh:(outW w y p0).shares=w.shares++[row]:=by unfold outW;rw [hrow];rfl
 refine ⟨hI.pos,hI.m,fun p hp=>?_,hI.le,fun z hz=>?_,fun z hz i=>?_,fun i hi'=>?_⟩
 . rw [hlive] at hp;exact hI.dom p (List.mem_filter.1 hp).1
 . rw [hsh] at hz
   rcases List.mem_append.1 hz with hz | hz
   . exact hI.sh z hz
   . rw [List.mem_singleton.1 hz]
     have:=hI.m.len p0 row hrow
     exact ⟨this.1,this.2,hI.m.ok p0 row hrow⟩
 . rw [hsh] at hz
   rcases List.mem_append.1 hz with hz | hz
   . exact hI.shv z hz i
   . rw [List.mem_singleton.1 hz,hr];exact ⟨hI.m.nn p0 i,hI.le p0 i,hI.m.int p0 i⟩
 . rw [hsh,hlive];show hasF w.m _ i+outF _ i=1
   have:=hI.con i hi'
   rw [vna h hn,ep] at this
   have e2:hasF w.m [p0] i=(wrt w.m p0 i).val:=by show _+(0:Rat)=_;rw [Rat.add_zero]
   have e3:outF (w.shares++[row]) i=outF w.shares i+(wrt w.m p0 i).val:=by
    rw [outF,List.map_append,ztz];show _+((row.getD i (Fc.of 0)).val+(0:Rat))=_;rw [hr,Rat.add_zero]
   rw [e2] at this;rw [e3]
   grind
end
end Go.Hp.T
namespace Go.Hp.T
open Go Go.RowKit Go.Slot Go.Hp Go.Slot.T
open Go.Proofs.Tryz (prog)
set_option maxRecDepth 10000
set_option maxHeartbeats 8000000
variable {Γ:List (Nat×List Cell)}
theorem v4e {s:Sht} {r:Int} (ha:Acc s r (s.recipes.getD r.toNat default)):(s.recipes.getD r.toNat default).steps.length<=100:=by
 have hR':=ha.hR;have h0:=ha.h0;have h1:=ha.h1;unfold vtb at hR';simp only [Bool.and_eq_true] at hR'
 have:=((v67 hR'.2).2 _ (z1y (show r.toNat<s.recipes.length by omega))).2.1
 unfold rcpU at this;simp only [Bool.and_eq_true,decide_eq_true_eq] at this;omega
end Go.Hp.T
namespace Go.Hp.T
open Go Go.RowKit Go.Slot Go.Hp Go.Slot.T
set_option maxRecDepth 10000
variable {l:List ByteArray} {w:ByteArray} {D:Nat}
theorem yf2 {a b:Rat} (ha:0<=a) (hb:0<=b) (hne:¬b=0):0<=a / b:=by
 have e:=Rat.div_mul_cancel (a:=a) hne
 rcases Rat.le_total (a:=0) (b:=a / b) with h | h
 . exact h
 . have h1:0<=-(a / b)*b:=Rat.mul_nonneg (by grind) hb
   have h2:a=0:=by grind
   rw [h2,Rat.div_def,Rat.zero_mul];exact Rat.le_refl
theorem ylv {α:Type} {p:α->Bool} {l:List α} (h:∃ c∈l,p c=true):0<=idxF p l:=by
 have:=vrj (p:=p) (l:=l)
 rw [List.any_eq_true.2 h] at this;exact of_decide_eq_true this
section
variable {s:Sht} {r:Int} {x:Rcp} {cs:List Sc}
structure FewV (s:Sht) (x:Rcp) (cs:List Sc):Prop where
 len:cs.length=s.cells.length
 ok:∀ v∈cs,v.ok
 sz:∀ v∈cs,v.low.sz<=8/\v.high.sz<=8
 st:x.steps.length<=25
 il:∀ y∈x.steps,y.inn.length<=6/\y.out.length<=6
theorem Acc.cell (h:Acc s r x) {n:Nat} (hn:n<x.steps.length) (hw:w∈(x.steps.getD n default).cells):0<=idxC s w/\(idxC s w).toNat<s.cells.length:=by
 have h1:=(xa4.1 (h.hw n hn)).2.1;rw [List.any_eq_false] at h1;have h2:=h1 w hw;unfold noCl at h2;obtain ⟨u,hu⟩:=vgz h2
 have h3:0<=idxC s w:=by
  rcases vuw (nm:=Cel.name) (uu:=Cel.unit) hu with ⟨c,hc,e,_⟩ | hh
  . exact ylv ⟨c,hc,by rw [e,z8u];exact decide_eq_true rfl⟩
  . cases hh
 exact ⟨h3,(vu8 h3).1⟩
theorem Acc.val (h:Acc s r x) (hf:FewV s x cs) {n:Nat} (hn:n<x.steps.length) (hw:w∈(x.steps.getD n default).cells):valF s cs w∈cs:=ldM (by rw [hf.len];exact (h.cell hn hw).2)
theorem Acc.wt (h:Acc s r x) (hst:∀ y∈x.steps,xn0 y=true) (hf:FewV s x cs) {n:Nat} (hn:n<x.steps.length) (hk:(x.steps.getD n default).kind=3):WtOk s cs (x.steps.getD n default).cells/\(x.steps.getD n default).cells.length<=6:=by
 have h6:(x.steps.getD n default).cells.length<=6:=by
  rw [(yod (hst _ (z1y hn)) hk).2];exact (hf.il _ (z1y hn)).2
 exact ⟨⟨by omega,fun w hw=>by rw [hf.len];exact h.cell hn hw,fun w hw=>(hf.ok _ (h.val hf hn hw)).1,fun w hw=>Nat.le_trans (hf.sz _ (h.val hf hn hw)).1 (by decide),fun w hw=>Nat.le_trans (hf.sz _ (h.val hf hn hw)).2 (by decide)⟩,h6⟩
theorem vus {l:List ByteArray} (hz:∀ w∈l,(valF s cs w).low.sz<=8):∀ k,k<=l.length->(sumV s cs (l.take k)).sz<=k*9+1
 | 0,_=>by rw [xf7];have:=zyp;omega
 | k+1,hk=>by
  have h1:=vus hz k (by omega);rw [w2p (by omega)];have h2:=Fc.zgp (sumV s cs (l.take k)) (valF s cs (l.getD k default)).low;have h3:=hz _ (z1y (l:=l) (i:=k) (by omega));omega
theorem wsh (hl:l.length<=6) (hz:∀ w∈l,(valF s cs w).low.sz<=8):∀ y∈wtL s cs l,y.sz<=64:=fun y hy=>by
 obtain ⟨w,hw,rfl⟩:=List.mem_map.1 hy;have h1:=vus hz l.length (Nat.le_refl _);rw [List.take_length] at h1;have h2:=x4o (valF s cs w).low (sumV s cs l);have h3:=hz w hw;omega
def ylz:List Fc->Nat
 | []=>1
 | y::l=>y.val.den*ylz l
theorem xcc:∀ l:List Fc,0<ylz l
 | []=>Nat.one_pos
 | y::l=>Nat.mul_pos (Nat.pos_of_ne_zero y.val.den_nz) (xcc l)
theorem wl6:∀{l:List Fc},∀ y∈l,isI (ylz l) y.val
 | z::l,y,hy=>by
  show isI (z.val.den*ylz l) y.val
  rcases List.mem_cons.1 hy with rfl | hy
  . exact (vrf _).up _
  . rw [Nat.mul_comm];exact (wl6 y hy).up _
theorem vwq:∀{l:List Fc},(∀ y∈l,y.ok/\y.sz<=64)->(dig (ylz l)).length<=l.length*64+1
 | [],_=>by show (dig 1).length<=1;rw [vv4 (by decide),v6p];decide
 | y::l,h=>by
  have h1:=vwq (fun z hz=>h z (List.mem_cons_of_mem y hz));obtain ⟨ok,sz⟩:=h y List.mem_cons_self
  have h2:(dig y.val.den).length<=64:=by
   rw [Fc.z2l ok,Fc.w9x] at sz;omega
  have h3:=vjg y.val.den (ylz l);show (dig (y.val.den*ylz l)).length<=(l.length+1)*64+1;omega
theorem ygi (h:∀ w∈l,(valF s cs w).low.ok):(sumV s cs l).ok/\(sumV s cs l).val=qsum (l.map fun w=>(valF s cs w).low.val):=by
 have e:sumV s cs l=(l.map fun w=>(valF s cs w).low).foldl Fc.add (Fc.of 0):=by unfold sumV;rw [List.foldl_map]
 obtain ⟨h1,h2⟩:=zrn (l.map fun w=>(valF s cs w).low) (Fc.of 0) (Fc.wvr 0) (fun y hy=>by
  obtain ⟨w,hw,rfl⟩:=List.mem_map.1 hy
  exact h w hw)
 rw [e];exact ⟨h1,by rw [h2,zoy,Rat.zero_add,List.map_map];rfl⟩
theorem yxw {a:Fc} (h:a.ok):Fc.sign a=sg a.val.num:=by
 unfold Fc.sign;rw [if_pos h]
theorem yb0 (hw:WtOk s cs l) (_hl:l.length<=6) (_hz:∀ w∈l,(valF s cs w).low.sz<=8) (h0:wtE s cs l=0):zhw (wtL s cs l) (ylz (wtL s cs l)):=by
 have hb:l.any (fun w=>badV (valF s cs w))=false:=by
  cases hb:l.any (fun w=>badV (valF s cs w)) with
  | false=>rfl
  | true=>unfold wtE at h0;rw [hb] at h0;cases h0
 have hs0:¬Fc.sign (sumV s cs l)=0:=fun e=>by
  unfold wtE at h0;rw [hb,cond_false,decide_eq_true e] at h0
  cases h0
 obtain ⟨so,sv⟩:=ygi hw.ok
 have hnn:∀ w∈l,0<=(valF s cs w).low.val:=fun w hw'=>by
  have h1:=List.any_eq_false.1 hb w hw';unfold badV at h1;rw [Bool.or_eq_true,decide_eq_true_eq] at h1
  have h2:¬Fc.sign (valF s cs w).low<0:=fun e=>h1 (.inr e)
  rw [Fc.z2l (hw.ok w hw')] at h2;exact yw0 h2
 have hne:¬(sumV s cs l).val=0:=fun e=>hs0 (by rw [yxw so,e];rfl)
 have hpos:0<=(sumV s cs l).val:=by
  rw [sv]
  exact wff (fun q hq=>by
   obtain ⟨w,hw',rfl⟩:=List.mem_map.1 hq
   exact hnn w hw')
 have hdv:∀ w∈l,divF (valF s cs w).low (sumV s cs l)=Fc.of ((valF s cs w).low.val / (sumV s cs l).val):=fun w hw'=>by
  unfold divF;rw [if_pos ⟨hw.ok w hw',so,hne⟩]
 refine ⟨xcc _,fun y hy=>?_,?_⟩
 . have hi:=wl6 y hy;obtain ⟨w,hw',rfl⟩:=List.mem_map.1 hy;rw [hdv w hw'] at hi ⊢;rw [Fc.y22] at hi ⊢;refine ⟨Fc.wvr _,?_,hi⟩;exact yf2 (hnn w hw') hpos hne
 . unfold wtL
   rw [List.map_map,zaj (g:=fun w=>(sumV s cs l).val⁻¹*(valF s cs w).low.val) (fun w hw'=>by
    show (divF _ _).val=_
    rw [hdv w hw',Fc.y22,Rat.div_def,Rat.mul_comm]),xr2,<-sv,Rat.inv_mul_cancel _ hne]
theorem wcy {y:Fc} (hD:0<D) (h:y.ok) (hi:isI D y.val) (h0:0<=y.val) (h1:y.val<=1):y.sz<=(dig D).length:=by
 have:=wvw hD hi h0 h1
 rwa [<-Fc.z2l h] at this
theorem InvM.szM {m:Mf} {N:Nat} (h:InvM m N D) (hD:0<D) (hN:N<=1000) (hd:(dig D).length<=100000) (hle:∀ p i,(wrt m p i).val<=1):SzM m:=⟨fun p l hl=>Nat.le_trans (h.len p l hl).2 hN,fun p l hl y hy=>by
 obtain ⟨i,hi,rfl⟩:=List.getElem_of_mem hy
 have e:wrt m p i=l[i]:=by unfold wrt;rw [hl,Option.getD_some,ldE hi]
 have h1:=h.nn p i;have h2:=h.int p i;have h3:=hle p i;rw [e] at h1 h2 h3
 exact Nat.le_trans (wcy hD (h.ok p l hl _ (List.getElem_mem _)) h2 h1 h3) hd⟩
theorem wig {y:Stp} (hk:y.kind=3):errW s cs y=wtE s cs y.cells:=by unfold errW;rw [hk];rfl
theorem xkr (h:Acc s r x) (hst:∀ y∈x.steps,xn0 y=true) (hf:FewV s x cs) {w:Wk} {n:Nat} (hn:n<x.steps.length) (hI:InvW x.steps w n D) (he:errW s cs (x.steps.getD n default)=0):∃ D',InvW x.steps (vlo s cs w (x.steps.getD n default)) (n+1) D'/\(dig D').length<=(dig D).length+385:=by
 have hs:=hst _ (z1y hn);have hkk:=xiq hs
 have hk:(x.steps.getD n default).kind=0\/(x.steps.getD n default).kind=1\/(x.steps.getD n default).kind=2\/(x.steps.getD n default).kind=3\/(x.steps.getD n default).kind=4\/(x.steps.getD n default).kind=5\/(x.steps.getD n default).kind=6\/(x.steps.getD n default).kind=7\/(x.steps.getD n default).kind=8:=by omega
 rcases hk with hk | hk | hk | hk | hk | hk | hk | hk | hk
 . obtain ⟨h1,h2⟩:=yzt hs (.inl hk);exact ⟨D,by unfold vlo;rw [hk];exact zi2 h hn hI h1 h2 _,by omega⟩
 . obtain ⟨h1,h2⟩:=yzt hs (.inr (.inl hk));exact ⟨D,by unfold vlo;rw [hk];exact zi2 h hn hI h1 h2 _,by omega⟩
 . obtain ⟨h1,h2⟩:=yzt hs (.inr (.inr hk));exact ⟨D,by unfold vlo;rw [hk];exact zi2 h hn hI h1 h2 _,by omega⟩
 . obtain ⟨h1,h2⟩:=yod hs hk;obtain ⟨hw,h6⟩:=h.wt hst hf hn hk
   have hz:∀ w∈(x.steps.getD n default).cells,(valF s cs w).low.sz<=8:=fun w hw=>(hf.sz _ (h.val hf hn hw)).1
   have h0:wtE s cs (x.steps.getD n default).cells=0:=by rw [<-wig hk];exact he
   have hsum:=yb0 hw h6 hz h0
   have hl:(wtL s cs (x.steps.getD n default).cells).length=(x.steps.getD n default).out.length:=by unfold wtL;rw [List.length_map,h2]
   refine ⟨D*ylz (wtL s cs (x.steps.getD n default).cells),?_,?_⟩
   . rw [w1x hk (show wtF s cs (x.steps.getD n default).cells=wtL s cs (x.steps.getD n default).cells by unfold wtF;rw [h0];rfl)];exact (inv_split h hn hI h1 hsum hl).1
   . have d1:=vwq (fun y hy=>⟨(hsum.el y hy).1,wsh h6 hz y hy⟩);have d2:=vjg D (ylz (wtL s cs (x.steps.getD n default).cells))
     have d3:(wtL s cs (x.steps.getD n default).cells).length<=6:=by unfold wtL;rw [List.length_map];exact h6
     omega
 . have h2:=xd9 hs hk;by_cases hi:0<(x.steps.getD n default).inn.length
   . exact ⟨D,by unfold vlo;rw [hk];exact z7a h hn hI hi h2,by omega⟩
   . exact absurd (y5x hs hk) hi
 . obtain ⟨h1,h2⟩:=xhv hs (by omega);exact ⟨D,by unfold vlo;rw [hk];exact xph h hn hI h1 h2 _,by omega⟩
 . obtain ⟨h1,h2⟩:=xhv hs (by omega);exact ⟨D,by unfold vlo;rw [hk];exact xph h hn hI h1 h2 _,by omega⟩
 . obtain ⟨h1,h2⟩:=xhv hs (by omega);exact ⟨D,by unfold vlo;rw [hk];exact xph h hn hI h1 h2 _,by omega⟩
 . obtain ⟨h1,h2⟩:=xhv hs (by omega);exact ⟨D,by unfold vlo;rw [hk];exact xph h hn hI h1 h2 _,by omega⟩
theorem xuh (h:Acc s r x) (hst:∀ y∈x.steps,xn0 y=true) (hf:FewV s x cs):∀ n,n<=x.steps.length->(∀ j,j<n->errW s cs (x.steps.getD j default)=0)->∃ D,InvW x.steps (ytm s cs x.steps nilW n) n D/\(dig D).length<=n*385+1
 | 0,_,_=>⟨1,InvW.start _,by rw [vv4 (by decide),v6p];decide⟩
 | n+1,hn,he=>by
  obtain ⟨D,h1,h2⟩:=xuh h hst hf n (by omega) (fun j hj=>he j (by omega));obtain ⟨D',h3,h4⟩:=xkr h hst hf (show n<x.steps.length by omega) h1 (he n (by omega));exact ⟨D',h3,by omega⟩
theorem v0v (hs:s.Sm) (h:Acc s r x) (hst:∀ y∈x.steps,xn0 y=true) (hf:FewV s x cs):wjm s cs x.steps:=by
 have hlen:=hf.st;refine ⟨by omega,fun n hn=>xiq (hst _ (z1y hn)),fun n hn he=>?_,fun he=>?_⟩
 . obtain ⟨D,hI,hd⟩:=xuh h hst hf n (by omega) he;have hw:=x6p s cs x.steps n;generalize ytm s cs x.steps nilW n=w at *;have hy:=hst _ (z1y hn);obtain ⟨i6,o6⟩:=hf.il _ (z1y hn)
   have hdb:(dig D).length<=10000:=by
    have:n*385<=25*385:=Nat.mul_le_mul_right _ (by omega)
    omega
   refine ⟨hI.m.szM hI.pos (by omega) (by omega) hI.le,by omega,by omega,by omega,by omega,by omega,hs.cl,hs.nl,hs.il,hs.sl,hs.pl,fun hk=>?_,fun hk=>?_,fun hk=>?_,fun hk=>?_⟩
   . rw [(yzt hy (by have:=xiq hy;omega)).2];decide
   . obtain ⟨h1,h2⟩:=yod hy hk;obtain ⟨hwt,h6⟩:=h.wt hst hf hn hk
     have hz:∀ w∈(x.steps.getD n default).cells,(valF s cs w).low.sz<=8:=fun w hw=>(hf.sz _ (h.val hf hn hw)).1
     refine ⟨hwt,fun h0=>⟨by omega,fun k hkl=>?_⟩,fun y hy=>Nat.le_trans (wsh h6 hz y hy) (by decide)⟩;have hsum:=yb0 hwt h6 hz h0
     have hl:(wtL s cs (x.steps.getD n default).cells).length=(x.steps.getD n default).out.length:=by unfold wtL;rw [List.length_map,h2]
     obtain ⟨_,hk2⟩:=inv_split h hn hI h1 hsum hl;have d1:=vwq (fun y hy=>⟨(hsum.el y hy).1,wsh h6 hz y hy⟩);have d2:=vjg D (ylz (wtL s cs (x.steps.getD n default).cells));exact (hk2 k hkl).1.szM (Nat.mul_pos hI.pos hsum.pos) (by omega) (by omega) (hk2 k hkl).2
   . rw [xd9 hy hk];decide
   . obtain ⟨h1,_⟩:=xhv hy hk;exact ⟨by omega,hI.dom _ (wjk h hn (ldM (by omega)))⟩
 . obtain ⟨D,hI,hd⟩:=xuh h hst hf x.steps.length (Nat.le_refl _) he;have hw:=x6p s cs x.steps x.steps.length
   have hdb:(dig D).length<=10000:=by
    have:x.steps.length*385<=25*385:=Nat.mul_le_mul_right _ hlen
    omega
   intro row hr;obtain ⟨h1,h2,h3⟩:=hI.sh row hr;refine ⟨h1,by omega,fun y hy=>?_⟩;obtain ⟨i,hi,rfl⟩:=List.getElem_of_mem hy;obtain ⟨v0,v1,v2⟩:=hI.shv row hr i;rw [ldE hi] at v0 v1 v2;exact Nat.le_trans (wcy hI.pos (h3 _ (List.getElem_mem _)) v2 v0 v1) (by omega)
end
end Go.Hp.T
namespace Go.Hp.T
open Go Go.RowKit Go.Slot Go.Hp Go.Slot.T
open Go.Proofs.Tryz (prog)
set_option maxRecDepth 10000
variable {Γ:List (Nat×List Cell)} {s:Sht} {r:Int} {cs:List Sc}
theorem wwq {v:Sc} (h:sz4 v=true):v.low.sz<=4/\v.high.sz<=4:=by
 unfold sz4 Sc.sz at h
 have:=of_decide_eq_true h
 omega
theorem v08 (h:v93 cs=true):cs.length<=10/\∀ v∈cs,v.sz<=4:=by
 unfold v93 at h;simp only [Bool.and_eq_true,decide_eq_true_eq,List.all_eq_true] at h;exact ⟨by omega,fun v hv=>of_decide_eq_true (h.2 v hv)⟩
theorem x9g (h:fewM s r cs=true):vzg s r=true/\v93 cs=true:=by
 unfold fewM at h;simp only [Bool.and_eq_true] at h;exact h.2
theorem x2b (h:badA s r cs=false):vtb s=true/\(0<=r/\r<s.recipes.length)/\cs.length=s.cells.length/\∀ v∈cs,v.ok:=by
 simp only [badA,Bool.or_eq_false_iff,Bool.not_eq_false',decide_eq_false_iff_not,decide_eq_true_eq,List.any_eq_false,Bool.not_eq_true',Decidable.not_not] at h;exact ⟨h.1,by omega,h.2.2.2.1,fun v hv=>by simpa using h.2.2.2.2 v hv⟩
theorem v1j (hf:fewM s r cs=true) (hb:badA s r cs=false) (ha:Acc s r (s.recipes.getD r.toNat default)):FewV s (s.recipes.getD r.toNat default) cs:=by
 obtain ⟨h30,hsp⟩:=x9g hf;obtain ⟨_,⟨r0,r1⟩,hl,hok⟩:=x2b hb;obtain ⟨_,h4⟩:=v08 hsp;have hlen:=v4e ha;unfold vzg at h30;rw [decide_eq_false (show ¬r<0 by omega),decide_eq_false (show ¬(s.recipes.length:Int)<=r by omega),Bool.or_false,cond_false] at h30;generalize (s.recipes.getD r.toNat default)=x at *;unfold f30l at h30;by_cases h25:(x.steps.length:Int)<=25
 . rw [decide_eq_true h25,cond_true,List.all_eq_true] at h30;refine ⟨hl,hok,fun v hv=>(wwq (decide_eq_true (h4 v hv))).imp (fun h=>Nat.le_trans h (by decide)) (fun h=>Nat.le_trans h (by decide)),by omega,fun y hy=>?_⟩
   have:=h30 y hy
   unfold f30b at this;simp only [Bool.and_eq_true,Bool.not_eq_true',decide_eq_false_iff_not] at this;omega
 . rw [decide_eq_false h25,cond_false,decide_eq_true_eq] at h30;omega
theorem y71 (hb:badA s r cs=false):∀ y∈(s.recipes.getD r.toNat default).steps,xn0 y=true:=by
 obtain ⟨hR,⟨r0,r1⟩,_,_⟩:=x2b hb
 exact fun y hy=>ybh hR (z1y (by omega)) hy
theorem yy1 (hs:s.Sm) (hf:fewM s r cs=true):CallsD Γ prog 10 [.agg (shtC s),.one (cI r),.one (.sl 8 (cs.map Sc.C))] (frR (ww1 s r cs)):=by
 obtain ⟨hl,h4⟩:=v08 (x9g hf).2
 have hcl:cs.length<=1048576:=by omega
 have hcz:∀ v∈cs,v.sz<=100000:=fun v hv=>Nat.le_trans (h4 v hv) (by decide)
 cases hb:badA s r cs with
 | true=>exact xq9 s r cs hs hcl hcz hb
 | false=>
  by_cases hk:(vt5 s r).1=0
  . exact xxj s r cs hs hcl hcz hb hk (v0v hs (ys5 hk) (y71 hb) (v1j hf hb (ys5 hk)))
  . exact vve s r cs hs hcl hcz hb hk
theorem x3d (s:Sht) (cs:List Sc) (l:List ByteArray):wtE s cs l=3\/wtE s cs l=15\/wtE s cs l=0:=by
 unfold wtE
 cases l.any fun w=>badV (valF s cs w) with
 | true=>exact .inl rfl
 | false=>
  cases decide (Fc.sign (sumV s cs l)=0) with
  | true=>exact .inr (.inl rfl)
  | false=>exact .inr (.inr rfl)
theorem wa8 {e:Int×Nat}:∀{l:List Stp} {i:Nat},zwk s cs l i=some e->e.1=3\/e.1=15
 | [],_,h=>by cases h
 | x::l,i,h=>by
  rw [zwk] at h;by_cases he:errW s cs x=0
  . rw [decide_eq_true he,cond_true] at h;exact wa8 h
  . rw [decide_eq_false he,cond_false] at h
    injection h with h
    subst h;show errW s cs x=3\/errW s cs x=15;unfold errW at he ⊢
    cases hk:decide (x.kind=3) with
    | false=>rw [hk] at he;exact absurd rfl he
    | true=>
     rw [hk,cond_true] at he;rw [cond_true]
     rcases x3d s cs x.cells with h | h | h
     . exact .inl h
     . exact .inr h
     . exact absurd h he
theorem xla:∀{l:List Stp} {i:Nat},zwk s cs l i=none->∀ j,j<l.length->errW s cs (l.getD j default)=0
 | [],_,_,j,hj=>by cases hj
 | x::l,i,h,j,hj=>by
  rw [zwk] at h;by_cases he:errW s cs x=0
  . rw [decide_eq_true he,cond_true] at h
    cases j with
    | zero=>exact he
    | succ j=>exact xla h j (Nat.lt_of_succ_lt_succ hj)
  . rw [decide_eq_false he,cond_false] at h
    cases h
abbrev noFl:Fl:=⟨[],[],[]⟩
inductive z2k (s:Sht) (r:Int) (cs:List Sc):Fr->Prop
 | arg (h:badA s r cs=true):z2k s r cs (noFl,1,0)
 | look (h:badA s r cs=false) (h1:¬(vt5 s r).1=0):z2k s r cs (noFl,(vt5 s r).1,(vt5 s r).2.1)
 | err (h:badA s r cs=false) (h1:(vt5 s r).1=0) (e:Int) (n:Nat) (he:e=3\/e=15):z2k s r cs (noFl,e,n)
 | ok (h:badA s r cs=false) (h1:(vt5 s r).1=0) (h2:∀ j,j<(s.recipes.getD r.toNat default).steps.length->errW s cs ((s.recipes.getD r.toNat default).steps.getD j default)=0):z2k s r cs (xjd (ytm s cs (s.recipes.getD r.toNat default).steps nilW (s.recipes.getD r.toNat default).steps.length),0,0)
theorem y6a:z2k s r cs (ww1 s r cs):=by
 unfold ww1
 cases hb:badA s r cs with
 | true=>exact .arg hb
 | false=>
  rw [cond_false];by_cases hk:(vt5 s r).1=0
  . rw [decide_eq_true hk,Bool.not_true,cond_false]
    cases he:zwk s cs (s.recipes.getD r.toNat default).steps 0 with
    | some e=>exact .err hb hk e.1 e.2 (wa8 he)
    | none=>exact .ok hb hk (xla he)
  . rw [decide_eq_false hk,Bool.not_false,cond_true];exact .look hb hk
end Go.Hp.T
