/- The proof, part Y39: Gp, Dj. -/
import Derived.Test.YtmegdbbbllffkaaGreatDoorY36
import Derived.Test.YtmegdbbbllffkaaGreatDoorY38
namespace Go.Hp.T
open Go Go.RowKit Go.Slot Go.Hp
set_option maxRecDepth 10000
theorem y8s {x:Ex} {bs:List Bd} {ms:List Tb} {V:Vq} {T:Vt} (h1:vsf x=true) (h2:x.wqc=false) (h3:entF bs ms=some (V,T)):valF x bs ms=x.cal V T:=by
 unfold valF;rw [h1,h2,h3];rfl
theorem yny {x:Ex} {bs:List Bd} {ms:List Tb} (h:(valF x bs ms).2≠2) (h':(valF x bs ms).2≠1):vsf x=true/\x.wqc=false/\∃ V T,entF bs ms=some (V,T):=by
 unfold valF at h h'
 cases h1:vsf x with
 | false=>rw [h1] at h;exact absurd rfl h
 | true=>cases h2:x.wqc with
  | true=>rw [h1,h2] at h;exact absurd rfl h
  | false=>cases h3:entF bs ms with
   | none=>rw [h1,h2,h3] at h';exact absurd rfl h'
   | some p=>exact ⟨rfl,rfl,p.1,p.2,rfl⟩
theorem z5f {x:Ex} (h:vsf x=true):x.shaped=true:=by unfold vsf at h;rw [Bool.and_eq_true] at h;exact h.2
theorem x4z {V V':Vq} {T T':Vt} (g:Ex->Ex) (x:Ex) (hop:(g x).op=x.op) (hnm:(g x).name=x.name) (hargs:(g x).args=x.args.map g)
 (h0:x.op=0->y9e (g x).n (g x).unit=y9e x.n x.unit) (h1:x.op=1->vom V' x.name=vom V x.name) (h2:x.op=2->y4u T' x.name=y4u T x.name)
 (ih:∀ y∈x.args,(g y).cal V' T'=y.cal V T):(g x).cal V' T'=x.cal V T:=by
 have hm:(x.args.map g).map (Ex.cal V' T')=x.args.map (Ex.cal V T):=by
  rw [List.map_map];exact List.map_congr_left (fun y hy=>ih y hy)
 rw [Ex.y8i,Ex.y8i V T x,hop,hnm,hargs,hm];by_cases c0:x.op=0
 . rw [h0 c0,decide_eq_true c0];rfl
 rw [decide_eq_false c0,cond_false,cond_false];by_cases c1:x.op=1
 . rw [h1 c1,decide_eq_true c1];rfl
 rw [decide_eq_false c1,cond_false,cond_false]
 cases decide (x.op=5) with
 | true=>rfl
 | false=>
  rw [cond_false,cond_false]
  cases seqV (x.args.map (Ex.cal V T)) with
  | inl e=>rfl
  | inr rs=>
   show opV T' x.op x.name rs=opV T x.op x.name rs;unfold opV;by_cases c2:x.op=2
   . rw [decide_eq_true c2];unfold w2w;rw [h2 c2]
   . rw [decide_eq_false c2];rfl
def OkN (p:Rs×Int):Prop:=p.1.t=false->p.1.i=false
theorem y9s {c:Bool} {a b:Rs×Int} (ha:OkN a) (hb:OkN b):OkN (bif c then a else b):=by cases c<;>assumption
theorem y8j (v:Option Rat) (e:Int):OkN (numV v e):=y9s (fun _=>rfl) (fun _=>rfl)
theorem yhu (e:Int):OkN (Rs.zero,e):=fun _=>rfl
theorem yt0 (b:Bool):OkN (truV b):=fun h=>by cases h
theorem xii (o:Int) (l:List Rs):OkN (logV o l):=y9s (yhu _) (y9s (yt0 _) (y9s (yt0 _) (yt0 _)))
theorem zys (o:Int) (a b:Rs):OkN (ariV o a b):=y9s (yhu _) (y9s (y8j _ _) (y9s (y8j _ _) (y9s (y8j _ _) (y9s (y8j _ _) (y9s (y8j _ _) (y9s (y8j _ _) (y9s (yt0 _) (yt0 _))))))))
theorem xdq (T:Vt) (o:Int) (s:ByteArray) (rs:List Rs):OkN (opV T o s rs):=y9s (by
 unfold w2w
 cases y4u T s with
 | none=>exact yhu _
 | some t=>exact y9s (yhu _) (y8j _ _)) (y9s (xii _ _) (zys _ _ _))
theorem wo5:OkN default:=fun _=>rfl
theorem wyj (V:Vq) (T:Vt):∀ x:Ex,OkN (x.cal V T):=by
 refine Ex.ind (fun x ih=>?_)
 have hget:∀ i,OkN ((x.args.map (Ex.cal V T)).getD i default):=fun i=>by
  by_cases hi:i<x.args.length
  . rw [getD_map hi];exact ih _ (zkt hi)
  . rw [show (x.args.map (Ex.cal V T)).getD i default=default by rw [List.getD_eq_getElem?_getD,List.getElem?_eq_none (by simpa using hi)];rfl];exact wo5
 rw [Ex.y8i];refine y9s (y9s (yhu _) (y8j _ _)) (y9s ?_ (y9s (y9s (yhu _) (y9s (yhu _) (y9s (hget 1) (hget 2)))) ?_))
 . unfold vom
   cases y4u V x.name with
   | none=>exact yhu _
   | some q=>exact y8j _ _
 . cases seqV (x.args.map (Ex.cal V T)) with
   | inl e=>exact yhu _
   | inr rs=>exact xdq _ _ _ _
theorem wly {V V':Vq} {T T':Vt} {nm:ByteArray} {y:Ex} {q:Rat} (hy:y.cal V T=(⟨false,false,some q⟩,0)) (hV:∀ s,y4u V' s=bif seq s nm then some q else y4u V s) (hT:∀ s,y4u T' s=y4u T s) :
 ∀ x:Ex,x.shaped=true->(Ex.repl nm y x).cal V T=x.cal V' T':=by
 refine Ex.ind (fun x ih hx=>?_);rw [Ex.yaj,Bool.and_eq_true,List.all_eq_true] at hx
 cases hc:(decide (x.op=1)&&seq x.name nm) with
 | true=>
  rw [Ex.z6l,hc,cond_true,hy,Ex.y8i];rw [Bool.and_eq_true,decide_eq_true_iff] at hc;rw [hc.1];show _=vom V' x.name;unfold vom;rw [hV,hc.2];show _=numV (some (q+((0:Int):Rat))) 0;rw [show q+((0:Int):Rat)=q from Rat.add_zero q];rfl
 | false=>
  have e:Ex.repl nm y x=.mk x.op x.n x.unit x.name (x.args.map (Ex.repl nm y)):=by rw [Ex.z6l,hc];rfl
  refine x4z (Ex.repl nm y) x (by rw [e];rfl) (by rw [e];rfl) (by rw [e];rfl) (fun _=>by rw [e];rfl) (fun h1=>?_) (fun _=>(hT _).symm) (fun z hz=>ih z hz (hx.2 z hz));rw [decide_eq_true h1,Bool.true_and] at hc;unfold vom;rw [hV,hc];rfl
theorem zmm (x y:Ex) (nm:ByteArray) (bs:List Bd) (ms:List Tb) (r:Rs) (hx:vsf x=true) (hy:valF y bs ms=(r,0)) (hr:r.t=false) (hz:vsf (Ex.repl nm y x)=true) (hf:(valF x (⟨nm,qF r.v⟩::bs) ms).2≠1) :
 valF (Ex.repl nm y x) bs ms=valF x (⟨nm,qF r.v⟩::bs) ms:=by
 obtain ⟨y1,y2,V,T,he⟩:=yny (x:=y) (bs:=bs) (ms:=ms) (by rw [hy];show (0:Int)≠2;decide) (by rw [hy];show (0:Int)≠1;decide)
 have hyc:y.cal V T=(r,0):=by rw [<-y8s y1 y2 he,hy]
 have hcl:=yl0 nm y y2 x (z5f hx)
 cases hc:x.wqc with
 | true=>unfold valF;rw [hcl,hc];simp
 | false=>
  cases he':entF (⟨nm,qF r.v⟩::bs) ms with
  | none=>unfold valF at hf;rw [hx,hc,he'] at hf;exact absurd rfl hf
  | some p=>
   obtain ⟨V',T'⟩:=p;obtain ⟨e1,_,_,e4,e5⟩:=yks he';obtain ⟨_,_,_,f4,f5⟩:=yks he;obtain ⟨q,hq⟩:=Option.isSome_iff_exists.1 (xes.1 (of_decide_eq_true (e1 ⟨nm,qF r.v⟩ (by simp))))
   have hi:r.i=false:=by have:=wyj V T y;rw [hyc] at this;exact this hr
   have er:r=⟨false,false,some q⟩:=by cases r;simp only at hi hr hq;subst hi hr hq;rfl
   rw [er] at hyc;rw [y8s hz (hcl.trans hc) he,y8s hx hc he'];refine wly hyc (fun s=>?_) (fun s=>by rw [e5,f5]) x (z5f hx);rw [e4 s,vst,f4 s];show Option.map _ (bif seq s nm then _ else _)=_
   cases seq s nm with
   | false=>rfl
   | true=>
    show some (qF r.v).val=some q;rw [hq];exact congrArg some (Fc.wel q)
end Go.Hp.T
namespace Go.Hp.T
open Go Go.RowKit Go.Slot Go.Hp Go.Slot.T
open Go.Proofs.Tryz (prog)
set_option maxRecDepth 10000
set_option maxHeartbeats 4000000
theorem v17:∀(x:Ex) (n lv:Int),0<=x.rsz n lv->x.rsz n lv=x.nd:=by
 have hL:∀ l:List Ex,(∀ y∈l,∀ n lv:Int,0<=y.rsz n lv->y.rsz n lv=y.nd)->∀ n lv k:Int,0<=Ex.rszL l n lv k->Ex.rszL l n lv k=k+Ex.ndL l:=by
  intro l
  induction l with
  | nil=>intro _ n lv k h;rw [Ex.rszL,Ex.ndL];omega
  | cons y l ih=>
   intro hy n lv k h;rw [Ex.rszL] at h ⊢;by_cases hlt:Ex.rsz y (n-k) (lv-1)<0
   . rw [decide_eq_true hlt] at h;simp at h
   . rw [decide_eq_false hlt,cond_false] at h ⊢;have h1:=hy y (by simp) (n-k) (lv-1) (by omega);rw [ih (fun z hz=>hy z (by simp [hz])) _ _ _ h,h1,Ex.ndL];omega
 refine Ex.ind (fun x ih n lv h=>?_);rw [Ex.y8a] at h ⊢
 cases hc:(decide (n<1)||decide (lv<1)) with
 | true=>rw [hc] at h;simp at h
 | false=>
  rw [hc,cond_false] at h;rw [cond_false,hL x.args ih _ _ _ h,Ex.z43];omega
theorem v7t (nm:ByteArray) (y:Ex) (hy:y.Sm):∀ x:Ex,x.Sm->(Ex.repl nm y x).Sm:=by
 refine Ex.ind (fun x ih hx=>?_);rw [Ex.z6l]
 cases (decide (x.op=1)&&seq x.name nm) with
 | true=>exact hy
 | false=>
  refine .mk _ (by show (x.args.map _).length<=_;rw [List.length_map];exact hx.len) hx.u hx.s (fun z hz=>?_);obtain ⟨z',h1,rfl⟩:=List.mem_map.1 (show z∈x.args.map (Ex.repl nm y) from hz);exact ih z' h1 (hx.arg z' h1)
theorem w8d (x y:Ex) (nm:ByteArray) (bs:List Bd) (ms:List Tb) (h:Ar16 x bs ms) (hy:y.Sm) (hnm:nm.size<=1073741824):CallsD Gs prog 6 [.agg (exC x),.agg (exC y),.one (cS nm),.one (.sl 5 (bs.map Bd.C)),.one (.sl 3 (ms.map Tb.C))] (.one (cB true)):=by
 have s1:=wkt;have f1:=y17 (Γ:=Gs) x bs ms h.x (by have:=h.b;omega) h.bs (by have:=h.m;omega) h.ms;have f2:=rFew (Γ:=Gs) x h.x 12 6 (by decide) (by decide) (by decide) (by decide);have f3:=rFew (Γ:=Gs) y hy 12 6 (by decide) (by decide) (by decide) (by decide);have f4:=y1b (Γ:=Gs) x h.x;have hbl:=h.b;by_cases hall:vxr x bs ms=true/\0<=x.rsz 12 6/\0<=y.rsz 12 6/\¬40<(nm.size:Int)/\¬11<(bs.length:Int)/\vsf x=true
 . obtain ⟨hf,h2,h3,h4,h5,h6⟩:=hall;rw [hf] at f1;rw [decide_eq_true h2] at f2;rw [decide_eq_true h3] at f3;rw [h6] at f4
   have hB:∀ b∈bs,b.v.sz+10<=4300:=fun b hb=>by have:=(vh0 hf).1 b hb;omega
   have bnd:∀ b∈bs,b.name.size<=1073741824/\b.v.sz<=330000:=fun b hb=>⟨(h.bs b hb).n,Nat.le_trans ((vh0 hf).1 b hb) (by decide)⟩
   have o1:=yqj (Γ:=Gs) y bs ms hy (by omega) (by have:=h.m;omega) bnd h.ms
   have hqy:qz (valF y bs ms).1.v<=51600:=by
    unfold valF
    cases e1:vsf y with
    | false=>exact Nat.zero_le _
    | true=>cases e2:y.wqc with
     | true=>exact Nat.zero_le _
     | false=>cases e3:entF bs ms with
      | none=>exact Nat.zero_le _
      | some p=>
       have q:=zc9 (V:=p.1) (T:=p.2) (B:=4300) (by decide) (yu8 (V:=p.1) (T:=p.2) e3 hB) y (z5f e1) e2;have r1:=v17 y 12 6 h3;have r2:=(Ex.v4c y 12 6).2 h3;exact Nat.le_trans q (Nat.le_trans (Nat.mul_le_mul_left _ (show y.nd<=12 by omega)) (by decide))
   have L:=zmm x y nm bs ms;generalize hv:valF y bs ms=w at o1 hqy L;obtain ⟨⟨t,i,v⟩,e⟩:=w;by_cases hok:e=0/\t=false
   . obtain ⟨rfl,rfl⟩:=hok;have L1:=L ⟨false,i,v⟩ h6 rfl rfl;clear L;have zs:=v7t nm y hy x h.x;have c1:=yx6 (Γ:=Gs) nm y x h.x (z5f h6);have c2:=y1b (Γ:=Gs) (Ex.repl nm y x) zs
     have o2:=yqj (Γ:=Gs) x (⟨nm,qF v⟩::bs) ms h.x (by rw [List.length_cons];omega) (by have:=h.m;omega) (fun b hb=>by
      rcases List.mem_cons.1 hb with rfl | hb
      . exact ⟨hnm,by show qz v<=330000;simp only at hqy;omega⟩
      . exact bnd b hb) h.ms
     have o3:=yqj (Γ:=Gs) (Ex.repl nm y x) bs ms zs (by omega) (by have:=h.m;omega) bnd h.ms
     have q2:qz (valF x (⟨nm,qF v⟩::bs) ms).1.v<=67108864:=Nat.le_trans (v3a (B:=51700) (by decide) (fun b hb=>by
      rcases List.mem_cons.1 hb with rfl | hb
      . show qz v+10<=_;simp only at hqy;omega
      . have:=hB b hb;omega)) (by decide)
     have q3:qz (valF (Ex.repl nm y x) bs ms).1.v<=67108864:=zc5 hf;have hmap:(⟨nm,qF v⟩::bs:List Bd).map Bd.C=[cS nm,.raw (.int .i64 (qF v).s),.ints .i64 (qF v).L,.raw (.int .i64 (qF v).t),.ints .i64 (qF v).M]::bs.map Bd.C:=rfl;rw [hmap] at o2;generalize valF x (⟨nm,qF v⟩::bs) ms=r2 at o2 q2 L1;generalize valF (Ex.repl nm y x) bs ms=r3 at o3 q3 L1;generalize vsf (Ex.repl nm y x)=b2 at c2 L1;generalize Ex.repl nm y x=z at c1 c2 o3 zs;clear hmap h hv bnd hB;obtain ⟨r2,e2⟩:=r2;obtain ⟨r3,e3⟩:=r3;simp only at L1 q2 q3;by_cases hz:b2=true/\e2≠1
     . obtain ⟨rfl,he⟩:=hz;have L2:=L1 rfl he;clear L1;obtain ⟨rfl,rfl⟩:r3=r2/\e3=e2:=⟨congrArg Prod.fst L2,congrArg Prod.snd L2⟩;clear L2;have sm:=z2o (Γ:=Gs) r3 r3 q3 q3;rw [decide_eq_true rfl] at sm;obtain ⟨t3,i3,v3⟩:=r3;refine CallsD.run [(8,[.own])] Go.Proofs.Tryz.func6 rfl rfl rfl ?_;simp only [Go.Proofs.Tryz.f6];refine hgR ?_
       repeat' ((first | refine hfk ?_ ?_<;>intros | refine hik ?_ | with_reducible first | refine y5m (s1) ?_ | refine vtc (s1) ?_ | refine y5m (f1) ?_ | refine vtc (f1) ?_ | refine y5m (f2) ?_ | refine vtc (f2) ?_ | refine y5m (f3) ?_ | refine vtc (f3) ?_ | refine y5m (f4) ?_ | refine vtc (f4) ?_ | refine y5m (o1) ?_ | refine vtc (o1) ?_ | refine y5m (c1) ?_ | refine vtc (c1) ?_ | refine y5m (o2) ?_ | refine vtc (o2) ?_ | refine y5m (o3) ?_ | refine vtc (o3) ?_ | refine y5m (c2) ?_ | refine vtc (c2) ?_ | refine y5m (sm) ?_ | refine vtc (sm) ?_)<;>refine hgS ?_)
       all_goals first
        | (exfalso;omega)
        | (refine RLe.ofEq ?_;conv=>simp only [Bool.and_true,Bool.true_and,Bool.and_false,Bool.false_and,Bool.or_true,Bool.true_or,Bool.or_false,Bool.false_or,Bool.not_true,Bool.not_false,decide_true,decide_false,not_true_eq_false,not_false_eq_true,x9k,if_true,if_false,Bool.and_self,Bool.or_self,cond_true,cond_false,List.length_map,ne_eq,Int.reduceEq,Int.reduceLT,Int.reduceLE, *]);first | exact trivial | rfl
     . clear L1;obtain ⟨t2,i2,v2⟩:=r2;obtain ⟨t3,i3,v3⟩:=r3;refine CallsD.run [(8,[.own])] Go.Proofs.Tryz.func6 rfl rfl rfl ?_;simp only [Go.Proofs.Tryz.f6];refine hgR ?_
       repeat' ((first | refine hfk ?_ ?_<;>intros | refine hik ?_ | with_reducible first | refine y5m (s1) ?_ | refine vtc (s1) ?_ | refine y5m (f1) ?_ | refine vtc (f1) ?_ | refine y5m (f2) ?_ | refine vtc (f2) ?_ | refine y5m (f3) ?_ | refine vtc (f3) ?_ | refine y5m (f4) ?_ | refine vtc (f4) ?_ | refine y5m (o1) ?_ | refine vtc (o1) ?_ | refine y5m (c1) ?_ | refine vtc (c1) ?_ | refine y5m (o2) ?_ | refine vtc (o2) ?_ | refine y5m (o3) ?_ | refine vtc (o3) ?_ | refine y5m (c2) ?_ | refine vtc (c2) ?_)<;>refine hgS ?_)
       all_goals first
        | exact RLe.ofEq rfl
        | (exfalso;omega)
        | (exfalso;exact hz ⟨by assumption,by assumption⟩)
        | (exfalso;simp_all;done)
   . clear L h hv bnd hB;refine CallsD.run [] Go.Proofs.Tryz.func6 rfl rfl rfl ?_;simp only [Go.Proofs.Tryz.f6];refine hgR ?_
     repeat' ((first | refine hfk ?_ ?_<;>intros | refine hik ?_ | with_reducible first | refine y5m (s1) ?_ | refine vtc (s1) ?_ | refine y5m (f1) ?_ | refine vtc (f1) ?_ | refine y5m (f2) ?_ | refine vtc (f2) ?_ | refine y5m (f3) ?_ | refine vtc (f3) ?_ | refine y5m (f4) ?_ | refine vtc (f4) ?_ | refine y5m (o1) ?_ | refine vtc (o1) ?_)<;>refine hgS ?_)
     all_goals first
      | exact RLe.ofEq rfl
      | (exfalso;omega)
      | (exfalso;simp_all;done)
 . clear h;generalize vxr x bs ms=b1 at *;generalize vsf x=b2 at *;refine CallsD.run [] Go.Proofs.Tryz.func6 rfl rfl rfl ?_;simp only [Go.Proofs.Tryz.f6];refine hgR ?_
   repeat' ((first | refine hfk ?_ ?_<;>intros | refine hik ?_ | with_reducible first | refine y5m (s1) ?_ | refine vtc (s1) ?_ | refine y5m (f1) ?_ | refine vtc (f1) ?_ | refine y5m (f2) ?_ | refine vtc (f2) ?_ | refine y5m (f3) ?_ | refine vtc (f3) ?_ | refine y5m (f4) ?_ | refine vtc (f4) ?_)<;>refine hgS ?_)
   all_goals first
    | exact RLe.ofEq rfl
    | (exfalso;exact hall ⟨by assumption,by assumption,by assumption,by assumption,by assumption,by assumption⟩)
    | (exfalso;omega)
    | (exfalso;simp_all;done)
end Go.Hp.T
