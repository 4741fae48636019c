/- The proof, part A37: Dd, Qe, Qf, Qh, Qk, Gp, Gq, Dk. -/
import Derived.Test.YtmegdbbbllffkaaGreatDoorA36
import Derived.Test.YtmegdbbbllffkaaGreatDoorA34
import Derived.Test.YtmegdbbbllffkaaGreatDoorA35
import Derived.Test.YtmegdbbbllffkaaGreatDoorA32
namespace Go.Hp.T
open Go Go.RowKit Go.Slot Go.Hp Go.Slot.T
open Go.Proofs.Tryz (prog)
set_option maxRecDepth 10000
set_option maxHeartbeats 4000000
variable {x:Ex} {bs:List Bd} {ms:List Tb}
structure Ar16 (x:Ex) (bs:List Bd) (ms:List Tb):Prop where
 x:x.Sm
 b:bs.length<=1048576
 m:ms.length<=1048576
 bs:∀ b∈bs,b.Sm
 ms:∀ t∈ms,t.Sm
theorem vyj (h:wjp x bs ms=true):(∀ b∈bs,b.v.sz<=4)/\bs.length<=12:=by
 unfold wjp at h;simp only [Bool.and_eq_true,decide_eq_true_eq] at h
 have hl:bs.length<=12:=by omega
 refine ⟨fun b hb=>?_,hl⟩
 have:=h.2.1
 rw [List.take_of_length_le (by omega),List.all_eq_true] at this
 have:=this b hb
 unfold zi2 at this;simp only [Bool.and_eq_true,decide_eq_true_eq] at this;exact this.2
theorem Ar16.of (h:Ar16 x bs ms) (hf:wjp x bs ms=true) {Γ:List (Nat×List Cell)}:CallsD Γ prog 11 [.agg (exC x),.one (.sl 5 (bs.map Bd.C)),.one (.sl 3 (ms.map Tb.C))] (rsR (valF x bs ms)):=
 vsb x bs ms h.x (by have:=h.b;omega) (by have:=h.m;omega) (fun b hb=>⟨(h.bs b hb).n,Nat.le_trans ((vyj hf).1 b hb) (by decide)⟩) h.ms
end Go.Hp.T
namespace Go.Hp.T
open Go Go.RowKit Go.Slot Go.Hp Go.Slot.T
open Go.Proofs.Tryz (prog)
set_option maxRecDepth 10000
set_option maxHeartbeats 4000000
variable {Γ:List (Nat×List Cell)}
theorem n0:((0:Nat):Int)=0:=rfl
end Go.Hp.T
namespace Go.Hp.T
open Go Go.RowKit Go.Slot Go.Hp
set_option maxRecDepth 10000
variable {vs vs':List Vr} {ms:List Tb} {t:Tb} {x:Ex} {V:Vq} {T:Vt} {k:Ty} {r:Rs×Int} {a b:Option Rat} {o:Int}
theorem w9l (s:ByteArray):seq s s=true:=by rw [z9f];exact decide_eq_true rfl
theorem yl1 {α:Type} (d:α) (s:ByteArray):∀ V:List (ByteArray×α),ycr (updF V s d) s=some d
 | []=>by simp [updF,ycr,w9l]
 | p::V=>by
  unfold updF
  cases h:seq s p.1 with
  | true=>simp [ycr,w9l]
  | false=>simp [ycr,h,yl1 d s V]
theorem zxb {α:Type} (d:α) (s:ByteArray):∀ V:List (ByteArray×α),(updF V s d).length<=V.length+1/\((updF V s d).length=V.length+1->ycr V s=none)
 | []=>⟨by simp [updF],fun _=>rfl⟩
 | p::V=>by
  unfold updF
  cases h:seq s p.1 with
  | true=>exact ⟨by simp,fun h2=>by simp at h2⟩
  | false=>
   have:=zxb d s V
   exact ⟨by simp;omega,fun h2=>by simp at h2;simp [ycr,h,this.2 h2]⟩
theorem z1t (V T : List (ByteArray × Dm)) : ∀ (l : List Ex) (e : Int), Ex.tyL V T l = .inl e → e ≠ 0
 | [],e,h=>by rw [Ex.tyL] at h;cases h
 | z::l,e,h=>by
  rw [Ex.tyL] at h
  cases hz:z.ty V T with
  | mk t f=>
   rw [hz] at h;simp only at h;by_cases hf:f=0
   . subst hf
     cases hl:Ex.tyL V T l with
     | inl g=>
      rw [hl] at h
      have:g=e:=by simpa using h
      subst this;exact z1t V T l g hl
     | inr ts=>rw [hl] at h;simp at h
   . have:f=e:=by simpa [hf] using h
     rw [<-this];exact hf
def rG {α:Type} (bad:α->Bool) (nm:α->ByteArray) (vl:α->Dm) (V:List (ByteArray×Dm)):List α->Option (List (ByteArray×Dm))
 | []=>some V
 | v::l=>bif bad v then none else rG bad nm vl (updF V (nm v) (vl v)) l
theorem x1e:∀(vs:List Vr) (V:List (ByteArray×Dm)),rV V vs=rG (fun v:Vr=>!isName v.name||isWord v.name||!zmf v.d) Vr.name Vr.d V vs
 | [],V=>by rw [rV,rG]
 | v::vs,V=>by rw [rV,rG,x1e vs]
def tbad (V:List (ByteArray×Dm)) (t:Tb):Bool:=(ycr V t.name).isSome||decide (¬(zte t.unit).2=0)||!zi4 (fun s=>(zte s).2) t||isWord t.name
def tval (t:Tb):Dm:=dmO (zte t.unit).1
theorem yrx (V:List (ByteArray×Dm)):∀(ms:List Tb) (T:List (ByteArray×Dm)),rT V T ms=rG (tbad V) Tb.name tval T ms
 | [],T=>by rw [rT,rG]
 | t::ms,T=>by rw [rT,rG,yrx V ms];rfl
section
variable {α:Type} {bad:α->Bool} {nm:α->ByteArray} {vl:α->Dm}
theorem wil:∀(l:List α) (V W:List (ByteArray×Dm)),rG bad nm vl V l=some W->W.length<=V.length+l.length
 | [],V,W,h=>by rw [rG] at h;cases h;simp
 | v::l,V,W,h=>by
  rw [rG] at h
  cases hb:bad v with
  | true=>rw [hb] at h;cases h
  | false=>
   rw [hb] at h;have h1:=wil l _ W h;have h2:=(zxb (vl v) (nm v) V).1;simp only [List.length_cons];omega
theorem w9f {β:Type} (d:β) (s:ByteArray):∀ V:List (ByteArray×β),ycr V s=none->updF V s d=V++[(s,d)]
 | [],_=>rfl
 | p::V,h=>by
  unfold ycr at h;unfold updF
  cases hs:seq s p.1 with
  | true=>rw [hs] at h;cases h
  | false=>
   rw [hs,cond_false] at h;rw [cond_false,w9f d s V h];rfl
theorem vj8 {β:Type} (s:ByteArray):∀ A B:List (ByteArray×β),ycr (A++B) s=(ycr A s).or (ycr B s)
 | [],B=>rfl
 | p::A,B=>by
  show (bif seq s p.1 then some p.2 else ycr (A++B) s)=(bif seq s p.1 then some p.2 else ycr A s).or (ycr B s)
  cases seq s p.1 with
  | true=>rfl
  | false=>exact vj8 s A B
theorem x68 (s:ByteArray):∀ l:List α,(∀ v∈l,seq s (nm v)=false)->ycr (l.map fun v=>(nm v,vl v)) s=none
 | [],_=>rfl
 | v::l,h=>by
  rw [List.map_cons,ycr,h v (by simp),cond_false];exact x68 s l (fun w hw=>h w (by simp [hw]))
theorem z6k {s:ByteArray}:∀{l:List α},ycr (l.map fun v=>(nm v,vl v)) s=none->∀ v∈l,seq s (nm v)=false
 | [],_,v,hv=>by cases hv
 | w::l,h,v,hv=>by
  rw [List.map_cons,ycr] at h
  cases hs:seq s (nm w) with
  | true=>rw [hs] at h;cases h
  | false=>
   rw [hs,cond_false] at h
   rcases List.mem_cons.1 hv with rfl | hv
   . exact hs
   . exact z6k h v hv
theorem y99:∀(l:List α) (V W:List (ByteArray×Dm)),rG bad nm vl V l=some W->W.length=V.length+l.length->
 W=V++(l.map fun v=>(nm v,vl v))/\(∀ v∈l,bad v=false/\ycr V (nm v)=none)/\l.Pairwise (fun a b=>seq (nm b) (nm a)=false)
 | [],V,W,h,_=>by rw [rG] at h;cases h;exact ⟨by simp,⟨fun v hv=>(by cases hv),List.Pairwise.nil⟩⟩
 | v::l,V,W,h,hlen=>by
  rw [rG] at h
  cases hb:bad v with
  | true=>rw [hb] at h;cases h
  | false=>
   rw [hb,cond_false] at h;have h1:=wil l _ W h;have h2:=zxb (vl v) (nm v) V;simp only [List.length_cons] at hlen
   have h3:(updF V (nm v) (vl v)).length=V.length+1:=by omega
   have hn:=h2.2 h3;obtain ⟨h4,h5,h6⟩:=y99 l _ W h (by omega);rw [w9f _ _ _ hn] at h4 h5;refine ⟨by rw [h4];simp,fun u hu=>?_,.cons (fun u hu=>?_) h6⟩
   . rcases List.mem_cons.1 hu with rfl | hu
     . exact ⟨hb,hn⟩
     . have:=h5 u hu
       refine ⟨this.1,?_⟩;have h7:=this.2;rw [vj8] at h7
       cases hl:ycr V (nm u) with
       | none=>rfl
       | some d=>rw [hl] at h7;cases h7
   . have h7:=(h5 u hu).2;rw [vj8] at h7
     cases hs:seq (nm u) (nm v) with
     | false=>rfl
     | true=>
      cases hl:ycr V (nm u) with
      | none=>
       rw [hl,ycr,hs] at h7
       cases h7
      | some d=>rw [hl] at h7;cases h7
theorem viy:∀(l:List α) (V:List (ByteArray×Dm)),(∀ v∈l,bad v=false/\ycr V (nm v)=none)->l.Pairwise (fun a b=>seq (nm b) (nm a)=false)->rG bad nm vl V l=some (V++(l.map fun v=>(nm v,vl v)))
 | [],V,_,_=>by rw [rG];simp
 | v::l,V,h,hp=>by
  have hv:=h v (by simp);rw [rG,hv.1,cond_false,w9f _ _ _ hv.2];rw [List.pairwise_cons] at hp;rw [viy l _ (fun u hu=>⟨(h u (by simp [hu])).1,by rw [vj8,(h u (by simp [hu])).2,ycr,hp.1 u hu];rfl⟩) hp.2];simp
end
structure xn9 (vs:List Vr) (ms:List Tb):Prop where
 v:∀ v∈vs,(!isName v.name||isWord v.name||!zmf v.d)=false
 vp:vs.Pairwise (fun a b=>seq b.name a.name=false)
 t:∀ t∈ms,tbad (vs.map fun v=>(v.name,v.d)) t=false
 tp:ms.Pairwise (fun a b=>seq b.name a.name=false)
theorem x4r {p:List (ByteArray×Dm)×List (ByteArray×Dm)} (h:yka vs ms=some p):xn9 vs ms/\p=(vs.map (fun v=>(v.name,v.d)),ms.map (fun t=>(t.name,tval t))):=by
 unfold yka at h
 cases hV:rV [] vs with
 | none=>rw [hV] at h;cases h
 | some W=>
  rw [hV] at h;simp only at h
  cases hT:rT W [] ms with
  | none=>rw [hT] at h;cases h
  | some X=>
   rw [hT] at h;simp only at h
   cases hd:(decide ((W.length:Int)=vs.length)&&decide ((X.length:Int)=ms.length)) with
   | false=>rw [hd] at h;cases h
   | true=>
    rw [hd] at h
    cases h;rw [Bool.and_eq_true,decide_eq_true_iff,decide_eq_true_iff] at hd;rw [x1e] at hV;rw [yrx] at hT;obtain ⟨a1,a2,a3⟩:=y99 _ _ _ hV (by simp;omega);obtain ⟨b1,b2,b3⟩:=y99 _ _ _ hT (by simp;omega);rw [List.nil_append] at a1 b1;subst a1;subst b1;exact ⟨⟨fun v hv=>(a2 v hv).1,a3,fun t ht=>(b2 t ht).1,b3⟩,rfl⟩
theorem y5w (h:xn9 vs ms):yka vs ms=some (vs.map (fun v=>(v.name,v.d)),ms.map (fun t=>(t.name,tval t))):=by
 unfold yka;rw [x1e,viy _ _ (fun v hv=>⟨h.v v hv,rfl⟩) h.vp];simp only [List.nil_append];rw [yrx,viy _ _ (fun t ht=>⟨h.t t ht,rfl⟩) h.tp];simp only [List.nil_append,List.length_map,decide_true,Bool.and_self,cond_true]
theorem w6e (hsub:∀ v∈vs',v∈vs) (h:tbad (vs.map fun v=>(v.name,v.d)) t=false):tbad (vs'.map fun v=>(v.name,v.d)) t=false:=by
 unfold tbad at h ⊢;simp only [Bool.or_eq_false_iff] at h ⊢;refine ⟨⟨⟨?_,h.1.1.2⟩,h.1.2⟩,h.2⟩
 have h1:ycr (vs.map fun v=>(v.name,v.d)) t.name=none:=by
  cases hl:ycr (vs.map fun v=>(v.name,v.d)) t.name with
  | none=>rfl
  | some d=>rw [hl] at h;exact absurd h.1.1.1 (by simp)
 rw [x68 t.name vs' (fun v hv=>z6k h1 v (hsub v hv))];rfl
theorem xn9.less {ms':List Tb} (h:xn9 vs ms) (hv:vs'.Sublist vs) (ht:ms'.Sublist ms):xn9 vs' ms':=
 ⟨fun v hv'=>h.v v (hv.subset hv'),h.vp.sublist hv,fun t ht'=>w6e (fun _ hv'=>hv.subset hv') (h.t t (ht.subset ht')),h.tp.sublist ht⟩
theorem xri (h:(ofF x vs ms).2=0):(!xub x||x.xi4)=false/\x.shaped=true/\xn9 vs ms/\(x.ty (vs.map fun v=>(v.name,v.d)) (ms.map fun t=>(t.name,tval t))).2=0:=by
 unfold ofF at h
 cases hb:(!xub x||x.xi4) with
 | true=>rw [hb] at h;cases h
 | false=>
  rw [hb,cond_false] at h
  cases hr:yka vs ms with
  | none=>rw [hr] at h;cases h
  | some p=>
   rw [hr] at h;obtain ⟨h1,rfl⟩:=x4r hr;rw [Bool.or_eq_false_iff,Bool.not_eq_false'] at hb;have hs:=hb.1;unfold xub at hs;rw [Bool.and_eq_true] at hs;exact ⟨rfl,hs.2,h1,h⟩
theorem wn1 (hb:(!xub x||x.xi4)=false) (h:xn9 vs ms):ofF x vs ms=x.ty (vs.map fun v=>(v.name,v.d)) (ms.map fun t=>(t.name,tval t)):=by
 unfold ofF;rw [hb,cond_false,y5w h]
theorem w5e {bs:List Bd} (h1:xub x=true) (h2:x.xi4=false) (h3:entF bs ms=some (V,T)):valF x bs ms=x.cal V T:=by
 unfold valF;rw [h1,h2,h3];rfl
def FitV (k:Ty) (r:Rs×Int):Prop:=(r.2=0/\r.1.t=k.t/\r.1.v.isSome = !k.t)\/((r.2=15\/r.2=4)/\r.1=Rs.zero)
theorem FitV.err (h:FitV k r) (he:r.2≠0):(r.2=15\/r.2=4)/\r.1=Rs.zero:=by
 rcases h with h | h
 . exact absurd h.1 he
 . exact h
theorem FitV.ok (h:FitV k r) (he:r.2=0):r.1.t=k.t/\r.1.v.isSome = !k.t:=by
 rcases h with h | h
 . exact h.2
 . rcases h.1 with h | h<;>rw [he] at h<;>cases h
theorem wav (hk:k.t=false) {v:Option Rat} {e:Int} (h:(e=0/\v.isSome=true)\/e=15\/e=4):FitV k (numV v e):=by
 rcases h with ⟨rfl,h⟩ | rfl | rfl
 . exact .inl ⟨rfl,by rw [hk];rfl,by rw [hk];exact h⟩
 . exact .inr ⟨.inl rfl,rfl⟩
 . exact .inr ⟨.inr rfl,rfl⟩
theorem zx1 (hk:k.t=true) (b:Bool):FitV k (truV b):=.inl ⟨rfl,by rw [hk];rfl,by rw [hk];rfl⟩
theorem x6d {g:Rat->Rat->Rat} (ha:a.isSome=true) (hb:b.isSome=true):(op2O g a b).isSome=true/\erO a b=0:=by
 unfold erO;rw [ha,hb]
 cases a<;>cases b<;>simp_all [op2O]
theorem xrr (ha:a.isSome=true) (hb:b.isSome=true):(divE a b=0/\(divO a b).isSome=true)\/divE a b=15\/divE a b=4:=by
 cases a with
 | none=>cases ha
 | some x=>cases b with
  | none=>cases hb
  | some y=>
   rw [show divE (some x) (some y)=bif decide (y=0) then 15 else 0 from rfl,show divO (some x) (some y)=bif decide (y=0) then none else some (x / y) from rfl]
   cases decide (y=0) with
   | true=>exact .inr (.inl rfl)
   | false=>exact .inl ⟨rfl,rfl⟩
theorem yry (V T : List (ByteArray × Dm)) : ∀ (l : List Ex) (ts : List Ty), Ex.tyL V T l = .inr ts → ts.length = l.length ∧ ∀ i, i < l.length → (l.getD i default).ty V T = (ts.getD i default, 0)
 | [],ts,h=>by rw [Ex.tyL] at h;cases h;exact ⟨rfl,fun i hi=>by simp at hi⟩
 | y::l,ts,h=>by
  rw [Ex.tyL] at h
  cases hy:Ex.ty V T y with
  | mk t e=>
   rw [hy] at h;by_cases he:e=0
   . subst he;simp only [not_true_eq_false,decide_false,cond_false] at h
     cases hl:Ex.tyL V T l with
     | inl e=>rw [hl] at h;cases h
     | inr us=>
      rw [hl] at h;cases h;obtain ⟨h1,h2⟩:=yry V T l us hl;refine ⟨by simp [h1],fun i hi=>?_⟩
      cases i with
      | zero=>exact hy
      | succ i=>simpa using h2 i (by simpa using hi)
   . simp only [decide_eq_true he,cond_true] at h
     cases h
theorem xs4:∀(l:List (Rs×Int)) (ts:List Ty),ts.length=l.length->(∀ i,i<l.length->FitV (ts.getD i default) (l.getD i default))->(∃ e,seqV l=.inl e/\(e=15\/e=4))\/∃ rs,seqV l=.inr rs/\rs.length=l.length/\∀ i,i<l.length->(rs.getD i default).t=(ts.getD i default).t/\(rs.getD i default).v.isSome = !(ts.getD i default).t
 | [],ts,_,_=>.inr ⟨[],rfl,rfl,fun i hi=>by simp at hi⟩
 | (r,e)::l,[],h,_=>by simp at h
 | (r, e) :: l, t :: ts, hl, h => by
  have h0:=h 0 (by simp);simp only [List.getD_cons_zero] at h0;rw [seqV];by_cases he:e=0
  . subst he;simp only [not_true_eq_false,decide_false,cond_false]
    rcases xs4 l ts (by simpa using hl) (fun i hi=>by simpa using h (i+1) (by simpa using hi)) with ⟨e,h1,h2⟩ | ⟨rs,h1,h2,h3⟩
    . rw [h1];exact .inl ⟨e,rfl,h2⟩
    . rw [h1];refine .inr ⟨r::rs,rfl,by simp [h2],fun i hi=>?_⟩
      cases i with
      | zero=>exact h0.ok rfl
      | succ i=>simpa using h3 i (by simpa using hi)
  . rw [decide_eq_true he];exact .inl ⟨e,rfl,(h0.err he).1⟩
theorem wwl {a b r:Ty} (h:(xkg a b r).2=0):a.t=false/\b.t=false/\(xkg a b r).1=r:=by
 unfold xkg at h ⊢
 cases ha:a.t<;>cases hb:b.t<;>rw [ha,hb] at h
 . simp only [Bool.or_self,cond_false] at h ⊢
   cases hd:decide (a.d=b.d)<;>rw [hd] at h
   . cases h
   . first | exact ⟨rfl,rfl,rfl⟩ | exact ⟨trivial,trivial,rfl⟩
 all_goals cases h
theorem vkv {a b:Ty} (h:(zom o a b).2=0):a.t=false/\b.t=false/\(zom o a b).1.t=false:=by
 unfold zom at h ⊢
 cases ha:a.t<;>cases hb:b.t<;>rw [ha,hb] at h
 . simp only [Bool.or_self,cond_false] at h ⊢;refine ⟨trivial,trivial,?_⟩;generalize decide ((bif decide (o=9) then dDiv a.d b.d else dMul a.d b.d).2=0)=c at h ⊢
   cases c<;>rfl
 all_goals cases h
theorem wjn {a b:Rs} (ha:a.t=false) (hb:b.t=false) (va:a.v.isSome=true) (vb:b.v.isSome=true) (hk:k.t = !(decide (o=6)||decide (o=7)||decide (o=8)||decide (o=9)||decide (o=10)||decide (o=11))):FitV k (ariV o a b):=by
 unfold ariV;rw [ha,hb]
 have n:∀(g:Rat->Rat->Rat),(erO a.v b.v=0/\(op2O g a.v b.v).isSome=true)\/erO a.v b.v=15\/erO a.v b.v=4:=fun g=>.inl ⟨(x6d (g:=g) va vb).2,(x6d va vb).1⟩
 simp only [Bool.or_self,cond_false]
 cases h6:decide (o=6) with
 | true=>exact wav (by rw [hk,h6];rfl) (n _)
 | false=>
 cases h7:decide (o=7) with
 | true=>exact wav (by rw [hk,h6,h7];rfl) (n _)
 | false=>
 cases h8:decide (o=8) with
 | true=>exact wav (by rw [hk,h6,h7,h8];rfl) (n _)
 | false=>
 cases h9:decide (o=9) with
 | true=>exact wav (by rw [hk,h6,h7,h8,h9];rfl) (xrr va vb)
 | false=>
 cases h10:decide (o=10) with
 | true=>exact wav (by rw [hk,h6,h7,h8,h9,h10];rfl) (n _)
 | false=>
 cases h11:decide (o=11) with
 | true=>exact wav (by rw [hk,h6,h7,h8,h9,h10,h11];rfl) (n _)
 | false=>
  have hk':k.t=true:=by rw [hk,h6,h7,h8,h9,h10,h11];rfl
  cases decide (o=12) with
  | true=>exact zx1 hk' _
  | false=>exact zx1 hk' _
theorem ypc {rs:List Rs} (hk:k.t=true) (h:∀ r∈rs,r.t=true):FitV k (logV o rs):=by
 unfold logV;rw [show rs.any (fun r=>!r.t)=false by rw [List.any_eq_false];intro r hr;simp [h r hr]]
 cases decide (o=14) with
 | true=>exact zx1 hk _
 | false=>cases decide (o=15) with
  | true=>exact zx1 hk _
  | false=>exact zx1 hk _
theorem y90 (ht:tbOk t=true) {q:Rat}:((wyo t (some q)).2=0/\(wyo t (some q)).1.isSome=true)\/(wyo t (some q)).2=15\/(wyo t (some q)).2=4:=by
 unfold wyo;have ht':zi4 (fun s=>(zte s).2) t=true:=ht;rw [ht'];simp only [Bool.not_true,cond_false]
 cases decide (aft q t.rows=0) with
 | true=>exact .inr (.inr rfl)
 | false=>
  refine .inl ⟨rfl,?_⟩;obtain ⟨u,h1,_⟩:=(yun ht').1;show (zxa t _).isSome=true;unfold zxa facO;rw [h1];rfl
theorem xpi {α:Type} [Inhabited α] {l:List α} {x:α} (h:x∈l):∃ i,i<l.length/\l.getD i default=x:=by
 obtain ⟨i,hi,rfl⟩:=List.getElem_of_mem h;exact ⟨i,hi,by simp [hi]⟩
theorem xgi {Vd Td:List (ByteArray×Dm)} (hV:∀ s,(ycr Vd s).isSome=true->(ycr V s).isSome=true) (hT:∀ s,(ycr Td s).isSome=true->∃ t,ycr T s=some t/\tbOk t=true) :
 ∀ x:Ex,x.shaped=true->x.xi4=false->(x.ty Vd Td).2=0->FitV (x.ty Vd Td).1 (x.cal V T):=by
 refine Ex.ind (fun x ih hsh hcl h=>?_);rw [Ex.xg3,Bool.and_eq_true,List.all_eq_true] at hsh;rw [Ex.wd9,Bool.or_eq_false_iff,decide_eq_false_iff_not,List.any_eq_false] at hcl;obtain ⟨hnode,hargs⟩:=hsh;obtain ⟨h3,hcalls⟩:=hcl;rw [Ex.xyt] at h ⊢;rw [Ex.vwk];by_cases hnil:(x.args.length:Int)=0
 . rw [decide_eq_true hnil,cond_true] at h ⊢
   have h01:x.op=0\/x.op=1:=by
    unfold yxn at hnode;by_cases h0:x.op=0
    . exact .inl h0
    by_cases h1:x.op=1
    . exact .inr h1
    rw [decide_eq_false h0,decide_eq_false h1,hnil] at hnode;simp [h3] at hnode
   unfold zgx at h ⊢
   rcases h01 with h0 | h1
   . have h1:¬x.op=1:=by omega
     rw [decide_eq_false h1,cond_false] at h ⊢;rw [decide_eq_true h0,cond_true];unfold v43
     rcases v4u x.unit with ⟨u,hu,_⟩ | ⟨e,he,hu⟩
     . unfold facO;rw [hu];exact wav rfl (.inl ⟨rfl,rfl⟩)
     . rw [hu] at h;simp only [decide_eq_true he,cond_true] at h
       cases h
   . have h0:¬x.op=0:=by omega
     rw [decide_eq_true h1,cond_true] at h ⊢;rw [decide_eq_false h0,cond_false,cond_true]
     cases hl:ycr Vd x.name with
     | none=>rw [hl] at h;cases h
     | some d=>
      have:=hV x.name (by rw [hl];rfl)
      obtain ⟨q,hq⟩:=Option.isSome_iff_exists.1 this;unfold ztc;rw [hq];exact wav rfl (.inl ⟨rfl,rfl⟩)
 rw [decide_eq_false hnil,cond_false] at h ⊢
 have hne:x.args.length≠0:=by omega
 have h0:¬x.op=0:=fun h0=>by
  unfold yxn at hnode;rw [decide_eq_true h0,decide_eq_false hnil] at hnode;simp at hnode
 have h1:¬x.op=1:=fun h1=>by
  unfold yxn at hnode;rw [decide_eq_false h0,decide_eq_true h1,decide_eq_false hnil] at hnode;simp at hnode
 obtain ⟨hl2,hl3⟩:=x6z hnode h3 hne;rw [decide_eq_false h0,decide_eq_false h1,cond_false,cond_false]
 cases htl:Ex.tyL Vd Td x.args with
 | inl e=>rw [htl] at h;exact absurd h (z1t Vd Td _ _ htl)
 | inr ts=>
  rw [htl] at h;simp only at h ⊢;obtain ⟨hlen,hty⟩:=yry Vd Td _ _ htl
  have hfit:∀ i,i<x.args.length->FitV (ts.getD i default) ((x.args.map (Ex.cal V T)).getD i default):=fun i hi=>by
   have hm:=w4t hi;rw [getD_map hi]
   have:=ih _ hm (hargs _ hm) (by simpa using hcalls _ hm) (by rw [hty i hi])
   rw [hty i hi] at this;exact this
  by_cases h5:x.op=5
  . have hl:=hl3 h5;rw [decide_eq_true h5,cond_true];unfold wqq at h ⊢;rw [show decide (x.op=2)=false by simp [h5],show decide (x.op=6)=false by simp [h5],show decide (x.op=7)=false by simp [h5],show decide (x.op=10)=false by simp [h5],show decide (x.op=11)=false by simp [h5],show decide (x.op=12)=false by simp [h5],show decide (x.op=13)=false by simp [h5],show decide (x.op=8)=false by simp [h5],show decide (x.op=9)=false by simp [h5],decide_eq_true h5] at h ⊢;simp only [Bool.or_self,cond_false,cond_true] at h ⊢
    cases hc:(ts.getD 0 default).t with
    | false=>rw [hc] at h;cases h
    | true=>
     rw [hc] at h;simp only [Bool.not_true,cond_false] at h ⊢;obtain ⟨a1,a2,a3⟩:=wwl h;rw [a3];unfold chV;have f0:=hfit 0 (by omega);by_cases he:((x.args.map (Ex.cal V T)).getD 0 default).2=0
     . have:=f0.ok he
       rw [hc] at this;rw [he,this.1];simp only [not_true_eq_false,decide_false,Bool.not_true,cond_false]
       cases ((x.args.map (Ex.cal V T)).getD 0 default).1.i with
       | true=>exact hfit 1 (by omega)
       | false=>
        have f2:=hfit 2 (by omega)
        rcases f2 with ⟨g1,g2,g3⟩ | g
        . exact .inl ⟨g1,by rw [cond_false,g2,a2,a1],by rw [cond_false,g3,a2,a1]⟩
        . exact .inr g
     . rw [decide_eq_true he,cond_true];exact .inr ⟨(f0.err he).1,rfl⟩
  rw [decide_eq_false h5,cond_false]
  rcases xs4 (x.args.map (Ex.cal V T)) ts (by rw [hlen,List.length_map]) (by rw [List.length_map];exact hfit) with ⟨e,hs,he⟩ | ⟨rs,hs,hrl,hrs⟩
  . rw [hs];exact .inr ⟨he,rfl⟩
  . rw [hs];rw [List.length_map] at hrl hrs;show FitV _ (opV T x.op x.name rs);unfold opV;unfold wqq at h ⊢;by_cases h2:x.op=2
    . rw [decide_eq_true h2,cond_true] at h ⊢;unfold x59 at h ⊢;unfold woh
      cases hl:ycr Td x.name with
      | none=>rw [hl] at h;cases h
      | some d=>
       rw [hl] at h;obtain ⟨t,ht1,ht2⟩:=hT x.name (by rw [hl];rfl);rw [ht1];simp only at h ⊢;obtain ⟨q1,q2⟩:=hrs 0 (by omega)
       cases hk:(ts.getD 0 default).t with
       | true=>rw [hk] at h;cases h
       | false=>
        rw [hk] at h q1 q2;rw [q1];obtain ⟨q,hq⟩:=Option.isSome_iff_exists.1 q2;rw [hq];simp only [cond_false] at h ⊢;generalize decide ((ts.getD 0 default).d=Dm.zero)=c at h ⊢
        cases c with
        | false=>cases h
        | true=>exact wav rfl (y90 ht2)
    rw [decide_eq_false h2,cond_false] at h ⊢;by_cases h4:x.op=4\/x.op=14\/x.op=15
    . have e1:decide (x.op=6)=false/\decide (x.op=7)=false/\decide (x.op=10)=false/\decide (x.op=11)=false/\decide (x.op=12)=false/\decide (x.op=13)=false/\decide (x.op=8)=false/\decide (x.op=9)=false/\decide (x.op=5)=false:=by
       refine ⟨?_,?_,?_,?_,?_,?_,?_,?_,?_⟩<;>exact decide_eq_false (by omega)
      obtain ⟨c1,c2,c3,c4,c5,c6,c7,c8,c9⟩:=e1;rw [c1,c2,c3,c4,c5,c6,c7,c8,c9] at h ⊢;simp only [Bool.or_self,cond_false] at h ⊢
      have hlg:(decide (x.op=4)||decide (x.op=14)||decide (x.op=15))=true:=by rcases h4 with h | h | h<;>simp [h]
      rw [hlg,cond_true];unfold xc3 at h ⊢
      cases hany:ts.any (fun t=>!t.t) with
      | true=>rw [hany] at h;cases h
      | false=>
       refine ypc rfl (fun r hr=>?_);obtain ⟨i,hi,rfl⟩:=xpi hr;rw [(hrs i (by omega)).1];rw [List.any_eq_false] at hany;simpa using hany _ (w4t (show i<ts.length by omega))
    have h4':¬x.op=4:=fun h=>h4 (.inl h)
    have hlg:(decide (x.op=4)||decide (x.op=14)||decide (x.op=15))=false:=by
     rw [decide_eq_false h4',decide_eq_false (fun h=>h4 (.inr (.inl h))),decide_eq_false (fun h=>h4 (.inr (.inr h)))];rfl
    rw [hlg,cond_false];have hl:=hl2 h2 h4';obtain ⟨p1,p2⟩:=hrs 0 (by omega);obtain ⟨q1,q2⟩:=hrs 1 (by omega)
    cases hA:(decide (x.op=6)||decide (x.op=7)||decide (x.op=10)||decide (x.op=11)) with
    | true=>
     rw [hA,cond_true] at h;rw [cond_true];obtain ⟨a1,a2,a3⟩:=wwl h;rw [a3];rw [a1] at p1 p2;rw [a2] at q1 q2;refine wjn p1 q1 p2 q2 ?_;rw [a1];simp only [Bool.or_eq_true,decide_eq_true_eq] at hA
     rcases hA with ((h | h) | h) | h<;>simp [h]
    | false=>
     rw [hA,cond_false] at h;rw [cond_false]
     cases hB:(decide (x.op=12)||decide (x.op=13)) with
     | true=>
      rw [hB,cond_true] at h;rw [cond_true];obtain ⟨a1,a2,a3⟩:=wwl h;rw [a3];rw [a1] at p1 p2;rw [a2] at q1 q2;refine wjn p1 q1 p2 q2 ?_;simp only [Bool.or_eq_true,decide_eq_true_eq] at hB
      rcases hB with h | h<;>simp [h]
     | false=>
      rw [hB,cond_false] at h;rw [cond_false]
      cases hC:(decide (x.op=8)||decide (x.op=9)) with
      | true=>
       rw [hC,cond_true] at h;rw [cond_true];obtain ⟨a1,a2,a3⟩:=vkv h;rw [a1] at p1 p2;rw [a2] at q1 q2;refine wjn p1 q1 p2 q2 ?_;rw [a3];simp only [Bool.or_eq_true,decide_eq_true_eq] at hC
       rcases hC with h | h<;>simp [h]
      | false=>
       exfalso;simp only [Bool.or_eq_false_iff,decide_eq_false_iff_not] at hA hB hC
       have:=z3r hnode hne
       omega
theorem x8l (x : Ex) (vs : List Vr) (bs : List Bd) (ms : List Tb) (hn : bs.map Bd.name = vs.map Vr.name) (hb : ∀ b ∈ bs, b.v.ok) (h : (ofF x vs ms).2 = 0) : FitV (ofF x vs ms).1 (valF x bs ms) := by
 obtain ⟨h1,h2,h3,h4⟩:=xri h;rw [Bool.or_eq_false_iff,Bool.not_eq_false'] at h1;rw [wn1 (by rw [h1.1,h1.2];rfl) h3]
 have hgood:xfk (bs.map Bd.name++ms.map Tb.name):=by
  rw [hn];refine ⟨fun s hs=>?_,?_⟩
  . rcases List.mem_append.1 hs with hs | hs
    . obtain ⟨v,hv,rfl⟩:=List.mem_map.1 hs
      have:=h3.v v hv
      unfold isNamed
      cases hq:isName v.name<;>cases hw:isWord v.name<;>rw [hq,hw] at this<;>simp_all
    . obtain ⟨t,ht,rfl⟩:=List.mem_map.1 hs
      have:=h3.t t ht
      unfold tbad at this;simp only [Bool.or_eq_false_iff,Bool.not_eq_false'] at this;have hr:=(yun this.1.2).2.1;unfold isNamed;rw [hr,this.2];rfl
  . rw [List.nodup_append];refine ⟨?_,?_,fun a ha b hb' e=>?_⟩
    . refine List.pairwise_map.2 (h3.vp.imp (fun hp e=>?_));rw [e,vw8] at hp;cases hp
    . refine List.pairwise_map.2 (h3.tp.imp (fun hp e=>?_));rw [e,vw8] at hp;cases hp
    . subst e;obtain ⟨t,ht,rfl⟩:=List.mem_map.1 hb'
      have:=h3.t t ht
      unfold tbad at this;simp only [Bool.or_eq_false_iff] at this;obtain ⟨v,hv,e⟩:=List.mem_map.1 ha;have h5:=this.1.1.1;rw [Option.isSome_eq_false_iff,Option.isNone_iff_eq_none] at h5
      have:=z6k h5 v hv
      rw [<-e,vw8] at this;cases this
 obtain ⟨⟨V,T⟩,he⟩:=w1q (nm:=Bd.name) (ok:=fun b=>decide b.v.ok) (val:=fun b=>b.v.val) (tok:=tbOk) (bs:=bs) (ms:=ms) (fun b hb'=>decide_eq_true (hb b hb')) (fun t ht=>by
  have:=h3.t t ht
  unfold tbad at this;simp only [Bool.or_eq_false_iff,Bool.not_eq_false'] at this
  exact this.1.2) hgood
 obtain ⟨_,e2,_,e4,e5⟩:=y36 he;rw [w5e h1.1 h1.2 he]
 have look_map:∀{α β:Type} (f:α->ByteArray) (g:α->β) (l:List α) (s:ByteArray),(ycr (l.map fun v=>(f v,g v)) s).isSome=(fnd f l s).isSome:=by
  intro α β f g l s
  induction l with
  | nil=>rfl
  | cons v l ih=>
   rw [List.map_cons,yik];show (bif seq s (f v) then _ else _:Option β).isSome=_
   cases seq s (f v) with
   | true=>rfl
   | false=>exact ih
 refine xgi (fun s hs=>?_) (fun s hs=>?_) x h2 h1.2 h4
 . rw [look_map,vu0] at hs;rw [e4,Option.isSome_map,vu0,hn];exact hs
 . rw [look_map] at hs;obtain ⟨t,ht⟩:=Option.isSome_iff_exists.1 hs;exact ⟨t,by rw [e5,ht],e2 t (wud ht).1⟩
end Go.Hp.T
namespace Go.Hp.T
open Go Go.RowKit Go.Slot Go.Hp Go.Slot.T
open Go.Proofs.Tryz (prog)
set_option maxRecDepth 10000
set_option maxHeartbeats 4000000
def vlF (fs:List Fc) (i:Nat):Fc:=bif decide (i<fs.length)&&(decide ((fs.getD i Fc.zero).sz<=4)&&decide (fs.getD i Fc.zero).ok) then fs.getD i Fc.zero else qF (some ((i:Int):Rat))
def bdF (vs:List Vr) (fs:List Fc) (i:Nat):Bd:=⟨(vs.getD i default).name,vlF fs i⟩
def bdL (vs:List Vr) (fs:List Fc):Nat->List Bd
 | 0=>[]
 | n+1=>bdL vs fs n++[bdF vs fs n]
theorem vl2 (vs:List Vr) (fs:List Fc):∀ n,(bdL vs fs n).length=n
 | 0=>rfl
 | n+1=>by rw [bdL,List.length_append,vl2 vs fs n];rfl
theorem v8a {vs:List Vr} {fs:List Fc} {b:Bd}:∀{n},b∈bdL vs fs n->∃ i,i<n/\b=bdF vs fs i
 | 0,h=>by cases h
 | n+1,h=>by
  rw [bdL,List.mem_append,List.mem_singleton] at h
  rcases h with h | h
  . obtain ⟨i,hi,e⟩:=v8a h;exact ⟨i,by omega,e⟩
  . exact ⟨n,by omega,h⟩
theorem wf8 (vs:List Vr) (fs:List Fc):∀ n,n<=vs.length->(bdL vs fs n).map Bd.name=(vs.take n).map Vr.name
 | 0,_=>rfl
 | n+1,h=>by rw [bdL,List.map_append,wf8 vs fs n (by omega),z4f (by omega),List.map_append];rfl
theorem zoh (fs:List Fc) (i:Nat) (hi:i<=13):(vlF fs i).ok/\(vlF fs i).sz<=4:=by
 unfold vlF
 cases h:(decide (i<fs.length)&&(decide ((fs.getD i Fc.zero).sz<=4)&&decide (fs.getD i Fc.zero).ok)) with
 | true=>
  simp only [Bool.and_eq_true,decide_eq_true_eq] at h;exact ⟨h.2.2,h.2.1⟩
 | false=>exact ⟨Fc.zav _,wtn (by unfold inI;omega)⟩
theorem yc7 (x:Ex) (vs:List Vr) (fs:List Fc) (ms:List Tb) (hx:x.Sm) (hv:vs.length<=1048576) (hvn:∀ v∈vs,v.name.size<=1073741824) (_hfl:fs.length<=1048576) (hfs:∀ f∈fs,f.sz<=1048576) (hm:ms.length<=1048576) (hms:∀ t∈ms,t.Sm) :
 CallsD Gs prog 8 [.agg (exC x),.one (.sl 7 (vs.map Vr.C)),.one (.sl 4 (fs.map Fc.C)),.one (.sl 3 (ms.map Tb.C))] (.one (cB true)):=by
 have s1:=zcg
 have hI:∀ i:Nat,i<=13->CallsD Gs prog 17 [.one (cI i)] (.agg (qC (some ((i:Int):Rat)))):=fun i hi=>pInt i (by unfold inI;omega)
 have hF:∀ i,i<fs.length->CallsD Gs prog 25 [.agg [.raw (.int .i64 (fs.getD i Fc.zero).s),.ints .i64 (fs.getD i Fc.zero).L,.raw (.int .i64 (fs.getD i Fc.zero).t),.ints .i64 (fs.getD i Fc.zero).M],.one (cI 4)] (.one (cB (decide ((fs.getD i Fc.zero).sz<=4)))):=fun i hi=>by
  have hmem:fs.getD i Fc.zero∈fs:=by rw [show fs.getD i Fc.zero=fs[i] by simp [hi]];exact List.getElem_mem hi
  have:=Nat.max_le.1 (hfs _ hmem)
  exact toD (wr8 _ (by omega) (by omega))
 have hO:∀ i,i<fs.length->CallsD Gs prog 26 [.agg [.raw (.int .i64 (fs.getD i Fc.zero).s),.ints .i64 (fs.getD i Fc.zero).L,.raw (.int .i64 (fs.getD i Fc.zero).t),.ints .i64 (fs.getD i Fc.zero).M]] (.one (cB (decide (fs.getD i Fc.zero).ok))):=fun i hi=>by
  have hmem:fs.getD i Fc.zero∈fs:=by rw [show fs.getD i Fc.zero=fs[i] by simp [hi]];exact List.getElem_mem hi
  exact xau _ (by have:=hfs _ hmem;omega)
 have hrow:∀ i,i<fs.length->(fs.map Fc.C).getD i []=(fs.getD i Fc.zero).C:=fun i hi=>by simp [hi]
 refine CallsD.run [] Go.Proofs.Tryz.func8 rfl rfl rfl ?_;simp only [Go.Proofs.Tryz.f8];refine hgR ?_
 repeat' ((first | refine hfk ?_ ?_<;>intros | refine hik ?_ | with_reducible first | refine v6l (s1) ?_ | refine vgi (s1) ?_)<;>refine hgS ?_)
 refine y55 [1,2,3,4,9] (fun n:Nat=>[(10,.one (.sl 1 5 0 n)),(11,.one (.dat (cI n)))]) (fun n=>[.box ((exC x).map .dat) (some 24),.arr (.sl 5 ((bdL vs fs n).map Bd.C)) 0 (some 55)]) (fun n=>n<=vs.length/\n<=13) (fun n=>vs.length-n) 0 ⟨Nat.zero_le _,by omega⟩ ?_ ?_
 . refine hg ?_;refine StH.trans (StH.empty (d:=10) (es:=5) (c:=.sl 5 []) (T:=some 55) rfl rfl (fun r hr=>by cases hr) rfl) ?_;refine hg ?_;exact StH.same svl rfl
 rintro n ⟨hn,hn13⟩;have hlenA:(bdL vs fs n).length=n:=vl2 vs fs n;refine hg ?_
 repeat' ((first | refine hfk ?_ ?_<;>intros | refine hik ?_)<;>refine hgS ?_)
 all_goals try (exfalso;omega)
 all_goals try exact RLe.ofEq rfl
 . have hlt:n<vs.length:=by omega
   have hrng:(bdL vs fs (n+1)).map Bd.C=(bdL vs fs n).map Bd.C++[(bdF vs fs n).C]:=by
    rw [bdL,List.map_append];rfl
   have hlen2:((bdL vs fs (n+1)).map Bd.C).length=n+1:=by rw [List.length_map,vl2]
   have step:∀ f:Fc,vlF fs n=f->(bdL vs fs n).map Bd.C++[[cS (vs.getD n default).name,.raw (.int .i64 f.s),.ints .i64 f.L,.raw (.int .i64 f.t),.ints .i64 f.M]]=(bdL vs fs (n+1)).map Bd.C:=fun f hf=>by
    subst hf;rw [hrng];rfl
   clear hrng;refine v6l (hI n (by omega)) ?_;refine hg ?_;refine vnx (fun hlf _=>?_) (fun hlf _=>?_)
   . have hlf':n<fs.length:=by omega
     have c1:=hF n hlf';have c2:=hO n hlf';clear hI hF hO hrow;by_cases hgood:(fs.getD n Fc.zero).sz<=4/\(fs.getD n Fc.zero).ok
     . have hs:=step (fs.getD n Fc.zero) (by unfold vlF;rw [decide_eq_true hlf',decide_eq_true hgood.1,decide_eq_true hgood.2];rfl);rw [decide_eq_true hgood.1] at c1;rw [decide_eq_true hgood.2] at c2;clear step hgood;refine hg ?_
       repeat' ((first | refine hfk ?_ ?_<;>intros | refine hik ?_ | with_reducible first | refine v6l (c1) ?_ | refine vgi (c1) ?_ | refine v6l (c2) ?_ | refine vgi (c2) ?_)<;>refine hgS ?_)
       refine ⟨n+1,⟨by omega,by omega⟩,by omega,?_⟩
       try simp only [hs,hlen2]
       exact StH.back [1,2,3,4,9,10,11] 1 3 2 rfl rfl rfl rfl rfl (by kernel_rfl) (StH.same svl rfl)
     . have hs:=step (qF (some ((n:Int):Rat))) (by
        unfold vlF
        rw [decide_eq_true hlf',Bool.true_and,show (decide ((fs.getD n Fc.zero).sz<=4)&&decide (fs.getD n Fc.zero).ok)=false by
         rw [Bool.and_eq_false_iff,decide_eq_false_iff_not,decide_eq_false_iff_not];by_cases h1:(fs.getD n Fc.zero).sz<=4
         . exact .inr (fun h2=>hgood ⟨h1,h2⟩)
         . exact .inl h1];rfl)
       clear step
       have hg2:decide ((fs.getD n Fc.zero).sz<=4)=true->decide (fs.getD n Fc.zero).ok=true->False:=fun a b=>hgood ⟨of_decide_eq_true a,of_decide_eq_true b⟩
       clear hgood;generalize decide ((fs.getD n Fc.zero).sz<=4)=b1 at *;generalize decide (fs.getD n Fc.zero).ok=b2 at *
       cases b1<;>cases b2
       all_goals try exact (hg2 rfl rfl).elim
       all_goals
        clear hg2;refine hg ?_
        repeat' ((first | refine hfk ?_ ?_<;>intros | refine hik ?_ | with_reducible first | refine v6l (c1) ?_ | refine vgi (c1) ?_ | refine v6l (c2) ?_ | refine vgi (c2) ?_)<;>refine hgS ?_)
        refine ⟨n+1,⟨by omega,by omega⟩,by omega,?_⟩
        try simp only [hs,hlen2]
        exact StH.back [1,2,3,4,9,10,11] 1 3 2 rfl rfl rfl rfl rfl (by kernel_rfl) (StH.same svl rfl)
   . have hs:=step (qF (some ((n:Int):Rat))) (by unfold vlF;rw [decide_eq_false (show ¬n<fs.length by omega)];rfl);clear step hI hF hO hrow;refine hg ?_
     repeat' ((first | refine hfk ?_ ?_<;>intros | refine hik ?_)<;>refine hgS ?_)
     refine ⟨n+1,⟨by omega,by omega⟩,by omega,?_⟩
     try simp only [hs,hlen2]
     exact StH.back [1,2,3,4,9,10,11] 1 3 2 rfl rfl rfl rfl rfl (by kernel_rfl) (StH.same svl rfl)
 . have hnv:n=vs.length:=by omega
   have hnm:(bdL vs fs n).map Bd.name=vs.map Vr.name:=by
    rw [wf8 vs fs n (by omega),hnv,List.take_length]
   have hbd:∀ b∈bdL vs fs n,∃ i,i<n/\b=bdF vs fs i:=fun b hb=>v8a hb
   have hok:∀ b∈bdL vs fs n,b.v.ok/\b.v.sz<=4/\b.name.size<=1073741824:=fun b hb=>by
    obtain ⟨i,hi,rfl⟩:=hbd b hb;exact ⟨(zoh fs i (by omega)).1,(zoh fs i (by omega)).2,hvn _ (w4t (show i<vs.length by omega))⟩
   have L:=x8l x vs (bdL vs fs n) ms hnm (fun b hb=>(hok b hb).1);have f1:=wc3 (Γ:=Gs) x (bdL vs fs n) ms hx (by rw [hlenA];omega) (fun b hb=>⟨(hok b hb).2.2,by have:=Nat.max_le.1 (hok b hb).2.1;omega,by have:=Nat.max_le.1 (hok b hb).2.1;omega⟩) (by omega) hms;have o1:=yf0 (Γ:=Gs) x vs ms hx (by omega) (by omega) hvn hms;have o2:=vsb (Γ:=Gs) x (bdL vs fs n) ms hx (by rw [hlenA];omega) (by omega) (fun b hb=>⟨(hok b hb).2.2,by have:=(hok b hb).2.1;omega⟩) hms;have hq:qz (valF x (bdL vs fs n) ms).1.v<=67108864:=Nat.le_trans (vkw (B:=4300) (by decide) (fun b hb=>by have:=(hok b hb).2.1;omega)) (by decide);clear hI hF hO hrow hnm hbd hok hvn hfs hms hnv;generalize wjp x (bdL vs fs n) ms=b1 at f1;generalize ofF x vs ms=k at o1 L;generalize valF x (bdL vs fs n) ms=r at o2 L hq;obtain ⟨⟨kt,kd⟩,ke⟩:=k;obtain ⟨r,e⟩:=r;simp only at L hq;by_cases hke:ke=0
   . rcases L hke with ⟨h1,h2,h3⟩ | ⟨h1,h2⟩
     . simp only at h1 h2 h3;subst h1;have sm:=wi6 (Γ:=Gs) r.v (by omega);obtain ⟨t,i,v⟩:=r;simp only at h2 h3 sm;subst h2;rw [h3] at sm;clear L h3 hke
       cases b1<;>cases t
       all_goals
        repeat' ((first | refine hfk ?_ ?_<;>intros | refine hik ?_ | with_reducible first | refine v6l (f1) ?_ | refine vgi (f1) ?_ | refine v6l (o1) ?_ | refine vgi (o1) ?_ | refine v6l (o2) ?_ | refine vgi (o2) ?_ | refine v6l (sm) ?_ | refine vgi (sm) ?_)<;>refine hgS ?_)
        all_goals first
         | exact RLe.ofEq rfl
         | (exfalso;omega)
         | refine lfE ?_;first | exact trivial | rfl
     . simp only at h1 h2;subst h2;have sm:=vag (Γ:=Gs) Rs.zero (by decide);rw [decide_eq_true rfl] at sm;clear L
       cases b1
       all_goals
        repeat' ((first | refine hfk ?_ ?_<;>intros | refine hik ?_ | with_reducible first | refine v6l (f1) ?_ | refine vgi (f1) ?_ | refine v6l (o1) ?_ | refine vgi (o1) ?_ | refine v6l (o2) ?_ | refine vgi (o2) ?_ | refine v6l (sm) ?_ | refine vgi (sm) ?_)<;>refine hgS ?_)
        all_goals first
         | exact RLe.ofEq rfl
         | (exfalso;omega)
         | refine lfE ?_;first | exact trivial | rfl
   . clear L
     repeat' ((first | refine hfk ?_ ?_<;>intros | refine hik ?_ | with_reducible first | refine v6l (f1) ?_ | refine vgi (f1) ?_ | refine v6l (o1) ?_ | refine vgi (o1) ?_)<;>refine hgS ?_)
     all_goals first
      | exact RLe.ofEq rfl
      | (exfalso;omega)
end Go.Hp.T
