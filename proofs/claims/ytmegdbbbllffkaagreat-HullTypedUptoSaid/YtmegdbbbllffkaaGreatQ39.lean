/- The proof, part Q39: Qk, Gp, Gq, St, Su, Sl, Sv. -/
import Derived.Test.YtmegdbbbllffkaaGreatQ38
import Derived.Test.YtmegdbbbllffkaaGreatQ33
import Derived.Test.YtmegdbbbllffkaaGreatQ34
import Derived.Test.YtmegdbbbllffkaaGreatQ37
namespace Go.Hp.T
open Go Go.RowKit Go.Slot Go.Hp
set_option maxRecDepth 10000
theorem z1t (V T : List (ByteArray × Dm)) : ∀ (l : List Ex) (e : Int), Ex.tyL V T l = .inl e → e ≠ 0
 | [],e,h=>by rw [Ex.tyL] at h;cases h
 | z::l,e,h=>by
  rw [Ex.tyL] at h
  cases hz:z.ty V T with
  | mk t f=>
   rw [hz] at h;simp only at h;by_cases hf:f=0
   . subst hf
     cases hl:Ex.tyL V T l with
     | inl g=>
      rw [hl] at h
      have:g=e:=by simpa using h
      subst this;exact z1t V T l g hl
     | inr ts=>rw [hl] at h;simp at h
   . have:f=e:=by simpa [hf] using h
     rw [<-this];exact hf
def rG {α:Type} (bad:α->Bool) (nm:α->ByteArray) (vl:α->Dm) (V:List (ByteArray×Dm)):List α->Option (List (ByteArray×Dm))
 | []=>some V
 | v::l=>bif bad v then none else rG bad nm vl (updF V (nm v) (vl v)) l
theorem x1e:∀(vs:List Vr) (V:List (ByteArray×Dm)),rV V vs=rG (fun v:Vr=>!isName v.name||isWord v.name||!zmf v.d) Vr.name Vr.d V vs
 | [],V=>by rw [rV,rG]
 | v::vs,V=>by rw [rV,rG,x1e vs]
def tbad (V:List (ByteArray×Dm)) (t:Tb):Bool:=(ycr V t.name).isSome||decide (¬(zth t.unit).2=0)||!zi4 (fun s=>(zth s).2) t||isWord t.name
def tval (t:Tb):Dm:=dmO (zth t.unit).1
theorem yrx (V:List (ByteArray×Dm)):∀(ms:List Tb) (T:List (ByteArray×Dm)),rT V T ms=rG (tbad V) Tb.name tval T ms
 | [],T=>by rw [rT,rG]
 | t::ms,T=>by rw [rT,rG,yrx V ms];rfl
section
variable {α:Type} {bad:α->Bool} {nm:α->ByteArray} {vl:α->Dm}
theorem wil:∀(l:List α) (V W:List (ByteArray×Dm)),rG bad nm vl V l=some W->W.length<=V.length+l.length
 | [],V,W,h=>by rw [rG] at h;cases h;simp
 | v::l,V,W,h=>by
  rw [rG] at h
  cases hb:bad v with
  | true=>rw [hb] at h;cases h
  | false=>
   rw [hb] at h;have h1:=wil l _ W h;have h2:=(zxc (vl v) (nm v) V).1;simp only [List.length_cons];omega
theorem w9f {β:Type} (d:β) (s:ByteArray):∀ V:List (ByteArray×β),ycr V s=none->updF V s d=V++[(s,d)]
 | [],_=>rfl
 | p::V,h=>by
  unfold ycr at h;unfold updF
  cases hs:seq s p.1 with
  | true=>rw [hs] at h;cases h
  | false=>
   rw [hs,cond_false] at h;rw [cond_false,w9f d s V h];rfl
theorem vj8 {β:Type} (s:ByteArray):∀ A B:List (ByteArray×β),ycr (A++B) s=(ycr A s).or (ycr B s)
 | [],B=>rfl
 | p::A,B=>by
  show (bif seq s p.1 then some p.2 else ycr (A++B) s)=(bif seq s p.1 then some p.2 else ycr A s).or (ycr B s)
  cases seq s p.1 with
  | true=>rfl
  | false=>exact vj8 s A B
theorem x68 (s:ByteArray):∀ l:List α,(∀ v∈l,seq s (nm v)=false)->ycr (l.map fun v=>(nm v,vl v)) s=none
 | [],_=>rfl
 | v::l,h=>by
  rw [List.map_cons,ycr,h v (by simp),cond_false];exact x68 s l (fun w hw=>h w (by simp [hw]))
theorem z6k {s:ByteArray}:∀{l:List α},ycr (l.map fun v=>(nm v,vl v)) s=none->∀ v∈l,seq s (nm v)=false
 | [],_,v,hv=>by cases hv
 | w::l,h,v,hv=>by
  rw [List.map_cons,ycr] at h
  cases hs:seq s (nm w) with
  | true=>rw [hs] at h;cases h
  | false=>
   rw [hs,cond_false] at h
   rcases List.mem_cons.1 hv with rfl | hv
   . exact hs
   . exact z6k h v hv
theorem y99:∀(l:List α) (V W:List (ByteArray×Dm)),rG bad nm vl V l=some W->W.length=V.length+l.length->
 W=V++(l.map fun v=>(nm v,vl v))/\(∀ v∈l,bad v=false/\ycr V (nm v)=none)/\l.Pairwise (fun a b=>seq (nm b) (nm a)=false)
 | [],V,W,h,_=>by rw [rG] at h;cases h;exact ⟨by simp,⟨fun v hv=>(by cases hv),List.Pairwise.nil⟩⟩
 | v::l,V,W,h,hlen=>by
  rw [rG] at h
  cases hb:bad v with
  | true=>rw [hb] at h;cases h
  | false=>
   rw [hb,cond_false] at h;have h1:=wil l _ W h;have h2:=zxc (vl v) (nm v) V;simp only [List.length_cons] at hlen
   have h3:(updF V (nm v) (vl v)).length=V.length+1:=by omega
   have hn:=h2.2 h3;obtain ⟨h4,h5,h6⟩:=y99 l _ W h (by omega);rw [w9f _ _ _ hn] at h4 h5;refine ⟨by rw [h4];simp,fun u hu=>?_,.cons (fun u hu=>?_) h6⟩
   . rcases List.mem_cons.1 hu with rfl | hu
     . exact ⟨hb,hn⟩
     . have:=h5 u hu
       refine ⟨this.1,?_⟩;have h7:=this.2;rw [vj8] at h7
       cases hl:ycr V (nm u) with
       | none=>rfl
       | some d=>rw [hl] at h7;cases h7
   . have h7:=(h5 u hu).2;rw [vj8] at h7
     cases hs:seq (nm u) (nm v) with
     | false=>rfl
     | true=>
      cases hl:ycr V (nm u) with
      | none=>
       rw [hl,ycr,hs] at h7
       cases h7
      | some d=>rw [hl] at h7;cases h7
theorem viy:∀(l:List α) (V:List (ByteArray×Dm)),(∀ v∈l,bad v=false/\ycr V (nm v)=none)->l.Pairwise (fun a b=>seq (nm b) (nm a)=false)->rG bad nm vl V l=some (V++(l.map fun v=>(nm v,vl v)))
 | [],V,_,_=>by rw [rG];simp
 | v::l,V,h,hp=>by
  have hv:=h v (by simp);rw [rG,hv.1,cond_false,w9f _ _ _ hv.2];rw [List.pairwise_cons] at hp;rw [viy l _ (fun u hu=>⟨(h u (by simp [hu])).1,by rw [vj8,(h u (by simp [hu])).2,ycr,hp.1 u hu];rfl⟩) hp.2];simp
end
structure xn9 (vs:List Vr) (ms:List Tb):Prop where
 v:∀ v∈vs,(!isName v.name||isWord v.name||!zmf v.d)=false
 vp:vs.Pairwise (fun a b=>seq b.name a.name=false)
 t:∀ t∈ms,tbad (vs.map fun v=>(v.name,v.d)) t=false
 tp:ms.Pairwise (fun a b=>seq b.name a.name=false)
theorem x4r {vs:List Vr} {ms:List Tb} {p:List (ByteArray×Dm)×List (ByteArray×Dm)} (h:yk9 vs ms=some p):xn9 vs ms/\p=(vs.map (fun v=>(v.name,v.d)),ms.map (fun t=>(t.name,tval t))):=by
 unfold yk9 at h
 cases hV:rV [] vs with
 | none=>rw [hV] at h;cases h
 | some W=>
  rw [hV] at h;simp only at h
  cases hT:rT W [] ms with
  | none=>rw [hT] at h;cases h
  | some X=>
   rw [hT] at h;simp only at h
   cases hd:(decide ((W.length:Int)=vs.length)&&decide ((X.length:Int)=ms.length)) with
   | false=>rw [hd] at h;cases h
   | true=>
    rw [hd] at h
    cases h;rw [Bool.and_eq_true,decide_eq_true_iff,decide_eq_true_iff] at hd;rw [x1e] at hV;rw [yrx] at hT;obtain ⟨a1,a2,a3⟩:=y99 _ _ _ hV (by simp;omega);obtain ⟨b1,b2,b3⟩:=y99 _ _ _ hT (by simp;omega);rw [List.nil_append] at a1 b1;subst a1;subst b1;exact ⟨⟨fun v hv=>(a2 v hv).1,a3,fun t ht=>(b2 t ht).1,b3⟩,rfl⟩
theorem y5w {vs:List Vr} {ms:List Tb} (h:xn9 vs ms):yk9 vs ms=some (vs.map (fun v=>(v.name,v.d)),ms.map (fun t=>(t.name,tval t))):=by
 unfold yk9;rw [x1e,viy _ _ (fun v hv=>⟨h.v v hv,rfl⟩) h.vp];simp only [List.nil_append];rw [yrx,viy _ _ (fun t ht=>⟨h.t t ht,rfl⟩) h.tp];simp only [List.nil_append,List.length_map,decide_true,Bool.and_self,cond_true]
theorem w6e {vs vs':List Vr} {t:Tb} (hsub:∀ v∈vs',v∈vs) (h:tbad (vs.map fun v=>(v.name,v.d)) t=false):tbad (vs'.map fun v=>(v.name,v.d)) t=false:=by
 unfold tbad at h ⊢;simp only [Bool.or_eq_false_iff] at h ⊢;refine ⟨⟨⟨?_,h.1.1.2⟩,h.1.2⟩,h.2⟩
 have h1:ycr (vs.map fun v=>(v.name,v.d)) t.name=none:=by
  cases hl:ycr (vs.map fun v=>(v.name,v.d)) t.name with
  | none=>rfl
  | some d=>rw [hl] at h;exact absurd h.1.1.1 (by simp)
 rw [x68 t.name vs' (fun v hv=>z6k h1 v (hsub v hv))];rfl
theorem xn9.less {vs vs':List Vr} {ms ms':List Tb} (h:xn9 vs ms) (hv:vs'.Sublist vs) (ht:ms'.Sublist ms):xn9 vs' ms':=
 ⟨fun v hv'=>h.v v (hv.subset hv'),h.vp.sublist hv,fun t ht'=>w6e (fun _ hv'=>hv.subset hv') (h.t t (ht.subset ht')),h.tp.sublist ht⟩
theorem xri {x:Ex} {vs:List Vr} {ms:List Tb} (h:(ofF x vs ms).2=0):(!xub x||x.xi4)=false/\x.shaped=true/\xn9 vs ms/\(x.ty (vs.map fun v=>(v.name,v.d)) (ms.map fun t=>(t.name,tval t))).2=0:=by
 unfold ofF at h
 cases hb:(!xub x||x.xi4) with
 | true=>rw [hb] at h;cases h
 | false=>
  rw [hb,cond_false] at h
  cases hr:yk9 vs ms with
  | none=>rw [hr] at h;cases h
  | some p=>
   rw [hr] at h;obtain ⟨h1,rfl⟩:=x4r hr;rw [Bool.or_eq_false_iff,Bool.not_eq_false'] at hb;have hs:=hb.1;unfold xub at hs;rw [Bool.and_eq_true] at hs;exact ⟨rfl,hs.2,h1,h⟩
theorem wn1 {x:Ex} {vs:List Vr} {ms:List Tb} (hb:(!xub x||x.xi4)=false) (h:xn9 vs ms):ofF x vs ms=x.ty (vs.map fun v=>(v.name,v.d)) (ms.map fun t=>(t.name,tval t)):=by
 unfold ofF;rw [hb,cond_false,y5w h]
theorem w5e {x:Ex} {bs:List Bd} {ms:List Tb} {V:Vq} {T:Vt} (h1:xub x=true) (h2:x.xi4=false) (h3:entF bs ms=some (V,T)):valF x bs ms=x.cal V T:=by
 unfold valF;rw [h1,h2,h3];rfl
def FitV (k:Ty) (r:Rs×Int):Prop:=(r.2=0/\r.1.t=k.t/\r.1.v.isSome = !k.t)\/((r.2=15\/r.2=4)/\r.1=Rs.zero)
theorem FitV.ok {k:Ty} {r:Rs×Int} (h:FitV k r) (he:r.2=0):r.1.t=k.t/\r.1.v.isSome = !k.t:=by
 rcases h with h | h
 . exact h.2
 . rcases h.1 with h | h<;>rw [he] at h<;>cases h
theorem yry (V T : List (ByteArray × Dm)) : ∀ (l : List Ex) (ts : List Ty), Ex.tyL V T l = .inr ts → ts.length = l.length ∧ ∀ i, i < l.length → (l.getD i default).ty V T = (ts.getD i default, 0)
 | [],ts,h=>by rw [Ex.tyL] at h;cases h;exact ⟨rfl,fun i hi=>by simp at hi⟩
 | y::l,ts,h=>by
  rw [Ex.tyL] at h
  cases hy:Ex.ty V T y with
  | mk t e=>
   rw [hy] at h;by_cases he:e=0
   . subst he;simp only [not_true_eq_false,decide_false,cond_false] at h
     cases hl:Ex.tyL V T l with
     | inl e=>rw [hl] at h;cases h
     | inr us=>
      rw [hl] at h;cases h;obtain ⟨h1,h2⟩:=yry V T l us hl;refine ⟨by simp [h1],fun i hi=>?_⟩
      cases i with
      | zero=>exact hy
      | succ i=>simpa using h2 i (by simpa using hi)
   . simp only [decide_eq_true he,cond_true] at h
     cases h
theorem wwl {a b r:Ty} (h:(xkg a b r).2=0):a.t=false/\b.t=false/\(xkg a b r).1=r:=by
 unfold xkg at h ⊢
 cases ha:a.t<;>cases hb:b.t<;>rw [ha,hb] at h
 . simp only [Bool.or_self,cond_false] at h ⊢
   cases hd:decide (a.d=b.d)<;>rw [hd] at h
   . cases h
   . first | exact ⟨rfl,rfl,rfl⟩ | exact ⟨trivial,trivial,rfl⟩
 all_goals cases h
theorem vkv {o:Int} {a b:Ty} (h:(zom o a b).2=0):a.t=false/\b.t=false/\(zom o a b).1.t=false:=by
 unfold zom at h ⊢
 cases ha:a.t<;>cases hb:b.t<;>rw [ha,hb] at h
 . simp only [Bool.or_self,cond_false] at h ⊢;refine ⟨trivial,trivial,?_⟩;generalize decide ((bif decide (o=9) then dDiv a.d b.d else dMul a.d b.d).2=0)=c at h ⊢
   cases c<;>rfl
 all_goals cases h
theorem xpi {α:Type} [Inhabited α] {l:List α} {x:α} (h:x∈l):∃ i,i<l.length/\l.getD i default=x:=by
 obtain ⟨i,hi,rfl⟩:=List.getElem_of_mem h;exact ⟨i,hi,by simp [hi]⟩
end Go.Hp.T
namespace Go.Hp.T
open Go Go.RowKit Go.Slot Go.Hp Go.Slot.T
set_option maxRecDepth 10000
def FitK (k:Ty):Kr->Prop
 | .inl e=>e=15\/e=4
 | .inr x=>x.t=k.t
theorem zv8:∀(l:List Kr) (ts:List Ty),ts.length=l.length->(∀ i,i<l.length->FitK (ts.getD i default) (l.getD i default))->(∃ e,seqH l=.inl e/\(e=15\/e=4))\/∃ ks,seqH l=.inr ks/\ks.length=l.length/\∀ i,i<l.length->(ks.getD i default).t=(ts.getD i default).t
 | [],ts,_,_=>.inr ⟨[],rfl,rfl,fun i hi=>by simp at hi⟩
 | r::l,[],h,_=>by simp at h
 | r::l,t::ts,hl,h=>by
  have h0:=h 0 (by simp);simp only [List.getD_cons_zero] at h0
  rcases r with e | k
  . exact .inl ⟨e,by rw [seqH],h0⟩
  . rw [seqH]
    rcases zv8 l ts (by simpa using hl) (fun i hi=>by simpa using h (i+1) (by simpa using hi)) with ⟨e,h1,h2⟩ | ⟨ks,h1,h2,h3⟩
    . rw [h1];exact .inl ⟨e,rfl,h2⟩
    . rw [h1];refine .inr ⟨k::ks,rfl,by simp [h2],fun i hi=>?_⟩
      cases i with
      | zero=>exact h0
      | succ i=>simpa using h3 i (by simpa using hi)
theorem vft {o:Int} {a b:Iv} {k:Ty} (hk:k.t = !(decide (o=6)||decide (o=7)||decide (o=8)||decide (o=9)||decide (o=10)||decide (o=11))):FitK k (numH o a b):=by
 unfold numH
 cases h6:decide (o=6) with
 | true=>exact (by rw [hk,h6]:_=k.t)
 | false=>
 cases h7:decide (o=7) with
 | true=>exact (by rw [hk,h6,h7]:_=k.t)
 | false=>
 cases h8:decide (o=8) with
 | true=>exact (by rw [hk,h6,h7,h8]:_=k.t)
 | false=>
 cases h9:decide (o=9) with
 | true=>
  cases b.has 0 with
  | true=>exact .inl rfl
  | false=>exact (by rw [hk,h6,h7,h8,h9]:_=k.t)
 | false=>
 cases h10:decide (o=10) with
 | true=>exact (by rw [hk,h6,h7,h8,h9,h10]:_=k.t)
 | false=>
 cases h11:decide (o=11) with
 | true=>exact (by rw [hk,h6,h7,h8,h9,h10,h11]:_=k.t)
 | false=>
  have hk':k.t=true:=by rw [hk,h6,h7,h8,h9,h10,h11];rfl
  cases decide (o=12) with
  | true=>exact hk'.symm
  | false=>exact hk'.symm
theorem voa {ks:List Kn} {p:Bool} (h:∀ k∈ks,k.t=p):ks.any (fun k=>!(k.t==p))=false:=by
 rw [List.any_eq_false];intro k hk;simp [h k hk]
theorem zng {Vd Td:List (ByteArray×Dm)} {V:Vi} {T:Vt} (hV:∀ s,(ycr Vd s).isSome=true->(ycr V s).isSome=true) (hT:∀ s,(ycr Td s).isSome=true->∃ t,ycr T s=some t/\tbOk t=true) :
 ∀ x:Ex,x.shaped=true->x.xi4=false->(x.ty Vd Td).2=0->FitK (x.ty Vd Td).1 (x.hul V T):=by
 refine Ex.ind (fun x ih hsh hcl h=>?_);rw [Ex.xg3,Bool.and_eq_true,List.all_eq_true] at hsh;rw [Ex.wd9,Bool.or_eq_false_iff,decide_eq_false_iff_not,List.any_eq_false] at hcl;obtain ⟨hnode,hargs⟩:=hsh;obtain ⟨h3,hcalls⟩:=hcl;rw [Ex.xyt] at h ⊢;rw [Ex.y5j];by_cases hnil:(x.args.length:Int)=0
 . rw [decide_eq_true hnil,cond_true] at h ⊢
   have h01:x.op=0\/x.op=1:=by
    by_cases h0:x.op=0
    . exact .inl h0
    by_cases h1:x.op=1
    . exact .inr h1
    have:=xab hnode h3 h0 h1
    omega
   unfold zgx at h ⊢
   rcases h01 with h0 | h1
   . have h1:¬x.op=1:=by omega
     rw [decide_eq_false h1,cond_false] at h ⊢;rw [decide_eq_true h0,cond_true];unfold vlw
     rcases v4u x.unit with ⟨u,hu,_⟩ | ⟨e,he,hu⟩
     . unfold facO;rw [hu];exact (rfl:false=false)
     . rw [hu] at h;simp only [decide_eq_true he,cond_true] at h
       cases h
   . have h0:¬x.op=0:=by omega
     rw [decide_eq_true h1,cond_true] at h ⊢;rw [decide_eq_false h0,cond_false,cond_true]
     cases hl:ycr Vd x.name with
     | none=>rw [hl] at h;cases h
     | some d=>
      have:=hV x.name (by rw [hl];rfl)
      obtain ⟨q,hq⟩:=Option.isSome_iff_exists.1 this;unfold yy3;rw [hq];exact (rfl:false=false)
 rw [decide_eq_false hnil,cond_false] at h ⊢
 have hne:x.args.length≠0:=by omega
 have h0:¬x.op=0:=fun h0=>by
  unfold yxn at hnode;rw [decide_eq_true h0,decide_eq_false hnil] at hnode;simp at hnode
 have h1:¬x.op=1:=fun h1=>by
  unfold yxn at hnode;rw [decide_eq_false h0,decide_eq_true h1,decide_eq_false hnil] at hnode;simp at hnode
 obtain ⟨hl2,hl3⟩:=x6z hnode h3 hne;rw [decide_eq_false h0,decide_eq_false h1,cond_false,cond_false]
 cases htl:Ex.tyL Vd Td x.args with
 | inl e=>rw [htl] at h;exact absurd h (z1t Vd Td _ _ htl)
 | inr ts=>
  rw [htl] at h;simp only at h ⊢;obtain ⟨hlen,hty⟩:=yry Vd Td _ _ htl
  have hfit:∀ i,i<x.args.length->FitK (ts.getD i default) ((x.args.map (Ex.hul V T)).getD i default):=fun i hi=>by
   have hm:=w4t hi;rw [getD_map hi]
   have:=ih _ hm (hargs _ hm) (by simpa using hcalls _ hm) (by rw [hty i hi])
   rw [hty i hi] at this;exact this
  by_cases h5:x.op=5
  . have hl:=hl3 h5;rw [decide_eq_true h5,cond_true];unfold wqq at h ⊢;rw [show decide (x.op=2)=false by simp [h5],show decide (x.op=6)=false by simp [h5],show decide (x.op=7)=false by simp [h5],show decide (x.op=10)=false by simp [h5],show decide (x.op=11)=false by simp [h5],show decide (x.op=12)=false by simp [h5],show decide (x.op=13)=false by simp [h5],show decide (x.op=8)=false by simp [h5],show decide (x.op=9)=false by simp [h5],decide_eq_true h5] at h ⊢;simp only [Bool.or_self,cond_false,cond_true] at h ⊢
    cases hc:(ts.getD 0 default).t with
    | false=>rw [hc] at h;cases h
    | true=>
     rw [hc] at h;simp only [Bool.not_true,cond_false] at h ⊢;obtain ⟨a1,a2,a3⟩:=wwl h;rw [a3];have f0:=hfit 0 (by omega);have f1:=hfit 1 (by omega);have f2:=hfit 2 (by omega);generalize (x.args.map (Ex.hul V T)).getD 0 default=r0 at f0 ⊢;generalize (x.args.map (Ex.hul V T)).getD 1 default=r1 at f1 ⊢;generalize (x.args.map (Ex.hul V T)).getD 2 default=r2 at f2 ⊢
     have f2':FitK (ts.getD 1 default) r2:=by
      rcases r2 with e | k
      . exact f2
      . exact (f2:k.t=_).trans (a2.trans a1.symm)
     unfold chH
     rcases r0 with e | ⟨c,d⟩ | v
     . exact f0
     . cases c with
       | false=>exact f2'
       | true=>
        rcases r1 with e | a
        . exact f1
        . cases d with
          | false=>exact f1
          | true=>
           rcases r2 with e | b
           . exact f2'
           . rcases a with ⟨c,d⟩ | a
             . exact absurd ((f1:true=_).trans a1) (by simp [Kn.t])
             . rcases b with ⟨c,d⟩ | b
               . exact absurd ((f2:true=_).trans a2) (by simp [Kn.t])
               . exact a1.symm
     . exact absurd ((f0:false=_).trans hc) (by simp [Kn.t])
  rw [decide_eq_false h5,cond_false]
  rcases zv8 (x.args.map (Ex.hul V T)) ts (by rw [hlen,List.length_map]) (by rw [List.length_map];exact hfit) with ⟨e,hs,he⟩ | ⟨ks,hs,hrl,hrs⟩
  . rw [hs];exact he
  . rw [hs];rw [List.length_map] at hrl hrs;show FitK _ (opH T x.op x.name ks);unfold opH;unfold wqq at h ⊢
    have hks:∀ p,(∀ i,i<x.args.length->(ts.getD i default).t=p)->∀ k∈ks,k.t=p:=fun p hp k hk=>by
     obtain ⟨i,hi,rfl⟩:=xpi hk;rw [hrs i (by omega),hp i (by omega)]
    by_cases h2:x.op=2
    . rw [decide_eq_true h2,cond_true] at h ⊢;obtain ⟨_,_,b1,_,_⟩:=xab hnode h3 h0 h1;have hl1:=b1 (.inl h2);unfold x59 at h ⊢
      cases hl:ycr Td x.name with
      | none=>rw [hl] at h;cases h
      | some d=>
       rw [hl] at h;obtain ⟨t,ht1,ht2⟩:=hT x.name (by rw [hl];rfl);rw [ht1];simp only at h ⊢
       cases hk:(ts.getD 0 default).t with
       | true=>rw [hk] at h;cases h
       | false=>
        have hlg:ze4 x.op=false:=by rw [h2];rfl
        rw [hlg,voa (hks false (fun i hi=>by rw [show i=0 by omega];exact hk))];rw [hk] at h;simp only [cond_false,cond_true,Option.isSome,Bool.not_true,Bool.and_false] at h ⊢;generalize decide ((ts.getD 0 default).d=Dm.zero)=c at h ⊢
        cases c with
        | false=>cases h
        | true=>
         show FitK _ (x7a t (ks.getD 0 default).v)
         rcases x24 ht2 (ks.getD 0 default).v with ⟨_,e⟩ | ⟨_,e⟩<;>rw [e]
         . exact .inr rfl
         . exact (rfl:false=false)
    rw [decide_eq_false h2,cond_false] at h ⊢;rw [Bool.false_and,cond_false,cond_false];by_cases h4:x.op=4\/x.op=14\/x.op=15
    . have e1:decide (x.op=6)=false/\decide (x.op=7)=false/\decide (x.op=10)=false/\decide (x.op=11)=false/\decide (x.op=12)=false/\decide (x.op=13)=false/\decide (x.op=8)=false/\decide (x.op=9)=false/\decide (x.op=5)=false:=by
       refine ⟨?_,?_,?_,?_,?_,?_,?_,?_,?_⟩<;>exact decide_eq_false (by omega)
      obtain ⟨c1,c2,c3,c4,c5,c6,c7,c8,c9⟩:=e1;rw [c1,c2,c3,c4,c5,c6,c7,c8,c9] at h ⊢;simp only [Bool.or_self,cond_false] at h ⊢;have hlg:ze4 x.op=true:=v6i.2 h4;rw [hlg,cond_true];unfold xc6 at h ⊢
      cases hany:ts.any (fun t=>!t.t) with
      | true=>rw [hany] at h;cases h
      | false=>
       rw [voa (hks true (fun i hi=>by simpa using anyF hany (show i<ts.length by omega)))];simp only [cond_false];unfold truH
       cases decide (x.op=4)<;>cases decide (x.op=14)<;>exact (rfl:true=true)
    have h4':¬x.op=4:=fun h=>h4 (.inl h)
    have hlg:ze4 x.op=false:=by
     cases hq:ze4 x.op with
     | false=>rfl
     | true=>exact absurd (v6i.1 hq) h4
    rw [hlg,cond_false];have hl:=hl2 h2 h4';have hl2':x.args.length=2:=(xab hnode h3 h0 h1).2.2.2.2 h2 h4' h5
    have two:∀{a b:Ty},ts.getD 0 default=a->ts.getD 1 default=b->a.t=false->b.t=false->ks.any (fun k=>!(k.t==false))=false:=fun {a b} e1 e2 h1 h2=>voa (hks false (fun i hi=>by
     rcases (show i=0\/i=1 by omega) with rfl | rfl
     . rw [e1];exact h1
     . rw [e2];exact h2))
    cases hA:(decide (x.op=6)||decide (x.op=7)||decide (x.op=10)||decide (x.op=11)) with
    | true=>
     rw [hA,cond_true] at h;rw [cond_true];obtain ⟨a1,a2,a3⟩:=wwl h;rw [a3,two rfl rfl a1 a2,cond_false];refine vft ?_;rw [a1];simp only [Bool.or_eq_true,decide_eq_true_eq] at hA
     rcases hA with ((h | h) | h) | h<;>simp [h]
    | false=>
     rw [hA,cond_false] at h;rw [cond_false]
     cases hB:(decide (x.op=12)||decide (x.op=13)) with
     | true=>
      rw [hB,cond_true] at h;rw [cond_true];obtain ⟨a1,a2,a3⟩:=wwl h;rw [a3,two rfl rfl a1 a2,cond_false];refine vft ?_;simp only [Bool.or_eq_true,decide_eq_true_eq] at hB
      rcases hB with h | h<;>simp [h]
     | false=>
      rw [hB,cond_false] at h;rw [cond_false]
      cases hC:(decide (x.op=8)||decide (x.op=9)) with
      | true=>
       rw [hC,cond_true] at h;rw [cond_true];obtain ⟨a1,a2,a3⟩:=vkv h;rw [two rfl rfl a1 a2,cond_false];refine vft ?_;rw [a3];simp only [Bool.or_eq_true,decide_eq_true_eq] at hC
       rcases hC with h | h<;>simp [h]
      | false=>
       exfalso;simp only [Bool.or_eq_false_iff,decide_eq_false_iff_not] at hA hB hC
       have:=z3r hnode hne
       omega
end Go.Hp.T
namespace Go.Hp.T
open Go Go.RowKit Go.Slot Go.Hp Go.Slot.T
set_option maxRecDepth 10000
set_option maxHeartbeats 4000000
end Go.Hp.T
namespace Go.Hp.T
open Go Go.RowKit Go.Slot Go.Hp Go.Slot.T
set_option maxRecDepth 10000
theorem xc3 {x:Ex} (h:xub x=true):x.shaped=true:=by unfold xub at h;rw [Bool.and_eq_true] at h;exact h.2
theorem zvu (x:Ex) (zs:List Zn) (ms:List Tb):((!xub x||x.xi4)=true/\hulF x zs ms=.inl 2)\/((xub x=true/\x.xi4=false)/\((entZ zs ms=none/\hulF x zs ms=.inl 1)\/∃ V T,entZ zs ms=some (V,T)/\hulF x zs ms=x.hul V T)):=by
 unfold hulF
 cases h1:xub x with
 | false=>exact .inl ⟨rfl,rfl⟩
 | true=>cases h2:x.xi4 with
  | true=>exact .inl ⟨rfl,rfl⟩
  | false=>
   refine .inr ⟨⟨rfl,rfl⟩,?_⟩
   cases h3:entZ zs ms with
   | none=>exact .inl ⟨rfl,rfl⟩
   | some p=>obtain ⟨V,T⟩:=p;exact .inr ⟨V,T,rfl,rfl⟩
theorem wo1 {x:Ex} {zs:List Zn} {ms:List Tb} {V:Vi} {T:Vt} (h1:xub x=true) (h2:x.xi4=false) (h3:entZ zs ms=some (V,T)):hulF x zs ms=x.hul V T:=by
 unfold hulF;rw [h1,h2,h3];rfl
theorem vdp {x:Ex} {zs:List Zn} {ms:List Tb} {k:Kn} (h:hulF x zs ms=.inr k):xub x=true/\x.xi4=false/\∃ V T,entZ zs ms=some (V,T)/\x.hul V T=.inr k:=by
 rcases zvu x zs ms with ⟨_,e⟩ | ⟨⟨h1,h2⟩,⟨_,e⟩ | ⟨V,T,h3,e⟩⟩
 . rw [e] at h;cases h
 . rw [e] at h;cases h
 . exact ⟨h1,h2,V,T,h3,by rw [<-e];exact h⟩
theorem zui {α β:Type} {nm:β->ByteArray} {ok:β->Bool} {val:β->α} {out out':ByteArray->Bool}:∀{l:List β} {V W W':List (ByteArray×α)},gE nm ok val out V l=some W->gE nm ok val out' V l=some W'->W=W'
 | [],V,W,W',h,h'=>by rw [gE] at h h';cases h;cases h';rfl
 | b::l,V,W,W',h,h'=>by
  rw [gE] at h h'
  cases hc:((ycr V (nm b)).isSome||out (nm b)||!isName (nm b)||isWord (nm b)||!ok b) with
  | true=>rw [hc] at h;cases h
  | false=>cases hd:((ycr V (nm b)).isSome||out' (nm b)||!isName (nm b)||isWord (nm b)||!ok b) with
   | true=>rw [hd] at h';cases h'
   | false=>rw [hc,cond_false] at h;rw [hd,cond_false] at h';exact zui h h'
theorem ygy {α β α' β':Type} {nm:β->ByteArray} {ok:β->Bool} {val:β->α} {nm':β'->ByteArray} {ok':β'->Bool} {val':β'->α'} {tok:Tb->Bool} {bs:List β} {bs':List β'} {ms:List Tb} {V:List (ByteArray×α)} {V':List (ByteArray×α')} {T T':List (ByteArray×Tb)}
 (h:entG nm ok val tok bs ms=some (V,T)) (h':entG nm' ok' val' tok bs' ms=some (V',T')):T'=T:=by
 unfold entG at h h'
 cases h1:gE nm ok val (fun _=>false) [] bs with
 | none=>rw [h1] at h;cases h
 | some W=>cases h2:gE nm' ok' val' (fun _=>false) [] bs' with
  | none=>rw [h2] at h';cases h'
  | some W'=>
   rw [h1] at h;rw [h2] at h';simp only at h h'
   cases h3:gE Tb.name tok id (fun s=>(ycr W s).isSome) [] ms with
   | none=>rw [h3] at h;cases h
   | some U=>cases h4:gE Tb.name tok id (fun s=>(ycr W' s).isSome) [] ms with
    | none=>rw [h4] at h';cases h'
    | some U'=>
     rw [h3] at h;rw [h4] at h'
     cases h;cases h';exact zui h4 h3
theorem x1c {β γ:Type} [Inhabited β] [Inhabited γ] {nm:β->ByteArray} {nm':γ->ByteArray}:∀{l:List β} {l':List γ},l.map nm=l'.map nm'->∀ s,(fnd nm l s=none/\fnd nm' l' s=none)\/∃ i,i<l.length/\fnd nm l s=some (l.getD i default)/\fnd nm' l' s=some (l'.getD i default)
 | [],[],_,s=>.inl ⟨rfl,rfl⟩
 | [],c::l',h,s=>by cases h
 | b::l,[],h,s=>by cases h
 | b::l,c::l',h,s=>by
  rw [List.map_cons,List.map_cons,List.cons.injEq] at h;rw [yik,yik,<-h.1]
  cases seq s (nm b) with
  | true=>exact .inr ⟨0,by simp,rfl,rfl⟩
  | false=>
   rcases x1c h.2 s with ⟨h1,h2⟩ | ⟨i,hi,h1,h2⟩
   . exact .inl ⟨h1,h2⟩
   . exact .inr ⟨i+1,by simpa using hi,h1,h2⟩
theorem yr9 {s:Sc} {f:Fc} (h:s.has f):f.ok/\(ivOf s).In f.val:=by
 have h0:=h;obtain ⟨h1,h2,_⟩:=h0;obtain ⟨v,rfl⟩:=x6c h1;obtain ⟨q,rfl⟩:=xp2 h2
 have h3:v.has q=true:=by rw [<-zw8];exact decide_eq_true h
 rw [xjv,show (qF (some q)).val=q from Fc.w2h q];exact ⟨h2,Iv.yuc.1 h3⟩
theorem w8u {x:Ex} {zs:List Zn} {bs:List Bd} {ms:List Tb} (hn:zs.map Zn.name=bs.map Bd.name) (hh:∀ i,i<zs.length->(zs.getD i default).s.has (bs.getD i default).v) {k:Kn} (h:hulF x zs ms=.inr k):∃ r,valF x bs ms=(r,0)/\SndK k r:=by
 obtain ⟨h1,h2,V,T,h3,h4⟩:=vdp h;obtain ⟨e1,e2,e3,e4,e5⟩:=y36 h3;rw [hn] at e3
 have hlen:zs.length=bs.length:=by simpa using congrArg List.length hn
 obtain ⟨⟨V',T'⟩,h5⟩:=w1q (nm:=Bd.name) (ok:=fun b=>decide b.v.ok) (val:=fun b=>b.v.val) (tok:=tbOk) (bs:=bs) (ms:=ms) (fun b hb=>by
  obtain ⟨i,hi,rfl⟩:=xpi hb
  exact decide_eq_true (yr9 (hh i (by omega))).1) e2 e3
 obtain rfl:=ygy h3 h5;rw [w5e h1 h2 h5];obtain ⟨_,_,_,f4,f5⟩:=y36 h5;refine y8u (fun s=>?_) (fun s t ht=>?_) x (xc3 h1) h2 k h4
 . rcases x1c hn s with ⟨a,b⟩ | ⟨i,hi,a,b⟩
   . exact .inl ⟨by rw [f4,b];rfl,by rw [e4,a];rfl⟩
   . exact .inr ⟨_,_,by rw [f4,b];rfl,by rw [e4,a];rfl,(yr9 (hh i hi)).2⟩
 . exact e2 t (wud (by rw [<-e5];exact ht)).1
theorem vc2 {a b:Sc} (h:a.inside b):a.ok/\(ivOf a).Le (ivOf b):=by
 have h0:=h;obtain ⟨h1,h2,_⟩:=h0;obtain ⟨v,rfl⟩:=x6c h1;obtain ⟨w,rfl⟩:=x6c h2
 have h3:v.inside w=true:=by rw [<-v3n];exact decide_eq_true h
 rw [xjv,xjv];exact ⟨h1,Iv.zi9.1 h3⟩
theorem y2u {x:Ex} {zs ws:List Zn} {ms:List Tb} (hn:zs.map Zn.name=ws.map Zn.name) (hh:∀ i,i<zs.length->(ws.getD i default).s.inside (zs.getD i default).s) {k:Kn} (h:hulF x zs ms=.inr k):∃ k',hulF x ws ms=.inr k'/\InsK k k':=by
 obtain ⟨h1,h2,V,T,h3,h4⟩:=vdp h;obtain ⟨e1,e2,e3,e4,e5⟩:=y36 h3;rw [hn] at e3
 have hlen:zs.length=ws.length:=by simpa using congrArg List.length hn
 obtain ⟨⟨V',T'⟩,h5⟩:=w1q (nm:=Zn.name) (ok:=fun b=>decide b.s.ok) (val:=fun b=>ivOf b.s) (tok:=tbOk) (bs:=ws) (ms:=ms) (fun b hb=>by
  obtain ⟨i,hi,rfl⟩:=xpi hb
  exact decide_eq_true (vc2 (hh i (by omega))).1) e2 e3
 obtain rfl:=ygy h3 h5;rw [wo1 h1 h2 h5];obtain ⟨_,_,_,f4,f5⟩:=y36 h5
 obtain ⟨k',g1,g2,_⟩:=xit (Ie:=V) (Je:=V') (fun s=>by
  rcases x1c hn s with ⟨a,b⟩ | ⟨i,hi,a,b⟩
  . exact .inl ⟨by rw [e4,a];rfl,by rw [f4,b];rfl⟩
  . exact .inr ⟨_,_,by rw [e4,a];rfl,by rw [f4,b];rfl,(vc2 (hh i hi)).2⟩) (fun s t ht=>e2 t (wud (by rw [<-e5];exact ht)).1) x (xc3 h1) h2 k h4
 exact ⟨k',g1,g2⟩
def ptZ (b:Bd):Zn:=⟨b.name,Sc.vc6 b.v⟩
theorem wrx {f:Fc} (h:f.ok):∃ q,f=qF (some q)/\Sc.vc6 f=ivS (Iv.pt q):=by
 obtain ⟨q,rfl⟩:=xp2 h;exact ⟨q,rfl,by unfold Sc.vc6;rw [if_pos h];rfl⟩
theorem yji (f:Fc):decide (Sc.vc6 f).ok=decide f.ok:=by
 by_cases h:f.ok
 . obtain ⟨q,_,e⟩:=wrx h;rw [e,decide_eq_true h,decide_eq_true (yxx _)]
 . unfold Sc.vc6;rw [if_neg h,decide_eq_false h,decide_eq_false (fun h1:Sc.zero.ok=>Fc.vc1 h1.1)]
theorem y5y (x:Ex) (bs:List Bd) (ms:List Tb):PtR (hulF x (bs.map ptZ) ms) (valF x bs ms):=by
 have hn:(bs.map ptZ).map Zn.name=bs.map Bd.name:=by rw [List.map_map];rfl
 have hs:(entZ (bs.map ptZ) ms).isSome=(entF bs ms).isSome:=by
  rw [xbc,xbc,hn,List.all_map]
  congr 3
  funext b
  exact yji b.v
 rcases zvu x (bs.map ptZ) ms with ⟨h1,e⟩ | ⟨⟨h1,h2⟩,⟨h3,e⟩ | ⟨V,T,h3,e⟩⟩
 . rw [e];unfold valF;rw [h1];exact ⟨rfl,by decide⟩
 . rw [h3] at hs
   cases h4:entF bs ms with
   | some p=>rw [h4] at hs;cases hs
   | none=>rw [e];unfold valF;rw [h1,h2,h4];exact ⟨rfl,by decide⟩
 . rw [h3] at hs
   cases h4:entF bs ms with
   | none=>rw [h4] at hs;cases hs
   | some p=>
    obtain ⟨V',T'⟩:=p;obtain rfl:=ygy h3 h4;rw [e,w5e h1 h2 h4];obtain ⟨_,e2,_,e4,e5⟩:=y36 h3;obtain ⟨f1,_,_,f4,_⟩:=y36 h4;refine xus (fun s=>?_) (fun s t ht=>e2 t (wud (by rw [<-e5];exact ht)).1) x (xc3 h1) h2
    rcases x1c hn s with ⟨a,b⟩ | ⟨i,hi,a,b⟩
    . exact .inl ⟨by rw [f4,b];rfl,by rw [e4,a];rfl⟩
    . have hi':i<bs.length:=by simpa using hi
      obtain ⟨q,hq,hp⟩:=wrx (of_decide_eq_true (f1 _ (w4t hi')));refine .inr ⟨q,by rw [f4,b];exact congrArg some (by show (bs.getD i default).v.val=q;rw [hq];exact Fc.w2h q),?_⟩;rw [e4,a];refine congrArg some ?_
      have e6:(bs.map ptZ).getD i default=ptZ (bs.getD i default):=by simp [hi']
      rw [e6];show ivOf (Sc.vc6 (bs.getD i default).v)=_;rw [hp,xjv]
theorem zav (x : Ex) (vs : List Vr) (zs : List Zn) (ms : List Tb) (hn : zs.map Zn.name = vs.map Vr.name) (hb : ∀ z ∈ zs, z.s.ok) (h : (ofF x vs ms).2 = 0) : FitK (ofF x vs ms).1 (hulF x zs ms) := by
 obtain ⟨h1,h2,h3,h4⟩:=xri h;rw [Bool.or_eq_false_iff,Bool.not_eq_false'] at h1;rw [wn1 (by rw [h1.1,h1.2];rfl) h3]
 have hgood:xfk (zs.map Zn.name++ms.map Tb.name):=by
  rw [hn];refine ⟨fun s hs=>?_,?_⟩
  . rcases List.mem_append.1 hs with hs | hs
    . obtain ⟨v,hv,rfl⟩:=List.mem_map.1 hs
      have:=h3.v v hv
      unfold isNamed
      cases hq:isName v.name<;>cases hw:isWord v.name<;>rw [hq,hw] at this<;>simp_all
    . obtain ⟨t,ht,rfl⟩:=List.mem_map.1 hs
      have:=h3.t t ht
      unfold tbad at this;simp only [Bool.or_eq_false_iff,Bool.not_eq_false'] at this;have hr:=(yun this.1.2).2.1;unfold isNamed;rw [hr,this.2];rfl
  . rw [List.nodup_append];refine ⟨?_,?_,fun a ha b hb' e=>?_⟩
    . refine List.pairwise_map.2 (h3.vp.imp (fun hp e=>?_));rw [e,vw8] at hp;cases hp
    . refine List.pairwise_map.2 (h3.tp.imp (fun hp e=>?_));rw [e,vw8] at hp;cases hp
    . subst e;obtain ⟨t,ht,rfl⟩:=List.mem_map.1 hb'
      have:=h3.t t ht
      unfold tbad at this;simp only [Bool.or_eq_false_iff] at this;obtain ⟨v,hv,e⟩:=List.mem_map.1 ha;have h5:=this.1.1.1;rw [Option.isSome_eq_false_iff,Option.isNone_iff_eq_none] at h5
      have:=z6k h5 v hv
      rw [<-e,vw8] at this;cases this
 obtain ⟨⟨V,T⟩,he⟩:=w1q (nm:=Zn.name) (ok:=fun b=>decide b.s.ok) (val:=fun b=>ivOf b.s) (tok:=tbOk) (bs:=zs) (ms:=ms) (fun b hb'=>decide_eq_true (hb b hb')) (fun t ht=>by
  have:=h3.t t ht
  unfold tbad at this;simp only [Bool.or_eq_false_iff,Bool.not_eq_false'] at this
  exact this.1.2) hgood
 obtain ⟨_,e2,_,e4,e5⟩:=y36 he;rw [wo1 h1.1 h1.2 he]
 have look_map:∀{α β:Type} (f:α->ByteArray) (g:α->β) (l:List α) (s:ByteArray),(ycr (l.map fun v=>(f v,g v)) s).isSome=(fnd f l s).isSome:=by
  intro α β f g l s
  induction l with
  | nil=>rfl
  | cons v l ih=>
   rw [List.map_cons,yik];show (bif seq s (f v) then _ else _:Option β).isSome=_
   cases seq s (f v) with
   | true=>rfl
   | false=>exact ih
 refine zng (fun s hs=>?_) (fun s hs=>?_) x h2 h1.2 h4
 . rw [look_map,vu0] at hs;rw [e4,Option.isSome_map,vu0,hn];exact hs
 . rw [look_map] at hs;obtain ⟨t,ht⟩:=Option.isSome_iff_exists.1 hs;exact ⟨t,by rw [e5,ht],e2 t (wud ht).1⟩
end Go.Hp.T
namespace Go.Hp.T
open Go Go.RowKit Go.Slot Go.Hp Go.Slot.T
open Go.Proofs.Tryz (prog)
set_option maxRecDepth 10000
set_option maxHeartbeats 4000000
variable {Γ:List (Nat×List Cell)}
def genL {α:Type} (f:Nat->α):Nat->List α
 | 0=>[]
 | n+1=>genL f n++[f n]
theorem zqu {α:Type} (f:Nat->α):∀ n,(genL f n).length=n
 | 0=>rfl
 | n+1=>by rw [genL,List.length_append,zqu f n];rfl
theorem v5o {α:Type} {f:Nat->α} {b:α}:∀{n},b∈genL f n->∃ i,i<n/\b=f i
 | 0,h=>by cases h
 | n+1,h=>by
  rw [genL,List.mem_append,List.mem_singleton] at h
  rcases h with h | h
  . obtain ⟨i,hi,e⟩:=v5o h;exact ⟨i,by omega,e⟩
  . exact ⟨n,by omega,h⟩
theorem z6a {α β:Type} (g:α->β) (f:Nat->α):∀ n,(genL f n).map g=genL (fun i=>g (f i)) n
 | 0=>rfl
 | n+1=>by rw [genL,List.map_append,z6a g f n];rfl
theorem ysi {α:Type} [Inhabited α] {f:Nat->α}:∀{n i:Nat},i<n->(genL f n).getD i default=f i
 | 0,i,h=>by omega
 | n+1,i,h=>by
  rw [genL];by_cases hi:i<n
  . rw [List.getD_eq_getElem?_getD,List.getElem?_append_left (by rw [zqu];exact hi),<-List.getD_eq_getElem?_getD];exact ysi hi
  . have e:i=n:=by omega
    subst e;rw [List.getD_eq_getElem?_getD,List.getElem?_append_right (by rw [zqu];exact Nat.le_refl _),zqu,Nat.sub_self];rfl
theorem wbx {α:Type} [Inhabited α] (l:List α):genL (fun i=>l.getD i default) l.length=l:=by
 have h:∀ n,n<=l.length->genL (fun i=>l.getD i default) n=l.take n:=by
  intro n
  induction n with
  | zero=>intro _;rfl
  | succ n ih=>intro h;rw [genL,ih (by omega),z4f (by omega)]
 rw [h _ (Nat.le_refl _),List.take_length]
theorem wex {α β:Type} [Inhabited β] {f:Nat->α} {g:α->ByteArray} {h:β->ByteArray} (l:List β) (e:∀ i,g (f i)=h (l.getD i default)):(genL f l.length).map g=l.map h:=by
 rw [z6a,show (fun i=>g (f i))=fun i=>h (l.getD i default) from funext e,<-z6a h (fun i=>l.getD i default),wbx]
structure Zn.Sm (b:Zn):Prop where
 n:b.name.size<=1073741824
 s:b.s.sz<=1048576
def Dm.C (d:Dm):List Cell:=dmC d
theorem Dm.C_eq (d:Dm):d.C=dmC d:=rfl
attribute [go_sem] Dm.C_eq
structure Ar17 (x:Ex) (zs:List Zn) (ms:List Tb):Prop where
 x:x.Sm
 b:zs.length<=1048576
 m:ms.length<=1048576
 bs:∀ b∈zs,b.Sm
 ms:∀ t∈ms,t.Sm
def w9d (b:Zn):Bool:=decide ((b.name.size:Int)<=40)&&decide (b.s.sz<=4)
def wsk (x:Ex) (zs:List Zn) (ms:List Tb):Bool:=(zs.take 9).all w9d&&(wjp x [] ms&&decide ((zs.length:Int)<=8))
theorem vtj {x:Ex} {zs:List Zn} {ms:List Tb} (h:wsk x zs ms=true):(∀ b∈zs,b.s.sz<=4)/\zs.length<=8:=by
 unfold wsk at h;simp only [Bool.and_eq_true,decide_eq_true_eq] at h
 have hl:zs.length<=8:=by omega
 refine ⟨fun b hb=>?_,hl⟩
 have:=h.1
 rw [List.take_of_length_le (by omega),List.all_eq_true] at this
 have:=this b hb
 unfold w9d at this;simp only [Bool.and_eq_true,decide_eq_true_eq] at this;exact this.2
theorem CallsD.argN {f:FuncId} {args args':List AV} {res:AV} (h:CallsD Γ prog f args' res) (hle:LeS args args'):CallsD Γ prog f args res:=⟨h.1,fun M w vs hM hg hr=>h.2 M w vs hM hg (RdBL.le hle hr)⟩
theorem yin (x:Ex) (zs:List Zn) (ms:List Tb) (h:Ar17 x zs ms):CallsD Γ prog 10 [.agg (exC x),.one (.sl 9 (zs.map Zn.C)),.one (.sl 3 (ms.map Tb.C))] (.one (cB (wsk x zs ms))):=by
 have f1:=wc3 (Γ:=Γ) x [] ms h.x (by decide) (fun b hb=>by cases hb) (by have:=h.m;omega) h.ms;have f1:CallsD Γ prog 38 [.agg (exC x),.one (.raw (.slice none 0 0)),.one (.sl 3 (ms.map Tb.C))] (.one (cB (wjp x [] ms))):=CallsD.argN f1 (.cons (.refl _) (.cons (.one (.nilSl _)) (.cons (.refl _) .nil)));have hl:=h.b;unfold wsk;generalize wjp x [] ms=b1 at f1;generalize hR:((zs.take 9).all w9d&&(b1&&decide ((zs.length:Int)<=8)))=R;refine CallsD.run [] Go.Proofs.Tryz.func10 rfl rfl rfl ?_;simp only [Go.Proofs.Tryz.f10];refine hgR ?_;refine y55 [1,2,3] (fun n:Nat=>[(7,.one (.dat (cI n)))]) (fun _=>[.box ((exC x).map .dat) (some 24)]) (fun n=>n<=zs.length/\n<=9/\∀ j,j<n->w9d (zs.getD j default)=true) (fun n=>zs.length-n) 0 ⟨Nat.zero_le _,by omega,fun j hj=>by omega⟩ ?_ ?_
 . refine hg ?_;exact StH.same svl rfl
 rintro n ⟨hn,hn9,hj⟩
 have hc:n<zs.length->CallsD Γ prog 16 [.agg (scC (zs.getD n default).s),.one (cI 4)] (.one (cB (decide ((zs.getD n default).s.sz<=4)))):=fun h'=>toD (xmj _ (by have:=(h.bs _ (w4t h')).s;omega))
 refine hg ?_
 repeat' ((first | refine hfk ?_ ?_<;>intros | refine hik ?_ | with_reducible first | refine v6l (hc (by omega)) ?_ | refine vgi (hc (by omega)) ?_ | refine v6l (f1) ?_ | refine vgi (f1) ?_)<;>refine hgS ?_)
 all_goals first
  | exact ⟨n+1,⟨by omega,by omega,xf4 hj (by unfold w9d;simp only [Bool.and_eq_true,decide_eq_true_eq];omega)⟩,by omega,StH.same svl rfl⟩
  | (rw [<-hR,vep (n:=9) (i:=n) (by omega) (by omega) (by unfold w9d;simp only [Bool.and_eq_false_iff,decide_eq_false_iff_not];omega)];exact RLe.ofEq rfl)
  | (rw [<-hR,zpv hj (by omega)];refine lfE ?_;first | exact trivial | rfl)
end Go.Hp.T
