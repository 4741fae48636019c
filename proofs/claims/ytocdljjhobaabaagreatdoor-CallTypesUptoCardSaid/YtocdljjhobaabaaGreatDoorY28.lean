/- The proof, part Y28: 1d, 1e, 1o, Pu, Ii, 1j. -/
import Derived.Test.YtocdljjhobaabaaGreatDoorY27
import Derived.Test.YtocdljjhobaabaaGreatDoorY25
import Derived.Test.YtocdljjhobaabaaGreatDoorY18
namespace Go.Hp.T
open Go Go.RowKit Go.Slot Go.Hp Go.Slot.T
set_option maxRecDepth 10000
def Ex.allV (V:Ex->Prop) (x:Ex):Prop:=∀ y,Ex.Nd y x->V y
theorem Ex.vq2 (x:Ex):x.withArgs x.args=x:=by cases x;rfl
theorem Ex.z1p (x:Ex) (l:List Ex):(x.withArgs l).args=l:=rfl
theorem Ex.ykf {V:Ex->Prop} (hV:∀ y l,l.length=y.args.length->V y->V (y.withArgs l)) {x:Ex} (hx:V x) {ws:List Wh} (hok:∀ w∈ws,w.ok) (hl:ws.length=x.args.length)
 (hw:∀ w∈ws,w.full=false->w.x.allV V) (hf:(xi7 x ws).full=false):(xi7 x ws).x.allV V:=by
 rcases ygy x ws hok with ⟨h1,h2⟩ | ⟨_,h2⟩
 . rw [h2];intro z hz
   cases hz with
   | here=>exact hV _ _ (by simpa using hl) hx
   | arg hm hz=>
    obtain ⟨w,hw1,rfl⟩:=List.mem_map.1 hm;exact hw w hw1 (h1.1 w hw1) z hz
 . rw [h2] at hf;cases hf
theorem xez {f:Fnc} {args:List Wh}:∀{l:List Ex} {ws:List Wh},yda f args l=.inr ws->ws=l.map (putF f args)/\∀ y∈l,(putF f args y).full=false
 | [],ws,h=>by rw [yda] at h;cases h;exact ⟨rfl,fun _ h=>by cases h⟩
 | y::l,ws,h=>by
  rw [yda] at h
  cases hf:(putF f args y).full with
  | true=>rw [hf] at h;cases h
  | false=>
   rw [hf] at h;simp only at h
   cases hr:yda f args l with
   | inl z=>rw [hr] at h;cases h
   | inr ws'=>
    rw [hr] at h
    cases h;obtain ⟨a,b⟩:=xez hr;refine ⟨by rw [a];rfl,fun z hz=>?_⟩
    rcases List.mem_cons.1 hz with e | e
    . rw [e];exact hf
    . exact b z e
theorem wj6 {f:Fnc} {args:List Wh}:∀{l:List Ex} {z:Wh},yda f args l=.inl z->∃ y∈l,z=putF f args y/\z.full=true
 | [],z,h=>by rw [yda] at h;cases h
 | y::l,z,h=>by
  rw [yda] at h
  cases hf:(putF f args y).full with
  | true=>rw [hf] at h;cases h;exact ⟨y,by simp,rfl,hf⟩
  | false=>
   rw [hf] at h;simp only at h
   cases hr:yda f args l with
   | inr ws'=>rw [hr] at h;cases h
   | inl z'=>
    rw [hr] at h
    cases h;obtain ⟨y',h1,h2⟩:=wj6 hr;exact ⟨y',List.mem_cons_of_mem _ h1,h2⟩
theorem ve0 {args:List Wh} (ha:∀ w∈args,w.ok) {i:Nat} (hi:i<args.length):(args.getD i default).ok:=ha _ (xdq hi)
theorem wuk {V:Ex->Prop} (hV:∀ y l,l.length=y.args.length->V y->V (y.withArgs l)) {f:Fnc} {args:List Wh} (ha:∀ w∈args,w.ok) (haV:∀ w∈args,w.full=false->w.x.allV V) :
 ∀ x:Ex,(∀ y,Ex.Nd y x->y.op≠1->V y)->(∀ y,Ex.Nd y x->y.op=1->(wcs f y.name).toNat<args.length)->(putF f args x).ok/\((putF f args x).full=false->(putF f args x).x.allV V):=by
 refine Ex.ind (fun x ih hx hn=>?_);rw [vvr];by_cases h1:x.op=1
 . rw [decide_eq_true h1];have hi:=hn x .here h1;exact ⟨ve0 ha hi,haV _ (xdq hi)⟩
 . rw [decide_eq_false h1];simp only [cond_false]
   have ih':=fun y hy=>ih y hy (fun z hz=>hx z (.arg hy hz)) (fun z hz=>hn z (.arg hy hz))
   cases hr:yda f args x.args with
   | inl z=>
    obtain ⟨y,hy,rfl,hz⟩:=wj6 hr;exact ⟨(ih' y hy).1,fun h=>by simp only at h;rw [hz] at h;cases h⟩
   | inr ws=>
    obtain ⟨rfl,hf⟩:=xez hr
    have hok:∀ w∈x.args.map (putF f args),w.ok:=fun w hw=>by
     obtain ⟨y,hy,rfl⟩:=List.mem_map.1 hw;exact (ih' y hy).1
    refine ⟨xeh _ _ hok,fun h=>Ex.ykf hV (hx x .here h1) hok (by simp) (fun w hw hwf=>?_) h⟩;obtain ⟨y,hy,rfl⟩:=List.mem_map.1 hw;exact (ih' y hy).2 hwf
def kn (F:List Fnc) (x:Ex):Prop:=∀ y,Ex.Nd y x->y.op=3->0<=findF F y.name/\y.args.length=(F.getD (findF F y.name).toNat default).params.length
theorem kn.arg {F:List Fnc} {x y:Ex} (h:kn F x) (hy:y∈x.args):kn F y:=fun z hz=>h z (.arg hy hz)
theorem vb3 {V:Ex->Prop} (hV:∀ y l,l.length=y.args.length->V y->V (y.withArgs l)) {F:List Fnc} {B:Nat->Wh} :
 ∀ x:Ex,(∀ y,Ex.Nd y x->y.op≠3->V y)->(∀ y,Ex.Nd y x->y.op=3->(B (findF F y.name).toNat).full=false->∀ z,Ex.Nd z (B (findF F y.name).toNat).x->(z.op≠1->V z)/\(z.op=1->(wcs (F.getD (findF F y.name).toNat default) z.name).toNat<y.args.length))->
 (expG F B x).ok/\((expG F B x).full=false->(expG F B x).x.allV V):=by
 refine Ex.ind (fun x ih hx hB=>?_)
 have ih':=fun y hy=>ih y hy (fun z hz=>hx z (.arg hy hz)) (fun z hz=>hB z (.arg hy hz))
 have hok:∀ w∈x.args.map (expG F B),w.ok:=fun w hw=>by
  obtain ⟨y,hy,rfl⟩:=List.mem_map.1 hw;exact (ih' y hy).1
 have hall:∀ w∈x.args.map (expG F B),w.full=false->w.x.allV V:=fun w hw hwf=>by
  obtain ⟨y,hy,rfl⟩:=List.mem_map.1 hw;exact (ih' y hy).2 hwf
 rw [wpu];by_cases h3:x.op=3
 . rw [decide_eq_true h3];simp only [Bool.not_true,cond_false];have hb:=hB x .here h3
   cases hf:(B (findF F x.name).toNat).full with
   | true=>exact ⟨Wh.ok_none,fun h=>by cases h⟩
   | false=>
    simp only [Bool.not_false,cond_true];exact wuk hV hok hall _ (fun y hy=>(hb hf y hy).1) (fun y hy h1=>by rw [List.length_map];exact (hb hf y hy).2 h1)
 . rw [decide_eq_false h3];simp only [Bool.not_false,cond_true];exact ⟨xeh _ _ hok,fun h=>Ex.ykf hV (hx x .here h3) hok (by simp) hall h⟩
theorem wi6 {F:List Fnc} {B B':Nat->Wh}:∀ x:Ex,(∀ y,Ex.Nd y x->y.op=3->B (findF F y.name).toNat=B' (findF F y.name).toNat)->expG F B x=expG F B' x:=by
 refine Ex.ind (fun x ih h=>?_);have hm:x.args.map (expG F B)=x.args.map (expG F B'):=List.map_congr_left (fun y hy=>ih y hy (fun z hz=>h z (.arg hy hz)));rw [wpu,wpu,hm];by_cases h3:x.op=3
 . rw [decide_eq_true h3,h x .here h3]
 . rw [decide_eq_false h3];rfl
theorem ztv {F:List Fnc} {B:Nat->Wh}:∀ x:Ex,x.yp0=false->x.sz<=200->x.dp<=20->expG F B x=⟨x,x.sz,x.dp,false⟩:=by
 refine Ex.ind (fun x ih hc h1 h2=>?_);rw [Ex.ze7,Bool.or_eq_false_iff] at hc;rw [Ex.ziq] at h1;rw [Ex.ynm] at h2
 have hsz:∀{l:List Ex} {y:Ex},y∈l->y.sz<=Ex.szL l/\y.dp<=Ex.dpL l:=by
  intro l
  induction l with
  | nil=>intro y h;cases h
  | cons z l ihl=>
   intro y hy;have a1:=Ex.vhc l;have a2:=Ex.x9a l;have a3:=Ex.vkb z;rw [Ex.szL,Ex.dpL]
   rcases List.mem_cons.1 hy with e | e
   . rw [e];omega
   . have:=ihl e;omega
 have hm:x.args.map (expG F B)=x.args.map (fun y=>(⟨y,y.sz,y.dp,false⟩:Wh)):=List.map_congr_left (fun y hy=>ih y hy (by
  cases e:y.yp0 with
  | false=>rfl
  | true=>rw [List.any_eq_true.2 ⟨y,hy,e⟩] at hc;cases hc.2) (by have:=hsz hy;omega) (by have:=hsz hy;omega))
 have hx:(x.args.map (fun y=>(⟨y,y.sz,y.dp,false⟩:Wh))).map Wh.x=x.args:=by rw [List.map_map];exact List.map_id' _
 rw [wpu,hm,hc.1];simp only [Bool.not_false,cond_true]
 have hok:∀ w∈x.args.map (fun y=>(⟨y,y.sz,y.dp,false⟩:Wh)),w.ok:=fun w hw=>by
  obtain ⟨y,hy,rfl⟩:=List.mem_map.1 hw
  have:=hsz hy
  exact .inr ⟨rfl,rfl,rfl,by show y.sz<=200;omega,by show y.dp<=20;omega⟩
 rcases ygy x _ hok with ⟨_,e⟩ | ⟨e,_⟩
 . rw [e,hx,Ex.vq2]
 . exfalso;refine e ⟨fun w hw=>?_,?_,?_⟩
   . obtain ⟨y,hy,rfl⟩:=List.mem_map.1 hw;rfl
   . rw [hx,Ex.vq2,Ex.ziq];exact h1
   . rw [hx,Ex.vq2,Ex.ynm];exact h2
theorem xzn {p q:Nat->Bool}:∀{l:List Nat},(∀ x∈l,p x=true->q x=true)->(∃ x∈l,p x=false/\q x=true)->l.countP p<l.countP q
 | [],_,h=>by obtain ⟨_,h,_⟩:=h;cases h
 | y::l,h,⟨x,hx,h1,h2⟩=>by
  rw [List.countP_cons,List.countP_cons];have hle:l.countP p<=l.countP q:=List.countP_mono_left (fun z hz=>h z (List.mem_cons_of_mem _ hz))
  rcases List.mem_cons.1 hx with e | e
  . subst e;rw [h1,h2];simp;omega
  . have:=xzn (fun z hz=>h z (List.mem_cons_of_mem _ hz)) ⟨x,e,h1,h2⟩
    have hy:=h y (by simp)
    cases hp:p y with
    | false=>simp;omega
    | true=>rw [hy hp];simp;omega
theorem wbz {F:List Fnc} (h:acyc F):∃ r:Nat->Nat,(∀ i,r i<F.length\/F.length<=i)/\∀ i j,x0t F i j->j<F.length->r j<r i:=by
 obtain ⟨r,hr⟩:=h;refine ⟨fun i=>(List.range F.length).countP fun m=>decide (r m<r i),fun i=>?_,fun i j he hj=>?_⟩
 . by_cases hi:i<F.length
   . refine .inl ?_
     have:(List.range F.length).countP (fun m=>decide (r m<r i))<(List.range F.length).countP (fun _=>true):=xzn (fun _ _ _=>rfl) ⟨i,List.mem_range.2 hi,by simp,rfl⟩
     simpa using this
   . exact .inr (Nat.le_of_not_lt hi)
 . have:=hr i (vwd he) j he
   refine xzn (fun x _ hx=>?_) ⟨j,List.mem_range.2 hj,by simp,by simpa using this⟩;simp only [decide_eq_true_eq] at hx ⊢;omega
theorem x3l {F:List Fnc} {i j:Nat} (h:x0t F i j):j<F.length:=by
 have hi:=vwd h;obtain ⟨y,_,_,rfl⟩:=h;exact x4n hi _
theorem voy {F:List Fnc} {r:Nat->Nat} (hr:∀ i j,x0t F i j->j<F.length->r j<r i):∀(k i:Nat),r i<k->vax F (k+1) i=vax F k i
 | 0,_,h=>by omega
 | k+1,i,h=>by
  show expG F (vax F (k+1)) _=expG F (vax F k) _;refine wi6 _ (fun y hy h3=>?_);have he:x0t F i (findF F y.name).toNat:=⟨y,hy,h3,rfl⟩;exact voy hr k _ (by have:=hr _ _ he (x3l he);omega)
abbrev bdF (F:List Fnc) (i:Nat):Wh:=vax F F.length i
theorem xew {F:List Fnc} (h:acyc F) {i:Nat} (hi:i<F.length):bdF F i=expG F (bdF F) (F.getD i default).body:=by
 obtain ⟨r,h1,h2⟩:=wbz h
 have:=voy h2 F.length i (by have:=h1 i;omega)
 exact this.symm
theorem ybr {F:List Fnc} (h:acyc F) {Q:Nat->Prop} (hQ:∀ i,i<F.length->(∀ j,x0t F i j->Q j)->Q i):∀ i,i<F.length->Q i:=by
 obtain ⟨r,hr⟩:=h
 have key:∀ n i,i<F.length->r i<n->Q i:=by
  intro n
  induction n with
  | zero=>intro i _ h;omega
  | succ n ih=>
   intro i hi hn;refine hQ i hi (fun j hj=>ih j (x3l hj) ?_)
   have:=hr i hi j hj
   omega
 exact fun i hi=>key (r i+1) i hi (by omega)
theorem Ex.xty:∀ x:Ex,x.shaped=true↔∀ y,Ex.Nd y x->w7g y=true:=by
 refine Ex.ind (fun x ih=>?_);rw [Ex.vjs,Bool.and_eq_true,List.all_eq_true];constructor
 . rintro ⟨a,b⟩ y hy
   cases hy with
   | here=>exact a
   | arg hz hy=>exact (ih _ hz).1 (b _ hz) y hy
 . intro h;exact ⟨h x .here,fun y hy=>(ih y hy).2 (fun z hz=>h z (.arg hy hz))⟩
theorem Ex.wsm:∀ x:Ex,x.yp0=false↔∀ y,Ex.Nd y x->y.op≠3:=by
 refine Ex.ind (fun x ih=>?_);rw [Ex.ze7,Bool.or_eq_false_iff,decide_eq_false_iff_not];constructor
 . rintro ⟨a,b⟩ y hy
   cases hy with
   | here=>exact a
   | arg hz hy=>
    refine (ih _ hz).1 ?_ y hy;rename_i z
    cases e:z.yp0 with
    | false=>rfl
    | true=>rw [List.any_eq_true.2 ⟨z,hz,e⟩] at b;cases b
 . intro h;refine ⟨h x .here,?_⟩
   cases e:x.args.any Ex.yp0 with
   | false=>rfl
   | true=>
    obtain ⟨z,hz,h2⟩:=List.any_eq_true.1 e;rw [(ih z hz).2 (fun y hy=>h y (.arg hz hy))] at h2
    cases h2
theorem x3i {y:Ex} {l:List Ex} (h:l.length=y.args.length):w7g (y.withArgs l)=w7g y:=by
 cases y;rename_i o n u s m;have e:(l.length:Int)=m.length:=congrArg Int.ofNat h
 have key:∀(a b:Int),a=b->∀(F:Int->Bool),F a=F b:=fun a b e F=>by rw [e]
 exact key l.length m.length e (fun k=>
  bif decide (o=0) then x6w u&&decide (0<=n)&&decide (n<=1099511627776)&&decide (s.size=0)&&decide (k=0) else
  bif decide (¬n=0)||decide (¬u.size=0) then false else
  bif decide (o=1) then isNamed s&&decide (k=0) else
  bif decide (o=2) then isNamed s&&decide (k=1) else
  bif decide (o=3) then isNamed s&&decide (1<=k)&&decide (k<=6) else
  bif decide (o=4) then decide (s.size=0)&&decide (k=1) else
  bif decide (o=5) then decide (s.size=0)&&decide (k=3) else
  bif decide (o=10)||decide (o=11) then decide (s.size=0)&&decide (k=2) else
  isOp o&&decide (s.size=0)&&decide (k=2))
theorem ysa {F : List Fnc} : ∀ n i : Nat, w1r F n i = 0 ↔ ∀ j, i ≤ j → j < i + n → yum F j = 0
 | 0,i=>by rw [w1r];exact ⟨fun _ j h1 h2=>by omega,fun _=>rfl⟩
 | n + 1, i => by
  rw [w1r];by_cases h:yum F i=0
  . rw [decide_eq_true h];simp only [Bool.not_true,cond_false];rw [ysa n (i+1)];constructor
    . intro hh j h1 h2;by_cases e:j=i
      . rw [e];exact h
      . exact hh j (by omega) (by omega)
    . intro hh j h1 h2;exact hh j (by omega) (by omega)
  . rw [decide_eq_false h];simp only [Bool.not_false,cond_true];exact ⟨fun e=>absurd e h,fun hh=>hh i (Nat.le_refl _) (by omega)⟩
structure valid (F:List Fnc):Prop where
 len:F.length<=100
 one:∀ i,i<F.length->yum F i=0
 ac:acyc F
theorem wun (F:List Fnc):y38 F F.length 0 (List.replicate F.length 0)=false↔acyc F:=by
 have hz:∀ j,(List.replicate F.length (0:Int)).getD j 0=0:=fun j=>by
  by_cases h:j<F.length
  . simp [h]
  . simp [List.getElem?_eq_none (show (List.replicate F.length (0:Int)).length<=j by simpa using h)]
 refine xxg F.length 0 _ (by omega) ⟨by simp,fun _=>0,fun i hi=>?_⟩ (fun j=>.inl (hz j)) (fun j hj=>by omega);rw [hz] at hi;cases hi
theorem y5o {F:List Fnc}:wa2 F=0↔valid F:=by
 unfold wa2;by_cases h1:100<(F.length:Int)
 . rw [decide_eq_true h1];exact ⟨fun h=>(by cases h),fun h=>by have:=h.len;omega⟩
 rw [decide_eq_false h1];simp only [cond_false];by_cases h2:w1r F F.length 0=0
 . rw [h2];simp only [decide_true,Bool.not_true,cond_false];have h3:=wun F;have h4:=(ysa F.length 0).1 h2
   cases hc:y38 F F.length 0 (List.replicate F.length 0) with
   | true=>
    rw [hc] at h3;simp only [cond_true];exact ⟨fun h=>(by cases h),fun h=>by have:=h3.2 h.ac;cases this⟩
   | false=>
    simp only [cond_false];exact ⟨fun _=>⟨by omega,fun i hi=>h4 i (Nat.zero_le _) (by omega),h3.1 hc⟩,fun _=>trivial⟩
 . rw [decide_eq_false h2];simp only [Bool.not_false,cond_true];exact ⟨fun h=>absurd h h2,fun h=>absurd ((ysa F.length 0).2 (fun j _ hj=>h.one j (by omega))) h2⟩
structure okF (F:List Fnc) (i:Nat):Prop where
 form:wtj (F.getD i default)=true
 tw:zlh F i=false
 un:(F.getD i default).params.any ziu=false
 str:∀ y,Ex.Nd y (F.getD i default).body->y.op=1->0<=wcs (F.getD i default) y.name
 kn:kn F (F.getD i default).body
theorem zks {F:List Fnc} {x:Ex} (h1:x.anyN (x5q F)=false) (h2:x.anyN (zs3 F)=false):kn F x:=fun y hy h3=>by
 have a:=Ex.vaz h1 hy;have b:=Ex.vaz h2 hy;unfold x5q at a;unfold zs3 at b;rw [decide_eq_true h3,Bool.true_and,decide_eq_false_iff_not] at a b;exact ⟨by omega,by omega⟩
theorem xwo {F:List Fnc} {x:Ex} (h:kn F x):x.anyN (x5q F)=false/\x.anyN (zs3 F)=false:=by
 constructor
 . cases e:x.anyN (x5q F) with
   | false=>rfl
   | true=>
    obtain ⟨y,hy,hp⟩:=(Ex.x8x _ _).1 e;unfold x5q at hp;rw [Bool.and_eq_true,decide_eq_true_eq,decide_eq_true_eq] at hp
    have:=(h y hy hp.1).1
    omega
 . cases e:x.anyN (zs3 F) with
   | false=>rfl
   | true=>
    obtain ⟨y,hy,hp⟩:=(Ex.x8x _ _).1 e;unfold zs3 at hp;rw [Bool.and_eq_true,decide_eq_true_eq,decide_eq_true_eq] at hp
    have:=(h y hy hp.1).2
    omega
theorem wgw {F:List Fnc} {i:Nat}:yum F i=0↔okF F i:=by
 unfold yum
 cases h1:wtj (F.getD i default) with
 | false=>exact ⟨fun h=>(by cases h),fun h=>by rw [h.form] at h1;cases h1⟩
 | true=>
 cases h2:zlh F i with
 | true=>exact ⟨fun h=>(by cases h),fun h=>by rw [h.tw] at h2;cases h2⟩
 | false=>
 cases h3:(F.getD i default).params.any ziu with
 | true=>exact ⟨fun h=>(by cases h),fun h=>by rw [h.un] at h3;cases h3⟩
 | false=>
 cases h4:(F.getD i default).body.anyN (znq (F.getD i default)) with
 | true=>
  refine ⟨fun h=>(by cases h),fun h=>?_⟩;obtain ⟨y,hy,hp⟩:=(Ex.x8x _ _).1 h4;unfold znq at hp;rw [Bool.and_eq_true,decide_eq_true_eq,decide_eq_true_eq] at hp
  have:=h.str y hy hp.1
  omega
 | false=>
 have hs:∀ y,Ex.Nd y (F.getD i default).body->y.op=1->0<=wcs (F.getD i default) y.name:=fun y hy h1=>by
  have:=Ex.vaz h4 hy
  unfold znq at this;rw [decide_eq_true h1,Bool.true_and,decide_eq_false_iff_not] at this;omega
 cases h5:(F.getD i default).body.anyN (x5q F) with
 | true=>exact ⟨fun h=>(by cases h),fun h=>by have:=(xwo h.kn).1;rw [h5] at this;cases this⟩
 | false=>
 cases h6:(F.getD i default).body.anyN (zs3 F) with
 | true=>exact ⟨fun h=>(by cases h),fun h=>by have:=(xwo h.kn).2;rw [h6] at this;cases this⟩
 | false=>exact ⟨fun _=>⟨h1,h2,h3,hs,zks h5 h6⟩,fun _=>rfl⟩
theorem valid.ok {F:List Fnc} (h:valid F) {i:Nat} (hi:i<F.length):okF F i:=wgw.1 (h.one i hi)
theorem okF.right {F:List Fnc} {i:Nat} (h:okF F i):z7n (F.getD i default).body=true:=by
 have:=h.form
 unfold wtj at this;simp only [Bool.and_eq_true] at this;exact this.2
theorem xqh {α:Type} {p:α->Bool}:∀{l:List α},0<=idxF p l->(idxF p l).toNat<l.length
 | [],h=>by unfold idxF at h;omega
 | x::l,_=>wuh p (x::l) (by simp)
def z4j (F:List Fnc) (s:ByteArray):Prop:=∃ j,j<F.length/\∃ y,Ex.Nd y (F.getD j default).body/\y.op=2/\y.name=s
def bV (F:List Fnc) (i:Nat) (z:Ex):Prop:=w7g z=true/\z.op≠3/\(z.op=1->0<=wcs (F.getD i default) z.name)/\(z.op=2->z4j F z.name)
theorem yqu {F:List Fnc} (h:valid F):∀ i,i<F.length->(bdF F i).ok/\((bdF F i).full=false->(bdF F i).x.allV (bV F i)):=by
 refine ybr h.ac (fun i hi ih=>?_);have hk:=h.ok hi;have hsh:=(Ex.xty _).1 ((yqj _).1 hk.right).2.2;rw [xew h.ac hi];refine vb3 (V:=bV F i) (fun y l hl hy=>?_) _ (fun y hy h3=>⟨hsh y hy,h3,hk.str y hy,fun h2=>⟨i,hi,y,hy,h2,rfl⟩⟩) (fun y hy h3 hf z hz=>?_)
 . unfold bV at hy ⊢;rw [x3i hl];exact hy
 . have he:x0t F i (findF F y.name).toNat:=⟨y,hy,h3,rfl⟩;obtain ⟨a,b,c,d⟩:=(ih _ he).2 hf z hz;refine ⟨fun h1=>⟨a,b,fun e=>absurd e h1,d⟩,fun h1=>?_⟩;rw [(hk.kn y hy h3).2];exact xqh (c h1)
def xV (F:List Fnc) (x z:Ex):Prop:=w7g z=true/\z.op≠3/\(z.op=1->∃ y,Ex.Nd y x/\y.op=1/\y.name=z.name)/\(z.op=2->(∃ y,Ex.Nd y x/\y.op=2/\y.name=z.name)\/z4j F z.name)
theorem wu4 {F:List Fnc} (h:valid F) {x:Ex} (hx:x.shaped=true) (hk:kn F x):(expF F x).ok/\((expF F x).full=false->(expF F x).x.allV (xV F x)):=by
 have hsh:=(Ex.xty _).1 hx;refine vb3 (V:=xV F x) (fun y l hl hy=>?_) _ (fun y hy h3=>⟨hsh y hy,h3,fun h1=>⟨y,hy,h1,rfl⟩,fun h2=>.inl ⟨y,hy,h2,rfl⟩⟩) (fun y hy h3 hf z hz=>?_)
 . unfold xV at hy ⊢;rw [x3i hl];exact hy
 . have hn:(findF F y.name).toNat<F.length:=xqh (hk y hy h3).1;obtain ⟨a,b,c,d⟩:=(yqu h _ hn).2 hf z hz;refine ⟨fun h1=>⟨a,b,fun e=>absurd e h1,fun e=>.inr (d e)⟩,fun h1=>?_⟩;rw [(hk y hy h3).2];exact xqh (c h1)
theorem vhb {F:List Fnc} {x:Ex} (h:(yc3 F x).2=0):valid F/\z7n x=true/\kn F x/\(expF F x).full=false/\yc3 F x=((expF F x).x,0):=by
 unfold yc3 at h ⊢
 cases h1:z7n x with
 | false=>rw [h1] at h;cases h
 | true=>
 by_cases h2:wa2 F=0
 . rw [h1,decide_eq_true h2] at h;simp only [Bool.not_true,Bool.or_false,cond_false] at h;rw [decide_eq_true h2];simp only [Bool.not_true,Bool.or_false,cond_false]
   cases h3:x.anyN (x5q F) with
   | true=>rw [h3] at h;cases h
   | false=>
   cases h4:x.anyN (zs3 F) with
   | true=>rw [h3,h4] at h;cases h
   | false=>
   cases h5:(expF F x).full with
   | true=>rw [h3,h4,h5] at h;cases h
   | false=>exact ⟨y5o.1 h2,trivial,zks h3 h4,rfl,rfl⟩
 . rw [h1,decide_eq_false h2] at h;cases h
theorem vdr {F:List Fnc} {x:Ex} (h:valid F) (hx:z7n x=true) (hk:kn F x) (hf:(expF F x).full=false):yc3 F x=((expF F x).x,0):=by
 unfold yc3;rw [hx,y5o.2 h,(xwo hk).1,(xwo hk).2,hf];rfl
theorem x0s (F:List Fnc) (x:Ex) :
 0<=(yc3 F x).1.rsz 250 24/\
 ((yc3 F x).2≠0->(yc3 F x).1=Ex.zero/\(x.yp0=true\/z7n x=false\/wa2 F≠0))/\
 ((yc3 F x).2=0->yc3 F (yc3 F x).1=((yc3 F x).1,0)/\(yc3 F x).1.yp0=false/\z7n (yc3 F x).1=true/\(yc3 F x).1.allV (xV F x)/\(x.yp0=true\/(yc3 F x).1=x)):=by
 by_cases h:(yc3 F x).2=0
 . obtain ⟨hv,hx,hk,hf,he⟩:=vhb h;have hx':=(yqj x).1 hx;have ha:=wu4 hv hx'.2.2 hk;have hV:=ha.2 hf;obtain ⟨n1,n2,n3,n4⟩:=ha.1.no hf;rw [he];have hc:(expF F x).x.yp0=false:=(Ex.wsm _).2 (fun y hy=>(hV y hy).2.1);have hsh:(expF F x).x.shaped=true:=(Ex.xty _).2 (fun y hy=>(hV y hy).1);have hr:z7n (expF F x).x=true:=(yqj _).2 ⟨n3,n4,hsh⟩;refine ⟨((Ex.v19 (expF F x).x 250 24).1).2 ⟨by omega,by omega⟩,fun h'=>absurd rfl h',fun _=>⟨?_,hc,hr,hV,?_⟩⟩
   . have hk2:kn F (expF F x).x:=fun y hy h3=>absurd h3 ((hV y hy).2.1)
     have hp:expF F (expF F x).x=⟨(expF F x).x,(expF F x).x.sz,(expF F x).x.dp,false⟩:=ztv _ hc n3 n4;rw [vdr hv hr hk2 (by rw [hp]),hp]
   . cases hxc:x.yp0 with
     | true=>exact .inl rfl
     | false=>
      right
      have hp:expF F x=⟨x,x.sz,x.dp,false⟩:=ztv _ hxc hx'.1 hx'.2.1;rw [hp]
 . have hz:(yc3 F x).1=Ex.zero/\(x.yp0=true\/z7n x=false\/wa2 F≠0):=by
    cases h1:z7n x with
    | false=>unfold yc3;rw [h1];exact ⟨rfl,.inr (.inl rfl)⟩
    | true=>
    by_cases h2:wa2 F=0
    . cases hc:x.yp0 with
      | true=>
       refine ⟨?_,.inl rfl⟩;unfold yc3 at h ⊢;rw [h1,decide_eq_true h2] at h ⊢;simp only [Bool.not_true,Bool.or_false,cond_false] at h ⊢
       cases h3:x.anyN (x5q F) with
       | true=>rfl
       | false=>
       cases h4:x.anyN (zs3 F) with
       | true=>rfl
       | false=>
       cases h5:(expF F x).full with
       | true=>rfl
       | false=>rw [h3,h4,h5] at h;exact absurd rfl h
      | false=>
       exfalso;have hx':=(yqj x).1 h1;have hp:expF F x=⟨x,x.sz,x.dp,false⟩:=ztv _ hc hx'.1 hx'.2.1;rw [vdr (y5o.1 h2) h1 (fun y hy h3=>absurd h3 ((Ex.wsm _).1 hc y hy)) (by rw [hp])] at h;exact h rfl
    . unfold yc3;rw [decide_eq_false h2,Bool.not_false,Bool.or_true];exact ⟨rfl,.inr (.inr h2)⟩
   refine ⟨?_,fun _=>hz,fun h'=>absurd h' h⟩;rw [hz.1];exact ((Ex.v19 _ 250 24).1).2 (by decide)
end Go.Hp.T
namespace Go.Hp.T
open Go Go.RowKit Go.Slot Go.Hp Go.Slot.T
open Go.Proofs.Tryz (prog)
attribute [local irreducible] hide RH
set_option maxRecDepth 10000
set_option maxHeartbeats 8000000
variable {Γ:List (Nat×List Cell)}
theorem yn8 {F:List Fnc} (hF:F.length<=1073741824) (hS:∀ f∈F,f.Sm) (hkn:∀ i,i<F.length->∀ y,Ex.Nd y (F.getD i default).body->y.op=3->0<=findF F y.name) :
 ∀(k:Nat) (st:List Int) (i:Int),st.length=F.length->wlq st<k->0<=i->i.toNat<F.length->
 xgj Γ prog 32 [crB F F.length,stB st] [.one (.ptr 0 0),.one (.dat (cI i))] [crB F F.length,stB (thrF F k st i).1] (.one (.dat (cB (thrF F k st i).2)))
 | 0,_,_,_,hk,_,_=>by omega
 | k + 1, st, i, hl, hk, h0, hi => by
  have hb:=(hS _ (xdq hi)).b
  have hil:i.toNat<st.length:=by omega
  have hs1:(st.set i.toNat 1).length=F.length:=by simpa using hl
  have hg:∀ y,Ex.Nd y (F.getD i.toNat default).body->∀ t:List Int,(t.length=F.length/\wlq t<k)->((thrG F k t y).1.length=F.length/\wlq (thrG F k t y).1<k)/\
   xgj Γ prog 55 (thB F F.length t) [.agg ((exC y).map .dat),.one (.ptr 2 0)] (thB F F.length (thrG F k t y).1) (.one (.dat (cB (thrG F k t y).2))):=fun y hy t ht=>by
   have hz:=hkn _ hi y hy;unfold thrG;by_cases h3:y.op=3
   . have hj:=hz h3;have hkeep:=zqj F k t (findF F y.name);have hc:=yn8 hF hS hkn k t (findF F y.name) ht.1 ht.2 hj (x4n hi _);have hf:=vzr (Γ:=Γ) F y.name hF;have d3:decide (y.op=3)=true:=decide_eq_true h3;rw [d3,cond_true];refine ⟨⟨hkeep.1.trans ht.1,Nat.lt_of_le_of_lt hkeep.2 ht.2⟩,?_⟩;generalize findF F y.name=j at *;generalize (thrF F k t j).1=t2 at *;generalize (thrF F k t j).2=b at *;clear h3 hkeep hz hl hk ht hb hil hs1 hi;refine xgj.run [] Go.Proofs.Tryz.func55 rfl rfl ?_;simp only [Go.Proofs.Tryz.f55];refine hgR ?_
     repeat' ((first | refine hfk ?_ ?_<;>intros | refine hik ?_ | with_reducible first | refine v47 (hf) ?_ | refine vrf (hf) ?_)<;>refine hgS ?_)
     refine vfx [0,1] [(1,stB t2)] hc (by rfl) (by decide) (by rfl) (by rfl) (by rfl) (by rfl) ?_;clear hc;refine hg ?_
     repeat' ((first | refine hfk ?_ ?_<;>intros | refine hik ?_)<;>refine hgS ?_)
     all_goals first
      | exact StH.done 4 rfl (by kernel_rfl) rfl rfl
      | (exfalso;simp_all;done)
   . have d3:decide (y.op=3)=false:=decide_eq_false h3;rw [d3,cond_false];refine ⟨ht,?_⟩;clear h3 hz hl hk hb hil hs1 hi;refine xgj.run [] Go.Proofs.Tryz.func55 rfl rfl ?_;simp only [Go.Proofs.Tryz.f55];refine hgR ?_
     repeat' ((first | refine hfk ?_ ?_<;>intros | refine hik ?_)<;>refine hgS ?_)
     all_goals first
      | exact StH.done 4 rfl (by kernel_rfl) rfl rfl
      | (exfalso;simp_all;done)
  rw [thrF];by_cases hz:st.getD i.toNat 0=0
  . have hz1:=wqn (v:=1) (by decide) hil hz;obtain ⟨hI,hc⟩:=wh1 (Γ:=Γ) (F:=F) (n:=F.length) (g:=thrG F k) (I:=fun t=>t.length=F.length/\wlq t<k) (F.getD i.toNat default).body hb hg (st.set i.toNat 1) ⟨hs1,by omega⟩;have hgd:st.getD i.toNat default=0:=hz;rw [decide_eq_true hz];simp only [Bool.not_true,cond_false];change xgj Γ prog _ _ _ [crB F F.length,stB ((((F.getD i.toNat default).body.anyS (thrG F k) (st.set i.toNat 1)).1).set i.toNat 2)] (.one (.dat (cB ((F.getD i.toNat default).body.anyS (thrG F k) (st.set i.toNat 1)).2)));have hl2:=hI.1;clear hg hI hz1 hb hk;generalize ((F.getD i.toNat default).body.anyS (thrG F k) (st.set i.toNat 1)).1=t2 at *;generalize ((F.getD i.toNat default).body.anyS (thrG F k) (st.set i.toNat 1)).2=b at *;refine xgj.run [(4,[.clo])] Go.Proofs.Tryz.func32 rfl rfl ?_;simp only [Go.Proofs.Tryz.f32];refine hgR ?_;refine hg3 @hz @hl @hgd ?_
    repeat' ((first | refine hfk ?_ ?_<;>intros | refine hik ?_)<;>refine hgS ?_)
    . exfalso;simp_all;done
    refine wq6 hc ?_;clear hc;refine hg1 @hl2 ?_
    repeat' ((first | refine hfk ?_ ?_<;>intros | refine hik ?_)<;>refine hgS ?_)
    exact StH.done 2 rfl (by kernel_rfl) rfl rfl
  . have hgd:¬st.getD i.toNat default=0:=hz;have hsame:st.getD i.toNat 0=st.getD i.toNat default:=rfl;rw [decide_eq_false hz];simp only [Bool.not_false,cond_true];rw [hsame];clear hz hk hkn hS hF hsame;refine xgj.run [(4,[.clo])] Go.Proofs.Tryz.func32 rfl rfl ?_;simp only [Go.Proofs.Tryz.f32];refine hgR ?_;refine hg1 @hl ?_
    repeat' ((first | refine hfk ?_ ?_<;>intros | refine hik ?_)<;>refine hgS ?_)
    all_goals first
     | exact StH.done 2 rfl (by kernel_rfl) rfl rfl
     | (exfalso;simp_all;done)
theorem vee (F:List Fnc) (hF:F.length<=1073741824) (hS:∀ f∈F,f.Sm):CallsD Γ prog 14 [.one (.sl 7 (F.map Fnc.C))] (.one (cI (wa2 F))):=by
 unfold wa2;by_cases h100:100<(F.length:Int)
 . rw [decide_eq_true h100];have d1:decide (100<(F.length:Int))=true:=decide_eq_true h100;clear hS;refine CallsD.run [] Go.Proofs.Tryz.func14 rfl rfl rfl ?_;simp only [Go.Proofs.Tryz.f14];refine hgR ?_;refine hg1 @d1 ?_
   repeat' ((first | refine hfk ?_ ?_<;>intros | refine hik ?_)<;>refine hgS ?_)
   all_goals first
    | exact RLe.ofEq rfl
    | (exfalso;simp_all;done)
 rw [decide_eq_false h100];simp only [cond_false];have e1:w1r F (F.length-0) 0=w1r F F.length 0:=rfl;have hE:=(ysa (F:=F) F.length 0).1
 have hkn:w1r F F.length 0=0->∀ i,i<F.length->∀ y,Ex.Nd y (F.getD i default).body->y.op=3->0<=findF F y.name:=fun h i hi y hy h3=>((wgw.1 (hE h i (Nat.zero_le _) (by omega))).kn y hy h3).1
 have hgo:∀ r:Int,w1r F F.length 0=r->CallsD Γ prog 14 [.one (.sl 7 (F.map Fnc.C))] (.one (cI (bif !decide (r=0) then r else bif y38 F F.length 0 (List.replicate F.length 0) then 23 else 0))):=by
  intro r hr;rw [hr] at e1 hkn;refine CallsD.run [] Go.Proofs.Tryz.func14 rfl rfl rfl ?_;simp only [Go.Proofs.Tryz.f14];refine hgR ?_
  repeat' ((first | refine hfk ?_ ?_<;>intros | refine hik ?_)<;>refine hgS ?_)
  . exfalso;simp_all;done
  refine yxw [0,11] (fun i:Nat=>[(12,.one (.dat (cI i)))]) (fun _=>[]) (fun i=>i<=F.length/\w1r F (F.length-i) i=r) (fun i=>F.length-i) 0 ⟨Nat.zero_le _,e1⟩ ?_ ?_
  . refine hg ?_;exact StH.same svl rfl
  intro i hi;obtain ⟨hi,hc⟩:=hi;refine hg ?_;refine xw4 (fun hlt _=>?_) (fun hlt _=>?_)
  . have hlt':i<F.length:=by omega
    have a1:=wyt (Γ:=Γ) F i hF hS hlt';rw [show F.length-i=F.length-(i+1)+1 by omega,w1r] at hc;generalize yum F i=e at *;refine hg ?_
    repeat' ((first | refine hfk ?_ ?_<;>intros | refine hik ?_ | with_reducible first | refine v47 (a1) ?_ | refine vrf (a1) ?_)<;>refine hgS ?_)
    . rename_i he
      have he':¬e=0:=by simpa using he
      rw [decide_eq_false he'] at hc;simp only [Bool.not_false,cond_true] at hc;rw [<-hc];simp only [he',not_false_eq_true,decide_true,cond_true];exact RLe.ofEq rfl
    . rename_i he
      have he':e=0:=by simpa using he
      rw [decide_eq_true he'] at hc;exact ⟨i+1,⟨by omega,hc⟩,by omega,StH.same svl rfl⟩
  . have er:r=0:=by
     rw [show F.length-i=0 by omega,w1r] at hc;exact hc.symm
    subst er;have hkn:=hkn rfl;obtain ⟨R,hR⟩:∃ R,y38 F F.length 0 (List.replicate F.length 0)=R:=⟨_,rfl⟩;rw [hR];have e2:y38 F (F.length-0) 0 (List.replicate F.length 0)=R:=hR;clear hc e1 hr hE hR;refine hg ?_;refine yxw [0,5,29] (fun p:Nat×List Int=>[(30,.one (.dat (cI p.1)))]) (fun p=>[stB p.2,.box [.dat (.sl 7 (F.map Fnc.C)),.sl 0 1 0 F.length] (some 81)])
     (fun p=>p.1<=F.length/\p.2.length=F.length/\y38 F (F.length-p.1) p.1 p.2=R) (fun p=>F.length-p.1) (0,List.replicate F.length 0) ⟨Nat.zero_le _,by simp,e2⟩ ?_ ?_
    . refine hg ?_;exact StH.same svl rfl
    rintro ⟨i,st⟩ ⟨hi,hl,hc⟩;dsimp only at hi hl hc;clear e2;refine hg ?_;refine xw4 (fun hlt _=>?_) (fun hlt _=>?_)
    . have hlt':i<F.length:=by omega
      rw [show F.length-i=F.length-(i+1)+1 by omega,y38] at hc
      have hzz:wlq st<F.length+1:=by
       have:=List.countP_le_length (p:=fun s:Int=>decide (s=0)) (l:=st)
       rw [hl] at this;exact Nat.lt_succ_of_le this
      have ht:=yn8 (Γ:=Γ) hF hS hkn (F.length+1) st i hl hzz (by omega) (by omega);have hk:=(zqj F (F.length+1) st i).1;generalize (thrF F (F.length+1) st i).1=st2 at *;generalize (thrF F (F.length+1) st i).2=b at *;refine hg ?_
      repeat' ((first | refine hfk ?_ ?_<;>intros | refine hik ?_)<;>refine hgS ?_)
      refine xmn [1,0] ht rfl (by decide) rfl rfl rfl ?_;clear ht
      cases b with
      | true=>
       refine hg ?_
       repeat' ((first | refine hfk ?_ ?_<;>intros | refine hik ?_)<;>refine hgS ?_)
       rw [<-hc];exact RLe.ofEq rfl
      | false=>
       refine hg ?_
       repeat' ((first | refine hfk ?_ ?_<;>intros | refine hik ?_)<;>refine hgS ?_)
       exact ⟨(i+1,st2),⟨by dsimp only;omega,hk.trans hl,hc⟩,by dsimp only;omega,StH.same svl rfl⟩
    . rw [show F.length-i=0 by omega,y38] at hc;rw [<-hc];refine hg ?_
      repeat' ((first | refine hfk ?_ ?_<;>intros | refine hik ?_)<;>refine hgS ?_)
      exact RLe.ofEq rfl
 exact hgo _ rfl
end Go.Hp.T
namespace Go.Hp
open Go Go.RowKit Go.Slot
variable {P:Program} {Γ:List (Nat×List Cell)}
theorem HRL.setF {η:List SB} {ρ:Nat->Value} {M:Nat->Nat->Prop} {w:World} {h h':HC} (H:∀ v,HRd η ρ M w v h->HRd η ρ M w v h'):∀{vs:List Value} {hs:List HC} (f:Nat),HRL η ρ M w vs hs->hs[f]? = some h->HRL η ρ M w vs (hs.set f h')
 | [],[],_,_,hf=>by simp at hf
 | v::vs,x::hs,0,hr,hf=>by
  simp at hf;subst hf;exact ⟨H v hr.1,hr.2⟩
 | v::vs,x::hs,f+1,hr,hf=>⟨hr.1,HRL.setF H f hr.2 (by simpa using hf)⟩
theorem StH.zoa {e:List SB} {σ:List SV} {η:List SB} (b f:Nat) {hs:List HC} {T':Option TypeId} {c0 c:Cell} {es:Nat} {T:Option TypeId} (hb:η[b]? = some (.box hs T')) (hf:hs[f]? = some (.dat c0)) (hz:isZc c0=true) (hu:c.uni) (hc:c.cnt=0) :
 StH Γ e σ η σ ((η++[SB.arr c 0 T]).set b (.box (hs.set f (.sl η.length es 0 0)) T')):=fun E ρ a w _ hR=>by
 have h1:=hR.go (Went.extend hR.inv 1)
 have hfr:(η++[SB.fresh])[η.length]? = some .fresh:=by simp
 have hw:=Went.new h1.inv (znd w) hfr (v:=.pointer none) (x:=.arr c 0 T) (by simp) (fun _ hr=>absurd rfl hr) (fun m=>⟨⟨hu,Nat.zero_le _⟩,.inl ⟨hc,rfl⟩⟩);have h2:=h1.go hw;rw [show (η++List.replicate 1 SB.fresh).set η.length (.arr c 0 T)=η++[.arr c 0 T] by simp] at h2;have hlt:b<η.length:=(List.getElem?_eq_some_iff.1 hb).1
 have hb2:(η++[SB.arr c 0 T])[b]? = some (.box hs T'):=by rw [List.getElem?_append_left hlt];exact hb
 have hblk:=h2.inv.blk b _ hb2;refine ⟨upd ρ η.length (.pointer none),h2.go (Went.less h2.inv hb2 (by simp) (fun _=>rfl) (fun o h=>h) (fun m=>?_))⟩;obtain ⟨bb,vs,T0,e,hh,hr,ht⟩:=hblk.mv m (fun _ _=>rfl);refine ⟨bb,vs,T0,e,hh,HRL.setF (fun v hv=>?_) f hr hf,ht⟩;obtain ⟨ad,hv'⟩:=vwb (τ:=fun _=>⟨Go.undef,0⟩) hz (RdT.of (show RdC _ w v c0 from hv));exact ⟨zux (by simp) ⟨.arr c 0 T,by simp,by simp⟩,ad,0,hv',Nat.le_refl _,fun h=>absurd rfl h⟩
end Go.Hp
namespace Go.Hp.T
open Go Go.RowKit Go.Slot Go.Hp Go.Slot.T
open Go.Proofs.Tryz (prog)
attribute [local irreducible] hide RH
set_option maxRecDepth 10000
set_option maxHeartbeats 8000000
variable {Γ:List (Nat×List Cell)}
theorem Wh.ok.bnd {w:Wh} (h:w.ok):(0<=w.nodes/\w.nodes<=200)/\(0<=w.levels/\w.levels<=20):=by
 rcases h with h | ⟨_,h1,h2,h3,h4⟩
 . rw [h];exact ⟨by decide,by decide⟩
 . have:=Ex.vkb w.x
   have:=Ex.wli w.x
   omega
theorem vii:AV.Le (.agg [cI 0,cI 0,cS ⟨#[]⟩,cS ⟨#[]⟩,.zc,cI 0,cI 0,cB true]) (.agg (whC Wh.none)):=
 .agg (.cons (.refl _) (.cons (.refl _) (.cons (.refl _) (.cons (.refl _) (.cons (.zcSl _) (.cons (.refl _) (.cons (.refl _) (.cons (.refl _) .nil))))))))
abbrev wZ:List HC:=[.dat (cI 0),.dat (cI 0),.dat (cS ⟨#[]⟩),.dat (cS ⟨#[]⟩),.dat .zc,.dat (cI 0),.dat (cI 0),.dat (cB false)]
theorem xqd (x:Ex) (ws:List Wh) (hl:ws.length<=1073741824) (hw:∀ w∈ws,w.ok):CallsD Γ prog 45 [.agg (exC x),.one (.sl 8 (ws.map Wh.C))] (.agg (whC (xi7 x ws))):=by
 have e0:vd1 x ws 1 1 []=xi7 x ws:=rfl;generalize xi7 x ws=R at *;refine CallsD.run [] Go.Proofs.Tryz.func45 rfl rfl rfl ?_;simp only [Go.Proofs.Tryz.f45];refine hgR ?_;refine yxw [1,2,4,5,10,11] (fun p:Nat×Int×Int×List Ex=>[(12,.one (.dat (cI p.1)))])
  (fun p=>[.box [.dat (cI x.op),.dat (cI x.n),.dat (cS x.unit),.dat (cS x.name),.sl 3 5 0 p.2.2.2.length] (some 25),.box wZ (some 71),.box [.dat (cI 0),.dat (cI 0),.dat (cS ⟨#[]⟩),.dat (cS ⟨#[]⟩),.dat .zc,.dat (cI p.2.1),.dat (cI p.2.2.1),.dat (cB false)] (some 71),.arr (.sl 5 (p.2.2.2.map Ex.cells)) 0 (some 25)])
  (fun p=>p.1<=ws.length/\(0<=p.2.1/\p.2.1<=200)/\(0<=p.2.2.1/\p.2.2.1<=20)/\p.2.2.2.length=p.1/\vd1 x (ws.drop p.1) p.2.1 p.2.2.1 p.2.2.2=R) (fun p=>ws.length-p.1) (0,1,1,[]) ⟨Nat.zero_le _,⟨by decide,by decide⟩,⟨by decide,by decide⟩,rfl,e0⟩ ?_ ?_
 . refine hg ?_;refine StH.trans (StH.zoa 0 4 (es:=5) (c:=.sl 5 []) (T:=some 25) rfl rfl rfl (fun r hr=>by cases hr) rfl) ?_;refine hg ?_;exact StH.same svl rfl
 rintro ⟨i,n,lv,l⟩ ⟨hi,hn,hlv,hll,hc⟩;dsimp only at hi hn hlv hll hc;clear e0;refine hg ?_;refine xw4 (fun hlt _=>?_) (fun hlt _=>?_)
 . have hlt':i<ws.length:=by omega
   have hb:=(hw _ (xdq hlt')).bnd;rw [wde hlt',vd1] at hc
   have hlen:l.length+1<=9223372036854775807:=by omega
   refine hg ?_
   repeat' ((first | refine hfk ?_ ?_<;>intros | refine hik ?_)<;>refine hgS ?_)
   case refine_2.refine_1.refine_1.refine_1.refine_2=>
    simp only [*] at hc;refine ⟨(i+1,n+(ws.getD i default).nodes,max lv ((ws.getD i default).levels+1),l++[(ws.getD i default).x]),⟨by dsimp only;omega,by dsimp only;omega,by dsimp only;omega,by simp [hll],hc⟩,by dsimp only;omega,?_⟩;refine StH.back [1,2,4,5,10,11,12] 3 5 4 rfl rfl rfl rfl rfl (by kernel_rfl) ?_;simp only [List.map_append,List.map_cons,List.map_nil]
    conv=>simp (maxSteps:=2000000) (disch:=omega) only [go_sem,Nat.reduceAdd,Nat.reduceSub,Nat.reduceMul,Int.reduceToNat,Nat.reduceEqDiff,Nat.reduceBEq,Nat.reduceBneDiff,Nat.reduceLT,Int.reduceEq,Int.reduceLT,Int.reduceLE,Int.reduceNeg,Int.reduceAdd,Int.reduceSub,Int.reduceMul,List.length_append,List.length_singleton]
    exact StH.same svl rfl
   all_goals
    have e:R=Wh.none:=by rw [<-hc];simp only [*,Bool.true_or,Bool.or_true,Bool.or_false,cond_true,decide_true,decide_false]
    rw [e];exact .one vii
 . rw [List.drop_eq_nil_of_le (by omega),vd1] at hc;rw [<-hc];refine hg ?_
   repeat' ((first | refine hfk ?_ ?_<;>intros | refine hik ?_)<;>refine hgS ?_)
   exact RLe.ofEq rfl
theorem wzq {f:Fnc} {args:List Wh}:∀{l:List Ex} {i:Nat},i<l.length->(∀ j,j<i->(putF f args (l.getD j default)).full=false)->(putF f args (l.getD i default)).full=true->yda f args l=.inl (putF f args (l.getD i default))
 | [],i,h,_,_=>by simp at h
 | y::l,0,_,_,hf=>by
  rw [List.getD_cons_zero] at hf ⊢;rw [yda,hf]
 | y::l,i+1,h,hb,hf=>by
  rw [List.getD_cons_succ] at hf ⊢;have h0:=hb 0 (by omega);rw [List.getD_cons_zero] at h0
  have:=wzq (l:=l) (i:=i) (by simpa using h) (fun j hj=>by have:=hb (j+1) (by omega);rwa [List.getD_cons_succ] at this) hf
  rw [yda,h0,this]
theorem yec {f:Fnc} {args:List Wh}:∀{l:List Ex},(∀ j,j<l.length->(putF f args (l.getD j default)).full=false)->yda f args l=.inr (l.map (putF f args))
 | [],_=>by rw [yda];rfl
 | y::l,h=>by
  have h0:=h 0 (by simp);rw [List.getD_cons_zero] at h0
  have:=yec (l:=l) (fun j hj=>by have:=h (j+1) (by simpa using hj);rwa [List.getD_cons_succ] at this)
  rw [yda,h0,this];rfl
theorem cPut (f:Fnc) (hf:f.Sm) (args:List Wh) (_hal:args.length<=1073741824) (ha:∀ w∈args,w.ok):∀ b:Ex,b.Sm->(∀ y,Ex.Nd y b->y.op=1->0<=wcs f y.name/\(wcs f y.name).toNat<args.length)->
 CallsD Γ prog 47 [.agg (exC b),.agg (fncC f),.one (.sl 8 (args.map Wh.C))] (.agg (whC (putF f args b))):=by
 refine Ex.ind (fun b ih hb hn=>?_);have hl:=hb.len;by_cases h1:b.op=1
 . obtain ⟨h0,hi⟩:=hn b .here h1;have a1:=yqi (Γ:=Γ) f b.name hf;have d1:decide (b.op=1)=true:=decide_eq_true h1;rw [vvr,d1,cond_true];generalize wcs f b.name=j at *;clear h1 ih hn;refine CallsD.run [] Go.Proofs.Tryz.func47 rfl rfl rfl ?_;simp only [Go.Proofs.Tryz.f47];refine hgR ?_
   repeat' ((first | refine hfk ?_ ?_<;>intros | refine hik ?_ | with_reducible first | refine v47 (a1) ?_ | refine vrf (a1) ?_)<;>refine hgS ?_)
   all_goals first
    | exact RLe.ofEq rfl
    | (exfalso;simp_all;done)
 . have d1:decide (b.op=1)=false:=decide_eq_false h1
   have hok:∀ y∈b.args,(putF f args y).ok:=fun y hy=>(wuk (V:=fun _=>True) (fun _ _ _ _=>trivial) ha (fun _ _ _ _ _=>trivial) y (fun _ _ _=>trivial) (fun z hz h1=>(hn z (.arg hy hz) h1).2)).1
   have z1o:=xqd (Γ:=Γ) b (b.args.map (putF f args)) (by simpa using hl) (fun w hw=>by
    obtain ⟨y,hy,rfl⟩:=List.mem_map.1 hw
    exact hok y hy)
   have hc:∀ i,i<b.args.length->CallsD Γ prog 47 [.agg (exC (b.args.getD i default)),.agg (fncC f),.one (.sl 8 (args.map Wh.C))] (.agg (whC (putF f args (b.args.getD i default)))):=fun i hi=>ih _ (xdq hi) (hb.arg _ (xdq hi)) (fun z hz=>hn z (.arg (xdq hi) hz))
   rw [vvr,d1,cond_false];clear ih hn hok h1;refine CallsD.run [] Go.Proofs.Tryz.func47 rfl rfl rfl ?_;simp only [Go.Proofs.Tryz.f47];refine hgR ?_
   repeat' ((first | refine hfk ?_ ?_<;>intros | refine hik ?_)<;>refine hgS ?_)
   . exfalso;simp_all;done
   refine yxw [2,3,4,6,22,23] (fun p:Nat×List Wh=>[(7,.one (.sl 3 8 0 p.2.length)),(24,.one (.dat (cI p.1)))])
    (fun p=>[.box ((exC b).map .dat) (some 25),.box ((fncC f).map .dat) (some 38),.box wZ (some 71),.arr (.sl 8 (p.2.map Wh.C)) 0 (some 71)])
    (fun p=>p.1<=b.args.length/\p.2=(b.args.take p.1).map (putF f args)/\∀ j,j<p.1->(putF f args (b.args.getD j default)).full=false) (fun p=>b.args.length-p.1) (0,[]) ⟨Nat.zero_le _,by simp,fun j hj=>by omega⟩ ?_ ?_
   . refine hg ?_;refine StH.trans (StH.empty (d:=7) (es:=8) (c:=.sl 8 []) (T:=some 71) rfl rfl (fun r hr=>by cases hr) rfl) ?_;refine hg ?_;exact StH.same svl rfl
   rintro ⟨i,ws⟩ ⟨hi,hws,hfl⟩;dsimp only at hi hws hfl
   have hwl:ws.length=i:=by rw [hws];simp;omega
   refine hg ?_;refine xw4 (fun hlt _=>?_) (fun hlt _=>?_)
   . have hlt':i<b.args.length:=by omega
     have hci:=hc i hlt';have hat:=wzq (f:=f) (args:=args) hlt' hfl
     have hnx:True->ws++[putF f args (b.args.getD i default)]=(b.args.take (i+1)).map (putF f args):=fun _=>by
      rw [hws,zea hlt',List.map_append];rfl
     generalize hz:putF f args (b.args.getD i default)=z at *
     have hat':True->z.full=true->yda f args b.args=.inl z:=fun _=>hat
     clear hc z1o hws hat;refine hg ?_
     repeat' ((first | refine hfk ?_ ?_<;>intros | refine hik ?_ | with_reducible first | refine v47 (hci) ?_ | refine vrf (hci) ?_)<;>refine hgS ?_)
     . rename_i hzf;rw [hat' trivial hzf];exact RLe.ofEq (by simp [whC,hzf])
     . rename_i hzf;refine ⟨(i+1,ws++[z]),⟨by dsimp only;omega,hnx trivial,fun j hj=>?_⟩,by dsimp only;omega,?_⟩
       . rcases Nat.lt_or_eq_of_le (Nat.le_of_lt_succ hj) with h2 | h2
         . exact hfl j h2
         . rw [h2,hz];simpa using hzf
       refine StH.back [2,3,4,6,7,22,23,24] 3 6 4 rfl rfl rfl rfl rfl (by kernel_rfl) ?_;simp only [List.map_append,List.map_cons,List.map_nil]
       conv=>simp (maxSteps:=2000000) (disch:=omega) only [go_sem,Nat.reduceAdd,Nat.reduceSub,Nat.reduceMul,Int.reduceToNat,Nat.reduceEqDiff,Nat.reduceBEq,Nat.reduceBneDiff,Nat.reduceLT,Int.reduceEq,Int.reduceLT,Int.reduceLE,Int.reduceNeg,Int.reduceAdd,Int.reduceSub,Int.reduceMul,List.length_append,List.length_singleton]
       have e:z.full=false:=by simpa using hzf
       exact StH.same svl (by simp only [whC,e];rfl)
   . have ei:i=b.args.length:=by omega
     subst ei;rw [yec hfl];rw [List.take_length] at hws;rw [<-hws] at z1o;simp only;rw [<-hws];clear hc hfl hws;refine hg ?_
     repeat' ((first | refine hfk ?_ ?_<;>intros | refine hik ?_ | with_reducible first | refine v47 (z1o) ?_ | refine vrf (z1o) ?_)<;>refine hgS ?_)
     all_goals exact RLe.ofEq rfl
theorem wdq:∀ x:Ex,x.Sm->CallsD Γ prog 27 [.agg (exC x)] (.agg (exC x)):=by
 refine Ex.ind (fun x ih hx=>?_);have hl:=hx.len
 have hc:∀ i,i<x.args.length->CallsD Γ prog 27 [.agg (exC (x.args.getD i default))] (.agg (exC (x.args.getD i default))):=fun i hi=>ih _ (xdq hi) (hx.arg _ (xdq hi))
 clear ih;refine CallsD.run [] Go.Proofs.Tryz.func27 rfl rfl rfl ?_;simp only [Go.Proofs.Tryz.f27];refine hgR ?_
 repeat' ((first | refine hfk ?_ ?_<;>intros | refine hik ?_)<;>refine hgS ?_)
 refine yxw [1,2,9,10] (fun p:Nat×List Ex=>[(11,.one (.dat (cI p.1)))])
  (fun p=>[.box [.dat (cI x.op),.dat (cI x.n),.dat (cS x.unit),.dat (cS x.name),.sl 2 5 0 p.2.length] (some 25),.box [.dat (cI 0),.dat (cI 0),.dat (cS ⟨#[]⟩),.dat (cS ⟨#[]⟩),.dat .zc] (some 25),.arr (.sl 5 (p.2.map Ex.cells)) 0 (some 25)])
  (fun p=>p.1<=x.args.length/\p.2=x.args.take p.1) (fun p=>x.args.length-p.1) (0,[]) ⟨Nat.zero_le _,by simp⟩ ?_ ?_
 . refine hg ?_;refine StH.trans (StH.zoa 0 4 (es:=5) (c:=.sl 5 []) (T:=some 25) rfl rfl rfl (fun r hr=>by cases hr) rfl) ?_;refine hg ?_;exact StH.same svl rfl
 rintro ⟨i,l⟩ ⟨hi,hls⟩;dsimp only at hi hls
 have hll:l.length=i:=by rw [hls];simp;omega
 refine hg ?_;refine xw4 (fun hlt _=>?_) (fun hlt _=>?_)
 . have hlt':i<x.args.length:=by omega
   have hci:=hc i hlt'
   have hnx:True->l++[x.args.getD i default]=x.args.take (i+1):=fun _=>by rw [hls,zea hlt']
   clear hls hc;refine hg ?_
   repeat' ((first | refine hfk ?_ ?_<;>intros | refine hik ?_ | with_reducible first | refine v47 (hci) ?_ | refine vrf (hci) ?_)<;>refine hgS ?_)
   refine ⟨(i+1,l++[x.args.getD i default]),⟨by dsimp only;omega,hnx trivial⟩,by dsimp only;omega,?_⟩;refine StH.back [1,2,9,10,11] 2 4 3 rfl rfl rfl rfl rfl (by kernel_rfl) ?_;simp only [List.map_append,List.map_cons,List.map_nil]
   conv=>simp (maxSteps:=2000000) (disch:=omega) only [go_sem,Nat.reduceAdd,Nat.reduceSub,Nat.reduceMul,Int.reduceToNat,Nat.reduceEqDiff,Nat.reduceBEq,Nat.reduceBneDiff,Nat.reduceLT,Int.reduceEq,Int.reduceLT,Int.reduceLE,Int.reduceNeg,Int.reduceAdd,Int.reduceSub,Int.reduceMul,List.length_append,List.length_singleton]
   exact StH.same svl rfl
 . have ei:i=x.args.length:=by omega
   subst ei;rw [List.take_length] at hls;subst hls;refine hg ?_
   repeat' ((first | refine hfk ?_ ?_<;>intros | refine hik ?_)<;>refine hgS ?_)
   exact RLe.ofEq rfl
end Go.Hp.T
