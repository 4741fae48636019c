/- The proof, part Z28: 1d, 1e, 1f, 1g, Iy. -/
import Derived.Test.YtocdljjhobaabaaGreatDoorZ27
import Derived.Test.YtocdljjhobaabaaGreatDoorZ19
import Derived.Test.YtocdljjhobaabaaGreatDoorZ26
namespace Go.Hp.T
open Go Go.RowKit Go.Slot Go.Hp Go.Slot.T
set_option maxRecDepth 10000
def Ex.allV (V:Ex->Prop) (x:Ex):Prop:=∀ y,Ex.Nd y x->V y
theorem Ex.vq2 (x:Ex):x.withArgs x.args=x:=by cases x;rfl
theorem Ex.z1p (x:Ex) (l:List Ex):(x.withArgs l).args=l:=rfl
theorem Ex.Nd.trans {x y z:Ex} (h:Ex.Nd x y) (h2:Ex.Nd y z):Ex.Nd x z:=by
 induction h2 with
 | here=>exact h
 | arg hz _ ih=>exact .arg hz ih
theorem Ex.ykf {V:Ex->Prop} (hV:∀ y l,l.length=y.args.length->V y->V (y.withArgs l)) {x:Ex} (hx:V x) {ws:List Wh} (hok:∀ w∈ws,w.ok) (hl:ws.length=x.args.length)
 (hw:∀ w∈ws,w.full=false->w.x.allV V) (hf:(xi7 x ws).full=false):(xi7 x ws).x.allV V:=by
 rcases ygy x ws hok with ⟨h1,h2⟩ | ⟨_,h2⟩
 . rw [h2];intro z hz
   cases hz with
   | here=>exact hV _ _ (by simpa using hl) hx
   | arg hm hz=>
    obtain ⟨w,hw1,rfl⟩:=List.mem_map.1 hm;exact hw w hw1 (h1.1 w hw1) z hz
 . rw [h2] at hf;cases hf
theorem xez {f:Fnc} {args:List Wh}:∀{l:List Ex} {ws:List Wh},yda f args l=.inr ws->ws=l.map (putF f args)/\∀ y∈l,(putF f args y).full=false
 | [],ws,h=>by rw [yda] at h;cases h;exact ⟨rfl,fun _ h=>by cases h⟩
 | y::l,ws,h=>by
  rw [yda] at h
  cases hf:(putF f args y).full with
  | true=>rw [hf] at h;cases h
  | false=>
   rw [hf] at h;simp only at h
   cases hr:yda f args l with
   | inl z=>rw [hr] at h;cases h
   | inr ws'=>
    rw [hr] at h
    cases h;obtain ⟨a,b⟩:=xez hr;refine ⟨by rw [a];rfl,fun z hz=>?_⟩
    rcases List.mem_cons.1 hz with e | e
    . rw [e];exact hf
    . exact b z e
theorem wj6 {f:Fnc} {args:List Wh}:∀{l:List Ex} {z:Wh},yda f args l=.inl z->∃ y∈l,z=putF f args y/\z.full=true
 | [],z,h=>by rw [yda] at h;cases h
 | y::l,z,h=>by
  rw [yda] at h
  cases hf:(putF f args y).full with
  | true=>rw [hf] at h;cases h;exact ⟨y,by simp,rfl,hf⟩
  | false=>
   rw [hf] at h;simp only at h
   cases hr:yda f args l with
   | inr ws'=>rw [hr] at h;cases h
   | inl z'=>
    rw [hr] at h
    cases h;obtain ⟨y',h1,h2⟩:=wj6 hr;exact ⟨y',List.mem_cons_of_mem _ h1,h2⟩
theorem ve0 {args:List Wh} (ha:∀ w∈args,w.ok) {i:Nat} (hi:i<args.length):(args.getD i default).ok:=ha _ (xdq hi)
theorem wuk {V:Ex->Prop} (hV:∀ y l,l.length=y.args.length->V y->V (y.withArgs l)) {f:Fnc} {args:List Wh} (ha:∀ w∈args,w.ok) (haV:∀ w∈args,w.full=false->w.x.allV V) :
 ∀ x:Ex,(∀ y,Ex.Nd y x->y.op≠1->V y)->(∀ y,Ex.Nd y x->y.op=1->(wcs f y.name).toNat<args.length)->(putF f args x).ok/\((putF f args x).full=false->(putF f args x).x.allV V):=by
 refine Ex.ind (fun x ih hx hn=>?_);rw [vvr];by_cases h1:x.op=1
 . rw [decide_eq_true h1];have hi:=hn x .here h1;exact ⟨ve0 ha hi,haV _ (xdq hi)⟩
 . rw [decide_eq_false h1];simp only [cond_false]
   have ih':=fun y hy=>ih y hy (fun z hz=>hx z (.arg hy hz)) (fun z hz=>hn z (.arg hy hz))
   cases hr:yda f args x.args with
   | inl z=>
    obtain ⟨y,hy,rfl,hz⟩:=wj6 hr;exact ⟨(ih' y hy).1,fun h=>by simp only at h;rw [hz] at h;cases h⟩
   | inr ws=>
    obtain ⟨rfl,hf⟩:=xez hr
    have hok:∀ w∈x.args.map (putF f args),w.ok:=fun w hw=>by
     obtain ⟨y,hy,rfl⟩:=List.mem_map.1 hw;exact (ih' y hy).1
    refine ⟨xeh _ _ hok,fun h=>Ex.ykf hV (hx x .here h1) hok (by simp) (fun w hw hwf=>?_) h⟩;obtain ⟨y,hy,rfl⟩:=List.mem_map.1 hw;exact (ih' y hy).2 hwf
def kn (F:List Fnc) (x:Ex):Prop:=∀ y,Ex.Nd y x->y.op=3->0<=findF F y.name/\y.args.length=(F.getD (findF F y.name).toNat default).params.length
theorem kn.arg {F:List Fnc} {x y:Ex} (h:kn F x) (hy:y∈x.args):kn F y:=fun z hz=>h z (.arg hy hz)
theorem vb3 {V:Ex->Prop} (hV:∀ y l,l.length=y.args.length->V y->V (y.withArgs l)) {F:List Fnc} {B:Nat->Wh} :
 ∀ x:Ex,(∀ y,Ex.Nd y x->y.op≠3->V y)->(∀ y,Ex.Nd y x->y.op=3->(B (findF F y.name).toNat).full=false->∀ z,Ex.Nd z (B (findF F y.name).toNat).x->(z.op≠1->V z)/\(z.op=1->(wcs (F.getD (findF F y.name).toNat default) z.name).toNat<y.args.length))->
 (expG F B x).ok/\((expG F B x).full=false->(expG F B x).x.allV V):=by
 refine Ex.ind (fun x ih hx hB=>?_)
 have ih':=fun y hy=>ih y hy (fun z hz=>hx z (.arg hy hz)) (fun z hz=>hB z (.arg hy hz))
 have hok:∀ w∈x.args.map (expG F B),w.ok:=fun w hw=>by
  obtain ⟨y,hy,rfl⟩:=List.mem_map.1 hw;exact (ih' y hy).1
 have hall:∀ w∈x.args.map (expG F B),w.full=false->w.x.allV V:=fun w hw hwf=>by
  obtain ⟨y,hy,rfl⟩:=List.mem_map.1 hw;exact (ih' y hy).2 hwf
 rw [wpu];by_cases h3:x.op=3
 . rw [decide_eq_true h3];simp only [Bool.not_true,cond_false];have hb:=hB x .here h3
   cases hf:(B (findF F x.name).toNat).full with
   | true=>exact ⟨Wh.ok_none,fun h=>by cases h⟩
   | false=>
    simp only [Bool.not_false,cond_true];exact wuk hV hok hall _ (fun y hy=>(hb hf y hy).1) (fun y hy h1=>by rw [List.length_map];exact (hb hf y hy).2 h1)
 . rw [decide_eq_false h3];simp only [Bool.not_false,cond_true];exact ⟨xeh _ _ hok,fun h=>Ex.ykf hV (hx x .here h3) hok (by simp) hall h⟩
theorem wi6 {F:List Fnc} {B B':Nat->Wh}:∀ x:Ex,(∀ y,Ex.Nd y x->y.op=3->B (findF F y.name).toNat=B' (findF F y.name).toNat)->expG F B x=expG F B' x:=by
 refine Ex.ind (fun x ih h=>?_);have hm:x.args.map (expG F B)=x.args.map (expG F B'):=List.map_congr_left (fun y hy=>ih y hy (fun z hz=>h z (.arg hy hz)));rw [wpu,wpu,hm];by_cases h3:x.op=3
 . rw [decide_eq_true h3,h x .here h3]
 . rw [decide_eq_false h3];rfl
theorem ztv {F:List Fnc} {B:Nat->Wh}:∀ x:Ex,x.yp0=false->x.sz<=200->x.dp<=20->expG F B x=⟨x,x.sz,x.dp,false⟩:=by
 refine Ex.ind (fun x ih hc h1 h2=>?_);rw [Ex.ze7,Bool.or_eq_false_iff] at hc;rw [Ex.zis] at h1;rw [Ex.ynm] at h2
 have hsz:∀{l:List Ex} {y:Ex},y∈l->y.sz<=Ex.szL l/\y.dp<=Ex.dpL l:=by
  intro l
  induction l with
  | nil=>intro y h;cases h
  | cons z l ihl=>
   intro y hy;have a1:=Ex.vhc l;have a2:=Ex.x9a l;have a3:=Ex.vkb z;rw [Ex.szL,Ex.dpL]
   rcases List.mem_cons.1 hy with e | e
   . rw [e];omega
   . have:=ihl e;omega
 have hm:x.args.map (expG F B)=x.args.map (fun y=>(⟨y,y.sz,y.dp,false⟩:Wh)):=List.map_congr_left (fun y hy=>ih y hy (by
  cases e:y.yp0 with
  | false=>rfl
  | true=>rw [List.any_eq_true.2 ⟨y,hy,e⟩] at hc;cases hc.2) (by have:=hsz hy;omega) (by have:=hsz hy;omega))
 have hx:(x.args.map (fun y=>(⟨y,y.sz,y.dp,false⟩:Wh))).map Wh.x=x.args:=by rw [List.map_map];exact List.map_id' _
 rw [wpu,hm,hc.1];simp only [Bool.not_false,cond_true]
 have hok:∀ w∈x.args.map (fun y=>(⟨y,y.sz,y.dp,false⟩:Wh)),w.ok:=fun w hw=>by
  obtain ⟨y,hy,rfl⟩:=List.mem_map.1 hw
  have:=hsz hy
  exact .inr ⟨rfl,rfl,rfl,by show y.sz<=200;omega,by show y.dp<=20;omega⟩
 rcases ygy x _ hok with ⟨_,e⟩ | ⟨e,_⟩
 . rw [e,hx,Ex.vq2]
 . exfalso;refine e ⟨fun w hw=>?_,?_,?_⟩
   . obtain ⟨y,hy,rfl⟩:=List.mem_map.1 hw;rfl
   . rw [hx,Ex.vq2,Ex.zis];exact h1
   . rw [hx,Ex.vq2,Ex.ynm];exact h2
theorem xzn {p q:Nat->Bool}:∀{l:List Nat},(∀ x∈l,p x=true->q x=true)->(∃ x∈l,p x=false/\q x=true)->l.countP p<l.countP q
 | [],_,h=>by obtain ⟨_,h,_⟩:=h;cases h
 | y::l,h,⟨x,hx,h1,h2⟩=>by
  rw [List.countP_cons,List.countP_cons];have hle:l.countP p<=l.countP q:=List.countP_mono_left (fun z hz=>h z (List.mem_cons_of_mem _ hz))
  rcases List.mem_cons.1 hx with e | e
  . subst e;rw [h1,h2];simp;omega
  . have:=xzn (fun z hz=>h z (List.mem_cons_of_mem _ hz)) ⟨x,e,h1,h2⟩
    have hy:=h y (by simp)
    cases hp:p y with
    | false=>simp;omega
    | true=>rw [hy hp];simp;omega
theorem wbz {F:List Fnc} (h:acyc F):∃ r:Nat->Nat,(∀ i,r i<F.length\/F.length<=i)/\∀ i j,x0t F i j->j<F.length->r j<r i:=by
 obtain ⟨r,hr⟩:=h;refine ⟨fun i=>(List.range F.length).countP fun m=>decide (r m<r i),fun i=>?_,fun i j he hj=>?_⟩
 . by_cases hi:i<F.length
   . refine .inl ?_
     have:(List.range F.length).countP (fun m=>decide (r m<r i))<(List.range F.length).countP (fun _=>true):=xzn (fun _ _ _=>rfl) ⟨i,List.mem_range.2 hi,by simp,rfl⟩
     simpa using this
   . exact .inr (Nat.le_of_not_lt hi)
 . have:=hr i (vwd he) j he
   refine xzn (fun x _ hx=>?_) ⟨j,List.mem_range.2 hj,by simp,by simpa using this⟩;simp only [decide_eq_true_eq] at hx ⊢;omega
theorem x3l {F:List Fnc} {i j:Nat} (h:x0t F i j):j<F.length:=by
 have hi:=vwd h;obtain ⟨y,_,_,rfl⟩:=h;exact x4n hi _
theorem voy {F:List Fnc} {r:Nat->Nat} (hr:∀ i j,x0t F i j->j<F.length->r j<r i):∀(k i:Nat),r i<k->vax F (k+1) i=vax F k i
 | 0,_,h=>by omega
 | k+1,i,h=>by
  show expG F (vax F (k+1)) _=expG F (vax F k) _;refine wi6 _ (fun y hy h3=>?_);have he:x0t F i (findF F y.name).toNat:=⟨y,hy,h3,rfl⟩;exact voy hr k _ (by have:=hr _ _ he (x3l he);omega)
abbrev bdF (F:List Fnc) (i:Nat):Wh:=vax F F.length i
theorem xew {F:List Fnc} (h:acyc F) {i:Nat} (hi:i<F.length):bdF F i=expG F (bdF F) (F.getD i default).body:=by
 obtain ⟨r,h1,h2⟩:=wbz h
 have:=voy h2 F.length i (by have:=h1 i;omega)
 exact this.symm
theorem ybr {F:List Fnc} (h:acyc F) {Q:Nat->Prop} (hQ:∀ i,i<F.length->(∀ j,x0t F i j->Q j)->Q i):∀ i,i<F.length->Q i:=by
 obtain ⟨r,hr⟩:=h
 have key:∀ n i,i<F.length->r i<n->Q i:=by
  intro n
  induction n with
  | zero=>intro i _ h;omega
  | succ n ih=>
   intro i hi hn;refine hQ i hi (fun j hj=>ih j (x3l hj) ?_)
   have:=hr i hi j hj
   omega
 exact fun i hi=>key (r i+1) i hi (by omega)
theorem Ex.xty:∀ x:Ex,x.shaped=true↔∀ y,Ex.Nd y x->w7g y=true:=by
 refine Ex.ind (fun x ih=>?_);rw [Ex.vjs,Bool.and_eq_true,List.all_eq_true];constructor
 . rintro ⟨a,b⟩ y hy
   cases hy with
   | here=>exact a
   | arg hz hy=>exact (ih _ hz).1 (b _ hz) y hy
 . intro h;exact ⟨h x .here,fun y hy=>(ih y hy).2 (fun z hz=>h z (.arg hy hz))⟩
theorem Ex.wsm:∀ x:Ex,x.yp0=false↔∀ y,Ex.Nd y x->y.op≠3:=by
 refine Ex.ind (fun x ih=>?_);rw [Ex.ze7,Bool.or_eq_false_iff,decide_eq_false_iff_not];constructor
 . rintro ⟨a,b⟩ y hy
   cases hy with
   | here=>exact a
   | arg hz hy=>
    refine (ih _ hz).1 ?_ y hy;rename_i z
    cases e:z.yp0 with
    | false=>rfl
    | true=>rw [List.any_eq_true.2 ⟨z,hz,e⟩] at b;cases b
 . intro h;refine ⟨h x .here,?_⟩
   cases e:x.args.any Ex.yp0 with
   | false=>rfl
   | true=>
    obtain ⟨z,hz,h2⟩:=List.any_eq_true.1 e;rw [(ih z hz).2 (fun y hy=>h y (.arg hz hy))] at h2
    cases h2
theorem x3i {y:Ex} {l:List Ex} (h:l.length=y.args.length):w7g (y.withArgs l)=w7g y:=by
 cases y;rename_i o n u s m;have e:(l.length:Int)=m.length:=congrArg Int.ofNat h
 have key:∀(a b:Int),a=b->∀(F:Int->Bool),F a=F b:=fun a b e F=>by rw [e]
 exact key l.length m.length e (fun k=>
  bif decide (o=0) then x6w u&&decide (0<=n)&&decide (n<=1099511627776)&&decide (s.size=0)&&decide (k=0) else
  bif decide (¬n=0)||decide (¬u.size=0) then false else
  bif decide (o=1) then isNamed s&&decide (k=0) else
  bif decide (o=2) then isNamed s&&decide (k=1) else
  bif decide (o=3) then isNamed s&&decide (1<=k)&&decide (k<=6) else
  bif decide (o=4) then decide (s.size=0)&&decide (k=1) else
  bif decide (o=5) then decide (s.size=0)&&decide (k=3) else
  bif decide (o=10)||decide (o=11) then decide (s.size=0)&&decide (k=2) else
  isOp o&&decide (s.size=0)&&decide (k=2))
theorem ysa {F : List Fnc} : ∀ n i : Nat, w1r F n i = 0 ↔ ∀ j, i ≤ j → j < i + n → yum F j = 0
 | 0,i=>by rw [w1r];exact ⟨fun _ j h1 h2=>by omega,fun _=>rfl⟩
 | n + 1, i => by
  rw [w1r];by_cases h:yum F i=0
  . rw [decide_eq_true h];simp only [Bool.not_true,cond_false];rw [ysa n (i+1)];constructor
    . intro hh j h1 h2;by_cases e:j=i
      . rw [e];exact h
      . exact hh j (by omega) (by omega)
    . intro hh j h1 h2;exact hh j (by omega) (by omega)
  . rw [decide_eq_false h];simp only [Bool.not_false,cond_true];exact ⟨fun e=>absurd e h,fun hh=>hh i (Nat.le_refl _) (by omega)⟩
structure valid (F:List Fnc):Prop where
 len:F.length<=100
 one:∀ i,i<F.length->yum F i=0
 ac:acyc F
theorem wun (F:List Fnc):y38 F F.length 0 (List.replicate F.length 0)=false↔acyc F:=by
 have hz:∀ j,(List.replicate F.length (0:Int)).getD j 0=0:=fun j=>by
  by_cases h:j<F.length
  . simp [h]
  . simp [List.getElem?_eq_none (show (List.replicate F.length (0:Int)).length<=j by simpa using h)]
 refine xxg F.length 0 _ (by omega) ⟨by simp,fun _=>0,fun i hi=>?_⟩ (fun j=>.inl (hz j)) (fun j hj=>by omega);rw [hz] at hi;cases hi
theorem y5o {F:List Fnc}:wa2 F=0↔valid F:=by
 unfold wa2;by_cases h1:100<(F.length:Int)
 . rw [decide_eq_true h1];exact ⟨fun h=>(by cases h),fun h=>by have:=h.len;omega⟩
 rw [decide_eq_false h1];simp only [cond_false];by_cases h2:w1r F F.length 0=0
 . rw [h2];simp only [decide_true,Bool.not_true,cond_false];have h3:=wun F;have h4:=(ysa F.length 0).1 h2
   cases hc:y38 F F.length 0 (List.replicate F.length 0) with
   | true=>
    rw [hc] at h3;simp only [cond_true];exact ⟨fun h=>(by cases h),fun h=>by have:=h3.2 h.ac;cases this⟩
   | false=>
    simp only [cond_false];exact ⟨fun _=>⟨by omega,fun i hi=>h4 i (Nat.zero_le _) (by omega),h3.1 hc⟩,fun _=>trivial⟩
 . rw [decide_eq_false h2];simp only [Bool.not_false,cond_true];exact ⟨fun h=>absurd h h2,fun h=>absurd ((ysa F.length 0).2 (fun j _ hj=>h.one j (by omega))) h2⟩
structure okF (F:List Fnc) (i:Nat):Prop where
 form:wtj (F.getD i default)=true
 tw:zlh F i=false
 un:(F.getD i default).params.any ziv=false
 str:∀ y,Ex.Nd y (F.getD i default).body->y.op=1->0<=wcs (F.getD i default) y.name
 kn:kn F (F.getD i default).body
theorem zks {F:List Fnc} {x:Ex} (h1:x.anyN (x5q F)=false) (h2:x.anyN (zs4 F)=false):kn F x:=fun y hy h3=>by
 have a:=Ex.vaz h1 hy;have b:=Ex.vaz h2 hy;unfold x5q at a;unfold zs4 at b;rw [decide_eq_true h3,Bool.true_and,decide_eq_false_iff_not] at a b;exact ⟨by omega,by omega⟩
theorem xwo {F:List Fnc} {x:Ex} (h:kn F x):x.anyN (x5q F)=false/\x.anyN (zs4 F)=false:=by
 constructor
 . cases e:x.anyN (x5q F) with
   | false=>rfl
   | true=>
    obtain ⟨y,hy,hp⟩:=(Ex.x8x _ _).1 e;unfold x5q at hp;rw [Bool.and_eq_true,decide_eq_true_eq,decide_eq_true_eq] at hp
    have:=(h y hy hp.1).1
    omega
 . cases e:x.anyN (zs4 F) with
   | false=>rfl
   | true=>
    obtain ⟨y,hy,hp⟩:=(Ex.x8x _ _).1 e;unfold zs4 at hp;rw [Bool.and_eq_true,decide_eq_true_eq,decide_eq_true_eq] at hp
    have:=(h y hy hp.1).2
    omega
theorem wgw {F:List Fnc} {i:Nat}:yum F i=0↔okF F i:=by
 unfold yum
 cases h1:wtj (F.getD i default) with
 | false=>exact ⟨fun h=>(by cases h),fun h=>by rw [h.form] at h1;cases h1⟩
 | true=>
 cases h2:zlh F i with
 | true=>exact ⟨fun h=>(by cases h),fun h=>by rw [h.tw] at h2;cases h2⟩
 | false=>
 cases h3:(F.getD i default).params.any ziv with
 | true=>exact ⟨fun h=>(by cases h),fun h=>by rw [h.un] at h3;cases h3⟩
 | false=>
 cases h4:(F.getD i default).body.anyN (znq (F.getD i default)) with
 | true=>
  refine ⟨fun h=>(by cases h),fun h=>?_⟩;obtain ⟨y,hy,hp⟩:=(Ex.x8x _ _).1 h4;unfold znq at hp;rw [Bool.and_eq_true,decide_eq_true_eq,decide_eq_true_eq] at hp
  have:=h.str y hy hp.1
  omega
 | false=>
 have hs:∀ y,Ex.Nd y (F.getD i default).body->y.op=1->0<=wcs (F.getD i default) y.name:=fun y hy h1=>by
  have:=Ex.vaz h4 hy
  unfold znq at this;rw [decide_eq_true h1,Bool.true_and,decide_eq_false_iff_not] at this;omega
 cases h5:(F.getD i default).body.anyN (x5q F) with
 | true=>exact ⟨fun h=>(by cases h),fun h=>by have:=(xwo h.kn).1;rw [h5] at this;cases this⟩
 | false=>
 cases h6:(F.getD i default).body.anyN (zs4 F) with
 | true=>exact ⟨fun h=>(by cases h),fun h=>by have:=(xwo h.kn).2;rw [h6] at this;cases this⟩
 | false=>exact ⟨fun _=>⟨h1,h2,h3,hs,zks h5 h6⟩,fun _=>rfl⟩
theorem valid.ok {F:List Fnc} (h:valid F) {i:Nat} (hi:i<F.length):okF F i:=wgw.1 (h.one i hi)
theorem okF.right {F:List Fnc} {i:Nat} (h:okF F i):z7n (F.getD i default).body=true:=by
 have:=h.form
 unfold wtj at this;simp only [Bool.and_eq_true] at this;exact this.2
theorem xqh {α:Type} {p:α->Bool}:∀{l:List α},0<=idxF p l->(idxF p l).toNat<l.length
 | [],h=>by unfold idxF at h;omega
 | x::l,_=>wuh p (x::l) (by simp)
def z4j (F:List Fnc) (s:ByteArray):Prop:=∃ j,j<F.length/\∃ y,Ex.Nd y (F.getD j default).body/\y.op=2/\y.name=s
def bV (F:List Fnc) (i:Nat) (z:Ex):Prop:=w7g z=true/\z.op≠3/\(z.op=1->0<=wcs (F.getD i default) z.name)/\(z.op=2->z4j F z.name)
theorem yqu {F:List Fnc} (h:valid F):∀ i,i<F.length->(bdF F i).ok/\((bdF F i).full=false->(bdF F i).x.allV (bV F i)):=by
 refine ybr h.ac (fun i hi ih=>?_);have hk:=h.ok hi;have hsh:=(Ex.xty _).1 ((yqj _).1 hk.right).2.2;rw [xew h.ac hi];refine vb3 (V:=bV F i) (fun y l hl hy=>?_) _ (fun y hy h3=>⟨hsh y hy,h3,hk.str y hy,fun h2=>⟨i,hi,y,hy,h2,rfl⟩⟩) (fun y hy h3 hf z hz=>?_)
 . unfold bV at hy ⊢;rw [x3i hl];exact hy
 . have he:x0t F i (findF F y.name).toNat:=⟨y,hy,h3,rfl⟩;obtain ⟨a,b,c,d⟩:=(ih _ he).2 hf z hz;refine ⟨fun h1=>⟨a,b,fun e=>absurd e h1,d⟩,fun h1=>?_⟩;rw [(hk.kn y hy h3).2];exact xqh (c h1)
def xV (F:List Fnc) (x z:Ex):Prop:=w7g z=true/\z.op≠3/\(z.op=1->∃ y,Ex.Nd y x/\y.op=1/\y.name=z.name)/\(z.op=2->(∃ y,Ex.Nd y x/\y.op=2/\y.name=z.name)\/z4j F z.name)
theorem wu4 {F:List Fnc} (h:valid F) {x:Ex} (hx:x.shaped=true) (hk:kn F x):(expF F x).ok/\((expF F x).full=false->(expF F x).x.allV (xV F x)):=by
 have hsh:=(Ex.xty _).1 hx;refine vb3 (V:=xV F x) (fun y l hl hy=>?_) _ (fun y hy h3=>⟨hsh y hy,h3,fun h1=>⟨y,hy,h1,rfl⟩,fun h2=>.inl ⟨y,hy,h2,rfl⟩⟩) (fun y hy h3 hf z hz=>?_)
 . unfold xV at hy ⊢;rw [x3i hl];exact hy
 . have hn:(findF F y.name).toNat<F.length:=xqh (hk y hy h3).1;obtain ⟨a,b,c,d⟩:=(yqu h _ hn).2 hf z hz;refine ⟨fun h1=>⟨a,b,fun e=>absurd e h1,fun e=>.inr (d e)⟩,fun h1=>?_⟩;rw [(hk y hy h3).2];exact xqh (c h1)
theorem vhb {F:List Fnc} {x:Ex} (h:(yc3 F x).2=0):valid F/\z7n x=true/\kn F x/\(expF F x).full=false/\yc3 F x=((expF F x).x,0):=by
 unfold yc3 at h ⊢
 cases h1:z7n x with
 | false=>rw [h1] at h;cases h
 | true=>
 by_cases h2:wa2 F=0
 . rw [h1,decide_eq_true h2] at h;simp only [Bool.not_true,Bool.or_false,cond_false] at h;rw [decide_eq_true h2];simp only [Bool.not_true,Bool.or_false,cond_false]
   cases h3:x.anyN (x5q F) with
   | true=>rw [h3] at h;cases h
   | false=>
   cases h4:x.anyN (zs4 F) with
   | true=>rw [h3,h4] at h;cases h
   | false=>
   cases h5:(expF F x).full with
   | true=>rw [h3,h4,h5] at h;cases h
   | false=>exact ⟨y5o.1 h2,trivial,zks h3 h4,rfl,rfl⟩
 . rw [h1,decide_eq_false h2] at h;cases h
theorem vdr {F:List Fnc} {x:Ex} (h:valid F) (hx:z7n x=true) (hk:kn F x) (hf:(expF F x).full=false):yc3 F x=((expF F x).x,0):=by
 unfold yc3;rw [hx,y5o.2 h,(xwo hk).1,(xwo hk).2,hf];rfl
theorem x0s (F:List Fnc) (x:Ex) :
 0<=(yc3 F x).1.rsz 250 24/\
 ((yc3 F x).2≠0->(yc3 F x).1=Ex.zero/\(x.yp0=true\/z7n x=false\/wa2 F≠0))/\
 ((yc3 F x).2=0->yc3 F (yc3 F x).1=((yc3 F x).1,0)/\(yc3 F x).1.yp0=false/\z7n (yc3 F x).1=true/\(yc3 F x).1.allV (xV F x)/\(x.yp0=true\/(yc3 F x).1=x)):=by
 by_cases h:(yc3 F x).2=0
 . obtain ⟨hv,hx,hk,hf,he⟩:=vhb h;have hx':=(yqj x).1 hx;have ha:=wu4 hv hx'.2.2 hk;have hV:=ha.2 hf;obtain ⟨n1,n2,n3,n4⟩:=ha.1.no hf;rw [he];have hc:(expF F x).x.yp0=false:=(Ex.wsm _).2 (fun y hy=>(hV y hy).2.1);have hsh:(expF F x).x.shaped=true:=(Ex.xty _).2 (fun y hy=>(hV y hy).1);have hr:z7n (expF F x).x=true:=(yqj _).2 ⟨n3,n4,hsh⟩;refine ⟨((Ex.v19 (expF F x).x 250 24).1).2 ⟨by omega,by omega⟩,fun h'=>absurd rfl h',fun _=>⟨?_,hc,hr,hV,?_⟩⟩
   . have hk2:kn F (expF F x).x:=fun y hy h3=>absurd h3 ((hV y hy).2.1)
     have hp:expF F (expF F x).x=⟨(expF F x).x,(expF F x).x.sz,(expF F x).x.dp,false⟩:=ztv _ hc n3 n4;rw [vdr hv hr hk2 (by rw [hp]),hp]
   . cases hxc:x.yp0 with
     | true=>exact .inl rfl
     | false=>
      right
      have hp:expF F x=⟨x,x.sz,x.dp,false⟩:=ztv _ hxc hx'.1 hx'.2.1;rw [hp]
 . have hz:(yc3 F x).1=Ex.zero/\(x.yp0=true\/z7n x=false\/wa2 F≠0):=by
    cases h1:z7n x with
    | false=>unfold yc3;rw [h1];exact ⟨rfl,.inr (.inl rfl)⟩
    | true=>
    by_cases h2:wa2 F=0
    . cases hc:x.yp0 with
      | true=>
       refine ⟨?_,.inl rfl⟩;unfold yc3 at h ⊢;rw [h1,decide_eq_true h2] at h ⊢;simp only [Bool.not_true,Bool.or_false,cond_false] at h ⊢
       cases h3:x.anyN (x5q F) with
       | true=>rfl
       | false=>
       cases h4:x.anyN (zs4 F) with
       | true=>rfl
       | false=>
       cases h5:(expF F x).full with
       | true=>rfl
       | false=>rw [h3,h4,h5] at h;exact absurd rfl h
      | false=>
       exfalso;have hx':=(yqj x).1 h1;have hp:expF F x=⟨x,x.sz,x.dp,false⟩:=ztv _ hc hx'.1 hx'.2.1;rw [vdr (y5o.1 h2) h1 (fun y hy h3=>absurd h3 ((Ex.wsm _).1 hc y hy)) (by rw [hp])] at h;exact h rfl
    . unfold yc3;rw [decide_eq_false h2,Bool.not_false,Bool.or_true];exact ⟨rfl,.inr (.inr h2)⟩
   refine ⟨?_,fun _=>hz,fun h'=>absurd h' h⟩;rw [hz.1];exact ((Ex.v19 _ 250 24).1).2 (by decide)
theorem xjt {α:Type} [Inhabited α] {p:α->Bool}:∀{l:List α},0<=idxF p l->p (l.getD (idxF p l).toNat default)=true
 | [],h=>by unfold idxF at h;omega
 | x::l,h=>by
  rw [idxF] at h ⊢
  cases hp:p x with
  | true=>rw [cond_true];exact hp
  | false=>
   rw [hp,cond_false] at h;rw [cond_false];have h3:=zah p l;by_cases e:idxF p l = -1
   . rw [e] at h;simp at h
   . rw [decide_eq_false e,cond_false] at h ⊢;have ih:=xjt (p:=p) (l:=l) (by omega);rw [show (idxF p l+1).toNat=(idxF p l).toNat+1 by omega,List.getD_cons_succ];exact ih
theorem xmb {α:Type} [Inhabited α] {p:α->Bool}:∀{l:List α} {i:Nat},i<l.length->p (l.getD i default)=true->0<=idxF p l/\idxF p l<=(i:Int)
 | [],i,h,_=>by simp at h
 | x::l,0,_,hp=>by
  rw [List.getD_cons_zero] at hp;rw [idxF,hp,cond_true];omega
 | x::l,i+1,h,hp=>by
  rw [List.getD_cons_succ] at hp;have ih:=xmb (p:=p) (l:=l) (i:=i) (by simpa using h) hp;rw [idxF]
  cases p x with
  | true=>rw [cond_true];omega
  | false=>
   rw [cond_false,decide_eq_false (by omega),cond_false];omega
abbrev lkF (F:List Fnc) (s:ByteArray):Fnc:=F.getD (findF F s).toNat default
theorem yz3 {F:List Fnc} {s:ByteArray} (h:0<=findF F s):(lkF F s).name=s:=by
 have:=xjt (p:=fun f:Fnc=>seq f.name s) h
 rw [veo] at this;exact of_decide_eq_true this
theorem zwb {F:List Fnc} {i:Nat} (hi:i<F.length):0<=findF F (F.getD i default).name/\findF F (F.getD i default).name<=(i:Int):=by
 refine xmb (p:=fun f:Fnc=>seq f.name (F.getD i default).name) hi ?_;rw [veo];exact decide_eq_true rfl
def dupP (f:Fnc):Bool:=(List.range f.params.length).any fun k=>decide (wcs f (f.params.getD k default).name<(k:Int))
structure ok1 (F:List Fnc) (f:Fnc):Prop where
 form:wtj f=true
 tw:dupP f=false
 un:f.params.any ziv=false
 str:∀ y,Ex.Nd y f.body->y.op=1->0<=wcs f y.name
 kn:∀ y,Ex.Nd y f.body->y.op=3->∃ g∈F,g.name=y.name/\y.args.length=g.params.length
structure vld (F:List Fnc):Prop where
 len:F.length<=100
 dis:F.Pairwise fun f g=>f.name≠g.name
 one:∀ f∈F,ok1 F f
 ac:∃ r:ByteArray->Nat,∀ f∈F,∀ y,Ex.Nd y f.body->y.op=3->r y.name<r f.name
theorem vld.perm {F F':List Fnc} (h:vld F) (hp:F.Perm F'):vld F':=by
 obtain ⟨r,hr⟩:=h.ac;refine ⟨by rw [<-hp.length_eq];exact h.len,(hp.pairwise_iff (fun e=>Ne.symm e)).1 h.dis,fun f hf=>?_,r,fun f hf=>hr f (hp.mem_iff.2 hf)⟩
 have:=h.one f (hp.mem_iff.2 hf)
 refine ⟨this.form,this.tw,this.un,this.str,fun y hy h3=>?_⟩;obtain ⟨g,hg,e⟩:=this.kn y hy h3;exact ⟨g,hp.mem_iff.1 hg,e⟩
theorem viv {F:List Fnc} {i:Nat} (hi:i<F.length):F.getD i default=F[i]:=by simp [hi]
theorem vld.find {F:List Fnc} (h:F.Pairwise fun f g=>f.name≠g.name) {i:Nat} (hi:i<F.length) {s:ByteArray} (hs:(F.getD i default).name=s):findF F s=(i:Int):=by
 subst hs;obtain ⟨h0,h1⟩:=zwb hi;have h2:=yz3 h0;by_cases e:findF F (F.getD i default).name=(i:Int)
 . exact e
 . exfalso
   have hlt:(findF F (F.getD i default).name).toNat<i:=by omega
   have:=(List.pairwise_iff_getElem.1 h) _ i (by omega) hi hlt
   rw [<-viv,<-viv] at this;exact this h2
theorem yu4 {F:List Fnc} (h:F.Pairwise fun f g=>f.name≠g.name) {g:Fnc} (hg:g∈F) {s:ByteArray} (hs:g.name=s):0<=findF F s/\lkF F s=g:=by
 obtain ⟨i,hi,rfl⟩:=List.getElem_of_mem hg;rw [<-viv hi] at hs ⊢
 have:=vld.find h hi hs
 exact ⟨by omega,by rw [lkF,this];rfl⟩
theorem valid.dis {F:List Fnc} (h:valid F):F.Pairwise fun f g=>f.name≠g.name:=by
 rw [List.pairwise_iff_getElem];intro i j hi hj hij e;have ht:=(h.ok hj).tw;unfold zlh at ht;rw [Bool.or_eq_false_iff,decide_eq_false_iff_not] at ht
 have hp:seq (F.getD i default).name (F.getD j default).name=true:=by
  rw [veo,viv hi,viv hj];exact decide_eq_true e
 have:=(xmb (p:=fun f:Fnc=>seq f.name (F.getD j default).name) hi hp).2
 have h1:=ht.1;unfold findF at h1;omega
theorem valid.vld {F:List Fnc} (h:valid F):vld F:=by
 have hd:=h.dis;obtain ⟨r,hr⟩:=h.ac;refine ⟨h.len,hd,fun f hf=>?_,fun s=>r (findF F s).toNat,fun f hf y hy h3=>?_⟩
 . obtain ⟨i,hi,rfl⟩:=List.getElem_of_mem hf;rw [<-viv hi];have hk:=h.ok hi;have ht:=hk.tw;unfold zlh at ht;rw [Bool.or_eq_false_iff] at ht;refine ⟨hk.form,ht.2,hk.un,hk.str,fun y hy h3=>?_⟩;obtain ⟨h0,hl⟩:=hk.kn y hy h3;exact ⟨lkF F y.name,xdq (xqh h0),yz3 h0,hl⟩
 . obtain ⟨i,hi,rfl⟩:=List.getElem_of_mem hf;rw [<-viv hi] at hy ⊢;have e:=vld.find hd hi rfl;dsimp only;rw [e];exact hr i hi _ ⟨y,hy,h3,rfl⟩
theorem vld.valid {F:List Fnc} (h:vld F):valid F:=by
 have hd:=h.dis;obtain ⟨r,hr⟩:=h.ac;refine ⟨h.len,fun i hi=>wgw.2 ?_,fun i=>r (F.getD i default).name,fun i hi j hj=>?_⟩
 . have hm:=xdq hi;have h1:=h.one _ hm;refine ⟨h1.form,?_,h1.un,h1.str,fun y hy h3=>?_⟩
   . unfold zlh;rw [Bool.or_eq_false_iff];refine ⟨decide_eq_false ?_,h1.tw⟩;rw [vld.find hd hi rfl];omega
   . obtain ⟨g,hg,e1,e2⟩:=h1.kn y hy h3;obtain ⟨a,b⟩:=yu4 hd hg e1;exact ⟨a,by rw [<-b] at e2;exact e2⟩
 . obtain ⟨y,hy,h3,rfl⟩:=hj;have hm:=xdq hi;obtain ⟨g,hg,e1,_⟩:=(h.one _ hm).kn y hy h3
   have:=hr _ hm y hy h3
   obtain ⟨a,b⟩:=yu4 hd hg e1;show r (lkF F y.name).name<_;rw [b,e1];exact this
theorem vur {F:List Fnc}:valid F↔vld F:=⟨valid.vld,vld.valid⟩
theorem vo1 {F F':List Fnc} {B B':Nat->Wh}:∀ x:Ex,(∀ y,Ex.Nd y x->y.op=3->lkF F y.name=lkF F' y.name/\B (findF F y.name).toNat=B' (findF F' y.name).toNat)->expG F B x=expG F' B' x:=by
 refine Ex.ind (fun x ih h=>?_);have hm:x.args.map (expG F B)=x.args.map (expG F' B'):=List.map_congr_left (fun y hy=>ih y hy (fun z hz=>h z (.arg hy hz)));rw [wpu,wpu,hm];by_cases h3:x.op=3
 . obtain ⟨a,b⟩:=h x .here h3;unfold lkF at a;rw [decide_eq_true h3,b,a]
 . rw [decide_eq_false h3];rfl
theorem ziq {F F':List Fnc} (h:valid F) (h':valid F') (hl:∀ s,0<=findF F s->0<=findF F' s/\lkF F s=lkF F' s):∀ i,i<F.length->bdF F i=bdF F' (findF F' (F.getD i default).name).toNat:=by
 refine ybr h.ac (fun i hi ih=>?_);have h0:0<=findF F (F.getD i default).name:=(zwb hi).1;obtain ⟨a,b⟩:=hl _ h0
 have e:lkF F (F.getD i default).name=F.getD i default:=by rw [lkF,vld.find h.dis hi rfl];rfl
 rw [xew h.ac hi,xew h'.ac (i:=(findF F' (F.getD i default).name).toNat) (xqh a),show F'.getD (findF F' (F.getD i default).name).toNat default=F.getD i default from b.symm.trans e];refine vo1 _ (fun y hy h3=>?_);have hk:=((h.ok hi).kn y hy h3).1;refine ⟨(hl _ hk).2,?_⟩
 have:=ih _ ⟨y,hy,h3,rfl⟩
 rw [show (F.getD (findF F y.name).toNat default).name=y.name from yz3 hk] at this;exact this
theorem w9a {F F':List Fnc} (h:valid F) (h':valid F') (hl:∀ s,0<=findF F s->0<=findF F' s/\lkF F s=lkF F' s) {x:Ex} (hk:kn F x):expF F x=expF F' x/\kn F' x:=by
 refine ⟨vo1 _ (fun y hy h3=>⟨(hl _ (hk y hy h3).1).2,?_⟩),fun y hy h3=>?_⟩
 . have h0:=(hk y hy h3).1
   have:=ziq h h' hl _ (xqh h0)
   rw [show (F.getD (idxF _ F).toNat default).name=y.name from yz3 h0] at this;exact this
 . obtain ⟨a,b⟩:=hk y hy h3;obtain ⟨c,d⟩:=hl _ a;exact ⟨c,by rw [b];show (lkF F y.name).params.length=_;rw [d]⟩
theorem w2b {F F':List Fnc} (_h:valid F) (h':valid F') (hp:F.Perm F'):∀ s,0<=findF F s->0<=findF F' s/\lkF F s=lkF F' s:=fun s h0=>by
 have hm:lkF F s∈F:=xdq (xqh h0);obtain ⟨a,b⟩:=yu4 h'.dis (hp.mem_iff.1 hm) (yz3 h0);exact ⟨a,b.symm⟩
theorem xbm {F F':List Fnc} (hp:F.Perm F'):(wa2 F=0↔wa2 F'=0):=by
 rw [y5o,y5o,vur,vur];exact ⟨fun h=>h.perm hp,fun h=>h.perm hp.symm⟩
theorem zvd {F F':List Fnc} (h:valid F) (h':valid F') (hp:F.Perm F') (x:Ex):x.anyN (x5q F)=x.anyN (x5q F'):=by
 congr 1
 funext y
 unfold x5q
 congr 1
 have a:=w2b h h' hp y.name;have b:=w2b h' h hp.symm y.name;by_cases e:findF F y.name<0
 . rw [decide_eq_true e,decide_eq_true];by_cases e2:0<=findF F' y.name
   . have:=(b e2).1;omega
   . omega
 . rw [decide_eq_false e,decide_eq_false]
   have:=(a (by omega)).1;omega
theorem x3s {F F':List Fnc} (hp:F.Perm F') (x:Ex) (h:wa2 F=0):yc3 F x=yc3 F' x:=by
 have h':=(xbm hp).1 h;have v:=y5o.1 h;have v':=y5o.1 h';unfold yc3;rw [h,h',<-zvd v v' hp x]
 cases hx:z7n x with
 | false=>rfl
 | true=>
 cases hu:x.anyN (x5q F) with
 | true=>rfl
 | false=>
 cases he:x.anyN (zs4 F) with
 | true=>
  have he':x.anyN (zs4 F')=true:=by
   cases he':x.anyN (zs4 F') with
   | true=>rfl
   | false=>
    have hk':=zks ((zvd v v' hp x).symm.trans hu) he';have hk:=(w9a v' v (w2b v' v hp.symm) hk').2;rw [(xwo hk).2] at he;cases he
  rw [he'];rfl
 | false=>
  obtain ⟨a,b⟩:=w9a v v' (w2b v v' hp) (zks hu he);rw [(xwo b).2,a]
theorem vze {F:List Fnc} {m:Fnc} (x:Ex) (h:(yc3 F x).2=0) (h':wa2 (F++[m])=0):yc3 (F++[m]) x=yc3 F x:=by
 obtain ⟨v,hx,hk,hf,he⟩:=vhb h;have v':=y5o.1 h'
 have hl:∀ s,0<=findF F s->0<=findF (F++[m]) s/\lkF F s=lkF (F++[m]) s:=fun s h0=>by
  have hm:lkF F s∈F:=xdq (xqh h0);obtain ⟨a,b⟩:=yu4 v'.dis (List.mem_append_left [m] hm) (yz3 h0);exact ⟨a,b.symm⟩
 obtain ⟨a,b⟩:=w9a v v' hl hk;rw [vdr v' hx b (by rw [<-a];exact hf),he,a]
def y3r (s:ByteArray) (x:Ex):Bool:=x.anyN fun y=>decide (y.op=3)&&seq y.name s
def yoa (F:List Fnc) (p:List Bool) (i:Nat):Bool:=!p.getD i false&&(List.range F.length).all fun k=>p.getD k false||!y3r (F.getD k default).name (F.getD i default).body
def inF (F:List Fnc):Nat->Nat->List Bool->Int->List Bool×Int
 | 0,_,p,c=>(p,c)
 | n+1,i,p,c=>bif yoa F p i then inF F n (i+1) (p.set i true) (c+1) else inF F n (i+1) p c
def outF (F:List Fnc):Nat->List Bool->Int->List Bool×Int
 | 0,p,c=>(p,c)
 | n+1,p,c=>outF F n (inF F F.length 0 p c).1 (inF F F.length 0 p c).2
structure plI (F:List Fnc) (p:List Bool) (c:Int):Prop where
 len:p.length=F.length
 cnt:c=(p.countP id:Int)
 good:∃ r:Nat->Nat,∀ i,p.getD i false=true->∀ j,x0t F i j->p.getD j false=true/\r j<r i
def plLe (p q:List Bool):Prop:=∀ i,p.getD i false=true->q.getD i false=true
theorem x77 {p:List Bool} {i:Nat} (h:i<p.length) (v:Bool):(p.set i v).getD i false=v:=by simp [h]
theorem yft {p:List Bool} {i j:Nat} (h:j≠i) (v:Bool):(p.set i v).getD j false=p.getD j false:=by simp [List.getElem?_set_ne (Ne.symm h)]
theorem countP_set:∀{p:List Bool} {i:Nat},i<p.length->p.getD i false=false->(p.set i true).countP id=p.countP id+1
 | [],i,h,_=>by simp at h
 | s::p,0,_,h0=>by
  simp only [List.getD_cons_zero] at h0;subst h0;simp
 | s::p,i+1,h,h0=>by
  have ih:=countP_set (p:=p) (i:=i) (by simpa using h) (by simpa using h0);rw [List.set_cons_succ,List.countP_cons,List.countP_cons,ih];omega
structure dis1 (F:List Fnc):Prop where
 dis:F.Pairwise fun f g=>f.name≠g.name
 kn:∀ i,i<F.length->kn F (F.getD i default).body
theorem zhk {F:List Fnc} (h:dis1 F) {i k:Nat} (hi:i<F.length) (hk:k<F.length):y3r (F.getD k default).name (F.getD i default).body=true↔x0t F i k:=by
 unfold y3r;rw [Ex.x8x];constructor
 . rintro ⟨y,hy,hp⟩;rw [Bool.and_eq_true,decide_eq_true_eq,veo,decide_eq_true_eq] at hp;exact ⟨y,hy,hp.1,by rw [hp.2,vld.find h.dis hk rfl];rfl⟩
 . rintro ⟨y,hy,h3,rfl⟩;refine ⟨y,hy,?_⟩
   have:=yz3 (h.kn i hi y hy h3).1
   rw [Bool.and_eq_true,decide_eq_true_eq,veo,decide_eq_true_eq];exact ⟨h3,this.symm⟩
theorem ww4 {F:List Fnc} (h:dis1 F) {p:List Bool} {i:Nat} (hi:i<F.length):yoa F p i=true↔p.getD i false=false/\∀ k,x0t F i k->p.getD k false=true:=by
 unfold yoa;rw [Bool.and_eq_true,Bool.not_eq_true',List.all_eq_true];constructor
 . rintro ⟨a,b⟩;refine ⟨a,fun k hk=>?_⟩;have hkl:=x3l hk
   have:=b k (List.mem_range.2 hkl)
   rw [(zhk h hi hkl).2 hk] at this;simpa using this
 . rintro ⟨a,b⟩;refine ⟨a,fun k hk=>?_⟩;have hkl:=List.mem_range.1 hk
   cases hc:y3r (F.getD k default).name (F.getD i default).body with
   | false=>simp
   | true=>rw [b k ((zhk h hi hkl).1 hc)];rfl
theorem plI.step {F:List Fnc} (h:dis1 F) {p:List Bool} {c:Int} (hI:plI F p c) {i:Nat} (hi:i<F.length) (hf:yoa F p i=true):plI F (p.set i true) (c+1):=by
 obtain ⟨a,b⟩:=(ww4 h hi).1 hf
 have hip:i<p.length:=by rw [hI.len];exact hi
 obtain ⟨r,hr⟩:=hI.good;refine ⟨by simpa using hI.len,by rw [countP_set hip a,hI.cnt];simp,fun m=>if m=i then 1+((List.range F.length).map r).sum else r m,fun m hm j hj=>?_⟩;by_cases e:m=i
 . subst e;have e1:=b j hj
   have hne:j≠m:=fun e=>by rw [e,a] at e1;cases e1
   refine ⟨by rw [yft hne];exact e1,?_⟩;dsimp only;rw [if_pos rfl,if_neg hne]
   have:=v00 (List.mem_map_of_mem (f:=r) (List.mem_range.2 (x3l hj)))
   omega
 . rw [yft e] at hm;obtain ⟨e1,e2⟩:=hr m hm j hj
   have hne:j≠i:=fun e=>by rw [e,a] at e1;cases e1
   dsimp only;rw [yft hne,if_neg e,if_neg hne];exact ⟨e1,e2⟩
theorem plLe.set {p:List Bool} {i:Nat} (hi:i<p.length):plLe p (p.set i true):=fun j hj=>by
 by_cases e:j=i
 . rw [e];exact x77 hi true
 . rw [yft e];exact hj
theorem y6w {F:List Fnc} (h:dis1 F):∀(n i:Nat) (p:List Bool) (c:Int),i+n=F.length->plI F p c->plI F (inF F n i p c).1 (inF F n i p c).2/\plLe p (inF F n i p c).1
 | 0,_,p,c,_,hI=>⟨hI,fun _ h=>h⟩
 | n+1,i,p,c,hn,hI=>by
  rw [inF]
  cases hf:yoa F p i with
  | true=>
   have:=y6w h n (i+1) _ _ (by omega) (hI.step h (by omega) hf)
   exact ⟨this.1,fun j hj=>this.2 j (plLe.set (by rw [hI.len];omega) j hj)⟩
  | false=>exact y6w h n (i+1) p c (by omega) hI
theorem v9n {F : List Fnc} (h : dis1 F) : ∀ (n i : Nat) (p : List Bool) (c : Int), i + n = F.length → plI F p c → ∀ m, i ≤ m → m < F.length → (∀ k, x0t F m k → p.getD k false = true) → (inF F n i p c).1.getD m false = true
 | 0,i,_,_,hn,_,m,h1,h2,_=>by omega
 | n + 1, i, p, c, hn, hI, m, h1, h2, hm => by
  rw [inF];by_cases e:i=m
  . subst e
    cases hf:yoa F p i with
    | true=>
     have:=y6w h n (i+1) _ _ (by omega) (hI.step h (by omega) hf)
     exact this.2 i (x77 (by rw [hI.len];omega) true)
    | false=>
     have:p.getD i false=true:=by
      cases hp:p.getD i false with
      | true=>rfl
      | false=>rw [(ww4 h h2).2 ⟨hp,hm⟩] at hf;cases hf
     exact (y6w h n (i+1) p c (by omega) hI).2 i this
  . cases hf:yoa F p i with
    | true=>
     have hI':=hI.step h (by omega) hf;exact v9n h n (i+1) _ _ (by omega) hI' m (by omega) h2 (fun k hk=>plLe.set (by rw [hI.len];omega) k (hm k hk))
    | false=>exact v9n h n (i+1) p c (by omega) hI m (by omega) h2 hm
theorem vel {F:List Fnc} (h:dis1 F):∀(n:Nat) (p:List Bool) (c:Int),plI F p c->plI F (outF F n p c).1 (outF F n p c).2
 | 0,_,_,hI=>hI
 | n+1,p,c,hI=>vel h n _ _ (y6w h F.length 0 p c (by omega) hI).1
theorem vhn {F:List Fnc} (h:dis1 F) {r:Nat->Nat} (hr:∀ i j,x0t F i j->j<F.length->r j<r i):∀(n t:Nat) (p:List Bool) (c:Int),plI F p c->(∀ m,m<F.length->r m<t->p.getD m false=true)->∀ m,m<F.length->r m<t+n->(outF F n p c).1.getD m false=true
 | 0,t,p,c,_,hp,m,hm,h1=>hp m hm (by omega)
 | n+1,t,p,c,hI,hp,m,hm,h1=>by
  rw [outF];have hk:=y6w h F.length 0 p c (by omega) hI;refine vhn h hr n (t+1) _ _ hk.1 (fun m hm ht=>?_) m hm (by omega);exact v9n h F.length 0 p c (by omega) hI m (Nat.zero_le _) hm (fun k he=>hp k (x3l he) (by have:=hr m k he (x3l he);omega))
theorem vfi {p:List Bool}:p.countP id=p.length↔∀ i,i<p.length->p.getD i false=true:=by
 rw [List.countP_eq_length];constructor
 . intro h i hi;rw [show p.getD i false=p[i] by simp [hi]];exact h _ (List.getElem_mem hi)
 . intro h a ha;obtain ⟨i,hi,rfl⟩:=List.getElem_of_mem ha
   have:=h i hi
   rwa [show p.getD i false=p[i] by simp [hi]] at this
theorem vg7 {F:List Fnc} (h:wa2 F=0\/wa2 F=23):decide ((outF F F.length (List.replicate F.length false) 0).2=(F.length:Int))=decide (wa2 F=0):=by
 have hd:dis1 F/\(wa2 F=0↔acyc F):=by
  unfold wa2 at h ⊢;by_cases h1:100<(F.length:Int)
  . rw [decide_eq_true h1] at h;rcases h with h | h<;>cases h
  rw [decide_eq_false h1] at h ⊢;simp only [cond_false] at h ⊢;by_cases h2:w1r F F.length 0=0
  . rw [h2] at h ⊢;simp only [decide_true,Bool.not_true,cond_false] at h ⊢;have h3:=wun F;have h4:=(ysa F.length 0).1 h2
    have hok:∀ i,i<F.length->okF F i:=fun i hi=>wgw.1 (h4 i (Nat.zero_le _) (by omega))
    refine ⟨⟨?_,fun i hi=>(hok i hi).kn⟩,?_⟩
    . rw [List.pairwise_iff_getElem];intro i j hi hj hij e;have ht:=(hok j hj).tw;unfold zlh at ht;rw [Bool.or_eq_false_iff,decide_eq_false_iff_not] at ht
      have hp:seq (F.getD i default).name (F.getD j default).name=true:=by
       rw [veo,viv hi,viv hj];exact decide_eq_true e
      have:=(xmb (p:=fun f:Fnc=>seq f.name (F.getD j default).name) hi hp).2
      have h1:=ht.1;unfold findF at h1;omega
    . cases hc:y38 F F.length 0 (List.replicate F.length 0) with
      | true=>
       rw [hc] at h3;simp only [cond_true];exact ⟨fun h=>(by cases h),fun h=>by have:=h3.2 h;cases this⟩
      | false=>
       simp only [cond_false];exact ⟨fun _=>h3.1 hc,fun _=>trivial⟩
  . exfalso;rw [decide_eq_false h2] at h;simp only [Bool.not_false,cond_true] at h
    rcases h with h | h
    . exact h2 h
    . have key:∀ n i,w1r F n i≠23:=by
       intro n
       induction n with
       | zero=>intro i;rw [w1r];decide
       | succ n ih=>
        intro i;rw [w1r];by_cases e:yum F i=0
        . rw [decide_eq_true e];exact ih (i+1)
        . rw [decide_eq_false e];simp only [Bool.not_false,cond_true];unfold yum
          cases wtj (F.getD i default)<;>cases zlh F i<;>cases (F.getD i default).params.any ziv<;>cases (F.getD i default).body.anyN (znq (F.getD i default))||(F.getD i default).body.anyN (x5q F)<;>cases (F.getD i default).body.anyN (zs4 F)<;>decide
      exact key _ _ h
 have hrep:∀ i,(List.replicate F.length false).getD i false=false:=fun i=>by
  by_cases hi:i<F.length
  . simp [hi]
  . simp [List.getElem?_eq_none (show (List.replicate F.length false).length<=i by simpa using hi)]
 have h0:plI F (List.replicate F.length false) 0:=⟨by simp,by rw [List.countP_replicate];simp,fun _=>0,fun i hi=>by rw [hrep] at hi;cases hi⟩;have hI:=vel hd.1 F.length _ _ h0;rw [hI.cnt];by_cases hz:wa2 F=0
 . rw [decide_eq_true hz];obtain ⟨r,h1,h2⟩:=wbz (hd.2.1 hz);refine decide_eq_true ?_
   have:=vfi.2 (fun i hi=>vhn hd.1 h2 F.length 0 _ _ h0 (fun m _ h=>by omega) i (by rw [hI.len] at hi;exact hi) (by have:=h1 i;rw [hI.len] at hi;omega))
   rw [this,hI.len]
 . rw [decide_eq_false hz];refine decide_eq_false (fun e=>hz (hd.2.2 ?_));obtain ⟨r,hr⟩:=hI.good;have hall:=vfi.1 (show (outF F F.length (List.replicate F.length false) 0).1.countP id=_ by rw [hI.len];exact_mod_cast e);exact ⟨r,fun i hi j hj=>(hr i (hall i (by rw [hI.len];exact hi)) j hj).2⟩
end Go.Hp.T
namespace Go.Hp
open Go Go.RowKit Go.Slot
variable {P:Program} {Γ:List (Nat×List Cell)}
theorem xgj.roN (φ:List Nat) {f:FuncId} {η ηs:List SB} {args:List SV} {res:SV} (h:xgj Γ P f ηs args ηs res) (hn:φ.Nodup) (hb:(φ.all fun j=>Nat.blt j η.length)=true) (hp:φ.map (fun j=>η[j]?)=ηs.map (fun x=>some (rnSB (atR φ η.length) x))) :
 xgj Γ P f η (args.map (x09 (atR φ η.length))) η (rnSV (atR φ η.length) res):=by
 have hb':∀ j∈φ,j<η.length:=fun j hj=>by simpa using List.all_eq_true.1 hb j hj
 have hk:=w6y.of hp;have hc:=xgj.frame hn hb' hk (by rw [hk.1];exact Nat.le_refl _) h
 have hput:putR φ η ηs=η:=by
  apply List.ext_getElem?;intro i;by_cases hi2:i<η.length
  . by_cases hi:i∈φ
    . obtain ⟨k,hk2,rfl⟩:=List.getElem_of_mem hi
      have hkl:k<ηs.length:=by rw [hk.1];exact hk2
      have h1:=xjo (ηs':=ηs) hn hb' (List.getElem?_eq_getElem hkl);rw [xbc (List.getElem?_eq_getElem hk2)] at h1;rw [h1];have h2:=congrArg (fun l=>l[k]?) hp;simp only [List.getElem?_map,List.getElem?_eq_getElem hk2,List.getElem?_eq_getElem hkl,Option.map_some] at h2;exact (Option.some.inj h2).symm
    . exact ygg hi2 hi
  . rw [List.getElem?_eq_none (by rw [xdx,hk.1];omega),List.getElem?_eq_none (by omega)]
 rw [hput] at hc;exact hc
theorem xgj.preN {f:FuncId} {ηs ξ:List SB} {args:List SV} {res:SV} (h:xgj Γ P f ηs args ηs res) (hs:∀ r:Nat->Nat,(∀ i,i<ηs.length->r i=i)->ηs.map (rnSB r)=ηs) (ha:args.map (x09 (atR (List.range ηs.length) (ηs++ξ).length))=args) (hr:rnSV (atR (List.range ηs.length) (ηs++ξ).length) res=res):xgj Γ P f (ηs++ξ) args (ηs++ξ) res:=by
 have hc:=xgj.roN (List.range ηs.length) (η:=ηs++ξ) h List.nodup_range (List.all_eq_true.2 fun j hj=>by
  rw [List.mem_range] at hj
  simp only [List.length_append,Nat.blt_eq];omega) (by
  apply List.ext_getElem?;intro i;by_cases hi:i<ηs.length
  . have h1:=congrArg (fun l=>l[i]?) (hs _ (fun i hi=>w1b (N:=(ηs++ξ).length) hi));simp only [List.getElem?_map,List.getElem?_eq_getElem hi,Option.map_some,Option.some.injEq] at h1;simp only [List.getElem?_map,List.getElem?_range hi,List.getElem?_eq_getElem hi,Option.map_some,List.getElem?_append_left hi,h1]
  . simp [List.getElem?_eq_none (show ηs.length<=i by omega)];omega)
 rw [ha,hr] at hc;exact hc
end Go.Hp
