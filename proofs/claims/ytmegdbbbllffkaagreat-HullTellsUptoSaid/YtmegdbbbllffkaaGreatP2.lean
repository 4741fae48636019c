/- The proof, part P2: Mk, Ml, Mm, Mn. -/
import Derived.Test.YtmegdbbbllffkaaGreatP1
namespace Go.Slot
open Go Go.RowKit
variable {P:Program}
variable {tk rd:List Nat} {M M':Nat->Nat->Prop} {w w':World} {l:List Oper} {E:Env} {b:Bool} {v':Value} {es r j i id:Nat} {all:List Value} {o:Oper} {τ:Nat->TV} {a:Act} {od:Option Nat} {x y:Code} {tm:Array Value} {f:FuncId} {xs:List Operand} {ts:Array TypeId} {ops:Array Oper} {X:Nat->Bool} {fn:Func}
def xo9 (k:IntKind):Cell->Option (List Int)
 | .ints k' l=>if k'=k then some l else none
 | .zc=>some []
 | .nn _=>some []
 | .raw (.slice none 0 0)=>some []
 | _=>none
def xtc (n:Nat):Cell->Option (List (List Cell))
 | .sl n' rows=>if n'=n then some rows else none
 | .zc=>some []
 | .nn _=>some []
 | .raw (.slice none 0 0)=>some []
 | _=>none
def y5i (es eb:Nat) (ik:Option IntKind) (c cy:Cell):Option Cell:=
 match ik with
 | some k=>match xo9 k c,xo9 k cy with
  | some l,some l'=>if es=1/\(l.length+l'.length)*eb<=140737488355328/\l.length+l'.length<=9223372036854775807 then some (.ints k (l++l')) else none
  | _,_=>none
 | none=>match xtc es c,xtc es cy with
  | some l,some l'=>if (l.length+l'.length)*eb<=140737488355328/\l.length+l'.length<=9223372036854775807 then some (.sl es (l++l')) else none
  | _,_=>none
def ownC:Cell->Option (Option Nat×Cell)
 | .tok d (.ints k l)=>some (some d,.ints k l)
 | .tok d (.sl n r)=>some (some d,.sl n r)
 | .zc=>some (none,.zc)
 | .raw (.slice none 0 0)=>some (none,.zc)
 | _=>none
def vn9 (tk:List Nat) (I:List AV):List AV:=tk.foldl (fun I t=>zay t I) I
def AV.vn9 (tk:List Nat) (x:AV):AV:=tk.foldl (fun x t=>x.strip t) x
variable {I I':List AV} {K:List AV->Prop} {Q:Exit->List AV->Prop} {av res:AV} {F:List AV->AV->Prop}
def zrx (tk:List Nat):Nat->List AV->List (Nat×AV)
 | _,[]=>[]
 | i,x::r=>if tk.all (fun t=>x.wo7 t) then zrx tk (i+1) r else (i,x.vn9 tk)::zrx tk (i+1) r
def wlm (I : List AV) (ti : TI) (d : Nat) (x y : Operand) : Option (List Nat × List Nat × List (Nat × AV)) :=
 match ti.sh with
 | .slice _ es eb ik=>match opd I x,opd I y with
  | .one cx,.one cy=>match ownC cx with
   | some (od,c)=>match y5i es eb ik c cy.bare with
    | some c'=>if nh I d then
     let tk:=od.toList++[d]
     let se:=zrx tk 0 I
     some (d::(orr x++orr y++se.map (·.1)),tk,se++[(d,.one (.tok d c'))])
     else none
    | none=>none
   | none=>none
  | _,_=>none
 | _=>none
theorem wij (eff:List (Nat×AV)):∀(I:List AV) (i:Nat),i<I.length->gt (app eff I) i=((eff.reverse.find? (fun p=>p.1==i)).map (·.2)).getD (gt I i):=by
 induction eff with
 | nil=>intro I i _;rfl
 | cons p eff ih=>
  intro I i hi;obtain ⟨s,v⟩:=p;simp only [app];rw [ih (I.set s v) i (by simpa using hi)];simp only [List.reverse_cons,List.find?_append]
  cases hf:eff.reverse.find? (fun p=>p.1==i) with
  | some q=>simp
  | none=>
   simp only [Option.map_none,Option.getD_none,Option.none_or];by_cases hs:s=i
   . subst hs;simp [gt,hi]
   . simp [gt,hs]
theorem vsf (eff:List (Nat×AV)):∀ I:List AV,(app eff I).length=I.length:=by
 induction eff with
 | nil=>intro I;rfl
 | cons p eff ih=>intro I;simp only [app];rw [ih];simp
theorem xah (e1 e2:List (Nat×AV)):∀ I:List AV,app (e1++e2) I=app e2 (app e1 I):=by
 induction e1 with
 | nil=>intro I;rfl
 | cons p e1 ih=>intro I;simp only [List.cons_append,app];exact ih _
theorem xk1 (hl:I.length=I'.length) (h:∀ i,i<I.length->gt I i=gt I' i):I=I':=by
 apply List.ext_getElem hl;intro i h1 h2
 have:=h i h1
 simpa [gt,h1,h2] using this
theorem Cell.xsg {t:Nat}:∀{c:Cell},c.wo7 t=true->c.strip t=c
 | .tok d c,h=>by
  simp only [Cell.wo7,Bool.and_eq_true,bne_iff_ne] at h;simp [Cell.strip,h.1,Cell.xsg h.2]
 | .raw _,_ | .ints _ _,_ | .sl _ _,_ | .zc,_ | .nn _,_ | .fnp _,_=>rfl
theorem zut {t:Nat}:∀{cs:List Cell},vpo t cs=true->vvn t cs=cs
 | [],_=>rfl
 | c::cs,h=>by
  simp only [vpo,Bool.and_eq_true] at h;simp [vvn,Cell.xsg h.1,zut h.2]
theorem AV.xsg {t:Nat} {x:AV} (h:x.wo7 t=true):x.strip t=x:=by
 cases x with
 | one c=>simp [AV.strip,Cell.xsg (show c.wo7 t=true from h)]
 | agg cs=>simp [AV.strip,zut (show vpo t cs=true from h)]
 | box cs=>simp [AV.strip,zut (show vpo t cs=true from h)]
 | obx cs=>simp [AV.strip,zut (show vpo t cs=true from h)]
 | _=>rfl
theorem Cell.wr0 {t:Nat}:∀{c:Cell},¬c.wo7 t=true->c.vjg t
 | .tok d c,h=>by
  simp only [Cell.wo7,Bool.and_eq_true,bne_iff_ne,not_and] at h;by_cases hd:d=t
  . exact .inl hd
  . exact .inr (Cell.wr0 (h hd))
 | .raw _,h | .ints _ _,h | .sl _ _,h | .zc,h | .fnp _,h=>absurd rfl h
theorem xiy {t:Nat}:∀{cs:List Cell},¬vpo t cs=true->vxx t cs
 | [],h=>absurd rfl h
 | c::cs,h=>by
  simp only [vpo,Bool.and_eq_true,not_and] at h;by_cases hc:c.wo7 t=true
  . exact .inr (xiy (h hc))
  . exact .inl (Cell.wr0 hc)
theorem AV.wr0 {t:Nat} {x:AV} (h:¬x.wo7 t=true):x.vjg t:=by
 cases x with
 | one c=>exact Cell.wr0 h
 | agg cs=>exact xiy h
 | box cs=>exact xiy h
 | obx cs=>exact xiy h
 | _=>exact absurd rfl h
theorem Cell.vii {t s:Nat}:∀{c:Cell},c.wo7 t=true->(c.strip s).wo7 t=true
 | .tok d c,h=>by
  simp only [Cell.wo7,Bool.and_eq_true] at h;unfold Cell.strip
  split
  . exact Cell.vii h.2
  . simp [Cell.wo7,h.1,Cell.vii h.2]
 | .raw _,_ | .ints _ _,_ | .sl _ _,_ | .zc,_ | .nn _,_ | .fnp _,_=>rfl
theorem ws8 {t s:Nat}:∀{cs:List Cell},vpo t cs=true->vpo t (vvn s cs)=true
 | [],_=>rfl
 | c::cs,h=>by
  simp only [vpo,Bool.and_eq_true] at h;simp [vpo,vvn,Cell.vii h.1,ws8 h.2]
theorem AV.vii {t s:Nat} {x:AV} (h:x.wo7 t=true):(x.strip s).wo7 t=true:=by
 cases x with
 | one c=>exact Cell.vii h
 | agg cs=>exact ws8 h
 | box cs=>exact ws8 h
 | obx cs=>exact ws8 h
 | _=>rfl
theorem AV.zq1 (tk:List Nat) {t:Nat}:∀{x:AV},(t∈tk\/x.wo7 t=true)->(x.vn9 tk).wo7 t=true:=by
 unfold AV.vn9
 induction tk with
 | nil=>intro x h;exact h.resolve_left (by simp)
 | cons s tk ih=>
  intro x h;simp only [List.foldl_cons];refine ih ?_
  rcases h with h | h
  . rcases List.mem_cons.1 h with rfl | h
    . exact .inr (AV.wmv _ x)
    . exact .inl h
  . exact .inr (AV.vii h)
theorem AV.v02 (tk:List Nat):∀{x:AV},(∀ t∈tk,x.wo7 t=true)->x.vn9 tk=x:=by
 unfold AV.vn9
 induction tk with
 | nil=>intro x _;rfl
 | cons s tk ih=>
  intro x h;simp only [List.foldl_cons,AV.xsg (h s (by simp))];exact ih (fun t ht=>h t (by simp [ht]))
theorem AV.vku (tk:List Nat):∀(x:AV),(x.vn9 tk).vy8=x.vy8:=by
 unfold AV.vn9
 induction tk with
 | nil=>intro x;rfl
 | cons s tk ih=>intro x;simp only [List.foldl_cons];rw [ih,AV.v9x]
theorem v6d (tk:List Nat):∀ I:List AV,(vn9 tk I).length=I.length:=by
 unfold vn9
 induction tk with
 | nil=>intro I;rfl
 | cons s tk ih=>intro I;simp only [List.foldl_cons];rw [ih,(LeS.strip s I).length]
theorem wk7 (tk:List Nat):∀(I:List AV) (i:Nat),(vn9 tk I)[i]? = (I[i]?).map (AV.vn9 tk):=by
 unfold vn9
 induction tk with
 | nil=>intro I i;simp only [List.foldl_nil];cases I[i]?<;>simp [AV.vn9]
 | cons s tk ih=>
  intro I i;simp only [List.foldl_cons];rw [ih,ywh]
  cases I[i]?<;>rfl
theorem RelI.vn9 {E:Env} {τ:Nat->TV} {M:Nat->Nat->Prop} {a:Act} {w:World} (tk:List Nat):∀{I:List AV},RelI E τ M I a w->RelI E τ M (vn9 tk I) a w:=by
 unfold Slot.vn9
 induction tk with
 | nil=>intro I h;exact h
 | cons s tk ih=>intro I h;exact ih (h.strip s)
theorem y12 (tk:List Nat) {t:Nat} (ht:t∈tk) (I:List AV):¬live (vn9 tk I) t:=fun ⟨i,x,hi,hx⟩=>by
 rw [wk7] at hi
 cases hs:I[i]? with
 | none=>rw [hs] at hi;cases hi
 | some y=>
  rw [hs] at hi;simp at hi;subst hi;exact AV.x0v (AV.zq1 tk (.inl ht)) hx
theorem vs7 (tk:List Nat) {t:Nat} (h:live (vn9 tk I) t):live I t:=by
 obtain ⟨i,x,hi,hx⟩:=h;rw [wk7] at hi
 cases hs:I[i]? with
 | none=>rw [hs] at hi;cases hi
 | some y=>
  rw [hs] at hi;simp at hi;subst hi;refine ⟨i,y,hs,?_⟩;by_cases hn:y.wo7 t=true
  . exact absurd hx (AV.x0v (AV.zq1 tk (.inr hn)))
  . exact AV.wr0 hn
theorem vvv (tk : List Nat) : ∀ (I : List AV) (k i : Nat), i < I.length →
 ((zrx tk k I).reverse.find? (fun p=>p.1==k+i))=if tk.all (fun t=>(gt I i).wo7 t) then none else some (k+i,(gt I i).vn9 tk)
 | [],_,i,h=>by simp at h
 | x::r,k,0,_=>by
  have hnone:(zrx tk (k+1) r).reverse.find? (fun p=>p.1==k)=none:=by
   rw [List.find?_eq_none];intro p hp
   have:∀(I:List AV) (k:Nat),∀ p∈zrx tk k I,k<=p.1:=by
    intro I
    induction I with
    | nil=>intro k p hp;simp [zrx] at hp
    | cons y I ih=>
     intro k p hp;unfold zrx at hp;split at hp
     . have:=ih (k+1) p hp;omega
     . rcases List.mem_cons.1 hp with rfl | hp
       . exact Nat.le_refl _
       . have:=ih (k+1) p hp;omega
   have:=this r (k+1) p (by simpa using hp)
   simp;omega
  unfold zrx;have hg:gt (x::r) 0=x:=rfl;rw [hg]
  split
  . simpa using hnone
  . simp only [List.reverse_cons,List.find?_append,Nat.add_zero,hnone];simp
 | x::r,k,i+1,h=>by
  have ih:=vvv tk r (k+1) i (by simpa using h)
  have hg:gt (x::r) (i+1)=gt r i:=by simp [gt]
  rw [hg,show k+(i+1)=k+1+i by omega];unfold zrx
  split
  . exact ih
  . simp only [List.reverse_cons,List.find?_append,ih]
    split
    . simp;omega
    . rfl
theorem xm5 (hl:I'.length=I.length) (hag:∀ r∈(zrx tk 0 I).map (·.1),gt I' r=gt I r)
 (hex:∀ t∈tk,∀ i,(gt I' i).vjg t->gt I' i=gt I i):app (zrx tk 0 I) I'=vn9 tk I':=by
 apply xk1
 . rw [vsf,v6d]
 . intro i hi;rw [vsf] at hi;rw [wij _ _ _ hi];have hf:=vvv tk I 0 i (by omega);simp only [Nat.zero_add] at hf
   have hsa:gt (vn9 tk I') i=(gt I' i).vn9 tk:=by
    unfold gt;rw [wk7,List.getElem?_eq_getElem hi];simp
   rw [hsa,hf]
   split
   . rename_i hno;simp only [Option.map_none,Option.getD_none];rw [AV.v02];intro t ht;by_cases hc:(gt I' i).wo7 t=true
     . exact hc
     . have:=hex t ht i (AV.wr0 hc)
       rw [this];exact (List.all_eq_true.1 hno) t ht
   . rename_i hsome;simp only [Option.map_some,Option.getD_some];rw [hag i]
     have hm:((zrx tk 0 I).reverse.find? (fun p=>p.1==i))=some (i,(gt I i).vn9 tk):=by rw [hf,if_neg hsome]
     have:=List.mem_of_find?_eq_some hm
     exact List.mem_map.2 ⟨_,by simpa using this,rfl⟩
theorem RdC.y9g {v:Value} {c:Cell} {k:IntKind} {l:List Int} (h:RdC M w v c) (hc:xo9 k c=some l) :
 (∃ ad cap,v=.slice ad l.length cap)/\(l.map (Value.int k)=[]\/∃ b off cap,v=.slice (some ⟨b,off,none⟩) l.length cap/\∀ j u,(l.map (Value.int k))[j]? = some u->¬M b (off+j)/\w.cell? ⟨b,off+j,none⟩=some u):=by
 cases h with
 | raw h=>
  unfold xo9 at hc;split at hc
  . rename_i heq;cases heq
  . rename_i heq;cases heq
  . rename_i heq;cases heq
  . rename_i heq;cases heq;cases hc;exact ⟨⟨_,_,rfl⟩,.inl rfl⟩
  . cases hc
 | zc=>cases hc;exact ⟨⟨_,_,rfl⟩,.inl rfl⟩
 | nn=>cases hc;exact ⟨⟨_,_,rfl⟩,.inl rfl⟩
 | fnp=>cases hc
 | @ints a len cap k' l' b off hl hcap ha hcell=>
  simp only [xo9] at hc;split at hc
  . rename_i hk
    cases hc;subst hk;subst hl;refine ⟨⟨_,_,rfl⟩,?_⟩;by_cases h0:l=[]
    . exact .inl (by rw [h0];rfl)
    . refine .inr ⟨b,off,cap,by rw [ha h0],fun j u hj=>?_⟩
      have hjl:j<l.length:=by simpa using (List.getElem?_eq_some_iff.1 hj).1
      have:=hcell j hjl
      simp [hjl] at hj;rw [<-hj];exact this
  . cases hc
 | sl=>cases hc
theorem RdC.xa9 {v:Value} {c:Cell} {n:Nat} {rows:List (List Cell)} (hn0:0<n) (h:RdC M w v c) (hc:xtc n c=some rows) :
 (∃ ad cap,v=.slice ad rows.length cap)/\(∀ r∈rows,r.length=n)/\∃ vs:List Value,vs.length=rows.length*n/\RdD M w vs rows.flatten/\
   (vs=[]\/∃ b off cap,v=.slice (some ⟨b,off,none⟩) rows.length cap/\∀ j u,vs[j]? = some u->¬M b (off+j)/\w.cell? ⟨b,off+j,none⟩=some u):=by
 cases h with
 | raw h=>
  unfold xtc at hc;split at hc
  . rename_i heq;cases heq
  . rename_i heq;cases heq
  . rename_i heq;cases heq
  . rename_i heq;cases heq;cases hc;exact ⟨⟨_,_,rfl⟩,by simp,[],by simp,trivial,.inl rfl⟩
  . cases hc
 | zc=>cases hc;exact ⟨⟨_,_,rfl⟩,by simp,[],by simp,trivial,.inl rfl⟩
 | nn=>cases hc;exact ⟨⟨_,_,rfl⟩,by simp,[],by simp,trivial,.inl rfl⟩
 | fnp=>cases hc
 | ints=>cases hc
 | @sl a len cap n' rows' b off u hl hcap ha hn hm hr =>
  simp only [xtc] at hc;split at hc
  . rename_i hk
    cases hc;subst hk;subst hl;refine ⟨⟨_,_,rfl⟩,hn,(List.range (rows.length*n')).map (fun q=>u (q / n') (q % n')),by simp,?_,?_⟩
    . have gen:∀(rs:List (List Cell)) (f:Nat->Nat->Value),(∀ r∈rs,r.length=n')->(∀ i (hi:i<rs.length) j (hj:j<rs[i].length),RdC M w (f i j) rs[i][j])->
       RdD M w ((List.range (rs.length*n')).map (fun q=>f (q / n') (q % n'))) rs.flatten:=by
       intro rs
       induction rs with
       | nil=>intro f _ _;simp;exact trivial
       | cons r rs ih=>
        intro f hlen hf;have hrl:r.length=n':=hlen r (by simp)
        have hsplit:List.range ((r::rs).length*n')=List.range n'++(List.range (rs.length*n')).map (n' + ·):=by
         rw [List.length_cons,Nat.add_mul,Nat.one_mul,Nat.add_comm,List.range_add]
        rw [hsplit,List.map_append,List.map_map,List.flatten_cons]
        have happ:∀{vs:List Value} {cs:List Cell} {us:List Value} {ds:List Cell},RdD M w vs cs->RdD M w us ds->RdD M w (vs++us) (cs++ds):=by
         intro vs
         induction vs with
         | nil=>intro cs us ds h1 h2;cases cs with
          | nil=>exact h2
          | cons _ _=>exact h1.elim
         | cons v vs ihv=>intro cs us ds h1 h2;cases cs with
          | nil=>exact h1.elim
          | cons c cs=>exact ⟨h1.1,ihv h1.2 h2⟩
        refine happ ?_ ?_
        . have e:(List.range n').map (fun q=>f (q / n') (q % n'))=(List.range r.length).map (f 0):=by
           rw [hrl];apply List.map_congr_left;intro q hq
           have:=List.mem_range.1 hq
           rw [Nat.div_eq_of_lt this,Nat.mod_eq_of_lt this]
          rw [e]
          have g2:∀(cs:List Cell) (g:Nat->Value),(∀ j (hj:j<cs.length),RdC M w (g j) cs[j])->RdD M w ((List.range cs.length).map g) cs:=by
           intro cs
           induction cs with
           | nil=>intro g _;exact trivial
           | cons c cs ihc=>
            intro g hg;rw [List.length_cons,List.range_succ_eq_map,List.map_cons,List.map_map];exact ⟨hg 0 (by simp),ihc (g∘Nat.succ) (fun j hj=>hg (j+1) (by simpa using hj))⟩
          exact g2 r (f 0) (fun j hj=>hf 0 (by simp) j hj)
        . have e:(List.range (rs.length*n')).map ((fun q=>f (q / n') (q % n'))∘(n' + ·))=(List.range (rs.length*n')).map (fun q=>f (q / n'+1) (q % n')):=by
           apply List.map_congr_left;intro q _;simp only [Function.comp];rw [Nat.add_comm n' q,Nat.add_div_right _ hn0,Nat.add_mod_right]
          rw [e];exact ih (fun i j=>f (i+1) j) (fun r' hr'=>hlen r' (by simp [hr'])) (fun i hi j hj=>hf (i+1) (by simpa using hi) j hj)
      exact gen rows u hn hr
    . by_cases h0:rows=[]
      . exact .inl (by simp [h0])
      . refine .inr ⟨b,off,cap,by rw [ha h0],fun j x hj=>?_⟩
        have hjl:j<rows.length*n':=by simpa using (List.getElem?_eq_some_iff.1 hj).1
        have h1:j / n'<rows.length:=Nat.div_lt_of_lt_mul (by rw [Nat.mul_comm];exact hjl);have h2:j % n'<n':=Nat.mod_lt _ hn0
        have:=hm (j / n') h1 (j % n') h2
        have e:off+j / n'*n'+j % n'=off+j:=by
         have:=Nat.div_add_mod j n'
         rw [Nat.mul_comm] at this;omega
        rw [e] at this;simp [hjl] at hj;rw [<-hj];exact this
  . cases hc
theorem RdD.oneL {M:Nat->Nat->Prop} {w:World}:∀{vs:List Value} {cs:List Cell},RdD M w vs cs->∀ v∈vs,v.oneCell'=true
 | [],[],_,v,hv=>by simp at hv
 | u::vs,_::_,h,v,hv=>by
  rcases List.mem_cons.1 hv with rfl | hv
  . exact h.1.one
  . exact RdD.oneL h.2 v hv
theorem RdD.app {M:Nat->Nat->Prop} {w:World}:∀{vs:List Value} {cs:List Cell} {us:List Value} {ds:List Cell},RdD M w vs cs->RdD M w us ds->RdD M w (vs++us) (cs++ds)
 | [],[],_,_,_,h=>h
 | _::_,_::_,_,_,h,h'=>⟨h.1,h.2.app h'⟩
theorem xmp (es:Nat):∀ rows:List (List Cell),(∀ r∈rows,r.length=es)->chunk es rows.length rows.flatten=rows
 | [],_=>rfl
 | r::rows,h=>by
  have hr:=h r (by simp);simp only [List.length_cons,chunk,List.flatten_cons];rw [<-hr,List.take_left,List.drop_left,hr,xmp es rows (fun r' hr'=>h r' (by simp [hr']))]
theorem Grew.ints {E:Env} {M M':Nat->Nat->Prop} {w w':World} {v v':Value} {k:IntKind} {l:List Int} (h:Grew E M w w' M' v v' 1 l.length (l.map (Value.int k))):RdC M' w' v' (.ints k l):=by
 obtain ⟨ad,cap,hv,hc⟩:=h.len;by_cases h0:l=[]
 . subst h0;rw [hv];exact .ints 0 0 rfl hc (fun h=>absurd rfl h) (fun i hi=>absurd hi (Nat.not_lt_zero i))
 . rcases h.cells with h1 | ⟨g,cap',hv',hc',hcell⟩
   . exact absurd (List.map_eq_nil_iff.1 h1) h0
   . rw [hv'];refine .ints g 0 rfl hc' (fun _=>rfl) (fun i hi=>?_)
     have:=hcell i (.int k l[i]) (by simp [hi])
     simpa using this
theorem Grew.rows {E:Env} {M M':Nat->Nat->Prop} {w w':World} {v v':Value} {es:Nat} {rows:List (List Cell)} {vs:List Value} (h:Grew E M w w' M' v v' es rows.length vs) (hr:RdD M w vs rows.flatten)
 (hlen:∀ r∈rows,r.length=es) (hvl:vs.length=rows.length*es) (hes:0<es):RdC M' w' v' (.sl es rows):=by
 obtain ⟨ad,cap,hv,hc⟩:=h.len;have hr':RdD M' w' vs rows.flatten:=hr.keep h.keeps;by_cases h0:rows=[]
 . subst h0;rw [hv];exact .sl 0 0 (fun _ _=>Go.undef) rfl hc (fun h=>absurd rfl h) (fun r hr=>by cases hr) (fun i hi=>absurd hi (Nat.not_lt_zero i)) (fun i hi=>absurd hi (Nat.not_lt_zero i))
 . have hfl:rows.flatten.length=rows.length*es:=by rw [<-hvl,hr.length]
   have hpos:0<rows.length:=List.length_pos_iff.2 h0
   rcases h.cells with h1 | ⟨g,cap',hv',hc',hcell⟩
   . rw [h1] at hvl
     have:0<rows.length*es:=Nat.mul_pos hpos hes
     rw [<-hvl] at this;simp at this
   . rw [hv']
     have hin:∀ i,i<rows.length->∀ j,j<es->i*es+j<rows.length*es:=fun i hi j hj=>by
      calc i*es+j<i*es+es:=by omega
       _=(i+1)*es:=by rw [Nat.add_mul,Nat.one_mul]
       _<=rows.length*es:=Nat.mul_le_mul_right _ hi
     have gen:∀(vs:List Value) (cs:List Cell),RdD M' w' vs cs->∀ q (hq:q<cs.length),RdC M' w' (vs.getD q Go.undef) cs[q]:=by
      intro vs
      induction vs with
      | nil=>intro cs h q hq;cases cs with
       | nil=>simp at hq
       | cons _ _=>exact h.elim
      | cons v vs ih=>intro cs h q hq;cases cs with
       | nil=>exact h.elim
       | cons c cs=>cases q with
        | zero=>exact h.1
        | succ q=>simpa using ih cs h.2 q (by simpa using hq)
     refine .sl g 0 (fun i j=>vs.getD (i*es+j) Go.undef) rfl hc' (fun _=>rfl) hlen (fun i hi j hj=>?_) (fun i hi j hj=>?_)
     . have hlt:=hin i hi j hj
       have:=hcell (i*es+j) (vs.getD (i*es+j) Go.undef) (by rw [List.getElem?_eq_getElem (by omega)];simp [show i*es+j<vs.length by omega])
       rw [Nat.zero_add];exact this
     . have hrl:rows[i].length=es:=hlen _ (List.getElem_mem hi);have hlt:=hin i hi j (by omega);have hg:=gen vs rows.flatten hr' (i*es+j) (by omega);have hck:=xmp es rows hlen
       have e:rows.flatten[i*es+j]=rows[i][j]:=by
        have h1:(chunk es rows.length rows.flatten)[i]? = rows[i]?:=by rw [hck]
        rw [List.getElem?_eq_getElem (by rw [w0y];exact hi),List.getElem?_eq_getElem hi] at h1;simp only [Option.some.injEq,ztr] at h1
        have h2:((rows.flatten.drop (i*es)).take es)[j]? = rows[i][j]?:=by rw [h1]
        rw [List.getElem?_take,if_pos (by omega),List.getElem?_drop,List.getElem?_eq_getElem (by omega),List.getElem?_eq_getElem hj] at h2;simpa using h2
       rw [e] at hg;exact hg
theorem wch {b off n cap sz:Nat} (h:xec E M w ⟨.slice (some ⟨b,off,none⟩) n cap,sz⟩) (hn:n≠0):off=0:=by
 rcases h with ⟨a,ha⟩ | ⟨e,n',xs,ho,_⟩
 . simp only [Value.slice.injEq] at ha;exact absurd ha.2.1 hn
 . rcases ho.2 with ⟨h1,_⟩ | ⟨g,c,cur,hv,_⟩
   . simp at h1
   . simp only [Value.slice.injEq,Option.some.injEq,Addr.mk.injEq] at hv;exact hv.1.2.1
theorem xec.grew {M M' : Nat → Nat → Prop} {v:Value} {n:Nat} (hg : Grew E M w w' M' v v' es n all) {t : TV} (h : xec E M w t) (hne : ∀ g, tokB t.v = some g → tokB v ≠ some g) : xec E M' w' t := by
 rcases h with h | ⟨e,n',xs,ho,hm⟩
 . exact .inl h
 . rcases ho.2 with ⟨h1,_⟩ | ⟨g,cap,cur,hv,hN,hh,hnc,r⟩
   . exact .inl ⟨none,h1⟩
   . cases cap with
     | zero=>exact .inl ⟨some ⟨g,0,none⟩,by rw [hv];simp at hnc;rw [hnc]⟩
     | succ cap=>
      have hb:=hne g (by rw [hv];rfl);refine .inr ⟨e,n',xs,⟨ho.1,.inr ⟨g,cap+1,cur,hv,hN,?_,hnc,r⟩⟩,fun g' hg' o ho'=>?_⟩
      . rw [hg.block g (Array.getElem?_eq_some_iff.1 hh).1 hb];exact hh
      . have e1:g'=g:=by rw [hv] at hg';simp [Value.ownBlock] at hg';exact hg'.symm
        exact hg.mem _ _ (hm g' hg' o ho') (by rw [e1];exact hb)
theorem vdf {d:Nat} (hdst:o.dst=some d) (hdt:d∈tk) (hI:RelI E τ M I' a w)
 {old:AV} (hd:I'[d]? = some old) (hnh:old.vy8=false) {v:Value} {c':Cell} {n:Nat} (hes:c'.esz=es) (hg:Grew E M w w' M' v v' es n all)
 (hr:RdC M' w' v' c') (hrun:(execOp a.eval o).run P w=.ok (.value v') w') (hv:xec E M w ⟨v,es⟩)
 (ht:∀ t g,live (vn9 tk I') t->tokB (τ t).v=some g->tokB v≠some g) (hh:∀ i av,I'[i]? = some av->av.vy8=true->tokB v≠some (blk (a.tmps.getD i Go.undef)))
 {K:Act->World->Prop} {Q:Exit->Act->World->Prop} {σ2:List AV} (he:σ2=(vn9 tk I').set d (.one (.tok d c'))) (hK:∀ a' w',Rel E σ2 a' w'->K a' w'):o.wp P a w K Q:=by
 have hS:=hI.vn9 tk
 have hget:∀ i av,(vn9 tk I')[i]? = some av->∃ x:AV,I'[i]? = some x/\av=x.vn9 tk:=fun i av hi=>by
  rw [wk7] at hi
  cases hx:I'[i]? with
  | none=>rw [hx] at hi;cases hi
  | some x=>rw [hx] at hi;refine ⟨x,?_,by simpa using hi.symm⟩;first | rfl | exact hx
 have hN:∀ g,tokB v=some g->E.N<=g/\g<w.heap.size:=fun g hg'=>w8u hv hg'
 have hgrow:=hS.grow (d:=d) (old:=old.vn9 tk) (by rw [wk7,hd];rfl) (by rw [AV.vku];exact hnh) (y12 tk hdt I') hg.keeps
  (fun b o' hm=>hg.mem b o' (hI.m0 b o' hm) (fun hb=>by have h1:E.w0.heap.size<=b:=(hN b hb).1;have:=E.hM b o' hm;omega)) hg.mb hg.size hg.os hg.tape hg.output
  (fun k hk=>hg.block k (Nat.lt_of_lt_of_le hk hI.size) (fun hb=>by have h1:E.w0.heap.size<=k:=(hN k hb).1;have h2:k<E.w0.heap.size:=hk;omega))
  (fun i av hi hhold=>by
    obtain ⟨x,hx,rfl⟩:=hget i av hi;rw [AV.vku] at hhold;have hne:=hh i x hx hhold
    exact ⟨hg.block _ ((hI.slot i x hx).xeq hhold) hne,fun o'=>hg.mem _ _ ((hI.hold i x hx hhold).1 o') hne⟩)
  (fun t htl=>(hS.toks t htl).grew hg (fun g h1=>ht t g htl h1)) v' c' (by rw [hes];exact hg.tok)
  (fun i av hi hhold=>by
    obtain ⟨x,hx,rfl⟩:=hget i av hi;rw [AV.vku] at hhold;intro hb
    rcases hg.blk' _ hb with h1 | h1
    . exact hh i x hx hhold h1
    . have:=(hI.slot i x hx).xeq hhold;omega)
  (fun t g htl h1=>fun hb=>by
    rcases hg.blk' _ hb with h2 | h2
    . exact ht t g htl h1 h2
    . have:=(w8u (hS.toks t htl) h1).2;omega) hr
 unfold Oper.wp;rw [hrun];show K (a.put o.dst v') w';rw [hdst];exact hK _ _ (by rw [he];exact ⟨_,M',hgrow⟩)
theorem wzu {cx c:Cell} (h:ownC cx=some (od,c)):(∃ d0,od=some d0/\cx=.tok d0 c)\/(od=none/\c=.zc/\(cx=.zc\/cx=.raw (.slice none 0 0))):=by
 unfold ownC at h;split at h
 . cases h;exact .inl ⟨_,rfl,rfl⟩
 . cases h;exact .inl ⟨_,rfl,rfl⟩
 . cases h;exact .inr ⟨rfl,rfl,.inl rfl⟩
 . cases h;exact .inr ⟨rfl,rfl,.inr rfl⟩
 . cases h
theorem w04 {eb:Nat} {ik : Option IntKind} {c cy c' : Cell} (h : y5i es eb ik c cy = some c') : c'.esz = es ∧ (c.isSl = true → c = .zc ∨ c.esz = es) := by
 unfold y5i at h;split at h
 . split at h
   . rename_i l l' h1 h2;split at h
     . rename_i hc
       cases h;refine ⟨hc.1.symm,fun hs=>?_⟩
       cases c with
       | ints=>exact .inr hc.1.symm
       | zc=>exact .inl rfl
       | sl=>cases h1
       | _=>cases hs
     . cases h
   . cases h
 . split at h
   . rename_i l l' h1 h2;split at h
     . cases h;refine ⟨rfl,fun hs=>?_⟩
       cases c with
       | ints=>cases h1
       | zc=>exact .inl rfl
       | sl n r=>simp only [xtc] at h1;split at h1<;>first | (rename_i hn;exact .inr hn) | cases h1
       | _=>cases hs
     . cases h
   . cases h
theorem wu8 {cx c:Cell} (h:ownC cx=some (od,c)):c.isSl=true:=by
 unfold ownC at h
 split at h<;>first | (cases h;rfl) | cases h
theorem v7z {ad:Option Addr} {g:Nat}:tokB (.slice ad 0 0)≠some g:=by cases ad<;>simp [tokB]
theorem zts {T:TypeId} {x y:Operand} (ho:o.op=.call { callee:=.builtin .append,args:=#[x,y],argTypes:=#[T,T] }) {d:Nat} (hdst:o.dst=some d) {ti:TI} (hti:mkTI P T=some ti)
 {eff:List (Nat×AV)} (hA:wlm I ti d x y=some (rd,tk,eff)):yh6 P o I rd tk eff:=by
 have hok:=vnz hti;obtain ⟨ds,i0,z0,hd0,hi0,hz0,_,_,_,_,_,hsh'⟩:=hok.ex;unfold wlm at hA;split at hA
 case h_2=>cases hA
 rename_i e es eb ik hsh;split at hA
 case h_2=>cases hA
 rename_i cx cy hx hy;split at hA
 case h_2=>cases hA
 rename_i od c hown;split at hA
 case h_2=>cases hA
 rename_i c' ztg;split at hA
 case isFalse=>cases hA
 rename_i hn;simp only [Option.some.injEq,Prod.mk.injEq] at hA;obtain ⟨rfl,rfl,rfl⟩:=hA;obtain ⟨rfl,j,z',hj,hz',hjs,hjb,hes0,hzs,hik⟩:=wqb (hsh'.symm.trans hsh);have hes:0<es:=Nat.pos_of_ne_zero hes0;intro E I' a w hag htk ⟨τ,M,hI⟩ K Q hK;have hox:opd I' x=opd I x:=hag.opd (fun t ht=>by simp [ht]);have hoy:opd I' y=opd I y:=hag.opd (fun t ht=>by simp [ht]);have sx:=hI.opd x;have sy:=hI.opd y;rw [hox,hx] at sx;rw [hoy,hy] at sy;have sx:RdT M w τ (a.eval x) cx:=sx;have sy:RdT M w τ (a.eval y) cy:=sy;have sby:=sy.bare;obtain ⟨hce,hcs⟩:=w04 ztg;generalize htkd:od.toList++[d]=tk at *
 have hdt:d∈tk:=by rw [<-htkd];simp
 have hxc:RdC M w (a.eval x) c/\xec E M w ⟨a.eval x,es⟩/\(∀ t g,live (vn9 tk I') t->tokB (τ t).v=some g->tokB (a.eval x)≠some g)/\
  (∀ i av,I'[i]? = some av->av.vy8=true->tokB (a.eval x)≠some (blk (a.tmps.getD i Go.undef))):=by
  rcases wzu hown with ⟨d0,rfl,rfl⟩ | ⟨rfl,rfl,hcx⟩
  . have hlv:live I' d0:=y1e (x:=x) (by rw [hox,hx];exact .inl rfl);have he:=sx.1.1;have hsz:=sx.1.2;have hok':=hI.toks d0 hlv;have hc0:c=.zc\/c.esz=es:=hcs (wu8 hown)
    have hd0t:d0∈tk:=by rw [<-htkd];simp
    refine ⟨sx.2,?_,fun t g hl hg=>?_,fun i av hi hh=>by rw [he];exact hI.tbox d0 i av hlv hi hh⟩
    . rcases hc0 with rfl | hc0
      . have h2:=sx.2
        have:∃ ad,a.eval x=.slice ad 0 0:=by
         generalize a.eval x=v at h2
         cases h2;exact ⟨_,rfl⟩
        exact .inl this
      . have:(⟨a.eval x,es⟩:TV)=τ d0:=by rw [he,<-hc0,<-hsz]
        rw [this];exact hok'
    . rw [he]
      have hne:t≠d0:=fun e'=>y12 tk hd0t I' (by rw [<-e'];exact hl)
      exact hI.tinj t d0 g (vs7 tk hl) hlv hne hg
  . have:∃ ad,a.eval x=.slice ad 0 0:=by
     rcases hcx with rfl | rfl
     . have h2:RdC M w (a.eval x) .zc:=sx;generalize a.eval x=v at h2
       cases h2;exact ⟨_,rfl⟩
     . exact ⟨none,RdC.zb6 sx⟩
    obtain ⟨ad,hv⟩:=this;rw [hv];exact ⟨RdC.zc,.inl ⟨ad,rfl⟩,fun _ _ _ _=>v7z,fun _ _ _ _=>v7z⟩
 obtain ⟨hxr,hxt,hxs1,hxs2⟩:=hxc;obtain ⟨old,h1,h2⟩:=yn6 (hag.nh (by simp) hn)
 have hfin:app (zrx tk 0 I++[(d,.one (.tok d c'))]) I'=(vn9 tk I').set d (.one (.tok d c')):=by
  rw [xah,xm5 hag.1 (fun r hr=>hag.2 r (by simp only [List.mem_cons,List.mem_append];exact .inr (.inr hr))) (fun t ht i hi=>hag.2 i (htk t ht i hi))];rfl
 have hrunop:∀ v' w',(Builtin.append_ #[T,T] o.type #[a.eval x,a.eval y]).run P w=.ok v' w'->(execOp a.eval o).run P w=.ok (.value v') w':=fun v' w' hr=>by
  simp [execOp,ho,resolve,invoke,builtin,hr]
 have hoff:∀(xs:List Value) (n:Nat),xs.length=n*es->(xs=[]\/∃ b off cap,a.eval x=.slice (some ⟨b,off,none⟩) n cap/\∀ j u,xs[j]? = some u->¬M b (off+j)/\w.cell? ⟨b,off+j,none⟩=some u)->
  (xs=[]\/∃ g cap,a.eval x=.slice (some ⟨g,0,none⟩) n cap/\∀ j u,xs[j]? = some u->¬M g j/\w.cell? ⟨g,j,none⟩=some u):=fun xs n hl hx'=>by
  by_cases h0:xs=[]
  . exact .inl h0
  . rcases hx' with h | ⟨b,off,cap,hv,hc⟩
    . exact .inl h
    . have hn0:n≠0:=fun e'=>h0 (List.eq_nil_of_length_eq_zero (by rw [hl,e'];simp))
      have ho0:off=0:=wch (by rw [<-hv];exact hxt) hn0;subst ho0;exact .inr ⟨b,cap,hv,fun j u hj=>by simpa using hc j u hj⟩
 unfold y5i at ztg;split at ztg
 . rename_i k;split at ztg
   . rename_i l l' hl hl';split at ztg
     . rename_i hc;obtain ⟨rfl,hb1,hb2⟩:=hc
       cases ztg;obtain ⟨hxl,hxcells⟩:=hxr.y9g hl;obtain ⟨hyl,hycells⟩:=sby.y9g hl';obtain ⟨v',w',M',hr,hg⟩:=vky (P:=P) hd0 hj hz' hjs hjb hzs hes hI.size hI.mb o.type hxt hxl (by simp) (hoff _ _ (by simp) hxcells) hyl (by simp) (by simp [Value.oneCell']) hycells hb1 hb2
       have hg':Grew E M w w' M' (a.eval x) v' 1 (l++l').length ((l++l').map (Value.int k)):=by simpa using hg
       exact vdf hdst hdt hI h1 h2 rfl hg' hg'.ints (hrunop v' w' hr) hxt hxs1 hxs2 hfin hK
     . cases ztg
   . cases ztg
 . split at ztg
   . rename_i l l' hl hl';split at ztg
     . rename_i hc;obtain ⟨hb1,hb2⟩:=hc
       cases ztg;obtain ⟨hxl,hxn,vs,hvl,hvr,hxcells⟩:=hxr.xa9 hes hl;obtain ⟨hyl,hyn,us,hul,hur,hycells⟩:=sby.xa9 hes hl';obtain ⟨v',w',M',hr,hg⟩:=vky (P:=P) hd0 hj hz' hjs hjb hzs hes hI.size hI.mb o.type hxt hxl hvl (hoff _ _ hvl hxcells) hyl hul hur.oneL hycells hb1 hb2
       have hg':Grew E M w w' M' (a.eval x) v' es (l++l').length (vs++us):=by simpa using hg
       refine vdf hdst hdt hI h1 h2 rfl hg' (hg'.rows (by rw [List.flatten_append];exact hvr.app hur) (fun r hr'=>?_) (by simp [hvl,hul,Nat.add_mul]) hes) (hrunop v' w' hr) hxt hxs1 hxs2 hfin hK
       rcases List.mem_append.1 hr' with h | h
       . exact hxn r h
       . exact hyn r h
     . cases ztg
   . cases ztg
def OwnR (M:Nat->Nat->Prop) (w:World) (v:Value) (c:Cell):Prop:=
 ∃(b:Nat) (T:TypeId) (vs q:List Value) (cap:Nat),v=.slice (some ⟨b,0,none⟩) c.cnt cap/\w.heap[b]? = some (.cells (vs++q).toArray T (0,0))/\RdD (fun b' o=>M b' o\/b'=b) w vs c.flat/\
  c.uni/\c.cnt<=cap/\cap*c.esz<=vs.length+q.length/\∀ o,¬M b o
def RdR (M:Nat->Nat->Prop) (w:World) (v:Value):AV->Prop
 | .tup l=>∃ vs:List Value,v=.tuple vs.toArray/\RdBL M w vs l
 | .arr pre c post=>pre=[]/\post=none/\OwnR M w v c
 | av=>RdB M w v av
def wuj (P:Program) (f:FuncId):Prop:=∃ fn,P.funcs[f]? = some fn/\(fn.name == "runtime.NumGoroutine")=false/\fn.body.isNone=false
def Bounded (M:Nat->Nat->Prop) (w:World):Prop:=∀ b o,M b o->b<w.heap.size
def Back (M:Nat->Nat->Prop) (w:World) (res:AV):Ending->World->Prop:=fun e w'=>∃ v,e=.returned v/\Below w.heap.size w w'/\RdR M w' v res/\(res.vy8=true->w.heap.size<=blk v)
def yn2 (P:Program) (f:FuncId) (args:List AV) (res:AV):Prop:=
 wuj P f/\∀(M:Nat->Nat->Prop) (w:World) (vs:List Value),Bounded M w->RdBL M w vs args->Calls P f vs.toArray w (Back M w res)
def vyz (P:Program) (F:List AV->AV->Prop) (M:Nat->Nat->Prop) (w:World) (v:Value):Prop:=
 ∃ f caps,v=.func (.func f) #[] caps/\wuj P f/\∀ args res vs,F args res->Bounded M w->RdBL M w vs args->Calls P f (vs.toArray++caps) w (Back M w res)
def argA:AV->Option AV
 | .one c=>some (.one c.bare)
 | .agg cs=>some (.agg (zcr cs))
 | .elt cs=>some (.elt cs)
 | .any=>some .any
 | _=>none
def x1v (I:List AV):List Operand->Option (List AV)
 | []=>some []
 | x::r=>match argA (opd I x),x1v I r with
  | some av,some l=>some (av::l)
  | _,_=>none
def orrL:List Operand->List Nat
 | []=>[]
 | x::r=>orr x++orrL r
theorem wo4 {v:Value} {b:AV} (h:argA av=some b) (hs:vi6 M w τ tm v av):RdB M w v b:=by
 cases av with
 | one c=>cases h;exact RdT.bare hs
 | agg cs=>cases h;obtain ⟨vs,rfl,hr⟩:=hs;exact ⟨vs,rfl,hr.bare⟩
 | elt cs=>cases h;exact hs
 | any=>cases h;exact trivial
 | _=>cases h
theorem z8h {E:Env} {τ:Nat->TV} {M:Nat->Nat->Prop} {I:List AV} {a:Act} {w:World} (hI:RelI E τ M I a w):∀(xs:List Operand) (args:List AV),x1v I xs=some args->RdBL M w (xs.map a.eval) args
 | [],args,h=>by simp only [x1v,Option.some.injEq] at h;subst h;exact trivial
 | x::r,args,h=>by
  simp only [x1v] at h;split at h
  . rename_i av l h1 h2
    cases h;exact ⟨wo4 h1 (hI.opd x),z8h hI r l h2⟩
  . cases h
theorem yhz {I I':List AV}:∀(xs:List Operand),(∀ x:Operand,(∀ t∈orr x,t∈orrL xs)->opd I' x=opd I x)->x1v I' xs=x1v I xs
 | [],_=>rfl
 | x::r,h=>by
  simp only [x1v];rw [h x (fun t ht=>by simp [orrL,ht]),yhz r (fun y hy=>h y (fun t ht=>by simp [orrL,hy t ht]))]
theorem OwnR.slot {v:Value} {c:Cell} (h:OwnR M w v c):vi6 (fun b o=>M b o\/b=blk v) w τ tm v (.arr [] c none)/\blk v<w.heap.size:=by
 obtain ⟨b,T,vs,q,cap,rfl,hb,hr,hu,h1,h2,_⟩:=h;exact ⟨⟨b,T,vs,q,cap,rfl,by simpa using hb,hr,(by intro p hp;cases hp),hu,h1,h2⟩,(Array.getElem?_eq_some_iff.1 hb).1⟩
theorem OwnR.read {v:Value} {c:Cell} (h:OwnR M w v c):RdC M w v c:=by
 obtain ⟨b,T,vs,q,cap,rfl,hb,hr,hu,h1,h2,h3⟩:=h;exact zjx (pre:=[]) (by simpa using hb) (hr.keep (fun b' o u hm hc=>⟨fun h=>hm (.inl h),hc⟩)) hu h1 h3
theorem RdR.slot {M:Nat->Nat->Prop} {w:World} {τ:Nat->TV} {tm:Array Value} {v:Value} {av:AV} (hnh:av.vy8=false) (h:RdR M w v av):vi6 M w τ tm v av/\(∀ t,¬av.vjg t)/\av.vy8=false/\av.rf=none:=by
 cases av with
 | tup l=>exact ⟨h,fun t ht=>ht,rfl,rfl⟩
 | one c=>have:=RdB.slot (τ:=τ) (tm:=tm) (show RdB M w v (.one c) from h);exact ⟨this.1,this.2,rfl,rfl⟩
 | agg cs=>have:=RdB.slot (τ:=τ) (tm:=tm) (show RdB M w v (.agg cs) from h);exact ⟨this.1,this.2,rfl,rfl⟩
 | elt cs=>exact ⟨h,fun t ht=>ht,rfl,rfl⟩
 | any=>exact ⟨trivial,fun t ht=>ht,rfl,rfl⟩
 | undef=>exact ⟨h,fun t ht=>ht,rfl,rfl⟩
 | arr _ _ _=>cases hnh
 | _=>exact (show False from h).elim
theorem zkn (hd:∀ d,o.dst=some d->d∈rd/\nh I d=true)
 (hrun:∀(E:Env) (τ:Nat->TV) (M:Nat->Nat->Prop) (I':List AV) (a:Act) (w:World),wwy rd I I'->RelI E τ M I' a w->
   ∃ f args,(execOp a.eval o).run P w=.ok (.enter f args) w/\Calls P f args w (Back M w res)):yh6 P o I rd [] (match o.dst with | some d=>[(d,res)] | none=>[]):=by
 intro E I' a w hag _ ⟨τ,M,hI⟩ K Q hK;obtain ⟨f,args,hr,hc⟩:=hrun E τ M I' a w hag hI;unfold Oper.wp;rw [hr];show Calls P f args w _;refine hc.mono ?_;rintro e w' ⟨v,rfl,hb,hrd,hfr⟩;show K (a.put o.dst v) w'
 cases hdst:o.dst with
 | none=>
  rw [hdst] at hK;exact hK _ _ ⟨τ,M,hI.below hb⟩
 | some d=>
  rw [hdst] at hK;obtain ⟨h1,h2⟩:=hd d hdst;obtain ⟨old,h3,h4⟩:=yn6 (hag.nh h1 h2)
  cases hh:res.vy8 with
  | false=>
   have hs:=hrd.slot (τ:=τ) (tm:=a.tmps) hh;exact hK _ _ ⟨τ,M,(hI.below hb).put h3 h4 v res hs.2.2.1 hs.1 (fun s b hr=>by rw [hs.2.2.2] at hr;cases hr) (fun t ht=>absurd ht (hs.2.1 t))⟩
  | true=>
   cases res with
   | arr pre c post=>
    obtain ⟨rfl,rfl,how⟩:=hrd;have hs:=how.slot (τ:=τ) (tm:=a.tmps);exact hK _ _ ⟨τ,_,hI.yja hb h3 h4 v _ rfl rfl (hfr rfl) hs.2 hs.1 (fun t ht=>ht.elim)⟩
   | box _=>exact hrd.elim
   | obx _=>exact hrd.elim
   | _=>cases hh
theorem v7d (h:wuj P f) (args:Array Value) (w:World):(callFunc f args).run P w=.ok (.enter f args) w:=by
 obtain ⟨fn,h1,h2,h3⟩:=h
 have h2':¬fn.name = "runtime.NumGoroutine" :=by simpa using h2
 have h3':¬fn.body=none:=fun e=>by rw [e] at h3;cases h3
 simp [callFunc,program,Sem.run,h1,h2',h3']
def v9o (o:Oper):List Nat:=match o.dst with
 | some d=>[d]
 | none=>[]
def x93 (o:Oper) (res:AV):List (Nat×AV):=match o.dst with
 | some d=>[(d,res)]
 | none=>[]
def yro (I:List AV) (o:Oper):Bool:=match o.dst with
 | some d=>nh I d
 | none=>true
theorem wja (ho:o.op=.call { callee:=.value (.func f),args:=xs.toArray,argTypes:=ts }) {args:List AV} (ha:x1v I xs=some args)
 (hn:yro I o=true) (hc:yn2 P f args res):yh6 P o I (v9o o++orrL xs) [] (x93 o res):=by
 refine zkn (fun d hd=>⟨by simp [v9o,hd],by simpa [yro,hd] using hn⟩) (fun E τ M I' a w hag hI=>?_)
 have ha':x1v I' xs=some args:=by rw [yhz xs (fun x hx=>hag.opd (fun t ht=>by simp [hx t ht]))];exact ha
 refine ⟨f,(xs.map a.eval).toArray,?_,hc.2 M w _ hI.mb (z8h hI xs args ha')⟩;simp [execOp,ho,resolve,Deferred.ofValue,Act.eval,invoke,v7d hc.1]
theorem w1s {t:Nat} (ho:o.op=.call { callee:=.value (.tmp t),args:=xs.toArray,argTypes:=ts }) (ht:gt I t=.one (.raw (.func (.func f) #[] #[])))
 {args:List AV} (ha:x1v I xs=some args) (hn:yro I o=true) (hc:yn2 P f args res):yh6 P o I (v9o o++t::orrL xs) [] (x93 o res):=by
 refine zkn (fun d hd=>⟨by simp [v9o,hd],by simpa [yro,hd] using hn⟩) (fun E τ M I' a w hag hI=>?_)
 have ha':x1v I' xs=some args:=by rw [yhz xs (fun x hx=>hag.opd (fun t ht=>by simp [hx t ht]))];exact ha
 have hs:=hI.gt t;rw [hag.2 t (by simp),ht] at hs;have e:a.tmps.getD t Go.undef=.func (.func f) #[] #[]:=RdC.zb6 hs;refine ⟨f,(xs.map a.eval).toArray,?_,hc.2 M w _ hI.mb (z8h hI xs args ha')⟩;have he:a.eval (.tmp t)=.func (.func f) #[] #[]:=e;simp [execOp,ho,resolve,Deferred.ofValue,he,invoke,v7d hc.1]
theorem yg0 {t:Nat} (ho:o.op=.call { callee:=.value (.tmp t),args:=xs.toArray,argTypes:=ts }) (ht:gt I t=.one (.fnp (vyz P F)))
 {args:List AV} (ha:x1v I xs=some args) (hn:yro I o=true) (hc:F args res):yh6 P o I (v9o o++t::orrL xs) [] (x93 o res):=by
 refine zkn (fun d hd=>⟨by simp [v9o,hd],by simpa [yro,hd] using hn⟩) (fun E τ M I' a w hag hI=>?_)
 have ha':x1v I' xs=some args:=by rw [yhz xs (fun x hx=>hag.opd (fun t ht=>by simp [hx t ht]))];exact ha
 have hs:=hI.gt t;rw [hag.2 t (by simp),ht] at hs;have hs:RdC M w (a.tmps.getD t Go.undef) (.fnp (vyz P F)):=hs;generalize hv:a.tmps.getD t Go.undef=v at hs
 cases hs with
 | fnp h hp=>
  obtain ⟨f,caps,rfl,v6l,hspec⟩:=hp M w (fun _ _ _ h1 h2=>⟨h1,h2⟩);refine ⟨f,(xs.map a.eval).toArray++caps,?_,hspec args res _ hc hI.mb (z8h hI xs args ha')⟩;have he:a.eval (.tmp t)=.func (.func f) #[] caps:=hv;simp [execOp,ho,resolve,Deferred.ofValue,he,invoke,v7d v6l]
theorem RdBL.append {M:Nat->Nat->Prop} {w:World}:∀{vs:List Value} {l:List AV} {us:List Value} {r:List AV},RdBL M w vs l->RdBL M w us r->RdBL M w (vs++us) (l++r)
 | [],[],_,_,_,h=>h
 | _::_,_::_,_,_,h,h'=>⟨h.1,h.2.append h'⟩
theorem vko (ho:o.op=.makeFunc (.func f) #[] xs.toArray) {caps:List AV} (ha:x1v I xs=some caps) (v6l:wuj P f)
 (hF:∀ args res,F args res->yn2 P f (args++caps) res) {r:List Nat×List (Nat×AV)} (h:val I o (orrL xs) (.one (.fnp (vyz P F)))=some r):yh6 P o I r.1 [] r.2:=by
 refine yh6.pure h rfl rfl (fun E τ M I' a w hop hgt hI=>?_)
 have ha':x1v I' xs=some caps:=by rw [yhz xs hop];exact ha
 have hr:=z8h hI xs caps ha';refine ⟨.func (.func f) #[] (xs.map a.eval).toArray,by simp [execOp,ho,Instr.makeFunc],RdC.fnp rfl (fun M' w' hk=>⟨f,_,rfl,v6l,fun args res vs hres hb hrd=>?_⟩),fun t ht=>ht.elim⟩
 have:=(hF args res hres).2 M' w' (vs++xs.map a.eval) hb (hrd.append (hr.keep hk))
 simpa using this
def GStep (P:Program) (ops:Array Oper) (o:Oper) (I:List AV) (rd tk:List Nat) (eff:List (Nat×AV)):Prop:=
 (∀ t∈tk,∀ i,(gt I i).vjg t->i∈rd)/\
 ∀(E:Env) (I':List AV) (a:Act) (w:World),wwy rd I I'->(∀ t∈tk,∀ i,(gt I' i).vjg t->i∈rd)->Rel E I' a w->∀(K:Act->World->Prop) (Q:Exit->Act->World->Prop),
  (∀ a' w',Rel E (app eff I') a' w'->K a' w')->if Region.wanted o (yielded ops a.tmps) then o.wp P a w K Q else K (a.put o.dst Go.undef) w
theorem GStep.plain {eff:List (Nat×AV)} (hg:o.guard=none) (ht:∀ t∈tk,∀ i,(gt I i).vjg t->i∈rd) (h:yh6 P o I rd tk eff):GStep P ops o I rd tk eff:=
 ⟨ht,fun E I' a w hag htk hR K Q hK=>by simp only [Region.wanted,hg,if_true];exact h E I' a w hag htk hR K Q hK⟩
theorem wwy.sub {rd':List Nat} (h:wwy rd I I') (hs:∀ r∈rd',r∈rd):wwy rd' I I':=⟨h.1,fun r hr=>h.2 r (hs r hr)⟩
theorem wzv {d:Nat} (hj:(ops[j]?).bind (·.dst)=some d) (hI:RelI E τ M I a w) :
 (∀ b,gt I d=.one (.raw (.bool b))->yielded ops a.tmps j=some b)/\(gt I d=.undef->yielded ops a.tmps j=none):=by
 have hs:=hI.gt d;unfold yielded;rw [hj];simp only [Option.bind_some];constructor
 . intro b hb;rw [hb] at hs;have e:a.tmps.getD d Go.undef=.bool b:=RdC.zb6 hs;have hlt:d<a.tmps.size:=hI.lt (vxi hb (by simp));rw [Array.getElem?_eq_getElem hlt];rw [Array.getD_eq_getD_getElem?,Array.getElem?_eq_getElem hlt] at e;simp at e;rw [e]
 . intro hb;rw [hb] at hs;have e:a.tmps.getD d Go.undef=Go.undef:=hs;have hlt:d<a.tmps.size:=hI.lt (vxi hb (by simp));rw [Array.getElem?_eq_getElem hlt];rw [Array.getD_eq_getD_getElem?,Array.getElem?_eq_getElem hlt] at e;simp at e;rw [e];rfl
theorem GStep.taken {eff:List (Nat×AV)} {d:Nat} (hg:o.guard=some (j,b)) (hj:(ops[j]?).bind (·.dst)=some d)
 (hd:gt I d=.one (.raw (.bool b))) (h:yh6 P o I rd [] eff):GStep P ops o I (d::rd) [] eff:=by
 refine ⟨(by intro t ht;cases ht),?_⟩;intro E I' a w hag _ hR K Q hK;obtain ⟨τ,M,hI⟩:=hR;have hy:=(wzv hj hI).1 b (by rw [hag.2 d (by simp)];exact hd);simp only [Region.wanted,hg,hy,beq_self_eq_true,if_true];exact h E I' a w (hag.sub (fun r hr=>by simp [hr])) (fun t ht=>by cases ht) ⟨τ,M,hI⟩ K Q hK
theorem GStep.wae {d:Nat} (hg:o.guard=some (j,b)) (hj:(ops[j]?).bind (·.dst)=some d)
 (hd:gt I d=.one (.raw (.bool (!b)))\/gt I d=.undef) {e:Nat} (ho:o.dst=some e) (hn:nh I e=true):GStep P ops o I [d,e] [] [(e,.undef)]:=by
 refine ⟨(by intro t ht;cases ht),?_⟩;intro E I' a w hag _ hR K Q hK;obtain ⟨τ,M,hI⟩:=hR
 have hw:Region.wanted o (yielded ops a.tmps)=false:=by
  rcases hd with hd | hd
  . have hy:=(wzv hj hI).1 (!b) (by rw [hag.2 d (by simp)];exact hd);simp only [Region.wanted,hg,hy]
    cases b<;>rfl
  . have hy:=(wzv hj hI).2 (by rw [hag.2 d (by simp)];exact hd);simp only [Region.wanted,hg,hy];rfl
 simp only [hw,Bool.false_eq_true,if_false];obtain ⟨old,h1,h2⟩:=yn6 (hag.nh (by simp) hn);rw [ho];exact hK _ _ ⟨τ,M,hI.put h1 h2 Go.undef .undef rfl rfl (fun s b hr=>by cases hr) (fun t ht=>ht.elim)⟩
def Run (P:Program) (ops:Array Oper):List Oper->List AV->(List AV->Prop)->Prop
 | [],I,K=>K I
 | o::r,I,K=>∃ rd tk eff,GStep P ops o I rd tk eff/\Run P ops r (app eff I) K
theorem Run.wpList {ops:Array Oper} {E:Env} {Q:Exit->Act->World->Prop} {K:List AV->Prop} (hQ:∀ I a w,K I->Rel E I a w->Q .normal a w):∀(l:List Oper) (I:List AV) (a:Act) (w:World),
 Run P ops l I K->Rel E I a w->Go.wpList P ops Q l a w
 | [],I,a,w,h,hR=>hQ I a w h hR
 | o::r,I,a,w,⟨rd,tk,eff,hg,hr⟩,hR=>by
  refine wpList_step (fun K' hK'=>?_);exact hg.2 E I a w ⟨rfl,fun _ _=>rfl⟩ hg.1 hR K' Q (fun a' w' hR'=>hK' _ _ (Run.wpList hQ r (app eff I) a' w' hr hR'))
structure SR where
 rd:List Nat
 tk:List Nat
 eff:List (Nat×AV)
def SR.writes (s:SR):List Nat:=s.eff.map (·.1)
def direct (o:Oper):List Nat:=(o.after.toList.filter (Region.binds .any)).map (·.on)
def befs:List Oper->List (List Nat)->List (List Nat)
 | [],acc=>acc
 | o::r,acc=>befs r (acc++[(direct o++(direct o).flatMap fun d=>acc.getD d []).eraseDups])
def wx0 (s t:SR) (σi σj:List AV):Bool:=
 (s.writes.all fun x=>!t.rd.contains x)&&(t.writes.all fun x=>!s.rd.contains x)&&
 (t.tk.all fun x=>s.eff.all fun p=>p.2.wo7 x&&(gt σi p.1).wo7 x)&&(s.tk.all fun x=>t.eff.all fun p=>p.2.wo7 x&&(gt σj p.1).wo7 x)
def wrc:List SR->List AV->List (SR×List AV)
 | [],_=>[]
 | s::r,I=>(s,I)::wrc r (app s.eff I)
def z8c (bs:List (List Nat)):Nat->List (SR×List AV)->List (SR×List AV)->Bool
 | _,_,[]=>true
 | j,before,x::r=>(before.zipIdx.all fun (y,i)=>(bs.getD j []).contains i||wx0 y.1 x.1 y.2 x.2)&&z8c bs (j+1) (before++[x]) r
def vwb:Nat->List Oper->Bool
 | _,[]=>true
 | j,o::r=>(direct o).all (· < j)&&vwb (j+1) r
def indep (l:List Oper) (recs:List SR) (I:List AV):Bool:=
 vwb 0 l&&(recs.all fun s=>s.writes.all fun x=>s.rd.contains x)&&z8c (befs l []) 0 [] (wrc recs I)
def RunD (P:Program) (ops:Array Oper) (l:List Oper) (σ0:List AV):List Oper->List SR->List AV->(List AV->Prop)->Prop
 | [],acc,I,K=>indep l acc σ0=true/\K I
 | o::r,acc,I,K=>∃ rd tk eff,GStep P ops o I rd tk eff/\RunD P ops l σ0 r (acc++[⟨rd,tk,eff⟩]) (app eff I) K
def ev (eff:List (Nat×AV)) (r:Nat):Option AV:=(eff.reverse.find? (fun p=>p.1==r)).map (·.2)
theorem ve8 (eff:List (Nat×AV)) (h:r<I.length):gt (app eff I) r=(ev eff r).getD (gt I r):=wij eff I r h
theorem zvg {eff:List (Nat×AV)} (h:r∉eff.map (·.1)):ev eff r=none:=by
 unfold ev;rw [Option.map_eq_none_iff,List.find?_eq_none];intro p hp;simp only [beq_iff_eq]
 exact fun e=>h (List.mem_map.2 ⟨p,by simpa using hp,e⟩)
theorem x4c {eff:List (Nat×AV)} (h:r∈eff.map (·.1)):∃ v,ev eff r=some v/\(r,v)∈eff:=by
 unfold ev;obtain ⟨p,hp,he⟩:=List.mem_map.1 h
 cases hf:eff.reverse.find? (fun p=>p.1==r) with
 | none=>rw [List.find?_eq_none] at hf;exact absurd (by simpa using he) (hf p (by simpa using hp))
 | some q=>
  refine ⟨q.2,rfl,?_⟩;have h1:=List.find?_some hf;have h2:=List.mem_of_find?_eq_some hf;simp only [beq_iff_eq] at h1;rw [<-h1];simpa using h2
section any
variable (recs:List SR) (σ0:List AV)
def st (X:Nat->Bool):Nat->List AV
 | 0=>σ0
 | n+1=>if X n then app (recs.getD n ⟨[],[],[]⟩).eff (st X n) else st X n
theorem zql (X:Nat->Bool):∀ n,(st recs σ0 X n).length=σ0.length
 | 0=>rfl
 | n+1=>by
  unfold st
  split
  . rw [vsf,zql X n]
  . exact zql X n
def wr (i:Nat):List Nat:=(recs.getD i ⟨[],[],[]⟩).writes
theorem ze3 {X Y:Nat->Bool} {r:Nat} (hr:r<σ0.length):∀ n,(∀ i,i<n->r∈wr recs i->X i=Y i)->gt (st recs σ0 X n) r=gt (st recs σ0 Y n) r
 | 0,_=>rfl
 | n+1,h=>by
  have ih:=ze3 hr n (fun i hi=>h i (by omega));by_cases hw:r∈wr recs n
  . have e:=h n (by omega) hw;unfold st;rw [<-e]
    split
    . rw [ve8 _ (by rw [zql];exact hr),ve8 _ (by rw [zql];exact hr),ih]
    . exact ih
  . have hn:ev (recs.getD n ⟨[],[],[]⟩).eff r=none:=zvg hw
    have one:∀ Z,gt (st recs σ0 Z (n+1)) r=gt (st recs σ0 Z n) r:=fun Z=>by
     show gt (if Z n then _ else _) r=_
     split
     . rw [ve8 _ (by rw [zql];exact hr),hn];rfl
     . rfl
    rw [one,one,ih]
theorem vaq {Z:Nat->Bool} {r j:Nat} (hr:r<σ0.length) (hj:Z j=true) {v:AV} (hv:ev (recs.getD j ⟨[],[],[]⟩).eff r=some v):∀ n,j<n->(∀ i,j<i->i<n->Z i=true->r∉wr recs i)->gt (st recs σ0 Z n) r=v
 | 0,h,_=>absurd h (by omega)
 | n + 1, h, ha => by
  by_cases e:j=n
  . subst e;unfold st;rw [if_pos hj,ve8 _ (by rw [zql];exact hr),hv];rfl
  . have ih:=vaq hr hj hv n (by omega) (fun i h1 h2=>ha i h1 (by omega));unfold st
    split
    . rename_i hz;rw [ve8 _ (by rw [zql];exact hr),zvg (ha n (by omega) (by omega) hz)];exact ih
    . exact ih
theorem vm4 {X:Nat->Bool} {j:Nat}:∀ n,j<=n->(∀ i,j<=i->i<n->X i=false)->st recs σ0 X n=st recs σ0 X j
 | 0,h,_=>by rw [show j=0 by omega]
 | n+1,h,ha=>by
  by_cases e:j=n+1
  . rw [e]
  . rw [<-vm4 n (by omega) (fun i h1 h2=>ha i h1 (by omega))];show (if X n then _ else _)=_;rw [ha n (by omega) (by omega)];rfl
theorem zvi {X Y:Nat->Bool}:∀ n,(∀ i,i<n->X i=Y i)->st recs σ0 X n=st recs σ0 Y n
 | 0,_=>rfl
 | n+1,h=>by
  unfold st;rw [h n (by omega),zvi n (fun i hi=>h i (by omega))]
variable (N:Nat) (bef:Nat->List Nat)
structure xu7:Prop where
 lt:∀ j i,i∈bef j->i<j
 rdw:∀ j,j<N->∀ x∈wr recs j,x∈(recs.getD j ⟨[],[],[]⟩).rd
 ap:∀ i j,i<j->j<N->i∉bef j->wx0 (recs.getD i ⟨[],[],[]⟩) (recs.getD j ⟨[],[],[]⟩) (st recs σ0 (fun _=>true) i) (st recs σ0 (fun _=>true) j)=true
variable {recs σ0 N bef}
theorem xu7.disj (h:xu7 recs σ0 N bef) (hi:i<N) (hj:j<N) (hne:i≠j) (h1:i∉bef j) (h2:j∉bef i) (hr:r∈(recs.getD j ⟨[],[],[]⟩).rd):r∉wr recs i:=by
 intro hw
 rcases Nat.lt_or_ge i j with hlt | hge
 . have:=h.ap i j hlt hj h1
   simp only [wx0,Bool.and_eq_true] at this;have h3:=(List.all_eq_true.1 this.1.1.1) r hw;simp at h3;exact h3 hr
 . have:=h.ap j i (by omega) hi h2
   simp only [wx0,Bool.and_eq_true] at this;have h3:=(List.all_eq_true.1 this.1.1.2) r hw;simp at h3;exact h3 hr
theorem xu7.tok (h:xu7 recs σ0 N bef) (hi:i<N) (hj:j<N) (hne:i≠j) (h1:i∉bef j) (h2:j∉bef i) {t:Nat} (ht:t∈(recs.getD j ⟨[],[],[]⟩).tk) {v:AV} (hv:(r,v)∈(recs.getD i ⟨[],[],[]⟩).eff) :
 ¬v.vjg t/\¬(gt (st recs σ0 (fun _=>true) i) r).vjg t:=by
 have key:(v.wo7 t&&(gt (st recs σ0 (fun _=>true) i) r).wo7 t)=true:=by
  rcases Nat.lt_or_ge i j with hlt | hge
  . have:=h.ap i j hlt hj h1
    simp only [wx0,Bool.and_eq_true] at this;exact (List.all_eq_true.1 ((List.all_eq_true.1 this.1.2) t ht)) (r,v) hv
  . have:=h.ap j i (by omega) hi h2
    simp only [wx0,Bool.and_eq_true] at this;exact (List.all_eq_true.1 ((List.all_eq_true.1 this.2) t ht)) (r,v) hv
 simp only [Bool.and_eq_true] at key;exact ⟨AV.x0v key.1,AV.x0v key.2⟩
structure Next (bef:Nat->List Nat) (X:Nat->Bool) (j:Nat):Prop where
 closed:∀ k,X k=true->∀ i∈bef k,X i=true
 out:X j=false
 all:∀ i∈bef j,X i=true
theorem y9t (j:Nat) (hj:j<=N):st recs σ0 (fun i=>decide (i<j)) N=st recs σ0 (fun _=>true) j:=by
 rw [vm4 recs σ0 N hj (fun i h1 _=>by simp;omega)];exact zvi recs σ0 j (fun i hi=>by simp [hi])
theorem Next.wwy (h:xu7 recs σ0 N bef) {X:Nat->Bool} {j:Nat} (hj:j<N) (hX:Next bef X j):wwy (recs.getD j ⟨[],[],[]⟩).rd (st recs σ0 (fun _=>true) j) (st recs σ0 X N):=by
 refine ⟨by rw [zql,zql],fun r hr=>?_⟩;by_cases hlen:r<σ0.length
 . rw [← y9t (N := N) j (by omega)];refine ze3 recs σ0 hlen N (fun i hi hw=>?_);by_cases e:i=j
   . subst e;rw [hX.out];simp
   . by_cases h1:i∈bef j
     . rw [hX.all i h1];simp [h.lt j i h1]
     . by_cases h2:j∈bef i
       . have h3:X i=false:=by
          cases hx:X i with
          | false=>rfl
          | true=>have:=hX.closed i hx j h2;rw [hX.out] at this;cases this
         have:=h.lt i j h2
         rw [h3];simp;omega
       . exact absurd hw (h.disj hi hj e h1 h2 hr)
 . have e1:∀ Z n,gt (st recs σ0 Z n) r=.any:=fun Z n=>by
    unfold gt;rw [List.getElem?_eq_none (by rw [zql];omega)];rfl
   rw [e1,e1]
theorem Next.tok (h : xu7 recs σ0 N bef) {X : Nat → Bool} {j : Nat} (hj : j < N) (hX : Next bef X j) {t : Nat} (ht : t ∈ (recs.getD j ⟨[], [], []⟩).tk) {r : Nat} (hr : (gt (st recs σ0 X N) r).vjg t) :
 (gt (st recs σ0 (fun _=>true) j) r).vjg t:=by
 by_cases hlen:r<σ0.length
 . rw [← y9t (N := N) j (by omega)]
   have key:∀ n,n<=N->(gt (st recs σ0 X n) r).vjg t->(gt (st recs σ0 (fun i=>decide (i<j)) n) r).vjg t:=by
    intro n
    induction n with
    | zero=>exact fun _ h=>h
    | succ n ih=>
     intro hn hh;have ih:=ih (by omega)
     have hX1:gt (st recs σ0 X (n+1)) r=if X n then (ev (recs.getD n ⟨[],[],[]⟩).eff r).getD (gt (st recs σ0 X n) r) else gt (st recs σ0 X n) r:=by
      show gt (if X n then _ else _) r=_
      split
      . rw [ve8 _ (by rw [zql];exact hlen)]
      . rfl
     have hY1:gt (st recs σ0 (fun i=>decide (i<j)) (n+1)) r=if decide (n<j) then (ev (recs.getD n ⟨[],[],[]⟩).eff r).getD (gt (st recs σ0 (fun i=>decide (i<j)) n) r) else gt (st recs σ0 (fun i=>decide (i<j)) n) r:=by
      show gt (if decide (n<j) then _ else _) r=_
      split
      . rw [ve8 _ (by rw [zql];exact hlen)]
      . rfl
     rw [hX1] at hh;rw [hY1];by_cases hw:r∈wr recs n
     . obtain ⟨v,hv,hvm⟩:=x4c hw;rw [hv] at hh ⊢;simp only [Option.getD_some] at hh ⊢;by_cases e:n=j
       . subst e;rw [hX.out] at hh;simp only [Bool.false_eq_true,if_false] at hh;simpa using ih hh
       . by_cases h1:n∈bef j
         . rw [hX.all n h1] at hh
           have:=h.lt j n h1
           simp only [this,decide_true,if_true];simpa using hh
         . by_cases h2:j∈bef n
           . have hlt:=h.lt n j h2
             have h3:X n=false:=by
              cases hx:X n with
              | false=>rfl
              | true=>have:=hX.closed n hx j h2;rw [hX.out] at this;cases this
             rw [h3] at hh
             have h4:¬n<j:=by omega
             simp only [h4,decide_false,Bool.false_eq_true,if_false];simp only [Bool.false_eq_true,if_false] at hh;exact ih hh
           . obtain ⟨hnv,hno⟩:=h.tok (by omega) hj e h1 h2 ht hvm
             cases hx:X n with
             | true=>rw [hx] at hh;exact absurd hh hnv
             | false=>
              rw [hx] at hh;simp only [Bool.false_eq_true,if_false] at hh;have hih:=ih hh
              split
              . rename_i hlt;exfalso;refine hno ?_
                have hlt':n<j:=by simpa using hlt
                have:st recs σ0 (fun i=>decide (i<j)) n=st recs σ0 (fun _=>true) n:=zvi recs σ0 n (fun i hi=>by simp;omega)
                rw [<-this];exact hih
              . exact hih
     . have hn':ev (recs.getD n ⟨[],[],[]⟩).eff r=none:=zvg hw;rw [hn'] at hh ⊢;simp only [Option.getD_none,ite_self] at hh ⊢;exact ih hh
   exact key N (Nat.le_refl _) hr
 . exfalso;unfold gt at hr;rw [List.getElem?_eq_none (by rw [zql];omega)] at hr;exact hr
theorem Next.step (h:xu7 recs σ0 N bef) (hj:j<N) (hX:Next bef X j):app (recs.getD j ⟨[],[],[]⟩).eff (st recs σ0 X N)=st recs σ0 (fun i=>X i||i==j) N:=by
 apply xk1
 . rw [vsf,zql,zql]
 . intro r hr;rw [vsf,zql] at hr;rw [ve8 _ (by rw [zql];exact hr)];by_cases hw:r∈wr recs j
   . obtain ⟨v,hv,_⟩:=x4c hw;rw [hv];refine (vaq recs σ0 hr (by simp) hv N hj (fun i hji hi hz=>?_)).symm;simp only [Bool.or_eq_true,beq_iff_eq] at hz;have hXi:X i=true:=hz.resolve_right (by omega);refine h.disj hi hj (by omega) (fun hb=>by have:=h.lt j i hb;omega) (fun hb=>?_) (h.rdw j hj r hw)
     have:=hX.closed i hXi j hb
     rw [hX.out] at this;cases this
   . rw [zvg hw];refine ze3 recs σ0 hr N (fun i _ hwi=>?_)
     have:i≠j:=fun e=>hw (e▸hwi)
     simp [this]
theorem Next.grow (hX:Next bef X j):∀ k,(X k||k==j)=true->∀ i∈bef k,(X i||i==j)=true:=fun k hk i hi=>by
 simp only [Bool.or_eq_true,beq_iff_eq] at hk ⊢
 rcases hk with hk | rfl
 . exact .inl (hX.closed k hk i hi)
 . exact .inl (hX.all i hi)
end any
theorem zze (l:List Oper):∀(acc:List (List Nat)) (j:Nat),(∀ i∈(befs l acc).getD j [],j<acc.length->i∈acc.getD j [])/\(j<acc.length->(befs l acc).getD j []=acc.getD j []):=by
 induction l with
 | nil=>intro acc j;exact ⟨fun i hi _=>hi,fun _=>rfl⟩
 | cons o l ih=>
  intro acc j
  have hkeep:j<acc.length->(befs (o::l) acc).getD j []=acc.getD j []:=fun hj=>by
   simp only [befs];rw [(ih _ j).2 (by simp;omega)];simp [List.getD,List.getElem?_append_left hj]
  exact ⟨fun i hi hj=>by rw [<-hkeep hj];exact hi,hkeep⟩
theorem wiy (l:List Oper):∀ acc,(befs l acc).length=acc.length+l.length:=by
 induction l with
 | nil=>intro acc;simp [befs]
 | cons o l ih=>intro acc;simp only [befs];rw [ih];simp;omega
theorem zs4 (l:List Oper):∀(acc:List (List Nat)) (j:Nat) (o:Oper),l[j]? = some o->
 ∀ i,i∈(befs l acc).getD (acc.length+j) []↔i∈direct o\/∃ d∈direct o,d<acc.length+j/\i∈(befs l acc).getD d []:=by
 induction l with
 | nil=>intro acc j o h;simp at h
 | cons o' l ih=>
  intro acc j o h i
  cases j with
  | zero=>
   simp at h;subst h
   have hb:(befs (o'::l) acc).getD acc.length []=(direct o'++(direct o').flatMap fun d=>acc.getD d []).eraseDups:=by
    simp only [befs];rw [(zze l _ acc.length).2 (by simp)];simp [List.getD]
   rw [Nat.add_zero,hb];simp only [List.mem_eraseDups,List.mem_append,List.mem_flatMap];constructor
   . rintro (h | ⟨d,hd,hi⟩)
     . exact .inl h
     . refine .inr ⟨d,hd,?_⟩;by_cases hdl:d<acc.length
       . refine ⟨hdl,?_⟩;rw [show (befs (o'::l) acc).getD d []=acc.getD d [] from (zze (o'::l) acc d).2 hdl];exact hi
       . simp [List.getD,List.getElem?_eq_none (show acc.length<=d by omega)] at hi
   . rintro (h | ⟨d,hd,hdl,hi⟩)
     . exact .inl h
     . refine .inr ⟨d,hd,?_⟩;rw [show (befs (o'::l) acc).getD d []=acc.getD d [] from (zze (o'::l) acc d).2 hdl] at hi;exact hi
  | succ j=>
   have:=ih (acc++[(direct o'++(direct o').flatMap fun d=>acc.getD d []).eraseDups]) j o (by simpa using h) i
   simp only [List.length_append,List.length_cons,List.length_nil,Nat.zero_add] at this;simp only [befs];rw [show acc.length+(j+1)=acc.length+1+j by omega];exact this
theorem z7k:∀(l:List Oper) (k:Nat),vwb k l=true->∀(j:Nat) (o:Oper),l[j]? = some o->∀ d∈direct o,d<k+j
 | [],k,_,j,o,h=>by simp at h
 | o'::l,k,h,j,o,ho=>by
  simp only [vwb,Bool.and_eq_true] at h
  cases j with
  | zero=>
   simp at ho;subst ho;intro d hd
   have:=(List.all_eq_true.1 h.1) d hd
   simpa using this
  | succ j=>
   intro d hd
   have:=z7k l (k+1) h.2 j o (by simpa using ho) d hd
   omega
theorem vbw : ∀ (recs : List SR) (I : List AV) (k : Nat) (s : SR), recs[k]? = some s → (wrc recs I)[k]? = some (s, st recs I (fun _ => true) k) := by
 have gen:∀(recs pre:List SR) (σ0:List AV) (k:Nat) (s:SR),recs[k]? = some s->(wrc recs (st (pre++recs) σ0 (fun _=>true) pre.length))[k]? = some (s,st (pre++recs) σ0 (fun _=>true) (pre.length+k)):=by
  intro recs
  induction recs with
  | nil=>intro pre σ0 k s h;simp at h
  | cons r recs ih=>
   intro pre σ0 k s h
   cases k with
   | zero=>simp at h;subst h;rfl
   | succ k=>
    have h':recs[k]? = some s:=by simpa using h
    have:=ih (pre++[r]) σ0 k s h'
    simp only [List.append_assoc,List.cons_append,List.nil_append,List.length_append,List.length_cons,List.length_nil,Nat.zero_add] at this
    have hst:st (pre++r::recs) σ0 (fun _=>true) (pre.length+1)=app r.eff (st (pre++r::recs) σ0 (fun _=>true) pre.length):=by
     show (if true then _ else _)=_;simp [List.getD]
    rw [hst] at this;simp only [wrc,List.getElem?_cons_succ];rw [this,show pre.length+1+k=pre.length+(k+1) by omega]
 intro recs I k s h
 have:=gen recs [] I k s h
 simpa [st] using this
theorem zp9 (bs:List (List Nat)):∀(l before:List (SR×List AV)) (j0:Nat),z8c bs j0 before l=true->j0=before.length->
 ∀(i j:Nat) (x y:SR×List AV),i<j->j0<=j->(before++l)[i]? = some x->(before++l)[j]? = some y->i∈bs.getD j []\/wx0 x.1 y.1 x.2 y.2=true:=by
 intro l
 induction l with
 | nil=>
  intro before j0 _ hj0 i j x y hij hj hx hy
  have:=(List.getElem?_eq_some_iff.1 hy).1
  simp at this;omega
 | cons z l ih=>
  intro before j0 h hj0 i j x y hij hj hx hy;simp only [z8c,Bool.and_eq_true] at h;by_cases e:j=j0
  . subst e;subst hj0;rw [List.getElem?_append_right (Nat.le_refl _)] at hy;simp at hy;subst hy;rw [List.getElem?_append_left hij] at hx
    have hm:(x,i)∈before.zipIdx:=by
     rw [List.mem_zipIdx_iff_getElem?];simpa using hx
    have:=(List.all_eq_true.1 h.1) (x,i) hm
    simp only [Bool.or_eq_true,List.contains_iff_mem] at this;simpa using this
  . refine ih (before++[z]) (j0+1) h.2 (by simp [hj0]) i j x y hij (by omega) ?_ ?_
    . simpa using hx
    . simpa using hy
theorem ve5 {recs:List SR} {σ0:List AV} (hlen:recs.length=l.length) (h:indep l recs σ0=true):xu7 recs σ0 l.length (fun j=>(befs l []).getD j []):=by
 simp only [indep,Bool.and_eq_true] at h;obtain ⟨⟨h1,h2⟩,h3⟩:=h
 have hget:∀ j,j<recs.length->recs[j]? = some (recs.getD j (⟨[],[],[]⟩:SR)):=fun j hj=>by simp [List.getD,List.getElem?_eq_getElem hj]
 refine ⟨?_,fun j hj x hx=>?_,fun i j hij hj hb=>?_⟩
 . intro j
   induction j using Nat.strongRecOn with
   | _ j ih =>
    intro i hi;by_cases hj:j<l.length
    . have hs:=(zs4 l [] j l[j] (List.getElem?_eq_getElem hj) i).1 (by simpa using hi);have he:=z7k l 0 h1 j l[j] (List.getElem?_eq_getElem hj)
      rcases hs with hd | ⟨d,hd,hdl,hi'⟩
      . have:=he i hd;omega
      . have h4:=he d hd;have h5:=ih d (by omega) i hi';omega
    . simp [List.getD,List.getElem?_eq_none (show (befs l []).length<=j by rw [wiy];simp;omega)] at hi
 . have hm:recs.getD j (⟨[],[],[]⟩:SR)∈recs:=List.mem_of_getElem? (hget j (by omega))
   have:=(List.all_eq_true.1 ((List.all_eq_true.1 h2) _ hm)) x hx
   simpa using this
 . have hi':=vbw recs σ0 i _ (hget i (by omega));have hj':=vbw recs σ0 j _ (hget j (by omega));exact (zp9 (befs l []) (wrc recs σ0) [] 0 h3 rfl i j _ _ hij (Nat.zero_le _) (by simpa using hi') (by simpa using hj')).resolve_left hb
theorem RunD.chain {σ0:List AV}:∀(r pre:List Oper) (acc:List SR) (I:List AV),RunD P ops l σ0 r acc I K->pre++r=l->acc.length=pre.length->
 I=st acc σ0 (fun _=>true) acc.length->(∀(j:Nat) (o:Oper) (s:SR),pre[j]? = some o->acc[j]? = some s->GStep P ops o (st acc σ0 (fun _=>true) j) s.rd s.tk s.eff)->
 ∃ recs:List SR,recs.length=l.length/\indep l recs σ0=true/\K (st recs σ0 (fun _=>true) recs.length)/\∀(j:Nat) (o:Oper) (s:SR),l[j]? = some o->recs[j]? = some s->GStep P ops o (st recs σ0 (fun _=>true) j) s.rd s.tk s.eff:=by
 intro r
 induction r with
 | nil=>
  intro pre acc I h hl hlen hσ hsteps;simp only [List.append_nil] at hl;subst hl;exact ⟨acc,hlen,h.1,by rw [<-hσ];exact h.2,hsteps⟩
 | cons o r ih=>
  intro pre acc I h hl hlen hσ hsteps;obtain ⟨rd,tk,eff,hg,hr⟩:=h
  have hpre:∀ n,n<=acc.length->st (acc++[(⟨rd,tk,eff⟩:SR)]) σ0 (fun _=>true) n=st acc σ0 (fun _=>true) n:=by
   intro n
   induction n with
   | zero=>intro _;rfl
   | succ n ihn=>
    intro hn;show (if true then app ((acc++[(⟨rd,tk,eff⟩:SR)]).getD n (⟨[],[],[]⟩:SR)).eff _ else _)=(if true then app (acc.getD n (⟨[],[],[]⟩:SR)).eff _ else _);rw [ihn (by omega)];simp [List.getD,List.getElem?_append_left (show n<acc.length by omega)]
  refine ih (pre++[o]) (acc++[⟨rd,tk,eff⟩]) (app eff I) hr (by rw [<-hl];simp) (by simp [hlen]) ?_ ?_
  . simp only [List.length_append,List.length_cons,List.length_nil];show _=(if true then app ((acc++[(⟨rd,tk,eff⟩:SR)]).getD acc.length (⟨[],[],[]⟩:SR)).eff (st _ σ0 _ acc.length) else _);rw [hpre acc.length (Nat.le_refl _),hσ];simp [List.getD]
  . intro j o' s ho hs;by_cases e:j<pre.length
    . rw [List.getElem?_append_left e] at ho;rw [List.getElem?_append_left (by omega)] at hs;rw [hpre j (by omega)];exact hsteps j o' s ho hs
    . have hj:j=pre.length:=by
       have:=(List.getElem?_eq_some_iff.1 ho).1
       simp at this;omega
      subst hj;simp at ho;subst ho;rw [<-hlen] at hs ⊢;simp at hs;subst hs;rw [hpre _ (Nat.le_refl _),<-hσ];exact hg
theorem xmr {recs:List SR} {σ0:List AV} (hind:xu7 recs σ0 ops.size (fun j=>(befs ops.toList []).getD j [])) (hlen:recs.length=ops.size) (hedge:vwb 0 ops.toList=true)
 (hsteps:∀(j:Nat) (o:Oper) (s:SR),ops.toList[j]? = some o->recs[j]? = some s->GStep P ops o (st recs σ0 (fun _=>true) j) s.rd s.tk s.eff) {Q:Exit->Act->World->Prop}
 (hQ:∀ a w,Rel E (st recs σ0 (fun _=>true) ops.size) a w->Q .normal a w):∀(fuel:Nat) (listed:Array Bool) (a:Act) (w:World),listed.size=ops.size->
   (listed.toList.filter (! ·)).length<=fuel->(∀ k,listed.getD k false=true->∀ i∈(befs ops.toList []).getD k [],listed.getD i false=true)->
   Rel E (st recs σ0 (fun i=>listed.getD i false) ops.size) a w->wpAny P .any ops Q fuel listed a w:=by
 have done:∀(listed:Array Bool),listed.size=ops.size->Region.ready .any ops listed=[]->∀ i,i<ops.size->listed.getD i false=true:=by
  intro listed hsz hr i
  induction i using Nat.strongRecOn with
  | _ i ih =>
   intro hi
   cases hx:listed.getD i false with
   | true=>rfl
   | false=>
    exfalso
    have hmem:i∈Region.ready .any ops listed:=by
     rw [mem_ready];refine ⟨?_,ops[i],by simp [hi],fun e he hb=>?_⟩
     . simp only [Array.getD_eq_getD_getElem?,Array.getElem?_eq_getElem (show i<listed.size by omega),Option.getD_some] at hx ⊢;exact hx
     . have hd:e.on∈direct ops[i]:=List.mem_map.2 ⟨e,by simp [List.mem_filter,hb];exact he,rfl⟩
       have:=z7k ops.toList 0 hedge i ops[i] (by simp [hi]) e.on hd
       exact ih e.on (by omega) (by omega)
    rw [hr] at hmem
    cases hmem
 intro fuel
 induction fuel with
 | zero=>
  intro listed a w hsz hf hcl hR
  have hall:∀ i,i<ops.size->listed.getD i false=true:=fun i hi=>by
   have hnil:listed.toList.filter (! ·)=[]:=List.eq_nil_of_length_eq_zero (by omega);rw [List.filter_eq_nil_iff] at hnil
   have:=hnil listed[i] (by simp)
   simp only [Bool.not_eq_true',Bool.not_eq_false] at this;simp [show i<listed.size by omega,this]
  have hready:Region.ready .any ops listed=[]:=by
   cases hr:Region.ready .any ops listed with
   | nil=>rfl
   | cons j _=>
    exfalso
    have hj:j∈Region.ready .any ops listed:=by rw [hr];simp
    obtain ⟨h1,o,ho,_⟩:=mem_ready.1 hj;have hjl:j<ops.size:=(Array.getElem?_eq_some_iff.1 ho).1
    have:=hall j hjl
    simp only [Array.getD_eq_getD_getElem?,Array.getElem?_eq_getElem (show j<listed.size by omega),Option.getD_some] at this h1;rw [this] at h1;cases h1
  refine ⟨hready,hQ a w ?_⟩;rw [<-zvi recs σ0 ops.size (fun i hi=>hall i hi)];exact hR
 | succ fuel ih=>
  intro listed a w hsz hf hcl hR;refine ⟨fun hready=>hQ a w ?_,fun j hj=>?_⟩
  . rw [<-zvi recs σ0 ops.size (fun i hi=>done listed hsz hready i hi)];exact hR
  . obtain ⟨h1,o,ho,hall⟩:=mem_ready.1 hj;have hjl:j<ops.size:=(Array.getElem?_eq_some_iff.1 ho).1
    have hout:listed.getD j false=false:=by
     simp only [Array.getD_eq_getD_getElem?,Array.getElem?_eq_getElem (show j<listed.size by omega),Option.getD_some] at h1 ⊢;exact h1
    have hdir:∀ d∈direct o,listed.getD d false=true:=fun d hd=>by
     obtain ⟨e,he,rfl⟩:=List.mem_map.1 hd;rw [List.mem_filter] at he;exact hall e (by simpa using he.1) he.2
    have hnext:Next (fun j=>(befs ops.toList []).getD j []) (fun i=>listed.getD i false) j:=by
     refine ⟨hcl,hout,fun i hi=>?_⟩;have hs:=(zs4 ops.toList [] j o (by simpa using ho) i).1 (by simpa using hi)
     rcases hs with hd | ⟨d,hd,_,hi'⟩
     . exact hdir i hd
     . exact hcl d (hdir d hd) i hi'
    have hs:recs[j]? = some (recs.getD j (⟨[],[],[]⟩:SR)):=by simp [List.getD,List.getElem?_eq_getElem (show j<recs.length by omega)]
    have hg:=hsteps j o _ (by simpa using ho) hs;have hag:=hnext.wwy hind hjl;have hstep:=hg.2 E _ a w hag (fun t ht i hi=>hg.1 t ht i (hnext.tok hind hjl ht hi)) hR (wpAny P .any ops Q fuel (listed.setIfInBounds j true)) Q ?_
    . unfold wpOp;rw [ho];dsimp only
      split
      . rename_i hw;rw [if_pos hw] at hstep;exact .inl hstep
      . rename_i hw;rw [if_neg hw] at hstep;exact hstep
    . intro a' w' hR';rw [hnext.step hind hjl] at hR'
      have hX:∀ i,(listed.setIfInBounds j true).getD i false=(listed.getD i false||i==j):=fun i=>by
       by_cases e:i=j
       . subst e;simp [show i<listed.size by omega]
       . simp only [Array.getD_eq_getD_getElem?,Array.getElem?_setIfInBounds_ne (Ne.symm e)];simp [e]
      refine ih _ a' w' (by simpa using hsz) ?_ ?_ ?_
      . have hcount:∀(l:List Bool) (j:Nat),l[j]? = some false->((l.set j true).filter (! ·)).length+1=(l.filter (! ·)).length:=by
         intro l
         induction l with
         | nil=>intro j h;simp at h
         | cons b l ihl=>
          intro j h
          cases j with
          | zero=>simp at h;subst h;simp
          | succ j=>
           have:=ihl j (by simpa using h)
           cases b<;>simp<;>omega
        have hjb:listed.toList[j]? = some false:=by
         simp only [Array.getD_eq_getD_getElem?,Array.getElem?_eq_getElem (show j<listed.size by omega),Option.getD_some] at hout;simp [Array.getElem?_eq_getElem (show j<listed.size by omega),hout]
        have:=hcount listed.toList j hjb
        simp only [Array.toList_setIfInBounds];omega
      . intro k hk i hi;rw [hX] at hk ⊢;exact hnext.grow k hk i hi
      . rw [zvi recs σ0 ops.size (fun i _=>hX i)];exact hR'
theorem xuq {Q:Exit->Act->World->Prop} (hm:P.follows .mixedOrders=true) (hQ:∀ I a w,K I->Rel E I a w->Q .normal a w)
 (h:RunD P ops ops.toList I ops.toList [] I K) (hR:Rel E I a w):(Code.region id ops true).wp P Q a w:=by
 obtain ⟨recs,hlen,hind,hK,hsteps⟩:=RunD.chain ops.toList [] [] I h rfl rfl rfl (fun j o s ho=>by simp at ho)
 have hedge:vwb 0 ops.toList=true:=by
  simp only [indep,Bool.and_eq_true] at hind;exact hind.1.1
 have hI:=ve5 hlen hind;simp only [Array.length_toList] at hlen hI;refine wp_region_any hm (xmr hI hlen hedge hsteps (fun a w hR=>hQ _ a w (by rw [hlen] at hK;exact hK) hR) ops.size _ a _ (by simp) (by simp) ?_ ?_)
 . intro k hk;exfalso;rw [Array.getD_eq_getD_getElem?] at hk;by_cases hk':k<ops.size
   . simp [hk'] at hk
   . rw [Array.getElem?_eq_none (by simp;omega)] at hk
     cases hk
 . have hb:Below w.heap.size w { w with drawn:=w.drawn+1 }:=(Below.refl _ w).drew
   have h0:st recs I (fun i=>(Array.replicate ops.size false).getD i false) ops.size=I:=by
    have:st recs I (fun i=>(Array.replicate ops.size false).getD i false) ops.size=st recs I (fun _=>false) ops.size:=zvi recs I ops.size (fun i hi=>by simp [hi])
    rw [this]
    have:∀ n,st recs I (fun _=>false) n=I:=fun n=>by
     induction n with
     | zero=>rfl
     | succ n ih=>show (if false then _ else _)=_;exact ih
    exact this _
   rw [h0];exact hR.below hb
def lift (E:Env) (Q:Exit->List AV->Prop) (e:Exit) (a:Act) (w:World):Prop:=∃ I,Q e I/\Rel E I a w
def vy2 (P:Program) (c:Code) (Q:Exit->List AV->Prop) (I:List AV):Prop:=∀(E:Env) (a:Act) (w:World),Rel E I a w->c.wp P (lift E Q) a w
def vke (next:List AV->Prop) (Q:Exit->List AV->Prop):Exit->List AV->Prop
 | .normal,I=>next I
 | e,I=>Q e I
def xi9 (id:Nat) (Q:Exit->List AV->Prop):Exit->List AV->Prop
 | .exit id',I=>if id'=id then Q .normal I else Q (.exit id') I
 | e,I=>Q e I
theorem vy2.mono {c:Code} {Q':Exit->List AV->Prop} (h:vy2 P c Q I) (hq:∀ e I,Q e I->Q' e I):vy2 P c Q' I:=fun E a w hR=>
 wp_mono (h E a w hR) (fun e _a _w ⟨I,h1,h2⟩=>⟨I,hq e I h1,h2⟩)
theorem wt7 (h:Q .normal I):vy2 P .skip Q I:=fun _ _ _ hR=>wp_skip ⟨I,h,hR⟩
theorem vpl (h:Q (.exit id) I):vy2 P (.exit id) Q I:=fun _ _ _ hR=>wp_exit ⟨I,h,hR⟩
theorem xgm (h:Q .ret I):vy2 P .ret Q I:=fun _ _ _ hR=>wp_ret ⟨I,h,hR⟩
theorem zyx (h:vy2 P x (vke (fun I=>vy2 P y Q I) Q) I):vy2 P (.seq x y) Q I:=fun E a w hR=>
 wp_seq (wp_mono (h E a w hR) (fun e a w ⟨I,h1,h2⟩=>by
  cases e<;>first | exact h1 E a w h2 | exact ⟨I,h1,h2⟩))
theorem wnx {c:Code} (h:vy2 P c (xi9 id Q) I):vy2 P (.block id c) Q I:=fun E a w hR=>
 wp_block (wp_mono (h E a w hR) (fun e a w ⟨I,h1,h2⟩=>by
  cases e with
  | exit id'=>
   simp only [Exit.inBlock];simp only [xi9] at h1;split at h1
   . rename_i hi;rw [if_pos hi];exact ⟨I,h1,h2⟩
   . rename_i hi;rw [if_neg hi];exact ⟨I,h1,h2⟩
  | _=>exact ⟨I,h1,h2⟩))
theorem v06 {c:Operand} (hc:opd I c=.one (.raw (.bool b))) (ht:b=true->vy2 P x Q I) (hf:b=false->vy2 P y Q I):vy2 P (.cond c x y) Q I:=fun E a w hR=>by
 obtain ⟨τ,M,hI⟩:=hR;have hs:=hI.opd c;rw [hc] at hs;have e:a.eval c=.bool b:=RdC.zb6 hs;exact wp_cond_split e (fun h=>ht h E a w ⟨τ,M,hI⟩) (fun h=>hf h E a w ⟨τ,M,hI⟩)
theorem xls (h:Run P ops ops.toList I (Q .normal)):vy2 P (.region id ops false) Q I:=fun _E a w hR=>
 wp_region_list (Run.wpList (fun I _a _w h1 h2=>⟨I,h1,h2⟩) _ I a w h hR)
theorem we5 (hm:P.follows .mixedOrders=true) (h:RunD P ops ops.toList I ops.toList [] I (Q .normal)):vy2 P (.region id ops true) Q I:=fun _E _a _w hR=>
 xuq hm (fun I _a _w h1 h2=>⟨I,h1,h2⟩) h hR
def StLe (I I':List AV):Prop:=∀(E:Env) (a:Act) (w:World),Rel E I a w->Rel E I' a w
theorem StLe.refl (I:List AV):StLe I I:=fun _ _ _ h=>h
theorem StLe.trans {I'':List AV} (h:StLe I I') (h':StLe I' I''):StLe I I'':=fun E a w hR=>h' E a w (h E a w hR)
theorem StLe.weaken {I I':List AV} (h:LeS I I') (hr:vqw I'=true):StLe I I':=fun _ _ _ ⟨τ,M,hI⟩=>⟨τ,M,hI.weaken h hr⟩
theorem vy2.le {c:Code} (h:StLe I I') (hc:vy2 P c Q I'):vy2 P c Q I:=fun E a w hR=>hc E a w (h E a w hR)
theorem yd1 {α : Type} {c : Code} {Q : Exit → List AV → Prop} (inv : α → List AV) (pre : α → Prop) (μ : α → Nat) (x0 : α) (h0 : pre x0) (hle : StLe I (inv x0))
 (round:∀ x,pre x->vy2 P c (vke (fun I'=>∃ y,pre y/\μ y<μ x/\StLe I' (inv y)) Q) (inv x)):vy2 P (.loop c) Q I:=fun E a w hR=>by
 have key:∀ n x a w,pre x->μ x=n->Rel E (inv x) a w->∀(b:Frame) (k:List Item) (cs:List Frame),∃ e a' w',lift E Q e a' w'/\Arrives P (lone (b.at a (.code c::.inLoop c::k)) cs w) b k cs e a' w':=by
  intro n
  induction n using Nat.strongRecOn with
  | _ n ih=>
   intro x a w hp hn hR b k cs;obtain ⟨e,a1,w1,⟨I',hq,hR'⟩,harr⟩:=round x hp E a w hR b (.inLoop c::k) cs
   cases e with
   | normal=>
    obtain ⟨y,hy,hlt,hle'⟩:=hq;obtain ⟨e2,a2,w2,hq2,harr2⟩:=ih (μ y) (by omega) y a1 w1 hy rfl (hle' E a1 w1 hR') b k cs;exact ⟨e2,a2,w2,hq2,.of_steps (Steps.trans harr (.one step_inLoop)) harr2⟩
   | exit id=>exact ⟨_,a1,w1,⟨I',hq,hR'⟩,.pass (x:=.inLoop c) rfl (fun _ _=>.inl (by simp)) harr⟩
   | goto l=>exact ⟨_,a1,w1,⟨I',hq,hR'⟩,.pass (x:=.inLoop c) rfl (fun _ _=>.inl (by simp)) harr⟩
   | ret=>exact ⟨_,a1,w1,⟨I',hq,hR'⟩,.pass (x:=.inLoop c) rfl (fun _ _=>.inl (by simp)) harr⟩
   | panic ch=>exact ⟨_,a1,w1,⟨I',hq,hR'⟩,.pass (x:=.inLoop c) rfl (fun _ _=>.inl (by simp)) harr⟩
   | outgrown=>exact ⟨_,a1,w1,⟨I',hq,hR'⟩,.pass (x:=.inLoop c) rfl (fun _ _=>.inl (by simp)) harr⟩
 intro b k cs;obtain ⟨e,a',w',hq,harr⟩:=key _ x0 a w h0 rfl (hle E a w hR) b k cs;exact ⟨e,a',w',hq,.of_steps (.one step_loop) harr⟩
def xj5 (P:Program) (I:List AV):ResultVar->Option AV
 | .tmp t=>match gt I t with
  | .one c=>some (.one c.bare)
  | .agg cs=>some (.agg (zcr cs))
  | .elt cs=>some (.elt cs)
  | .box cs=>some (.elt (zcr cs))
  | .ptr s off=>match gt I s with
   | .box cs=>some (.elt (zcr (cs.drop off)))
   | _=>none
  | .arr _ c none=>some (.one c)
  | .asl s=>match gt I s with
   | .arr _ c none=>some (.one c)
   | _=>none
  | .awn s m lo n=>match gt I s with
   | .arr _ c none=>if lo+n<=c.cnt/\m=c.esz then some (.one (c.sub lo n)) else none
   | _=>none
  | _=>none
 | .cell a t=>match mkTI P t with
  | some ti=>match gt I a with
   | .box cs=>match v7m ti cs with
    | some (.one c)=>some (.one c.bare)
    | some (.agg cs)=>some (.agg (zcr cs))
    | _=>none
   | _=>none
  | none=>none
def wjv (P:Program) (I:List AV):List ResultVar->Option (List AV)
 | []=>some []
 | r::rs=>match xj5 P I r,wjv P I rs with
  | some x,some l=>some (x::l)
  | _,_=>none
def y42 (I:List AV):List ResultVar->Option Cell
 | [.tmp t]=>match gt I t with
  | .arr [] c none=>some c
  | .asl s=>match gt I s with
   | .arr [] c none=>some c
   | _=>none
  | .awn s m lo n=>match gt I s with
   | .arr [] c none=>if lo=0/\n<=c.cnt/\m=c.esz then some (c.sub 0 n) else none
   | _=>none
  | .one (.tok _ (.ints k l))=>if 0<l.length then some (.ints k l) else none
  | _=>none
 | _=>none
def ylc (P:Program) (I:List AV) (rs:List ResultVar):Option AV:=
 match y42 I rs with
 | some c=>some (.arr [] c none)
 | none=>match wjv P I rs with
  | some [x]=>some x
  | some l=>some (.tup l)
  | none=>none
inductive RLe:AV->AV->Prop
 | own {c:Cell}:RLe (.arr [] c none) (.one c)
 | one {x y:AV} (h:AV.Le x y):RLe x y
 | tup {l l':List AV} (h:LeS l l'):RLe (.tup l) (.tup l')
theorem RdB.le {M:Nat->Nat->Prop} {w:World} {v:Value} {x y:AV} (h:AV.Le x y) (hr:RdB M w v x):RdB M w v y:=by
 cases h with
 | refl=>exact hr
 | any=>exact trivial
 | one h=>exact RdC.le h hr
 | agg h =>
  obtain ⟨vs,rfl,hr⟩:=hr;refine ⟨vs,rfl,?_⟩
  have:∀{vs:List Value} {cs cs':List Cell},LeL cs cs'->RdD M w vs cs->RdD M w vs cs':=by
   intro vs
   induction vs with
   | nil=>intro cs cs' h hr;cases h with
    | nil=>trivial
    | cons _ _=>exact hr.elim
   | cons v vs ih=>intro cs cs' h hr;cases h with
    | nil=>exact hr.elim
    | cons h t=>exact ⟨hr.1.le h,ih t hr.2⟩
  exact this h hr
 | box h=>exact hr.elim
 | obx h=>exact hr.elim
theorem RdBL.le {M:Nat->Nat->Prop} {w:World}:∀{vs:List Value} {l l':List AV},LeS l l'->RdBL M w vs l->RdBL M w vs l'
 | [],_,_,.nil,_=>trivial
 | _::_,_,_,.cons h t,hr=>⟨hr.1.le h,RdBL.le t hr.2⟩
 | [],_,_,.cons _ _,hr=>hr.elim
 | _::_,_,_,.nil,hr=>hr.elim
theorem RLe.vy8 {x y:AV} (h:RLe x y) (hy:y.vy8=true):x.vy8=true:=by
 cases h with
 | own=>cases hy
 | one h=>exact h.vy8 hy
 | tup h=>cases hy
theorem RdR.le {M:Nat->Nat->Prop} {w:World} {v:Value} {x y:AV} (h:RLe x y) (hr:RdR M w v x):RdR M w v y:=by
 cases h with
 | own=>exact hr.2.2.read
 | tup h=>obtain ⟨vs,rfl,hr⟩:=hr;exact ⟨vs,rfl,hr.le h⟩
 | one h=>
  cases h with
  | refl=>exact hr
  | any=>exact trivial
  | one h=>exact RdB.le (.one h) hr
  | agg h=>exact RdB.le (.agg h) hr
  | box h=>exact hr.elim
  | obx h=>exact hr.elim
def retA (P:Program) (rs:List ResultVar) (res:AV):Exit->List AV->Prop
 | .ret,I | .normal,I=>∃ av,ylc P I rs=some av/\RLe av res
 | _,_=>False
def v29 (tm:Array Value):ResultVar->Sem Value
 | .tmp t=>pure (tm.getD t Go.undef)
 | .cell a t=>do loadVar t (<-asAddr (tm.getD a Go.undef))
theorem ya3.shrink (w:World) (h:∀ b o,M' b o->M b o):ya3 M M' w w:=fun b o _u hm hc=>⟨fun h'=>hm (h b o h'),hc⟩
theorem Cell.zt9 {c:Cell} (hu:c.uni) {n:Nat} (hn:n<=c.cnt):(c.sub 0 n).uni/\(c.sub 0 n).cnt=n/\(c.sub 0 n).esz=c.esz/\(c.sub 0 n).flat=c.flat.take (n*c.esz):=by
 cases c with
 | ints k l=>
  simp only [Cell.cnt] at hn;refine ⟨trivial,by simp [Cell.sub,Cell.cnt];omega,rfl,?_⟩;simp [Cell.sub,Cell.flat,Cell.esz,List.map_take]
 | sl m rows=>
  simp only [Cell.cnt] at hn;have hu:∀ r∈rows,r.length=m:=hu;refine ⟨fun r hr=>hu r (List.mem_of_mem_take (by simpa [Cell.sub] using hr)),by simp [Cell.sub,Cell.cnt];omega,rfl,?_⟩;simp only [Cell.sub,Cell.flat,Cell.esz,List.drop_zero];rw [xxl rows n hu]
 | _=>exact hu.elim
theorem frE (hI:RelI E τ M I a w) {s:Nat} {hv:AV} (hs:I[s]? = some hv) (hf:hv.fresh=true) :
 E.N<=blk (a.tmps.getD s Go.undef)/\∀ o,¬E.M (blk (a.tmps.getD s Go.undef)) o:=by
 have hh:hv.vy8=true:=by cases hv<;>first | rfl | cases hf
 have:=(hI.hold s hv hs hh).2.2.1 hf
 exact ⟨this,fun o hm=>by have:=E.hM _ _ hm;unfold Env.N at *;omega⟩
theorem arrE (hI:RelI E τ M I a w) {s:Nat} {pre:List Value} {c:Cell} (hg:gt I s=.arr pre c none) :
 ∃ b cap,a.tmps.getD s Go.undef=.slice (some ⟨b,pre.length,none⟩) c.cnt cap/\c.uni/\RdC E.M w (.slice (some ⟨b,pre.length,none⟩) c.cnt cap) c:=by
 have hgs:=vxi hg (by simp);have hss:=hI.gt s;rw [hg] at hss;obtain ⟨b,T,vs,q,cap,e1,hb,hr,_,hu,hcap,_⟩:=hss;have hfr:=frE hI hgs rfl;rw [e1] at hfr;exact ⟨b,cap,e1,hu,zjx hb (hr.keep (ya3.shrink w hI.m0)) hu hcap hfr.2⟩
theorem boxE (hI:RelI E τ M I a w) {s:Nat} {cs:List Cell} (hg:gt I s=.box cs) (off:Nat) :
 ∃ b,a.tmps.getD s Go.undef=.pointer (some ⟨b,0,none⟩)/\RdB E.M w (.pointer (some ⟨b,off,none⟩)) (.elt (zcr (cs.drop off))):=by
 have hgs:=vxi hg (by simp);have hss:=hI.gt s;rw [hg] at hss;obtain ⟨b,vs,T,e1,hb,hr⟩:=hss;have hfr:=frE hI hgs rfl;rw [e1] at hfr;refine ⟨b,e1,b,off,vs.drop off,rfl,fun j u hj=>⟨hfr.2 _,y2q hb off j u hj⟩,?_⟩;rw [x89];exact ((hr.bare.keep (ya3.shrink w hI.m0)).drop off)
theorem v7i (hI:RelI E τ M I a w) {r:ResultVar} {x:AV} (h:xj5 P I r=some x) :
 ∃ v,(v29 a.tmps r).run P w=.ok v w/\RdB E.M w v x:=by
 have hsh:∀{v:Value} {y:AV},RdB M w v y->RdB E.M w v y:=fun hr=>hr.keep (ya3.shrink w hI.m0)
 cases r with
 | tmp t=>
  have hs:=hI.gt t;refine ⟨a.tmps.getD t Go.undef,rfl,?_⟩;simp only [xj5] at h;split at h
  . rename_i c hc;rw [hc] at hs;cases h;exact hsh (RdT.bare hs)
  . rename_i cs hc;rw [hc] at hs;cases h;obtain ⟨vs,e,hr⟩:=hs;exact hsh ⟨vs,e,hr.bare⟩
  . rename_i cs hc;rw [hc] at hs;cases h;exact hsh hs
  . rename_i cs hc
    cases h;obtain ⟨b,e1,hr⟩:=boxE hI hc 0;rw [e1];exact hr
  . rename_i s off hc;split at h
    . rename_i cs hg
      cases h;obtain ⟨b,e1,hr⟩:=boxE hI hg off;rw [hc] at hs;have hs:a.tmps.getD t Go.undef=.pointer (some ⟨blk (a.tmps.getD s Go.undef),off,none⟩):=hs;rw [hs,e1];exact hr
    . cases h
  . rename_i pre c hc
    cases h;obtain ⟨b,cap,e1,_,hr⟩:=arrE hI hc;rw [e1];exact hr
  . rename_i s hc;split at h
    . rename_i pre c hg
      cases h;obtain ⟨b,cap,e1,_,hr⟩:=arrE hI hg;rw [hc] at hs;have hs:a.tmps.getD t Go.undef=a.tmps.getD s Go.undef:=hs;rw [hs,e1];exact hr
    . cases h
  . rename_i s m lo n hc;split at h
    . rename_i pre c hg;split at h
      . rename_i hfit;obtain ⟨hfit,rfl⟩:=hfit
        cases h;obtain ⟨b,cap,e1,hu,hr⟩:=arrE hI hg;rw [hc] at hs;obtain ⟨ad,cap',e2,had,hn,_⟩:=hs;rw [e1] at had;rw [e2];exact hr.sub hu hfit (fun hne=>had (.inl hne)) hn
      . cases h
    . cases h
  . cases h
 | cell b t=>
  simp only [xj5] at h;split at h
  . rename_i ti hti;split at h
    . rename_i cs hg;have hs:=hI.gt b;rw [hg] at hs;obtain ⟨bl,vs,T,e,hb,hr⟩:=hs
      have key:∀ av,v7m ti cs=some av->∃ v,(loadVar t ⟨bl,0,none⟩).run P w=.ok v w/\RdA M w τ v av:=fun av hl=>
       yl6 (vnz hti) (b:=bl) (off:=0) (vs:=vs) (fun j u hj=>by simpa using y2q hb 0 j u (by simpa using hj)) hr hl
      split at h
      . rename_i c hl
        cases h;obtain ⟨v,hrun,hrd⟩:=key _ hl;exact ⟨v,by simp [v29,e,asAddr,hrun],hsh (RdT.bare hrd)⟩
      . rename_i cs' hl
        cases h;obtain ⟨v,hrun,hrd⟩:=key _ hl;obtain ⟨us,e2,hr2⟩:=hrd;exact ⟨v,by simp [v29,e,asAddr,hrun],hsh ⟨us,e2,hr2.bare⟩⟩
      . cases h
    . cases h
  . cases h
theorem ymn {M:Nat->Nat->Prop} {w:World} (k:IntKind):∀ l:List Int,RdD M w (l.map (Value.int k)) (l.map fun n=>.raw (.int k n))
 | []=>trivial
 | _::l=>⟨.raw rfl,ymn k l⟩
theorem vex (hI:RelI E τ M I a w) {rs:List ResultVar} {c:Cell} (h:y42 I rs=some c) :
 ∃ t,rs=[.tmp t]/\OwnR E.M w (a.tmps.getD t Go.undef) c/\E.N<=blk (a.tmps.getD t Go.undef):=by
 have main:∀(s:Nat) (c0:Cell) (v:Value) (n:Nat),gt I s=.arr [] c0 none->n<=c0.cnt->(∃ b capS cap,a.tmps.getD s Go.undef=.slice (some ⟨b,0,none⟩) c0.cnt capS/\v=.slice (some ⟨b,0,none⟩) n cap/\n<=cap/\cap<=capS)->
  OwnR E.M w v (c0.sub 0 n)/\E.N<=blk v:=fun s c0 v n hg hn ⟨b,capS,cap,e1,e2,h1,h2⟩=>by
  have hgs:=vxi hg (by simp);have hss:=hI.gt s;rw [hg] at hss;obtain ⟨b',T,vs,q,cap0,e3,hb,hr,_,hu,hcap,hcap'⟩:=hss;rw [e1] at e3;simp only [List.length_nil,Value.slice.injEq,Option.some.injEq,Addr.mk.injEq,and_true,true_and] at e3;obtain ⟨rfl,rfl⟩:=e3;have hfr:=frE hI hgs rfl;have hM:=(hI.hold s _ hgs rfl).1;rw [e1] at hfr hM;obtain ⟨su,scnt,sesz,sflat⟩:=Cell.zt9 hu hn;have hvl:=hr.length;have hfl:=Cell.ym0 hu;refine ⟨⟨b,T,vs.take (n*c0.esz),vs.drop (n*c0.esz)++q,cap,by rw [scnt];exact e2,by rw [hb,<-List.append_assoc (List.take _ vs),List.take_append_drop];rfl,?_,su,by rw [scnt];exact h1,?_,hfr.2⟩,by rw [e2];exact hfr.1⟩
  . rw [sflat];exact (hr.take _).keep (ya3.shrink w (fun b' o=>by rintro (h | rfl);exact hI.m0 b' o h;exact hM o))
  . rw [sesz];simp only [List.length_take,List.length_append,List.length_drop]
    have:cap*c0.esz<=capS*c0.esz:=Nat.mul_le_mul_right _ h2
    have:n*c0.esz<=c0.cnt*c0.esz:=Nat.mul_le_mul_right _ hn
    omega
 have whole:∀(s:Nat) (c0:Cell),gt I s=.arr [] c0 none->OwnR E.M w (a.tmps.getD s Go.undef) c0/\E.N<=blk (a.tmps.getD s Go.undef):=fun s c0 hg=>by
  have hgs:=vxi hg (by simp);have hss:=hI.gt s;rw [hg] at hss;obtain ⟨b,T,vs,q,cap,e1,hb,hr,_,hu,hcap,hcap'⟩:=hss;have hfr:=frE hI hgs rfl;have hM:=(hI.hold s _ hgs rfl).1;rw [e1] at hfr hM ⊢;exact ⟨⟨b,T,vs,q,cap,rfl,by simpa using hb,hr.keep (ya3.shrink w (fun b' o=>by rintro (h | rfl);exact hI.m0 b' o h;exact hM o)),hu,hcap,hcap',hfr.2⟩,hfr.1⟩
 unfold y42 at h;split at h
 . rename_i t;refine ⟨t,rfl,?_⟩;have hs:=hI.gt t;split at h
   . rename_i c0 hg
     cases h;exact whole t _ hg
   . rename_i s hg0;split at h
     . rename_i c0 hg
       cases h;rw [hg0] at hs;have hs:a.tmps.getD t Go.undef=a.tmps.getD s Go.undef:=hs;rw [hs];exact whole s _ hg
     . cases h
   . rename_i s m lo n hg0;split at h
     . rename_i c0 hg;split at h
       . rename_i hc;obtain ⟨rfl,hn,rfl⟩:=hc
         cases h;rw [hg0] at hs;obtain ⟨ad,cap,e2,had,h1,h2⟩:=hs;have hss:=hI.gt s;rw [hg] at hss;obtain ⟨b,T,vs,q,cap0,e3,_⟩:=hss;have had:=had (.inr rfl);rw [e3] at had h2;subst had;exact main s c0 _ n hg hn ⟨b,cap0,cap,e3,by rw [e2];simp [blk,offV],h1,by simpa [capV] using h2⟩
       . cases h
     . cases h
   . rename_i d k l hg;split at h
     . rename_i hl
       cases h;rw [hg] at hs;have hs:(a.tmps.getD t Go.undef=(τ d).v/\(τ d).sz=1)/\RdC M w (a.tmps.getD t Go.undef) (.ints k l):=hs;obtain ⟨⟨hv,hsz⟩,hrd⟩:=hs;have htok:=hI.toks d ⟨t,_,vxi hg (by simp),.inl rfl⟩;generalize hu:a.tmps.getD t Go.undef=u at hv hrd ⊢;have hne:l≠[]:=List.length_pos_iff.1 hl
       cases hrd with
       | @ints ad len cap _ _ b off hlen hcap ha hcell=>
        have ha:=ha hne;subst ha
        rcases htok with ⟨ad',hz⟩ | ⟨e,n,xs,⟨hxl,hrow⟩,_⟩
        . rw [<-hv] at hz;simp only [Value.slice.injEq] at hz;omega
        . rw [← hv] at hrow
          rcases hrow with ⟨hz,_⟩ | ⟨g,cap',cur,hz,hN,hg',hn,_,hsize,_⟩
          . cases hz
          . simp only [Value.slice.injEq,Option.some.injEq,Addr.mk.injEq,and_true] at hz;obtain ⟨⟨rfl,rfl⟩,rfl,rfl⟩:=hz;rw [hsz,Nat.mul_one] at hsize
            have hcur:∀ i (hi:i<l.length),cur.toList[i]? = some (.int k l[i]):=fun i hi=>by
             have h1:=(hcell i hi).2;rw [Nat.zero_add] at h1;simp only [World.cell?,hg'] at h1;simpa using h1
            have htake:cur.toList.take l.length=l.map (Value.int k):=by
             apply List.ext_getElem?;intro i;by_cases hi:i<l.length
             . rw [List.getElem?_take_of_lt hi,hcur i hi];simp [hi]
             . rw [List.getElem?_take_eq_none (by omega),List.getElem?_eq_none (by simp only [List.length_map];omega)]
            have hblk:blk (.slice (some ⟨b,0,none⟩) len cap)=b:=rfl;refine ⟨⟨b,e,l.map (Value.int k),cur.toList.drop l.length,cap,by rw [hlen];rfl,?_,?_,trivial,by simp only [Cell.cnt];omega,?_,fun o hm=>Nat.not_lt.2 hN (E.hM b o hm)⟩,by rw [hblk];exact hN⟩
            . rw [<-htake,List.take_append_drop,Array.toArray_toList];exact hg'
            . simp only [Cell.flat];exact ymn k l
            . simp only [Cell.esz,List.length_map,List.length_drop,Array.length_toList];omega
     . cases h
   . cases h
 . cases h
theorem zz6 {E:Env} {τ:Nat->TV} {M:Nat->Nat->Prop} {I:List AV} {a:Act} {w:World} (hI:RelI E τ M I a w):∀(rs:List ResultVar) (l:List AV),wjv P I rs=some l->
 ∃ vs:List Value,(rs.mapM (v29 a.tmps)).run P w=.ok vs w/\RdBL E.M w vs l
 | [],l,h=>by simp only [wjv,Option.some.injEq] at h;subst h;exact ⟨[],rfl,trivial⟩
 | r::rs,l,h=>by
  simp only [wjv] at h;split at h
  . rename_i x l' h1 h2
    cases h;obtain ⟨v,hv,hrv⟩:=v7i hI h1;obtain ⟨vs,hvs,hrs⟩:=zz6 hI rs l' h2;refine ⟨v::vs,?_,hrv,hrs⟩;rw [List.mapM_cons];simp only [Sem.run_bind,hv,Result.andThen_ok,hvs,Sem.run_pure]
  . cases h
theorem wwi (hR:Rel E I a w) (h:ylc P I fn.results.toList=some av) (hle:RLe av res) :
 ∃ v,(results fn a.tmps).run P w=.ok v w/\RdR E.M w v res/\(res.vy8=true->E.N<=blk v):=by
 obtain ⟨τ,M,hI⟩:=hR;unfold ylc at h
 have key:∀ l,wjv P I fn.results.toList=some l->∃ vs:List Value,(results fn a.tmps).run P w=.ok (if h:vs.toArray.size=1 then vs.toArray[0] else .tuple vs.toArray) w/\RdBL E.M w vs l:=fun l hl=>by
  obtain ⟨vs,hvs,hrs⟩:=zz6 hI fn.results.toList l hl;refine ⟨vs,?_,hrs⟩
  have hres:results fn a.tmps=(fn.results.mapM (v29 a.tmps) >>= fun vs=>pure (if h:vs.size=1 then vs[0] else .tuple vs)):=by
   unfold results;refine congrArg (fun g:ResultVar->Sem Value=>(fn.results.mapM g >>= fun vs=>(pure (if h:vs.size=1 then vs[0] else .tuple vs):Sem Value))) (funext fun r=>?_)
   cases r<;>rfl
  rw [hres,Array.mapM_eq_mapM_toList];simp only [Sem.run_bind,Sem.run_map,hvs];rfl
 split at h
 . rename_i c hown
   cases h;obtain ⟨t,hrs,how,hN⟩:=vex hI hown
   have hres:fn.results=#[.tmp t]:=by rw [<-Array.toArray_toList (xs:=fn.results),hrs]
   refine ⟨a.tmps.getD t Go.undef,?_,RdR.le hle ⟨rfl,rfl,how⟩,fun _=>hN⟩;unfold results;rw [hres];simp
 . split at h
   . rename_i x hl
     cases h;obtain ⟨vs,hrun,hrs⟩:=key _ hl
     cases vs with
     | nil=>exact hrs.elim
     | cons v vs=>
      cases vs with
      | cons _ _=>exact hrs.2.elim
      | nil=>
       have h1:=hrs.1;refine ⟨v,hrun,RdR.le hle ?_,fun hh=>?_⟩
       . cases av with
         | tup l=>exact h1.elim
         | arr _ _ _=>exact h1.elim
         | _=>exact h1
       . have:=hle.vy8 hh
         cases av<;>first | exact h1.elim | cases this
   . rename_i l hne hl
     cases h;obtain ⟨vs,hrun,hrs⟩:=key _ hl;have hlen:=hrs.length
     have h1:¬vs.toArray.size=1:=fun e=>by
      rw [List.size_toArray,hlen] at e
      match l,e with
      | [x],_=>exact hne x rfl
     rw [dif_neg h1] at hrun;exact ⟨_,hrun,RdR.le hle ⟨vs,rfl,hrs⟩,fun hh=>by have:=hle.vy8 hh;cases this⟩
   . cases h
theorem yn3 {vs:List Value} {args:List AV} (hM:Bounded M w) (h:RdBL M w vs args) (n:Nat) :
 Rel ⟨w,M,fun _=>False,#[],hM⟩ (args++List.replicate n .undef) { tmps:=vs.toArray++Array.replicate n Go.undef,defers:=[] } w:=by
 have hlen:=h.length
 have hnot:∀(i:Nat) (av:AV),(args++List.replicate n AV.undef)[i]? = some av->(∃ v,(vs.toArray++Array.replicate n Go.undef).getD i Go.undef=v/\RdB M w v av):=by
  intro i av hi;by_cases hlt:i<args.length
  . rw [List.getElem?_append_left hlt] at hi;obtain ⟨v,hv,hr⟩:=h.get i av hi;refine ⟨v,?_,hr⟩
    have hvl:i<vs.length:=by omega
    rw [List.getElem?_eq_getElem hvl] at hv;simp at hv;simp [Array.getD_eq_getD_getElem?,Array.getElem?_append,hvl,hv]
  . rw [List.getElem?_append_right (by omega)] at hi
    have hav:av=.undef:=by
     have:=List.mem_of_getElem? hi
     exact (List.mem_replicate.1 this).2
    subst hav;refine ⟨Go.undef,?_,rfl⟩;simp only [Array.getD_eq_getD_getElem?,Array.getElem?_append];rw [if_neg (by simp;omega)];simp only [Array.getElem?_replicate]
    split<;>rfl
 have props:∀(v:Value) (av:AV),RdB M w v av->av.vy8=false/\av.rf=none/\(∀ t,¬av.vjg t):=fun v av hr=>by
  cases av with
  | one c=>exact ⟨rfl,rfl,(RdB.slot (τ:=fun _=>⟨Go.undef,0⟩) (tm:=#[]) hr).2⟩
  | agg c=>exact ⟨rfl,rfl,(RdB.slot (τ:=fun _=>⟨Go.undef,0⟩) (tm:=#[]) hr).2⟩
  | elt c=>exact ⟨rfl,rfl,fun t ht=>ht⟩
  | any=>exact ⟨rfl,rfl,fun t ht=>ht⟩
  | undef=>exact ⟨rfl,rfl,fun t ht=>ht⟩
  | _=>exact hr.elim
 have nolive:∀ t,¬live (args++List.replicate n AV.undef) t:=fun t ⟨i,x,hi,hx⟩=>by
  obtain ⟨v,_,hr⟩:=hnot i x hi;exact (props v x hr).2.2 t hx
 refine ⟨fun _=>⟨Go.undef,0⟩,M,RelI.mk rfl (by simp [hlen]) ?_ (fun _ _ h=>h) hM ?_ ?_ ?_ (fun t ht=>absurd ht (nolive t)) (fun t _ _ ht=>absurd ht (nolive t)) (fun t _ _ ht=>absurd ht (nolive t)) (Nat.le_refl _) rfl rfl rfl (fun _ _ _=>rfl)⟩
 . intro i av hi;obtain ⟨v,hv,hr⟩:=hnot i av hi;show vi6 M w _ _ ((vs.toArray++Array.replicate n Go.undef).getD i Go.undef) av;rw [hv];exact (RdB.slot hr).1
 . intro i av hi hh;obtain ⟨v,_,hr⟩:=hnot i av hi;rw [(props v av hr).1] at hh;cases hh
 . intro i j x y hi hj hx;obtain ⟨v,_,hr⟩:=hnot i x hi;rw [(props v x hr).1] at hx;cases hx
 . intro i av s b hi hr';obtain ⟨v,_,hr⟩:=hnot i av hi;rw [(props v av hr).2.1] at hr';cases hr'
theorem yn2.of {c:Code} {args:List AV} (hf:P.funcs[f]? = some fn) (hb:fn.body=some c) (hname:(fn.name == "runtime.NumGoroutine")=false)
 (h:vy2 P c (retA P fn.results.toList res) (args++List.replicate (fn.ntmps-args.length) .undef)):yn2 P f args res:=by
 refine ⟨⟨fn,hf,hname,by rw [hb];rfl⟩,fun M w vs hM hrd=>?_⟩;have hlen:=hrd.length;refine calls_of_wp hf hb ?_;have hstart:=yn3 hM hrd (fn.ntmps-args.length)
 have hsz:vs.toArray.size=args.length:=by simp [hlen]
 rw [hsz];refine wp_mono (h _ _ w hstart) ?_;rintro e a w' ⟨I,hq,hR⟩
 have fin:∀ av,ylc P I fn.results.toList=some av->RLe av res->a.defers=[]/\∃ v,(results fn a.tmps).run P w'=.ok v w'/\Back M w res (.returned v) w':=fun av h1 h2=>by
  obtain ⟨v,hrun,hrd',hfr⟩:=wwi (fn:=fn) hR h1 h2;obtain ⟨τ,M',hI⟩:=hR;exact ⟨hI.hd,v,hrun,v,rfl,⟨hI.os,hI.tape,hI.output,hI.size,fun k hk=>hI.frame k hk (fun h=>h)⟩,hrd',hfr⟩
 cases e with
 | normal=>obtain ⟨av,h1,h2⟩:=hq;exact fin av h1 h2
 | ret=>obtain ⟨av,h1,h2⟩:=hq;exact fin av h1 h2
 | _=>exact hq.elim
end Go.Slot
