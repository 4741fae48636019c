/- The proof, part Y5: Mk, Ml, Mm, Mn. -/
import Derived.Test.YtocdljjhobaabaaGreatDoorY4
namespace Go.Slot
open Go Go.RowKit
variable {P:Program}
def wei (k:IntKind):Cell->Option (List Int)
 | .ints k' l=>if k'=k then some l else none
 | .zc=>some []
 | .nn _=>some []
 | .raw (.slice none 0 0)=>some []
 | _=>none
def wuv (n:Nat):Cell->Option (List (List Cell))
 | .sl n' rows=>if n'=n then some rows else none
 | .zc=>some []
 | .nn _=>some []
 | .raw (.slice none 0 0)=>some []
 | _=>none
def wek (es eb:Nat) (ik:Option IntKind) (c cy:Cell):Option Cell:=
 match ik with
 | some k=>match wei k c,wei k cy with
  | some l,some l'=>if es=1/\(l.length+l'.length)*eb<=140737488355328/\l.length+l'.length<=9223372036854775807 then some (.ints k (l++l')) else none
  | _,_=>none
 | none=>match wuv es c,wuv es cy with
  | some l,some l'=>if (l.length+l'.length)*eb<=140737488355328/\l.length+l'.length<=9223372036854775807 then some (.sl es (l++l')) else none
  | _,_=>none
def ownC:Cell->Option (Option Nat×Cell)
 | .tok d (.ints k l)=>some (some d,.ints k l)
 | .tok d (.sl n r)=>some (some d,.sl n r)
 | .zc=>some (none,.zc)
 | .raw (.slice none 0 0)=>some (none,.zc)
 | _=>none
def yfl (tk:List Nat) (σ:List AV):List AV:=tk.foldl (fun σ t=>z2d t σ) σ
def AV.yfl (tk:List Nat) (x:AV):AV:=tk.foldl (fun x t=>x.strip t) x
def xv8 (tk:List Nat):Nat->List AV->List (Nat×AV)
 | _,[]=>[]
 | i,x::r=>if tk.all (fun t=>x.x6p t) then xv8 tk (i+1) r else (i,x.yfl tk)::xv8 tk (i+1) r
def ypu (σ : List AV) (ti : TI) (d : Nat) (x y : Operand) : Option (List Nat × List Nat × List (Nat × AV)) :=
 match ti.sh with
 | .slice _ es eb ik=>match opd σ x,opd σ y with
  | .one cx,.one cy=>match ownC cx with
   | some (od,c)=>match wek es eb ik c cy.bare with
    | some c'=>if nh σ d then
     let tk:=od.toList++[d]
     let se:=xv8 tk 0 σ
     some (d::(orr x++orr y++se.map (·.1)),tk,se++[(d,.one (.tok d c'))])
     else none
    | none=>none
   | none=>none
  | _,_=>none
 | _=>none
theorem ze6 (eff:List (Nat×AV)):∀(σ:List AV) (i:Nat),i<σ.length->gt (app eff σ) i=((eff.reverse.find? (fun p=>p.1==i)).map (·.2)).getD (gt σ i):=by
 induction eff with
 | nil=>intro σ i _;rfl
 | cons p eff ih=>
  intro σ i hi;obtain ⟨s,v⟩:=p;simp only [app];rw [ih (σ.set s v) i (by simpa using hi)];simp only [List.reverse_cons,List.find?_append]
  cases hf:eff.reverse.find? (fun p=>p.1==i) with
  | some q=>simp
  | none=>
   simp only [Option.map_none,Option.getD_none,Option.none_or];by_cases hs:s=i
   . subst hs;simp [gt,hi]
   . simp [gt,hs]
theorem v7o (eff:List (Nat×AV)):∀ σ:List AV,(app eff σ).length=σ.length:=by
 induction eff with
 | nil=>intro σ;rfl
 | cons p eff ih=>intro σ;simp only [app];rw [ih];simp
theorem y56 (e1 e2:List (Nat×AV)):∀ σ:List AV,app (e1++e2) σ=app e2 (app e1 σ):=by
 induction e1 with
 | nil=>intro σ;rfl
 | cons p e1 ih=>intro σ;simp only [List.cons_append,app];exact ih _
theorem y8c {σ σ':List AV} (hl:σ.length=σ'.length) (h:∀ i,i<σ.length->gt σ i=gt σ' i):σ=σ':=by
 apply List.ext_getElem hl;intro i h1 h2
 have:=h i h1
 simpa [gt,h1,h2] using this
theorem Cell.z7m {t:Nat}:∀{c:Cell},c.x6p t=true->c.strip t=c
 | .tok d c,h=>by
  simp only [Cell.x6p,Bool.and_eq_true,bne_iff_ne] at h;simp [Cell.strip,h.1,Cell.z7m h.2]
 | .raw _,_ | .ints _ _,_ | .sl _ _,_ | .zc,_ | .nn _,_ | .fnp _,_=>rfl
theorem v2t {t:Nat}:∀{cs:List Cell},xuu t cs=true->wkn t cs=cs
 | [],_=>rfl
 | c::cs,h=>by
  simp only [xuu,Bool.and_eq_true] at h;simp [wkn,Cell.z7m h.1,v2t h.2]
theorem AV.z7m {t:Nat} {x:AV} (h:x.x6p t=true):x.strip t=x:=by
 cases x with
 | one c=>simp [AV.strip,Cell.z7m (show c.x6p t=true from h)]
 | agg cs=>simp [AV.strip,v2t (show xuu t cs=true from h)]
 | box cs=>simp [AV.strip,v2t (show xuu t cs=true from h)]
 | obx cs=>simp [AV.strip,v2t (show xuu t cs=true from h)]
 | _=>rfl
theorem Cell.ztw {t:Nat}:∀{c:Cell},¬c.x6p t=true->c.y1a t
 | .tok d c,h=>by
  simp only [Cell.x6p,Bool.and_eq_true,bne_iff_ne,not_and] at h;by_cases hd:d=t
  . exact .inl hd
  . exact .inr (Cell.ztw (h hd))
 | .raw _,h | .ints _ _,h | .sl _ _,h | .zc,h | .fnp _,h=>absurd rfl h
theorem z4e {t:Nat}:∀{cs:List Cell},¬xuu t cs=true->wj1 t cs
 | [],h=>absurd rfl h
 | c::cs,h=>by
  simp only [xuu,Bool.and_eq_true,not_and] at h;by_cases hc:c.x6p t=true
  . exact .inr (z4e (h hc))
  . exact .inl (Cell.ztw hc)
theorem AV.ztw {t:Nat} {x:AV} (h:¬x.x6p t=true):x.y1a t:=by
 cases x with
 | one c=>exact Cell.ztw h
 | agg cs=>exact z4e h
 | box cs=>exact z4e h
 | obx cs=>exact z4e h
 | _=>exact absurd rfl h
theorem Cell.va8 {t s:Nat}:∀{c:Cell},c.x6p t=true->(c.strip s).x6p t=true
 | .tok d c,h=>by
  simp only [Cell.x6p,Bool.and_eq_true] at h;unfold Cell.strip
  split
  . exact Cell.va8 h.2
  . simp [Cell.x6p,h.1,Cell.va8 h.2]
 | .raw _,_ | .ints _ _,_ | .sl _ _,_ | .zc,_ | .nn _,_ | .fnp _,_=>rfl
theorem yr5 {t s:Nat}:∀{cs:List Cell},xuu t cs=true->xuu t (wkn s cs)=true
 | [],_=>rfl
 | c::cs,h=>by
  simp only [xuu,Bool.and_eq_true] at h;simp [xuu,wkn,Cell.va8 h.1,yr5 h.2]
theorem AV.va8 {t s:Nat} {x:AV} (h:x.x6p t=true):(x.strip s).x6p t=true:=by
 cases x with
 | one c=>exact Cell.va8 h
 | agg cs=>exact yr5 h
 | box cs=>exact yr5 h
 | obx cs=>exact yr5 h
 | _=>rfl
theorem AV.vvk (tk:List Nat) {t:Nat}:∀{x:AV},(t∈tk\/x.x6p t=true)->(x.yfl tk).x6p t=true:=by
 unfold AV.yfl
 induction tk with
 | nil=>intro x h;exact h.resolve_left (by simp)
 | cons s tk ih=>
  intro x h;simp only [List.foldl_cons];refine ih ?_
  rcases h with h | h
  . rcases List.mem_cons.1 h with rfl | h
    . exact .inr (AV.wqy _ x)
    . exact .inl h
  . exact .inr (AV.va8 h)
theorem AV.zjh (tk:List Nat):∀{x:AV},(∀ t∈tk,x.x6p t=true)->x.yfl tk=x:=by
 unfold AV.yfl
 induction tk with
 | nil=>intro x _;rfl
 | cons s tk ih=>
  intro x h;simp only [List.foldl_cons,AV.z7m (h s (by simp))];exact ih (fun t ht=>h t (by simp [ht]))
theorem AV.ybw (tk:List Nat):∀(x:AV),(x.yfl tk).xeo=x.xeo:=by
 unfold AV.yfl
 induction tk with
 | nil=>intro x;rfl
 | cons s tk ih=>intro x;simp only [List.foldl_cons];rw [ih,AV.vqf]
theorem z3e (tk:List Nat):∀ σ:List AV,(yfl tk σ).length=σ.length:=by
 unfold yfl
 induction tk with
 | nil=>intro σ;rfl
 | cons s tk ih=>intro σ;simp only [List.foldl_cons];rw [ih,(LeS.strip s σ).length]
theorem wyc (tk:List Nat):∀(σ:List AV) (i:Nat),(yfl tk σ)[i]? = (σ[i]?).map (AV.yfl tk):=by
 unfold yfl
 induction tk with
 | nil=>intro σ i;simp only [List.foldl_nil];cases σ[i]?<;>simp [AV.yfl]
 | cons s tk ih=>
  intro σ i;simp only [List.foldl_cons];rw [ih,z0i]
  cases σ[i]?<;>rfl
theorem RelI.yfl {E:Env} {τ:Nat->TV} {M:Nat->Nat->Prop} {a:Act} {w:World} (tk:List Nat):∀{σ:List AV},RelI E τ M σ a w->RelI E τ M (yfl tk σ) a w:=by
 unfold Slot.yfl
 induction tk with
 | nil=>intro σ h;exact h
 | cons s tk ih=>intro σ h;exact ih (h.strip s)
theorem y33 (tk:List Nat) {t:Nat} (ht:t∈tk) (σ:List AV):¬live (yfl tk σ) t:=fun ⟨i,x,hi,hx⟩=>by
 rw [wyc] at hi
 cases hs:σ[i]? with
 | none=>rw [hs] at hi;cases hi
 | some y=>
  rw [hs] at hi;simp at hi;subst hi;exact AV.ydj (AV.vvk tk (.inl ht)) hx
theorem xsi (tk:List Nat) {t:Nat} {σ:List AV} (h:live (yfl tk σ) t):live σ t:=by
 obtain ⟨i,x,hi,hx⟩:=h;rw [wyc] at hi
 cases hs:σ[i]? with
 | none=>rw [hs] at hi;cases hi
 | some y=>
  rw [hs] at hi;simp at hi;subst hi;refine ⟨i,y,hs,?_⟩;by_cases hn:y.x6p t=true
  . exact absurd hx (AV.ydj (AV.vvk tk (.inr hn)))
  . exact AV.ztw hn
theorem ynz (tk : List Nat) : ∀ (σ : List AV) (k i : Nat), i < σ.length →
 ((xv8 tk k σ).reverse.find? (fun p=>p.1==k+i))=if tk.all (fun t=>(gt σ i).x6p t) then none else some (k+i,(gt σ i).yfl tk)
 | [],_,i,h=>by simp at h
 | x::r,k,0,_=>by
  have hnone:(xv8 tk (k+1) r).reverse.find? (fun p=>p.1==k)=none:=by
   rw [List.find?_eq_none];intro p hp
   have:∀(σ:List AV) (k:Nat),∀ p∈xv8 tk k σ,k<=p.1:=by
    intro σ
    induction σ with
    | nil=>intro k p hp;simp [xv8] at hp
    | cons y σ ih=>
     intro k p hp;unfold xv8 at hp;split at hp
     . have:=ih (k+1) p hp;omega
     . rcases List.mem_cons.1 hp with rfl | hp
       . exact Nat.le_refl _
       . have:=ih (k+1) p hp;omega
   have:=this r (k+1) p (by simpa using hp)
   simp;omega
  unfold xv8;have hg:gt (x::r) 0=x:=rfl;rw [hg]
  split
  . simpa using hnone
  . simp only [List.reverse_cons,List.find?_append,Nat.add_zero,hnone];simp
 | x::r,k,i+1,h=>by
  have ih:=ynz tk r (k+1) i (by simpa using h)
  have hg:gt (x::r) (i+1)=gt r i:=by simp [gt]
  rw [hg,show k+(i+1)=k+1+i by omega];unfold xv8
  split
  . exact ih
  . simp only [List.reverse_cons,List.find?_append,ih]
    split
    . simp;omega
    . rfl
theorem ycx {σ σ':List AV} {tk:List Nat} (hl:σ'.length=σ.length) (hag:∀ r∈(xv8 tk 0 σ).map (·.1),gt σ' r=gt σ r)
 (hex:∀ t∈tk,∀ i,(gt σ' i).y1a t->gt σ' i=gt σ i):app (xv8 tk 0 σ) σ'=yfl tk σ':=by
 apply y8c
 . rw [v7o,z3e]
 . intro i hi;rw [v7o] at hi;rw [ze6 _ _ _ hi];have hf:=ynz tk σ 0 i (by omega);simp only [Nat.zero_add] at hf
   have hsa:gt (yfl tk σ') i=(gt σ' i).yfl tk:=by
    unfold gt;rw [wyc,List.getElem?_eq_getElem hi];simp
   rw [hsa,hf]
   split
   . rename_i hno;simp only [Option.map_none,Option.getD_none];rw [AV.zjh];intro t ht;by_cases hc:(gt σ' i).x6p t=true
     . exact hc
     . have:=hex t ht i (AV.ztw hc)
       rw [this];exact (List.all_eq_true.1 hno) t ht
   . rename_i hsome;simp only [Option.map_some,Option.getD_some];rw [hag i]
     have hm:((xv8 tk 0 σ).reverse.find? (fun p=>p.1==i))=some (i,(gt σ i).yfl tk):=by rw [hf,if_neg hsome]
     have:=List.mem_of_find?_eq_some hm
     exact List.mem_map.2 ⟨_,by simpa using this,rfl⟩
theorem RdC.zh8 {M:Nat->Nat->Prop} {w:World} {v:Value} {c:Cell} {k:IntKind} {l:List Int} (h:RdC M w v c) (hc:wei k c=some l) :
 (∃ ad cap,v=.slice ad l.length cap)/\(l.map (Value.int k)=[]\/∃ b off cap,v=.slice (some ⟨b,off,none⟩) l.length cap/\∀ j u,(l.map (Value.int k))[j]? = some u->¬M b (off+j)/\w.cell? ⟨b,off+j,none⟩=some u):=by
 cases h with
 | raw h=>
  unfold wei at hc;split at hc
  . rename_i heq;cases heq
  . rename_i heq;cases heq
  . rename_i heq;cases heq
  . rename_i heq;cases heq;cases hc;exact ⟨⟨_,_,rfl⟩,.inl rfl⟩
  . cases hc
 | zc=>cases hc;exact ⟨⟨_,_,rfl⟩,.inl rfl⟩
 | nn=>cases hc;exact ⟨⟨_,_,rfl⟩,.inl rfl⟩
 | fnp=>cases hc
 | @ints a len cap k' l' b off hl hcap ha hcell=>
  simp only [wei] at hc;split at hc
  . rename_i hk
    cases hc;subst hk;subst hl;refine ⟨⟨_,_,rfl⟩,?_⟩;by_cases h0:l=[]
    . exact .inl (by rw [h0];rfl)
    . refine .inr ⟨b,off,cap,by rw [ha h0],fun j u hj=>?_⟩
      have hjl:j<l.length:=by simpa using (List.getElem?_eq_some_iff.1 hj).1
      have:=hcell j hjl
      simp [hjl] at hj;rw [<-hj];exact this
  . cases hc
 | sl=>cases hc
theorem RdC.xov {M:Nat->Nat->Prop} {w:World} {v:Value} {c:Cell} {n:Nat} {rows:List (List Cell)} (hn0:0<n) (h:RdC M w v c) (hc:wuv n c=some rows) :
 (∃ ad cap,v=.slice ad rows.length cap)/\(∀ r∈rows,r.length=n)/\∃ vs:List Value,vs.length=rows.length*n/\RdD M w vs rows.flatten/\
   (vs=[]\/∃ b off cap,v=.slice (some ⟨b,off,none⟩) rows.length cap/\∀ j u,vs[j]? = some u->¬M b (off+j)/\w.cell? ⟨b,off+j,none⟩=some u):=by
 cases h with
 | raw h=>
  unfold wuv at hc;split at hc
  . rename_i heq;cases heq
  . rename_i heq;cases heq
  . rename_i heq;cases heq
  . rename_i heq;cases heq;cases hc;exact ⟨⟨_,_,rfl⟩,by simp,[],by simp,trivial,.inl rfl⟩
  . cases hc
 | zc=>cases hc;exact ⟨⟨_,_,rfl⟩,by simp,[],by simp,trivial,.inl rfl⟩
 | nn=>cases hc;exact ⟨⟨_,_,rfl⟩,by simp,[],by simp,trivial,.inl rfl⟩
 | fnp=>cases hc
 | ints=>cases hc
 | @sl a len cap n' rows' b off u hl hcap ha hn hm hr =>
  simp only [wuv] at hc;split at hc
  . rename_i hk
    cases hc;subst hk;subst hl;refine ⟨⟨_,_,rfl⟩,hn,(List.range (rows.length*n')).map (fun q=>u (q / n') (q % n')),by simp,?_,?_⟩
    . have gen:∀(rs:List (List Cell)) (f:Nat->Nat->Value),(∀ r∈rs,r.length=n')->(∀ i (hi:i<rs.length) j (hj:j<rs[i].length),RdC M w (f i j) rs[i][j])->
       RdD M w ((List.range (rs.length*n')).map (fun q=>f (q / n') (q % n'))) rs.flatten:=by
       intro rs
       induction rs with
       | nil=>intro f _ _;simp;exact trivial
       | cons r rs ih=>
        intro f hlen hf;have hrl:r.length=n':=hlen r (by simp)
        have hsplit:List.range ((r::rs).length*n')=List.range n'++(List.range (rs.length*n')).map (n' + ·):=by
         rw [List.length_cons,Nat.add_mul,Nat.one_mul,Nat.add_comm,List.range_add]
        rw [hsplit,List.map_append,List.map_map,List.flatten_cons]
        have happ:∀{vs:List Value} {cs:List Cell} {us:List Value} {ds:List Cell},RdD M w vs cs->RdD M w us ds->RdD M w (vs++us) (cs++ds):=by
         intro vs
         induction vs with
         | nil=>intro cs us ds h1 h2;cases cs with
          | nil=>exact h2
          | cons _ _=>exact h1.elim
         | cons v vs ihv=>intro cs us ds h1 h2;cases cs with
          | nil=>exact h1.elim
          | cons c cs=>exact ⟨h1.1,ihv h1.2 h2⟩
        refine happ ?_ ?_
        . have e:(List.range n').map (fun q=>f (q / n') (q % n'))=(List.range r.length).map (f 0):=by
           rw [hrl];apply List.map_congr_left;intro q hq
           have:=List.mem_range.1 hq
           rw [Nat.div_eq_of_lt this,Nat.mod_eq_of_lt this]
          rw [e]
          have g2:∀(cs:List Cell) (g:Nat->Value),(∀ j (hj:j<cs.length),RdC M w (g j) cs[j])->RdD M w ((List.range cs.length).map g) cs:=by
           intro cs
           induction cs with
           | nil=>intro g _;exact trivial
           | cons c cs ihc=>
            intro g hg;rw [List.length_cons,List.range_succ_eq_map,List.map_cons,List.map_map];exact ⟨hg 0 (by simp),ihc (g∘Nat.succ) (fun j hj=>hg (j+1) (by simpa using hj))⟩
          exact g2 r (f 0) (fun j hj=>hf 0 (by simp) j hj)
        . have e:(List.range (rs.length*n')).map ((fun q=>f (q / n') (q % n'))∘(n' + ·))=(List.range (rs.length*n')).map (fun q=>f (q / n'+1) (q % n')):=by
           apply List.map_congr_left;intro q _;simp only [Function.comp];rw [Nat.add_comm n' q,Nat.add_div_right _ hn0,Nat.add_mod_right]
          rw [e];exact ih (fun i j=>f (i+1) j) (fun r' hr'=>hlen r' (by simp [hr'])) (fun i hi j hj=>hf (i+1) (by simpa using hi) j hj)
      exact gen rows u hn hr
    . by_cases h0:rows=[]
      . exact .inl (by simp [h0])
      . refine .inr ⟨b,off,cap,by rw [ha h0],fun j x hj=>?_⟩
        have hjl:j<rows.length*n':=by simpa using (List.getElem?_eq_some_iff.1 hj).1
        have h1:j / n'<rows.length:=Nat.div_lt_of_lt_mul (by rw [Nat.mul_comm];exact hjl);have h2:j % n'<n':=Nat.mod_lt _ hn0
        have:=hm (j / n') h1 (j % n') h2
        have e:off+j / n'*n'+j % n'=off+j:=by
         have:=Nat.div_add_mod j n'
         rw [Nat.mul_comm] at this;omega
        rw [e] at this;simp [hjl] at hj;rw [<-hj];exact this
  . cases hc
theorem RdD.oneL {M:Nat->Nat->Prop} {w:World}:∀{vs:List Value} {cs:List Cell},RdD M w vs cs->∀ v∈vs,v.oneCell'=true
 | [],[],_,v,hv=>by simp at hv
 | u::vs,_::_,h,v,hv=>by
  rcases List.mem_cons.1 hv with rfl | hv
  . exact h.1.one
  . exact RdD.oneL h.2 v hv
theorem RdD.app {M:Nat->Nat->Prop} {w:World}:∀{vs:List Value} {cs:List Cell} {us:List Value} {ds:List Cell},RdD M w vs cs->RdD M w us ds->RdD M w (vs++us) (cs++ds)
 | [],[],_,_,_,h=>h
 | _::_,_::_,_,_,h,h'=>⟨h.1,h.2.app h'⟩
theorem ye5 (es:Nat):∀ rows:List (List Cell),(∀ r∈rows,r.length=es)->chunk es rows.length rows.flatten=rows
 | [],_=>rfl
 | r::rows,h=>by
  have hr:=h r (by simp);simp only [List.length_cons,chunk,List.flatten_cons];rw [<-hr,List.take_left,List.drop_left,hr,ye5 es rows (fun r' hr'=>h r' (by simp [hr']))]
theorem Grew.ints {E:Env} {M M':Nat->Nat->Prop} {w w':World} {v v':Value} {k:IntKind} {l:List Int} (h:Grew E M w w' M' v v' 1 l.length (l.map (Value.int k))):RdC M' w' v' (.ints k l):=by
 obtain ⟨ad,cap,hv,hc⟩:=h.len;by_cases h0:l=[]
 . subst h0;rw [hv];exact .ints 0 0 rfl hc (fun h=>absurd rfl h) (fun i hi=>absurd hi (Nat.not_lt_zero i))
 . rcases h.cells with h1 | ⟨g,cap',hv',hc',hcell⟩
   . exact absurd (List.map_eq_nil_iff.1 h1) h0
   . rw [hv'];refine .ints g 0 rfl hc' (fun _=>rfl) (fun i hi=>?_)
     have:=hcell i (.int k l[i]) (by simp [hi])
     simpa using this
theorem Grew.rows {E:Env} {M M':Nat->Nat->Prop} {w w':World} {v v':Value} {es:Nat} {rows:List (List Cell)} {vs:List Value} (h:Grew E M w w' M' v v' es rows.length vs) (hr:RdD M w vs rows.flatten)
 (hlen:∀ r∈rows,r.length=es) (hvl:vs.length=rows.length*es) (hes:0<es):RdC M' w' v' (.sl es rows):=by
 obtain ⟨ad,cap,hv,hc⟩:=h.len;have hr':RdD M' w' vs rows.flatten:=hr.keep h.keeps;by_cases h0:rows=[]
 . subst h0;rw [hv];exact .sl 0 0 (fun _ _=>Go.undef) rfl hc (fun h=>absurd rfl h) (fun r hr=>by cases hr) (fun i hi=>absurd hi (Nat.not_lt_zero i)) (fun i hi=>absurd hi (Nat.not_lt_zero i))
 . have hfl:rows.flatten.length=rows.length*es:=by rw [<-hvl,hr.length]
   have hpos:0<rows.length:=List.length_pos_iff.2 h0
   rcases h.cells with h1 | ⟨g,cap',hv',hc',hcell⟩
   . rw [h1] at hvl
     have:0<rows.length*es:=Nat.mul_pos hpos hes
     rw [<-hvl] at this;simp at this
   . rw [hv']
     have hin:∀ i,i<rows.length->∀ j,j<es->i*es+j<rows.length*es:=fun i hi j hj=>by
      calc i*es+j<i*es+es:=by omega
       _=(i+1)*es:=by rw [Nat.add_mul,Nat.one_mul]
       _<=rows.length*es:=Nat.mul_le_mul_right _ hi
     have gen:∀(vs:List Value) (cs:List Cell),RdD M' w' vs cs->∀ q (hq:q<cs.length),RdC M' w' (vs.getD q Go.undef) cs[q]:=by
      intro vs
      induction vs with
      | nil=>intro cs h q hq;cases cs with
       | nil=>simp at hq
       | cons _ _=>exact h.elim
      | cons v vs ih=>intro cs h q hq;cases cs with
       | nil=>exact h.elim
       | cons c cs=>cases q with
        | zero=>exact h.1
        | succ q=>simpa using ih cs h.2 q (by simpa using hq)
     refine .sl g 0 (fun i j=>vs.getD (i*es+j) Go.undef) rfl hc' (fun _=>rfl) hlen (fun i hi j hj=>?_) (fun i hi j hj=>?_)
     . have hlt:=hin i hi j hj
       have:=hcell (i*es+j) (vs.getD (i*es+j) Go.undef) (by rw [List.getElem?_eq_getElem (by omega)];simp [show i*es+j<vs.length by omega])
       rw [Nat.zero_add];exact this
     . have hrl:rows[i].length=es:=hlen _ (List.getElem_mem hi);have hlt:=hin i hi j (by omega);have hg:=gen vs rows.flatten hr' (i*es+j) (by omega);have hck:=ye5 es rows hlen
       have e:rows.flatten[i*es+j]=rows[i][j]:=by
        have h1:(chunk es rows.length rows.flatten)[i]? = rows[i]?:=by rw [hck]
        rw [List.getElem?_eq_getElem (by rw [wdg];exact hi),List.getElem?_eq_getElem hi] at h1;simp only [Option.some.injEq,wa1] at h1
        have h2:((rows.flatten.drop (i*es)).take es)[j]? = rows[i][j]?:=by rw [h1]
        rw [List.getElem?_take,if_pos (by omega),List.getElem?_drop,List.getElem?_eq_getElem (by omega),List.getElem?_eq_getElem hj] at h2;simpa using h2
       rw [e] at hg;exact hg
theorem whx {E:Env} {M:Nat->Nat->Prop} {w:World} {b off n cap sz:Nat} (h:wyo E M w ⟨.slice (some ⟨b,off,none⟩) n cap,sz⟩) (hn:n≠0):off=0:=by
 rcases h with ⟨a,ha⟩ | ⟨e,n',xs,ho,_⟩
 . simp only [Value.slice.injEq] at ha;exact absurd ha.2.1 hn
 . rcases ho.2 with ⟨h1,_⟩ | ⟨g,c,cur,hv,_⟩
   . simp at h1
   . simp only [Value.slice.injEq,Option.some.injEq,Addr.mk.injEq] at hv;exact hv.1.2.1
theorem wyo.grew {E : Env} {M M' : Nat → Nat → Prop} {w w' : World} {v v' : Value} {es n : Nat} {all : List Value} (hg : Grew E M w w' M' v v' es n all) {t : TV} (h : wyo E M w t) (hne : ∀ g, tokB t.v = some g → tokB v ≠ some g) : wyo E M' w' t := by
 rcases h with h | ⟨e,n',xs,ho,hm⟩
 . exact .inl h
 . rcases ho.2 with ⟨h1,_⟩ | ⟨g,cap,cur,hv,hN,hh,hnc,r⟩
   . exact .inl ⟨none,h1⟩
   . cases cap with
     | zero=>exact .inl ⟨some ⟨g,0,none⟩,by rw [hv];simp at hnc;rw [hnc]⟩
     | succ cap=>
      have hb:=hne g (by rw [hv];rfl);refine .inr ⟨e,n',xs,⟨ho.1,.inr ⟨g,cap+1,cur,hv,hN,?_,hnc,r⟩⟩,fun g' hg' o ho'=>?_⟩
      . rw [hg.block g (Array.getElem?_eq_some_iff.1 hh).1 hb];exact hh
      . have e1:g'=g:=by rw [hv] at hg';simp [Value.ownBlock] at hg';exact hg'.symm
        exact hg.mem _ _ (hm g' hg' o ho') (by rw [e1];exact hb)
theorem wk0 {o:Oper} {σ':List AV} {d:Nat} (hdst:o.dst=some d) {tk:List Nat} (hdt:d∈tk) {E:Env} {τ:Nat->TV} {M:Nat->Nat->Prop} {a:Act} {w:World} (hI:RelI E τ M σ' a w)
 {old:AV} (hd:σ'[d]? = some old) (hnh:old.xeo=false) {v v':Value} {c':Cell} {es n:Nat} {all:List Value} {w':World} {M':Nat->Nat->Prop} (hes:c'.esz=es) (hg:Grew E M w w' M' v v' es n all)
 (hr:RdC M' w' v' c') (hrun:(execOp a.eval o).run P w=.ok (.value v') w') (hv:wyo E M w ⟨v,es⟩)
 (ht:∀ t g,live (yfl tk σ') t->tokB (τ t).v=some g->tokB v≠some g) (hh:∀ i av,σ'[i]? = some av->av.xeo=true->tokB v≠some (blk (a.tmps.getD i Go.undef)))
 {K:Act->World->Prop} {Q:Exit->Act->World->Prop} {σ2:List AV} (he:σ2=(yfl tk σ').set d (.one (.tok d c'))) (hK:∀ a' w',Rel E σ2 a' w'->K a' w'):o.wp P a w K Q:=by
 have hS:=hI.yfl tk
 have hget:∀ i av,(yfl tk σ')[i]? = some av->∃ x:AV,σ'[i]? = some x/\av=x.yfl tk:=fun i av hi=>by
  rw [wyc] at hi
  cases hx:σ'[i]? with
  | none=>rw [hx] at hi;cases hi
  | some x=>rw [hx] at hi;refine ⟨x,?_,by simpa using hi.symm⟩;first | rfl | exact hx
 have hN:∀ g,tokB v=some g->E.N<=g/\g<w.heap.size:=fun g hg'=>zpr hv hg'
 have hgrow:=hS.grow (d:=d) (old:=old.yfl tk) (by rw [wyc,hd];rfl) (by rw [AV.ybw];exact hnh) (y33 tk hdt σ') hg.keeps
  (fun b o' hm=>hg.mem b o' (hI.m0 b o' hm) (fun hb=>by have h1:E.w0.heap.size<=b:=(hN b hb).1;have:=E.hM b o' hm;omega)) hg.mb hg.size hg.os hg.tape hg.output
  (fun k hk=>hg.block k (Nat.lt_of_lt_of_le hk hI.size) (fun hb=>by have h1:E.w0.heap.size<=k:=(hN k hb).1;have h2:k<E.w0.heap.size:=hk;omega))
  (fun i av hi hhold=>by
    obtain ⟨x,hx,rfl⟩:=hget i av hi;rw [AV.ybw] at hhold;have hne:=hh i x hx hhold
    exact ⟨hg.block _ ((hI.slot i x hx).y87 hhold) hne,fun o'=>hg.mem _ _ ((hI.hold i x hx hhold).1 o') hne⟩)
  (fun t htl=>(hS.toks t htl).grew hg (fun g h1=>ht t g htl h1)) v' c' (by rw [hes];exact hg.tok)
  (fun i av hi hhold=>by
    obtain ⟨x,hx,rfl⟩:=hget i av hi;rw [AV.ybw] at hhold;intro hb
    rcases hg.blk' _ hb with h1 | h1
    . exact hh i x hx hhold h1
    . have:=(hI.slot i x hx).y87 hhold;omega)
  (fun t g htl h1=>fun hb=>by
    rcases hg.blk' _ hb with h2 | h2
    . exact ht t g htl h1 h2
    . have:=(zpr (hS.toks t htl) h1).2;omega) hr
 unfold Oper.wp;rw [hrun];show K (a.put o.dst v') w';rw [hdst];exact hK _ _ (by rw [he];exact ⟨_,M',hgrow⟩)
theorem x16 {cx c:Cell} {od:Option Nat} (h:ownC cx=some (od,c)):(∃ d0,od=some d0/\cx=.tok d0 c)\/(od=none/\c=.zc/\(cx=.zc\/cx=.raw (.slice none 0 0))):=by
 unfold ownC at h;split at h
 . cases h;exact .inl ⟨_,rfl,rfl⟩
 . cases h;exact .inl ⟨_,rfl,rfl⟩
 . cases h;exact .inr ⟨rfl,rfl,.inl rfl⟩
 . cases h;exact .inr ⟨rfl,rfl,.inr rfl⟩
 . cases h
theorem y40 {es eb : Nat} {ik : Option IntKind} {c cy c' : Cell} (h : wek es eb ik c cy = some c') : c'.esz = es ∧ (c.isSl = true → c = .zc ∨ c.esz = es) := by
 unfold wek at h;split at h
 . split at h
   . rename_i l l' h1 h2;split at h
     . rename_i hc
       cases h;refine ⟨hc.1.symm,fun hs=>?_⟩
       cases c with
       | ints=>exact .inr hc.1.symm
       | zc=>exact .inl rfl
       | sl=>cases h1
       | _=>cases hs
     . cases h
   . cases h
 . split at h
   . rename_i l l' h1 h2;split at h
     . cases h;refine ⟨rfl,fun hs=>?_⟩
       cases c with
       | ints=>cases h1
       | zc=>exact .inl rfl
       | sl n r=>simp only [wuv] at h1;split at h1<;>first | (rename_i hn;exact .inr hn) | cases h1
       | _=>cases hs
     . cases h
   . cases h
theorem wm1 {cx c:Cell} {od:Option Nat} (h:ownC cx=some (od,c)):c.isSl=true:=by
 unfold ownC at h
 split at h<;>first | (cases h;rfl) | cases h
theorem wda {ad:Option Addr} {g:Nat}:tokB (.slice ad 0 0)≠some g:=by cases ad<;>simp [tokB]
theorem y8p {σ:List AV} {o:Oper} {T:TypeId} {x y:Operand} (ho:o.op=.call { callee:=.builtin .append,args:=#[x,y],argTypes:=#[T,T] }) {d:Nat} (hdst:o.dst=some d) {ti:TI} (hti:mkTI P T=some ti)
 {rd tk:List Nat} {eff:List (Nat×AV)} (hA:ypu σ ti d x y=some (rd,tk,eff)):ztu P o σ rd tk eff:=by
 have hok:=xky hti;obtain ⟨ds,i0,z0,hd0,hi0,hz0,_,_,_,_,_,hsh'⟩:=hok.ex;unfold ypu at hA;split at hA
 case h_2=>cases hA
 rename_i e es eb ik hsh;split at hA
 case h_2=>cases hA
 rename_i cx cy hx hy;split at hA
 case h_2=>cases hA
 rename_i od c hown;split at hA
 case h_2=>cases hA
 rename_i c' z1o;split at hA
 case isFalse=>cases hA
 rename_i hn;simp only [Option.some.injEq,Prod.mk.injEq] at hA;obtain ⟨rfl,rfl,rfl⟩:=hA;obtain ⟨rfl,j,z',hj,hz',hjs,hjb,hes0,hzs,hik⟩:=wit (hsh'.symm.trans hsh);have hes:0<es:=Nat.pos_of_ne_zero hes0;intro E σ' a w hag htk ⟨τ,M,hI⟩ K Q hK;have hox:opd σ' x=opd σ x:=hag.opd (fun t ht=>by simp [ht]);have hoy:opd σ' y=opd σ y:=hag.opd (fun t ht=>by simp [ht]);have sx:=hI.opd x;have sy:=hI.opd y;rw [hox,hx] at sx;rw [hoy,hy] at sy;have sx:RdT M w τ (a.eval x) cx:=sx;have sy:RdT M w τ (a.eval y) cy:=sy;have sby:=sy.bare;obtain ⟨hce,hcs⟩:=y40 z1o;generalize htkd:od.toList++[d]=tk at *
 have hdt:d∈tk:=by rw [<-htkd];simp
 have hxc:RdC M w (a.eval x) c/\wyo E M w ⟨a.eval x,es⟩/\(∀ t g,live (yfl tk σ') t->tokB (τ t).v=some g->tokB (a.eval x)≠some g)/\
  (∀ i av,σ'[i]? = some av->av.xeo=true->tokB (a.eval x)≠some (blk (a.tmps.getD i Go.undef))):=by
  rcases x16 hown with ⟨d0,rfl,rfl⟩ | ⟨rfl,rfl,hcx⟩
  . have hlv:live σ' d0:=x46 (x:=x) (by rw [hox,hx];exact .inl rfl);have he:=sx.1.1;have hsz:=sx.1.2;have hok':=hI.toks d0 hlv;have hc0:c=.zc\/c.esz=es:=hcs (wm1 hown)
    have hd0t:d0∈tk:=by rw [<-htkd];simp
    refine ⟨sx.2,?_,fun t g hl hg=>?_,fun i av hi hh=>by rw [he];exact hI.tbox d0 i av hlv hi hh⟩
    . rcases hc0 with rfl | hc0
      . have h2:=sx.2
        have:∃ ad,a.eval x=.slice ad 0 0:=by
         generalize a.eval x=v at h2
         cases h2;exact ⟨_,rfl⟩
        exact .inl this
      . have:(⟨a.eval x,es⟩:TV)=τ d0:=by rw [he,<-hc0,<-hsz]
        rw [this];exact hok'
    . rw [he]
      have hne:t≠d0:=fun e'=>y33 tk hd0t σ' (by rw [<-e'];exact hl)
      exact hI.tinj t d0 g (xsi tk hl) hlv hne hg
  . have:∃ ad,a.eval x=.slice ad 0 0:=by
     rcases hcx with rfl | rfl
     . have h2:RdC M w (a.eval x) .zc:=sx;generalize a.eval x=v at h2
       cases h2;exact ⟨_,rfl⟩
     . exact ⟨none,RdC.xcn sx⟩
    obtain ⟨ad,hv⟩:=this;rw [hv];exact ⟨RdC.zc,.inl ⟨ad,rfl⟩,fun _ _ _ _=>wda,fun _ _ _ _=>wda⟩
 obtain ⟨hxr,hxt,hxs1,hxs2⟩:=hxc;obtain ⟨old,h1,h2⟩:=z5w (hag.nh (by simp) hn)
 have hfin:app (xv8 tk 0 σ++[(d,.one (.tok d c'))]) σ'=(yfl tk σ').set d (.one (.tok d c')):=by
  rw [y56,ycx hag.1 (fun r hr=>hag.2 r (by simp only [List.mem_cons,List.mem_append];exact .inr (.inr hr))) (fun t ht i hi=>hag.2 i (htk t ht i hi))];rfl
 have hrunop:∀ v' w',(Builtin.append_ #[T,T] o.type #[a.eval x,a.eval y]).run P w=.ok v' w'->(execOp a.eval o).run P w=.ok (.value v') w':=fun v' w' hr=>by
  simp [execOp,ho,resolve,invoke,builtin,hr]
 have hoff:∀(xs:List Value) (n:Nat),xs.length=n*es->(xs=[]\/∃ b off cap,a.eval x=.slice (some ⟨b,off,none⟩) n cap/\∀ j u,xs[j]? = some u->¬M b (off+j)/\w.cell? ⟨b,off+j,none⟩=some u)->
  (xs=[]\/∃ g cap,a.eval x=.slice (some ⟨g,0,none⟩) n cap/\∀ j u,xs[j]? = some u->¬M g j/\w.cell? ⟨g,j,none⟩=some u):=fun xs n hl hx'=>by
  by_cases h0:xs=[]
  . exact .inl h0
  . rcases hx' with h | ⟨b,off,cap,hv,hc⟩
    . exact .inl h
    . have hn0:n≠0:=fun e'=>h0 (List.eq_nil_of_length_eq_zero (by rw [hl,e'];simp))
      have ho0:off=0:=whx (by rw [<-hv];exact hxt) hn0;subst ho0;exact .inr ⟨b,cap,hv,fun j u hj=>by simpa using hc j u hj⟩
 unfold wek at z1o;split at z1o
 . rename_i k;split at z1o
   . rename_i l l' hl hl';split at z1o
     . rename_i hc;obtain ⟨rfl,hb1,hb2⟩:=hc
       cases z1o;obtain ⟨hxl,hxcells⟩:=hxr.zh8 hl;obtain ⟨hyl,hycells⟩:=sby.zh8 hl';obtain ⟨v',w',M',hr,hg⟩:=vow (P:=P) hd0 hj hz' hjs hjb hzs hes hI.size hI.mb o.type hxt hxl (by simp) (hoff _ _ (by simp) hxcells) hyl (by simp) (by simp [Value.oneCell']) hycells hb1 hb2
       have hg':Grew E M w w' M' (a.eval x) v' 1 (l++l').length ((l++l').map (Value.int k)):=by simpa using hg
       exact wk0 hdst hdt hI h1 h2 rfl hg' hg'.ints (hrunop v' w' hr) hxt hxs1 hxs2 hfin hK
     . cases z1o
   . cases z1o
 . split at z1o
   . rename_i l l' hl hl';split at z1o
     . rename_i hc;obtain ⟨hb1,hb2⟩:=hc
       cases z1o;obtain ⟨hxl,hxn,vs,hvl,hvr,hxcells⟩:=hxr.xov hes hl;obtain ⟨hyl,hyn,us,hul,hur,hycells⟩:=sby.xov hes hl';obtain ⟨v',w',M',hr,hg⟩:=vow (P:=P) hd0 hj hz' hjs hjb hzs hes hI.size hI.mb o.type hxt hxl hvl (hoff _ _ hvl hxcells) hyl hul hur.oneL hycells hb1 hb2
       have hg':Grew E M w w' M' (a.eval x) v' es (l++l').length (vs++us):=by simpa using hg
       refine wk0 hdst hdt hI h1 h2 rfl hg' (hg'.rows (by rw [List.flatten_append];exact hvr.app hur) (fun r hr'=>?_) (by simp [hvl,hul,Nat.add_mul]) hes) (hrunop v' w' hr) hxt hxs1 hxs2 hfin hK
       rcases List.mem_append.1 hr' with h | h
       . exact hxn r h
       . exact hyn r h
     . cases z1o
   . cases z1o
def OwnR (M:Nat->Nat->Prop) (w:World) (v:Value) (c:Cell):Prop:=
 ∃(b:Nat) (T:TypeId) (vs q:List Value) (cap:Nat),v=.slice (some ⟨b,0,none⟩) c.cnt cap/\w.heap[b]? = some (.cells (vs++q).toArray T (0,0))/\RdD (fun b' o=>M b' o\/b'=b) w vs c.flat/\
  c.uni/\c.cnt<=cap/\cap*c.esz<=vs.length+q.length/\∀ o,¬M b o
def RdR (M:Nat->Nat->Prop) (w:World) (v:Value):AV->Prop
 | .tup l=>∃ vs:List Value,v=.tuple vs.toArray/\RdBL M w vs l
 | .arr pre c post=>pre=[]/\post=none/\OwnR M w v c
 | av=>RdB M w v av
def za1 (P:Program) (f:FuncId):Prop:=∃ fn,P.funcs[f]? = some fn/\(fn.name == "runtime.NumGoroutine")=false/\fn.body.isNone=false
def Bounded (M:Nat->Nat->Prop) (w:World):Prop:=∀ b o,M b o->b<w.heap.size
def Back (M:Nat->Nat->Prop) (w:World) (res:AV):Ending->World->Prop:=fun e w'=>∃ v,e=.returned v/\Below w.heap.size w w'/\RdR M w' v res/\(res.xeo=true->w.heap.size<=blk v)
def argA:AV->Option AV
 | .one c=>some (.one c.bare)
 | .agg cs=>some (.agg (yf8 cs))
 | .elt cs=>some (.elt cs)
 | .any=>some .any
 | _=>none
def zk4 (σ:List AV):List Operand->Option (List AV)
 | []=>some []
 | x::r=>match argA (opd σ x),zk4 σ r with
  | some av,some l=>some (av::l)
  | _,_=>none
def orrL:List Operand->List Nat
 | []=>[]
 | x::r=>orr x++orrL r
theorem OwnR.read {M:Nat->Nat->Prop} {w:World} {v:Value} {c:Cell} (h:OwnR M w v c):RdC M w v c:=by
 obtain ⟨b,T,vs,q,cap,rfl,hb,hr,hu,h1,h2,h3⟩:=h;exact vq1 (pre:=[]) (by simpa using hb) (hr.keep (fun b' o u hm hc=>⟨fun h=>hm (.inl h),hc⟩)) hu h1 h3
theorem vbs {f:FuncId} (h:za1 P f) (args:Array Value) (w:World):(callFunc f args).run P w=.ok (.enter f args) w:=by
 obtain ⟨fn,h1,h2,h3⟩:=h
 have h2':¬fn.name = "runtime.NumGoroutine" :=by simpa using h2
 have h3':¬fn.body=none:=fun e=>by rw [e] at h3;cases h3
 simp [callFunc,program,Sem.run,h1,h2',h3']
def zny (o:Oper):List Nat:=match o.dst with
 | some d=>[d]
 | none=>[]
def x9b (σ:List AV) (o:Oper):Bool:=match o.dst with
 | some d=>nh σ d
 | none=>true
theorem RdBL.append {M:Nat->Nat->Prop} {w:World}:∀{vs:List Value} {l:List AV} {us:List Value} {r:List AV},RdBL M w vs l->RdBL M w us r->RdBL M w (vs++us) (l++r)
 | [],[],_,_,_,h=>h
 | _::_,_::_,_,_,h,h'=>⟨h.1,h.2.append h'⟩
structure SR where
 rd:List Nat
 tk:List Nat
 eff:List (Nat×AV)
def direct (o:Oper):List Nat:=(o.after.toList.filter (Region.binds .any)).map (·.on)
def befs:List Oper->List (List Nat)->List (List Nat)
 | [],acc=>acc
 | o::r,acc=>befs r (acc++[(direct o++(direct o).flatMap fun d=>acc.getD d []).eraseDups])
def vuq:List SR->List AV->List (SR×List AV)
 | [],_=>[]
 | s::r,σ=>(s,σ)::vuq r (app s.eff σ)
def vwe:Nat->List Oper->Bool
 | _,[]=>true
 | j,o::r=>(direct o).all (· < j)&&vwe (j+1) r
def ev (eff:List (Nat×AV)) (r:Nat):Option AV:=(eff.reverse.find? (fun p=>p.1==r)).map (·.2)
section any
variable (recs:List SR) (σ0:List AV)
def st (X:Nat->Bool):Nat->List AV
 | 0=>σ0
 | n+1=>if X n then app (recs.getD n ⟨[],[],[]⟩).eff (st X n) else st X n
variable (N:Nat) (bef:Nat->List Nat)
variable {recs σ0 N bef}
structure Next (bef:Nat->List Nat) (X:Nat->Bool) (j:Nat):Prop where
 closed:∀ k,X k=true->∀ i∈bef k,X i=true
 out:X j=false
 all:∀ i∈bef j,X i=true
theorem Next.grow {X:Nat->Bool} {j:Nat} (hX:Next bef X j):∀ k,(X k||k==j)=true->∀ i∈bef k,(X i||i==j)=true:=fun k hk i hi=>by
 simp only [Bool.or_eq_true,beq_iff_eq] at hk ⊢
 rcases hk with hk | rfl
 . exact .inl (hX.closed k hk i hi)
 . exact .inl (hX.all i hi)
end any
theorem yl8 (l:List Oper):∀(acc:List (List Nat)) (j:Nat),(∀ i∈(befs l acc).getD j [],j<acc.length->i∈acc.getD j [])/\(j<acc.length->(befs l acc).getD j []=acc.getD j []):=by
 induction l with
 | nil=>intro acc j;exact ⟨fun i hi _=>hi,fun _=>rfl⟩
 | cons o l ih=>
  intro acc j
  have hkeep:j<acc.length->(befs (o::l) acc).getD j []=acc.getD j []:=fun hj=>by
   simp only [befs];rw [(ih _ j).2 (by simp;omega)];simp [List.getD,List.getElem?_append_left hj]
  exact ⟨fun i hi hj=>by rw [<-hkeep hj];exact hi,hkeep⟩
theorem zao (l:List Oper):∀ acc,(befs l acc).length=acc.length+l.length:=by
 induction l with
 | nil=>intro acc;simp [befs]
 | cons o l ih=>intro acc;simp only [befs];rw [ih];simp;omega
theorem ygp (l:List Oper):∀(acc:List (List Nat)) (j:Nat) (o:Oper),l[j]? = some o->
 ∀ i,i∈(befs l acc).getD (acc.length+j) []↔i∈direct o\/∃ d∈direct o,d<acc.length+j/\i∈(befs l acc).getD d []:=by
 induction l with
 | nil=>intro acc j o h;simp at h
 | cons o' l ih=>
  intro acc j o h i
  cases j with
  | zero=>
   simp at h;subst h
   have hb:(befs (o'::l) acc).getD acc.length []=(direct o'++(direct o').flatMap fun d=>acc.getD d []).eraseDups:=by
    simp only [befs];rw [(yl8 l _ acc.length).2 (by simp)];simp [List.getD]
   rw [Nat.add_zero,hb];simp only [List.mem_eraseDups,List.mem_append,List.mem_flatMap];constructor
   . rintro (h | ⟨d,hd,hi⟩)
     . exact .inl h
     . refine .inr ⟨d,hd,?_⟩;by_cases hdl:d<acc.length
       . refine ⟨hdl,?_⟩;rw [show (befs (o'::l) acc).getD d []=acc.getD d [] from (yl8 (o'::l) acc d).2 hdl];exact hi
       . simp [List.getD,List.getElem?_eq_none (show acc.length<=d by omega)] at hi
   . rintro (h | ⟨d,hd,hdl,hi⟩)
     . exact .inl h
     . refine .inr ⟨d,hd,?_⟩;rw [show (befs (o'::l) acc).getD d []=acc.getD d [] from (yl8 (o'::l) acc d).2 hdl] at hi;exact hi
  | succ j=>
   have:=ih (acc++[(direct o'++(direct o').flatMap fun d=>acc.getD d []).eraseDups]) j o (by simpa using h) i
   simp only [List.length_append,List.length_cons,List.length_nil,Nat.zero_add] at this;simp only [befs];rw [show acc.length+(j+1)=acc.length+1+j by omega];exact this
theorem wi5:∀(l:List Oper) (k:Nat),vwe k l=true->∀(j:Nat) (o:Oper),l[j]? = some o->∀ d∈direct o,d<k+j
 | [],k,_,j,o,h=>by simp at h
 | o'::l,k,h,j,o,ho=>by
  simp only [vwe,Bool.and_eq_true] at h
  cases j with
  | zero=>
   simp at ho;subst ho;intro d hd
   have:=(List.all_eq_true.1 h.1) d hd
   simpa using this
  | succ j=>
   intro d hd
   have:=wi5 l (k+1) h.2 j o (by simpa using ho) d hd
   omega
def xkq (P:Program) (σ:List AV):ResultVar->Option AV
 | .tmp t=>match gt σ t with
  | .one c=>some (.one c.bare)
  | .agg cs=>some (.agg (yf8 cs))
  | .elt cs=>some (.elt cs)
  | .box cs=>some (.elt (yf8 cs))
  | .ptr s off=>match gt σ s with
   | .box cs=>some (.elt (yf8 (cs.drop off)))
   | _=>none
  | .arr _ c none=>some (.one c)
  | .asl s=>match gt σ s with
   | .arr _ c none=>some (.one c)
   | _=>none
  | .awn s m lo n=>match gt σ s with
   | .arr _ c none=>if lo+n<=c.cnt/\m=c.esz then some (.one (c.sub lo n)) else none
   | _=>none
  | _=>none
 | .cell a t=>match mkTI P t with
  | some ti=>match gt σ a with
   | .box cs=>match wdn ti cs with
    | some (.one c)=>some (.one c.bare)
    | some (.agg cs)=>some (.agg (yf8 cs))
    | _=>none
   | _=>none
  | none=>none
inductive RLe:AV->AV->Prop
 | own {c:Cell}:RLe (.arr [] c none) (.one c)
 | one {x y:AV} (h:AV.Le x y):RLe x y
 | tup {l l':List AV} (h:LeS l l'):RLe (.tup l) (.tup l')
theorem RdB.le {M:Nat->Nat->Prop} {w:World} {v:Value} {x y:AV} (h:AV.Le x y) (hr:RdB M w v x):RdB M w v y:=by
 cases h with
 | refl=>exact hr
 | any=>exact trivial
 | one h=>exact RdC.le h hr
 | agg h =>
  obtain ⟨vs,rfl,hr⟩:=hr;refine ⟨vs,rfl,?_⟩
  have:∀{vs:List Value} {cs cs':List Cell},LeL cs cs'->RdD M w vs cs->RdD M w vs cs':=by
   intro vs
   induction vs with
   | nil=>intro cs cs' h hr;cases h with
    | nil=>trivial
    | cons _ _=>exact hr.elim
   | cons v vs ih=>intro cs cs' h hr;cases h with
    | nil=>exact hr.elim
    | cons h t=>exact ⟨hr.1.le h,ih t hr.2⟩
  exact this h hr
 | box h=>exact hr.elim
 | obx h=>exact hr.elim
theorem RdBL.le {M:Nat->Nat->Prop} {w:World}:∀{vs:List Value} {l l':List AV},LeS l l'->RdBL M w vs l->RdBL M w vs l'
 | [],_,_,.nil,_=>trivial
 | _::_,_,_,.cons h t,hr=>⟨hr.1.le h,RdBL.le t hr.2⟩
 | [],_,_,.cons _ _,hr=>hr.elim
 | _::_,_,_,.nil,hr=>hr.elim
theorem RLe.xeo {x y:AV} (h:RLe x y) (hy:y.xeo=true):x.xeo=true:=by
 cases h with
 | own=>cases hy
 | one h=>exact h.xeo hy
 | tup h=>cases hy
theorem RdR.le {M:Nat->Nat->Prop} {w:World} {v:Value} {x y:AV} (h:RLe x y) (hr:RdR M w v x):RdR M w v y:=by
 cases h with
 | own=>exact hr.2.2.read
 | tup h=>obtain ⟨vs,rfl,hr⟩:=hr;exact ⟨vs,rfl,hr.le h⟩
 | one h=>
  cases h with
  | refl=>exact hr
  | any=>exact trivial
  | one h=>exact RdB.le (.one h) hr
  | agg h=>exact RdB.le (.agg h) hr
  | box h=>exact hr.elim
  | obx h=>exact hr.elim
def xtz (tm:Array Value):ResultVar->Sem Value
 | .tmp t=>pure (tm.getD t Go.undef)
 | .cell a t=>do loadVar t (<-asAddr (tm.getD a Go.undef))
theorem xhx.shrink {M M':Nat->Nat->Prop} (w:World) (h:∀ b o,M' b o->M b o):xhx M M' w w:=fun b o _u hm hc=>⟨fun h'=>hm (h b o h'),hc⟩
theorem whs {M:Nat->Nat->Prop} {w:World} (k:IntKind):∀ l:List Int,RdD M w (l.map (Value.int k)) (l.map fun n=>.raw (.int k n))
 | []=>trivial
 | _::l=>⟨.raw rfl,whs k l⟩
end Go.Slot
