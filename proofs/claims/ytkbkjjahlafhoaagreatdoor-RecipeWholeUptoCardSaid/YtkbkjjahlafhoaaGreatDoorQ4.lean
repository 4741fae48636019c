/- The proof, part Q4: Jd, My, Ha. -/
import Derived.Test.YtkbkjjahlafhoaaGreatDoorQ3
import Derived.Test.YtkbkjjahlafhoaaGreatDoorQ1
import Derived.OpenShut
namespace Go.Slot
open Go Go.RowKit Go.ChangeShapes
variable {k:IntKind} {e:TypeId}
def xs2 (P:Program):Nat->List Field->Bool
 | _,[]=>true
 | off,f::r=>f.offset==off&&xs2 P (off+P.cellsOf f.type) r
def yx2 (P:Program):List Field->Nat
 | []=>0
 | f::r=>P.cellsOf f.type+yx2 P r
def x89 (P:Program) (L:List TypeId):Bool:=L.all fun t=>match P.underlying t with
 | some .bool=>true
 | some (.int _)=>true
 | some .string=>true
 | some (.slice e)=>L.contains e&&(P.cellsOf e != 0)&&(match P.underlying e with | some (.int _)=>P.cellsOf e==1 | _=>true)
 | some (.array n e)=>L.contains e&&(P.cellsOf t==n*P.cellsOf e)
 | some (.struct fs)=>(fs.toList.all fun f=>L.contains f.type)&&xs2 P 0 fs.toList&&(P.cellsOf t==yx2 P fs.toList)
 | _=>false
inductive FitT (P:Program) (N:Nat):TypeId->List Cell->Prop
 | int {t:TypeId} {k:IntKind} {n:Int} (ht:P.underlying t=some (.int k)) (h:k.min<=n/\n<=k.max):FitT P N t [.raw (.int k n)]
 | bool {t:TypeId} {b:Bool} (ht:P.underlying t=some .bool):FitT P N t [.raw (.bool b)]
 | str {t:TypeId} {s:ByteArray} (ht:P.underlying t=some .string) (h:s.size<=N):FitT P N t [.raw (.string s)]
 | ints {t e:TypeId} {k:IntKind} {l:List Int} (ht:P.underlying t=some (.slice e)) (he:P.underlying e=some (.int k)) (hl:l.length<=N) (h:∀ x∈l,k.min<=x/\x<=k.max):FitT P N t [.ints k l]
 | sl {t e:TypeId} {rows:List (List Cell)} (ht:P.underlying t=some (.slice e)) (he:∀ k,P.underlying e≠some (.int k)) (hl:rows.length<=N) (h:∀ r∈rows,FitT P N e r):FitT P N t [.sl (P.cellsOf e) rows]
 | struct {t:TypeId} {fs:Array Field} {rows:List (List Cell)} (ht:P.underlying t=some (.struct fs)) (hl:rows.length=fs.size) (h:∀(i:Nat) (f:Field) (r:List Cell),fs.toList[i]? = some f->rows[i]? = some r->FitT P N f.type r):FitT P N t rows.flatten
 | array {t e:TypeId} {n:Nat} {rows:List (List Cell)} (ht:P.underlying t=some (.array n e)) (hl:rows.length=n) (h:∀ r∈rows,FitT P N e r):FitT P N t rows.flatten
section
variable {P:Program} {N:Nat} {t:TypeId} {cs:List Cell}
theorem FitT.x4k (h:FitT P N t cs) (ht:P.underlying t=some (.int k)):∃ n,cs=[.raw (.int k n)]/\k.min<=n/\n<=k.max:=by
 cases h with
 | int h1 h2=>rw [ht] at h1;cases h1;exact ⟨_,rfl,h2⟩
 | bool h1=>rw [ht] at h1;cases h1
 | str h1=>rw [ht] at h1;cases h1
 | ints h1=>rw [ht] at h1;cases h1
 | sl h1=>rw [ht] at h1;cases h1
 | struct h1=>rw [ht] at h1;cases h1
 | array h1=>rw [ht] at h1;cases h1
theorem FitT.wx6 (h:FitT P N t cs) (ht:P.underlying t=some .string):∃ s,cs=[.raw (.string s)]/\s.size<=N:=by
 cases h with
 | int h1 h2=>rw [ht] at h1;cases h1
 | bool h1=>rw [ht] at h1;cases h1
 | str h1 h2=>exact ⟨_,rfl,h2⟩
 | ints h1=>rw [ht] at h1;cases h1
 | sl h1=>rw [ht] at h1;cases h1
 | struct h1=>rw [ht] at h1;cases h1
 | array h1=>rw [ht] at h1;cases h1
theorem FitT.xl3 (h:FitT P N t cs) (ht:P.underlying t=some (.slice e)) (he:P.underlying e=some (.int k)):∃ l,cs=[.ints k l]/\l.length<=N/\∀ x∈l,k.min<=x/\x<=k.max:=by
 cases h with
 | int h1 h2=>rw [ht] at h1;cases h1
 | bool h1=>rw [ht] at h1;cases h1
 | str h1 h2=>rw [ht] at h1;cases h1
 | ints h1 h2 h3 h4=>rw [ht] at h1;cases h1;rw [he] at h2;cases h2;exact ⟨_,rfl,h3,h4⟩
 | sl h1 h2=>rw [ht] at h1;cases h1;exact absurd he (h2 _)
 | struct h1=>rw [ht] at h1;cases h1
 | array h1=>rw [ht] at h1;cases h1
theorem FitT.vke (h:FitT P N t cs) (ht:P.underlying t=some (.slice e)) (he:∀ k,P.underlying e≠some (.int k)):∃ rows,cs=[.sl (P.cellsOf e) rows]/\rows.length<=N/\∀ r∈rows,FitT P N e r:=by
 cases h with
 | int h1 h2=>rw [ht] at h1;cases h1
 | bool h1=>rw [ht] at h1;cases h1
 | str h1 h2=>rw [ht] at h1;cases h1
 | ints h1 h2 h3 h4=>rw [ht] at h1;cases h1;exact absurd h2 (he _)
 | sl h1 h2 h3 h4=>rw [ht] at h1;cases h1;exact ⟨_,rfl,h3,h4⟩
 | struct h1=>rw [ht] at h1;cases h1
 | array h1=>rw [ht] at h1;cases h1
theorem FitT.yhr (h:FitT P N t cs) {fs:Array Field} (ht:P.underlying t=some (.struct fs)):∃ rows:List (List Cell),cs=rows.flatten/\rows.length=fs.size/\
 ∀(i:Nat) (f:Field) (r:List Cell),fs.toList[i]? = some f->rows[i]? = some r->FitT P N f.type r:=by
 cases h with
 | int h1 h2=>rw [ht] at h1;cases h1
 | bool h1=>rw [ht] at h1;cases h1
 | str h1 h2=>rw [ht] at h1;cases h1
 | ints h1 h2 h3 h4=>rw [ht] at h1;cases h1
 | sl h1 h2 h3 h4=>rw [ht] at h1;cases h1
 | struct h1 h2 h3=>rw [ht] at h1;cases h1;exact ⟨_,rfl,h2,h3⟩
 | array h1=>rw [ht] at h1;cases h1
end
variable {P:Program} {H:Type} {enc:TypeId×Value->H} {w:World} {spare:Nat->Bool} {held:Bool} {bk:DataW H->Nat} {N:Nat}
theorem RdD.wz9 {M:Nat->Nat->Prop}:∀{vs:List Value} {cs:List Cell},RdD M w vs cs->∀ j (hj:j<cs.length),RdC M w (vs.getD j Go.undef) cs[j]
 | [],[],_,j,hj=>by simp at hj
 | _::_,[],h,_,_=>h.elim
 | [],_::_,h,_,_=>h.elim
 | _::_,_::_,h,0,_=>h.1
 | _::vs,_::cs,h,j+1,hj=>by simpa using RdD.wz9 (vs:=vs) (cs:=cs) h.2 j (by simpa using hj)
theorem zfi {L:List TypeId} {fuel:Nat} (hrec:∀(t:TypeId),t∈L->∀(cs:List Value) (x:DataW H×List MemPlace),DataW.trod enc P w 0 spare held fuel t cs=some x->bk x.1<=N->
 ∃ cells,RdD (fun _ _=>False) w cs cells/\FitT P N t cells) :
 ∀(fs:List Field) (off:Nat) (cs:List Value) (xs:List (DataW H×List MemPlace)),xs2 P off fs=true->(∀ f∈fs,f.type∈L)->cs.length=off+yx2 P fs->xs.length=fs.length->
  (∀(i:Nat) (f:Field),fs[i]? = some f->DataW.trod enc P w 0 spare held fuel f.type ((cs.drop f.offset).take (P.cellsOf f.type))=xs[i]?)->(∀ x∈xs,bk x.1<=N)->
  ∃ rows:List (List Cell),RdD (fun _ _=>False) w (cs.drop off) rows.flatten/\rows.length=fs.length/\∀(i:Nat) (f:Field) (r:List Cell),fs[i]? = some f->rows[i]? = some r->FitT P N f.type r
 | [],off,cs,xs,_,_,hlen,_,_,_=>by
  refine ⟨[],?_,rfl,fun i f r hf=>by simp at hf⟩;rw [List.drop_eq_nil_of_le (by simp [yx2] at hlen;omega)];exact trivial
 | f::fs,off,cs,xs,ht,hL,hlen,hxs,hx,hb=>by
  simp only [xs2,Bool.and_eq_true,beq_iff_eq] at ht;obtain ⟨hoff,ht⟩:=ht;simp only [yx2] at hlen
  cases xs with
  | nil=>simp at hxs
  | cons x xs=>
   have h0:=hx 0 f rfl;simp only [List.getElem?_cons_zero] at h0;obtain ⟨c0,r0,f0⟩:=hrec f.type (hL f (by simp)) _ x h0 (hb x (by simp))
   obtain ⟨rows,r1,f1,f2⟩:=zfi hrec fs (off+P.cellsOf f.type) cs xs ht (fun g hg=>hL g (by simp [hg])) (by omega) (by simpa using hxs) (fun i f' hf=>by
    have:=hx (i+1) f' (by simpa using hf)
    simpa using this) (fun y hy=>hb y (by simp [hy]))
   refine ⟨c0::rows,?_,by simp [f1],fun i f' r hf hr=>?_⟩
   . have:cs.drop off=(cs.drop f.offset).take (P.cellsOf f.type)++cs.drop (off+P.cellsOf f.type):=by
      rw [hoff,<-List.drop_drop,List.take_append_drop]
     rw [this,List.flatten_cons];exact r0.app0 r1
   . cases i with
     | zero=>simp at hf hr;subst hf hr;exact f0
     | succ i=>exact f2 i f' r (by simpa using hf) (by simpa using hr)
theorem wgc {e:TypeId} {fuel:Nat} (hrec:∀(cs:List Value) (x:DataW H×List MemPlace),DataW.trod enc P w 0 spare held fuel e cs=some x->bk x.1<=N->
 ∃ cells,RdD (fun _ _=>False) w cs cells/\FitT P N e cells) (cs:List Value) :
 ∀(n k:Nat) (xs:List (DataW H×List MemPlace)),cs.length=(k+n)*P.cellsOf e->xs.length=k+n->
  (∀(i:Nat),k<=i->i<k+n->DataW.trod enc P w 0 spare held fuel e ((cs.drop (i*P.cellsOf e)).take (P.cellsOf e))=xs[i]?)->(∀ x∈xs,bk x.1<=N)->
  ∃ rows:List (List Cell),RdD (fun _ _=>False) w (cs.drop (k*P.cellsOf e)) rows.flatten/\rows.length=n/\∀ r∈rows,FitT P N e r
 | 0,k,xs,hlen,_,_,_=>by
  refine ⟨[],?_,rfl,fun r hr=>by cases hr⟩;rw [List.drop_eq_nil_of_le (by rw [hlen];simp)];exact trivial
 | n+1,k,xs,hlen,hxs,hx,hb=>by
  have hk:k<xs.length:=by omega
  have h0:=hx k (Nat.le_refl _) (by omega);rw [List.getElem?_eq_getElem hk] at h0;obtain ⟨c0,r0,f0⟩:=hrec _ _ h0 (hb _ (List.getElem_mem hk));obtain ⟨rows,r1,f1,f2⟩:=wgc hrec cs n (k+1) xs (by rw [hlen];congr 1;omega) (by omega) (fun i h1 h2=>hx i (by omega) (by omega)) hb;refine ⟨c0::rows,?_,by simp [f1],fun r hr=>?_⟩
  . have:cs.drop (k*P.cellsOf e)=(cs.drop (k*P.cellsOf e)).take (P.cellsOf e)++cs.drop ((k+1)*P.cellsOf e):=by
     rw [Nat.add_mul,Nat.one_mul,<-List.drop_drop,List.take_append_drop]
    rw [this,List.flatten_cons];exact r0.app0 r1
  . cases List.mem_cons.1 hr with
    | inl h=>subst h;exact f0
    | inr h=>exact f2 r h
theorem xni (hB:Bulk bk) {L:List TypeId} (hL:x89 P L=true):∀(fuel:Nat) (t:TypeId),t∈L->∀(cs:List Value) (x:DataW H×List MemPlace),DataW.trod enc P w 0 spare held fuel t cs=some x->bk x.1<=N->
 ∃ cells,RdD (fun _ _=>False) w cs cells/\FitT P N t cells:=by
 intro fuel
 induction fuel with
 | zero=>intro t _ cs x h;simp [DataW.trod] at h
 | succ fuel ih=>
  intro t htL cs x hx hb;have hok:=List.all_eq_true.1 hL t htL;split at hok
  . rename_i ht;obtain ⟨b,rfl,rfl⟩:=DataW.trod_bool ht hx;exact ⟨[.raw (.bool b)],⟨.raw rfl,trivial⟩,.bool ht⟩
  . rename_i k ht;obtain ⟨m,rfl,rfl,hw⟩:=DataW.trod_int ht hx;exact ⟨[.raw (.int k m)],⟨.raw rfl,trivial⟩,.int ht (by simpa [Lit.wf] using hw)⟩
  . rename_i ht;obtain ⟨s,rfl,rfl,_⟩:=DataW.trod_string ht hx;refine ⟨[.raw (.string s)],⟨.raw rfl,trivial⟩,.str ht ?_⟩;have h1:=hB.str s.data.toList;have e:s.data.toList.length=s.size:=Array.length_toList;have hb:bk (.lit (.string s.data.toList))<=N:=hb;omega
  . rename_i e ht;simp only [Bool.and_eq_true,bne_iff_ne,ne_eq] at hok;obtain ⟨⟨heL,hc0⟩,hk⟩:=hok
    have heL:e∈L:=by simpa using heL
    by_cases hint:∃ k,P.underlying e=some (.int k)
    . obtain ⟨k,he⟩:=hint;rw [he] at hk
      have hc:P.cellsOf e=1:=by simpa using hk
      rcases open_ints ht he hc hx with ⟨rfl,rfl⟩ | ⟨a,len,cap,zs,rfl,_,hlc,_,hzl,rfl,hcell,hwf⟩
      . exact ⟨[.ints k []],⟨.ints 0 0 rfl (Nat.le_refl _) (fun h=>absurd rfl h) (fun i hi=>absurd hi (Nat.not_lt_zero i)),trivial⟩,.ints ht he (Nat.zero_le _) (fun x hx=>by cases hx)⟩
      . have hle:len<=zs.length:=by rw [hzl];split<;>omega
        have htl:(zs.take len).length=len:=by simp;omega
        refine ⟨[.ints k (zs.take len)],⟨.ints a.block a.off htl.symm hlc (fun hne=>?_) (fun i hi=>⟨fun h=>h,?_⟩),trivial⟩,.ints ht he ?_ (fun x hx=>?_)⟩
        . have hpos:0<zs.length:=by
           have:=List.length_pos_iff.2 hne
           omega
          have h0:=cellAt (hcell 0 hpos)
          have h0:a.spot=none:=by simpa [Addr.add] using h0
          cases a;simp at h0;subst h0;rfl
        . have hi':i<zs.length:=by omega
          have h1:=hcell i hi'
          have hs:a.spot=none:=by
           have h0:=cellAt (hcell 0 (by omega));simpa [Addr.add] using h0
          rw [addrAt hs] at h1;rw [h1];simp [hi']
        . have:=hB.elems (lits (H:=H) k (zs.take len)) (lits k (zs.drop len))
          have e1:(lits (H:=H) k (zs.take len)).length=len:=by simp [lits];omega
          have hb:bk (.slice (lits k (zs.take len)) (lits k (zs.drop len)))<=N:=hb;omega
        . have:=hwf x (List.mem_of_mem_take hx)
          simpa [Lit.wf] using this
    . have hint:∀ k,P.underlying e≠some (.int k):=fun k hk=>hint ⟨k,hk⟩
      rcases DataW.trod_slice ht hx with ⟨rfl,rfl⟩ | ⟨a,len,cap,elems,rest,m,hm,rfl,rfl,_,hlc,_,hlen,hel,_,_⟩
      . exact ⟨[.sl (P.cellsOf e) []],⟨.sl 0 0 (fun _ _=>Go.undef) rfl (Nat.le_refl _) (fun h=>absurd rfl h) (fun r hr=>by cases hr) (fun i hi=>absurd hi (Nat.not_lt_zero i)) (fun i hi=>absurd hi (Nat.not_lt_zero i)),trivial⟩,
         .sl ht hint (Nat.zero_le _) (fun r hr=>by cases hr)⟩
      . obtain rfl:fuel=m:=by omega
        have each:∀ i,i<len->∃(vs:List Value) (row:List Cell),vs.length=P.cellsOf e/\(∀ j,j<P.cellsOf e->w.cell? ((a.add (i*P.cellsOf e)).add j)=vs[j]?)/\RdD (fun _ _=>False) w vs row/\FitT P N e row:=fun i hi=>by
         have h1:=hel i hi
         have hi':i<elems.length:=by omega
         rw [List.getElem?_eq_getElem hi'] at h1;simp only [Option.bind_eq_some_iff] at h1;obtain ⟨vs,hvs,htr⟩:=h1;obtain ⟨_,h2,h3⟩:=World.cells?_some hvs;have hbe:bk elems[i].1<=N:=Nat.le_trans (hB.elem (elems.map (·.1)) (rest.map (·.1)) elems[i].1 (List.mem_map.2 ⟨_,List.getElem_mem hi',rfl⟩)) hb;obtain ⟨row,r1,r2⟩:=ih e heL vs _ htr hbe;exact ⟨vs,row,h2,h3,r1,r2⟩
        have hlN:len<=N:=by
         have h1:=hB.elems (elems.map (·.1)) (rest.map (·.1));rw [List.length_map] at h1;have hb:bk (.slice (elems.map (·.1)) (rest.map (·.1)))<=N:=hb;omega
        have pick:∃(V:Nat->List Value) (R:Nat->List Cell),∀ i,i<len->(V i).length=P.cellsOf e/\(∀ j,j<P.cellsOf e->w.cell? ((a.add (i*P.cellsOf e)).add j)=(V i)[j]?)/\RdD (fun _ _=>False) w (V i) (R i)/\FitT P N e (R i):=by
         refine ⟨fun i=>if h:i<len then Classical.choose (each i h) else [],fun i=>if h:i<len then Classical.choose (Classical.choose_spec (each i h)) else [],fun i hi=>?_⟩;simp only [dif_pos hi];exact Classical.choose_spec (Classical.choose_spec (each i hi))
        obtain ⟨V,R,hVR⟩:=pick
        have hspot:∀ i j,i<len->j<P.cellsOf e->a.spot=none:=fun i j hi hj=>by
         have h0:0<len:=by omega
         have h2:=(hVR 0 h0).2.1 0 (by omega)
         have hl0':0<(V 0).length:=by rw [(hVR 0 h0).1];omega
         rw [List.getElem?_eq_getElem hl0'] at h2
         have:=cellAt h2
         simpa [Addr.add] using this
        have hrl:∀ i,i<len->(R i).length=P.cellsOf e:=fun i hi=>by rw [<-(hVR i hi).2.2.1.length];exact (hVR i hi).1
        refine ⟨[.sl (P.cellsOf e) ((List.range len).map R)],⟨.sl a.block a.off (fun i j=>(V i).getD j Go.undef) (by simp) hlc (fun hne=>?_) (fun r hr=>?_) (fun i hi j hj=>⟨fun h=>h,?_⟩) (fun i hi j hj=>?_),trivial⟩,.sl ht hint (by simpa using hlN) (fun r hr=>?_)⟩
        . have h0:0<len:=by
           rcases Nat.eq_zero_or_pos len with h | h
           . subst h;simp at hne
           . exact h
          have h1:=hspot 0 0 h0 (by omega)
          cases a;simp at h1;subst h1;rfl
        . obtain ⟨i,hi,rfl⟩:=List.mem_map.1 hr;exact hrl i (List.mem_range.1 hi)
        . simp at hi;have h1:=(hVR i hi).2.1 j hj
          have hjl:j<(V i).length:=by rw [(hVR i hi).1];exact hj
          rw [addrAt (hspot i j hi hj),addrAt rfl] at h1;simp only at h1;rw [h1,List.getElem?_eq_getElem hjl];simp [hjl]
        . simp at hi;simp only [List.getElem_map,List.getElem_range] at hj ⊢;exact RdD.wz9 (hVR i hi).2.2.1 j hj
        . obtain ⟨i,hi,rfl⟩:=List.mem_map.1 hr;exact (hVR i (List.mem_range.1 hi)).2.2.2
  . rename_i n e ht;simp only [Bool.and_eq_true,beq_iff_eq] at hok;obtain ⟨heL,hc⟩:=hok
    have heL:e∈L:=by simpa using heL
    obtain ⟨xs,m,hm,rfl,hcl,hxl,hel⟩:=DataW.trod_array ht hx
    obtain rfl:fuel=m:=by omega
    obtain ⟨rows,r1,r2,r3⟩:=wgc (fun cs' x' h1 h2=>ih e heL cs' x' h1 h2) cs n 0 xs (by rw [hcl,hc,Nat.zero_add]) (by omega) (fun i _ h2=>hel i (by omega)) (fun y hy=>
     Nat.le_trans (hB.part (xs.map (·.1)) y.1 (List.mem_map.2 ⟨y,hy,rfl⟩)) hb)
    exact ⟨rows.flatten,by simpa using r1,.array ht r2 r3⟩
  . rename_i fs ht;simp only [Bool.and_eq_true,beq_iff_eq] at hok;obtain ⟨⟨hfL,htt⟩,hc⟩:=hok;obtain ⟨xs,m,hm,rfl,hcl,hxl,hf⟩:=DataW.trod_struct ht hx
    obtain rfl:fuel=m:=by omega
    obtain ⟨rows,r1,r2,r3⟩:=zfi (fun t' hL' cs' x' h1 h2=>ih t' hL' cs' x' h1 h2) fs.toList 0 cs xs htt (fun f hf=>by simpa using List.all_eq_true.1 hfL f hf) (by omega) (by simpa using hxl) (fun i f hf'=>hf i f (by simpa using hf')) (fun y hy=>
     Nat.le_trans (hB.part (xs.map (·.1)) y.1 (List.mem_map.2 ⟨y,hy,rfl⟩)) hb)
    exact ⟨rows.flatten,by simpa using r1,.struct ht (by simpa using r2) r3⟩
  . cases hok
end Go.Slot
namespace Go.Slot
open Go Go.RowKit
variable {P:Program}
def vpd (s:ByteArray) (i:Nat):Int:=((s.data[i]?).getD 0).toNat
end Go.Slot
namespace Go.Hp
open Go Go.RowKit Go.Slot
variable {o b i:Nat} {v:Value}
inductive HC where
 | any
 | dat (c:Cell)
 | ptr (b off:Nat)
 | pel (b es i f:Nat)
 | sl (b es lo n:Nat)
 | mp (b:Nat)
 | fnr (b:Nat)
inductive SV where
 | any
 | undef
 | one (h:HC)
 | agg (hs:List HC)
 | tup (l:List SV)
 | elt (cs:List Cell)
inductive SB where
 | fresh
 | dead
 | box (hs:List HC) (T:Option TypeId)
 | arr (c:Cell) (k:Nat) (T:Option TypeId)
 | map (es:List (Value×SV))
 | clo (f:FuncId) (caps:List SV)
variable {x x':SB}
def SB.own:SB->Bool
 | .box _ _ | .arr _ _ _ | .map _=>true
 | _=>false
def SB.mut (o:Nat):SB->Prop
 | .box _ _=>True
 | .arr _ k _=>k<=o
 | _=>False
theorem SB.xlm (h:x.mut o):x.own=true:=by cases x<;>first | rfl | exact h.elim
def bk:Value->Nat
 | .map (some b)=>b
 | v=>blk v
def okB (η:List SB) (b:Nat):Prop:=∃ x,η[b]? = some x/\x≠.fresh
def real (v:Value):Prop:=v≠.pointer none
def Xb (ρ:Nat->Value) (η:List SB) (k:Nat):Prop:=∃ i x,η[i]? = some x/\x.own=true/\real (ρ i)/\bk (ρ i)=k
def MX (Mo:Nat->Nat->Prop) (ρ:Nat->Value) (η:List SB) (b o:Nat):Prop:=Mo b o\/∃ i x,η[i]? = some x/\x.mut o/\real (ρ i)/\bk (ρ i)=b
def HRd (η:List SB) (ρ:Nat->Value) (M:Nat->Nat->Prop) (w:World) (v:Value):HC->Prop
 | .any=>v.oneCell'=true
 | .dat c=>RdC M w v c
 | .ptr b off=>okB η b/\v=.pointer (some ⟨bk (ρ b),off,none⟩)
 | .pel b es i f=>okB η b/\v=.pointer (some ⟨bk (ρ b),i*es+f,none⟩)
 | .sl b es lo n=>okB η b/\∃ ad cap,v=.slice ad n cap/\n<=cap/\(cap≠0->real (ρ b)/\ad=some ⟨bk (ρ b),lo*es,none⟩/\∃(arr:Array Value) (T:TypeId) (fz:Nat×Nat),w.heap[bk (ρ b)]? = some (Obj.cells arr T fz)/\(lo+cap)*es<=arr.size)
 | .mp b=>okB η b/\v=ρ b/\v.oneCell'=true
 | .fnr b=>okB η b/\v=ρ b/\v.oneCell'=true
def HRL (η:List SB) (ρ:Nat->Value) (M:Nat->Nat->Prop) (w:World):List Value->List HC->Prop
 | [],[]=>True
 | v::vs,h::hs=>HRd η ρ M w v h/\HRL η ρ M w vs hs
 | _,_=>False
def SVR0 (η:List SB) (ρ:Nat->Value) (M:Nat->Nat->Prop) (w:World) (v:Value):SV->Prop
 | .any=>True
 | .undef=>v=Go.undef
 | .one h=>HRd η ρ M w v h
 | .agg hs=>∃ vs:List Value,v=.agg vs.toArray/\HRL η ρ M w vs hs
 | .elt cs=>∃(b off:Nat) (vs:List Value),v=.pointer (some ⟨b,off,none⟩)/\(∀ j u,vs[j]? = some u->¬M b (off+j)/\w.cell? ⟨b,off+j,none⟩=some u)/\RdD M w vs cs
 | .tup _=>False
def SRL (η:List SB) (ρ:Nat->Value) (M:Nat->Nat->Prop) (w:World):List Value->List SV->Prop
 | [],[]=>True
 | v::vs,x::l=>SVR0 η ρ M w v x/\SRL η ρ M w vs l
 | _,_=>False
def SVR (η:List SB) (ρ:Nat->Value) (M:Nat->Nat->Prop) (w:World) (v:Value):SV->Prop
 | .tup l=>∃ vs:List Value,v=.tuple vs.toArray/\SRL η ρ M w vs l
 | x=>SVR0 η ρ M w v x
def EnR (η:List SB) (ρ:Nat->Value) (M:Nat->Nat->Prop) (w:World):List MapEntry->List (Value×SV)->Prop
 | [],[]=>True
 | e::es,p::l=>(e.key=p.1/\SVR0 η ρ M w e.val p.2)/\EnR η ρ M w es l
 | _,_=>False
def z5q (ents:Array MapEntry) (clk:Nat):Prop:=clk=ents.size/\∀(i:Nat) (e:MapEntry),ents[i]? = some e->e.born=i
theorem z5q.push {ents:Array MapEntry} {clk:Nat} (h:z5q ents clk) (k v:Value):z5q (ents.push { key:=k,val:=v,born:=clk }) (clk+1):=by
 refine ⟨by rw [Array.size_push,h.1],fun i e hi=>?_⟩;rw [Array.getElem?_push] at hi;split at hi
 . rename_i hs;cases hi;show clk=i;rw [h.1,hs]
 . exact h.2 i e hi
theorem z5q.modify {ents:Array MapEntry} {clk:Nat} (h:z5q ents clk) (j:Nat) (f:MapEntry->MapEntry) (hf:∀ e,(f e).born=e.born):z5q (ents.modify j f) clk:=by
 refine ⟨by rw [Array.size_modify,h.1],fun i e hi=>?_⟩;rw [Array.getElem?_modify] at hi;split at hi
 . obtain ⟨e0,h0,rfl⟩:=Option.map_eq_some_iff.1 hi;rw [hf];exact h.2 i e0 h0
 . exact h.2 i e hi
def SBR (η:List SB) (ρ:Nat->Value) (M:Nat->Nat->Prop) (w:World) (v:Value):SB->Prop
 | .fresh | .dead=>True
 | .box hs t=>∃(b:Nat) (vs:List Value) (T:TypeId),v=.pointer (some ⟨b,0,none⟩)/\w.heap[b]? = some (.cells vs.toArray T (0,0))/\HRL η ρ M w vs hs/\∀ t',t=some t'->T=t'
 | .arr c k t=>(c.uni/\k<=c.cnt*c.esz)/\((c.cnt=0/\v=.pointer none)\/∃(b:Nat) (vs q:List Value) (T:TypeId),v=.pointer (some ⟨b,0,none⟩)/\w.heap[b]? = some (.cells (vs++q).toArray T (0,0))/\RdD M w vs c.flat/\∀ t',t=some t'->T=t')
 | .map es=>∃(b:Nat) (ents:Array MapEntry) (clk:Nat),v=.map (some b)/\w.heap[b]? = some (.map ents clk)/\EnR η ρ M w ents.toList es/\z5q ents clk
 | .clo f caps=>∃ cv:List Value,v=.func (.func f) #[] cv.toArray/\SRL η ρ M w cv caps
def Grow (w w':World):Prop:=∀(b:Nat) (arr:Array Value) (T:TypeId) (fz:Nat×Nat),w.heap[b]? = some (Obj.cells arr T fz)->∃(arr':Array Value) (T':TypeId) (fz':Nat×Nat),w'.heap[b]? = some (Obj.cells arr' T' fz')/\arr.size<=arr'.size
theorem Grow.refl (w:World):Grow w w:=fun _ arr T fz h=>⟨arr,T,fz,h,Nat.le_refl _⟩
theorem Grow.trans {a b c:World} (h:Grow a b) (k:Grow b c):Grow a c:=fun i arr T fz hi=>by
 obtain ⟨arr',T',fz',h1,h2⟩:=h i arr T fz hi;obtain ⟨arr2,T2,fz2,h3,h4⟩:=k i arr' T' fz' h1;exact ⟨arr2,T2,fz2,h3,Nat.le_trans h2 h4⟩
theorem Grow.below {w w':World} (h:Below w.heap.size w w'):Grow w w':=fun b arr T fz hb=>
 ⟨arr,T,fz,(h.block b (Array.getElem?_eq_some_iff.1 hb).1).trans hb,Nat.le_refl _⟩
structure Mv (η:List SB) (ρ:Nat->Value) (M:Nat->Nat->Prop) (w:World) (η':List SB) (ρ':Nat->Value) (M':Nat->Nat->Prop) (w':World):Prop where
 ok:∀ b,okB η b->okB η' b
 rho:∀ b,okB η b->ρ' b=ρ b
 keep:ydx M M' w w'
 grow:Grow w w'
section
variable {η η':List SB} {ρ ρ':Nat->Value} {M M':Nat->Nat->Prop} {w w':World}
theorem HRd.mv (m:Mv η ρ M w η' ρ' M' w') {h:HC} (hr:HRd η ρ M w v h):HRd η' ρ' M' w' v h:=by
 cases h with
 | any=>exact hr
 | dat c=>exact RdC.keep m.keep hr
 | ptr b off=>exact ⟨m.ok b hr.1,by rw [m.rho b hr.1];exact hr.2⟩
 | pel b es i f=>exact ⟨m.ok b hr.1,by rw [m.rho b hr.1];exact hr.2⟩
 | sl b es lo n=>
  obtain ⟨ho,ad,cap,hv,hn,hc⟩:=hr;refine ⟨m.ok b ho,ad,cap,hv,hn,fun h0=>?_⟩;obtain ⟨hre,h1,arr,T,fz,h2,h3⟩:=hc h0;rw [m.rho b ho];obtain ⟨arr',T',fz',h4,h5⟩:=m.grow _ _ _ _ h2;exact ⟨hre,h1,arr',T',fz',h4,Nat.le_trans h3 h5⟩
 | mp b=>exact ⟨m.ok b hr.1,by rw [m.rho b hr.1];exact hr.2⟩
 | fnr b=>exact ⟨m.ok b hr.1,by rw [m.rho b hr.1];exact hr.2⟩
theorem HRL.mv (m:Mv η ρ M w η' ρ' M' w'):∀{vs:List Value} {hs:List HC},HRL η ρ M w vs hs->HRL η' ρ' M' w' vs hs
 | [],[],_=>trivial
 | _::_,_::_,h=>⟨h.1.mv m,h.2.mv m⟩
theorem SVR0.mv (m:Mv η ρ M w η' ρ' M' w') {v:Value} {x:SV} (h:SVR0 η ρ M w v x):SVR0 η' ρ' M' w' v x:=by
 cases x with
 | one c=>exact HRd.mv m h
 | agg cs=>obtain ⟨vs,rfl,h⟩:=h;exact ⟨vs,rfl,h.mv m⟩
 | elt cs=>obtain ⟨b,off,vs,rfl,hc,h⟩:=h;exact ⟨b,off,vs,rfl,fun j u hj=>m.keep _ _ _ (hc j u hj).1 (hc j u hj).2,h.keep m.keep⟩
 | _=>exact h
theorem SRL.mv (m:Mv η ρ M w η' ρ' M' w'):∀{vs:List Value} {l:List SV},SRL η ρ M w vs l->SRL η' ρ' M' w' vs l
 | [],[],_=>trivial
 | _::_,_::_,h=>⟨h.1.mv m,h.2.mv m⟩
theorem SVR.of0 {x:SV} (h:SVR0 η ρ M w v x):SVR η ρ M w v x:=by
 cases x<;>first | exact h | exact h.elim
theorem SVR.mv (m:Mv η ρ M w η' ρ' M' w') {v:Value} {x:SV} (h:SVR η ρ M w v x):SVR η' ρ' M' w' v x:=by
 cases x with
 | tup l=>obtain ⟨vs,rfl,h⟩:=h;exact ⟨vs,rfl,h.mv m⟩
 | _=>exact SVR.of0 (SVR0.mv m h)
theorem EnR.mv (m:Mv η ρ M w η' ρ' M' w'):∀{es:List MapEntry} {l:List (Value×SV)},EnR η ρ M w es l->EnR η' ρ' M' w' es l
 | [],[],_=>trivial
 | _::_,_::_,h=>⟨⟨h.1.1,h.1.2.mv m⟩,h.2.mv m⟩
theorem SBR.mv (m:Mv η ρ M w η' ρ' M' w') {v:Value} {x:SB} (hh:x.own=true->real v->w'.heap[bk v]? = w.heap[bk v]?) (h:SBR η ρ M w v x):SBR η' ρ' M' w' v x:=by
 cases x with
 | fresh=>trivial
 | dead=>trivial
 | box hs t=>obtain ⟨b,vs,T,rfl,hb,h,ht⟩:=h;exact ⟨b,vs,T,rfl,(hh rfl (by simp [real])).trans hb,h.mv m,ht⟩
 | arr c k t=>
  obtain ⟨hu,h | ⟨b,vs,q,T,rfl,hb,h,hk⟩⟩:=h
  . exact ⟨hu,.inl h⟩
  . exact ⟨hu,.inr ⟨b,vs,q,T,rfl,(hh rfl (by simp [real])).trans hb,h.keep m.keep,hk⟩⟩
 | map es=>obtain ⟨b,ents,clk,rfl,hb,h,hB⟩:=h;exact ⟨b,ents,clk,rfl,(hh rfl (by simp [real])).trans hb,h.mv m,hB⟩
 | clo f caps=>obtain ⟨cv,rfl,h⟩:=h;exact ⟨cv,rfl,h.mv m⟩
theorem SBR.znb (h:SBR η ρ M w v x) (ho:x.own=true) (hr:real v):bk v<w.heap.size:=by
 cases x with
 | box hs t=>obtain ⟨b,vs,T,rfl,hb,_⟩:=h;exact (Array.getElem?_eq_some_iff.1 hb).1
 | arr c k t=>
  obtain ⟨_,⟨_,e⟩ | ⟨b,vs,q,T,rfl,hb,_⟩⟩:=h
  . exact absurd e hr
  . exact (Array.getElem?_eq_some_iff.1 hb).1
 | map es=>obtain ⟨b,ents,clk,rfl,hb,_⟩:=h;exact (Array.getElem?_eq_some_iff.1 hb).1
 | _=>cases ho
theorem HRd.one {v:Value} {h:HC} (hr:HRd η ρ M w v h):v.oneCell'=true:=by
 cases h with
 | any=>exact hr
 | dat c=>exact RdC.one hr
 | ptr b off=>rw [hr.2];rfl
 | pel b es i f=>rw [hr.2];rfl
 | sl b es lo n=>obtain ⟨_,ad,cap,rfl,_⟩:=hr;rfl
 | mp b=>exact hr.2.2
 | fnr b=>exact hr.2.2
theorem HRL.ones:∀{vs:List Value} {hs:List HC},HRL η ρ M w vs hs->∀ v∈vs,v.oneCell'=true
 | [],[],_,v,hv=>by simp at hv
 | u::vs,_::_,h,v,hv=>by
  rcases List.mem_cons.1 hv with rfl | hv
  . exact h.1.one
  . exact h.2.ones v hv
theorem HRL.length:∀{vs:List Value} {hs:List HC},HRL η ρ M w vs hs->vs.length=hs.length
 | [],[],_=>rfl
 | _::_,_::_,h=>by simp [h.2.length]
theorem SRL.length:∀{vs:List Value} {l:List SV},SRL η ρ M w vs l->vs.length=l.length
 | [],[],_=>rfl
 | _::_,_::_,h=>by simp [h.2.length]
theorem HRL.drop:∀(n:Nat) {vs:List Value} {cs:List HC},HRL η ρ M w vs cs->HRL η ρ M w (vs.drop n) (cs.drop n)
 | 0,_,_,h=>by simpa using h
 | n+1,[],[],_=>trivial
 | n+1,_::_,_::_,h=>by simpa using h.2.drop n
theorem HRL.take:∀(n:Nat) {vs:List Value} {cs:List HC},HRL η ρ M w vs cs->HRL η ρ M w (vs.take n) (cs.take n)
 | 0,_,_,_=>trivial
 | _n+1,[],[],_=>trivial
 | n+1,_::_,_::_,h=>⟨h.1,h.2.take n⟩
theorem HRL.append:∀{vs:List Value} {cs:List HC} {us:List Value} {ds:List HC},HRL η ρ M w vs cs->HRL η ρ M w us ds->HRL η ρ M w (vs++us) (cs++ds)
 | [],[],_,_,_,h=>h
 | _::_,_::_,_,_,h,h'=>⟨h.1,h.2.append h'⟩
theorem SRL.append:∀{vs:List Value} {cs:List SV} {us:List Value} {ds:List SV},SRL η ρ M w vs cs->SRL η ρ M w us ds->SRL η ρ M w (vs++us) (cs++ds)
 | [],[],_,_,_,h=>h
 | _::_,_::_,_,_,h,h'=>⟨h.1,h.2.append h'⟩
theorem SRL.get:∀{vs:List Value} {cs:List SV},SRL η ρ M w vs cs->∀(j:Nat) (c:SV),cs[j]? = some c->∃ v,vs[j]? = some v/\SVR0 η ρ M w v c
 | [],[],_,j,c,hc=>by simp at hc
 | v::vs,c'::cs,h,0,c,hc=>by simp at hc;subst hc;exact ⟨v,by simp,h.1⟩
 | v::vs,c'::cs,h,j+1,c,hc=>by simpa using h.2.get j c (by simpa using hc)
theorem RdD.hrl:∀{vs:List Value} {cs:List Cell},RdD M w vs cs->HRL η ρ M w vs (cs.map .dat)
 | [],[],_=>trivial
 | _::_,_::_,h=>⟨h.1,RdD.hrl h.2⟩
end
def zw4 (Γ:List (Nat×List Cell)) (M:Nat->Nat->Prop) (w:World):Prop:=
 ∀ g cs,(g,cs)∈Γ->∃ vs:List Value,(∀ j u,vs[j]? = some u->¬M g j/\w.cell? ⟨g,j,none⟩=some u)/\RdD M w vs cs
theorem zw4.keep {Γ:List (Nat×List Cell)} {M M':Nat->Nat->Prop} {w w':World} (hk:ydx M M' w w') (h:zw4 Γ M w):zw4 Γ M' w':=fun g cs hg=>by
 obtain ⟨vs,h1,h2⟩:=h g cs hg;exact ⟨vs,fun j u hj=>hk _ _ _ (h1 j u hj).1 (h1 j u hj).2,h2.keep hk⟩
structure HInv (Γ:List (Nat×List Cell)) (Mo:Nat->Nat->Prop) (ρ:Nat->Value) (η:List SB) (w:World):Prop where
 bnd:∀ b o,Mo b o->b<w.heap.size
 blk:∀ i x,η[i]? = some x->SBR η ρ (MX Mo ρ η) w (ρ i) x
 inj:∀ i j x y,η[i]? = some x->η[j]? = some y->x.own=true->y.own=true->real (ρ i)->real (ρ j)->bk (ρ i)=bk (ρ j)->i=j
 sep:∀ i x,η[i]? = some x->x.own=true->real (ρ i)->∀ o,¬Mo (bk (ρ i)) o
 glob:zw4 Γ (MX Mo ρ η) w
structure Went (Γ:List (Nat×List Cell)) (Mo:Nat->Nat->Prop) (ρ:Nat->Value) (η:List SB) (w:World) (ρ':Nat->Value) (η':List SB) (w':World):Prop where
 ok:∀ b,okB η b->okB η' b
 rho:∀ b,okB η b->ρ' b=ρ b
 keep:ydx (MX Mo ρ η) (MX Mo ρ' η') w w'
 grow:Grow w w'
 inv:HInv Γ Mo ρ' η' w'
 size:w.heap.size<=w'.heap.size
 os:w'.os=w.os
 tape:w'.tape=w.tape
 output:w'.output=w.output
 frame:∀ k,k<w.heap.size->¬Xb ρ η k->w'.heap[k]? = w.heap[k]?
 fresh:∀ k,Xb ρ' η' k->w.heap.size<=k\/Xb ρ η k
section
variable {Γ:List (Nat×List Cell)} {Mo:Nat->Nat->Prop} {η η' η'':List SB} {ρ ρ' ρ'':Nat->Value} {w w' w'':World}
theorem Went.mv (h:Went Γ Mo ρ η w ρ' η' w'):Mv η ρ (MX Mo ρ η) w η' ρ' (MX Mo ρ' η') w':=⟨h.ok,h.rho,h.keep,h.grow⟩
theorem Went.refl (h:HInv Γ Mo ρ η w):Went Γ Mo ρ η w ρ η w:=
 ⟨fun _ h=>h,fun _ _=>rfl,fun _ _ _ h1 h2=>⟨h1,h2⟩,Grow.refl w,h,Nat.le_refl _,rfl,rfl,rfl,fun _ _ _=>rfl,fun _ h=>.inr h⟩
theorem Went.trans (h:Went Γ Mo ρ η w ρ' η' w') (k:Went Γ Mo ρ' η' w' ρ'' η'' w''):Went Γ Mo ρ η w ρ'' η'' w'' where
 ok:=fun b hb=>k.ok b (h.ok b hb)
 rho:=fun b hb=>(k.rho b (h.ok b hb)).trans (h.rho b hb)
 keep:=h.keep.trans k.keep
 grow:=h.grow.trans k.grow
 inv:=k.inv
 size:=Nat.le_trans h.size k.size
 os:=k.os.trans h.os
 tape:=k.tape.trans h.tape
 output:=k.output.trans h.output
 frame:=fun i hi hx=>(k.frame i (Nat.lt_of_lt_of_le hi h.size) (fun h1=>by
  rcases h.fresh i h1 with h2 | h2
  . omega
  . exact hx h2)).trans (h.frame i hi hx)
 fresh:=fun i hx=>by
  rcases k.fresh i hx with h1 | h1
  . exact .inl (Nat.le_trans h.size h1)
  . exact h.fresh i h1
theorem ysd (hx:x≠.fresh) (h:okB η b):okB (η.set i x) b:=by
 obtain ⟨y,h1,h2⟩:=h;unfold okB;rw [List.getElem?_set]
 split
 . rename_i e;subst e;rw [if_pos (List.getElem?_eq_some_iff.1 h1).1];exact ⟨x,rfl,hx⟩
 . exact ⟨y,h1,h2⟩
theorem zq7 (l:List SB) (h:okB η b):okB (η++l) b:=by
 obtain ⟨y,h1,h2⟩:=h;exact ⟨y,by rw [List.getElem?_append_left (List.getElem?_eq_some_iff.1 h1).1];exact h1,h2⟩
theorem wn4 {α:Type} {l:List α} {d:Nat} {x y:α} (h:(l.set d x)[i]? = some y):(i=d/\y=x)\/(i≠d/\l[i]? = some y):=getElem?_set_cases h
theorem HInv.below (h:HInv Γ Mo ρ η w) (hb:Below w.heap.size w w'):HInv Γ Mo ρ η w' where
 bnd:=fun b o ho=>Nat.lt_of_lt_of_le (h.bnd b o ho) hb.size
 blk:=fun i x hi=>(h.blk i x hi).mv ⟨fun _ h=>h,fun _ _=>rfl,ydx.below hb,Grow.below hb⟩ (fun ho hr=>hb.block _ ((h.blk i x hi).znb ho hr))
 inj:=h.inj
 sep:=h.sep
 glob:=h.glob.keep (ydx.below hb)
theorem Went.below (h:HInv Γ Mo ρ η w) (hb:Below w.heap.size w w'):Went Γ Mo ρ η w ρ η w':=
 ⟨fun _ h=>h,fun _ _=>rfl,ydx.below hb,Grow.below hb,h.below hb,hb.size,hb.os,hb.tape,hb.output,fun k hk _=>hb.block k hk,fun _ h=>.inr h⟩
theorem x6h (h:HInv Γ Mo ρ η w) (hm:MX Mo ρ η b o):b<w.heap.size:=by
 rcases hm with hm | ⟨i,x,hi,hx,hr,rfl⟩
 . exact h.bnd b o hm
 . exact (h.blk i x hi).znb (SB.xlm hx) hr
theorem xd7 {n:Nat} (h:(η++List.replicate n .fresh)[i]? = some x):η[i]? = some x\/(η.length<=i/\x=.fresh):=by
 rw [List.getElem?_append] at h;split at h
 . exact .inl h
 . rw [List.getElem?_replicate] at h;split at h
   . cases h;exact .inr ⟨by omega,rfl⟩
   . cases h
theorem Went.extend (h:HInv Γ Mo ρ η w) (n:Nat):Went Γ Mo ρ η w ρ (η++List.replicate n .fresh) w:=by
 have hM:∀ b o,MX Mo ρ (η++List.replicate n .fresh) b o->MX Mo ρ η b o:=by
  rintro b o (hm | ⟨i,x,hi,hx,hr⟩)
  . exact .inl hm
  . rcases xd7 hi with hi | ⟨_,rfl⟩
    . exact .inr ⟨i,x,hi,hx,hr⟩
    . exact hx.elim
 have hk:ydx (MX Mo ρ η) (MX Mo ρ (η++List.replicate n .fresh)) w w:=fun b o u h1 h2=>⟨fun hm=>h1 (hM b o hm),h2⟩
 refine ⟨fun b hb=>zq7 _ hb,fun _ _=>rfl,hk,Grow.refl w,⟨h.bnd,?_,?_,?_,h.glob.keep hk⟩,Nat.le_refl _,rfl,rfl,rfl,fun _ _ _=>rfl,?_⟩
 . intro i x hi
   rcases xd7 hi with hi | ⟨_,rfl⟩
   . exact (h.blk i x hi).mv ⟨fun b hb=>zq7 _ hb,fun _ _=>rfl,hk,Grow.refl w⟩ (fun _ _=>rfl)
   . trivial
 . intro i j x y hi hj hx hy
   rcases xd7 hi with hi | ⟨_,rfl⟩
   . rcases xd7 hj with hj | ⟨_,rfl⟩
     . exact h.inj i j x y hi hj hx hy
     . cases hy
   . cases hx
 . intro i x hi hx
   rcases xd7 hi with hi | ⟨_,rfl⟩
   . exact h.sep i x hi hx
   . cases hx
 . rintro k ⟨i,x,hi,hx,hr⟩
   rcases xd7 hi with hi | ⟨_,rfl⟩
   . exact .inr ⟨i,x,hi,hx,hr⟩
   . cases hx
def upd (ρ:Nat->Value) (b:Nat) (v:Value):Nat->Value:=fun i=>if i=b then v else ρ i
theorem wty:upd ρ b v b=v:=by simp [upd]
theorem yml (h:i≠b):upd ρ b v i=ρ i:=by simp [upd,h]
theorem wjz (h:η[b]? = some .fresh):¬okB η b:=fun ⟨x,h1,h2⟩=>by rw [h] at h1;cases h1;exact h2 rfl
theorem Went.new (h:HInv Γ Mo ρ η w) (hb:Below w.heap.size w w') (hf:η[b]? = some .fresh) (hxf:x≠.fresh)
 (hnew:x.own=true->real v->w.heap.size<=bk v)
 (hok:Mv η ρ (MX Mo ρ η) w (η.set b x) (upd ρ b v) (MX Mo (upd ρ b v) (η.set b x)) w'->SBR (η.set b x) (upd ρ b v) (MX Mo (upd ρ b v) (η.set b x)) w' v x):Went Γ Mo ρ η w (upd ρ b v) (η.set b x) w':=by
 have hne:∀ i,okB η i->i≠b:=fun i hi e=>wjz hf (e▸hi)
 have hM:∀ c o,MX Mo (upd ρ b v) (η.set b x) c o->MX Mo ρ η c o\/(w.heap.size<=c):=by
  rintro c o (hm | ⟨i,y,hi,hy,hr,e⟩)
  . exact .inl (.inl hm)
  . rcases wn4 hi with ⟨rfl,rfl⟩ | ⟨hn,hi⟩
    . rw [wty] at hr e;exact .inr (e▸hnew (SB.xlm hy) hr)
    . rw [yml hn] at hr e;exact .inl (.inr ⟨i,y,hi,hy,hr,e⟩)
 have hk:ydx (MX Mo ρ η) (MX Mo (upd ρ b v) (η.set b x)) w w':=fun c o u h1 h2=>by
  have hl:=World.block_lt_of_cell? w _ h2;refine ⟨fun hm=>?_,(ydx.below hb c o u h1 h2).2⟩
  rcases hM c o hm with hm | hm
  . exact h1 hm
  . simp only at hl;omega
 have hm:Mv η ρ (MX Mo ρ η) w (η.set b x) (upd ρ b v) (MX Mo (upd ρ b v) (η.set b x)) w':=⟨fun i hi=>ysd hxf hi,fun i hi=>yml (hne i hi),hk,Grow.below hb⟩;refine ⟨hm.ok,hm.rho,hk,hm.grow,⟨fun c o ho=>Nat.lt_of_lt_of_le (h.bnd c o ho) hb.size,?_,?_,?_,h.glob.keep hk⟩,hb.size,hb.os,hb.tape,hb.output,fun k hk _=>hb.block k hk,?_⟩
 . intro i y hi
   rcases wn4 hi with ⟨rfl,rfl⟩ | ⟨hn,hi⟩
   . rw [wty];exact hok hm
   . rw [yml hn];exact (h.blk i y hi).mv hm (fun ho hr=>hb.block _ ((h.blk i y hi).znb ho hr))
 . intro i j y z hi hj hy hz hri hrj e
   rcases wn4 hi with ⟨ei,ey⟩ | ⟨hn,hi'⟩
   . rcases wn4 hj with ⟨ej,ez⟩ | ⟨hn',hj'⟩
     . rw [ei,ej]
     . subst ei;subst ey;rw [wty] at hri e;rw [yml hn'] at hrj e;have h1:=hnew hy hri;have h2:=(h.blk j z hj').znb hz hrj;omega
   . rcases wn4 hj with ⟨ej,ez⟩ | ⟨hn',hj'⟩
     . subst ej;subst ez;rw [wty] at hrj e;rw [yml hn] at hri e;have h1:=hnew hz hrj;have h2:=(h.blk i y hi').znb hy hri;omega
     . rw [yml hn] at hri e;rw [yml hn'] at hrj e;exact h.inj i j y z hi' hj' hy hz hri hrj e
 . intro i y hi hy hr o ho
   rcases wn4 hi with ⟨rfl,rfl⟩ | ⟨hn,hi⟩
   . rw [wty] at hr ho;have h1:=hnew hy hr;have h2:=h.bnd _ _ ho;omega
   . rw [yml hn] at hr ho;exact h.sep i y hi hy hr o ho
 . rintro k ⟨i,y,hi,hy,hr,e⟩
   rcases wn4 hi with ⟨rfl,rfl⟩ | ⟨hn,hi⟩
   . rw [wty] at hr e;exact .inl (e▸hnew hy hr)
   . rw [yml hn] at hr e;exact .inr ⟨i,y,hi,hy,hr,e⟩
theorem Went.write (h:HInv Γ Mo ρ η w) (hx:η[b]? = some x) (ho:x.own=true) (hr:real (ρ b)) (ho':x'.own=true) (hmut:∀ o,x'.mut o↔x.mut o)
 (hsize:w'.heap.size=w.heap.size) (hos:w'.os=w.os) (htape:w'.tape=w.tape) (hout:w'.output=w.output) (hother:∀ k,k≠bk (ρ b)->w'.heap[k]? = w.heap[k]?) (hgrow:Grow w w')
 (hcell:∀ o u,¬x.mut o->w.cell? ⟨bk (ρ b),o,none⟩=some u->w'.cell? ⟨bk (ρ b),o,none⟩=some u)
 (hok:Mv η ρ (MX Mo ρ η) w (η.set b x') ρ (MX Mo ρ (η.set b x')) w'->SBR (η.set b x') ρ (MX Mo ρ (η.set b x')) w' (ρ b) x'):Went Γ Mo ρ η w ρ (η.set b x') w':=by
 have hxf:x'≠.fresh:=fun e=>by rw [e] at ho';cases ho'
 have hlt:b<η.length:=(List.getElem?_eq_some_iff.1 hx).1
 have hM:∀ c o,MX Mo ρ (η.set b x') c o↔MX Mo ρ η c o:=fun c o=>by
  constructor
  . rintro (hm | ⟨i,y,hi,hy,hr,e⟩)
    . exact .inl hm
    . rcases wn4 hi with ⟨rfl,rfl⟩ | ⟨hn,hi⟩
      . exact .inr ⟨i,x,hx,(hmut o).1 hy,hr,e⟩
      . exact .inr ⟨i,y,hi,hy,hr,e⟩
  . rintro (hm | ⟨i,y,hi,hy,hr,e⟩)
    . exact .inl hm
    . by_cases hn:i=b
      . subst hn;rw [hx] at hi;cases hi;exact .inr ⟨i,x',by simp [hlt],(hmut o).2 hy,hr,e⟩
      . exact .inr ⟨i,y,by rw [List.getElem?_set_ne (Ne.symm hn)];exact hi,hy,hr,e⟩
 have hk:ydx (MX Mo ρ η) (MX Mo ρ (η.set b x')) w w':=fun c o u h1 h2=>by
  refine ⟨fun hm=>h1 ((hM c o).1 hm),?_⟩;by_cases e:c=bk (ρ b)
  . subst e;exact hcell o u (fun hm=>h1 (.inr ⟨b,x,hx,hm,hr,rfl⟩)) h2
  . unfold World.cell? at h2 ⊢;dsimp only at h2 ⊢;rw [hother c e];exact h2
 have hm:Mv η ρ (MX Mo ρ η) w (η.set b x') ρ (MX Mo ρ (η.set b x')) w':=⟨fun i hi=>ysd hxf hi,fun _ _=>rfl,hk,hgrow⟩;refine ⟨hm.ok,hm.rho,hk,hgrow,⟨fun c o hc=>by rw [hsize];exact h.bnd c o hc,?_,?_,?_,h.glob.keep hk⟩,by omega,hos,htape,hout,?_,?_⟩
 . intro i y hi
   rcases wn4 hi with ⟨rfl,rfl⟩ | ⟨hn,hi⟩
   . exact hok hm
   . exact (h.blk i y hi).mv hm (fun hyo hri=>hother _ (fun e=>hn (h.inj i b y x hi hx hyo ho hri hr e)))
 . intro i j y z hi hj hy hz
   have key:∀(k:Nat) (u:SB),(η.set b x')[k]? = some u->u.own=true->∃ u':SB,η[k]? = some u'/\u'.own=true:=fun k u hk hu=>by
    rcases wn4 hk with ⟨rfl,rfl⟩ | ⟨_,hk⟩
    . exact ⟨x,hx,ho⟩
    . exact ⟨u,hk,hu⟩
   obtain ⟨y',h1,h2⟩:=key i y hi hy;obtain ⟨z',h3,h4⟩:=key j z hj hz;exact h.inj i j y' z' h1 h3 h2 h4
 . intro i y hi hy
   rcases wn4 hi with ⟨rfl,rfl⟩ | ⟨_,hi⟩
   . exact h.sep i x hx ho
   . exact h.sep i y hi hy
 . intro k _ hk;exact hother k (fun e=>hk ⟨b,x,hx,ho,hr,e.symm⟩)
 . rintro k ⟨i,y,hi,hy,hr',e⟩
   rcases wn4 hi with ⟨rfl,rfl⟩ | ⟨_,hi⟩
   . exact .inr ⟨i,x,hx,ho,hr',e⟩
   . exact .inr ⟨i,y,hi,hy,hr',e⟩
theorem Went.less (h:HInv Γ Mo ρ η w) (hx:η[b]? = some x) (hxf:x'≠.fresh) (ho:x'.own=true->x.own=true) (hmut:∀ o,x'.mut o->x.mut o)
 (hok:Mv η ρ (MX Mo ρ η) w (η.set b x') ρ (MX Mo ρ (η.set b x')) w->SBR (η.set b x') ρ (MX Mo ρ (η.set b x')) w (ρ b) x'):Went Γ Mo ρ η w ρ (η.set b x') w:=by
 have hM:∀ c o,MX Mo ρ (η.set b x') c o->MX Mo ρ η c o:=by
  rintro c o (hm | ⟨i,y,hi,hy,hr,e⟩)
  . exact .inl hm
  . rcases wn4 hi with ⟨rfl,rfl⟩ | ⟨_,hi⟩
    . exact .inr ⟨i,x,hx,hmut o hy,hr,e⟩
    . exact .inr ⟨i,y,hi,hy,hr,e⟩
 have hk:ydx (MX Mo ρ η) (MX Mo ρ (η.set b x')) w w:=fun c o u h1 h2=>⟨fun hm=>h1 (hM c o hm),h2⟩
 have hm:Mv η ρ (MX Mo ρ η) w (η.set b x') ρ (MX Mo ρ (η.set b x')) w:=⟨fun i hi=>ysd hxf hi,fun _ _=>rfl,hk,Grow.refl w⟩
 have key:∀(k:Nat) (u:SB),(η.set b x')[k]? = some u->u.own=true->∃ u':SB,η[k]? = some u'/\u'.own=true:=fun k u hk hu=>by
  rcases wn4 hk with ⟨rfl,rfl⟩ | ⟨_,hk⟩
  . exact ⟨x,hx,ho hu⟩
  . exact ⟨u,hk,hu⟩
 refine ⟨hm.ok,hm.rho,hk,hm.grow,⟨h.bnd,?_,?_,?_,h.glob.keep hk⟩,Nat.le_refl _,rfl,rfl,rfl,fun _ _ _=>rfl,?_⟩
 . intro i y hi
   rcases wn4 hi with ⟨rfl,rfl⟩ | ⟨_,hi⟩
   . exact hok hm
   . exact (h.blk i y hi).mv hm (fun _ _=>rfl)
 . intro i j y z hi hj hy hz;obtain ⟨y',h1,h2⟩:=key i y hi hy;obtain ⟨z',h3,h4⟩:=key j z hj hz;exact h.inj i j y' z' h1 h3 h2 h4
 . intro i y hi hy;obtain ⟨y',h1,h2⟩:=key i y hi hy;exact h.sep i y' h1 h2
 . rintro k ⟨i,y,hi,hy,hr',e⟩;obtain ⟨y',h1,h2⟩:=key i y hi hy;exact .inr ⟨i,y',h1,h2,hr',e⟩
theorem Went.move (h:HInv Γ Mo ρ η w) {nb:Nat} (hx:η[b]? = some x) (ho:x.own=true) (hf:η[nb]? = some .fresh):Went Γ Mo ρ η w (upd ρ nb (ρ b)) ((η.set b .dead).set nb x) w:=by
 have hxf:x≠.fresh:=fun e=>by rw [e] at ho;cases ho
 have hbn:b≠nb:=fun e=>by rw [e,hf] at hx;cases hx;exact hxf rfl
 have hlb:b<η.length:=(List.getElem?_eq_some_iff.1 hx).1;have hln:nb<η.length:=(List.getElem?_eq_some_iff.1 hf).1
 have key:∀(i:Nat) (y:SB),((η.set b .dead).set nb x)[i]? = some y->(i=nb/\y=x)\/(i≠nb/\i=b/\y=.dead)\/(i≠nb/\i≠b/\η[i]? = some y):=fun i y hi=>by
  rcases wn4 hi with h1 | ⟨hn,hi⟩
  . exact .inl h1
  . rcases wn4 hi with ⟨h2,h3⟩ | ⟨hn',hi⟩
    . exact .inr (.inl ⟨hn,h2,h3⟩)
    . exact .inr (.inr ⟨hn,hn',hi⟩)
 have hold:∀(i:Nat) (y:SB),((η.set b .dead).set nb x)[i]? = some y->y.own=true->∃ j,η[j]? = some y/\upd ρ nb (ρ b) i=ρ j/\(i=nb->j=b)/\(i≠nb->j=i):=fun i y hi hy=>by
  rcases key i y hi with ⟨rfl,rfl⟩ | ⟨hn,rfl,rfl⟩ | ⟨hn,hn',hi⟩
  . exact ⟨b,hx,wty,fun _=>rfl,fun e=>absurd rfl e⟩
  . cases hy
  . exact ⟨i,hi,yml hn,fun e=>absurd e hn,fun _=>rfl⟩
 have hM:∀ c o,MX Mo (upd ρ nb (ρ b)) ((η.set b .dead).set nb x) c o->MX Mo ρ η c o:=by
  rintro c o (hm | ⟨i,y,hi,hy,hr,e⟩)
  . exact .inl hm
  . obtain ⟨j,h1,h2,_⟩:=hold i y hi (SB.xlm hy);rw [h2] at hr e;exact .inr ⟨j,y,h1,hy,hr,e⟩
 have hk:ydx (MX Mo ρ η) (MX Mo (upd ρ nb (ρ b)) ((η.set b .dead).set nb x)) w w:=fun c o u h1 h2=>⟨fun hm=>h1 (hM c o hm),h2⟩
 have hok:∀ i,okB η i->okB ((η.set b .dead).set nb x) i:=fun i hi=>ysd hxf (ysd (by simp) hi)
 have hm:Mv η ρ (MX Mo ρ η) w ((η.set b .dead).set nb x) (upd ρ nb (ρ b)) (MX Mo (upd ρ nb (ρ b)) ((η.set b .dead).set nb x)) w:=
  ⟨hok,fun i hi=>yml (fun e=>wjz hf (e▸hi)),hk,Grow.refl w⟩
 refine ⟨hm.ok,hm.rho,hk,hm.grow,⟨h.bnd,?_,?_,?_,h.glob.keep hk⟩,Nat.le_refl _,rfl,rfl,rfl,fun _ _ _=>rfl,?_⟩
 . intro i y hi
   rcases key i y hi with ⟨rfl,rfl⟩ | ⟨hn,rfl,rfl⟩ | ⟨hn,hn',hi⟩
   . rw [wty];exact (h.blk b y hx).mv hm (fun _ _=>rfl)
   . trivial
   . rw [yml hn];exact (h.blk i y hi).mv hm (fun _ _=>rfl)
 . intro i j y z hi hj hy hz hri hrj e;obtain ⟨i',h1,h2,h3,h4⟩:=hold i y hi hy;obtain ⟨j',h5,h6,h7,h8⟩:=hold j z hj hz;rw [h2] at hri e;rw [h6] at hrj e;have e':=h.inj i' j' y z h1 h5 hy hz hri hrj e;by_cases hin:i=nb
   . by_cases hjn:j=nb
     . rw [hin,hjn]
     . exfalso;rw [h3 hin,h8 hjn] at e'
       rcases key j z hj with ⟨e1,_⟩ | ⟨_,_,rfl⟩ | ⟨_,e1,_⟩
       . exact hjn e1
       . cases hz
       . exact e1 e'.symm
   . by_cases hjn:j=nb
     . exfalso;rw [h7 hjn,h4 hin] at e'
       rcases key i y hi with ⟨e1,_⟩ | ⟨_,_,rfl⟩ | ⟨_,e1,_⟩
       . exact hin e1
       . cases hy
       . exact e1 e'
     . rw [h4 hin,h8 hjn] at e';exact e'
 . intro i y hi hy hr;obtain ⟨j,h1,h2,_⟩:=hold i y hi hy;rw [h2] at hr ⊢;exact h.sep j y h1 hy hr
 . rintro k ⟨i,y,hi,hy,hr,e⟩;obtain ⟨j,h1,h2,_⟩:=hold i y hi hy;rw [h2] at hr e;exact .inr ⟨j,y,h1,hy,hr,e⟩
theorem Went.kill (h:HInv Γ Mo ρ η w) (hx:η[b]? = some x):Went Γ Mo ρ η w ρ (η.set b .dead) w:=
 Went.less h hx (by simp) (by intro h;cases h) (by intro o h;exact h.elim) (fun _=>trivial)
end
end Go.Hp
