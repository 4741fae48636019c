/- The proof, part Z36: Jd, V7, 2b. -/
import Derived.Test.YtocdljjhobaabaaGreatDoorZ35
import Derived.OpenShut
import Derived.Test.YtocdljjhobaabaaGreatDoorRows
import Derived.Deep.DeepHandedRow
import Derived.LaidMore
import Derived.MakeChecks
import Derived.ProofKit
namespace Go.Slot
open Go Go.RowKit Go.ChangeShapes
def zqe (P:Program):Nat->List Field->Bool
 | _,[]=>true
 | off,f::r=>f.offset==off&&zqe P (off+P.cellsOf f.type) r
def w5k (P:Program):List Field->Nat
 | []=>0
 | f::r=>P.cellsOf f.type+w5k P r
def von (P:Program) (L:List TypeId):Bool:=L.all fun t=>match P.underlying t with
 | some .bool=>true
 | some (.int _)=>true
 | some .string=>true
 | some (.slice e)=>L.contains e&&(P.cellsOf e != 0)&&(match P.underlying e with | some (.int _)=>P.cellsOf e==1 | _=>true)
 | some (.array n e)=>L.contains e&&(P.cellsOf t==n*P.cellsOf e)
 | some (.struct fs)=>(fs.toList.all fun f=>L.contains f.type)&&zqe P 0 fs.toList&&(P.cellsOf t==w5k P fs.toList)
 | _=>false
inductive FitT (P:Program) (N:Nat):TypeId->List Cell->Prop
 | int {t:TypeId} {k:IntKind} {n:Int} (ht:P.underlying t=some (.int k)) (h:k.min<=n/\n<=k.max):FitT P N t [.raw (.int k n)]
 | bool {t:TypeId} {b:Bool} (ht:P.underlying t=some .bool):FitT P N t [.raw (.bool b)]
 | str {t:TypeId} {s:ByteArray} (ht:P.underlying t=some .string) (h:s.size<=N):FitT P N t [.raw (.string s)]
 | ints {t e:TypeId} {k:IntKind} {l:List Int} (ht:P.underlying t=some (.slice e)) (he:P.underlying e=some (.int k)) (hl:l.length<=N) (h:∀ x∈l,k.min<=x/\x<=k.max):FitT P N t [.ints k l]
 | sl {t e:TypeId} {rows:List (List Cell)} (ht:P.underlying t=some (.slice e)) (he:∀ k,P.underlying e≠some (.int k)) (hl:rows.length<=N) (h:∀ r∈rows,FitT P N e r):FitT P N t [.sl (P.cellsOf e) rows]
 | struct {t:TypeId} {fs:Array Field} {rows:List (List Cell)} (ht:P.underlying t=some (.struct fs)) (hl:rows.length=fs.size) (h:∀(i:Nat) (f:Field) (r:List Cell),fs.toList[i]? = some f->rows[i]? = some r->FitT P N f.type r):FitT P N t rows.flatten
 | array {t e:TypeId} {n:Nat} {rows:List (List Cell)} (ht:P.underlying t=some (.array n e)) (hl:rows.length=n) (h:∀ r∈rows,FitT P N e r):FitT P N t rows.flatten
section
variable {P:Program} {N:Nat} {t:TypeId} {cs:List Cell}
theorem FitT.zpx (h:FitT P N t cs) {k:IntKind} (ht:P.underlying t=some (.int k)):∃ n,cs=[.raw (.int k n)]/\k.min<=n/\n<=k.max:=by
 cases h with
 | int h1 h2=>rw [ht] at h1;cases h1;exact ⟨_,rfl,h2⟩
 | bool h1=>rw [ht] at h1;cases h1
 | str h1=>rw [ht] at h1;cases h1
 | ints h1=>rw [ht] at h1;cases h1
 | sl h1=>rw [ht] at h1;cases h1
 | struct h1=>rw [ht] at h1;cases h1
 | array h1=>rw [ht] at h1;cases h1
theorem FitT.v2u (h:FitT P N t cs) (ht:P.underlying t=some .string):∃ s,cs=[.raw (.string s)]/\s.size<=N:=by
 cases h with
 | int h1 h2=>rw [ht] at h1;cases h1
 | bool h1=>rw [ht] at h1;cases h1
 | str h1 h2=>exact ⟨_,rfl,h2⟩
 | ints h1=>rw [ht] at h1;cases h1
 | sl h1=>rw [ht] at h1;cases h1
 | struct h1=>rw [ht] at h1;cases h1
 | array h1=>rw [ht] at h1;cases h1
theorem FitT.wkk (h:FitT P N t cs) {e:TypeId} (ht:P.underlying t=some (.slice e)) (he:∀ k,P.underlying e≠some (.int k)):∃ rows,cs=[.sl (P.cellsOf e) rows]/\rows.length<=N/\∀ r∈rows,FitT P N e r:=by
 cases h with
 | int h1 h2=>rw [ht] at h1;cases h1
 | bool h1=>rw [ht] at h1;cases h1
 | str h1 h2=>rw [ht] at h1;cases h1
 | ints h1 h2 h3 h4=>rw [ht] at h1;cases h1;exact absurd h2 (he _)
 | sl h1 h2 h3 h4=>rw [ht] at h1;cases h1;exact ⟨_,rfl,h3,h4⟩
 | struct h1=>rw [ht] at h1;cases h1
 | array h1=>rw [ht] at h1;cases h1
theorem FitT.x6z (h:FitT P N t cs) {fs:Array Field} (ht:P.underlying t=some (.struct fs)):∃ rows:List (List Cell),cs=rows.flatten/\rows.length=fs.size/\
 ∀(i:Nat) (f:Field) (r:List Cell),fs.toList[i]? = some f->rows[i]? = some r->FitT P N f.type r:=by
 cases h with
 | int h1 h2=>rw [ht] at h1;cases h1
 | bool h1=>rw [ht] at h1;cases h1
 | str h1 h2=>rw [ht] at h1;cases h1
 | ints h1 h2 h3 h4=>rw [ht] at h1;cases h1
 | sl h1 h2 h3 h4=>rw [ht] at h1;cases h1
 | struct h1 h2 h3=>rw [ht] at h1;cases h1;exact ⟨_,rfl,h2,h3⟩
 | array h1=>rw [ht] at h1;cases h1
end
variable {P:Program} {H:Type} {enc:TypeId×Value->H} {w:World} {spare:Nat->Bool} {held:Bool} {bk:DataW H->Nat} {N:Nat}
theorem RdD.wx2 {M:Nat->Nat->Prop}:∀{vs:List Value} {cs:List Cell},RdD M w vs cs->∀ j (hj:j<cs.length),RdC M w (vs.getD j Go.undef) cs[j]
 | [],[],_,j,hj=>by simp at hj
 | _::_,[],h,_,_=>h.elim
 | [],_::_,h,_,_=>h.elim
 | _::_,_::_,h,0,_=>h.1
 | _::vs,_::cs,h,j+1,hj=>by simpa using RdD.wx2 (vs:=vs) (cs:=cs) h.2 j (by simpa using hj)
theorem xtm {L:List TypeId} {fuel:Nat} (hrec:∀(t:TypeId),t∈L->∀(cs:List Value) (x:DataW H×List MemPlace),DataW.trod enc P w 0 spare held fuel t cs=some x->bk x.1<=N->
 ∃ cells,RdD (fun _ _=>False) w cs cells/\FitT P N t cells) :
 ∀(fs:List Field) (off:Nat) (cs:List Value) (xs:List (DataW H×List MemPlace)),zqe P off fs=true->(∀ f∈fs,f.type∈L)->cs.length=off+w5k P fs->xs.length=fs.length->
  (∀(i:Nat) (f:Field),fs[i]? = some f->DataW.trod enc P w 0 spare held fuel f.type ((cs.drop f.offset).take (P.cellsOf f.type))=xs[i]?)->(∀ x∈xs,bk x.1<=N)->
  ∃ rows:List (List Cell),RdD (fun _ _=>False) w (cs.drop off) rows.flatten/\rows.length=fs.length/\∀(i:Nat) (f:Field) (r:List Cell),fs[i]? = some f->rows[i]? = some r->FitT P N f.type r
 | [],off,cs,xs,_,_,hlen,_,_,_=>by
  refine ⟨[],?_,rfl,fun i f r hf=>by simp at hf⟩;rw [List.drop_eq_nil_of_le (by simp [w5k] at hlen;omega)];exact trivial
 | f::fs,off,cs,xs,ht,hL,hlen,hxs,hx,hb=>by
  simp only [zqe,Bool.and_eq_true,beq_iff_eq] at ht;obtain ⟨hoff,ht⟩:=ht;simp only [w5k] at hlen
  cases xs with
  | nil=>simp at hxs
  | cons x xs=>
   have h0:=hx 0 f rfl;simp only [List.getElem?_cons_zero] at h0;obtain ⟨c0,r0,f0⟩:=hrec f.type (hL f (by simp)) _ x h0 (hb x (by simp))
   obtain ⟨rows,r1,f1,f2⟩:=xtm hrec fs (off+P.cellsOf f.type) cs xs ht (fun g hg=>hL g (by simp [hg])) (by omega) (by simpa using hxs) (fun i f' hf=>by
    have:=hx (i+1) f' (by simpa using hf)
    simpa using this) (fun y hy=>hb y (by simp [hy]))
   refine ⟨c0::rows,?_,by simp [f1],fun i f' r hf hr=>?_⟩
   . have:cs.drop off=(cs.drop f.offset).take (P.cellsOf f.type)++cs.drop (off+P.cellsOf f.type):=by
      rw [hoff,<-List.drop_drop,List.take_append_drop]
     rw [this,List.flatten_cons];exact r0.app0 r1
   . cases i with
     | zero=>simp at hf hr;subst hf hr;exact f0
     | succ i=>exact f2 i f' r (by simpa using hf) (by simpa using hr)
theorem x5u {e:TypeId} {fuel:Nat} (hrec:∀(cs:List Value) (x:DataW H×List MemPlace),DataW.trod enc P w 0 spare held fuel e cs=some x->bk x.1<=N->
 ∃ cells,RdD (fun _ _=>False) w cs cells/\FitT P N e cells) (cs:List Value) :
 ∀(n k:Nat) (xs:List (DataW H×List MemPlace)),cs.length=(k+n)*P.cellsOf e->xs.length=k+n->
  (∀(i:Nat),k<=i->i<k+n->DataW.trod enc P w 0 spare held fuel e ((cs.drop (i*P.cellsOf e)).take (P.cellsOf e))=xs[i]?)->(∀ x∈xs,bk x.1<=N)->
  ∃ rows:List (List Cell),RdD (fun _ _=>False) w (cs.drop (k*P.cellsOf e)) rows.flatten/\rows.length=n/\∀ r∈rows,FitT P N e r
 | 0,k,xs,hlen,_,_,_=>by
  refine ⟨[],?_,rfl,fun r hr=>by cases hr⟩;rw [List.drop_eq_nil_of_le (by rw [hlen];simp)];exact trivial
 | n+1,k,xs,hlen,hxs,hx,hb=>by
  have hk:k<xs.length:=by omega
  have h0:=hx k (Nat.le_refl _) (by omega);rw [List.getElem?_eq_getElem hk] at h0;obtain ⟨c0,r0,f0⟩:=hrec _ _ h0 (hb _ (List.getElem_mem hk));obtain ⟨rows,r1,f1,f2⟩:=x5u hrec cs n (k+1) xs (by rw [hlen];congr 1;omega) (by omega) (fun i h1 h2=>hx i (by omega) (by omega)) hb;refine ⟨c0::rows,?_,by simp [f1],fun r hr=>?_⟩
  . have:cs.drop (k*P.cellsOf e)=(cs.drop (k*P.cellsOf e)).take (P.cellsOf e)++cs.drop ((k+1)*P.cellsOf e):=by
     rw [Nat.add_mul,Nat.one_mul,<-List.drop_drop,List.take_append_drop]
    rw [this,List.flatten_cons];exact r0.app0 r1
  . cases List.mem_cons.1 hr with
    | inl h=>subst h;exact f0
    | inr h=>exact f2 r h
theorem v62 (hB:Bulk bk) {L:List TypeId} (hL:von P L=true):∀(fuel:Nat) (t:TypeId),t∈L->∀(cs:List Value) (x:DataW H×List MemPlace),DataW.trod enc P w 0 spare held fuel t cs=some x->bk x.1<=N->
 ∃ cells,RdD (fun _ _=>False) w cs cells/\FitT P N t cells:=by
 intro fuel
 induction fuel with
 | zero=>intro t _ cs x h;simp [DataW.trod] at h
 | succ fuel ih=>
  intro t htL cs x hx hb;have hok:=List.all_eq_true.1 hL t htL;split at hok
  . rename_i ht;obtain ⟨b,rfl,rfl⟩:=DataW.trod_bool ht hx;exact ⟨[.raw (.bool b)],⟨.raw rfl,trivial⟩,.bool ht⟩
  . rename_i k ht;obtain ⟨m,rfl,rfl,hw⟩:=DataW.trod_int ht hx;exact ⟨[.raw (.int k m)],⟨.raw rfl,trivial⟩,.int ht (by simpa [Lit.wf] using hw)⟩
  . rename_i ht;obtain ⟨s,rfl,rfl,_⟩:=DataW.trod_string ht hx;refine ⟨[.raw (.string s)],⟨.raw rfl,trivial⟩,.str ht ?_⟩;have h1:=hB.str s.data.toList;have e:s.data.toList.length=s.size:=Array.length_toList;have hb:bk (.lit (.string s.data.toList))<=N:=hb;omega
  . rename_i e ht;simp only [Bool.and_eq_true,bne_iff_ne,ne_eq] at hok;obtain ⟨⟨heL,hc0⟩,hk⟩:=hok
    have heL:e∈L:=by simpa using heL
    by_cases hint:∃ k,P.underlying e=some (.int k)
    . obtain ⟨k,he⟩:=hint;rw [he] at hk
      have hc:P.cellsOf e=1:=by simpa using hk
      rcases open_ints ht he hc hx with ⟨rfl,rfl⟩ | ⟨a,len,cap,zs,rfl,_,hlc,_,hzl,rfl,hcell,hwf⟩
      . exact ⟨[.ints k []],⟨.ints 0 0 rfl (Nat.le_refl _) (fun h=>absurd rfl h) (fun i hi=>absurd hi (Nat.not_lt_zero i)),trivial⟩,.ints ht he (Nat.zero_le _) (fun x hx=>by cases hx)⟩
      . have hle:len<=zs.length:=by rw [hzl];split<;>omega
        have htl:(zs.take len).length=len:=by simp;omega
        refine ⟨[.ints k (zs.take len)],⟨.ints a.block a.off htl.symm hlc (fun hne=>?_) (fun i hi=>⟨fun h=>h,?_⟩),trivial⟩,.ints ht he ?_ (fun x hx=>?_)⟩
        . have hpos:0<zs.length:=by
           have:=List.length_pos_iff.2 hne
           omega
          have h0:=cellAt (hcell 0 hpos)
          have h0:a.spot=none:=by simpa [Addr.add] using h0
          cases a;simp at h0;subst h0;rfl
        . have hi':i<zs.length:=by omega
          have h1:=hcell i hi'
          have hs:a.spot=none:=by
           have h0:=cellAt (hcell 0 (by omega));simpa [Addr.add] using h0
          rw [addrAt hs] at h1;rw [h1];simp [hi']
        . have:=hB.elems (lits (H:=H) k (zs.take len)) (lits k (zs.drop len))
          have e1:(lits (H:=H) k (zs.take len)).length=len:=by simp [lits];omega
          have hb:bk (.slice (lits k (zs.take len)) (lits k (zs.drop len)))<=N:=hb;omega
        . have:=hwf x (List.mem_of_mem_take hx)
          simpa [Lit.wf] using this
    . have hint:∀ k,P.underlying e≠some (.int k):=fun k hk=>hint ⟨k,hk⟩
      rcases DataW.trod_slice ht hx with ⟨rfl,rfl⟩ | ⟨a,len,cap,elems,rest,m,hm,rfl,rfl,_,hlc,_,hlen,hel,_,_⟩
      . exact ⟨[.sl (P.cellsOf e) []],⟨.sl 0 0 (fun _ _=>Go.undef) rfl (Nat.le_refl _) (fun h=>absurd rfl h) (fun r hr=>by cases hr) (fun i hi=>absurd hi (Nat.not_lt_zero i)) (fun i hi=>absurd hi (Nat.not_lt_zero i)),trivial⟩,
         .sl ht hint (Nat.zero_le _) (fun r hr=>by cases hr)⟩
      . obtain rfl:fuel=m:=by omega
        have each:∀ i,i<len->∃(vs:List Value) (row:List Cell),vs.length=P.cellsOf e/\(∀ j,j<P.cellsOf e->w.cell? ((a.add (i*P.cellsOf e)).add j)=vs[j]?)/\RdD (fun _ _=>False) w vs row/\FitT P N e row:=fun i hi=>by
         have h1:=hel i hi
         have hi':i<elems.length:=by omega
         rw [List.getElem?_eq_getElem hi'] at h1;simp only [Option.bind_eq_some_iff] at h1;obtain ⟨vs,hvs,htr⟩:=h1;obtain ⟨_,h2,h3⟩:=World.cells?_some hvs;have hbe:bk elems[i].1<=N:=Nat.le_trans (hB.elem (elems.map (·.1)) (rest.map (·.1)) elems[i].1 (List.mem_map.2 ⟨_,List.getElem_mem hi',rfl⟩)) hb;obtain ⟨row,r1,r2⟩:=ih e heL vs _ htr hbe;exact ⟨vs,row,h2,h3,r1,r2⟩
        have hlN:len<=N:=by
         have h1:=hB.elems (elems.map (·.1)) (rest.map (·.1));rw [List.length_map] at h1;have hb:bk (.slice (elems.map (·.1)) (rest.map (·.1)))<=N:=hb;omega
        have pick:∃(V:Nat->List Value) (R:Nat->List Cell),∀ i,i<len->(V i).length=P.cellsOf e/\(∀ j,j<P.cellsOf e->w.cell? ((a.add (i*P.cellsOf e)).add j)=(V i)[j]?)/\RdD (fun _ _=>False) w (V i) (R i)/\FitT P N e (R i):=by
         refine ⟨fun i=>if h:i<len then Classical.choose (each i h) else [],fun i=>if h:i<len then Classical.choose (Classical.choose_spec (each i h)) else [],fun i hi=>?_⟩;simp only [dif_pos hi];exact Classical.choose_spec (Classical.choose_spec (each i hi))
        obtain ⟨V,R,hVR⟩:=pick
        have hspot:∀ i j,i<len->j<P.cellsOf e->a.spot=none:=fun i j hi hj=>by
         have h0:0<len:=by omega
         have h2:=(hVR 0 h0).2.1 0 (by omega)
         have hl0':0<(V 0).length:=by rw [(hVR 0 h0).1];omega
         rw [List.getElem?_eq_getElem hl0'] at h2
         have:=cellAt h2
         simpa [Addr.add] using this
        have hrl:∀ i,i<len->(R i).length=P.cellsOf e:=fun i hi=>by rw [<-(hVR i hi).2.2.1.length];exact (hVR i hi).1
        refine ⟨[.sl (P.cellsOf e) ((List.range len).map R)],⟨.sl a.block a.off (fun i j=>(V i).getD j Go.undef) (by simp) hlc (fun hne=>?_) (fun r hr=>?_) (fun i hi j hj=>⟨fun h=>h,?_⟩) (fun i hi j hj=>?_),trivial⟩,.sl ht hint (by simpa using hlN) (fun r hr=>?_)⟩
        . have h0:0<len:=by
           rcases Nat.eq_zero_or_pos len with h | h
           . subst h;simp at hne
           . exact h
          have h1:=hspot 0 0 h0 (by omega)
          cases a;simp at h1;subst h1;rfl
        . obtain ⟨i,hi,rfl⟩:=List.mem_map.1 hr;exact hrl i (List.mem_range.1 hi)
        . simp at hi;have h1:=(hVR i hi).2.1 j hj
          have hjl:j<(V i).length:=by rw [(hVR i hi).1];exact hj
          rw [addrAt (hspot i j hi hj),addrAt rfl] at h1;simp only at h1;rw [h1,List.getElem?_eq_getElem hjl];simp [hjl]
        . simp at hi;simp only [List.getElem_map,List.getElem_range] at hj ⊢;exact RdD.wx2 (hVR i hi).2.2.1 j hj
        . obtain ⟨i,hi,rfl⟩:=List.mem_map.1 hr;exact (hVR i (List.mem_range.1 hi)).2.2.2
  . rename_i n e ht;simp only [Bool.and_eq_true,beq_iff_eq] at hok;obtain ⟨heL,hc⟩:=hok
    have heL:e∈L:=by simpa using heL
    obtain ⟨xs,m,hm,rfl,hcl,hxl,hel⟩:=DataW.trod_array ht hx
    obtain rfl:fuel=m:=by omega
    obtain ⟨rows,r1,r2,r3⟩:=x5u (fun cs' x' h1 h2=>ih e heL cs' x' h1 h2) cs n 0 xs (by rw [hcl,hc,Nat.zero_add]) (by omega) (fun i _ h2=>hel i (by omega)) (fun y hy=>
     Nat.le_trans (hB.part (xs.map (·.1)) y.1 (List.mem_map.2 ⟨y,hy,rfl⟩)) hb)
    exact ⟨rows.flatten,by simpa using r1,.array ht r2 r3⟩
  . rename_i fs ht;simp only [Bool.and_eq_true,beq_iff_eq] at hok;obtain ⟨⟨hfL,htt⟩,hc⟩:=hok;obtain ⟨xs,m,hm,rfl,hcl,hxl,hf⟩:=DataW.trod_struct ht hx
    obtain rfl:fuel=m:=by omega
    obtain ⟨rows,r1,r2,r3⟩:=xtm (fun t' hL' cs' x' h1 h2=>ih t' hL' cs' x' h1 h2) fs.toList 0 cs xs htt (fun f hf=>by simpa using List.all_eq_true.1 hfL f hf) (by omega) (by simpa using hxl) (fun i f hf'=>hf i f (by simpa using hf')) (fun y hy=>
     Nat.le_trans (hB.part (xs.map (·.1)) y.1 (List.mem_map.2 ⟨y,hy,rfl⟩)) hb)
    exact ⟨rows.flatten,by simpa using r1,.struct ht (by simpa using r2) r3⟩
  . cases hok
end Go.Slot
namespace Go.Slot
open Go Go.RowKit Go.ChangeShapes Go.WideShapes
section
variable {P:Program} {H:Type} {enc:TypeId×Value->H} {w:World} {spare:Nat->Bool} {held:Bool} {bk:DataW H->Nat} {N:Nat} {r:Reach} {b0:Nat}
theorem vay (hB:Bulk bk) {L:List TypeId} (hL:von P L=true) {t:TypeId} (htL:t∈L) {v:Value} {d:DataW H} {p:List MemPlace} {fs:Array Field} (ht:P.underlying t=some (.struct fs))
 (hval:Value.okWide P w r b0 t v) (hd:DataW.Trod enc P w 0 spare held t v d p) (hb:bk d<=N):∃ cells,FitT P N t cells/\RdB M0 w v (.agg cells):=by
 obtain ⟨cs,rfl,_⟩:=okWide_struct ht hval;obtain ⟨fuel,hf⟩:=hd;obtain ⟨cells,h1,h2⟩:=v62 hB hL fuel t htL _ (d,p) hf hb;exact ⟨cells,h2,⟨cs.toList,by simp,h1⟩⟩
theorem yrl (hB:Bulk bk) {L:List TypeId} (hL:von P L=true) {t:TypeId} (htL:t∈L) {v:Value} {d:DataW H} {p:List MemPlace} (hv:v.cells=#[v])
 (hd:DataW.Trod enc P w 0 spare held t v d p) (hb:bk d<=N):∃ c,FitT P N t [c]/\RdB M0 w v (.one c):=by
 obtain ⟨fuel,hf⟩:=hd;obtain ⟨cells,h1,h2⟩:=v62 hB hL fuel t htL _ (d,p) hf hb;rw [hv] at h1
 match cells,h1,h2 with
 | [c],h1,h2=>exact ⟨c,h2,h1.1⟩
theorem ygz (hB:Bulk bk) {L:List TypeId} (hL:von P L=true) {t e:TypeId} (htL:t∈L) {v:Value} {d:DataW H} {p:List MemPlace} (ht:P.underlying t=some (.slice e))
 (hval:Value.okWide P w r b0 t v) (hd:DataW.Trod enc P w 0 spare held t v d p) (hb:bk d<=N):∃ c,FitT P N t [c]/\RdB M0 w v (.one c):=by
 obtain ⟨a,len,cap,rfl⟩:=okWide_slice ht hval;exact yrl hB hL htL rfl hd hb
theorem vtp (hB:Bulk bk) {L:List TypeId} (hL:von P L=true) {t:TypeId} (htL:t∈L) {k:IntKind} {v:Value} {d:DataW H} {p:List MemPlace} (ht:P.underlying t=some (.int k))
 (hval:Value.okWide P w r b0 t v) (hd:DataW.Trod enc P w 0 spare held t v d p) (hb:bk d<=N):∃ n:Int,k.min<=n/\n<=k.max/\RdB M0 w v (.one (.raw (.int k n))):=by
 obtain ⟨m,rfl⟩:=okWide_int ht hval;obtain ⟨c,h1,h2⟩:=yrl hB hL htL rfl hd hb;obtain ⟨n,e,h3⟩:=h1.zpx ht
 cases e;exact ⟨n,h3.1,h3.2,h2⟩
end
theorem yin {P:Program} {H:Type} {enc:TypeId×Value->H} {w:World} {sp:Nat->Bool} {held:Bool} {fuel:Nat} {t e:TypeId} {n:Nat} {k:IntKind} {l:List Int} {cs:List Value} {p:List MemPlace}
 (ht:P.underlying t=some (.array n e)) (he:P.underlying e=some (.int k)) (hc:P.cellsOf e=1) (hct:P.cellsOf t=n)
 (h:DataW.trod enc P w 0 sp held fuel t cs=some (.agg (l.map fun z=>.lit (.int k z)),p)):cs=l.map (fun z=>Value.int k z):=by
 obtain ⟨xs,m,rfl,hx1,hlen,hn,hel⟩:=DataW.trod_array ht h;simp only [Prod.mk.injEq,DataW.agg.injEq] at hx1
 have hl:l.length=n:=by
  have:=congrArg List.length hx1.1
  simp at this;omega
 apply List.ext_getElem
 . rw [hlen,hct,List.length_map,hl]
 intro i h1 h2
 have hi:i<n:=by rw [hlen,hct] at h1;exact h1
 have h3:=hel i hi
 have hix:i<xs.length:=by omega
 rw [hc,Nat.mul_one,List.getElem?_eq_getElem hix] at h3
 have e1:(cs.drop i).take 1=[cs[i]]:=by
  rw [List.drop_eq_getElem_cons h1];rfl
 rw [e1] at h3;obtain ⟨z,e2,e3,_⟩:=DataW.trod_int he h3
 have e4:(l.map fun z=>(DataW.lit (.int k z):DataW H))[i]? = (xs.map (·.1))[i]?:=by rw [hx1.1]
 rw [List.getElem?_map,List.getElem?_map,List.getElem?_eq_getElem hix,List.getElem?_eq_getElem (by omega),e3] at e4;simp only [Option.map_some,Option.some.injEq,DataW.lit.injEq,Lit.int.injEq,true_and] at e4;rw [List.cons.injEq] at e2;rw [e2.1,List.getElem_map,e4]
end Go.Slot
namespace Go.Proofs.YtocdljjhobaabaaGreatDoor
set_option maxRecDepth 100000
open Go Go.Slot Go.Hp Go.Hp.T Go.ChangeShapes Go.WideShapes Go.RowKit
def Gs:List (Nat×List Cell):=[(0,sgC)]
theorem xsk:ownKnob Tryz.prog.godebug=none:=by kernel_rfl
theorem xjr:laidOutB Tryz.prog=true:=by kernel_rfl
theorem wjn {H:Type} (d:DataW H):1<=Rows.uptoBulk d:=by
 cases d with
 | lit l=>cases l<;>simp [Rows.uptoBulk]
 | nil=>simp [Rows.uptoBulk]
 | ptr d=>simp [Rows.uptoBulk]
 | slice elems spare=>simp [Rows.uptoBulk]
 | agg parts=>simp [Rows.uptoBulk]
 | iface t d=>simp [Rows.uptoBulk]
 | map entries=>simp [Rows.uptoBulk]
 | held h=>simp [Rows.uptoBulk]
theorem wm2 {H:Type} {d:DataW H} {l:List (DataW H)} (h:d∈l):Rows.uptoBulk d<=Rows.uptoBulkAll l:=by
 induction l with
 | nil=>cases h
 | cons x r ih=>
  simp only [Rows.uptoBulkAll]
  cases List.mem_cons.1 h with
  | inl e=>subst e;omega
  | inr e=>have:=ih e;omega
theorem xf4 {H:Type} (l:List (DataW H)):l.length<=Rows.uptoBulkAll l:=by
 induction l with
 | nil=>simp [Rows.uptoBulkAll]
 | cons x r ih=>have:=wjn x;simp only [Rows.uptoBulkAll,List.length_cons];omega
theorem bulk {H:Type}:Bulk (H:=H) Rows.uptoBulk where
 str b:=by simp [Rows.uptoBulk]
 elems l r:=by
  have:=xf4 l
  simp only [Rows.uptoBulk];omega
 elem l r d h:=by
  have:=wm2 h
  simp only [Rows.uptoBulk];omega
 part l d h:=by
  have:=wm2 h
  simp only [Rows.uptoBulk];omega
theorem vft {H:Type} {l:List (DataW H)} (hk:Rows.uptoSmall H l=true):∀ d∈l,Rows.uptoBulk d<=1048576:=fun d hd=>by
 have h:=wm2 hd;have h2:Rows.uptoBulkAll l<=1048576:=of_decide_eq_true hk;omega
def argTypes:List TypeId:=[25,23,50,45,156,48,3,9,5,93,36,38,22]
theorem xa8:von Tryz.prog argTypes=true:=by kernel_rfl
theorem y0j:Tryz.prog.cellsOf 25=5:=by kernel_rfl
theorem wmm {t:TypeId} {d:TypeDesc} (h:Tryz.prog.underlying t=some d) (hd:∀ k,d≠.int k):∀ k,Tryz.prog.underlying t≠some (.int k):=fun k hk=>by
 rw [h] at hk;cases hk;exact hd k rfl
theorem xhq {α:Type} {C:α->List Cell} {Q:α->Prop}:∀ rows:List (List Cell),(∀ r∈rows,∃ x,r=C x/\Q x)->∃ xs:List α,rows=xs.map C/\∀ x∈xs,Q x
 | [],_=>⟨[],rfl,fun x hx=>by cases hx⟩
 | r::rows,h=>by
  obtain ⟨x,hx,hq⟩:=h r (by simp);obtain ⟨xs,hxs,hqs⟩:=xhq rows (fun r' hr'=>h r' (by simp [hr']))
  exact ⟨x::xs,by rw [hx,hxs];rfl,fun y hy=>by
   rcases List.mem_cons.1 hy with rfl | hy
   . exact hq
   . exact hqs y hy⟩
theorem len2 {α:Type} {l:List α} (h:l.length=2):∃ a b,l=[a,b]:=by
 match l,h with
 | [a,b],_=>exact ⟨a,b,rfl⟩
theorem len3 {α:Type} {l:List α} (h:l.length=3):∃ a b c,l=[a,b,c]:=by
 match l,h with
 | [a,b,c],_=>exact ⟨a,b,c,rfl⟩
theorem len5 {α:Type} {l:List α} (h:l.length=5):∃ a b c d e,l=[a,b,c,d,e]:=by
 match l,h with
 | [a,b,c,d,e],_=>exact ⟨a,b,c,d,e,rfl⟩
theorem w5j:∀(t:TypeId) (cs:List Cell),FitT Tryz.prog 1048576 t cs->(t=25->∃ x:Ex,cs=exC x/\x.Sm)/\(t=23->∃ l:List Ex,cs=[.sl 5 (l.map Ex.cells)]/\l.length<=1048576/\∀ y∈l,y.Sm):=by
 intro t cs h
 induction h with
 | int ht=>exact ⟨fun e=>(by subst e;rw [Tryz.underlying25] at ht;cases ht),fun e=>(by subst e;rw [Tryz.underlying23] at ht;cases ht)⟩
 | bool ht=>exact ⟨fun e=>(by subst e;rw [Tryz.underlying25] at ht;cases ht),fun e=>(by subst e;rw [Tryz.underlying23] at ht;cases ht)⟩
 | str ht=>exact ⟨fun e=>(by subst e;rw [Tryz.underlying25] at ht;cases ht),fun e=>(by subst e;rw [Tryz.underlying23] at ht;cases ht)⟩
 | ints ht he=>exact ⟨fun e=>(by subst e;rw [Tryz.underlying25] at ht;cases ht),fun e=>(by subst e;rw [Tryz.underlying23] at ht;cases ht;rw [Tryz.underlying25] at he;cases he)⟩
 | array ht=>exact ⟨fun e=>(by subst e;rw [Tryz.underlying25] at ht;cases ht),fun e=>(by subst e;rw [Tryz.underlying23] at ht;cases ht)⟩
 | sl ht he hl h ih=>
  refine ⟨fun e=>(by subst e;rw [Tryz.underlying25] at ht;cases ht),fun e=>?_⟩;subst e;rw [Tryz.underlying23] at ht
  cases ht
  obtain ⟨xs,rfl,hxs⟩:=xhq (C:=Ex.cells) (Q:=Ex.Sm) _ (fun r hr=>by
   obtain ⟨x,h1,h2⟩:=(ih r hr).1 rfl
   exact ⟨x,by rw [h1,Ex.wrj],h2⟩)
  exact ⟨xs,by rw [y0j],by simpa using hl,hxs⟩
 | struct ht hl h ih=>
  refine ⟨fun e=>?_,fun e=>(by subst e;rw [Tryz.underlying23] at ht;cases ht)⟩;subst e;rw [Tryz.underlying25] at ht
  cases ht;obtain ⟨r0,r1,r2,r3,r4,rfl⟩:=len5 hl;obtain ⟨o,rfl,_⟩:=(h 0 _ r0 rfl rfl).zpx (Tryz.underlying3);obtain ⟨n,rfl,_⟩:=(h 1 _ r1 rfl rfl).zpx (Tryz.underlying3);obtain ⟨u,rfl,hu⟩:=(h 2 _ r2 rfl rfl).v2u (Tryz.underlying9);obtain ⟨s,rfl,hs⟩:=(h 3 _ r3 rfl rfl).v2u (Tryz.underlying9);obtain ⟨l,rfl,hll,hls⟩:=(ih 4 _ r4 rfl rfl).2 rfl;exact ⟨.mk o n u s l,rfl,.mk _ (Nat.le_trans hll (by decide)) (Nat.le_trans hu (by decide)) (Nat.le_trans hs (by decide)) hls⟩
section
variable {H:Type} {enc:TypeId×Value->H} {W:World} {v:Value} {d:DataW H} {p:List MemPlace} {b:Nat}
end
theorem x0g:Tryz.prog.cellsOf 93=2:=by kernel_rfl
theorem zc5:Tryz.prog.cellsOf 38=7:=by kernel_rfl
theorem v57 {cs:List Cell} (h:FitT Tryz.prog 1048576 93 cs):∃ x:Prm,cs=x.C/\(x.name.size<=1073741824/\x.unit.size<=1073741824):=by
 obtain ⟨rows,rfl,hl,hr⟩:=h.x6z Tryz.underlying93;obtain ⟨r0,r1,rfl⟩:=len2 hl;obtain ⟨s0,rfl,q0⟩:=(hr 0 _ r0 rfl rfl).v2u (Tryz.underlying9);obtain ⟨s1,rfl,q1⟩:=(hr 1 _ r1 rfl rfl).v2u (Tryz.underlying9);exact ⟨⟨s0,s1⟩,rfl,Nat.le_trans q0 (by decide),Nat.le_trans q1 (by decide)⟩
theorem w8k {cs:List Cell} (h:FitT Tryz.prog 1048576 38 cs):∃ x:Fnc,cs=x.C/\(x.name.size<=1073741824/\x.params.length<=1073741824/\(∀ y∈x.params,y.name.size<=1073741824/\y.unit.size<=1073741824)/\x.body.Sm):=by
 obtain ⟨rows,rfl,hl,hr⟩:=h.x6z Tryz.underlying38;obtain ⟨r0,r1,r2,rfl⟩:=len3 hl;obtain ⟨s0,rfl,q0⟩:=(hr 0 _ r0 rfl rfl).v2u (Tryz.underlying9);obtain ⟨t1,rfl,q1,e1⟩:=(hr 1 _ r1 rfl rfl).wkk (Tryz.underlying36) (wmm Tryz.underlying93 (fun k h=>by cases h));obtain ⟨s1,rfl,y1⟩:=xhq (C:=Prm.C) (Q:=fun x=>x.name.size<=1073741824/\x.unit.size<=1073741824) _ (fun r hr'=>v57 (e1 r hr'));rw [List.length_map] at q1;obtain ⟨s2,rfl,q2⟩:=(w5j _ _ (hr 2 _ r2 rfl rfl)).1 rfl;exact ⟨⟨s0,s1,s2⟩,by rw [x0g];rfl,Nat.le_trans q0 (by decide),Nat.le_trans q1 (by decide),y1,q2⟩
theorem xcw {H:Type} {enc:TypeId×Value->H} {W:World} {v:Value} {d:DataW H} {p:List MemPlace} {b:Nat} (hval:Value.okWide Tryz.prog W .any b 5 v) (hd:DataW.Trod enc Tryz.prog W 0 (fun _=>true) true 5 v d p) (hb:Rows.uptoBulk d<=1048576) :
 ∃ n:Int,RdB M0 W v (.one (.raw (.int .u8 n)))/\0<=n/\n<=255:=by
 obtain ⟨n,h0,h1,h⟩:=vtp bulk xa8 (by decide) Tryz.underlying5 hval hd hb;exact ⟨n,h,h0,h1⟩
noncomputable def zcr:List (String×DataW Unit):=Rows.callGoneUptoRow.laid
noncomputable def zlx:String:=(zcr.getD 3 (Tryz.f0.name,.nil)).1
theorem wg8:Tryz.prog.globalNamed zlx=some 0:=by kernel_rfl
theorem y8s:(Tryz.prog.globals[0]?).map (·.type)=some 190:=by kernel_rfl
theorem wat {x:Fnc} (h:x.name.size<=1073741824/\x.params.length<=1073741824/\(∀ y∈x.params,y.name.size<=1073741824/\y.unit.size<=1073741824)/\x.body.Sm):x.Sm:=⟨h.1,h.2.1,h.2.2.1,h.2.2.2⟩
theorem zjs {H:Type} {enc:TypeId×Value->H} {W:World} {v:Value} {d:DataW H} {p:List MemPlace} {b:Nat} (hval:Value.okWide Tryz.prog W .any b 25 v) (hd:DataW.Trod enc Tryz.prog W 0 (fun _=>true) true 25 v d p) (hb:Rows.uptoBulk d<=1048576) :
 ∃ x:Ex,RdB M0 W v (.agg (exC x))/\x.Sm:=by
 obtain ⟨cells,h1,h2⟩:=vay bulk xa8 (by decide) Tryz.underlying25 hval hd hb;obtain ⟨x,rfl,h3⟩:=(w5j _ _ h1).1 rfl;exact ⟨x,h2,h3⟩
theorem za6 {H:Type} {enc:TypeId×Value->H} {W:World} {v:Value} {d:DataW H} {p:List MemPlace} {b:Nat} (hval:Value.okWide Tryz.prog W .any b 38 v) (hd:DataW.Trod enc Tryz.prog W 0 (fun _=>true) true 38 v d p) (hb:Rows.uptoBulk d<=1048576) :
 ∃ x:Fnc,RdB M0 W v (.agg (fncC x))/\x.Sm:=by
 obtain ⟨cells,h1,h2⟩:=vay bulk xa8 (by decide) Tryz.underlying38 hval hd hb;obtain ⟨x,rfl,h3⟩:=w8k h1;exact ⟨x,h2,wat h3⟩
theorem ys2 {H:Type} {enc:TypeId×Value->H} {W:World} {v:Value} {d:DataW H} {p:List MemPlace} {b:Nat} (hval:Value.okWide Tryz.prog W .any b 22 v) (hd:DataW.Trod enc Tryz.prog W 0 (fun _=>true) true 22 v d p) (hb:Rows.uptoBulk d<=1048576) :
 ∃ l:List Fnc,RdB M0 W v (.one (.sl 7 (l.map Fnc.C)))/\l.length<=1048576/\∀ f∈l,f.Sm:=by
 obtain ⟨c,h1,h2⟩:=ygz bulk xa8 (by decide) Tryz.underlying22 hval hd hb;obtain ⟨rows,e,hl,hr⟩:=h1.wkk (Tryz.underlying22) (wmm Tryz.underlying38 (fun k h=>by cases h))
 cases e
 obtain ⟨xs,rfl,hx⟩:=xhq (C:=Fnc.C) (Q:=Fnc.Sm) _ (fun r hr'=>by
  obtain ⟨x,h3,h4⟩:=w8k (hr r hr')
  exact ⟨x,h3,wat h4⟩)
 rw [zc5] at h2;exact ⟨xs,h2,by simpa using hl,hx⟩
def zE:Value:=.agg #[.int .i64 0,.int .i64 0,.string ⟨#[]⟩,.string ⟨#[]⟩,.slice none 0 0]
def dE {H:Type}:DataW H:=.agg [.lit (.int .i64 0),.lit (.int .i64 0),.lit (.string []),.lit (.string []),.nil]
def zF:Value:=.agg #[.string ⟨#[]⟩,.slice none 0 0,.int .i64 0,.int .i64 0,.string ⟨#[]⟩,.string ⟨#[]⟩,.slice none 0 0]
def dF {H:Type}:DataW H:=.agg [.lit (.string []),.nil,.agg [.lit (.int .i64 0),.lit (.int .i64 0),.lit (.string []),.lit (.string []),.nil]]
theorem x64 {W:World} (h:laidMetH Tryz.prog zcr W):yqe Gs M0 W:=by
 rw [MakeChecks.laidMetH_plain _ _ _ (by kernel_rfl)] at h;obtain ⟨ps,⟨_,_,_,_,_,_,_,_,_,_,h,_⟩,_,_⟩:=h;obtain ⟨_,_,_,_,_,_,_,_,_,_,h,_⟩:=h;obtain ⟨_,_,_,_,_,_,_,_,_,_,h,_⟩:=h;obtain ⟨g0,t0,cs0,f0,p0,q0,hg0,ht0,hv0,hd0,_,_⟩:=h;obtain rfl:=Option.some.inj (wg8.symm.trans hg0);obtain rfl:=Option.some.inj (y8s.symm.trans ht0);have e:=yin (l:=[40,41,44,59,58,61,60,43,45,42,47,123,125]) Tryz.underlying190 Tryz.underlying5 (by kernel_rfl) (by kernel_rfl) hd0;intro g cs hg;have hg':=List.mem_singleton.1 hg
 cases hg';refine ⟨cs0.toList,fun j u hu=>⟨fun h=>h,?_⟩,?_⟩
 . rw [World.var?_cell hg0 hv0 j,<-Array.getElem?_toList];exact hu
 . rw [e];exact ⟨.raw rfl,.raw rfl,.raw rfl,.raw rfl,.raw rfl,.raw rfl,.raw rfl,.raw rfl,.raw rfl,.raw rfl,.raw rfl,.raw rfl,.raw rfl,trivial⟩
theorem zof (os:Os) (args:Array Value):laidMetH Tryz.prog zcr ((World.doorLaid Tryz.prog 140 os).forCall (fun _ _=>0) ⟨#[],args,[]⟩).memory:=
 laidMetH_of_parts3 (fuel:=8) (laidMet_of_run' 8 (by kernel_rfl) (by kernel_rfl)) (by kernel_rfl) (by kernel_rfl)
theorem x4m {C:Checked} {os:Os} {f:FuncId} {fn:Func} {H:Type} {enc:TypeId×Value->H} {s:OpenSpec} {k:(H:Type)->List (DataW H)->Bool} (hk:s.cond=some k) {conds:List PathCond} {apart:Bool} {laid:List (String×DataW Unit)} (modest:Bool) (n:Nat) (args:Array Value) (fuel:Nat)
 (hsh:((World.doorLaid C.prog n os).forCall (fun _ _=>0) ⟨#[],args,[]⟩).Shaped C.prog)
 (hok:Input.okWideB C.prog ((World.doorLaid C.prog n os).forCall (fun _ _=>0) ⟨#[],args,[]⟩) f ⟨#[],args,[]⟩=true)
 {x:List (DataW H)×List (DataW H)×List MemPlace} (hx:DataW.whole enc C.prog ((World.doorLaid C.prog n os).forCall (fun _ _=>0) ⟨#[],args,[]⟩).memory fn.params.toList s.vars apart args.toList fuel=some x)
 (hconds:conds.all (PathCond.test C.prog ⟨fn.params.toList,x.1,s.bare.plain.varTypes C.prog,x.2.1⟩)=true) (hkk:k H (x.1++x.2.1)=true)
 (hsz:s.bare.sizedB enc C.prog fn apart ((World.doorLaid C.prog n os).forCall (fun _ _=>0) ⟨#[],args,[]⟩).memory args fuel=true)
 (hl:laidMetH C.prog laid ((World.doorLaid C.prog n os).forCall (fun _ _=>0) ⟨#[],args,[]⟩).memory) :
 ∃(w:World) (tape:Tape) (i:Input),w.os=os/\(w.forCall tape i).Shaped C.prog/\i.vars=[]/\Input.okWide C.prog (w.forCall tape i) .any w.heap.size f i/\
  s.preRow enc C.prog fn conds apart laid (w.forCall tape i).memory i.args/\({ modest:=modest }:Assume).holds C.prog (lone (Frame.enter C.prog f i.args .normal) [] (w.forCall tape i)):=
 ⟨World.doorLaid C.prog n os,fun _ _=>0,⟨#[],args,[]⟩,rfl,hsh,(Input.okWide_of_okWideB (base:=0) hok).1,(Input.okWide_of_okWideB hok).2,
  ⟨⟨(OpenSpec.pre_some hk conds apart _ _).2 ⟨x.1,x.2.1,x.2.2,DataW.Whole_of_whole hx,hconds,hkk⟩,hl⟩,sizedMet_of_sizedB hsz⟩,by
  simp only [Assume.holds]
  exact ⟨by simp,by simp,fun _=>Modest.zero,by simp,by simp⟩⟩
theorem ended {f:FuncId} {args:List AV} {vs:List Value} {W:World} (hc:Go.Hp.CallsD Gs Tryz.prog f args (.one (cB true))) (hg:yqe Gs M0 W) (hr:RdBL M0 W vs args):Calls Tryz.prog f vs.toArray W fun e W'=>e=.returned (.bool true)/\Below W.heap.size W W':=
 (hc.2 M0 W vs (fun b o h=>h.elim) hg hr).mono (fun e W' ⟨v,he,hb,hr',_⟩=>by
   have hv:v=.bool true:=RdC.xcn hr';rw [hv] at he
   exact ⟨he,hb⟩)
end Go.Proofs.YtocdljjhobaabaaGreatDoor
namespace Go.Hp.T
open Go Go.RowKit Go.Slot Go.Hp Go.Slot.T
open Go.Proofs.Tryz (prog)
attribute [local irreducible] hide RH
set_option maxRecDepth 10000
set_option maxHeartbeats 8000000
variable {Γ:List (Nat×List Cell)}
theorem zve:Ex.zero.Sm:=yqv _ (fun y hy=>by
 cases hy with
 | here=>exact ⟨by decide,by decide,by decide⟩
 | arg hz _=>cases hz)
theorem zsw {F:List Fnc} {x:Ex} (hx:x.Sm) (hS:∀ f∈F,f.Sm):(yc3 F x).1.Sm:=by
 by_cases h:(yc3 F x).2=0
 . obtain ⟨hv,_,hk,_,he⟩:=vhb h;rw [he];exact (ys1 hv hS hx hk).2
 . rw [((x0s F x).2.1 h).1];exact zve
theorem wpa (hG:ws6 Γ 0=.elt sgC) (F:List Fnc) (x:Ex) (hx:x.Sm) (hF:F.length<=1073741824) (hS:∀ f∈F,f.Sm):CallsD Γ prog 3 [.one (.sl 7 (F.map Fnc.C)),.agg (exC x)] (.one (cB true)):=by
 have s1:=vp3 (Γ:=Γ) hG;have f1:=lFew (Γ:=Γ) F x hx hF hS;generalize (y1e F 8&&decide (0<=x.rsz 120 22))=b at *
 cases b with
 | false=>
  clear hS hG;refine CallsD.run [] Go.Proofs.Tryz.func3 rfl rfl rfl ?_;simp only [Go.Proofs.Tryz.f3];refine hgR ?_
  repeat' ((first | refine hfk ?_ ?_<;>intros | refine hik ?_ | with_reducible first | refine v47 (s1) ?_ | refine vrf (s1) ?_ | refine v47 (f1) ?_ | refine vrf (f1) ?_)<;>refine hgS ?_)
  exact RLe.ofEq rfl
 | true=>
 have e1:=z09 (Γ:=Γ) x F hx hF hS;have hy:=zsw hx hS;obtain ⟨g1,g2,g3⟩:=x0s F x;have r1:=rFew (Γ:=Γ) _ hy 250 24 (by decide) (by decide) (by decide) (by decide);rw [decide_eq_true g1] at r1;have l1:=wv6 (Γ:=Γ) x hx;have t1:=x22 (Γ:=Γ) x hx;have k1:=vee (Γ:=Γ) F hF hS;by_cases h0:(yc3 F x).2=0
 . obtain ⟨a1,a2,a3,a4,a5⟩:=g3 h0;have e2:=z09 (Γ:=Γ) _ F hy hF hS;rw [a1] at e2;have m1:=y5n (Γ:=Γ) _ hy;have l2:=wv6 (Γ:=Γ) _ hy;rw [a2] at l2;have t2:=x22 (Γ:=Γ) _ hy;rw [a3] at t2
   have w1:=ylq (Γ:=Γ) F x hF hS hx _ hy (fun z hz=>by
    obtain ⟨_,_,b1,b2⟩:=a4 z hz;refine ⟨fun h1=>?_,fun h2=>?_⟩
    . obtain ⟨y,c1,c2,c3⟩:=b1 h1;refine (Ex.x8x _ _).2 ⟨y,c1,?_⟩;unfold vow;rw [Bool.and_eq_true,decide_eq_true_eq,veo,decide_eq_true_eq];exact ⟨c2,c3⟩
    . rw [Bool.or_eq_true]
      rcases b2 h2 with ⟨y,c1,c2,c3⟩ | ⟨j,hj,y,c1,c2,c3⟩
      . left
        refine (Ex.x8x _ _).2 ⟨y,c1,?_⟩;unfold vow;rw [Bool.and_eq_true,decide_eq_true_eq,veo,decide_eq_true_eq];exact ⟨c2,c3⟩
      . right
        refine List.any_eq_true.2 ⟨_,xdq hj,(Ex.x8x _ _).2 ⟨y,c1,?_⟩⟩;unfold vow;rw [Bool.and_eq_true,decide_eq_true_eq,veo,decide_eq_true_eq]
        exact ⟨c2,c3⟩)
   rw [h0] at e1;generalize hye:(yc3 F x).1=y at *;generalize hc:x.yp0=c at *;clear a1 a2 a3 a4 g1 g2 g3 h0 hS hG
   cases c with
   | true=>
    clear a5;refine CallsD.run [] Go.Proofs.Tryz.func3 rfl rfl rfl ?_;simp only [Go.Proofs.Tryz.f3];refine hgR ?_
    repeat' ((first | refine hfk ?_ ?_<;>intros | refine hik ?_ | with_reducible first | refine v47 (s1) ?_ | refine vrf (s1) ?_ | refine v47 (f1) ?_ | refine vrf (f1) ?_ | refine v47 (e1) ?_ | refine vrf (e1) ?_ | refine v47 (r1) ?_ | refine vrf (r1) ?_ | refine v47 (e2) ?_ | refine vrf (e2) ?_ | refine v47 (m1) ?_ | refine vrf (m1) ?_ | refine v47 (l2) ?_ | refine vrf (l2) ?_ | refine v47 (t2) ?_ | refine vrf (t2) ?_ | refine v47 (w1) ?_ | refine vrf (w1) ?_ | refine v47 (l1) ?_ | refine vrf (l1) ?_)<;>refine hgS ?_)
    all_goals exact RLe.ofEq rfl
   | false=>
    have e:y=x:=by
     rcases a5 with h | h
     . cases h
     . exact h
    subst e;clear a5;refine CallsD.run [] Go.Proofs.Tryz.func3 rfl rfl rfl ?_;simp only [Go.Proofs.Tryz.f3];refine hgR ?_
    repeat' ((first | refine hfk ?_ ?_<;>intros | refine hik ?_ | with_reducible first | refine v47 (s1) ?_ | refine vrf (s1) ?_ | refine v47 (f1) ?_ | refine vrf (f1) ?_ | refine v47 (e1) ?_ | refine vrf (e1) ?_ | refine v47 (r1) ?_ | refine vrf (r1) ?_ | refine v47 (e2) ?_ | refine vrf (e2) ?_ | refine v47 (m1) ?_ | refine vrf (m1) ?_ | refine v47 (l2) ?_ | refine vrf (l2) ?_ | refine v47 (t2) ?_ | refine vrf (t2) ?_ | refine v47 (w1) ?_ | refine vrf (w1) ?_ | refine v47 (l1) ?_ | refine vrf (l1) ?_)<;>refine hgS ?_)
    all_goals exact RLe.ofEq rfl
 . obtain ⟨z1,z2⟩:=g2 h0;have m1:=wju (Γ:=Γ);rw [z1] at e1 r1;generalize x.yp0=c at *;generalize z7n x=r at *;generalize wa2 F=k at *;generalize hez:(yc3 F x).2=e at *;generalize Ex.zero=z at *;clear g1 g2 g3 hS hG z1 hy hez
   have hz2:c=false->r=true->k=0->False:=fun h1 h2 h3=>by
    rcases z2 with h | h | h
    . rw [h1] at h;cases h
    . rw [h2] at h;cases h
    . exact h h3
   clear z2
   cases c with
   | true=>
    refine CallsD.run [] Go.Proofs.Tryz.func3 rfl rfl rfl ?_;simp only [Go.Proofs.Tryz.f3];refine hgR ?_
    repeat' ((first | refine hfk ?_ ?_<;>intros | refine hik ?_ | with_reducible first | refine v47 (s1) ?_ | refine vrf (s1) ?_ | refine v47 (f1) ?_ | refine vrf (f1) ?_ | refine v47 (e1) ?_ | refine vrf (e1) ?_ | refine v47 (r1) ?_ | refine vrf (r1) ?_ | refine v47 (m1) ?_ | refine vrf (m1) ?_ | refine v47 (l1) ?_ | refine vrf (l1) ?_)<;>refine hgS ?_)
    all_goals first
     | exact RLe.ofEq rfl
     | (exfalso;simp_all;done)
   | false=>
    cases r with
    | false=>
     refine CallsD.run [] Go.Proofs.Tryz.func3 rfl rfl rfl ?_;simp only [Go.Proofs.Tryz.f3];refine hgR ?_
     repeat' ((first | refine hfk ?_ ?_<;>intros | refine hik ?_ | with_reducible first | refine v47 (s1) ?_ | refine vrf (s1) ?_ | refine v47 (f1) ?_ | refine vrf (f1) ?_ | refine v47 (e1) ?_ | refine vrf (e1) ?_ | refine v47 (r1) ?_ | refine vrf (r1) ?_ | refine v47 (m1) ?_ | refine vrf (m1) ?_ | refine v47 (l1) ?_ | refine vrf (l1) ?_ | refine v47 (t1) ?_ | refine vrf (t1) ?_)<;>refine hgS ?_)
     all_goals first
      | exact RLe.ofEq rfl
      | (exfalso;simp_all;done)
    | true=>
     have hk:¬k=0:=fun h=>hz2 rfl rfl h
     have dk:decide (k=0)=false:=decide_eq_false hk;clear hz2;refine CallsD.run [] Go.Proofs.Tryz.func3 rfl rfl rfl ?_;simp only [Go.Proofs.Tryz.f3];refine hgR ?_
     repeat' ((first | refine hfk ?_ ?_<;>intros | refine hik ?_ | with_reducible first | refine v47 (s1) ?_ | refine vrf (s1) ?_ | refine v47 (f1) ?_ | refine vrf (f1) ?_ | refine v47 (e1) ?_ | refine vrf (e1) ?_ | refine v47 (r1) ?_ | refine vrf (r1) ?_ | refine v47 (m1) ?_ | refine vrf (m1) ?_ | refine v47 (l1) ?_ | refine vrf (l1) ?_ | refine v47 (t1) ?_ | refine vrf (t1) ?_ | refine v47 (k1) ?_ | refine vrf (k1) ?_)<;>refine hgS ?_)
     all_goals first
      | exact RLe.ofEq (by simp [*])
      | (exfalso;simp_all;done)
end Go.Hp.T
