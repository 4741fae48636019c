/- The proof, part Z7: Hf, Hg, Hh, Hi, Hj. -/
import Derived.Test.YtjhbbadljohadaaGreatDoorZ6
import Derived.Laws.StructEq
import Derived.Laws.NewFold
import Derived.MapKept
import Derived.ChangeKeysEq
import Derived.Laws.BytesArg
import Derived.Lib.UnsafeStr
namespace Go.Hp
open Go Go.RowKit Go.Slot
variable {P:Program} {Γ:List (Nat×List Cell)}
def fillH (place:Nat→Option (Nat×Nat)) (cs:List HC):List (Nat×SV)→Option (List HC)
 | []=>some cs
 | (i,x)::r=>match place i,cellsH x with
  | some (off,size),some us=>if us.length=size∧off+size≤cs.length then fillH place (cs.take off++us++cs.drop (off+size)) r else none
  | _,_=>none
def partsH (Γ:List (Nat×List Cell)) (σ:List SV):List (Nat×Operand)→List (Nat×SV)
 | []=>[]
 | (i,x)::r=>(i,opdS Γ σ x)::partsH Γ σ r
theorem fillH_ok {E:HEnv} {ρ:Nat→Value} {σ:List SV} {η:List SB} {a:Act} {w:World} (hI:RI Γ E ρ σ η a w) (place:Nat→Option (Nat×Nat)):∀(ps:List (Nat×Operand)) (cells:Array Value) (cs cs':List HC),
 HRL η ρ (MX E.Mo ρ η) w cells.toList cs→fillH place cs (partsH Γ σ ps)=some cs'→∃ cells',Instr.fill place cells (ps.map fun p=>(p.1,a.eval p.2))=some cells'∧HRL η ρ (MX E.Mo ρ η) w cells'.toList cs'
 | [],cells,cs,cs',hr,h=>by
  simp only [partsH,fillH,Option.some.injEq] at h
  subst h
  exact ⟨cells,rfl,hr⟩
 | (i, x) :: ps, cells, cs, cs', hr, h => by
  simp only [partsH,fillH] at h
  split at h
  · rename_i off size us hp hu
    split at h
    · rename_i hc
      obtain ⟨h1,h2⟩:=hc
      have hv:=cellsH_ok hu (hI.opd x)
      have hvl:(a.eval x).cells.size=size:=by rw [←h1,←hv.length];simp
      have hcl:cells.size=cs.length:=by rw [←hr.length];simp
      have hfold:((a.eval x).cells.zipIdx.foldl (fun cs (p:Value×Nat)=>cs.setIfInBounds (off+p.2) p.1) cells).toList=cells.toList.take off++(a.eval x).cells.toList++cells.toList.drop (off+size):=by
       have:=foldl_set off (a.eval x).cells.toList 0 cells (by simp [hvl];omega)
       rw [←Array.foldl_toList]
       simpa [hvl] using this
      obtain ⟨cells',hf,hr'⟩:=fillH_ok hI place ps ((a.eval x).cells.zipIdx.foldl (fun cs (p:Value×Nat)=>cs.setIfInBounds (off+p.2) p.1) cells) _ cs' (by
       rw [hfold]
       exact ((hr.take off).append hv).append (hr.drop _)) h
      refine ⟨cells',?_,hr'⟩
      simp only [List.map_cons,Instr.fill,hp]
      rw [if_neg]
      · exact hf
      · simp only [hvl,ne_eq,not_true_eq_false,decide_false,Bool.false_or,decide_eq_true_eq]
        omega
    · cases h
  · cases h
theorem partsH_congr {rd:List Nat} {σ σ':List SV} (hag:agS rd σ σ'):∀(ps:List (Nat×Operand)),(∀ t∈orrs ps,t∈rd)→partsH Γ σ' ps=partsH Γ σ ps
 | [],_=>rfl
 | (i,x)::ps,h=>by
  simp only [partsH]
  rw [hag.opd (fun t ht=>h t (by simp [orrs,ht])),partsH_congr hag ps (fun t ht=>h t (by simp [orrs,ht]))]
theorem s_build {o:Oper} {σ:List SV} {η:List SB} {T:TypeId} {parts:List (Nat×Operand)} {d:Nat} (ho:o.op=.build T parts.toArray) (hdst:o.dst=some d) {ti:TI} (hti:mkTI P T=some ti)
 (harr:arrOk ti=true) (hagg:ti.sh.agg=true) {hs:List HC} (hf:fillH (placeOf ti.sh) (ti.zc.map .dat) (partsH Γ σ parts)=some hs):HStep Γ P o σ η (d::orrs parts) [] [(d,.agg hs)] []:=by
 have hok:=mkTI_ok hti
 obtain ⟨ds,i,z,hd,hi,hz,hsz,_,hzs,hone,hzc,hsh⟩:=hok.ex
 refine HStep.pure hdst (fun E ρ σ' η' a w hag hah hI=>?_)
 have hav:=partsH_congr (Γ:=Γ) hag parts (fun t ht=>by simp [ht])
 have hz0:HRL η' ρ (MX E.Mo ρ η') w z.cells.toList (ti.zc.map .dat):=by rw [hzc];exact zcells_hrl hone
 obtain ⟨cells',hfill,hrd⟩:=fillH_ok hI (placeOf ti.sh) parts z.cells _ hs hz0 (by rw [hav];exact hf)
 have hbuilt:P.built T (parts.map fun p=>(p.1,a.eval p.2))=some cells':=by
  unfold Program.built
  rw [hi,hd]
  rw [hsh] at hagg
  rcases shOf_agg hagg with ⟨fl,rfl⟩ | ⟨n,e,rfl⟩
  · have hst:∃ fs,ti.sh=.struct fs:=by
     rw [hsh];unfold shOf at hagg ⊢;dsimp only at hagg ⊢
     split at hagg
     · exact ⟨_,by rename_i hc;rw [if_pos hc]⟩
     · cases hagg
    obtain ⟨fs,hfs⟩:=hst
    obtain ⟨fl',e1,rfl,hne⟩:=shOf_struct (hsh.symm.trans hfs)
    cases e1
    have hpl:fl.toList.mapM (fun f=>(P.info? f.type).map fun i=>(f.offset,i.size))=some (fl.toList.map fun f=>(f.offset,P.cellsOf f.type)):=
     mapM_some _ _ _ (fun f hf=>by
      obtain ⟨j,hj,hjs⟩:=cellsOf_info (hne f hf)
      simp [hj,hjs])
    simp only [hz,hpl]
    rw [hfs] at hfill
    rw [←hfill]
    congr 1
    funext x
    simp [placeOf]
    rfl
  · have har:ti.sh=.array n e (P.cellsOf e):=hsh
    have har':P.cellsOf e≠0:=by unfold arrOk at harr;rw [har] at harr;simpa using harr
    obtain ⟨j,hj,hjs⟩:=cellsOf_info har'
    simp only [hz,hj]
    rw [har] at hfill
    rw [←hfill,hjs]
    rfl
 refine ⟨.agg cells',?_,⟨cells'.toList,by simp,hrd⟩⟩
 have hrun:=run_build (P:=P) w T (parts.map fun p=>(p.1,a.eval p.2)).toArray cells' (by simpa using hbuilt)
 simp only [execOp,ho]
 have he:(parts.toArray.map fun (p:Nat×Operand)=>(p.1,a.eval p.2))=(parts.map fun p=>(p.1,a.eval p.2)).toArray:=by simp
 have:(Array.map (fun x=>match x with | (i,x)=>(i,a.eval x)) parts.toArray)=(parts.map fun p=>(p.1,a.eval p.2)).toArray:=by rw [←he]
 rw [this]
 simp [hrun]
def sliceOf (es:Nat) (ik:Option IntKind) (n:Nat) (cs:List Cell):Option Cell:=match ik with
 | some k=>if es=1 then (intsOf k cs).map (.ints k) else none
 | none=>some (.sl es (chunk es n cs))
theorem intsOf_eq {k : IntKind} : ∀ {cs : List Cell} {l : List Int}, intsOf k cs = some l → cs = l.map fun n => .raw (.int k n)
 | [],l,h=>by simp [intsOf] at h;simp [h]
 | c::cs,l,h=>by
  unfold intsOf at h
  split at h
  · rename_i heq;cases heq
  · rename_i k' n r heq
    cases heq
    split at h
    · rename_i hk
      subst hk
      simp only [Option.map_eq_some_iff] at h
      obtain ⟨l',h1,rfl⟩:=h
      rw [intsOf_eq h1];rfl
    · cases h
  · cases h
theorem sliceOf_ok {es n:Nat} {ik:Option IntKind} {cs:List Cell} {c:Cell} (hlen:cs.length=n*es) (h:sliceOf es ik n cs=some c):c.uni∧c.cnt=n∧c.esz=es∧c.flat=cs:=by
 unfold sliceOf at h
 split at h
 · rename_i k
   split at h
   · rename_i he
     subst he
     obtain ⟨l,hl,rfl⟩:=Option.map_eq_some_iff.1 h
     have:=intsOf_eq hl
     subst this
     simp only [List.length_map,Nat.mul_one] at hlen
     exact ⟨trivial,hlen,rfl,rfl⟩
   · cases h
 · cases h
   exact ⟨chunk_len es n cs hlen,chunk_length es n cs,rfl,chunk_flat es n cs hlen⟩
theorem fillH_length {place : Nat → Option (Nat × Nat)} : ∀ (ps : List (Nat × SV)) (cs cs' : List HC), fillH place cs ps = some cs' → cs'.length = cs.length
 | [],cs,cs',h=>by simp only [fillH,Option.some.injEq] at h;rw [h]
 | (i, x) :: ps, cs, cs', h => by
  simp only [fillH] at h
  split at h
  · rename_i off size us hp hu
    split at h
    · rename_i hc
      rw [fillH_length ps _ cs' h]
      simp only [List.length_append,List.length_take,List.length_drop]
      omega
    · cases h
  · cases h
theorem toDatL_length {η:List SB}:∀{hs:List HC} {cs:List Cell} {bs:List Nat},toDatL η hs=some (cs,bs)→cs.length=hs.length
 | [],cs,bs,hd=>by cases hd;rfl
 | h::hs,cs,bs,hd=>by
  simp only [toDatL] at hd
  split at hd
  · rename_i c bs1 cs2 bs2 h1 h2
    cases hd
    simp [toDatL_length h2]
  · cases hd
def litH (Γ:List (Nat×List Cell)) (σ:List SV) (η:List SB) (es:Nat) (ik:Option IntKind) (zc:List Cell) (n:Nat) (parts:List (Nat×Operand)):Option (Cell×List Nat):=
 if n*es≤16777216∧n≠0 then match fillH (fun i=>some (i*es,es)) ((repeatL zc n).map .dat) (partsH Γ σ parts) with
  | some hs=>match toDatL η hs with
   | some (cs,bs)=>(sliceOf es ik n cs).map fun c=>(c,bs)
   | none=>none
  | none=>none
 else none
theorem repeatL_hrl {η:List SB} {ρ:Nat→Value} {M:Nat→Nat→Prop} {w:World} {vs:List Value} {cs:List Cell} (h:HRL η ρ M w vs (cs.map .dat)):∀ n,HRL η ρ M w (repeatL vs n) ((repeatL cs n).map .dat)
 | 0=>trivial
 | n+1=>by
  simp only [repeatL,List.map_append]
  exact h.append (repeatL_hrl h n)
theorem run_lit {σ:List SV} {η:List SB} {E:HEnv} {ρ:Nat→Value} {a:Act} {w:World} (hI:RI Γ E ρ σ η a w) {o:Oper} {T e:TypeId} {es eb n:Nat} {ik:Option IntKind} {parts:List (Nat×Operand)} (ho:o.op=.buildSlice T n parts.toArray)
 {ti te:TI} (hti:mkTI P T=some ti) (hsh:ti.sh=.slice e es eb ik) (hte:mkTI P e=some te) {c:Cell} {bs:List Nat} (h:litH Γ σ η es ik te.zc n parts=some (c,bs)) :
 ∃ vs:List Value,(execOp a.eval o).run P w=.ok (.value (.slice (some ⟨w.heap.size,0,none⟩) n n)) (w.alloc (.cells vs.toArray e))∧c.uni∧c.cnt=n∧c.esz=es∧vs.length=n*es∧(∀ b∈bs,isArr (gB η b)=true)∧
  ∀(ρ':Nat→Value) (η':List SB) (w':World),HInv Γ E.Mo ρ' η' w'→Mv η ρ (MX E.Mo ρ η) w η' ρ' (MX E.Mo ρ' η') w'→(∀ b∈bs,gB η' b=frzB (gB η b))→RdD (MX E.Mo ρ' η') w' vs c.flat:=by
 have hok:=mkTI_ok hti
 obtain ⟨ds,i,z,hd,hi,hz,_,_,_,_,_,hsh'⟩:=hok.ex
 unfold litH at h
 split at h
 case isFalse=>cases h
 rename_i hsmall
 split at h
 case h_2=>cases h
 rename_i hs hfill
 split at h
 case h_2=>cases h
 rename_i cs bs' hdat
 obtain ⟨c',hsl,he⟩:=Option.map_eq_some_iff.1 h
 cases he
 obtain ⟨rfl,j,z',hj,hz',hjs,hjb,hes0,hzs,hik⟩:=shOf_slice (hsh'.symm.trans hsh)
 obtain ⟨de,je,ze,hde,hje,hze,_,_,_,hone,hzce,_⟩:=(mkTI_ok hte).ex
 rw [hj] at hje;cases hje
 rw [hz'] at hze;cases hze
 have hz0:HRL η ρ (MX E.Mo ρ η) w (repeatL z'.cells.toList n) ((repeatL te.zc n).map .dat):=repeatL_hrl (by rw [hzce];exact zcells_hrl hone) n
 have hinit:(Array.range (n*es)).map (z'.cells[· % z'.cells.size]!)=(repeatL z'.cells.toList n).toArray:=by
  apply Array.ext
  · simp [repeatL_length,hzs]
  · intro q h1 h2
    simp only [Array.size_map,Array.size_range] at h1
    have hq:=repeatL_get z'.cells.toList n q (by simpa [hzs] using h1)
    have hlt:q % z'.cells.size<z'.cells.size:=Nat.mod_lt _ (by rw [hzs];omega)
    simp only [Array.getElem_map,Array.getElem_range,List.getElem_toArray]
    simp only [Array.length_toList,Array.getElem?_toList] at hq
    rw [Array.getElem?_eq_getElem hlt,List.getElem?_eq_getElem (by simpa using h2)] at hq
    simp at hq
    rw [hq]
    simp [hlt]
 obtain ⟨cells',hf,hrd⟩:=fillH_ok hI (fun i=>some (i*es,es)) parts (repeatL z'.cells.toList n).toArray _ hs (by simpa using hz0) hfill
 have hrun:(execOp a.eval o).run P w=.ok (.value (.slice (some ⟨w.heap.size,0,none⟩) n n)) (w.alloc (.cells cells' e)):=by
  have hpe:(Array.map (fun x=>match x with | (i,x)=>(i,a.eval x)) parts.toArray).toList=parts.map fun p=>(p.1,a.eval p.2):=by simp
  have h24:¬(16777216<n*es):=by omega
  have hne:¬(n*es=0):=by
   intro h0
   rcases Nat.mul_eq_zero.1 h0 with h0 | h0
   · exact hsmall.2 h0
   · exact hes0 h0
  simp only [execOp,ho,Instr.buildSlice,Sem.run_bind,run_underlying' hd,Result.andThen_ok,run_sizeOf' hj,hjs]
  rw [if_neg (by simpa using h24),if_neg hne]
  simp only [Sem.run_bind,run_zeroValue' hj hz',Result.andThen_ok,Sem.run_pure,hinit]
  rw [hpe,hf]
  simp [newRow]
 have hlen:cs.length=n*es:=by
  rw [toDatL_length hdat,fillH_length _ _ _ hfill,List.length_map,repeatL_length,hzce]
  simp [hzs]
 obtain ⟨h1,h2,h3,h4⟩:=sliceOf_ok hlen hsl
 refine ⟨cells'.toList,by rw [Array.toArray_toList];exact hrun,h1,h2,h3,?_,toDatL_arr hdat,fun ρ' η' w' hinv m hfz=>?_⟩
 · rw [hrd.length,←toDatL_length hdat,hlen]
 · rw [h4]
   exact toDatL_ok hinv hdat hfz (hrd.mv m)
theorem litH_congr {σ σ':List SV} {η η':List SB} {es n:Nat} {ik:Option IntKind} {zc:List Cell} {parts:List (Nat×Operand)} {c:Cell} {bs:List Nat} (hp:partsH Γ σ' parts=partsH Γ σ parts) (h:litH Γ σ η es ik zc n parts=some (c,bs))
 (ha:∀ b∈bs,gB η' b=gB η b):litH Γ σ' η' es ik zc n parts=some (c,bs):=by
 unfold litH at h ⊢
 rw [hp]
 split at h
 · rename_i hc
   rw [if_pos hc]
   split at h
   · rename_i hs hf
     split at h
     · rename_i cs bs' hd
       obtain ⟨c',_,he⟩:=Option.map_eq_some_iff.1 h
       cases he
       rw [toDatL_congr hd ha]
       exact h
     · cases h
   · cases h
 · cases h
theorem appL_append {α:Type}:∀(e e':List (Nat×α)) (l:List α),appL (e++e') l=appL e' (appL e l)
 | [],_,_=>rfl
 | (i,x)::e,e',l=>by simp only [List.cons_append,appL];exact appL_append e e' _
theorem frz_fresh {η : List SB} {bs : List Nat} (ha : ∀ b ∈ bs, isArr (gB η b) = true) {nb : Nat} (hf : η[nb]? = some .fresh) : (appL (frzE η bs) η)[nb]? = some .fresh := by
 have key:∀(bs:List Nat) (η1:List SB),(∀ b∈bs,isArr (gB η b)=true)→η1[nb]? = some .fresh→(appL (frzE η bs) η1)[nb]? = some .fresh:=by
  intro bs
  induction bs with
  | nil=>intro η1 _ h;exact h
  | cons b bs ih=>
   intro η1 ha h
   show (appL (frzE η bs) (η1.set b (frzB (gB η b))))[nb]? = _
   refine ih _ (fun i hi=>ha i (by simp [hi])) ?_
   have hne:b≠nb:=fun e=>by
    have h1:=ha b (by simp)
    rw [e] at h1
    unfold gB at h1
    rw [hf] at h1
    cases h1
   rw [List.getElem?_set_ne hne];exact h
 exact key bs η ha hf
theorem s_lit {o:Oper} {σ:List SV} {η:List SB} {T e:TypeId} {es eb n d nb:Nat} {ik:Option IntKind} {parts:List (Nat×Operand)} (ho:o.op=.buildSlice T n parts.toArray) (hdst:o.dst=some d)
 {ti te:TI} (hti:mkTI P T=some ti) (hsh:ti.sh=.slice e es eb ik) (hte:mkTI P e=some te) {c:Cell} {bs:List Nat} (h:litH Γ σ η es ik te.zc n parts=some (c,bs)) (hroom:roomB η nb=true) :
 HStep Γ P o σ η (d::orrs parts) (nb::bs) [(d,.one (.sl nb es 0 n))] (frzE η bs++[(nb,.arr c 0 (some e))]):=by
 refine HStep.val hdst (fun E ρ σ' η' a w hag hah hI=>?_)
 have hp:=partsH_congr (Γ:=Γ) hag parts (fun t ht=>by simp [ht])
 have hgb:∀ b∈bs,gB η' b=gB η b:=fun b hb=>hah.gB (by simp [hb])
 obtain ⟨vs,hrun,hu,hcnt,hesz,hvl,harr,hrd⟩:=run_lit hI ho hti hsh hte (litH_congr hp h hgb)
 obtain ⟨hw1,_,hfz⟩:=Went.frz bs η' hI.inv rfl harr (fun _=>.inl rfl)
 have hfr:=frz_fresh harr (hah.room (by simp) hroom)
 have hb:Below w.heap.size w (w.alloc (.cells vs.toArray e)):=(Below.refl _ _).alloc (Nat.le_refl _) _
 have hlt:nb<(appL (frzE η' bs) η').length:=(List.getElem?_eq_some_iff.1 hfr).1
 have hrd1:=hrd ρ _ w hw1.inv hw1.mv hfz
 have hw2:=Went.new hw1.inv hb hfr (v:=.pointer (some ⟨w.heap.size,0,none⟩)) (x:=.arr c 0 (some e)) (by simp) (fun _ _=>Nat.le_refl _) (fun m=>⟨⟨hu,Nat.zero_le _⟩,.inr ⟨w.heap.size,vs,[],e,rfl,by simpa using heap_new w _,hrd1.keep m.keep,fun t' ht=>by cases ht;rfl⟩⟩)
 refine ⟨_,_,upd ρ nb (.pointer (some ⟨w.heap.size,0,none⟩)),hrun,?_,?_⟩
 · rw [←frzE_congr hgb,appL_append]
   exact hw1.trans hw2
 · rw [←frzE_congr hgb,appL_append]
   refine ⟨⟨_,by simp only [appL];rw [List.getElem?_set_self hlt],by simp⟩,_,n,rfl,Nat.le_refl _,fun _=>⟨by rw [upd_self];simp [real],by rw [upd_self];simp [bk,blk],vs.toArray,e,(0,0),by rw [upd_self];exact heap_new w _,?_⟩⟩
   simp [hvl]
theorem s_litD {o:Oper} {σ:List SV} {η:List SB} {T e:TypeId} {es eb n d:Nat} {ik:Option IntKind} {parts:List (Nat×Operand)} (ho:o.op=.buildSlice T n parts.toArray) (hdst:o.dst=some d)
 {ti te:TI} (hti:mkTI P T=some ti) (hsh:ti.sh=.slice e es eb ik) (hte:mkTI P e=some te) {c:Cell} {bs:List Nat} (h:litH Γ σ η es ik te.zc n parts=some (c,bs)) :
 HStep Γ P o σ η (d::orrs parts) bs [(d,.one (.dat c))] (frzE η bs):=by
 refine HStep.val hdst (fun E ρ σ' η' a w hag hah hI=>?_)
 have hp:=partsH_congr (Γ:=Γ) hag parts (fun t ht=>by simp [ht])
 have hgb:∀ b∈bs,gB η' b=gB η b:=fun b hb=>hah.gB hb
 obtain ⟨vs,hrun,hu,hcnt,hesz,hvl,harr,hrd⟩:=run_lit hI ho hti hsh hte (litH_congr hp h hgb)
 obtain ⟨hw1,_,hfz⟩:=Went.frz bs η' hI.inv rfl harr (fun _=>.inl rfl)
 have hb:Below w.heap.size w (w.alloc (.cells vs.toArray e)):=(Below.refl _ _).alloc (Nat.le_refl _) _
 have hw2:=Went.below hw1.inv hb
 have hrd2:=(hrd ρ _ w hw1.inv hw1.mv hfz).keep hw2.keep
 refine ⟨_,_,ρ,hrun,?_,?_⟩
 · rw [←frzE_congr hgb]
   exact hw1.trans hw2
 · rw [←frzE_congr hgb]
   have hM:∀ o,o<vs.length→¬MX E.Mo ρ (appL (frzE η' bs) η') w.heap.size o:=fun o _ hm=>by
    have:=MX_lt hw1.inv hm
    omega
   have:=arr_data (cap:=n) (q:=[]) (by simpa using heap_new w (.cells vs.toArray e)) hrd2 hu (by omega) hM
   rw [hcnt] at this
   exact this
end Go.Hp

namespace Go.Hp
open Go Go.RowKit Go.Slot
variable {P:Program} {Γ:List (Nat×List Cell)}
def appT (T:Option TypeId) (e:TypeId):Option TypeId:=match T with
 | some t=>if t=e then some e else none
 | none=>none
def dstH (η:List SB) (e:TypeId) (es:Nat) (ik:Option IntKind):SV→Option (Option Nat×Cell×Nat×Option TypeId)
 | .one (.sl b es' 0 n)=>match gB η b with
  | .arr c k T=>if es'=es∧c.esz=es∧n=c.cnt then some (some b,c,k,T) else none
  | _=>none
 | .one (.dat c)=>match isZc c with
  | true=>some (none,emptyOf es ik,0,some e)
  | false=>none
 | _=>none
def srcH (η:List SB):SV→Option (Cell×List Nat)
 | .one h=>toDat η h
 | _=>none
def killE:Option Nat→List (Nat×SB)
 | some b=>[(b,.dead)]
 | none=>[]
def appendH (η:List SB) (nb:Nat) (e:TypeId) (es eb:Nat) (ik:Option IntKind) (x y:SV):Option (List Nat×List (Nat×SB)×SV):=
 match dstH η e es ik x,srcH η y with
 | some (ob,c,k,T),some (cy,bs)=>match joinC es eb ik c cy with
  | some c'=>if bs.all (fun i=>ob != some i) then some (ob.toList++bs,frzE η bs++(killE ob++[(nb,.arr c' k (appT T e))]),.one (.sl nb es 0 c'.cnt)) else none
  | none=>none
 | _,_=>none
theorem frz_other {η:List SB} {b:Nat}:∀(bs:List Nat) (η1:List SB),b∉bs→gB (appL (frzE η bs) η1) b=gB η1 b
 | [],_,_=>rfl
 | i::bs,η1,h=>by
  show gB (appL (frzE η bs) (η1.set i (frzB (gB η i)))) b=_
  rw [frz_other bs _ (fun hb=>h (by simp [hb])),gB_set_ne (fun e=>h (by simp [e]))]
theorem emptyOf_ok (es:Nat) (ik:Option IntKind):(emptyOf es ik).uni∧(emptyOf es ik).cnt=0:=by
 cases ik with
 | none=>exact ⟨fun r hr=>(by cases hr),rfl⟩
 | some k=>exact ⟨trivial,rfl⟩
theorem grow_new {Mo:Nat→Nat→Prop} {ρ:Nat→Value} {η:List SB} {w:World} (h:HInv Γ Mo ρ η w) {nb:Nat} (hf:η[nb]? = some .fresh) {e:TypeId} {es n m cap k:Nat} {T:Option TypeId} {c':Cell} {all:List Value} {rest:Array Value}
 (hu:c'.uni) (_hcnt:c'.cnt=n+m) (hk:k≤c'.cnt*c'.esz) (hrd:RdD (MX Mo ρ η) w all c'.flat) (hall:all.length=(n+m)*es) (hcap:n+m≤cap) (hrest:rest.size=(cap-(n+m))*es) :
 Went Γ Mo ρ η w (upd ρ nb (.pointer (some ⟨w.heap.size,0,none⟩))) (η.set nb (.arr c' k (appT T e))) (w.drew.alloc (.cells (all.toArray++rest) e))∧
 HRd (η.set nb (.arr c' k (appT T e))) (upd ρ nb (.pointer (some ⟨w.heap.size,0,none⟩))) (MX Mo (upd ρ nb (.pointer (some ⟨w.heap.size,0,none⟩))) (η.set nb (.arr c' k (appT T e)))) (w.drew.alloc (.cells (all.toArray++rest) e))
  (.slice (some ⟨w.heap.size,0,none⟩) (n+m) cap) (.sl nb es 0 (n+m)):=by
 have hb:Below w.heap.size w (w.drew.alloc (.cells (all.toArray++rest) e)):=((Below.refl _ _).drew).alloc (Nat.le_refl _) _
 have hheap:(w.drew.alloc (.cells (all.toArray++rest) e)).heap[w.heap.size]? = some (.cells (all++rest.toList).toArray e (0,0)):=by
  have:=heap_new w.drew (.cells (all.toArray++rest) e)
  rw [show (all++rest.toList).toArray=all.toArray++rest by apply Array.ext';simp]
  exact this
 have hlt:nb<η.length:=(List.getElem?_eq_some_iff.1 hf).1
 refine ⟨Went.new h hb hf (by simp) (fun _ _=>Nat.le_refl _) (fun m=>⟨⟨hu,hk⟩,.inr ⟨w.heap.size,all,rest.toList,e,rfl,hheap,hrd.keep m.keep,fun t' ht=>?_⟩⟩),?_⟩
 · unfold appT at ht
   split at ht
   · split at ht<;>cases ht;rfl
   · cases ht
 · refine ⟨⟨_,by rw [List.getElem?_set_self hlt],by simp⟩,_,cap,rfl,hcap,fun _=>⟨by rw [upd_self];simp [real],by rw [upd_self];simp [bk,blk],_,e,(0,0),by rw [upd_self];exact hheap,?_⟩⟩
   simp only [List.size_toArray,List.length_append,Array.length_toList,hall,hrest,Nat.zero_add]
   rw [←Nat.add_mul]
   exact Nat.le_of_eq (by congr 1;omega)
theorem s_append {o:Oper} {σ:List SV} {η:List SB} {T e:TypeId} {x y:Operand} {d nb es eb:Nat} {ik:Option IntKind} (ho:o.op=.call { callee:=.builtin .append,args:=#[x,y],argTypes:=#[T,T] }) (hdst:o.dst=some d)
 {ti:TI} (hti:mkTI P T=some ti) (hsh:ti.sh=.slice e es eb ik) {rh:List Nat} {heff:List (Nat×SB)} {v:SV} (h:appendH η nb e es eb ik (opdS Γ σ x) (opdS Γ σ y)=some (rh,heff,v)) (hroom:roomB η nb=true) :
 HStep Γ P o σ η (d::(orr x++orr y)) (nb::rh) [(d,v)] heff:=by
 refine HStep.val hdst (fun E ρ σ' η' a w hag hah hI=>?_)
 obtain ⟨d0,i,z,hd0,hi,hz,_,_,_,_,_,hsh'⟩:=(mkTI_ok hti).ex
 obtain ⟨rfl,j,z',hj,hz',hjs,hjb,hes0,hzs,hik⟩:=shOf_slice (hsh'.symm.trans hsh)
 have hes:0<es:=by omega
 have hx:=hI.opd x
 have hy:=hI.opd y
 rw [hag.opd (fun t ht=>by simp [ht])] at hx hy
 unfold appendH at h
 split at h
 case h_2=>cases h
 rename_i ob c k T0 cy bs hD hS
 split at h
 case h_2=>cases h
 rename_i c' hjoin
 split at h
 case isFalse=>cases h
 rename_i hob
 cases h
 have hnb:∀ b,ob=some b→b∉bs:=fun b e1 hb=>by
  have:=(List.all_eq_true.1 hob) b hb
  rw [e1] at this;simp at this
 obtain ⟨hsv,hS'⟩:∃ hc,opdS Γ σ y=.one hc∧toDat η hc=some (cy,bs):=by
  unfold srcH at hS
  split at hS
  · rename_i hc e1;exact ⟨hc,e1,hS⟩
  · cases hS
 obtain ⟨hye,hyd⟩:=hS'
 rw [hye] at hy
 have hgb:∀ b∈bs,gB η' b=gB η b:=fun b hb=>hah.gB (by simp [hb])
 have hyd':=toDat_congr hyd hgb
 have harr:=toDat_arr hyd'
 obtain ⟨hw1,_,hfz⟩:=Went.frz bs η' hI.inv rfl harr (fun _=>.inl rfl)
 have hfr:=frz_fresh harr (hah.room (by simp) hroom)
 have hyr:=toDat_ok hw1.inv hyd' hfz (HRd.mv hw1.mv hy)
 have hfe:frzE η bs=frzE η' bs:=(frzE_congr hgb).symm
 rw [hfe]
 simp only [appL_append]
 have hlt:nb<(appL (frzE η' bs) η').length:=(List.getElem?_eq_some_iff.1 hfr).1
 generalize hη1:appL (frzE η' bs) η'=η1 at hw1 hfr hyr hfz hlt
 have hexec:∀(vx vy u:Value) (w2:World),a.eval x=vx→a.eval y=vy→(Builtin.append_ #[T,T] o.type #[vx,vy]).run P w=.ok u w2→(execOp a.eval o).run P w=.ok (.value u) w2:=fun vx vy u w2 e1 e2 hr=>by
  rw [exec_len ho,show (#[x,y]:Array Operand).map a.eval=#[vx,vy] from by simp [e1,e2]]
  simp only [builtin,Sem.run_bind,hr]
  rfl
 have nothing:∀(ad yad:Option Addr) (ycap:Nat),(Builtin.append_ #[T,T] o.type #[.slice ad 0 0,.slice yad 0 ycap]).run P w=.ok (.slice ad 0 0) w:=fun ad yad ycap=>by
  have hf0:(Builtin.firstCells j.size 0 (.slice yad 0 ycap)).run P w=.ok #[] w:=run_firstCells_any w 0 _ [] ⟨_,_,rfl⟩ (by simp) (.inl rfl)
  cases ad with
  | none=>simp [Builtin.append_,run_underlying hd0,sizeOf,typeInfo,hj,Builtin.lenOf,hf0]
  | some b=>simp [Builtin.append_,run_underlying hd0,sizeOf,typeInfo,hj,Builtin.lenOf,hf0,storeCells]
 unfold dstH at hD
 split at hD
 ·
  rename_i b es' n hxe
  split at hD
  case h_2=>cases hD
  rename_i c0 k0 T1 hb
  split at hD
  case isFalse=>cases hD
  rename_i hc
  obtain ⟨rfl,hcz,hn⟩:=hc
  cases hD
  rw [hxe] at hx
  have hx0:HRd η' ρ (MX E.Mo ρ η') w (a.eval x) (.sl b es' 0 n):=hx
  have hx1:=HRd.mv hw1.mv hx0
  have hb':gB η1 b=.arr c k T0:=by
   rw [←hη1,frz_other bs η' (hnb b rfl),hah.gB (by simp)];exact hb
  have hb1:=gB_some hb' (by simp)
  have hsb:=hw1.inv.blk b _ hb1
  obtain ⟨⟨hu,hk⟩,h0⟩:=hsb
  obtain ⟨m,news,fy,⟨yad,ycap,hvy⟩,hnl,hnr,hnc,hu',hcnt',hesz',hcesz,hflat',hb1',hb2'⟩:=joinC_cells hes hjoin hu hyr
  obtain ⟨_,ad,cap,hv,hle,hcap⟩:=hx1
  have hk':k≤c'.cnt*c'.esz:=by
   rw [hcnt',hesz',←hcesz,Nat.add_mul];omega
  have hne:nb≠b:=fun e1=>by rw [e1,hb1] at hfr;cases hfr
  have hkf:(η1.set b .dead)[nb]? = some .fresh:=by rw [List.getElem?_set_ne (Ne.symm hne)];exact hfr
  have hnc':news=[]∨∃ b off cap,Value.slice yad m ycap=.slice (some ⟨b,off,none⟩) m cap∧∀ j u,news[j]? = some u→w.cell? ⟨b,off+j,none⟩=some u:=
   hnc.imp id fun ⟨b,off,cap,e,h⟩=>⟨b,off,cap,hvy▸e,fun j u hj=>(h j u hj).2⟩
  show ∃ v w' ρ',_∧Went Γ E.Mo ρ η' w ρ' ((η1.set b .dead).set nb (.arr c' k (appT T0 e))) w'∧SVR ((η1.set b .dead).set nb (.arr c' k (appT T0 e))) ρ' (MX E.Mo ρ' ((η1.set b .dead).set nb (.arr c' k (appT T0 e)))) w' v _
  by_cases hcm:cap=0∧m=0
  · obtain ⟨rfl,rfl⟩:=hcm
    have hn0:n=0:=by omega
    subst hn0
    have hk0:=Went.kill hw1.inv hb1
    have hw2:=Went.new hk0.inv (below_self w) hkf (v:=.pointer none) (x:=.arr c' k (appT T0 e)) (by simp) (fun _ hr=>absurd rfl hr) (fun m=>⟨⟨hu',hk'⟩,.inl ⟨by rw [hcnt'];omega,rfl⟩⟩)
    refine ⟨.slice ad 0 0,w,_,hexec _ _ _ _ hv hvy (nothing ad yad ycap),hw1.trans (hk0.trans hw2),⟨_,by rw [List.getElem?_set_self (by simpa using hlt)],by simp⟩,ad,0,?_,by omega,fun h=>absurd rfl h⟩
    rw [hcnt',←hn]
  · by_cases hroom':n+m≤cap
    ·
     obtain ⟨hre,had,arr,Tb,fz,hheap,hsz⟩:=hcap (by omega)
     rcases h0 with ⟨_,e1⟩ | ⟨bb,vs,q,Tb',e1,hh,hr,hT⟩
     · exact absurd e1 hre
     have hbk:bk (ρ b)=bb:=by rw [e1];rfl
     rw [hbk] at had hheap
     rw [hh] at hheap
     cases hheap
     have hvl:=hr.length
     have hfl:=Cell.flat_len hu
     have hfit:n*es'+news.length≤(vs++q).length:=by
      have:(n+m)*es'≤(0+cap)*es':=Nat.mul_le_mul_right _ (by omega)
      rw [Nat.add_mul] at this
      simp only [List.size_toArray] at hsz
      rw [hnl];omega
     have hf:(Builtin.firstCells j.size m (.slice yad m ycap)).run P w=.ok news.toArray w:=run_firstCells_any w m _ news ⟨_,_,rfl⟩ (by rw [hjs];exact hnl) hnc'
     have hones:∀ u∈news,u.oneCell'=true:=fun u hu=>hnr.oneL u hu
     have hrun:=run_append_in (P:=P) hd0 hj w o.type bb Tb n cap (vs++q).toArray hh m (.slice yad m ycap) news ⟨_,_,rfl⟩ (by rw [hjs];exact hnl) hf hones hroom' (by rw [hjs];simpa using hfit)
     rw [hjs] at hrun
     have hnv:n*es'=vs.length:=by rw [hvl,hfl,hn,hcesz]
     have hnew:(vs++q).toArray.toList.take (n*es')++news++(vs++q).toArray.toList.drop (n*es'+news.length)=(vs++news)++(vs++q).drop (vs.length+news.length):=by
      simp only [hnv,List.take_left',List.append_assoc]
     rw [hnew] at hrun
     have hdrop:(vs++q).drop (vs.length+news.length)=q.drop news.length:=by rw [List.drop_append];simp
     rw [hdrop] at hrun
     rw [hnv,List.length_append] at hfit
     have hsize':((vs++news)++q.drop news.length).length=(vs++q).length:=by
      simp only [List.length_append,List.length_drop];omega
     have hwr:=Went.write (w':=w.setRow bb ((vs++news)++q.drop news.length).toArray) (x':=.arr c' k (appT T0 e)) hw1.inv hb1 rfl hre rfl (fun o=>Iff.rfl) (by simp [World.setRow]) rfl rfl rfl (fun kk hk=>setRow_other w bb kk _ (by rw [←hbk];exact hk))
      (grow_setRow hh (by simp only [List.size_toArray];omega)) (fun oo u hm hc=>by
        rw [hbk] at hc ⊢
        rw [cell_setRow_same w bb oo _ _ _ _ hh]
        have hlt':oo<vs.length:=by
         have:¬k≤oo:=hm
         omega
        simp only [World.cell?,hh,Option.isSome_none,Bool.false_eq_true,if_false,List.getElem?_toArray] at hc
        rw [List.getElem?_append_left hlt'] at hc
        rw [List.getElem?_toArray,List.append_assoc,List.getElem?_append_left hlt']
        exact hc)
      (fun m'=>⟨⟨hu',hk'⟩,.inr ⟨bb,vs++news,q.drop news.length,Tb,e1,setRow_heap w bb _ _ Tb (0,0) hh,by rw [hflat'];exact (hr.app hnr).keep m'.keep,fun t' ht=>by
        unfold appT at ht
        split at ht
        · rename_i t
          split at ht
          · rename_i e2;cases ht;rw [←e2];exact hT t rfl
          · cases ht
        · cases ht⟩⟩)
     have hfr2:(η1.set b (.arr c' k (appT T0 e)))[nb]? = some .fresh:=by rw [List.getElem?_set_ne (Ne.symm hne)];exact hfr
     have hmv:=Went.move hwr.inv (b:=b) (nb:=nb) (x:=.arr c' k (appT T0 e)) (by rw [List.getElem?_set_self (List.getElem?_eq_some_iff.1 hb1).1]) rfl hfr2
     rw [List.set_set] at hmv
     subst had
     refine ⟨_,_,_,hexec _ _ _ _ hv hvy (by rw [Nat.zero_mul];exact hrun),hw1.trans (hwr.trans hmv),⟨_,by rw [List.getElem?_set_self (by simpa using hlt)],by simp⟩,_,cap,?_,?_,fun _=>⟨by rw [upd_self];exact hre,by rw [upd_self,hbk,Nat.zero_mul],_,Tb,(0,0),by rw [upd_self,hbk];exact setRow_heap w bb _ _ Tb (0,0) hh,?_⟩⟩
     · rw [hcnt',←hn]
     · rw [hcnt',←hn];exact hroom'
     · simp only [List.size_toArray] at hsz ⊢
       rw [hsize'];exact hsz
    ·
     have hold:cap<n+m:=by omega
     have hxs:∃ xs:List Value,RdD (MX E.Mo ρ η1) w xs c.flat∧(xs=[]∨∃ g cap',Value.slice ad n cap=.slice (some ⟨g,0,none⟩) n cap'∧∀ j u,xs[j]? = some u→w.cell? ⟨g,0+j,none⟩=some u):=by
      by_cases h00:n=0
      · have hf0:c.flat=[]:=List.eq_nil_of_length_eq_zero (by rw [Cell.flat_len hu,←hn,h00];simp)
        rw [hf0]
        exact ⟨[],trivial,.inl rfl⟩
      · obtain ⟨hre,had,arr,Tb,fz,hheap,hsz⟩:=hcap (by omega)
        rcases h0 with ⟨h00',_⟩ | ⟨bb,vs,q,Tb',e1,hh,hr,hT⟩
        · omega
        · have hbk:bk (ρ b)=bb:=by rw [e1];rfl
          rw [hbk] at had
          refine ⟨vs,hr,.inr ⟨bb,cap,by rw [had];simp,fun jj u hj=>?_⟩⟩
          rw [Nat.zero_add];exact arr_cell hh hj
     obtain ⟨xs,hxr,hxc⟩:=hxs
     have hxl:xs.length=n*es':=by rw [hxr.length,Cell.flat_len hu,hn,hcesz]
     have hfd:(Builtin.firstCells j.size m (.slice yad m ycap)).run P w.drew=.ok news.toArray w.drew:=run_firstCells_any w.drew m _ news ⟨_,_,rfl⟩ (by rw [hjs];exact hnl) hnc'
     have hfo:(Builtin.firstCells j.size n (.slice ad n cap)).run P w.drew=.ok xs.toArray w.drew:=run_firstCells_any w.drew n _ xs ⟨_,_,rfl⟩ (by rw [hjs];exact hxl) (hxc.imp id fun ⟨g,cap',e1,hc⟩=>⟨g,0,cap',e1,hc⟩)
     have hrun:=run_append_new (P:=P) hd0 hj hz' w o.type hfd hfo hold (by rw [hjb,hn];exact hb1') (by rw [hn];exact hb2')
     have hge:=grownCap_ge w (n+m) cap e
     have hk0:=Went.kill hw1.inv hb1
     have hgn:=grow_new hk0.inv hkf (e:=e) (es:=es') (n:=n) (m:=m) (cap:=grownCap w (n+m) cap e) (k:=k) (T:=T0) (c':=c') (all:=xs++news) (rest:=Builtin.zeroCells z'.cells (grownCap w (n+m) cap e-(n+m))) hu' (by rw [hcnt',←hn]) hk'
      (by rw [hflat'];exact (hxr.app hnr).keep hk0.keep) (by rw [List.length_append,hxl,hnl,Nat.add_mul]) hge (by rw [size_zeroCells,hzs])
     refine ⟨_,_,_,hexec _ _ _ _ hv hvy hrun,hw1.trans (hk0.trans hgn.1),?_⟩
     rw [hcnt',←hn]
     exact hgn.2
 ·
  rename_i c0 hxe
  split at hD
  case h_2=>cases hD
  rename_i hzc
  cases hD
  rw [hxe] at hx
  obtain ⟨hu,hcnt0⟩:=emptyOf_ok es ik
  obtain ⟨ad,hv⟩:=isZc_ok (τ:=fun _=>⟨Go.undef,0⟩) hzc (RdT.of (show RdC _ w (a.eval x) c0 from hx))
  obtain ⟨m,news,fy,⟨yad,ycap,hvy⟩,hnl,hnr,hnc,hu',hcnt',hesz',hcesz,hflat',hb1',hb2'⟩:=joinC_cells hes hjoin hu hyr
  rw [hcnt0] at hcnt' hb1' hb2'
  show ∃ v w' ρ',_∧Went Γ E.Mo ρ η' w ρ' (η1.set nb (.arr c' 0 (appT (some e) e))) w'∧SVR (η1.set nb (.arr c' 0 (appT (some e) e))) ρ' (MX E.Mo ρ' (η1.set nb (.arr c' 0 (appT (some e) e)))) w' v _
  by_cases hm0:m=0
  · subst hm0
    have hw2:=Went.new hw1.inv (below_self w) hfr (v:=.pointer none) (x:=.arr c' 0 (appT (some e) e)) (by simp) (fun _ hr=>absurd rfl hr) (fun m=>⟨⟨hu',Nat.zero_le _⟩,.inl ⟨by rw [hcnt'],rfl⟩⟩)
    refine ⟨.slice ad 0 0,w,_,hexec _ _ _ _ hv hvy (nothing ad yad ycap),hw1.trans hw2,⟨_,by rw [List.getElem?_set_self hlt],by simp⟩,ad,0,?_,by omega,fun h=>absurd rfl h⟩
    rw [hcnt']
  · have hnc':news=[]∨∃ b off cap,Value.slice yad m ycap=.slice (some ⟨b,off,none⟩) m cap∧∀ j u,news[j]? = some u→w.cell? ⟨b,off+j,none⟩=some u:=
     hnc.imp id fun ⟨b,off,cap,e,h⟩=>⟨b,off,cap,hvy▸e,fun j u hj=>(h j u hj).2⟩
    have hfd:(Builtin.firstCells j.size m (.slice yad m ycap)).run P w.drew=.ok news.toArray w.drew:=run_firstCells_any w.drew m _ news ⟨_,_,rfl⟩ (by rw [hjs];exact hnl) hnc'
    have hfo:(Builtin.firstCells j.size 0 (.slice ad 0 0)).run P w.drew=.ok ([]:List Value).toArray w.drew:=run_firstCells_any w.drew 0 _ [] ⟨_,_,rfl⟩ (by simp) (.inl rfl)
    have hrun:=run_append_new (P:=P) hd0 hj hz' w o.type hfd hfo (by omega) (by rw [hjb];exact hb1') hb2'
    have hge:=grownCap_ge w (0+m) 0 e
    have hf0:(emptyOf es ik).flat=[]:=List.eq_nil_of_length_eq_zero (by rw [Cell.flat_len hu,hcnt0];simp)
    have hgn:=grow_new hw1.inv hfr (e:=e) (es:=es) (n:=0) (m:=m) (cap:=grownCap w (0+m) 0 e) (k:=0) (T:=some e) (c':=c') (all:=[]++news) (rest:=Builtin.zeroCells z'.cells (grownCap w (0+m) 0 e-(0+m))) hu' hcnt' (Nat.zero_le _)
     (by rw [hflat',hf0];exact hnr) (by rw [List.nil_append,hnl,Nat.zero_add]) hge (by rw [size_zeroCells,hzs])
    refine ⟨_,_,_,hexec _ _ _ _ hv hvy hrun,hw1.trans hgn.1,?_⟩
    rw [hcnt']
    exact hgn.2
 · cases hD
end Go.Hp

namespace Go.Hp
open Go Go.RowKit Go.Slot
variable {P:Program} {Γ:List (Nat×List Cell)}
def kEq:Value→Value→Option Bool
 | .int k a,.int k' b=>if k=k' then some (a==b) else none
 | .string a,.string b=>some (seq a b)
 | .bool a,.bool b=>some (a==b)
 | _,_=>none
def findM:List (Value×SV)→Value→Option (Option SV)
 | [],_=>some none
 | (k',x)::r,k=>match kEq k k' with
  | some true=>some (some x)
  | some false=>findM r k
  | none=>none
def updM:List (Value×SV)→Value→SV→Option (List (Value×SV))
 | [],k,v=>some [(k,v)]
 | (k',x)::r,k,v=>match kEq k k' with
  | some true=>some ((k,v)::r)
  | some false=>(updM r k v).map ((k',x)::·)
  | none=>none
def keyOk (sh:Sh):Value→Bool
 | .int k _=>match sh with
  | .int k'=>k==k'
  | _=>false
 | .string _=>match sh with
  | .string=>true
  | _=>false
 | .bool _=>match sh with
  | .bool=>true
  | _=>false
 | _=>false
def keyV:SV→Option Value
 | .one (.dat (.raw v))=>some v
 | _=>none
theorem keyOk_desc {d:TypeDesc} {k:Value} (h:keyOk (shOf P d) k=true):(∃ q n,d=.int q∧k=.int q n)∨(∃ s,d=.string∧k=.string s)∨(∃ b,d=.bool∧k=.bool b):=by
 unfold keyOk at h
 split at h
 · rename_i q n
   split at h
   · rename_i q' hs
     have:=shOf_int hs
     subst this
     simp only [beq_iff_eq] at h
     subst h
     exact .inl ⟨_,_,rfl,rfl⟩
   · cases h
 · split at h
   · rename_i s _ hs;exact .inr (.inl ⟨_,shOf_string hs,rfl⟩)
   · cases h
 · split at h
   · rename_i b _ hs;exact .inr (.inr ⟨_,shOf_bool hs,rfl⟩)
   · cases h
 · cases h
theorem run_checkKey {kt:TypeId} {tk:TI} (htk:mkTI P kt=some tk) {k:Value} (hk:keyOk tk.sh k=true) (b:Bool) (n:Nat) (w:World):(Instr.checkKey b (n+1) kt k).run P w=.ok () w:=by
 obtain ⟨d,i,z,hd,_,_,_,_,_,_,_,hsh⟩:=(mkTI_ok htk).ex
 rw [hsh] at hk
 rcases keyOk_desc hk with ⟨q,n,rfl,rfl⟩ | ⟨s,rfl,rfl⟩ | ⟨b,rfl,rfl⟩<;>simp [Instr.checkKey,run_underlying' hd]
theorem sameNow_kEq {d:TypeDesc} {k k':Value} (h:keyOk (shOf P d) k=true):Instr.sameNow d k k'=kEq k k':=by
 rcases keyOk_desc h with ⟨q,n,rfl,rfl⟩ | ⟨s,rfl,rfl⟩ | ⟨b,rfl,rfl⟩<;>cases k'<;>first | rfl | exact congrArg some (beq_toListBytes _ _)
section
variable {η:List SB} {ρ:Nat→Value} {M:Nat→Nat→Prop} {w:World}
theorem findNow_ok {d:TypeDesc} {k:Value} (hk:keyOk (shOf P d) k=true):∀{es:List MapEntry} {l:List (Value×SV)} (i:Nat),EnR η ρ M w es l→∀{r:Option SV},findM l k=some r→
 (r=none∧Instr.findNow d k es i=some none)∨∃ x j v,r=some x∧Instr.findNow d k es i=some (some (j,v))∧SVR0 η ρ M w v x
 | [],[],i,_,r,h=>by cases h;exact .inl ⟨rfl,rfl⟩
 | e::es,(k',x)::l,i,hr,r,h=>by
  simp only [findM] at h
  have hs:Instr.sameNow d k e.key=kEq k k':=by rw [sameNow_kEq hk,hr.1.1]
  unfold Instr.findNow
  rw [hs]
  split at h
  · rename_i he;cases h;rw [he];exact .inr ⟨x,i,e.val,rfl,rfl,hr.1.2⟩
  · rename_i he;rw [he];exact findNow_ok hk (i+1) hr.2 h
  · cases h
theorem updM_ok {d:TypeDesc} {k:Value} (hk:keyOk (shOf P d) k=true) {v:Value} {x:SV} (hv:SVR0 η ρ M w v x) (clk:Nat):∀{es:List MapEntry} {l l':List (Value×SV)} (i:Nat),EnR η ρ M w es l→updM l k x=some l'→
 (Instr.findNow d k es i=some none∧EnR η ρ M w (es++[{ key:=k,val:=v,born:=clk }]) l')∨
 ∃ j u e,Instr.findNow d k es i=some (some (i+j,u))∧es[j]? = some e∧kEq k e.key=some true∧EnR η ρ M w (es.modify j fun e=>{ e with key:=k,val:=v }) l'
 | [],[],l',i,_,h=>by cases h;exact .inl ⟨rfl,⟨⟨rfl,hv⟩,trivial⟩⟩
 | e::es,(k',y)::l,l',i,hr,h=>by
  simp only [updM] at h
  have hs:Instr.sameNow d k e.key=kEq k k':=by rw [sameNow_kEq hk,hr.1.1]
  unfold Instr.findNow
  rw [hs]
  split at h
  · rename_i he
    cases h
    rw [he]
    exact .inr ⟨0,e.val,e,rfl,rfl,by rw [hr.1.1];exact he,⟨⟨rfl,hv⟩,hr.2⟩⟩
  · rename_i he
    obtain ⟨l2,h2,rfl⟩:=Option.map_eq_some_iff.1 h
    rw [he]
    rcases updM_ok hk hv clk (i+1) hr.2 h2 with ⟨h3,h4⟩ | ⟨j,u,e',h3,h4,h5,h6⟩
    · exact .inl ⟨h3,⟨hr.1,h4⟩⟩
    · exact .inr ⟨j+1,u,e',by rw [show i+(j+1)=i+1+j by omega];exact h3,by simpa using h4,h5,⟨hr.1,h6⟩⟩
  · cases h
end
theorem sameBits_kEq {d:TypeDesc} {k k':Value} (hk:keyOk (shOf P d) k=true) (h:kEq k k'=some true) (n:Nat):Instr.sameBits n k' k=true:=by
 rcases keyOk_desc hk with ⟨q,m,rfl,rfl⟩ | ⟨s,rfl,rfl⟩ | ⟨b,rfl,rfl⟩
 · cases k'<;>simp only [kEq] at h<;>first | (cases h;done) | skip
   split at h
   · rename_i e;simp at h;subst e;subst h;simp [Instr.sameBits]
   · cases h
 · cases k'<;>simp only [kEq] at h<;>first | (cases h;done) | skip
   have e:=(MapKept.bytes_beq _ _).1 ((beq_toListBytes _ _).trans (Option.some.inj h))
   subst e
   simp only [Instr.sameBits]
   exact (MapKept.bytes_beq _ _).2 rfl
 · cases k'<;>simp only [kEq] at h<;>first | (cases h;done) | skip
   simp at h;subst h;simp [Instr.sameBits]
def zeroV:Value→Option SV
 | .agg vs=>if vs.toList.all (·.oneCell') then some (.agg ((vs.toList.map zcell).map .dat)) else none
 | .tuple _=>none
 | v=>some (.one (.dat (zcell v)))
def zeroSV (P:Program) (t:TypeId):Option SV:=match P.info? t with
 | some i=>match i.zero with
  | some z=>zeroV z
  | none=>none
 | none=>none
theorem zeroSV_ok {t : TypeId} {x : SV} (h : zeroSV P t = some x) : ∃ z, (∀ w, (zeroValue t).run P w = .ok z w) ∧ ∀ (η : List SB) (ρ : Nat → Value) (M : Nat → Nat → Prop) (w : World), SVR0 η ρ M w z x := by
 unfold zeroSV at h
 split at h
 · rename_i i hi
   split at h
   · rename_i z hz
     refine ⟨z,fun w=>run_zeroValue' hi hz,fun η ρ M w=>?_⟩
     unfold zeroV at h
     split at h
     · rename_i vs
       split at h
       · rename_i hall
         cases h
         exact ⟨vs.toList,by simp,zcells_hrl (fun v hv=>(List.all_eq_true.1 hall) v hv)⟩
       · cases h
     · cases h
     · rename_i h1 h2
       cases h
       refine zcell_ok ?_
       cases z<;>first | rfl | exact absurd rfl (h1 _) | exact absurd rfl (h2 _)
   · cases h
 · cases h
theorem s_makeMap {o:Oper} {σ:List SV} {η:List SB} {T:TypeId} {d nb:Nat} (ho:o.op=.makeMap T none) (hdst:o.dst=some d) (hroom:roomB η nb=true) :
 HStep Γ P o σ η [d] [nb] [(d,.one (.mp nb))] [(nb,.map [])]:=by
 refine HStep.val hdst (fun E ρ σ' η' a w hag hah hI=>?_)
 have hfr:=hah.room (by simp) hroom
 have hlt:nb<η'.length:=(List.getElem?_eq_some_iff.1 hfr).1
 have hb:Below w.heap.size w (w.alloc (.map #[] 0)):=(Below.refl _ _).alloc (Nat.le_refl _) _
 refine ⟨.map (some w.heap.size),w.alloc (.map #[] 0),upd ρ nb (.map (some w.heap.size)),?_,Went.new hI.inv hb hfr (by simp) (fun _ _=>Nat.le_refl _) (fun m=>⟨w.heap.size,#[],0,rfl,heap_new w _,trivial⟩),?_⟩
 · simp [execOp,ho,Instr.makeMap]
 · exact ⟨⟨_,by simp [appL,hlt];rfl,by simp⟩,by rw [upd_self],rfl⟩
def lookV (ok:Bool) (r:Option SV) (zero:SV):SV:=match ok with
 | true=>match r with
  | some x=>.tup [x,.one (.dat (.raw (.bool true)))]
  | none=>.tup [zero,.one (.dat (.raw (.bool false)))]
 | false=>match r with
  | some x=>x
  | none=>zero
def mapAt (η:List SB):SV→Option (Nat×List (Value×SV))
 | .one (.mp b)=>match gB η b with
  | .map es=>some (b,es)
  | _=>none
 | _=>none
theorem s_lookup {o:Oper} {σ:List SV} {η:List SB} {T kt et:TypeId} {x y:Operand} {ok:Bool} {d b:Nat} (ho:o.op=.lookup T x y ok) (hdst:o.dst=some d) {ti tk:TI} (hti:mkTI P T=some ti) (hsh:ti.sh=.map kt et) (htk:mkTI P kt=some tk)
 {es:List (Value×SV)} (hm:mapAt η (opdS Γ σ x)=some (b,es)) {k:Value} (hkv:keyV (opdS Γ σ y)=some k) (hk:keyOk tk.sh k=true) {r:Option SV} (hr:findM es k=some r) {zero:SV} (hz:zeroSV P et=some zero) :
 HStep Γ P o σ η (d::(orr x++orr y)) [b] [(d,lookV ok r zero)] []:=by
 refine HStep.pure hdst (fun E ρ σ' η' a w hag hah hI=>?_)
 have hx:=hI.opd x
 have hy:=hI.opd y
 rw [hag.opd (fun t ht=>by simp [ht])] at hx hy
 unfold mapAt at hm
 split at hm
 case h_2=>cases hm
 rename_i b' hxe
 split at hm
 case h_2=>cases hm
 rename_i es' hb
 cases hm
 rw [hxe] at hx
 have hb':gB η' b=.map es:=by rw [hah.gB (by simp)];exact hb
 obtain ⟨bb,ents,clk,he,hh,hen⟩:=hI.sbr hb' (by simp)
 have hkey:a.eval y=k:=by
  unfold keyV at hkv
  split at hkv
  · rename_i v hye;cases hkv;rw [hye] at hy;exact RdC.raw_inv hy
  · cases hkv
 obtain ⟨dd,i,z,hd,hi,hz',_,_,_,_,_,hsh'⟩:=(mkTI_ok hti).ex
 have hmap:=shOf_map (hsh'.symm.trans hsh)
 subst hmap
 obtain ⟨dk,ik,zk,hdk,_,_,_,_,_,_,_,hshk⟩:=(mkTI_ok htk).ex
 have hmv:a.eval x=.map (some bb):=by rw [hx.2.1,he]
 obtain ⟨zv,hzrun,hzr⟩:=zeroSV_ok hz
 have hck:=run_checkKey htk hk ents.isEmpty 9999 w
 have hk':keyOk (shOf P dk) k=true:=by rw [←hshk];exact hk
 have hrun:∀ fo,Instr.findNow dk k ents.toList 0=some fo→(Instr.lookup T (.map (some bb)) k ok).run P w=.ok (if ok then .tuple #[(fo.map (·.2)).getD zv,.bool fo.isSome] else (fo.map (·.2)).getD zv) w:=fun fo hfo=>by
  cases fo with
  | none=>cases ok<;>simp [Instr.lookup,run_underlying' hd,getObj,Sem.run,hh,hck,Instr.findKey,run_underlying' hdk,hfo,hzrun]
  | some p=>cases ok<;>simp [Instr.lookup,run_underlying' hd,getObj,Sem.run,hh,hck,Instr.findKey,run_underlying' hdk,hfo]
 rcases findNow_ok hk' 0 hen hr with ⟨rfl,hf⟩ | ⟨xx,j,v,rfl,hf,hv⟩
 · refine ⟨_,by simp only [execOp,ho,hmv,hkey,Sem.run_bind,hrun _ hf];rfl,?_⟩
   cases ok
   · exact SVR.of0 (hzr _ _ _ _)
   · exact ⟨[zv,.bool false],rfl,hzr _ _ _ _,RdC.raw rfl,trivial⟩
 · refine ⟨_,by simp only [execOp,ho,hmv,hkey,Sem.run_bind,hrun _ hf];rfl,?_⟩
   cases ok
   · exact SVR.of0 hv
   · exact ⟨[v,.bool true],rfl,hv,RdC.raw rfl,trivial⟩
def noTup:SV→Bool
 | .tup _=>false
 | _=>true
theorem SVR.to0 {η:List SB} {ρ:Nat→Value} {M:Nat→Nat→Prop} {w:World} {v:Value} {x:SV} (hn:noTup x=true) (h:SVR η ρ M w v x):SVR0 η ρ M w v x:=by
 cases x<;>first | exact h | cases hn
theorem s_mapUpdate {o:Oper} {σ:List SV} {η:List SB} {T kt et:TypeId} {x y z:Operand} {b:Nat} (ho:o.op=.mapUpdate T x y z∨o.op=.insert T x y z) (hdst:o.dst=none) {ti tk:TI} (hti:mkTI P T=some ti) (hsh:ti.sh=.map kt et) (htk:mkTI P kt=some tk)
 {es es':List (Value×SV)} (hm:mapAt η (opdS Γ σ x)=some (b,es)) {k:Value} (hkv:keyV (opdS Γ σ y)=some k) (hk:keyOk tk.sh k=true) (hn:noTup (opdS Γ σ z)=true) (hu:updM es k (opdS Γ σ z)=some es') :
 HStep Γ P o σ η (orr x++orr y++orr z) [b] [] [(b,.map es')]:=by
 refine HStep.skip hdst (fun E ρ σ' η' a w hag hah hI=>?_)
 have hx:=hI.opd x
 have hy:=hI.opd y
 have hz:=hI.opd z
 rw [hag.opd (fun t ht=>by simp [ht])] at hx hy hz
 unfold mapAt at hm
 split at hm
 case h_2=>cases hm
 rename_i b' hxe
 split at hm
 case h_2=>cases hm
 rename_i es0 hb
 cases hm
 rw [hxe] at hx
 have hb':gB η' b=.map es:=by rw [hah.gB (by simp)];exact hb
 obtain ⟨bb,ents,clk,he,hh,hen⟩:=hI.sbr hb' (by simp)
 have hkey:a.eval y=k:=by
  unfold keyV at hkv
  split at hkv
  · rename_i v hye;cases hkv;rw [hye] at hy;exact RdC.raw_inv hy
  · cases hkv
 obtain ⟨dd,i,zz,hd,hi,hz',_,_,_,_,_,hsh'⟩:=(mkTI_ok hti).ex
 have hmap:=shOf_map (hsh'.symm.trans hsh)
 subst hmap
 obtain ⟨dk,ik,zk,hdk,_,_,_,_,_,_,_,hshk⟩:=(mkTI_ok htk).ex
 have hmv:a.eval x=.map (some bb):=by rw [hx.2.1,he]
 have hck:=run_checkKey htk hk false 9999 w
 have hk':keyOk (shOf P dk) k=true:=by rw [←hshk];exact hk
 have hbk:bk (ρ b)=bb:=by rw [he];rfl
 have fin:∀ ob:Obj,(∃ en' clk',ob=.map en' clk'∧EnR η' ρ (MX E.Mo ρ η') w en'.toList es')→(Instr.mapUpdate T (.map (some bb)) k (a.eval z)).run P w=.ok () { w with heap:=w.heap.setIfInBounds bb ob }→
  ∃ w' ρ',(execOp a.eval o).run P w=.ok .skip w'∧Went Γ E.Mo ρ η' w ρ' (appL [(b,.map es')] η') w':=fun ob hob hrun=>by
  obtain ⟨en',clk',rfl,hen'⟩:=hob
  have hlt:bb<w.heap.size:=(Array.getElem?_eq_some_iff.1 hh).1
  refine ⟨{ w with heap:=w.heap.setIfInBounds bb (.map en' clk') },ρ,?_,Went.write hI.inv (gB_some hb' (by simp)) rfl (by rw [he];simp [real]) rfl (fun o=>Iff.rfl) (by simp) rfl rfl rfl (fun kk hkk=>?_) (fun i arr T fz hi'=>?_) (fun oo u _ hc=>?_) (fun m=>⟨bb,en',clk',he,by simp [hlt],hen'.mv m⟩)⟩
  · rcases ho with ho | ho<;>simp [execOp,ho,hmv,hkey,hrun]
  · rw [hbk] at hkk
    simp only [Array.getElem?_setIfInBounds_ne (Ne.symm hkk)]
  · by_cases e:i=bb
    · subst e;rw [hh] at hi';cases hi'
    · exact ⟨arr,T,fz,by simp only [Array.getElem?_setIfInBounds_ne (Ne.symm e)];exact hi',Nat.le_refl _⟩
  · rw [hbk] at hc
    simp [World.cell?,hh] at hc
 rcases updM_ok hk' (hz.to0 hn) clk 0 hen hu with ⟨hf,hen'⟩ | ⟨j,u,e,hf,hj,hq,hen'⟩
 · refine fin (.map (ents.push { key:=k,val:=a.eval z,born:=clk }) (clk+1)) ⟨_,_,rfl,by simpa using hen'⟩ ?_
   simp [Instr.mapUpdate,run_underlying' hd,getObj,setObj,Sem.run,hh,hck,Instr.findKey,run_underlying' hdk,hf]
 · refine fin (.map (ents.modify j fun e=>{ e with key:=k,val:=a.eval z }) clk) ⟨_,_,rfl,by simpa using hen'⟩ ?_
   rw [Nat.zero_add] at hf
   have hj':ents[j]? = some e:=by simpa using hj
   have hsb:=sameBits_kEq hk' hq 10000
   simp [Instr.mapUpdate,run_underlying' hd,getObj,setObj,Sem.run,hh,hck,Instr.findKey,run_underlying' hdk,hf,Instr.keyThatStays,hj',hsb]
end Go.Hp

namespace Go.Hp
open Go Go.RowKit Go.Slot
variable {P:Program} {Γ:List (Nat×List Cell)}
def CallsD (Γ:List (Nat×List Cell)) (P:Program) (f:FuncId) (args:List AV) (res:AV):Prop:=
 Callable P f∧∀(M:Nat→Nat→Prop) (w:World) (vs:List Value),Bounded M w→GlobOk Γ M w→RdBL M w vs args→Calls P f vs.toArray w (Back M w res)
theorem CallsTo.d {f:FuncId} {args:List AV} {res:AV} (h:CallsTo P f args res):CallsD Γ P f args res:=⟨h.1,fun M w vs hb _ hr=>h.2 M w vs hb hr⟩
def BackH (Γ:List (Nat×List Cell)) (Mo:Nat→Nat→Prop) (ρ:Nat→Value) (η:List SB) (w:World) (η':List SB) (res:SV):Ending→World→Prop:=fun e w'=>
 ∃ v ρ',e=.returned v∧Went Γ Mo ρ η w ρ' η' w'∧SVR η' ρ' (MX Mo ρ' η') w' v res
def CallsH (Γ:List (Nat×List Cell)) (P:Program) (f:FuncId) (η:List SB) (args:List SV) (η':List SB) (res:SV):Prop:=
 Callable P f∧∀(Mo:Nat→Nat→Prop) (ρ:Nat→Value) (w:World) (vs:List Value),HInv Γ Mo ρ η w→SRL η ρ (MX Mo ρ η) w vs args→Calls P f vs.toArray w (BackH Γ Mo ρ η w η' res)
def FnSpecD (Γ:List (Nat×List Cell)) (P:Program) (F:List AV→AV→Prop) (M:Nat→Nat→Prop) (w:World) (v:Value):Prop:=
 ∃ f caps,v=.func (.func f) #[] caps∧Callable P f∧∀ args res vs,F args res→Bounded M w→GlobOk Γ M w→RdBL M w vs args→Calls P f (vs.toArray++caps) w (Back M w res)
def argD (η:List SB):SV→Option (AV×List Nat)
 | .one h=>(toDat η h).map fun p=>(.one p.1,p.2)
 | .agg hs=>(toDatL η hs).map fun p=>(.agg p.1,p.2)
 | .elt cs=>some (.elt cs,[])
 | .any=>some (.any,[])
 | _=>none
def argsD (η:List SB):List SV→Option (List AV×List Nat)
 | []=>some ([],[])
 | x::r=>match argD η x,argsD η r with
  | some (a,bs),some (l,bs')=>some (a::l,bs++bs')
  | _,_=>none
def argsH (Γ:List (Nat×List Cell)) (σ:List SV):List Operand→List SV
 | []=>[]
 | x::r=>opdS Γ σ x::argsH Γ σ r
theorem argD_arr {η:List SB} {x:SV} {a:AV} {bs:List Nat} (h:argD η x=some (a,bs)):∀ b∈bs,isArr (gB η b)=true:=by
 unfold argD at h
 split at h
 · obtain ⟨p,hp,e⟩:=Option.map_eq_some_iff.1 h;cases e;exact toDat_arr hp
 · obtain ⟨p,hp,e⟩:=Option.map_eq_some_iff.1 h;cases e;exact toDatL_arr hp
 · cases h;intro b hb;cases hb
 · cases h;intro b hb;cases hb
 · cases h
theorem argsD_arr {η:List SB}:∀{l:List SV} {r:List AV} {bs:List Nat},argsD η l=some (r,bs)→∀ b∈bs,isArr (gB η b)=true
 | [],r,bs,h=>by cases h;intro b hb;cases hb
 | x::l,r,bs,h=>by
  simp only [argsD] at h
  split at h
  · rename_i a bs1 r2 bs2 h1 h2
    cases h
    intro b hb
    rcases List.mem_append.1 hb with hb | hb
    · exact argD_arr h1 b hb
    · exact argsD_arr h2 b hb
  · cases h
theorem argD_ok {Mo:Nat→Nat→Prop} {ρ:Nat→Value} {η η':List SB} {w:World} (hI:HInv Γ Mo ρ η' w) {x:SV} {a:AV} {bs:List Nat} (h:argD η x=some (a,bs)) (hf:∀ b∈bs,gB η' b=frzB (gB η b)) {v:Value}
 (hv:SVR0 η' ρ (MX Mo ρ η') w v x):RdB (MX Mo ρ η') w v a:=by
 unfold argD at h
 split at h
 · obtain ⟨p,hp,e⟩:=Option.map_eq_some_iff.1 h;cases e;exact toDat_ok hI hp hf hv
 · obtain ⟨p,hp,e⟩:=Option.map_eq_some_iff.1 h;cases e;obtain ⟨vs,rfl,hr⟩:=hv;exact ⟨vs,rfl,toDatL_ok hI hp hf hr⟩
 · cases h;exact hv
 · cases h;trivial
 · cases h
theorem argsD_ok {Mo:Nat→Nat→Prop} {ρ:Nat→Value} {η η':List SB} {w:World} (hI:HInv Γ Mo ρ η' w):∀{l:List SV} {r:List AV} {bs:List Nat},argsD η l=some (r,bs)→(∀ b∈bs,gB η' b=frzB (gB η b))→∀{vs:List Value},
 SRL η' ρ (MX Mo ρ η') w vs l→RdBL (MX Mo ρ η') w vs r
 | [],r,bs,h,_,vs,hv=>by
  cases h
  cases vs with
  | nil=>trivial
  | cons _ _=>exact hv.elim
 | x::l,r,bs,h,hf,vs,hv=>by
  simp only [argsD] at h
  split at h
  · rename_i a bs1 r2 bs2 h1 h2
    cases h
    cases vs with
    | nil=>exact hv.elim
    | cons v vs=>exact ⟨argD_ok hI h1 (fun b hb=>hf b (by simp [hb])) hv.1,argsD_ok hI h2 (fun b hb=>hf b (by simp [hb])) hv.2⟩
  · cases h
theorem argD_congr {η η':List SB} {x:SV} {a:AV} {bs:List Nat} (h:argD η x=some (a,bs)) (ha:∀ b∈bs,gB η' b=gB η b):argD η' x=some (a,bs):=by
 unfold argD at h ⊢
 split at h
 · obtain ⟨p,hp,e⟩:=Option.map_eq_some_iff.1 h;cases e;rw [toDat_congr hp ha];rfl
 · obtain ⟨p,hp,e⟩:=Option.map_eq_some_iff.1 h;cases e;rw [toDatL_congr hp ha];rfl
 · exact h
 · exact h
 · cases h
theorem argsD_congr {η η':List SB}:∀{l:List SV} {r:List AV} {bs:List Nat},argsD η l=some (r,bs)→(∀ b∈bs,gB η' b=gB η b)→argsD η' l=some (r,bs)
 | [],r,bs,h,_=>h
 | x::l,r,bs,h,ha=>by
  simp only [argsD] at h ⊢
  split at h
  · rename_i a bs1 r2 bs2 h1 h2
    cases h
    rw [argD_congr h1 (fun b hb=>ha b (by simp [hb])),argsD_congr h2 (fun b hb=>ha b (by simp [hb]))]
  · cases h
theorem argsH_congr {rd:List Nat} {σ σ':List SV} (hag:agS rd σ σ'):∀(xs:List Operand),(∀ t∈orrL xs,t∈rd)→argsH Γ σ' xs=argsH Γ σ xs
 | [],_=>rfl
 | x::xs,h=>by
  simp only [argsH]
  rw [hag.opd (fun t ht=>h t (by simp [orrL,ht])),argsH_congr hag xs (fun t ht=>h t (by simp [orrL,ht]))]
def noTups (l:List SV):Bool:=l.all noTup
theorem argsH_ok {E:HEnv} {ρ:Nat→Value} {σ:List SV} {η:List SB} {a:Act} {w:World} (hI:RI Γ E ρ σ η a w):∀(xs:List Operand),noTups (argsH Γ σ xs)=true→SRL η ρ (MX E.Mo ρ η) w (xs.map a.eval) (argsH Γ σ xs)
 | [],_=>trivial
 | x::xs,h=>by
  simp only [argsH,noTups,List.all_cons,Bool.and_eq_true] at h
  exact ⟨(hI.opd x).to0 h.1,argsH_ok hI xs h.2⟩
theorem argsD_noTups {η:List SB}:∀{l:List SV} {r:List AV} {bs:List Nat},argsD η l=some (r,bs)→noTups l=true
 | [],r,bs,h=>rfl
 | x::l,r,bs,h=>by
  simp only [argsD] at h
  split at h
  · rename_i a bs1 r2 bs2 h1 h2
    simp only [noTups,List.all_cons,Bool.and_eq_true]
    refine ⟨?_,argsD_noTups h2⟩
    cases x<;>first | rfl | cases h1
  · cases h
def fromAV:AV→Option SV
 | .one c=>some (.one (.dat c))
 | .agg cs=>some (.agg (cs.map .dat))
 | .elt cs=>some (.elt cs)
 | .any=>some .any
 | _=>none
def fromL:List AV→Option (List SV)
 | []=>some []
 | a::r=>match fromAV a,fromL r with
  | some x,some l=>some (x::l)
  | _,_=>none
def resS (nb:Nat):AV→Option (SV×Option SB)
 | .tup l=>(fromL l).map fun l=>(.tup l,none)
 | .arr [] c none=>some (.one (.sl nb c.esz 0 c.cnt),some (.arr c 0 none))
 | a=>(fromAV a).map fun x=>(x,none)
theorem fromAV_ok {η:List SB} {ρ:Nat→Value} {M:Nat→Nat→Prop} {w:World} {v:Value} {a:AV} {x:SV} (h:fromAV a=some x) (hv:RdB M w v a):SVR0 η ρ M w v x:=by
 unfold fromAV at h
 split at h
 · cases h;exact hv
 · cases h;obtain ⟨vs,rfl,hr⟩:=hv;exact ⟨vs,rfl,RdD.hrl hr⟩
 · cases h;exact hv
 · cases h;trivial
 · cases h
theorem fromL_ok {η:List SB} {ρ:Nat→Value} {M:Nat→Nat→Prop} {w:World}:∀{l:List AV} {r:List SV} {vs:List Value},fromL l=some r→RdBL M w vs l→SRL η ρ M w vs r
 | [],r,vs,h,hv=>by
  cases h
  cases vs with
  | nil=>trivial
  | cons _ _=>exact hv.elim
 | a::l,r,vs,h,hv=>by
  simp only [fromL] at h
  split at h
  · rename_i x l' h1 h2
    cases h
    cases vs with
    | nil=>exact hv.elim
    | cons v vs=>exact ⟨fromAV_ok h1 hv.1,fromL_ok h2 hv.2⟩
  · cases h
theorem back_went {Mo:Nat→Nat→Prop} {ρ:Nat→Value} {η:List SB} {w w':World} (h:HInv Γ Mo ρ η w) {e:Ending} {res:AV} (hb:Back (MX Mo ρ η) w res e w') {nb:Nat} {x:SV} {ob:Option SB} (hr:resS nb res=some (x,ob)) (hroom:ob≠none→η[nb]? = some .fresh) :
 ∃ v ρ',e=.returned v∧Went Γ Mo ρ η w ρ' (appL (oB nb ob) η) w'∧SVR (appL (oB nb ob) η) ρ' (MX Mo ρ' (appL (oB nb ob) η)) w' v x:=by
 obtain ⟨v,rfl,hbl,hrd,hfr⟩:=hb
 have hw:=Went.below h hbl
 unfold resS at hr
 split at hr
 · rename_i l
   obtain ⟨l',hl,he⟩:=Option.map_eq_some_iff.1 hr
   cases he
   obtain ⟨vs,rfl,hv⟩:=hrd
   exact ⟨_,ρ,rfl,hw,vs,rfl,fromL_ok hl hv⟩
 · rename_i c
   cases hr
   obtain ⟨_,_,how⟩:=hrd
   obtain ⟨b,T,vs,q,cap,rfl,hbk,hr,hu,hcap,hsz,hM⟩:=how
   have hf:=hroom (by simp)
   have hlt:nb<η.length:=(List.getElem?_eq_some_iff.1 hf).1
   have hge:w.heap.size≤b:=hfr rfl
   refine ⟨_,upd ρ nb (.pointer (some ⟨b,0,none⟩)),rfl,Went.new h hbl hf (by simp) (fun _ _=>hge) (fun m=>⟨⟨hu,Nat.zero_le _⟩,.inr ⟨b,vs,q,T,rfl,hbk,hr.keep (Keeps.shrink w' ?_),by simp⟩⟩),?_⟩
   · rintro b' o' (hm | ⟨i,y,hi,hy,hre,e⟩)
     · exact .inl (.inl hm)
     · rcases set_cases hi with ⟨rfl,rfl⟩ | ⟨hn,hi⟩
       · rw [upd_self] at e;exact .inr e.symm
       · rw [upd_ne hn] at hre e;exact .inl (.inr ⟨i,y,hi,hy,hre,e⟩)
   · refine ⟨⟨_,by simp only [oB,appL];rw [List.getElem?_set_self hlt],by simp⟩,_,cap,rfl,hcap,fun _=>⟨by rw [upd_self];simp [real],by rw [upd_self];simp [bk,blk],_,T,_,by rw [upd_self];exact hbk,?_⟩⟩
     simpa using hsz
 · rename_i a h1 h2
   obtain ⟨x',hx,he⟩:=Option.map_eq_some_iff.1 hr
   cases he
   refine ⟨v,ρ,rfl,hw,SVR.of0 (fromAV_ok hx ?_)⟩
   unfold fromAV at hx
   split at hx<;>first | exact hrd | cases hx
def calleeH (_Γ:List (Nat×List Cell)) (σ:List SV) (η:List SB):Operand→Option (FuncId×List SV×List Nat×List Nat)
 | .func f=>some (f,[],[],[])
 | .tmp t=>match gtS σ t with
  | .one (.dat (.raw v))=>(plainFn v).map fun f=>(f,[],[t],[])
  | .one (.fnr b)=>match gB η b with
   | .clo f caps=>some (f,caps,[t],[b])
   | _=>none
  | _=>none
 | _=>none
theorem exec_callv {o:Oper} {x:Operand} {ev:Operand→Value} {xs:Array Operand} {ts:Array TypeId} {f:FuncId} {cv:Array Value} (ho:o.op=.call { callee:=.value x,args:=xs,argTypes:=ts }) (hx:ev x=.func (.func f) #[] cv) (hc:Callable P f) (w:World) :
 (execOp ev o).run P w=.ok (.enter f (xs.map ev++cv)) w:=by
 unfold execOp
 rw [ho]
 simp [resolve,Deferred.ofValue,hx,invoke,run_callFunc hc]
theorem callee_ok {E:HEnv} {ρ:Nat→Value} {σ:List SV} {η:List SB} {a:Act} {w:World} (hI:RI Γ E ρ σ η a w) {x:Operand} {f:FuncId} {caps:List SV} {rd rh:List Nat} (h:calleeH Γ σ η x=some (f,caps,rd,rh)) :
 ∃ cv:List Value,a.eval x=.func (.func f) #[] cv.toArray∧SRL η ρ (MX E.Mo ρ η) w cv caps:=by
 unfold calleeH at h
 split at h
 · cases h;exact ⟨[],rfl,trivial⟩
 · rename_i t
   have ht:=hI.gt t
   split at h
   · rename_i v hv
     obtain ⟨f',hf,he⟩:=Option.map_eq_some_iff.1 h
     cases he
     rw [hv] at ht
     have e:a.tmps.getD t Go.undef=v:=RdC.raw_inv ht
     exact ⟨[],by show a.tmps.getD t Go.undef=_;rw [e,plainFn_eq hf],trivial⟩
   · rename_i b hb
     split at h
     · rename_i f' caps' hg
       cases h
       rw [hb] at ht
       obtain ⟨cv,e,hr⟩:=hI.sbr hg (by simp)
       exact ⟨cv,by show a.tmps.getD t Go.undef=_;rw [ht.2.1,e],hr⟩
     · cases h
   · cases h
 · cases h
theorem callee_congr {σ σ' : List SV} {η η' : List SB} {x : Operand} {f : FuncId} {caps : List SV} {rd rh : List Nat} (h : calleeH Γ σ η x = some (f, caps, rd, rh)) (hs : ∀ t ∈ rd, gtS σ' t = gtS σ t) (hb : ∀ b ∈ rh, gB η' b = gB η b) : calleeH Γ σ' η' x = some (f, caps, rd, rh) := by
 unfold calleeH at h ⊢
 split at h
 · exact h
 · rename_i t
   have e:gtS σ' t=gtS σ t:=by
    split at h
    · obtain ⟨f',hf,he⟩:=Option.map_eq_some_iff.1 h;cases he;exact hs t (by simp)
    · split at h
      · cases h;exact hs t (by simp)
      · cases h
    · cases h
   simp only [e]
   split at h
   · rename_i v hv;exact h
   · rename_i b hbb
     split at h
     · rename_i f' caps' hg
       cases h
       rw [hb b (by simp),hg]
     · cases h
   · cases h
 · cases h
def dstEff (o:Oper) (x:SV):List (Nat×SV):=match o.dst with
 | some d=>[(d,x)]
 | none=>[]
theorem RI.dst {E:HEnv} {ρ:Nat→Value} {σ:List SV} {η:List SB} {a:Act} {w:World} (h:RI Γ E ρ σ η a w) {o:Oper} {v:Value} {x:SV} (hx:SVR η ρ (MX E.Mo ρ η) w v x):RI Γ E ρ (appL (dstEff o x) σ) η (a.put o.dst v) w:=by
 unfold dstEff
 cases o.dst with
 | none=>exact h
 | some d=>exact h.put hx
theorem s_callD {o:Oper} {σ:List SV} {η:List SB} {x:Operand} {xs:List Operand} {ts:Array TypeId} {nb:Nat} (ho:o.op=.call { callee:=.value x,args:=xs.toArray,argTypes:=ts }) {f:FuncId} {caps:List SV} {rd rh:List Nat}
 (hc:calleeH Γ σ η x=some (f,caps,rd,rh)) {l:List AV} {bs:List Nat} (ha:argsD η (argsH Γ σ xs++caps)=some (l,bs)) {res:AV} (hcall:CallsD Γ P f l res) {y:SV} {ob:Option SB} (hres:resS nb res=some (y,ob)) (hroom:roomO η nb ob=true) :
 HStep Γ P o σ η (dstRd o++rd++orrL xs) (oN nb ob++rh++bs) (dstEff o y) (frzE η bs++oB nb ob):=by
 intro E ρ σ' η' a w hag hah hI K Q hK
 have hc':=callee_congr hc (fun t ht=>hag.2 t (by simp [ht])) (fun b hb=>hah.gB (by simp [hb]))
 have hargs:=argsH_congr (Γ:=Γ) hag xs (fun t ht=>by simp [ht])
 have hgb:∀ b∈bs,gB η' b=gB η b:=fun b hb=>hah.gB (by simp [hb])
 have ha':=argsD_congr ha hgb
 have hnt:=argsD_noTups ha'
 have hnt1:noTups (argsH Γ σ' xs)=true:=by
  rw [hargs]
  unfold noTups at hnt ⊢
  rw [List.all_append,Bool.and_eq_true] at hnt
  exact hnt.1
 obtain ⟨cv,hcv,hcr⟩:=callee_ok hI hc'
 have hsr:=(argsH_ok hI xs hnt1).append hcr
 rw [hargs] at hsr
 have harr:=argsD_arr ha'
 obtain ⟨hw1,_,hfz⟩:=Went.frz bs η' hI.inv rfl harr (fun _=>.inl rfl)
 have hrb:=argsD_ok hw1.inv ha' hfz (hsr.mv hw1.mv)
 have hcalls:=hcall.2 _ w _ (fun b o hm=>MX_lt hw1.inv hm) hw1.inv.glob hrb
 unfold Oper.wp
 rw [exec_callv ho hcv hcall.1 w]
 show Calls P f _ w _
 have e1:xs.toArray.map a.eval++cv.toArray=(xs.map a.eval++cv).toArray:=by simp
 rw [e1]
 refine hcalls.mono ?_
 intro e w' hb
 obtain ⟨v,ρ',rfl,hw2,hv⟩:=back_went hw1.inv hb hres (nb:=nb) (fun hne=>by
  cases ob with
  | none=>exact absurd rfl hne
  | some z=>exact frz_fresh harr (hah.room (show nb∈oN nb (some z)++rh++bs by simp [oN]) hroom))
 refine hK _ _ ρ' ?_
 rw [←frzE_congr hgb,appL_append]
 exact ((hI.go hw1).go hw2).dst hv
theorem s_callF {o:Oper} {σ:List SV} {η:List SB} {t:Nat} {xs:List Operand} {ts:Array TypeId} {nb:Nat} (ho:o.op=.call { callee:=.value (.tmp t),args:=xs.toArray,argTypes:=ts }) {F:List AV→AV→Prop} (ht:gtS σ t=.one (.dat (.fnp (FnSpecD Γ P F))))
 {l:List AV} {bs:List Nat} (ha:argsD η (argsH Γ σ xs)=some (l,bs)) {res:AV} (hcall:F l res) {y:SV} {ob:Option SB} (hres:resS nb res=some (y,ob)) (hroom:roomO η nb ob=true) :
 HStep Γ P o σ η (dstRd o++t::orrL xs) (oN nb ob++bs) (dstEff o y) (frzE η bs++oB nb ob):=by
 intro E ρ σ' η' a w hag hah hI K Q hK
 have hargs:=argsH_congr (Γ:=Γ) hag xs (fun t ht=>by simp [ht])
 have hgb:∀ b∈bs,gB η' b=gB η b:=fun b hb=>hah.gB (by simp [hb])
 have ha':=argsD_congr ha hgb
 have hnt:=argsD_noTups ha'
 have hsr:=argsH_ok hI xs (by rw [hargs];exact hnt)
 rw [hargs] at hsr
 have harr:=argsD_arr ha'
 obtain ⟨hw1,_,hfz⟩:=Went.frz bs η' hI.inv rfl harr (fun _=>.inl rfl)
 have hrb:=argsD_ok hw1.inv ha' hfz (hsr.mv hw1.mv)
 have hf:=(hI.go hw1).gt t
 rw [hag.2 t (by simp),ht] at hf
 have hf:RdC _ w (a.tmps.getD t Go.undef) (.fnp (FnSpecD Γ P F)):=hf
 generalize hv:a.tmps.getD t Go.undef=v at hf
 cases hf with
 | fnp h1 hp=>
  obtain ⟨f,caps,rfl,hcl,hspec⟩:=hp _ w (fun _ _ _ h1 h2=>⟨h1,h2⟩)
  have hcalls:=hspec l res _ hcall (fun b o hm=>MX_lt hw1.inv hm) hw1.inv.glob hrb
  unfold Oper.wp
  rw [exec_callv (x:=.tmp t) ho hv hcl w]
  show Calls P f _ w _
  have e1:xs.toArray.map a.eval++caps=(xs.map a.eval).toArray++caps:=by simp
  rw [e1]
  refine hcalls.mono ?_
  intro e w' hb
  obtain ⟨v,ρ',rfl,hw2,hv⟩:=back_went hw1.inv hb hres (nb:=nb) (fun hne=>by
   cases ob with
   | none=>exact absurd rfl hne
   | some z=>exact frz_fresh harr (hah.room (show nb∈oN nb (some z)++bs by simp [oN]) hroom))
  refine hK _ _ ρ' ?_
  rw [←frzE_congr hgb,appL_append]
  exact ((hI.go hw1).go hw2).dst hv
def PStep (Γ:List (Nat×List Cell)) (P:Program) (o:Oper) (σ:List SV) (η:List SB) (σ2:List SV) (η2:List SB):Prop:=
 ∀(E:HEnv) (ρ:Nat→Value) (a:Act) (w:World),RI Γ E ρ σ η a w→∀(K:Act→World→Prop) (Q:Exit→Act→World→Prop),
  (∀ a' w' ρ',RI Γ E ρ' σ2 η2 a' w'→K a' w')→o.wp P a w K Q
theorem HStep.p {o:Oper} {σ:List SV} {η:List SB} {rd rh:List Nat} {eff:List (Nat×SV)} {heff:List (Nat×SB)} (h:HStep Γ P o σ η rd rh eff heff):PStep Γ P o σ η (appL eff σ) (appL heff η):=
 fun E ρ a w hI K Q hK=>h E ρ σ η a w ⟨rfl,fun _ _=>rfl⟩ ⟨rfl,fun _ _=>rfl⟩ hI K Q hK
theorem HStep.px {o:Oper} {σ:List SV} {η:List SB} {rd rh:List Nat} {eff:List (Nat×SV)} {heff:List (Nat×SB)} (h:HStep Γ P o σ (η++[.fresh]) rd rh eff heff):PStep Γ P o σ η (appL eff σ) (appL heff (η++[.fresh])):=
 fun E ρ a w hI K Q hK=>h.p E ρ a w (hI.go (Went.extend hI.inv 1)) K Q hK
theorem p_callH {o:Oper} {σ:List SV} {η:List SB} {x:Operand} {xs:List Operand} {ts:Array TypeId} (ho:o.op=.call { callee:=.value x,args:=xs.toArray,argTypes:=ts }) {f:FuncId} {caps:List SV} {rd rh:List Nat}
 (hc:calleeH Γ σ η x=some (f,caps,rd,rh)) (hnt:noTups (argsH Γ σ xs)=true) {η':List SB} {res:SV} (hcall:CallsH Γ P f η (argsH Γ σ xs++caps) η' res) :
 PStep Γ P o σ η (appL (dstEff o res) σ) η':=by
 intro E ρ a w hI K Q hK
 obtain ⟨cv,hcv,hcr⟩:=callee_ok hI hc
 have hsr:=(argsH_ok hI xs hnt).append hcr
 have hcalls:=hcall.2 _ ρ w _ hI.inv hsr
 unfold Oper.wp
 rw [exec_callv ho hcv hcall.1 w]
 show Calls P f _ w _
 have e1:xs.toArray.map a.eval++cv.toArray=(xs.map a.eval++cv).toArray:=by simp
 rw [e1]
 refine hcalls.mono ?_
 rintro e w' ⟨v,ρ',rfl,hw,hv⟩
 exact hK _ _ ρ' ((hI.go hw).dst hv)
theorem s_callH {o:Oper} {σ:List SV} {η:List SB} {x:Operand} {xs:List Operand} {ts:Array TypeId} (ho:o.op=.call { callee:=.value x,args:=xs.toArray,argTypes:=ts }) {f:FuncId} {caps:List SV} {rd rh:List Nat}
 (hc:calleeH Γ σ η x=some (f,caps,rd,rh)) (hnt:noTups (argsH Γ σ xs)=true) {res:SV} {heff:List (Nat×SB)} (hcall:CallsH Γ P f η (argsH Γ σ xs++caps) (appL heff η) res) :
 HStep Γ P o σ η (dstRd o++rd++orrL xs) (List.range η.length) (dstEff o res) heff:=by
 intro E ρ σ' η' a w hag hah hI K Q hK
 have hη:η'=η:=by
  apply List.ext_getElem?
  intro i
  by_cases hi:i<η.length
  · exact hah.2 i (by simpa using hi)
  · rw [List.getElem?_eq_none (by rw [hah.1];omega),List.getElem?_eq_none (by omega)]
 subst hη
 have hc':=callee_congr hc (fun t ht=>hag.2 t (by simp [ht])) (fun b _=>rfl)
 have hargs:=argsH_congr (Γ:=Γ) hag xs (fun t ht=>by simp [ht])
 have:=p_callH (o:=o) (σ:=σ') (η:=η') ho hc' (by rw [hargs];exact hnt) (by rw [hargs];exact hcall)
 exact this E ρ a w hI K Q hK
theorem s_clo {o:Oper} {σ:List SV} {η:List SB} {f:FuncId} {xs:List Operand} {d nb:Nat} (ho:o.op=.makeFunc (.func f) #[] xs.toArray) (hdst:o.dst=some d) (hnt:noTups (argsH Γ σ xs)=true) (hroom:roomB η nb=true) :
 HStep Γ P o σ η (d::orrL xs) [nb] [(d,.one (.fnr nb))] [(nb,.clo f (argsH Γ σ xs))]:=by
 refine HStep.val hdst (fun E ρ σ' η' a w hag hah hI=>?_)
 have hargs:=argsH_congr (Γ:=Γ) hag xs (fun t ht=>by simp [ht])
 have hsr:=argsH_ok hI xs (by rw [hargs];exact hnt)
 rw [hargs] at hsr
 have hfr:=hah.room (by simp) hroom
 have hlt:nb<η'.length:=(List.getElem?_eq_some_iff.1 hfr).1
 refine ⟨.func (.func f) #[] (xs.map a.eval).toArray,w,upd ρ nb (.func (.func f) #[] (xs.map a.eval).toArray),by simp [execOp,ho,Instr.makeFunc],Went.new hI.inv (below_self w) hfr (by simp) (fun h=>by cases h) (fun m=>⟨_,rfl,hsr.mv m⟩),?_⟩
 exact ⟨⟨_,by simp [appL,hlt];rfl,by simp⟩,by rw [upd_self],rfl⟩
theorem s_mkF {o:Oper} {σ:List SV} {η:List SB} {f:FuncId} {xs:List Operand} {d:Nat} (ho:o.op=.makeFunc (.func f) #[] xs.toArray) (hdst:o.dst=some d) {caps:List AV} {bs:List Nat} (ha:argsD η (argsH Γ σ xs)=some (caps,bs))
 {F:List AV→AV→Prop} (hcall:Callable P f) (hF:∀ args res,F args res→CallsD Γ P f (args++caps) res) :
 HStep Γ P o σ η (d::orrL xs) bs [(d,.one (.dat (.fnp (FnSpecD Γ P F))))] (frzE η bs):=by
 refine HStep.val hdst (fun E ρ σ' η' a w hag hah hI=>?_)
 have hargs:=argsH_congr (Γ:=Γ) hag xs (fun t ht=>by simp [ht])
 have hgb:∀ b∈bs,gB η' b=gB η b:=fun b hb=>hah.gB hb
 have ha':=argsD_congr ha hgb
 have hsr:=argsH_ok hI xs (by rw [hargs];exact argsD_noTups ha')
 rw [hargs] at hsr
 have harr:=argsD_arr ha'
 obtain ⟨hw1,_,hfz⟩:=Went.frz bs η' hI.inv rfl harr (fun _=>.inl rfl)
 have hrb:=argsD_ok hw1.inv ha' hfz (hsr.mv hw1.mv)
 rw [←frzE_congr hgb]
 refine ⟨.func (.func f) #[] (xs.map a.eval).toArray,w,ρ,by simp [execOp,ho,Instr.makeFunc],hw1,RdC.fnp rfl (fun M' w' hk=>⟨f,_,rfl,hcall,fun args res vs hres hb hg hrd=>?_⟩)⟩
 have:=(hF args res hres).2 M' w' (vs++xs.map a.eval) hb hg (hrd.append (hrb.keep hk))
 simpa using this
end Go.Hp

namespace Go.Hp
open Go Go.RowKit Go.Slot
variable {P:Program} {Γ:List (Nat×List Cell)}
def eqL:List Value→List Value→Option Bool
 | [],[]=>some true
 | a::as,b::bs=>match kEq a b,eqL as bs with
  | some p,some q=>some (p&&q)
  | _,_=>none
 | _,_=>none
def flatF (g:TypeId→Option Nat):List Field→Nat→Option Nat
 | [],acc=>some acc
 | f::fs,acc=>match g f.type with
  | some k=>if f.name != "_" &&f.offset==acc then flatF g fs (acc+k) else none
  | none=>none
def flatT (P:Program):Nat→TypeId→Option Nat
 | 0,_=>none
 | d + 1, t => match P.underlying t, P.info? t with
  | some ds,some i=>match ds with
   | .int _=>if i.size==1 then some 1 else none
   | .string=>if i.size==1 then some 1 else none
   | .bool=>if i.size==1 then some 1 else none
   | .array n e=>match flatT P d e with
    | some k=>if i.size==n*k then some (n*k) else none
    | none=>none
   | .struct fs=>if P.stoodInHeld t then none else match flatF (flatT P d) fs.toList 0 with
    | some n=>if i.size==n then some n else none
    | none=>none
   | _=>none
  | _,_=>none
def aggT (P:Program) (t:TypeId):Bool:=match P.underlying t with
 | some (.struct _)=>true
 | some (.array _ _)=>true
 | _=>false
def valT (P:Program) (t:TypeId) (l:List Value):Value:=if aggT P t then .agg l.toArray else l.getD 0 Go.undef
theorem eqL_len:∀{a b:List Value} {r:Bool},eqL a b=some r→a.length=b.length
 | [],[],_,_=>rfl
 | a::as,b::bs,r,h=>by
  simp only [eqL] at h
  split at h
  · rename_i p q h1 h2;simp [eqL_len h2]
  · cases h
theorem eqL_split:∀(k:Nat) {a b:List Value} {r:Bool},eqL a b=some r→∃ p q,eqL (a.take k) (b.take k)=some p∧eqL (a.drop k) (b.drop k)=some q∧r=(p&&q)
 | 0,a,b,r,h=>⟨true,r,by simp [eqL],by simpa using h,by simp⟩
 | k+1,[],[],r,h=>⟨true,true,by simp [eqL],by simp [eqL],by simp [eqL] at h;simp [h]⟩
 | k+1,[],_::_,r,h=>by simp [eqL] at h
 | k+1,_::_,[],r,h=>by simp [eqL] at h
 | k+1,a::as,b::bs,r,h=>by
  simp only [eqL] at h
  split at h
  · rename_i p q h1 h2
    cases h
    obtain ⟨p',q',h3,h4,rfl⟩:=eqL_split k h2
    exact ⟨p&&p',q',by simp [eqL,h1,h3],by simpa using h4,by simp [Bool.and_assoc]⟩
  · cases h
theorem flatT_size {d : Nat} {t : TypeId} {n : Nat} (h : flatT P d t = some n) : ∃ i, P.info? t = some i ∧ i.size = n := by
 cases d with
 | zero=>cases h
 | succ d=>
  unfold flatT at h
  split at h
  · rename_i ds i hu hi
    refine ⟨i,hi,?_⟩
    split at h
    · split at h
      · rename_i hs;cases h;simpa using hs
      · cases h
    · split at h
      · rename_i hs;cases h;simpa using hs
      · cases h
    · split at h
      · rename_i hs;cases h;simpa using hs
      · cases h
    · split at h
      · split at h
        · rename_i hs;cases h;simpa using hs
        · cases h
      · cases h
    · split at h
      · cases h
      · split at h
        · split at h
          · rename_i hs;cases h;simpa using hs
          · cases h
        · cases h
    · cases h
  · cases h
theorem run_isAgg {t:TypeId} {ds:TypeDesc} (hu:P.underlying t=some ds) (w:World):(isAgg t).run P w=.ok (aggT P t) w:=by
 unfold aggT
 rw [hu]
 cases ds<;>simp [isAgg,run_underlying' hu]
theorem flatT_und {d:Nat} {t:TypeId} {n:Nat} (h:flatT P d t=some n):∃ ds,P.underlying t=some ds:=by
 cases d with
 | zero=>cases h
 | succ d=>
  unfold flatT at h
  split at h
  · rename_i ds i hu hi;exact ⟨ds,hu⟩
  · cases h
theorem run_part {d:Nat} {t:TypeId} {k:Nat} (h:flatT P d t=some k) {l:List Value} {off:Nat} (hfit:off+k≤l.length) (hk:aggT P t=false→0<k) (w:World):(part t l.toArray off).run P w=.ok (valT P t ((l.drop off).take k)) w:=by
 obtain ⟨ds,hu⟩:=flatT_und h
 obtain ⟨i,hi,hs⟩:=flatT_size h
 unfold part valT
 simp only [Sem.run_bind,run_isAgg hu,Result.andThen_ok]
 cases ha:aggT P t
 · have hk:=hk ha
   have hlt:off<l.length:=by omega
   simp only [Bool.false_eq_true,if_false,List.getElem?_toArray,List.getElem?_eq_getElem hlt,Sem.run_pure]
   congr 1
   rw [List.getD_eq_getElem?_getD,List.getElem?_take,if_pos hk,List.getElem?_drop,Nat.add_zero,List.getElem?_eq_getElem hlt]
   rfl
 · simp only [if_true,Sem.run_bind,run_sizeOf' hi,hs,Result.andThen_ok,Sem.run_pure]
   congr 1
   simp [List.extract_eq_take_drop]
theorem flatT_leaf {d:Nat} {t:TypeId} {n:Nat} (h:flatT P d t=some n) (ha:aggT P t=false):n=1∧∃ ds,P.underlying t=some ds∧((∃ k,ds=.int k)∨ds=.string∨ds=.bool):=by
 cases d with
 | zero=>cases h
 | succ d=>
  unfold flatT at h
  split at h
  · rename_i ds i hu hi
    unfold aggT at ha
    rw [hu] at ha
    split at h
    · split at h<;>cases h;exact ⟨rfl,_,hu,.inl ⟨_,rfl⟩⟩
    · split at h<;>cases h;exact ⟨rfl,_,hu,.inr (.inl rfl)⟩
    · split at h<;>cases h;exact ⟨rfl,_,hu,.inr (.inr rfl)⟩
    · cases ha
    · cases ha
    · cases h
  · cases h
theorem run_leaf {t:TypeId} {ds:TypeDesc} (hu:P.underlying t=some ds) (hd:(∃ k,ds=.int k)∨ds=.string∨ds=.bool) {a b:Value} {r:Bool} (h:kEq a b=some r) (ht:(∀ k,ds=.int k→∃ q n,a=.int q n)∧(ds=.string→∃ s,a=.string s)∧(ds=.bool→∃ p,a=.bool p)) (d:Nat) (w:World) :
 (Op.equalIn (d+1) t a b).run P w=.ok r w:=by
 rcases hd with ⟨k,rfl⟩ | rfl | rfl
 · obtain ⟨q,n,rfl⟩:=ht.1 k rfl
   cases b<;>simp only [kEq] at h<;>first | (cases h;done) | skip
   split at h
   · rename_i e;subst e;cases h;simp [Op.equalIn,run_underlying' hu]
   · cases h
 · obtain ⟨s,rfl⟩:=ht.2.1 rfl
   cases b<;>simp only [kEq] at h<;>first | (cases h;done) | skip
   cases h
   simp [Op.equalIn,run_underlying' hu,beq_toListBytes,seq]
 · obtain ⟨p,rfl⟩:=ht.2.2 rfl
   cases b<;>simp only [kEq] at h<;>first | (cases h;done) | skip
   cases h
   simp [Op.equalIn,run_underlying' hu]
def fitD:TypeDesc→Value→Bool
 | .int k,.int k' _=>k==k'
 | .string,.string _=>true
 | .bool,.bool _=>true
 | _,_=>false
def fitF (g:TypeId→List Value→Bool) (sz:TypeId→Nat):List Field→List Value→Bool
 | [],_=>true
 | f::fs,l=>g f.type (l.take (sz f.type))&&fitF g sz fs (l.drop (sz f.type))
def fitN (g:List Value→Bool) (k:Nat):Nat→List Value→Bool
 | 0,_=>true
 | n+1,l=>g (l.take k)&&fitN g k n (l.drop k)
def fitT (P:Program):Nat→TypeId→List Value→Bool
 | 0,_,_=>false
 | d+1,t,l=>match P.underlying t with
  | some (.array n e)=>fitN (fitT P d e) (P.cellsOf e) n l
  | some (.struct fs)=>fitF (fitT P d) P.cellsOf fs.toList l
  | some ds=>match l with
   | [v]=>fitD ds v
   | _=>false
  | none=>false
theorem run_eqT:∀(d:Nat) {t:TypeId} {n:Nat},flatT P d t=some n→∀(m:Nat) {l l':List Value} {r:Bool},l.length=n→fitT P d t l=true→eqL l l'=some r→∀ w,(Op.equalIn (d+m) t (valT P t l) (valT P t l')).run P w=.ok r w
 | 0,_,_,h=>by cases h
 | d + 1, t, n, h => fun m l l' r hl hfit he w => by
  have hll:=eqL_len he
  cases ha:aggT P t with
  | false=>
   obtain ⟨rfl,ds,hu,hd⟩:=flatT_leaf h ha
   unfold fitT at hfit
   rw [hu] at hfit
   match l,l',hl,hll,he with
   | [a],[b],_,_,he=>
    unfold valT
    rw [ha]
    simp only [Bool.false_eq_true,if_false,List.getD_cons_zero]
    have hk:kEq a b=some r:=by
     simp only [eqL] at he
     split at he
     · rename_i p q h1 h2;cases h2;cases he;rw [h1];simp
     · cases he
    rw [show d+1+m=d+m+1 by omega]
    refine run_leaf hu hd hk ?_ (d+m) w
    rcases hd with ⟨k,rfl⟩ | rfl | rfl
    · refine ⟨fun k' _=>?_,fun e=>(by cases e),fun e=>(by cases e)⟩
      cases a<;>simp [fitD] at hfit
      exact ⟨_,_,rfl⟩
    · refine ⟨fun k' e=>(by cases e),fun _=>?_,fun e=>(by cases e)⟩
      cases a<;>simp [fitD] at hfit
      exact ⟨_,rfl⟩
    · refine ⟨fun k' e=>(by cases e),fun e=>(by cases e),fun _=>?_⟩
      cases a<;>simp [fitD] at hfit
      exact ⟨_,rfl⟩
  | true=>
   unfold valT
   rw [ha]
   simp only [if_true]
   unfold flatT at h
   split at h
   case h_2=>cases h
   rename_i ds i hu hi
   unfold fitT at hfit
   rw [hu] at hfit
   split at h
   case h_1 | h_2 | h_3 | h_6=>first | (unfold aggT at ha;rw [hu] at ha;cases ha) | cases h
   ·
    rename_i nn e
    split at h
    case h_2=>cases h
    rename_i k hk
    split at h
    case isFalse=>cases h
    cases h
    obtain ⟨ie,hie,hse⟩:=flatT_size hk
    have hce:P.cellsOf e=k:=by simp [Program.cellsOf,hie,hse]
    rw [show d+1+m=d+m+1 by omega,run_equalIn_array w (d+m) l.toArray l'.toArray hu hie,hce]
    simp only [hce] at hfit
    have key:∀(c j:Nat) {r:Bool},c+j=nn→fitN (fitT P d e) k c (l.drop (j*k))=true→eqL (l.drop (j*k)) (l'.drop (j*k))=some r→(Op.eqItems (d+m) e k l.toArray l'.toArray (List.range' j c)).run P w=.ok r w:=by
     intro c
     induction c with
     | zero=>
      intro j r hj _ he
      have:l.drop (j*k)=[]:=List.drop_eq_nil_of_le (by rw [hl,←hj];simp)
      have h2:l'.drop (j*k)=[]:=List.drop_eq_nil_of_le (by rw [←hll,hl,←hj];simp)
      rw [this,h2] at he
      cases he
      simp [Op.eqItems]
     | succ c ih=>
      intro j r hj hf he
      simp only [fitN,Bool.and_eq_true] at hf
      obtain ⟨p,q,h1,h2,rfl⟩:=eqL_split k he
      have hfit1:j*k+k≤l.length:=by
       rw [hl,←hj]
       have:(j+1)*k≤(c+1+j)*k:=Nat.mul_le_mul_right _ (by omega)
       rw [Nat.add_mul,Nat.one_mul] at this
       exact this
      have hpos:aggT P e=false→0<k:=fun ha=>by rw [(flatT_leaf hk ha).1];exact Nat.one_pos
      rw [List.range'_succ]
      have h3:=run_eqT d hk m (by simp;omega) hf.1 h1 w
      simp only [Op.eqItems,Sem.run_bind,run_part hk hfit1 hpos,run_part hk (l:=l') (by rw [←hll];exact hfit1) hpos,Result.andThen_ok,h3]
      rw [List.drop_drop,List.drop_drop,show j*k+k=(j+1)*k by rw [Nat.add_mul,Nat.one_mul]] at h2
      have hf2:=hf.2
      rw [List.drop_drop,show j*k+k=(j+1)*k by rw [Nat.add_mul,Nat.one_mul]] at hf2
      cases p
      · simp
      · simp only [Bool.not_true,Bool.false_eq_true,if_false,Bool.true_and]
        exact ih (j+1) (by omega) hf2 h2
    rw [List.range_eq_range']
    exact key nn 0 (by omega) (by simpa using hfit) (by simpa using he)
   ·
    rename_i fs
    split at h
    · cases h
    rename_i hsi
    split at h
    case h_2=>cases h
    rename_i nn hff
    split at h
    case isFalse=>cases h
    cases h
    have hfo:P.fieldsOf t=fs:=by simp [Program.fieldsOf,hu]
    rw [show d+1+m=d+m+1 by omega,run_equalIn_struct w (d+m) t _ _ (by rw [hfo];exact hu) (by simpa using hsi),hfo]
    have key:∀(fs:List Field) (acc:Nat) {r:Bool},flatF (flatT P d) fs acc=some n→fitF (fitT P d) P.cellsOf fs (l.drop acc)=true→eqL (l.drop acc) (l'.drop acc)=some r→(Op.eqFields (d+m) l.toArray l'.toArray fs).run P w=.ok r w:=by
     intro fs
     induction fs with
     | nil=>
      intro acc r hf _ he
      simp only [flatF,Option.some.injEq] at hf
      have:l.drop acc=[]:=List.drop_eq_nil_of_le (by omega)
      have h2:l'.drop acc=[]:=List.drop_eq_nil_of_le (by omega)
      rw [this,h2] at he
      cases he
      simp [Op.eqFields]
     | cons f fs ih=>
      intro acc r hf hfi he
      simp only [flatF] at hf
      split at hf
      case h_2=>cases hf
      rename_i k hk
      split at hf
      case isFalse=>cases hf
      rename_i hc
      simp only [Bool.and_eq_true,bne_iff_ne,ne_eq,beq_iff_eq] at hc
      obtain ⟨ie,hie,hse⟩:=flatT_size hk
      have hce:P.cellsOf f.type=k:=by simp [Program.cellsOf,hie,hse]
      simp only [fitF,hce,Bool.and_eq_true] at hfi
      obtain ⟨p,q,h1,h2,rfl⟩:=eqL_split k he
      have hmono:∀(fs:List Field) (a n:Nat),flatF (flatT P d) fs a=some n→a≤n:=by
       intro fs
       induction fs with
       | nil=>intro a n h;simp only [flatF,Option.some.injEq] at h;omega
       | cons f fs ih=>
        intro a n h
        simp only [flatF] at h
        split at h
        · split at h
          · have:=ih _ _ h;omega
          · cases h
        · cases h
      have hfit1:acc+k≤l.length:=by have:=hmono _ _ _ hf;omega
      have hpos:aggT P f.type=false→0<k:=fun ha=>by rw [(flatT_leaf hk ha).1];exact Nat.one_pos
      have h3:=run_eqT d hk m (by simp;omega) hfi.1 h1 w
      simp only [Op.eqFields,hc.1,ne_eq,not_false_eq_true,if_true,hc.2,Sem.run_bind,run_part hk hfit1 hpos,run_part hk (l:=l') (by rw [←hll];exact hfit1) hpos,Result.andThen_ok,h3]
      rw [List.drop_drop,List.drop_drop] at h2
      have hf2:=hfi.2
      rw [List.drop_drop] at hf2
      cases p
      · simp
      · simp only [Bool.not_true,Bool.false_eq_true,if_false,Bool.true_and]
        exact ih (acc+k) hf hf2 h2
    exact key fs.toList 0 hff (by simpa using hfit) (by simpa using he)
def rawsH:List HC→Option (List Value)
 | []=>some []
 | .dat (.raw v)::r=>(rawsH r).map (v::·)
 | _::_=>none
theorem rawsH_ok {η:List SB} {ρ:Nat→Value} {M:Nat→Nat→Prop} {w:World}:∀{hs:List HC} {l vs:List Value},rawsH hs=some l→HRL η ρ M w vs hs→vs=l
 | [],l,vs,h,hr=>by
  cases h
  cases vs with
  | nil=>rfl
  | cons _ _=>exact hr.elim
 | x::hs,l,vs,h,hr=>by
  cases vs with
  | nil=>exact hr.elim
  | cons v vs=>
   unfold rawsH at h
   split at h
   · rename_i heq;cases heq
   · rename_i u r heq
     cases heq
     obtain ⟨l',hl,rfl⟩:=Option.map_eq_some_iff.1 h
     rw [rawsH_ok hl hr.2,RdC.raw_inv hr.1]
   · cases h
def eqOf (op:BinOp) (r:Bool):Option Bool:=match op with
 | .eql=>some r
 | .neq=>some (!r)
 | _=>none
def aggEqH (P:Program) (T:TypeId) (op:BinOp) (x y:SV):Option SV:=match x,y with
 | .agg hx,.agg hy=>match rawsH hx,rawsH hy with
  | some lx,some ly=>if flatT P 9 T=some lx.length∧aggT P T=true∧P.eqGuardType P.depth T=false∧fitT P 9 T lx=true then
   match eqL lx ly with
   | some r=>(eqOf op r).map fun b=>.one (.dat (.raw (.bool b)))
   | none=>none
   else none
  | _,_=>none
 | _,_=>none
theorem s_aggEq {o:Oper} {σ:List SV} {η:List SB} {op:BinOp} {T U:TypeId} {x y:Operand} {d:Nat} (ho:o.op=.binOp op T x y U) (hdst:o.dst=some d) {v:SV} (h:aggEqH P T op (opdS Γ σ x) (opdS Γ σ y)=some v) :
 HStep Γ P o σ η (d::(orr x++orr y)) [] [(d,v)] []:=by
 refine HStep.pure hdst (fun E ρ σ' η' a w hag hah hI=>?_)
 have hx:=hI.opd x
 have hy:=hI.opd y
 rw [hag.opd (fun t ht=>by simp [ht])] at hx hy
 unfold aggEqH at h
 split at h
 case h_2=>cases h
 rename_i hsx hsy ex ey
 split at h
 case h_2=>cases h
 rename_i lx ly h1 h2
 split at h
 case isFalse=>cases h
 rename_i hc
 split at h
 case h_2=>cases h
 rename_i r hr
 obtain ⟨b,hb,rfl⟩:=Option.map_eq_some_iff.1 h
 rw [ex] at hx
 rw [ey] at hy
 obtain ⟨vx,hvx,hrx⟩:=hx
 obtain ⟨vy,hvy,hry⟩:=hy
 rw [rawsH_ok h1 hrx] at hvx
 rw [rawsH_ok h2 hry] at hvy
 have hrun:=run_eqT 9 hc.1 9991 rfl hc.2.2.2 hr w
 unfold valT at hrun
 rw [hc.2.1] at hrun
 simp only [if_true,Nat.reduceAdd] at hrun
 have hg:∀ ox oy,(eqGuard op T ox oy (.agg lx.toArray) (.agg ly.toArray)).run P w=.ok () w:=fun ox oy=>run_eqGuard_agg w op T ox oy _ _ hc.2.2.1
 refine ⟨.bool b,?_,RdC.raw rfl⟩
 unfold eqOf at hb
 split at hb
 · cases hb
   simp only [execOp,ho,hvx,hvy,Sem.run_bind,hg,Result.andThen_ok,run_eql_struct,hrun,Sem.run_pure]
 · cases hb
   simp only [execOp,ho,hvx,hvy,Sem.run_bind,hg,Result.andThen_ok,run_neq_struct,hrun,Sem.run_pure]
 · cases hb
def bytesH (η:List SB):SV→Option (List Int×List Nat)
 | .one h=>match toDat η h with
  | some (c,bs)=>(toInts .u8 c).map fun l=>(l,bs)
  | none=>none
 | _=>none
theorem s_bytesStr {o:Oper} {σ:List SV} {η:List SB} {S D e:TypeId} {x:Operand} {d:Nat} (ho:o.op=.convert S D x) (hdst:o.dst=some d) (hS:P.underlying S=some (.slice e)) (he:P.underlying e=some (.int .u8)) (hD:P.underlying D=some .string)
 {l:List Int} {bs:List Nat} (h:bytesH η (opdS Γ σ x)=some (l,bs)):HStep Γ P o σ η (d::orr x) bs [(d,.one (.dat (.raw (.string (strOfNums l)))))] (frzE η bs):=by
 refine HStep.val hdst (fun E ρ σ' η' a w hag hah hI=>?_)
 have hx:=hI.opd x
 rw [hag.opd (fun t ht=>by simp [ht])] at hx
 unfold bytesH at h
 split at h
 case h_2=>cases h
 rename_i hc hxe
 split at h
 case h_2=>cases h
 rename_i c bs' hd
 obtain ⟨l',hl,he'⟩:=Option.map_eq_some_iff.1 h
 cases he'
 rw [hxe] at hx
 have hgb:∀ b∈bs,gB η' b=gB η b:=fun b hb=>hah.gB hb
 have hd':=toDat_congr hd hgb
 obtain ⟨hw1,_,hfz⟩:=Went.frz bs η' hI.inv rfl (toDat_arr hd') (fun _=>.inl rfl)
 have hx0:HRd η' ρ (MX E.Mo ρ η') w (a.eval x) hc:=hx
 have hr:=toDat_ok hw1.inv hd' hfz (HRd.mv hw1.mv hx0)
 rw [←frzE_congr hgb]
 obtain ⟨⟨ad,cap,hv⟩,hcells⟩:=hr.ints_cells hl
 refine ⟨.string (strOfNums l),w,ρ,?_,hw1,RdC.raw rfl⟩
 have hexec:∀ u,(convert S D (a.eval x)).run P w=.ok u w→(execOp a.eval o).run P w=.ok (.value u) w:=fun u hr=>by
  unfold execOp
  rw [ho]
  simp only [Sem.run_bind,hr,Result.andThen_ok,Sem.run_pure]
 apply hexec
 rw [hv]
 rcases hcells with hnil | ⟨b,off,cap',e1,hc⟩
 · have hl0:l=[]:=by simpa using hnil
   subst hl0
   cases ad with
   | none=>rw [run_convert_bytes_nil w S e hS he _ _ D hD];rfl
   | some ad=>
    rw [run_convert_bytes_string w S D e (some ad) _ cap hS he hD,run_bytesToString w ad _ cap [] (by simp [loadCells,loadCellsFrom])]
    rfl
 · rw [hv] at e1
   cases e1
   exact run_convert_bytes_arg w S e hS he b off l.length _ l rfl (fun i hi=>by
    have:=(hc i (.int .u8 l[i]) (by simp [hi])).2
    rw [this]
    simp [List.getD,hi]) D hD
end Go.Hp
