/- The proof, part Z6: Hf, Hg, Hh. -/
import Derived.Test.YtkbkjjahlafhoaaGreatDoorZ5
import Derived.Laws.StructEq
import Derived.Laws.NewFold
import Derived.MapKept
namespace Go.Hp
open Go Go.RowKit Go.Slot
variable {P:Program} {Γ:List (Nat×List Cell)}
def wlk (place:Nat->Option (Nat×Nat)) (cs:List HC):List (Nat×SV)->Option (List HC)
 | []=>some cs
 | (i,x)::r=>match place i,yg2 x with
  | some (off,size),some us=>if us.length=size/\off+size<=cs.length then wlk place (cs.take off++us++cs.drop (off+size)) r else none
  | _,_=>none
def wdh (Γ:List (Nat×List Cell)) (J:List SV):List (Nat×Operand)->List (Nat×SV)
 | []=>[]
 | (i,x)::r=>(i,opdS Γ J x)::wdh Γ J r
theorem wte {E:HEnv} {ρ:Nat->Value} {J:List SV} {η:List SB} {a:Act} {w:World} (hI:RI Γ E ρ J η a w) (place:Nat->Option (Nat×Nat)):∀(ps:List (Nat×Operand)) (cells:Array Value) (cs cs':List HC),
 HRL η ρ (MX E.Mo ρ η) w cells.toList cs->wlk place cs (wdh Γ J ps)=some cs'->∃ cells',Instr.fill place cells (ps.map fun p=>(p.1,a.eval p.2))=some cells'/\HRL η ρ (MX E.Mo ρ η) w cells'.toList cs'
 | [],cells,cs,cs',hr,h=>by
  simp only [wdh,wlk,Option.some.injEq] at h;subst h;exact ⟨cells,rfl,hr⟩
 | (i, x) :: ps, cells, cs, cs', hr, h => by
  simp only [wdh,wlk] at h;split at h
  . rename_i off size us hp hu;split at h
    . rename_i hc;obtain ⟨h1,h2⟩:=hc;have hv:=zvx hu (hI.opd x)
      have hvl:(a.eval x).cells.size=size:=by rw [<-h1,<-hv.length];simp
      have hcl:cells.size=cs.length:=by rw [<-hr.length];simp
      have hfold:((a.eval x).cells.zipIdx.foldl (fun cs (p:Value×Nat)=>cs.setIfInBounds (off+p.2) p.1) cells).toList=cells.toList.take off++(a.eval x).cells.toList++cells.toList.drop (off+size):=by
       have:=xio off (a.eval x).cells.toList 0 cells (by simp [hvl];omega)
       rw [<-Array.foldl_toList];simpa [hvl] using this
      obtain ⟨cells',hf,hr'⟩:=wte hI place ps ((a.eval x).cells.zipIdx.foldl (fun cs (p:Value×Nat)=>cs.setIfInBounds (off+p.2) p.1) cells) _ cs' (by
       rw [hfold]
       exact ((hr.take off).append hv).append (hr.drop _)) h
      refine ⟨cells',?_,hr'⟩;simp only [List.map_cons,Instr.fill,hp];rw [if_neg]
      . exact hf
      . simp only [hvl,ne_eq,not_true_eq_false,decide_false,Bool.false_or,decide_eq_true_eq];omega
    . cases h
  . cases h
theorem y6w {rd:List Nat} {J J':List SV} (hag:agS rd J J'):∀(ps:List (Nat×Operand)),(∀ t∈orrs ps,t∈rd)->wdh Γ J' ps=wdh Γ J ps
 | [],_=>rfl
 | (i,x)::ps,h=>by
  simp only [wdh];rw [hag.opd (fun t ht=>h t (by simp [orrs,ht])),y6w hag ps (fun t ht=>h t (by simp [orrs,ht]))]
theorem vu9 {o:Oper} {J:List SV} {η:List SB} {T:TypeId} {parts:List (Nat×Operand)} {d:Nat} (ho:o.op=.build T parts.toArray) (hdst:o.dst=some d) {ti:TI} (hti:mkTI P T=some ti)
 (harr:xm7 ti=true) (hagg:ti.sh.agg=true) {hs:List HC} (hf:wlk (placeOf ti.sh) (ti.zc.map .dat) (wdh Γ J parts)=some hs):wpk Γ P o J η (d::orrs parts) [] [(d,.agg hs)] []:=by
 have hok:=vq6 hti;obtain ⟨ds,i,z,hd,hi,hz,hsz,_,hzs,hone,hzc,hsh⟩:=hok.ex;refine wpk.pure hdst (fun E ρ J' η' a w hag hah hI=>?_);have hav:=y6w (Γ:=Γ) hag parts (fun t ht=>by simp [ht])
 have hz0:HRL η' ρ (MX E.Mo ρ η') w z.cells.toList (ti.zc.map .dat):=by rw [hzc];exact x6l hone
 obtain ⟨cells',hfill,hrd⟩:=wte hI (placeOf ti.sh) parts z.cells _ hs hz0 (by rw [hav];exact hf)
 have hbuilt:P.built T (parts.map fun p=>(p.1,a.eval p.2))=some cells':=by
  unfold Program.built;rw [hi,hd];rw [hsh] at hagg
  rcases zsa hagg with ⟨fl,rfl⟩ | ⟨n,e,rfl⟩
  . have hst:∃ fs,ti.sh=.struct fs:=by
     rw [hsh];unfold shOf at hagg ⊢;dsimp only at hagg ⊢;split at hagg
     . exact ⟨_,by rename_i hc;rw [if_pos hc]⟩
     . cases hagg
    obtain ⟨fs,hfs⟩:=hst;obtain ⟨fl',e1,rfl,hne⟩:=yja (hsh.symm.trans hfs)
    cases e1;have hpl:fl.toList.mapM (fun f=>(P.info? f.type).map fun i=>(f.offset,i.size))=some (fl.toList.map fun f=>(f.offset,P.cellsOf f.type)):=
     mapM_some _ _ _ (fun f hf=>by
      obtain ⟨j,hj,hjs⟩:=y01 (hne f hf)
      simp [hj,hjs])
    simp only [hz,hpl];rw [hfs] at hfill;rw [<-hfill]
    congr 1
    funext x
    simp [placeOf];rfl
  . have har:ti.sh=.array n e (P.cellsOf e):=hsh
    have har':P.cellsOf e≠0:=by unfold xm7 at harr;rw [har] at harr;simpa using harr
    obtain ⟨j,hj,hjs⟩:=y01 har';simp only [hz,hj];rw [har] at hfill;rw [<-hfill,hjs];rfl
 refine ⟨.agg cells',?_,⟨cells'.toList,by simp,hrd⟩⟩;have hrun:=run_build (P:=P) w T (parts.map fun p=>(p.1,a.eval p.2)).toArray cells' (by simpa using hbuilt);simp only [execOp,ho]
 have he:(parts.toArray.map fun (p:Nat×Operand)=>(p.1,a.eval p.2))=(parts.map fun p=>(p.1,a.eval p.2)).toArray:=by simp
 have:(Array.map (fun x=>match x with | (i,x)=>(i,a.eval x)) parts.toArray)=(parts.map fun p=>(p.1,a.eval p.2)).toArray:=by rw [<-he]
 rw [this];simp [hrun]
def zua (es:Nat) (ik:Option IntKind) (n:Nat) (cs:List Cell):Option Cell:=match ik with
 | some k=>if es=1 then (wjp k cs).map (.ints k) else none
 | none=>some (.sl es (chunk es n cs))
theorem zlv {k : IntKind} : ∀ {cs : List Cell} {l : List Int}, wjp k cs = some l → cs = l.map fun n => .raw (.int k n)
 | [],l,h=>by simp [wjp] at h;simp [h]
 | c::cs,l,h=>by
  unfold wjp at h;split at h
  . rename_i heq;cases heq
  . rename_i k' n r heq
    cases heq;split at h
    . rename_i hk;subst hk;simp only [Option.map_eq_some_iff] at h;obtain ⟨l',h1,rfl⟩:=h;rw [zlv h1];rfl
    . cases h
  . cases h
theorem ykp {es n:Nat} {ik:Option IntKind} {cs:List Cell} {c:Cell} (hlen:cs.length=n*es) (h:zua es ik n cs=some c):c.uni/\c.cnt=n/\c.esz=es/\c.flat=cs:=by
 unfold zua at h;split at h
 . rename_i k;split at h
   . rename_i he;subst he;obtain ⟨l,hl,rfl⟩:=Option.map_eq_some_iff.1 h
     have:=zlv hl
     subst this;simp only [List.length_map,Nat.mul_one] at hlen;exact ⟨trivial,hlen,rfl,rfl⟩
   . cases h
 . cases h;exact ⟨ys3 es n cs hlen,w1c es n cs,rfl,z2e es n cs hlen⟩
theorem yie {place : Nat → Option (Nat × Nat)} : ∀ (ps : List (Nat × SV)) (cs cs' : List HC), wlk place cs ps = some cs' → cs'.length = cs.length
 | [],cs,cs',h=>by simp only [wlk,Option.some.injEq] at h;rw [h]
 | (i, x) :: ps, cs, cs', h => by
  simp only [wlk] at h;split at h
  . rename_i off size us hp hu;split at h
    . rename_i hc;rw [yie ps _ cs' h];simp only [List.length_append,List.length_take,List.length_drop];omega
    . cases h
  . cases h
theorem vt4 {η:List SB}:∀{hs:List HC} {cs:List Cell} {bs:List Nat},ym9 η hs=some (cs,bs)->cs.length=hs.length
 | [],cs,bs,hd=>by cases hd;rfl
 | h::hs,cs,bs,hd=>by
  simp only [ym9] at hd;split at hd
  . rename_i c bs1 cs2 bs2 h1 h2
    cases hd;simp [vt4 h2]
  . cases hd
def litH (Γ:List (Nat×List Cell)) (J:List SV) (η:List SB) (es:Nat) (ik:Option IntKind) (zc:List Cell) (n:Nat) (parts:List (Nat×Operand)):Option (Cell×List Nat):=
 if n*es<=16777216/\n≠0 then match wlk (fun i=>some (i*es,es)) ((yfu zc n).map .dat) (wdh Γ J parts) with
  | some hs=>match ym9 η hs with
   | some (cs,bs)=>(zua es ik n cs).map fun c=>(c,bs)
   | none=>none
  | none=>none
 else none
theorem xbc {η:List SB} {ρ:Nat->Value} {M:Nat->Nat->Prop} {w:World} {vs:List Value} {cs:List Cell} (h:HRL η ρ M w vs (cs.map .dat)):∀ n,HRL η ρ M w (yfu vs n) ((yfu cs n).map .dat)
 | 0=>trivial
 | n+1=>by
  simp only [yfu,List.map_append];exact h.append (xbc h n)
theorem y52 {J:List SV} {η:List SB} {E:HEnv} {ρ:Nat->Value} {a:Act} {w:World} (hI:RI Γ E ρ J η a w) {o:Oper} {T e:TypeId} {es eb n:Nat} {ik:Option IntKind} {parts:List (Nat×Operand)} (ho:o.op=.buildSlice T n parts.toArray)
 {ti te:TI} (hti:mkTI P T=some ti) (hsh:ti.sh=.slice e es eb ik) (hte:mkTI P e=some te) {c:Cell} {bs:List Nat} (h:litH Γ J η es ik te.zc n parts=some (c,bs)) :
 ∃ vs:List Value,(execOp a.eval o).run P w=.ok (.value (.slice (some ⟨w.heap.size,0,none⟩) n n)) (w.alloc (.cells vs.toArray e))/\c.uni/\c.cnt=n/\c.esz=es/\vs.length=n*es/\(∀ b∈bs,w9u (gB η b)=true)/\
  ∀(ρ':Nat->Value) (η':List SB) (w':World),HInv Γ E.Mo ρ' η' w'->Mv η ρ (MX E.Mo ρ η) w η' ρ' (MX E.Mo ρ' η') w'->(∀ b∈bs,gB η' b=frzB (gB η b))->RdD (MX E.Mo ρ' η') w' vs c.flat:=by
 have hok:=vq6 hti;obtain ⟨ds,i,z,hd,hi,hz,_,_,_,_,_,hsh'⟩:=hok.ex;unfold litH at h;split at h
 case isFalse=>cases h
 rename_i hsmall;split at h
 case h_2=>cases h
 rename_i hs hfill;split at h
 case h_2=>cases h
 rename_i cs bs' hdat;obtain ⟨c',hsl,he⟩:=Option.map_eq_some_iff.1 h
 cases he;obtain ⟨rfl,j,z',hj,hz',hjs,hjb,hes0,hzs,hik⟩:=xhf (hsh'.symm.trans hsh);obtain ⟨de,je,ze,hde,hje,hze,_,_,_,hone,hzce,_⟩:=(vq6 hte).ex;rw [hj] at hje;cases hje;rw [hz'] at hze;cases hze;have hz0:HRL η ρ (MX E.Mo ρ η) w (yfu z'.cells.toList n) ((yfu te.zc n).map .dat):=xbc (by rw [hzce];exact x6l hone) n
 have hinit:(Array.range (n*es)).map (z'.cells[· % z'.cells.size]!)=(yfu z'.cells.toList n).toArray:=by
  apply Array.ext
  . simp [yno,hzs]
  . intro q h1 h2;simp only [Array.size_map,Array.size_range] at h1;have hq:=xz6 z'.cells.toList n q (by simpa [hzs] using h1);have hlt:q % z'.cells.size<z'.cells.size:=Nat.mod_lt _ (by rw [hzs];omega);simp only [Array.getElem_map,Array.getElem_range,List.getElem_toArray];simp only [Array.length_toList,Array.getElem?_toList] at hq;rw [Array.getElem?_eq_getElem hlt,List.getElem?_eq_getElem (by simpa using h2)] at hq;simp at hq;rw [hq];simp [hlt]
 obtain ⟨cells',hf,hrd⟩:=wte hI (fun i=>some (i*es,es)) parts (yfu z'.cells.toList n).toArray _ hs (by simpa using hz0) hfill
 have hrun:(execOp a.eval o).run P w=.ok (.value (.slice (some ⟨w.heap.size,0,none⟩) n n)) (w.alloc (.cells cells' e)):=by
  have hpe:(Array.map (fun x=>match x with | (i,x)=>(i,a.eval x)) parts.toArray).toList=parts.map fun p=>(p.1,a.eval p.2):=by simp
  have h24:¬(16777216<n*es):=by omega
  have hne:¬(n*es=0):=by
   intro h0
   rcases Nat.mul_eq_zero.1 h0 with h0 | h0
   . exact hsmall.2 h0
   . exact hes0 h0
  simp only [execOp,ho,Instr.buildSlice,Sem.run_bind,zp8 hd,Result.andThen_ok,zxp hj,hjs];rw [if_neg (by simpa using h24),if_neg hne];simp only [Sem.run_bind,zef hj hz',Result.andThen_ok,Sem.run_pure,hinit];rw [hpe,hf];simp [newRow]
 have hlen:cs.length=n*es:=by
  rw [vt4 hdat,yie _ _ _ hfill,List.length_map,yno,hzce];simp [hzs]
 obtain ⟨h1,h2,h3,h4⟩:=ykp hlen hsl;refine ⟨cells'.toList,by rw [Array.toArray_toList];exact hrun,h1,h2,h3,?_,wy7 hdat,fun ρ' η' w' hinv m hfz=>?_⟩
 . rw [hrd.length,<-vt4 hdat,hlen]
 . rw [h4];exact vmp hinv hdat hfz (hrd.mv m)
theorem yuw {J J':List SV} {η η':List SB} {es n:Nat} {ik:Option IntKind} {zc:List Cell} {parts:List (Nat×Operand)} {c:Cell} {bs:List Nat} (hp:wdh Γ J' parts=wdh Γ J parts) (h:litH Γ J η es ik zc n parts=some (c,bs))
 (ha:∀ b∈bs,gB η' b=gB η b):litH Γ J' η' es ik zc n parts=some (c,bs):=by
 unfold litH at h ⊢;rw [hp];split at h
 . rename_i hc;rw [if_pos hc];split at h
   . rename_i hs hf;split at h
     . rename_i cs bs' hd;obtain ⟨c',_,he⟩:=Option.map_eq_some_iff.1 h
       cases he;rw [zan hd ha];exact h
     . cases h
   . cases h
 . cases h
theorem wvp {α:Type}:∀(e e':List (Nat×α)) (l:List α),appL (e++e') l=appL e' (appL e l)
 | [],_,_=>rfl
 | (i,x)::e,e',l=>by simp only [List.cons_append,appL];exact wvp e e' _
theorem xm0 {η : List SB} {bs : List Nat} (ha : ∀ b ∈ bs, w9u (gB η b) = true) {nb : Nat} (hf : η[nb]? = some .fresh) : (appL (frzE η bs) η)[nb]? = some .fresh := by
 have key:∀(bs:List Nat) (η1:List SB),(∀ b∈bs,w9u (gB η b)=true)->η1[nb]? = some .fresh->(appL (frzE η bs) η1)[nb]? = some .fresh:=by
  intro bs
  induction bs with
  | nil=>intro η1 _ h;exact h
  | cons b bs ih=>
   intro η1 ha h;show (appL (frzE η bs) (η1.set b (frzB (gB η b))))[nb]? = _;refine ih _ (fun i hi=>ha i (by simp [hi])) ?_
   have hne:b≠nb:=fun e=>by
    have h1:=ha b (by simp);rw [e] at h1;unfold gB at h1;rw [hf] at h1
    cases h1
   rw [List.getElem?_set_ne hne];exact h
 exact key bs η ha hf
theorem yiy {o:Oper} {J:List SV} {η:List SB} {T e:TypeId} {es eb n d nb:Nat} {ik:Option IntKind} {parts:List (Nat×Operand)} (ho:o.op=.buildSlice T n parts.toArray) (hdst:o.dst=some d)
 {ti te:TI} (hti:mkTI P T=some ti) (hsh:ti.sh=.slice e es eb ik) (hte:mkTI P e=some te) {c:Cell} {bs:List Nat} (h:litH Γ J η es ik te.zc n parts=some (c,bs)) (hroom:wo7 η nb=true) :
 wpk Γ P o J η (d::orrs parts) (nb::bs) [(d,.one (.sl nb es 0 n))] (frzE η bs++[(nb,.arr c 0 (some e))]):=by
 refine wpk.val hdst (fun E ρ J' η' a w hag hah hI=>?_);have hp:=y6w (Γ:=Γ) hag parts (fun t ht=>by simp [ht])
 have hgb:∀ b∈bs,gB η' b=gB η b:=fun b hb=>hah.gB (by simp [hb])
 obtain ⟨vs,hrun,hu,hcnt,hesz,hvl,harr,hrd⟩:=y52 hI ho hti hsh hte (yuw hp h hgb);obtain ⟨hw1,_,hfz⟩:=Went.frz bs η' hI.inv rfl harr (fun _=>.inl rfl);have hfr:=xm0 harr (hah.room (by simp) hroom);have hb:Below w.heap.size w (w.alloc (.cells vs.toArray e)):=(Below.refl _ _).alloc (Nat.le_refl _) _;have hlt:nb<(appL (frzE η' bs) η').length:=(List.getElem?_eq_some_iff.1 hfr).1;have hrd1:=hrd ρ _ w hw1.inv hw1.mv hfz;have hw2:=Went.new hw1.inv hb hfr (v:=.pointer (some ⟨w.heap.size,0,none⟩)) (x:=.arr c 0 (some e)) (by simp) (fun _ _=>Nat.le_refl _) (fun m=>⟨⟨hu,Nat.zero_le _⟩,.inr ⟨w.heap.size,vs,[],e,rfl,by simpa using vs6 w _,hrd1.keep m.keep,fun t' ht=>by cases ht;rfl⟩⟩);refine ⟨_,_,upd ρ nb (.pointer (some ⟨w.heap.size,0,none⟩)),hrun,?_,?_⟩
 . rw [<-vlv hgb,wvp];exact hw1.trans hw2
 . rw [<-vlv hgb,wvp];refine ⟨⟨_,by simp only [appL];rw [List.getElem?_set_self hlt],by simp⟩,_,n,rfl,Nat.le_refl _,fun _=>⟨by rw [xjo];simp [real],by rw [xjo];simp [bk,blk],vs.toArray,e,(0,0),by rw [xjo];exact vs6 w _,?_⟩⟩;simp [hvl]
theorem zdt {o:Oper} {J:List SV} {η:List SB} {T e:TypeId} {es eb n d:Nat} {ik:Option IntKind} {parts:List (Nat×Operand)} (ho:o.op=.buildSlice T n parts.toArray) (hdst:o.dst=some d)
 {ti te:TI} (hti:mkTI P T=some ti) (hsh:ti.sh=.slice e es eb ik) (hte:mkTI P e=some te) {c:Cell} {bs:List Nat} (h:litH Γ J η es ik te.zc n parts=some (c,bs)) :
 wpk Γ P o J η (d::orrs parts) bs [(d,.one (.dat c))] (frzE η bs):=by
 refine wpk.val hdst (fun E ρ J' η' a w hag hah hI=>?_);have hp:=y6w (Γ:=Γ) hag parts (fun t ht=>by simp [ht])
 have hgb:∀ b∈bs,gB η' b=gB η b:=fun b hb=>hah.gB hb
 obtain ⟨vs,hrun,hu,hcnt,hesz,hvl,harr,hrd⟩:=y52 hI ho hti hsh hte (yuw hp h hgb);obtain ⟨hw1,_,hfz⟩:=Went.frz bs η' hI.inv rfl harr (fun _=>.inl rfl);have hb:Below w.heap.size w (w.alloc (.cells vs.toArray e)):=(Below.refl _ _).alloc (Nat.le_refl _) _;have hw2:=Went.below hw1.inv hb;have hrd2:=(hrd ρ _ w hw1.inv hw1.mv hfz).keep hw2.keep;refine ⟨_,_,ρ,hrun,?_,?_⟩
 . rw [<-vlv hgb];exact hw1.trans hw2
 . rw [<-vlv hgb]
   have hM:∀ o,o<vs.length->¬MX E.Mo ρ (appL (frzE η' bs) η') w.heap.size o:=fun o _ hm=>by
    have:=xhq hw1.inv hm
    omega
   have:=vdj (cap:=n) (q:=[]) (by simpa using vs6 w (.cells vs.toArray e)) hrd2 hu (by omega) hM
   rw [hcnt] at this;exact this
def appT (T:Option TypeId) (e:TypeId):Option TypeId:=match T with
 | some t=>if t=e then some e else none
 | none=>none
def dstH (η:List SB) (e:TypeId) (es:Nat) (ik:Option IntKind):SV->Option (Option Nat×Cell×Nat×Option TypeId)
 | .one (.sl b es' 0 n)=>match gB η b with
  | .arr c k T=>if es'=es/\c.esz=es/\n=c.cnt then some (some b,c,k,T) else none
  | _=>none
 | .one (.dat c)=>match isZc c with
  | true=>some (none,xfa es ik,0,some e)
  | false=>none
 | _=>none
def srcH (η:List SB):SV->Option (Cell×List Nat)
 | .one h=>yo0 η h
 | _=>none
def wo9:Option Nat->List (Nat×SB)
 | some b=>[(b,.dead)]
 | none=>[]
def zxi (η:List SB) (nb:Nat) (e:TypeId) (es eb:Nat) (ik:Option IntKind) (x y:SV):Option (List Nat×List (Nat×SB)×SV):=
 match dstH η e es ik x,srcH η y with
 | some (ob,c,k,T),some (cy,bs)=>match yk2 es eb ik c cy with
  | some c'=>if bs.all (fun i=>ob != some i) then some (ob.toList++bs,frzE η bs++(wo9 ob++[(nb,.arr c' k (appT T e))]),.one (.sl nb es 0 c'.cnt)) else none
  | none=>none
 | _,_=>none
theorem za6 {η:List SB} {b:Nat}:∀(bs:List Nat) (η1:List SB),b∉bs->gB (appL (frzE η bs) η1) b=gB η1 b
 | [],_,_=>rfl
 | i::bs,η1,h=>by
  show gB (appL (frzE η bs) (η1.set i (frzB (gB η i)))) b=_;rw [za6 bs _ (fun hb=>h (by simp [hb])),xse (fun e=>h (by simp [e]))]
theorem yf7 (es:Nat) (ik:Option IntKind):(xfa es ik).uni/\(xfa es ik).cnt=0:=by
 cases ik with
 | none=>exact ⟨fun r hr=>(by cases hr),rfl⟩
 | some k=>exact ⟨trivial,rfl⟩
theorem xa8 {Mo:Nat->Nat->Prop} {ρ:Nat->Value} {η:List SB} {w:World} (h:HInv Γ Mo ρ η w) {nb:Nat} (hf:η[nb]? = some .fresh) {e:TypeId} {es n m cap k:Nat} {T:Option TypeId} {c':Cell} {all:List Value} {rest:Array Value}
 (hu:c'.uni) (_hcnt:c'.cnt=n+m) (hk:k<=c'.cnt*c'.esz) (hrd:RdD (MX Mo ρ η) w all c'.flat) (hall:all.length=(n+m)*es) (hcap:n+m<=cap) (hrest:rest.size=(cap-(n+m))*es) :
 Went Γ Mo ρ η w (upd ρ nb (.pointer (some ⟨w.heap.size,0,none⟩))) (η.set nb (.arr c' k (appT T e))) (w.drew.alloc (.cells (all.toArray++rest) e))/\
 HRd (η.set nb (.arr c' k (appT T e))) (upd ρ nb (.pointer (some ⟨w.heap.size,0,none⟩))) (MX Mo (upd ρ nb (.pointer (some ⟨w.heap.size,0,none⟩))) (η.set nb (.arr c' k (appT T e)))) (w.drew.alloc (.cells (all.toArray++rest) e))
  (.slice (some ⟨w.heap.size,0,none⟩) (n+m) cap) (.sl nb es 0 (n+m)):=by
 have hb:Below w.heap.size w (w.drew.alloc (.cells (all.toArray++rest) e)):=((Below.refl _ _).drew).alloc (Nat.le_refl _) _
 have hheap:(w.drew.alloc (.cells (all.toArray++rest) e)).heap[w.heap.size]? = some (.cells (all++rest.toList).toArray e (0,0)):=by
  have:=vs6 w.drew (.cells (all.toArray++rest) e)
  rw [show (all++rest.toList).toArray=all.toArray++rest by apply Array.ext';simp];exact this
 have hlt:nb<η.length:=(List.getElem?_eq_some_iff.1 hf).1;refine ⟨Went.new h hb hf (by simp) (fun _ _=>Nat.le_refl _) (fun m=>⟨⟨hu,hk⟩,.inr ⟨w.heap.size,all,rest.toList,e,rfl,hheap,hrd.keep m.keep,fun t' ht=>?_⟩⟩),?_⟩
 . unfold appT at ht;split at ht
   . split at ht<;>cases ht;rfl
   . cases ht
 . refine ⟨⟨_,by rw [List.getElem?_set_self hlt],by simp⟩,_,cap,rfl,hcap,fun _=>⟨by rw [xjo];simp [real],by rw [xjo];simp [bk,blk],_,e,(0,0),by rw [xjo];exact hheap,?_⟩⟩;simp only [List.size_toArray,List.length_append,Array.length_toList,hall,hrest,Nat.zero_add];rw [<-Nat.add_mul];exact Nat.le_of_eq (by congr 1;omega)
theorem wga {o:Oper} {J:List SV} {η:List SB} {T e:TypeId} {x y:Operand} {d nb es eb:Nat} {ik:Option IntKind} (ho:o.op=.call { callee:=.builtin .append,args:=#[x,y],argTypes:=#[T,T] }) (hdst:o.dst=some d)
 {ti:TI} (hti:mkTI P T=some ti) (hsh:ti.sh=.slice e es eb ik) {rh:List Nat} {heff:List (Nat×SB)} {v:SV} (h:zxi η nb e es eb ik (opdS Γ J x) (opdS Γ J y)=some (rh,heff,v)) (hroom:wo7 η nb=true) :
 wpk Γ P o J η (d::(orr x++orr y)) (nb::rh) [(d,v)] heff:=by
 refine wpk.val hdst (fun E ρ J' η' a w hag hah hI=>?_);obtain ⟨d0,i,z,hd0,hi,hz,_,_,_,_,_,hsh'⟩:=(vq6 hti).ex;obtain ⟨rfl,j,z',hj,hz',hjs,hjb,hes0,hzs,hik⟩:=xhf (hsh'.symm.trans hsh)
 have hes:0<es:=by omega
 have hx:=hI.opd x;have hy:=hI.opd y;rw [hag.opd (fun t ht=>by simp [ht])] at hx hy;unfold zxi at h;split at h
 case h_2=>cases h
 rename_i ob c k T0 cy bs hD hS;split at h
 case h_2=>cases h
 rename_i c' v81;split at h
 case isFalse=>cases h
 rename_i hob
 cases h
 have hnb:∀ b,ob=some b->b∉bs:=fun b e1 hb=>by
  have:=(List.all_eq_true.1 hob) b hb
  rw [e1] at this;simp at this
 obtain ⟨hsv,hS'⟩:∃ hc,opdS Γ J y=.one hc/\yo0 η hc=some (cy,bs):=by
  unfold srcH at hS;split at hS
  . rename_i hc e1;exact ⟨hc,e1,hS⟩
  . cases hS
 obtain ⟨hye,hyd⟩:=hS';rw [hye] at hy
 have hgb:∀ b∈bs,gB η' b=gB η b:=fun b hb=>hah.gB (by simp [hb])
 have hyd':=xvg hyd hgb;have harr:=xoq hyd';obtain ⟨hw1,_,hfz⟩:=Went.frz bs η' hI.inv rfl harr (fun _=>.inl rfl);have hfr:=xm0 harr (hah.room (by simp) hroom);have hyr:=zpt hw1.inv hyd' hfz (HRd.mv hw1.mv hy);have hfe:frzE η bs=frzE η' bs:=(vlv hgb).symm;rw [hfe];simp only [wvp];have hlt:nb<(appL (frzE η' bs) η').length:=(List.getElem?_eq_some_iff.1 hfr).1;generalize hη1:appL (frzE η' bs) η'=η1 at hw1 hfr hyr hfz hlt
 have hexec:∀(vx vy u:Value) (w2:World),a.eval x=vx->a.eval y=vy->(Builtin.append_ #[T,T] o.type #[vx,vy]).run P w=.ok u w2->(execOp a.eval o).run P w=.ok (.value u) w2:=fun vx vy u w2 e1 e2 hr=>by
  rw [ziw ho,show (#[x,y]:Array Operand).map a.eval=#[vx,vy] from by simp [e1,e2]];simp only [builtin,Sem.run_bind,hr];rfl
 have nothing:∀(ad yad:Option Addr) (ycap:Nat),(Builtin.append_ #[T,T] o.type #[.slice ad 0 0,.slice yad 0 ycap]).run P w=.ok (.slice ad 0 0) w:=fun ad yad ycap=>by
  have hf0:(Builtin.firstCells j.size 0 (.slice yad 0 ycap)).run P w=.ok #[] w:=y4l w 0 _ [] ⟨_,_,rfl⟩ (by simp) (.inl rfl)
  cases ad with
  | none=>simp [Builtin.append_,run_underlying hd0,sizeOf,typeInfo,hj,Builtin.lenOf,hf0]
  | some b=>simp [Builtin.append_,run_underlying hd0,sizeOf,typeInfo,hj,Builtin.lenOf,hf0,storeCells]
 unfold dstH at hD;split at hD
 ·
  rename_i b es' n hxe;split at hD
  case h_2=>cases hD
  rename_i c0 k0 T1 hb;split at hD
  case isFalse=>cases hD
  rename_i hc;obtain ⟨rfl,hcz,hn⟩:=hc
  cases hD;rw [hxe] at hx;have hx0:HRd η' ρ (MX E.Mo ρ η') w (a.eval x) (.sl b es' 0 n):=hx;have hx1:=HRd.mv hw1.mv hx0
  have hb':gB η1 b=.arr c k T0:=by
   rw [<-hη1,za6 bs η' (hnb b rfl),hah.gB (by simp)];exact hb
  have hb1:=wep hb' (by simp);have hsb:=hw1.inv.blk b _ hb1;obtain ⟨⟨hu,hk⟩,h0⟩:=hsb;obtain ⟨m,news,fy,⟨yad,ycap,hvy⟩,hnl,hnr,hnc,hu',hcnt',hesz',hcesz,hflat',hb1',hb2'⟩:=yzq hes v81 hu hyr;obtain ⟨_,ad,cap,hv,hle,hcap⟩:=hx1
  have hk':k<=c'.cnt*c'.esz:=by
   rw [hcnt',hesz',<-hcesz,Nat.add_mul];omega
  have hne:nb≠b:=fun e1=>by rw [e1,hb1] at hfr;cases hfr
  have hkf:(η1.set b .dead)[nb]? = some .fresh:=by rw [List.getElem?_set_ne (Ne.symm hne)];exact hfr
  have hnc':news=[]\/∃ b off cap,Value.slice yad m ycap=.slice (some ⟨b,off,none⟩) m cap/\∀ j u,news[j]? = some u->w.cell? ⟨b,off+j,none⟩=some u:=
   hnc.imp id fun ⟨b,off,cap,e,h⟩=>⟨b,off,cap,hvy▸e,fun j u hj=>(h j u hj).2⟩
  show ∃ v w' ρ',_/\Went Γ E.Mo ρ η' w ρ' ((η1.set b .dead).set nb (.arr c' k (appT T0 e))) w'/\SVR ((η1.set b .dead).set nb (.arr c' k (appT T0 e))) ρ' (MX E.Mo ρ' ((η1.set b .dead).set nb (.arr c' k (appT T0 e)))) w' v _;by_cases hcm:cap=0/\m=0
  . obtain ⟨rfl,rfl⟩:=hcm
    have hn0:n=0:=by omega
    subst hn0;have hk0:=Went.kill hw1.inv hb1;have hw2:=Went.new hk0.inv (xs8 w) hkf (v:=.pointer none) (x:=.arr c' k (appT T0 e)) (by simp) (fun _ hr=>absurd rfl hr) (fun m=>⟨⟨hu',hk'⟩,.inl ⟨by rw [hcnt'];omega,rfl⟩⟩);refine ⟨.slice ad 0 0,w,_,hexec _ _ _ _ hv hvy (nothing ad yad ycap),hw1.trans (hk0.trans hw2),⟨_,by rw [List.getElem?_set_self (by simpa using hlt)],by simp⟩,ad,0,?_,by omega,fun h=>absurd rfl h⟩;rw [hcnt',<-hn]
  . by_cases hroom':n+m<=cap
    ·
     obtain ⟨hre,had,arr,Tb,fz,hheap,hsz⟩:=hcap (by omega)
     rcases h0 with ⟨_,e1⟩ | ⟨bb,vs,q,Tb',e1,hh,hr,hT⟩
     . exact absurd e1 hre
     have hbk:bk (ρ b)=bb:=by rw [e1];rfl
     rw [hbk] at had hheap;rw [hh] at hheap
     cases hheap;have hvl:=hr.length;have hfl:=Cell.z4l hu
     have hfit:n*es'+news.length<=(vs++q).length:=by
      have:(n+m)*es'<=(0+cap)*es':=Nat.mul_le_mul_right _ (by omega)
      rw [Nat.add_mul] at this;simp only [List.size_toArray] at hsz;rw [hnl];omega
     have hf:(Builtin.firstCells j.size m (.slice yad m ycap)).run P w=.ok news.toArray w:=y4l w m _ news ⟨_,_,rfl⟩ (by rw [hjs];exact hnl) hnc'
     have hones:∀ u∈news,u.oneCell'=true:=fun u hu=>hnr.oneL u hu
     have hrun:=xe8 (P:=P) hd0 hj w o.type bb Tb n cap (vs++q).toArray hh m (.slice yad m ycap) news ⟨_,_,rfl⟩ (by rw [hjs];exact hnl) hf hones hroom' (by rw [hjs];simpa using hfit);rw [hjs] at hrun
     have hnv:n*es'=vs.length:=by rw [hvl,hfl,hn,hcesz]
     have hnew:(vs++q).toArray.toList.take (n*es')++news++(vs++q).toArray.toList.drop (n*es'+news.length)=(vs++news)++(vs++q).drop (vs.length+news.length):=by
      simp only [hnv,List.take_left',List.append_assoc]
     rw [hnew] at hrun
     have hdrop:(vs++q).drop (vs.length+news.length)=q.drop news.length:=by rw [List.drop_append];simp
     rw [hdrop] at hrun;rw [hnv,List.length_append] at hfit
     have hsize':((vs++news)++q.drop news.length).length=(vs++q).length:=by
      simp only [List.length_append,List.length_drop];omega
     have hwr:=Went.write (w':=w.setRow bb ((vs++news)++q.drop news.length).toArray) (x':=.arr c' k (appT T0 e)) hw1.inv hb1 rfl hre rfl (fun o=>Iff.rfl) (by simp [World.setRow]) rfl rfl rfl (fun kk hk=>setRow_other w bb kk _ (by rw [<-hbk];exact hk))
      (zj2 hh (by simp only [List.size_toArray];omega)) (fun oo u hm hc=>by
        rw [hbk] at hc ⊢;rw [cell_setRow_same w bb oo _ _ _ _ hh]
        have hlt':oo<vs.length:=by
         have:¬k<=oo:=hm
         omega
        simp only [World.cell?,hh,Option.isSome_none,Bool.false_eq_true,if_false,List.getElem?_toArray] at hc;rw [List.getElem?_append_left hlt'] at hc;rw [List.getElem?_toArray,List.append_assoc,List.getElem?_append_left hlt']
        exact hc)
      (fun m'=>⟨⟨hu',hk'⟩,.inr ⟨bb,vs++news,q.drop news.length,Tb,e1,setRow_heap w bb _ _ Tb (0,0) hh,by rw [hflat'];exact (hr.app hnr).keep m'.keep,fun t' ht=>by
        unfold appT at ht;split at ht
        . rename_i t;split at ht
          . rename_i e2;cases ht;rw [<-e2];exact hT t rfl
          . cases ht
        . cases ht⟩⟩)
     have hfr2:(η1.set b (.arr c' k (appT T0 e)))[nb]? = some .fresh:=by rw [List.getElem?_set_ne (Ne.symm hne)];exact hfr
     have hmv:=Went.move hwr.inv (b:=b) (nb:=nb) (x:=.arr c' k (appT T0 e)) (by rw [List.getElem?_set_self (List.getElem?_eq_some_iff.1 hb1).1]) rfl hfr2;rw [List.set_set] at hmv;subst had;refine ⟨_,_,_,hexec _ _ _ _ hv hvy (by rw [Nat.zero_mul];exact hrun),hw1.trans (hwr.trans hmv),⟨_,by rw [List.getElem?_set_self (by simpa using hlt)],by simp⟩,_,cap,?_,?_,fun _=>⟨by rw [xjo];exact hre,by rw [xjo,hbk,Nat.zero_mul],_,Tb,(0,0),by rw [xjo,hbk];exact setRow_heap w bb _ _ Tb (0,0) hh,?_⟩⟩
     . rw [hcnt',<-hn]
     . rw [hcnt',<-hn];exact hroom'
     . simp only [List.size_toArray] at hsz ⊢;rw [hsize'];exact hsz
    ·
     have hold:cap<n+m:=by omega
     have hxs:∃ xs:List Value,RdD (MX E.Mo ρ η1) w xs c.flat/\(xs=[]\/∃ g cap',Value.slice ad n cap=.slice (some ⟨g,0,none⟩) n cap'/\∀ j u,xs[j]? = some u->w.cell? ⟨g,0+j,none⟩=some u):=by
      by_cases h00:n=0
      . have hf0:c.flat=[]:=List.eq_nil_of_length_eq_zero (by rw [Cell.z4l hu,<-hn,h00];simp);rw [hf0];exact ⟨[],trivial,.inl rfl⟩
      . obtain ⟨hre,had,arr,Tb,fz,hheap,hsz⟩:=hcap (by omega)
        rcases h0 with ⟨h00',_⟩ | ⟨bb,vs,q,Tb',e1,hh,hr,hT⟩
        . omega
        . have hbk:bk (ρ b)=bb:=by rw [e1];rfl
          rw [hbk] at had;refine ⟨vs,hr,.inr ⟨bb,cap,by rw [had];simp,fun jj u hj=>?_⟩⟩;rw [Nat.zero_add];exact x9h hh hj
     obtain ⟨xs,hxr,hxc⟩:=hxs
     have hxl:xs.length=n*es':=by rw [hxr.length,Cell.z4l hu,hn,hcesz]
     have hfd:(Builtin.firstCells j.size m (.slice yad m ycap)).run P w.drew=.ok news.toArray w.drew:=y4l w.drew m _ news ⟨_,_,rfl⟩ (by rw [hjs];exact hnl) hnc';have hfo:(Builtin.firstCells j.size n (.slice ad n cap)).run P w.drew=.ok xs.toArray w.drew:=y4l w.drew n _ xs ⟨_,_,rfl⟩ (by rw [hjs];exact hxl) (hxc.imp id fun ⟨g,cap',e1,hc⟩=>⟨g,0,cap',e1,hc⟩);have hrun:=xpo (P:=P) hd0 hj hz' w o.type hfd hfo hold (by rw [hjb,hn];exact hb1') (by rw [hn];exact hb2');have hge:=grownCap_ge w (n+m) cap e;have hk0:=Went.kill hw1.inv hb1;have hgn:=xa8 hk0.inv hkf (e:=e) (es:=es') (n:=n) (m:=m) (cap:=grownCap w (n+m) cap e) (k:=k) (T:=T0) (c':=c') (all:=xs++news) (rest:=Builtin.zeroCells z'.cells (grownCap w (n+m) cap e-(n+m))) hu' (by rw [hcnt',<-hn]) hk'
      (by rw [hflat'];exact (hxr.app hnr).keep hk0.keep) (by rw [List.length_append,hxl,hnl,Nat.add_mul]) hge (by rw [size_zeroCells,hzs])
     refine ⟨_,_,_,hexec _ _ _ _ hv hvy hrun,hw1.trans (hk0.trans hgn.1),?_⟩;rw [hcnt',<-hn];exact hgn.2
 ·
  rename_i c0 hxe;split at hD
  case h_2=>cases hD
  rename_i hzc
  cases hD;rw [hxe] at hx;obtain ⟨hu,hcnt0⟩:=yf7 es ik;obtain ⟨ad,hv⟩:=zbr (τ:=fun _=>⟨Go.undef,0⟩) hzc (RdT.of (show RdC _ w (a.eval x) c0 from hx));obtain ⟨m,news,fy,⟨yad,ycap,hvy⟩,hnl,hnr,hnc,hu',hcnt',hesz',hcesz,hflat',hb1',hb2'⟩:=yzq hes v81 hu hyr;rw [hcnt0] at hcnt' hb1' hb2';show ∃ v w' ρ',_/\Went Γ E.Mo ρ η' w ρ' (η1.set nb (.arr c' 0 (appT (some e) e))) w'/\SVR (η1.set nb (.arr c' 0 (appT (some e) e))) ρ' (MX E.Mo ρ' (η1.set nb (.arr c' 0 (appT (some e) e)))) w' v _;by_cases hm0:m=0
  . subst hm0;have hw2:=Went.new hw1.inv (xs8 w) hfr (v:=.pointer none) (x:=.arr c' 0 (appT (some e) e)) (by simp) (fun _ hr=>absurd rfl hr) (fun m=>⟨⟨hu',Nat.zero_le _⟩,.inl ⟨by rw [hcnt'],rfl⟩⟩);refine ⟨.slice ad 0 0,w,_,hexec _ _ _ _ hv hvy (nothing ad yad ycap),hw1.trans hw2,⟨_,by rw [List.getElem?_set_self hlt],by simp⟩,ad,0,?_,by omega,fun h=>absurd rfl h⟩;rw [hcnt']
  . have hnc':news=[]\/∃ b off cap,Value.slice yad m ycap=.slice (some ⟨b,off,none⟩) m cap/\∀ j u,news[j]? = some u->w.cell? ⟨b,off+j,none⟩=some u:=
     hnc.imp id fun ⟨b,off,cap,e,h⟩=>⟨b,off,cap,hvy▸e,fun j u hj=>(h j u hj).2⟩
    have hfd:(Builtin.firstCells j.size m (.slice yad m ycap)).run P w.drew=.ok news.toArray w.drew:=y4l w.drew m _ news ⟨_,_,rfl⟩ (by rw [hjs];exact hnl) hnc';have hfo:(Builtin.firstCells j.size 0 (.slice ad 0 0)).run P w.drew=.ok ([]:List Value).toArray w.drew:=y4l w.drew 0 _ [] ⟨_,_,rfl⟩ (by simp) (.inl rfl);have hrun:=xpo (P:=P) hd0 hj hz' w o.type hfd hfo (by omega) (by rw [hjb];exact hb1') hb2';have hge:=grownCap_ge w (0+m) 0 e;have hf0:(xfa es ik).flat=[]:=List.eq_nil_of_length_eq_zero (by rw [Cell.z4l hu,hcnt0];simp);have hgn:=xa8 hw1.inv hfr (e:=e) (es:=es) (n:=0) (m:=m) (cap:=grownCap w (0+m) 0 e) (k:=0) (T:=some e) (c':=c') (all:=[]++news) (rest:=Builtin.zeroCells z'.cells (grownCap w (0+m) 0 e-(0+m))) hu' hcnt' (Nat.zero_le _)
     (by rw [hflat',hf0];exact hnr) (by rw [List.nil_append,hnl,Nat.zero_add]) hge (by rw [size_zeroCells,hzs])
    refine ⟨_,_,_,hexec _ _ _ _ hv hvy hrun,hw1.trans hgn.1,?_⟩;rw [hcnt'];exact hgn.2
 . cases hD
def kEq0:Value->Value->Option Bool
 | .int k a,.int k' b=>if k=k' then some (a==b) else none
 | .string a,.string b=>some (seq a b)
 | .bool a,.bool b=>some (a==b)
 | _,_=>none
def eqL:List Value->List Value->Option Bool
 | [],[]=>some true
 | a::as,b::bs=>match kEq0 a b,eqL as bs with
  | some p,some q=>some (p&&q)
  | _,_=>none
 | _,_=>none
def kEq:Value->Value->Option Bool
 | .int k a,.int k' b=>if k=k' then some (a==b) else none
 | .string a,.string b=>some (seq a b)
 | .bool a,.bool b=>some (a==b)
 | .agg a,.agg b=>eqL a.toList b.toList
 | _,_=>none
def xpi:List (Value×SV)->Value->Option (Option SV)
 | [],_=>some none
 | (k',x)::r,k=>match kEq k k' with
  | some true=>some (some x)
  | some false=>xpi r k
  | none=>none
def updM:List (Value×SV)->Value->SV->Option (List (Value×SV))
 | [],k,v=>some [(k,v)]
 | (k',x)::r,k,v=>match kEq k k' with
  | some true=>some ((k,v)::r)
  | some false=>(updM r k v).map ((k',x)::·)
  | none=>none
def xjk (sh:Sh):Value->Bool
 | .int k _=>match sh with
  | .int k'=>k==k'
  | _=>false
 | .string _=>match sh with
  | .string=>true
  | _=>false
 | .bool _=>match sh with
  | .bool=>true
  | _=>false
 | _=>false
def keyV:SV->Option Value
 | .one (.dat (.raw v))=>some v
 | _=>none
theorem xtf {d:TypeDesc} {k:Value} (h:xjk (shOf P d) k=true):(∃ q n,d=.int q/\k=.int q n)\/(∃ s,d=.string/\k=.string s)\/(∃ b,d=.bool/\k=.bool b):=by
 unfold xjk at h;split at h
 . rename_i q n;split at h
   . rename_i q' hs
     have:=vsd hs
     subst this;simp only [beq_iff_eq] at h;subst h;exact .inl ⟨_,_,rfl,rfl⟩
   . cases h
 . split at h
   . rename_i s _ hs;exact .inr (.inl ⟨_,zur hs,rfl⟩)
   . cases h
 . split at h
   . rename_i b _ hs;exact .inr (.inr ⟨_,xsw hs,rfl⟩)
   . cases h
 . cases h
theorem run_checkKey {kt:TypeId} {tk:TI} (htk:mkTI P kt=some tk) {k:Value} (hk:xjk tk.sh k=true) (b:Bool) (n:Nat) (w:World):(Instr.checkKey b (n+1) kt k).run P w=.ok () w:=by
 obtain ⟨d,i,z,hd,_,_,_,_,_,_,_,hsh⟩:=(vq6 htk).ex;rw [hsh] at hk
 rcases xtf hk with ⟨q,n,rfl,rfl⟩ | ⟨s,rfl,rfl⟩ | ⟨b,rfl,rfl⟩<;>simp [Instr.checkKey,zp8 hd]
theorem ymr {d:TypeDesc} {k k':Value} (h:xjk (shOf P d) k=true):Instr.sameNow d k k'=kEq k k':=by
 rcases xtf h with ⟨q,n,rfl,rfl⟩ | ⟨s,rfl,rfl⟩ | ⟨b,rfl,rfl⟩<;>cases k'<;>first | rfl | exact congrArg some (beq_toListBytes _ _)
section
variable {η:List SB} {ρ:Nat->Value} {M:Nat->Nat->Prop} {w:World}
theorem zbt {d:TypeDesc} {k:Value} (hk:xjk (shOf P d) k=true):∀{es:List MapEntry} {l:List (Value×SV)} (i:Nat),EnR η ρ M w es l->∀{r:Option SV},xpi l k=some r->
 (r=none/\Instr.findNow d k es i=some none)\/∃ x j v,r=some x/\Instr.findNow d k es i=some (some (j,v))/\SVR0 η ρ M w v x
 | [],[],i,_,r,h=>by cases h;exact .inl ⟨rfl,rfl⟩
 | e::es,(k',x)::l,i,hr,r,h=>by
  simp only [xpi] at h
  have hs:Instr.sameNow d k e.key=kEq k k':=by rw [ymr hk,hr.1.1]
  unfold Instr.findNow;rw [hs];split at h
  . rename_i he;cases h;rw [he];exact .inr ⟨x,i,e.val,rfl,rfl,hr.1.2⟩
  . rename_i he;rw [he];exact zbt hk (i+1) hr.2 h
  . cases h
theorem xpp {d:TypeDesc} {k:Value} (hk:xjk (shOf P d) k=true) {v:Value} {x:SV} (hv:SVR0 η ρ M w v x) (clk:Nat):∀{es:List MapEntry} {l l':List (Value×SV)} (i:Nat),EnR η ρ M w es l->updM l k x=some l'->
 (Instr.findNow d k es i=some none/\EnR η ρ M w (es++[{ key:=k,val:=v,born:=clk }]) l')\/
 ∃ j u e,Instr.findNow d k es i=some (some (i+j,u))/\es[j]? = some e/\kEq k e.key=some true/\EnR η ρ M w (es.modify j fun e=>{ e with key:=k,val:=v }) l'
 | [],[],l',i,_,h=>by cases h;exact .inl ⟨rfl,⟨⟨rfl,hv⟩,trivial⟩⟩
 | e::es,(k',y)::l,l',i,hr,h=>by
  simp only [updM] at h
  have hs:Instr.sameNow d k e.key=kEq k k':=by rw [ymr hk,hr.1.1]
  unfold Instr.findNow;rw [hs];split at h
  . rename_i he
    cases h;rw [he];exact .inr ⟨0,e.val,e,rfl,rfl,by rw [hr.1.1];exact he,⟨⟨rfl,hv⟩,hr.2⟩⟩
  . rename_i he;obtain ⟨l2,h2,rfl⟩:=Option.map_eq_some_iff.1 h;rw [he]
    rcases xpp hk hv clk (i+1) hr.2 h2 with ⟨h3,h4⟩ | ⟨j,u,e',h3,h4,h5,h6⟩
    . exact .inl ⟨h3,⟨hr.1,h4⟩⟩
    . exact .inr ⟨j+1,u,e',by rw [show i+(j+1)=i+1+j by omega];exact h3,by simpa using h4,h5,⟨hr.1,h6⟩⟩
  . cases h
end
theorem voa {d:TypeDesc} {k k':Value} (hk:xjk (shOf P d) k=true) (h:kEq k k'=some true) (n:Nat):Instr.sameBits n k' k=true:=by
 rcases xtf hk with ⟨q,m,rfl,rfl⟩ | ⟨s,rfl,rfl⟩ | ⟨b,rfl,rfl⟩
 . cases k'<;>simp only [kEq] at h<;>first | (cases h;done) | skip
   split at h
   . rename_i e;simp at h;subst e;subst h;simp [Instr.sameBits]
   . cases h
 . cases k'<;>simp only [kEq] at h<;>first | (cases h;done) | skip
   have e:=(MapKept.bytes_beq _ _).1 ((beq_toListBytes _ _).trans (Option.some.inj h));subst e;simp only [Instr.sameBits];exact (MapKept.bytes_beq _ _).2 rfl
 . cases k'<;>simp only [kEq] at h<;>first | (cases h;done) | skip
   simp at h;subst h;simp [Instr.sameBits]
def zeroV:Value->Option SV
 | .agg vs=>if vs.toList.all (·.oneCell') then some (.agg ((vs.toList.map zto).map .dat)) else none
 | .tuple _=>none
 | v=>some (.one (.dat (zto v)))
def vaz (P:Program) (t:TypeId):Option SV:=match P.info? t with
 | some i=>match i.zero with
  | some z=>zeroV z
  | none=>none
 | none=>none
theorem w8u {t : TypeId} {x : SV} (h : vaz P t = some x) : ∃ z, (∀ w, (zeroValue t).run P w = .ok z w) ∧ ∀ (η : List SB) (ρ : Nat → Value) (M : Nat → Nat → Prop) (w : World), SVR0 η ρ M w z x := by
 unfold vaz at h;split at h
 . rename_i i hi;split at h
   . rename_i z hz;refine ⟨z,fun w=>zef hi hz,fun η ρ M w=>?_⟩;unfold zeroV at h;split at h
     . rename_i vs;split at h
       . rename_i hall
         cases h;exact ⟨vs.toList,by simp,x6l (fun v hv=>(List.all_eq_true.1 hall) v hv)⟩
       . cases h
     . cases h
     . rename_i h1 h2
       cases h;refine z8w ?_
       cases z<;>first | rfl | exact absurd rfl (h1 _) | exact absurd rfl (h2 _)
   . cases h
 . cases h
theorem y50 {o:Oper} {J:List SV} {η:List SB} {T:TypeId} {d nb:Nat} (ho:o.op=.makeMap T none) (hdst:o.dst=some d) (hroom:wo7 η nb=true) :
 wpk Γ P o J η [d] [nb] [(d,.one (.mp nb))] [(nb,.map [])]:=by
 refine wpk.val hdst (fun E ρ J' η' a w hag hah hI=>?_);have hfr:=hah.room (by simp) hroom;have hlt:nb<η'.length:=(List.getElem?_eq_some_iff.1 hfr).1;have hb:Below w.heap.size w (w.alloc (.map #[] 0)):=(Below.refl _ _).alloc (Nat.le_refl _) _;refine ⟨.map (some w.heap.size),w.alloc (.map #[] 0),upd ρ nb (.map (some w.heap.size)),?_,Went.new hI.inv hb hfr (by simp) (fun _ _=>Nat.le_refl _) (fun m=>⟨w.heap.size,#[],0,rfl,vs6 w _,trivial,rfl,fun i e h=>by simp at h⟩),?_⟩
 . simp [execOp,ho,Instr.makeMap]
 . exact ⟨⟨_,by simp [appL,hlt];rfl,by simp⟩,by rw [xjo],rfl⟩
def z8c (ok:Bool) (r:Option SV) (zero:SV):SV:=match ok with
 | true=>match r with
  | some x=>.tup [x,.one (.dat (.raw (.bool true)))]
  | none=>.tup [zero,.one (.dat (.raw (.bool false)))]
 | false=>match r with
  | some x=>x
  | none=>zero
def xe2 (η:List SB):SV->Option (Nat×List (Value×SV))
 | .one (.mp b)=>match gB η b with
  | .map es=>some (b,es)
  | _=>none
 | _=>none
theorem vd2 {o:Oper} {J:List SV} {η:List SB} {T kt et:TypeId} {x y:Operand} {ok:Bool} {d b:Nat} (ho:o.op=.lookup T x y ok) (hdst:o.dst=some d) {ti tk:TI} (hti:mkTI P T=some ti) (hsh:ti.sh=.map kt et) (htk:mkTI P kt=some tk)
 {es:List (Value×SV)} (hm:xe2 η (opdS Γ J x)=some (b,es)) {k:Value} (hkv:keyV (opdS Γ J y)=some k) (hk:xjk tk.sh k=true) {r:Option SV} (hr:xpi es k=some r) {zero:SV} (hz:vaz P et=some zero) :
 wpk Γ P o J η (d::(orr x++orr y)) [b] [(d,z8c ok r zero)] []:=by
 refine wpk.pure hdst (fun E ρ J' η' a w hag hah hI=>?_);have hx:=hI.opd x;have hy:=hI.opd y;rw [hag.opd (fun t ht=>by simp [ht])] at hx hy;unfold xe2 at hm;split at hm
 case h_2=>cases hm
 rename_i b' hxe;split at hm
 case h_2=>cases hm
 rename_i es' hb
 cases hm;rw [hxe] at hx
 have hb':gB η' b=.map es:=by rw [hah.gB (by simp)];exact hb
 obtain ⟨bb,ents,clk,he,hh,hen,hB⟩:=hI.sbr hb' (by simp)
 have hkey:a.eval y=k:=by
  unfold keyV at hkv;split at hkv
  . rename_i v hye;cases hkv;rw [hye] at hy;exact RdC.xbx hy
  . cases hkv
 obtain ⟨dd,i,z,hd,hi,hz',_,_,_,_,_,hsh'⟩:=(vq6 hti).ex;have hmap:=vay (hsh'.symm.trans hsh);subst hmap;obtain ⟨dk,ik,zk,hdk,_,_,_,_,_,_,_,hshk⟩:=(vq6 htk).ex
 have hmv:a.eval x=.map (some bb):=by rw [hx.2.1,he]
 obtain ⟨zv,hzrun,hzr⟩:=w8u hz;have hck:=run_checkKey htk hk ents.isEmpty 9999 w
 have hk':xjk (shOf P dk) k=true:=by rw [<-hshk];exact hk
 have hrun:∀ fo,Instr.findNow dk k ents.toList 0=some fo->(Instr.lookup T (.map (some bb)) k ok).run P w=.ok (if ok then .tuple #[(fo.map (·.2)).getD zv,.bool fo.isSome] else (fo.map (·.2)).getD zv) w:=fun fo hfo=>by
  cases fo with
  | none=>cases ok<;>simp [Instr.lookup,zp8 hd,getObj,Sem.run,hh,hck,Instr.findKey,zp8 hdk,hfo,hzrun]
  | some p=>cases ok<;>simp [Instr.lookup,zp8 hd,getObj,Sem.run,hh,hck,Instr.findKey,zp8 hdk,hfo]
 rcases zbt hk' 0 hen hr with ⟨rfl,hf⟩ | ⟨xx,j,v,rfl,hf,hv⟩
 . refine ⟨_,by simp only [execOp,ho,hmv,hkey,Sem.run_bind,hrun _ hf];rfl,?_⟩
   cases ok
   . exact SVR.of0 (hzr _ _ _ _)
   . exact ⟨[zv,.bool false],rfl,hzr _ _ _ _,RdC.raw rfl,trivial⟩
 . refine ⟨_,by simp only [execOp,ho,hmv,hkey,Sem.run_bind,hrun _ hf];rfl,?_⟩
   cases ok
   . exact SVR.of0 hv
   . exact ⟨[v,.bool true],rfl,hv,RdC.raw rfl,trivial⟩
def xnf:SV->Bool
 | .tup _=>false
 | _=>true
theorem SVR.to0 {η:List SB} {ρ:Nat->Value} {M:Nat->Nat->Prop} {w:World} {v:Value} {x:SV} (hn:xnf x=true) (h:SVR η ρ M w v x):SVR0 η ρ M w v x:=by
 cases x<;>first | exact h | cases hn
theorem vw8 {o:Oper} {J:List SV} {η:List SB} {T kt et:TypeId} {x y z:Operand} {b:Nat} (ho:o.op=.mapUpdate T x y z\/o.op=.insert T x y z) (hdst:o.dst=none) {ti tk:TI} (hti:mkTI P T=some ti) (hsh:ti.sh=.map kt et) (htk:mkTI P kt=some tk)
 {es es':List (Value×SV)} (hm:xe2 η (opdS Γ J x)=some (b,es)) {k:Value} (hkv:keyV (opdS Γ J y)=some k) (hk:xjk tk.sh k=true) (hn:xnf (opdS Γ J z)=true) (hu:updM es k (opdS Γ J z)=some es') :
 wpk Γ P o J η (orr x++orr y++orr z) [b] [] [(b,.map es')]:=by
 refine wpk.skip hdst (fun E ρ J' η' a w hag hah hI=>?_);have hx:=hI.opd x;have hy:=hI.opd y;have hz:=hI.opd z;rw [hag.opd (fun t ht=>by simp [ht])] at hx hy hz;unfold xe2 at hm;split at hm
 case h_2=>cases hm
 rename_i b' hxe;split at hm
 case h_2=>cases hm
 rename_i es0 hb
 cases hm;rw [hxe] at hx
 have hb':gB η' b=.map es:=by rw [hah.gB (by simp)];exact hb
 obtain ⟨bb,ents,clk,he,hh,hen,hB⟩:=hI.sbr hb' (by simp)
 have hkey:a.eval y=k:=by
  unfold keyV at hkv;split at hkv
  . rename_i v hye;cases hkv;rw [hye] at hy;exact RdC.xbx hy
  . cases hkv
 obtain ⟨dd,i,zz,hd,hi,hz',_,_,_,_,_,hsh'⟩:=(vq6 hti).ex;have hmap:=vay (hsh'.symm.trans hsh);subst hmap;obtain ⟨dk,ik,zk,hdk,_,_,_,_,_,_,_,hshk⟩:=(vq6 htk).ex
 have hmv:a.eval x=.map (some bb):=by rw [hx.2.1,he]
 have hck:=run_checkKey htk hk false 9999 w
 have hk':xjk (shOf P dk) k=true:=by rw [<-hshk];exact hk
 have hbk:bk (ρ b)=bb:=by rw [he];rfl
 have fin:∀ ob:Obj,(∃ en' clk',ob=.map en' clk'/\EnR η' ρ (MX E.Mo ρ η') w en'.toList es'/\xgz en' clk')->(Instr.mapUpdate T (.map (some bb)) k (a.eval z)).run P w=.ok () { w with heap:=w.heap.setIfInBounds bb ob }->
  ∃ w' ρ',(execOp a.eval o).run P w=.ok .skip w'/\Went Γ E.Mo ρ η' w ρ' (appL [(b,.map es')] η') w':=fun ob hob hrun=>by
  obtain ⟨en',clk',rfl,hen',hB'⟩:=hob;have hlt:bb<w.heap.size:=(Array.getElem?_eq_some_iff.1 hh).1;refine ⟨{ w with heap:=w.heap.setIfInBounds bb (.map en' clk') },ρ,?_,Went.write hI.inv (wep hb' (by simp)) rfl (by rw [he];simp [real]) rfl (fun o=>Iff.rfl) (by simp) rfl rfl rfl (fun kk hkk=>?_) (fun i arr T fz hi'=>?_) (fun oo u _ hc=>?_) (fun m=>⟨bb,en',clk',he,by simp [hlt],hen'.mv m,hB'⟩)⟩
  . rcases ho with ho | ho<;>simp [execOp,ho,hmv,hkey,hrun]
  . rw [hbk] at hkk;simp only [Array.getElem?_setIfInBounds_ne (Ne.symm hkk)]
  . by_cases e:i=bb
    . subst e;rw [hh] at hi';cases hi'
    . exact ⟨arr,T,fz,by simp only [Array.getElem?_setIfInBounds_ne (Ne.symm e)];exact hi',Nat.le_refl _⟩
  . rw [hbk] at hc;simp [World.cell?,hh] at hc
 rcases xpp hk' (hz.to0 hn) clk 0 hen hu with ⟨hf,hen'⟩ | ⟨j,u,e,hf,hj,hq,hen'⟩
 . refine fin (.map (ents.push { key:=k,val:=a.eval z,born:=clk }) (clk+1)) ⟨_,_,rfl,by simpa using hen',hB.push _ _⟩ ?_;simp [Instr.mapUpdate,zp8 hd,getObj,setObj,Sem.run,hh,hck,Instr.findKey,zp8 hdk,hf]
 . refine fin (.map (ents.modify j fun e=>{ e with key:=k,val:=a.eval z }) clk) ⟨_,_,rfl,by simpa using hen',hB.modify _ _ (fun _=>rfl)⟩ ?_;rw [Nat.zero_add] at hf
   have hj':ents[j]? = some e:=by simpa using hj
   have hsb:=voa hk' hq 10000;simp [Instr.mapUpdate,zp8 hd,getObj,setObj,Sem.run,hh,hck,Instr.findKey,zp8 hdk,hf,Instr.keyThatStays,hj',hsb]
end Go.Hp
