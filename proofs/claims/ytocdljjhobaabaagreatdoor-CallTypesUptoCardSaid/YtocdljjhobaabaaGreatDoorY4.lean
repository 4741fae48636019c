/- The proof, part Y4: Mi, Mj. -/
import Derived.Test.YtocdljjhobaabaaGreatDoorY3
namespace Go.Slot
open Go Go.RowKit
variable {P:Program}
def x0b (place:Nat->Option (Nat×Nat)) (cs:List Cell):List (Nat×AV)->Option (List Cell)
 | []=>some cs
 | (i,av)::r=>match place i,zyf av with
  | some (off,size),some us=>if us.length=size/\off+size<=cs.length then x0b place (cs.take off++us++cs.drop (off+size)) r else none
  | _,_=>none
def w8s (σ:List AV):List (Nat×Operand)->List (Nat×AV)
 | []=>[]
 | (i,x)::r=>(i,opd σ x)::w8s σ r
def orrs:List (Nat×Operand)->List Nat
 | []=>[]
 | (_,x)::r=>orr x++orrs r
theorem y77 (off:Nat):∀(vs:List Value) (k:Nat) (cells:Array Value),off+k+vs.length<=cells.size->
 ((vs.zipIdx k).foldl (fun (cs:Array Value) (p:Value×Nat)=>cs.setIfInBounds (off+p.2) p.1) cells).toList=cells.toList.take (off+k)++vs++cells.toList.drop (off+k+vs.length)
 | [],k,cells,h=>by simp
 | v::vs,k,cells,h=>by
  simp only [List.zipIdx_cons,List.foldl_cons]
  have hlen:off+k<cells.size:=by simp at h;omega
  rw [y77 off vs (k+1) _ (by simp at h ⊢;omega)];simp only [Array.toList_setIfInBounds];rw [y7r _ _ _ (by simpa using hlen)]
  have h1:off+(k+1)=(cells.toList.take (off+k)++[v]).length:=by simp;omega
  rw [h1,List.take_left];have h2:(cells.toList.take (off+k)++[v]).length+vs.length=(cells.toList.take (off+k)++[v]).length+vs.length:=rfl;rw [List.drop_append];simp only [List.drop_drop]
  have h3:(cells.toList.take (off+k)++[v]).drop ((cells.toList.take (off+k)++[v]).length+vs.length)=[]:=by
   apply List.drop_eq_nil_of_le;omega
  rw [h3];simp only [List.nil_append,List.append_assoc,List.cons_append,List.length_cons]
  congr 3
  congr 1
  simp;omega
theorem yh6 {E:Env} {τ:Nat->TV} {M:Nat->Nat->Prop} {σ:List AV} {a:Act} {w:World} (hI:RelI E τ M σ a w) (place:Nat->Option (Nat×Nat)):∀(ps:List (Nat×Operand)) (cells:Array Value) (cs cs':List Cell),
 RdL M w τ cells.toList cs->x0b place cs (w8s σ ps)=some cs'->∃ cells',Instr.fill place cells (ps.map fun p=>(p.1,a.eval p.2))=some cells'/\RdL M w τ cells'.toList cs'
 | [],cells,cs,cs',hr,h=>by
  simp only [w8s,x0b,Option.some.injEq] at h;subst h;exact ⟨cells,rfl,hr⟩
 | (i, x) :: ps, cells, cs, cs', hr, h => by
  simp only [w8s,x0b] at h;split at h
  . rename_i off size us hp hu;split at h
    . rename_i hc;obtain ⟨h1,h2⟩:=hc;have hv:=zm1 hu (hI.opd x)
      have hvl:(a.eval x).cells.size=size:=by rw [<-h1,<-hv.length];simp
      have hcl:cells.size=cs.length:=by rw [<-hr.length];simp
      have hfold:((a.eval x).cells.zipIdx.foldl (fun cs (p:Value×Nat)=>cs.setIfInBounds (off+p.2) p.1) cells).toList=cells.toList.take off++(a.eval x).cells.toList++cells.toList.drop (off+size):=by
       have:=y77 off (a.eval x).cells.toList 0 cells (by simp [hvl];omega)
       rw [<-Array.foldl_toList];simpa [hvl] using this
      obtain ⟨cells',hf,hr'⟩:=yh6 hI place ps ((a.eval x).cells.zipIdx.foldl (fun cs (p:Value×Nat)=>cs.setIfInBounds (off+p.2) p.1) cells) _ cs' (by
       rw [hfold]
       exact ((hr.take off).append hv).append (hr.drop _)) h
      refine ⟨cells',?_,hr'⟩;simp only [List.map_cons,Instr.fill,hp];rw [if_neg]
      . exact hf
      . simp only [hvl,ne_eq,not_true_eq_false,decide_false,Bool.false_or,decide_eq_true_eq];omega
    . cases h
  . cases h
theorem yt9 {place:Nat->Option (Nat×Nat)} {σ:List AV} {t:Nat}:∀(ps:List (Nat×Operand)) (cs cs':List Cell),x0b place cs (w8s σ ps)=some cs'->wj1 t cs'->wj1 t cs\/live σ t
 | [],cs,cs',h,ht=>by
  simp only [w8s,x0b,Option.some.injEq] at h;subst h;exact .inl ht
 | (i, x) :: ps, cs, cs', h, ht => by
  simp only [w8s,x0b] at h;split at h
  . rename_i off size us hp hu;split at h
    . rcases yt9 ps _ cs' h ht with h' | h'
      . rcases zrw h' with h' | h'
        . rcases zrw h' with h' | h'
          . exact .inl (zaa h')
          . exact .inr (x46 (vgv hu h'))
        . exact .inl (wmi h')
      . exact .inr h'
    . cases h
  . cases h
def placeOf (sh:Sh):Nat->Option (Nat×Nat):=match sh with
 | .struct fs=>fun i=>(fs[i]?).map fun f=>(f.1,f.2.1)
 | .array _ _ es=>fun i=>some (i*es,es)
 | _=>fun _=>none
def whu (σ:List AV) (ti:TI) (parts:List (Nat×Operand)):Option AV:=
 (x0b (placeOf ti.sh) ti.zc (w8s σ parts)).map .agg
theorem mapM_some {α β:Type} (f:α->Option β) (g:α->β):∀(l:List α),(∀ x∈l,f x=some (g x))->l.mapM f=some (l.map g)
 | [],_=>rfl
 | x::l,h=>by simp [List.mapM_cons,h x (by simp),mapM_some f g l (fun y hy=>h y (by simp [hy]))]
theorem xtr {σ σ':List AV}:∀(ps:List (Nat×Operand)),(∀ x:Operand,(∀ t∈orr x,t∈orrs ps)->opd σ' x=opd σ x)->w8s σ' ps=w8s σ ps
 | [],_=>rfl
 | (i,x)::ps,h=>by
  simp only [w8s];rw [h x (fun t ht=>by simp [orrs,ht]),xtr ps (fun y hy=>h y (fun t ht=>by simp [orrs,hy t ht]))]
theorem yc2 {σ:List AV} {o:Oper} {T:TypeId} {parts:List (Nat×Operand)} (ho:o.op=.build T parts.toArray) {ti:TI} (hti:mkTI P T=some ti)
 (harr:∀ n e es,ti.sh=.array n e es->es≠0) {av:AV} (hb:whu σ ti parts=some av) (hagg:ti.sh.agg=true)
 {r:List Nat×List (Nat×AV)} (h:val σ o (orrs parts) av=some r):ztu P o σ r.1 [] r.2:=by
 have hok:=xky hti;obtain ⟨d,i,z,hd,hi,hz,hsz,_,hzs,hone,hzc,hsh⟩:=hok.ex;unfold whu at hb;simp only [Option.map_eq_some_iff] at hb;obtain ⟨cs',hf,rfl⟩:=hb;refine ztu.pure h rfl rfl (fun E τ M σ' a w hop hgt hI=>?_);have hav:w8s σ' parts=w8s σ parts:=xtr parts hop
 have hz0:RdL M w τ z.cells.toList ti.zc:=by rw [hzc];exact zhc hone
 obtain ⟨cells',hfill,hrd⟩:=yh6 hI (placeOf ti.sh) parts z.cells ti.zc cs' hz0 (by rw [hav];exact hf)
 have hbuilt:P.built T (parts.map fun p=>(p.1,a.eval p.2))=some cells':=by
  unfold Program.built;rw [hi,hd];rw [hsh] at hagg
  rcases xpk hagg with ⟨fl,rfl⟩ | ⟨n,e,rfl⟩
  . have hst:∃ fs,ti.sh=.struct fs:=by
     rw [hsh];unfold shOf at hagg ⊢;dsimp only at hagg ⊢;split at hagg
     . exact ⟨_,by rename_i hc;rw [if_pos hc]⟩
     . cases hagg
    obtain ⟨fs,hfs⟩:=hst;obtain ⟨fl',e1,rfl,hne⟩:=x8t (hsh.symm.trans hfs)
    cases e1;have hpl:fl.toList.mapM (fun f=>(P.info? f.type).map fun i=>(f.offset,i.size))=some (fl.toList.map fun f=>(f.offset,P.cellsOf f.type)):=
     mapM_some _ _ _ (fun f hf=>by
      obtain ⟨j,hj,hjs⟩:=vic (hne f hf)
      simp [hj,hjs])
    simp only [hz,hpl];rw [hfs] at hfill;rw [<-hfill]
    congr 1
    funext x
    simp [placeOf];rfl
  . have har:ti.sh=.array n e (P.cellsOf e):=hsh;obtain ⟨j,hj,hjs⟩:=vic (harr _ _ _ har);simp only [hz,hj];rw [har] at hfill;rw [<-hfill,hjs];rfl
 refine ⟨.agg cells',?_,⟨cells'.toList,by simp,hrd⟩,fun t ht=>?_⟩
 . have hrun:=run_build (P:=P) w T (parts.map fun p=>(p.1,a.eval p.2)).toArray cells' (by simpa using hbuilt);simp only [execOp,ho]
   have he:(parts.toArray.map fun (p:Nat×Operand)=>(p.1,a.eval p.2))=(parts.map fun p=>(p.1,a.eval p.2)).toArray:=by simp
   have:(Array.map (fun x=>match x with | (i,x)=>(i,a.eval x)) parts.toArray)=(parts.map fun p=>(p.1,a.eval p.2)).toArray:=by rw [<-he]
   rw [this];simp [hrun]
 . rcases yt9 (σ:=σ') parts ti.zc cs' (by rw [hav];exact hf) ht with h' | h'
   . rw [hzc] at h';exact absurd h' (xuk _)
   . exact h'
def xfz (k:IntKind):List Cell->Option (List Int)
 | []=>some []
 | .raw (.int k' n)::r=>if k'=k then (xfz k r).map (n::·) else none
 | _::_=>none
def chunk (es:Nat):Nat->List Cell->List (List Cell)
 | 0,_=>[]
 | n+1,cs=>cs.take es::chunk es n (cs.drop es)
def wwg {α:Type} (l:List α):Nat->List α
 | 0=>[]
 | n+1=>l++wwg l n
def zz4 (σ:List AV) (ti te:TI) (n:Nat) (parts:List (Nat×Operand)):Option AV:=
 match ti.sh with
 | .slice _ es _ ik=>
  if n*es<=16777216/\n≠0 then
   match x0b (fun i=>some (i*es,es)) (wwg te.zc n) (w8s σ parts) with
   | none=>none
   | some cs=>match ik with
    | some k=>if es=1 then (xfz k (yf8 cs)).map fun l=>.one (.ints k l) else none
    | none=>some (.one (.sl es (chunk es n (yf8 cs))))
  else none
 | _=>none
theorem wo4 {M:Nat->Nat->Prop} {w:World} {τ:Nat->TV} {vs:List Value} {cs:List Cell} (h:RdL M w τ vs cs):∀ n,RdL M w τ (wwg vs n) (wwg cs n)
 | 0=>trivial
 | n+1=>h.append (wo4 h n)
theorem w2k {α:Type} (l:List α):∀ n,(wwg l n).length=n*l.length
 | 0=>by simp [wwg]
 | n+1=>by simp [wwg,w2k l n,Nat.add_mul];omega
theorem w4u {α:Type} (l:List α):∀(n i:Nat),i<n*l.length->(wwg l n)[i]? = l[i % l.length]?
 | 0,i,h=>by simp at h
 | n+1,i,h=>by
  simp only [wwg];by_cases hi:i<l.length
  . rw [List.getElem?_append_left hi,Nat.mod_eq_of_lt hi]
  . rw [List.getElem?_append_right (by omega),w4u l n (i-l.length) (by rw [Nat.add_mul] at h;omega)]
    congr 1
    rw [<-Nat.mod_eq_sub_mod (by omega)]
theorem y4u {M:Nat->Nat->Prop} {w:World} {k:IntKind}:∀{vs:List Value} {cs:List Cell} {l:List Int},RdD M w vs cs->xfz k cs=some l->vs=l.map (Value.int k)
 | [],[],l,_,h=>by simp [xfz] at h;simp [h]
 | v::vs,c::cs,l,hr,h=>by
  unfold xfz at h;split at h
  . rename_i heq;cases heq
  . rename_i k' n r heq;simp only [List.cons.injEq] at heq;obtain ⟨rfl,rfl⟩:=heq;split at h
    . rename_i hk;subst hk;simp only [Option.map_eq_some_iff] at h;obtain ⟨l',h1,rfl⟩:=h;rw [RdC.xcn hr.1,y4u hr.2 h1];rfl
    . cases h
  . cases h
theorem wdg (es:Nat):∀(n:Nat) (cs:List Cell),(chunk es n cs).length=n
 | 0,_=>rfl
 | n+1,cs=>by simp [chunk,wdg es n]
theorem wa1 (es:Nat):∀(n:Nat) (cs:List Cell) (i:Nat) (h:i<(chunk es n cs).length),(chunk es n cs)[i]=(cs.drop (i*es)).take es
 | 0,cs,i,h=>by simp [chunk] at h
 | n+1,cs,0,h=>by simp [chunk]
 | n+1,cs,i+1,h=>by
  simp only [chunk,List.getElem_cons_succ];rw [wa1 es n];rw [List.drop_drop,Nat.add_mul,Nat.one_mul,Nat.add_comm]
theorem yev {M M':Nat->Nat->Prop} {w w':World} {b cap len:Nat} {T:TypeId} {vs:List Value} {cs:List Cell} {es n:Nat} (hr:RdD M w vs cs) (hk:xhx M M' w w') (hb:w'.heap[b]? = some (.cells vs.toArray T (0,0)))
 (hM:∀ o,¬M' b o) (hlen:cs.length=n*es) (hn:len=n) (hcap:len<=cap):RdC M' w' (.slice (some ⟨b,0,none⟩) len cap) (.sl es (chunk es n cs)):=by
 have hvl:vs.length=n*es:=by rw [hr.length,hlen]
 have hin:∀ i,i<n->∀ j,j<es->i*es+j<n*es:=fun i hi j hj=>by
  calc i*es+j<i*es+es:=by omega
   _=(i+1)*es:=by rw [Nat.add_mul,Nat.one_mul]
   _<=n*es:=Nat.mul_le_mul_right _ hi
 refine .sl b 0 (fun i j=>vs.getD (i*es+j) Go.undef) (by rw [wdg,hn]) hcap (fun _=>rfl) (fun r hr'=>?_) (fun i hi j hj=>?_) (fun i hi j hj=>?_)
 . obtain ⟨i,hi,rfl⟩:=List.getElem_of_mem hr';rw [wa1];rw [wdg] at hi;simp only [List.length_take,List.length_drop,hlen];have h1:(i+1)*es<=n*es:=Nat.mul_le_mul_right _ hi;rw [Nat.add_mul,Nat.one_mul] at h1;omega
 . rw [wdg] at hi
   have:=hin i hi j hj
   refine ⟨hM _,?_⟩;simp only [World.cell?,hb,Nat.zero_add];simp [hvl,this]
 . have hi':=hi;rw [wdg] at hi';simp only [wa1] at hj ⊢;simp only [List.length_take,List.length_drop,hlen] at hj;have hlt:=hin i hi' j (by omega)
   have gen:∀(vs:List Value) (cs:List Cell),RdD M w vs cs->∀ q (hq:q<cs.length),RdC M w (vs.getD q Go.undef) cs[q]:=by
    intro vs
    induction vs with
    | nil=>intro cs h q hq;cases cs with
     | nil=>simp at hq
     | cons _ _=>exact h.elim
    | cons v vs ih=>intro cs h q hq;cases cs with
     | nil=>exact h.elim
     | cons c cs=>cases q with
      | zero=>exact h.1
      | succ q=>simpa using ih cs h.2 q (by simpa using hq)
   have:=(gen vs cs hr (i*es+j) (by omega)).keep hk
   simpa using this
theorem v84:∀ cs:List Cell,(yf8 cs).length=cs.length
 | []=>rfl
 | c::cs=>by simp [yf8,v84 cs]
theorem x5o {place : Nat → Option (Nat × Nat)} : ∀ (ps : List (Nat × AV)) (cs cs' : List Cell), x0b place cs ps = some cs' → cs'.length = cs.length
 | [],cs,cs',h=>by simp only [x0b,Option.some.injEq] at h;rw [h]
 | (i, av) :: ps, cs, cs', h => by
  simp only [x0b] at h;split at h
  . rename_i off size us hp hu;split at h
    . rename_i hc;rw [x5o ps _ _ h];simp;omega
    . cases h
  . cases h
theorem x2l {σ:List AV} {o:Oper} {T:TypeId} {n:Nat} {parts:List (Nat×Operand)} (ho:o.op=.buildSlice T n parts.toArray) {ti te:TI} (hti:mkTI P T=some ti)
 (hte:∀ e es eb ik,ti.sh=.slice e es eb ik->mkTI P e=some te) {av:AV} (hb:zz4 σ ti te n parts=some av)
 {r:List Nat×List (Nat×AV)} (h:val σ o (orrs parts) av=some r):ztu P o σ r.1 [] r.2:=by
 obtain ⟨d,hdst,hn,rfl⟩:=xlk h;have hok:=xky hti;obtain ⟨ds,i,z,hd,hi,hz,_,_,_,_,_,hsh'⟩:=hok.ex;unfold zz4 at hb;split at hb
 case h_2=>cases hb
 rename_i e es eb ik hsh;split at hb
 case isFalse=>cases hb
 rename_i hsmall;split at hb
 . cases hb
 rename_i cs hfill;obtain ⟨rfl,j,z',hj,hz',hjs,hjb,hes0,hzs,hik⟩:=wit (hsh'.symm.trans hsh);obtain ⟨de,je,ze,hde,hje,hze,_,_,_,hone,hzce,_⟩:=(xky (hte _ _ _ _ hsh)).ex;rw [hj] at hje;cases hje;rw [hz'] at hze;cases hze
 have hnh:av.xeo=false/\av.rf=none/\∀ t,¬av.y1a t:=by
  repeat' split at hb
  all_goals first
   | (simp only [Option.map_eq_some_iff] at hb;obtain ⟨_,_,rfl⟩:=hb;exact ⟨rfl,rfl,fun t h=>h⟩)
   | (cases hb;exact ⟨rfl,rfl,fun t h=>h⟩)
   | cases hb
 refine ztu.val hdst (by simp) hn hnh.1 (fun E τ M σ' a w hag hI=>?_);have hav:w8s σ' parts=w8s σ parts:=xtr parts (fun x hx=>hag.opd (fun t ht=>by simp [hx t ht]));have hz0:RdL M w τ (wwg z'.cells.toList n) (wwg te.zc n):=wo4 (by rw [hzce];exact zhc hone) n
 have hinit:(Array.range (n*es)).map (z'.cells[· % z'.cells.size]!)=(wwg z'.cells.toList n).toArray:=by
  apply Array.ext
  . simp [w2k,hzs]
  . intro q h1 h2;simp only [Array.size_map,Array.size_range] at h1;have hq:=w4u z'.cells.toList n q (by simpa [hzs] using h1);have hlt:q % z'.cells.size<z'.cells.size:=Nat.mod_lt _ (by rw [hzs];omega);simp only [Array.getElem_map,Array.getElem_range,List.getElem_toArray];simp only [Array.length_toList,Array.getElem?_toList] at hq;rw [Array.getElem?_eq_getElem hlt,List.getElem?_eq_getElem (by simpa using h2)] at hq;simp at hq;rw [hq];simp [hlt]
 obtain ⟨cells',hf,hrd⟩:=yh6 hI (fun i=>some (i*es,es)) parts (wwg z'.cells.toList n).toArray _ cs (by simpa using hz0) (by rw [hav];exact hfill)
 have hrun:(execOp a.eval o).run P w=.ok (.value (.slice (some ⟨w.heap.size,0,none⟩) n n)) (w.alloc (.cells cells' e)):=by
  have hpe:(Array.map (fun x=>match x with | (i,x)=>(i,a.eval x)) parts.toArray).toList=parts.map fun p=>(p.1,a.eval p.2):=by simp
  have h24:¬(16777216<n*es):=by omega
  have hne:¬(n*es=0):=by
   intro h0
   rcases Nat.mul_eq_zero.1 h0 with h0 | h0
   . exact hsmall.2 h0
   . exact hes0 h0
  simp only [execOp,ho,Instr.buildSlice,Sem.run_bind,z6x hd,Result.andThen_ok,yg7 hj,hjs];rw [if_neg (by simpa using h24),if_neg hne];simp only [Sem.run_bind,v0q hj hz',Result.andThen_ok,Sem.run_pure,hinit];rw [hpe,hf];simp [newRow]
 have hk:xhx M M w (w.alloc (.cells cells' e)):=xhx.below ((Below.refl _ _).alloc (Nat.le_refl _) _)
 have hM:∀ o,¬M w.heap.size o:=fun o hm=>by have:=hI.mb _ _ hm;omega
 have hheap:(w.alloc (.cells cells' e)).heap[w.heap.size]? = some (.cells cells'.toList.toArray e (0,0)):=by rw [Array.toArray_toList];exact wm8 w _
 have hcl:(yf8 cs).length=n*es:=by
  rw [v84,x5o _ _ _ hfill,w2k,hzce];simp [hzs]
 refine ⟨_,_,hrun,(Below.refl _ _).alloc (Nat.le_refl _) _,?_,fun t ht=>absurd ht (hnh.2.2 t),fun s b hr=>by rw [hnh.2.1] at hr;cases hr⟩;split at hb
 . rename_i k;split at hb
   . rename_i he1;subst he1;simp only [Option.map_eq_some_iff] at hb;obtain ⟨l,hl,rfl⟩:=hb;have hvs:=y4u hrd.bare hl
     have hll:l.length=n:=by
      have h1:=congrArg List.length hvs;have h2:=hrd.bare.length;simp only [List.length_map] at h1;omega
     refine RdC.ints w.heap.size 0 hll.symm (Nat.le_refl _) (fun _=>rfl) (fun q hq=>⟨hM _,?_⟩);rw [hvs] at hheap;simp only [World.cell?,hheap,Nat.zero_add];simp [hq]
   . cases hb
 . cases hb;exact yev (n:=n) hrd.bare hk hheap hM hcl rfl (Nat.le_refl _)
def wpp (ti:TI) (parts:List (Nat×Operand)):Option AV:=match ti.sh,parts with
 | .slice _ _ _ _,[]=>some (.one .zc)
 | _,_=>none
theorem zxk {σ:List AV} {o:Oper} {T:TypeId} {n:Nat} {parts:List (Nat×Operand)} (ho:o.op=.buildSlice T n parts.toArray) (hn0:n=0) {ti:TI} (hti:mkTI P T=some ti) {av:AV} (hb:wpp ti parts=some av)
 {r:List Nat×List (Nat×AV)} (h:val σ o [] av=some r):ztu P o σ r.1 [] r.2:=by
 obtain ⟨d,hdst,hn,rfl⟩:=xlk h;obtain ⟨ds,i,z,hd,hi,hz,_,_,_,_,_,hsh'⟩:=(xky hti).ex;unfold wpp at hb;split at hb
 case h_2=>cases hb
 rename_i e es eb ik hsh
 cases hb;obtain ⟨rfl,j,z',hj,hz',hjs,hjb,hes0,hzs,hik⟩:=wit (hsh'.symm.trans hsh);refine ztu.val hdst (by simp) hn rfl (fun E τ M σ' a w hag hI=>?_)
 have hrun:(execOp a.eval o).run P w=.ok (.value (.slice (some ⟨w.heap.size,0,none⟩) 0 0)) (w.alloc (.cells #[] e)):=by
  simp [execOp,ho,Instr.buildSlice,z6x hd,yg7 hj,hn0,Instr.fill,newRow]
  congr 2
  exact Array.ext (by simp) (fun q h1 h2=>absurd h2 (Nat.not_lt_zero q))
 exact ⟨_,_,hrun,(Below.refl _ _).alloc (Nat.le_refl _) _,RdC.zc,fun t ht=>ht.elim,fun s b hr=>by cases hr⟩
section
variable {E:Env} {τ:Nat->TV} {M:Nat->Nat->Prop} {σ:List AV} {a:Act}
theorem RelI.grow {w w':World} {M':Nat->Nat->Prop} (h:RelI E τ M σ a w) {d:Nat} {old:AV} (hd:σ[d]? = some old) (hnh:old.xeo=false) (hnl:¬live σ d)
 (hk:xhx M M' w w') (hm0:∀ b o,E.M b o->M' b o) (hmb:∀ b o,M' b o->b<w'.heap.size) (hsize:w.heap.size<=w'.heap.size) (hos:w'.os=w.os) (htape:w'.tape=w.tape) (hout:w'.output=w.output)
 (hfr:∀ k,k<E.N->w'.heap[k]? = w.heap[k]?)
 (hhold:∀ i av,σ[i]? = some av->av.xeo=true->w'.heap[blk (a.tmps.getD i Go.undef)]? = w.heap[blk (a.tmps.getD i Go.undef)]?/\∀ o,M' (blk (a.tmps.getD i Go.undef)) o)
 (htoks:∀ t,live σ t->wyo E M' w' (τ t)) (v:Value) (c:Cell) (hv:wyo E M' w' ⟨v,c.esz⟩) (hvh:∀ i av,σ[i]? = some av->av.xeo=true->tokB v≠some (blk (a.tmps.getD i Go.undef)))
 (hvt:∀ t g,live σ t->tokB (τ t).v=some g->tokB v≠some g) (hr:RdC M' w' v c) :
 RelI E (fun t=>if t=d then ⟨v,c.esz⟩ else τ t) M' (σ.set d (.one (.tok d c))) (a.put (some d) v) w':=by
 have hlt:d<a.tmps.size:=h.lt hd
 have hns:∀(s:Nat) (b:Bool) (hv:AV),σ[s]? = some hv->hv.fits b=true->d≠s:=fun s b hv hs hf e=>by
  subst e;rw [hd] at hs;cases hs;have:=AV.vgj hf;rw [hnh] at this;cases this
 have hself:(a.tmps.setIfInBounds d v).getD d Go.undef=v:=by simp [hlt]
 have hne:∀ t,live σ t->(if t=d then (⟨v,c.esz⟩:TV) else τ t)=τ t:=fun t ht=>if_neg (fun e=>hnl (by rw [<-e];exact ht))
 have hlive:∀ t,live (σ.set d (.one (.tok d c))) t->t=d\/(t≠d/\live σ t):=fun t ⟨i,x,hi,hx⟩=>by
  rcases getElem?_set_cases hi with ⟨_,rfl⟩ | ⟨_,hi⟩
  . rcases hx with hx | hx
    . exact .inl hx.symm
    . have:∀ c:Cell,RdC M' w' v c->¬c.y1a t:=fun c hc ht=>by
       cases c with
       | tok _ _=>exact hc.wbu
       | _=>exact ht
      exact absurd hx (this c hr)
  . by_cases e:t=d
    . exact .inl e
    . exact .inr ⟨e,i,x,hi,hx⟩
 refine RelI.mk h.hd (by simpa [Act.put] using h.hs) ?_ hm0 hmb ?_ ?_ ?_ ?_ ?_ ?_ (Nat.le_trans h.size hsize) (hos.trans h.os) (htape.trans h.tape) (hout.trans h.output) (fun k hk' hx=>(hfr k hk').trans (h.frame k hk' hx))
 . intro i x hi;show x5d M' w' _ (a.tmps.setIfInBounds d v) ((a.tmps.setIfInBounds d v).getD i Go.undef) x
   rcases getElem?_set_cases hi with ⟨rfl,rfl⟩ | ⟨hne',hi⟩
   . rw [hself];exact ⟨⟨by simp,by simp⟩,hr⟩
   . rw [getD_set_ne (Ne.symm hne')];exact (h.slot i x hi).keep hk (fun t ht=>hne t ⟨i,x,hi,ht⟩) (fun s b hr=>by obtain ⟨hv,h1,h2⟩:=h.refs i x s b hi hr;exact getD_set_ne (hns s b hv h1 h2) v) (fun hh=>(hhold i x hi hh).1)
 . intro i x hi hh;show (∀ o',M' (blk ((a.tmps.setIfInBounds d v).getD i Go.undef)) o')/\(_<=blk ((a.tmps.setIfInBounds d v).getD i Go.undef)\/E.X (blk ((a.tmps.setIfInBounds d v).getD i Go.undef)))/\(_->_<=blk ((a.tmps.setIfInBounds d v).getD i Go.undef))/\(_->(a.tmps.setIfInBounds d v).getD i Go.undef=_)
   rcases getElem?_set_cases hi with ⟨rfl,rfl⟩ | ⟨hne',hi⟩
   . cases hh
   . rw [getD_set_ne (Ne.symm hne')];exact ⟨(hhold i x hi hh).2,(h.hold i x hi hh).2⟩
 . intro i j x y hi hj hx hy;show blk ((a.tmps.setIfInBounds d v).getD i Go.undef)=blk ((a.tmps.setIfInBounds d v).getD j Go.undef)->_
   rcases getElem?_set_cases hi with ⟨rfl,rfl⟩ | ⟨hne1,hi'⟩
   . cases hx
   . rcases getElem?_set_cases hj with ⟨rfl,rfl⟩ | ⟨hne2,hj'⟩
     . cases hy
     . rw [getD_set_ne (Ne.symm hne1),getD_set_ne (Ne.symm hne2)];exact h.inj i j x y hi' hj' hx hy
 . intro i x s b hi hr'
   have:∃ hv:AV,σ[s]? = some hv/\hv.fits b=true:=by
    rcases getElem?_set_cases hi with ⟨rfl,rfl⟩ | ⟨hne',hi⟩
    . cases hr'
    . exact h.refs i x s b hi hr'
   obtain ⟨hv,h1,h2⟩:=this;exact ⟨hv,by rw [List.getElem?_set_ne (hns s b hv h1 h2)];exact h1,h2⟩
 . intro t ht
   rcases hlive t ht with rfl | ⟨hne',hl⟩
   . simpa using hv
   . rw [hne t hl];exact htoks t hl
 . intro t t' g ht ht' htt hg
   rcases hlive t ht with rfl | ⟨hne1,hl⟩
   . rcases hlive t' ht' with rfl | ⟨hne2,hl'⟩
     . exact absurd rfl htt
     . rw [hne t' hl'];simp only [if_true] at hg
       exact fun hg'=>hvt t' g hl' hg' hg
   . rw [hne t hl] at hg
     rcases hlive t' ht' with rfl | ⟨hne2,hl'⟩
     . simp only [if_true];exact hvt t g hl hg
     . rw [hne t' hl'];exact h.tinj t t' g hl hl' htt hg
 . intro t i x ht hi hx;show _≠some (blk ((a.tmps.setIfInBounds d v).getD i Go.undef))
   rcases getElem?_set_cases hi with ⟨rfl,rfl⟩ | ⟨hne',hi'⟩
   . cases hx
   . rw [getD_set_ne (Ne.symm hne')]
     rcases hlive t ht with rfl | ⟨hne1,hl⟩
     . simp only [if_true];exact hvh i x hi' hx
     . rw [hne t hl];exact h.tbox t i x hl hi' hx
end
structure Grew (E:Env) (M:Nat->Nat->Prop) (w w':World) (M':Nat->Nat->Prop) (v v':Value) (es n:Nat) (all:List Value):Prop where
 keeps:xhx M M' w w'
 size:w.heap.size<=w'.heap.size
 os:w'.os=w.os
 tape:w'.tape=w.tape
 output:w'.output=w.output
 block:∀ k,k<w.heap.size->tokB v≠some k->w'.heap[k]? = w.heap[k]?
 mem:∀ b o,M b o->tokB v≠some b->M' b o
 mb:∀ b o,M' b o->b<w'.heap.size
 tok:wyo E M' w' ⟨v',es⟩
 blk':∀ g,tokB v'=some g->tokB v=some g\/w.heap.size<=g
 cells:all=[]\/∃ g cap,v'=.slice (some ⟨g,0,none⟩) n cap/\n<=cap/\∀ j u,all[j]? = some u->¬M' g j/\w'.cell? ⟨g,j,none⟩=some u
 len:∃ ad cap,v'=.slice ad n cap/\n<=cap
theorem y1q {E:Env} {M:Nat->Nat->Prop} {w:World} (hN:E.N<=w.heap.size) (hmb:∀ b o,M b o->b<w.heap.size) (v:Value) (e:TypeId) (es n cap:Nat) (all:List Value) (rest:Array Value)
 (_hes:0<es) (hall:all.length=n*es) (hcap:n<=cap) (hcm:cap<=maxLen) (hrest:rest.size=(cap-n)*es) :
 Grew E M w (w.drew.alloc (.cells (all.toArray++rest) e)) (fun b o=>M b o\/(b=w.heap.size/\n*es<=o)) v (.slice (some ⟨w.heap.size,0,none⟩) n cap) es n all:=by
 have hb:Below w.heap.size w (w.drew.alloc (.cells (all.toArray++rest) e)):=((Below.refl _ _).drew).alloc (Nat.le_refl _) _;have hheap:(w.drew.alloc (.cells (all.toArray++rest) e)).heap[w.heap.size]? = some (.cells (all.toArray++rest) e (0,0)):=wm8 w.drew _;refine { keeps:=?_,size:=hb.size,os:=rfl,tape:=rfl,output:=rfl,block:=fun k hk _=>hb.block k hk,mem:=fun b o hm _=>.inl hm,mb:=?_,tok:=?_,blk':=?_,cells:=?_,len:=⟨_,_,rfl,hcap⟩ }
 . intro b o u hm hc;have hl:=World.block_lt_of_cell? w _ hc;exact ⟨fun hh=>hh.elim hm (fun hh=>by have:=hh.1;simp only at hl;omega),(xhx.below hb b o u hm hc).2⟩
 . rintro b o (hm | ⟨rfl,_⟩)
   . exact Nat.lt_of_lt_of_le (hmb b o hm) hb.size
   . simp
 . refine .inr ⟨e,n,all,⟨hall,.inr ⟨w.heap.size,cap,_,rfl,hN,hheap,hcap,hcm,?_,?_⟩⟩,fun g hg o ho=>?_⟩
   . simp only [Array.size_append,List.size_toArray,hall,hrest,<-Nat.add_mul]
     congr 1;omega
   . simp [<-hall]
   . simp [Value.ownBlock] at hg;exact .inr ⟨hg.symm,ho⟩
 . intro g hg
   cases cap with
   | zero=>simp [tokB] at hg
   | succ cap=>simp [tokB] at hg;exact .inr (by omega)
 . by_cases h0:all=[]
   . exact .inl h0
   . refine .inr ⟨w.heap.size,cap,rfl,hcap,fun j u hj=>⟨?_,?_⟩⟩
     . have hjl:j<all.length:=(List.getElem?_eq_some_iff.1 hj).1;rintro (hm | ⟨_,ho⟩)
       . have:=hmb _ _ hm;omega
       . omega
     . simp only [World.cell?,hheap];have hjl:j<all.length:=(List.getElem?_eq_some_iff.1 hj).1;simp [Array.getElem?_append,hjl];simpa [hjl] using hj
theorem z9o {T e:TypeId} {i:TypeInfo} (ht:P.underlying T=some (.slice e)) (hi:P.info? e=some i) (w:World) (ty:TypeId)
 (g Tb n cap:Nat) (cur:Array Value) (hg:w.heap[g]? = some (.cells cur Tb (0,0))) (m:Nat) (y:Value) (news:List Value) (hyv:∃ ad c,y=.slice ad m c) (_hl:news.length=m*i.size)
 (hf:(Builtin.firstCells i.size m y).run P w=.ok news.toArray w) (h1:∀ u∈news,u.oneCell'=true)
 (hroom:n+m<=cap) (hfit:n*i.size+news.length<=cur.size) :
 (Builtin.append_ #[T,T] ty #[.slice (some ⟨g,0,none⟩) n cap,y]).run P w =
   .ok (.slice (some ⟨g,0,none⟩) (n+m) cap) (w.setRow g (cur.toList.take (n*i.size)++news++cur.toList.drop (n*i.size+news.length)).toArray):=by
 obtain ⟨ad,c,rfl⟩:=hyv;have hst:=run_storeCells_at P g (n*i.size) Tb news 0 cur w hg (by simpa using hfit) h1;simp only [Nat.add_zero] at hst;simp [Builtin.append_,run_underlying ht,sizeOf,typeInfo,hi,Builtin.lenOf,hroom,hf,Addr.add_lit,hst]
theorem yqx {i:TypeInfo} (w:World) (m:Nat) (y:Value) (news:List Value) (hy:∃ ad cap,y=.slice ad m cap) (hnl:news.length=m*i.size)
 (hnews:news=[]\/∃ b off cap,y=.slice (some ⟨b,off,none⟩) m cap/\∀ j u,news[j]? = some u->w.cell? ⟨b,off+j,none⟩=some u) :
 (Builtin.firstCells i.size m y).run P w=.ok news.toArray w:=by
 rcases hnews with rfl | ⟨b,off,cap,rfl,hc⟩
 . obtain ⟨ad,cap,rfl⟩:=hy
   cases ad with
   | none=>simp [Builtin.firstCells]
   | some b=>
    simp only [List.length_nil] at hnl;simp [Builtin.firstCells,<-hnl,loadCells,loadCellsFrom]
 . exact run_firstCells_some w i.size m _ m cap news hnl (fun j v hj=>by rw [y78];exact hc j v hj)
theorem vnx {E:Env} {M:Nat->Nat->Prop} {w:World} (hmb:∀ b o,M b o->b<w.heap.size) {g Tb n m cap es:Nat} {cur:Array Value} {xs news:List Value} (hbg:E.N<=g)
 (hg:w.heap[g]? = some (.cells cur Tb (0,0))) (hMg:∀ o,n*es<=o->M g o) (hxs:xs.length=n*es) (hxs':∀(j:Nat) (u:Value),xs[j]? = some u->cur[j]? = some u) (hnl:news.length=m*es) (hcs:cur.size=cap*es)
 (hroom:n+m<=cap) (hcap0:cap≠0) (hcm:cap<=maxLen) :
 Grew E M w (w.setRow g (cur.toList.take (n*es)++news++cur.toList.drop (n*es+news.length)).toArray) (fun b o=>M b o/\¬(b=g/\o<(n+m)*es)) (.slice (some ⟨g,0,none⟩) n cap)
  (.slice (some ⟨g,0,none⟩) (n+m) cap) es (n+m) (xs++news):=by
 have hall:(xs++news).length=(n+m)*es:=by rw [List.length_append,hxs,hnl,Nat.add_mul]
 have hfit:n*es+news.length<=cur.size:=by rw [hnl,hcs,<-Nat.add_mul];exact Nat.mul_le_mul_right _ hroom
 obtain ⟨cap,rfl⟩:∃ c,cap=c+1:=⟨cap-1,by omega⟩;generalize hnew:(cur.toList.take (n*es)++news++cur.toList.drop (n*es+news.length)).toArray=new;have hheap:(w.setRow g new).heap[g]? = some (.cells new Tb (0,0)):=setRow_heap w g cur new Tb (0,0) hg
 have hget1:∀ j,j<n*es->new[j]? = cur[j]?:=fun j hj=>by
  rw [<-hnew];simp only [List.getElem?_toArray,List.append_assoc];rw [List.getElem?_append_left (by simp;omega),List.getElem?_take,if_pos hj];simp
 have hsize:new.size=(cap+1)*es:=by
  rw [<-hnew];simp only [List.size_toArray,List.length_append,List.length_take,List.length_drop,Array.length_toList];omega
 have hget2:∀ j,j<news.length->new[n*es+j]? = news[j]?:=fun j hj=>by
  rw [<-hnew];simp only [List.getElem?_toArray,List.append_assoc];rw [List.getElem?_append_right (by simp;omega)]
  have e1:n*es+j-(List.take (n*es) cur.toList).length=j:=by
   simp only [List.length_take,Array.length_toList];omega
  rw [e1,List.getElem?_append_left hj]
 have hcells:∀(j:Nat) (u:Value),(xs++news)[j]? = some u->new[j]? = some u:=fun j u hj=>by
  by_cases hjx:j<xs.length
  . rw [hget1 j (by omega)];rw [List.getElem?_append_left hjx] at hj;exact hxs' j u hj
  . have hjl:=(List.getElem?_eq_some_iff.1 hj).1;rw [List.getElem?_append_right (by omega)] at hj
    have:=hget2 (j-xs.length) (by simp at hjl;omega)
    rw [hj] at this
    rwa [show n*es+(j-xs.length)=j by omega] at this
 refine { keeps := ?_, size := by simp, os := rfl, tape := rfl, output := rfl, block := fun k _ hk => setRow_other w g k _ (fun e' => hk (by simp [tokB, e'])), mem := fun b o hm hb => ⟨hm, fun h => hb (by rw [h.1]; rfl)⟩, mb := fun b o h => by simpa using hmb b o h.1,
          tok:=?_,blk':=fun g' hg'=>.inl (by simpa [tokB] using hg'),cells:=.inr ⟨g,cap+1,rfl,hroom,fun j u hj=>?_⟩,len:=⟨_,_,rfl,hroom⟩ }
 . intro b o u hm hc;refine ⟨fun h=>hm h.1,?_⟩;by_cases hbg':b=g
   . subst hbg';have ho:o<n*es:=Nat.lt_of_not_le (fun h=>hm (hMg o h));simp only [World.cell?,hheap];simp only [World.cell?,hg] at hc;rw [hget1 o ho];exact hc
   . rw [cell_setRow_other _ _ _ _ hbg'];exact hc
 . refine .inr ⟨Tb,n+m,xs++news,⟨hall,.inr ⟨g,cap+1,new,rfl,hbg,hheap,hroom,hcm,hsize,?_⟩⟩,fun g' hg' o ho=>?_⟩
   . apply List.ext_getElem?;intro j;rw [List.getElem?_take];by_cases hj:j<(n+m)*es
     . rw [if_pos hj]
       have hjx:j<(xs++news).length:=by omega
       rw [Array.getElem?_toList,hcells j _ (List.getElem?_eq_getElem hjx),List.getElem?_eq_getElem hjx]
     . rw [if_neg hj,List.getElem?_eq_none (by omega)]
   . simp [Value.ownBlock] at hg';subst hg';have ho2:(n+m)*es<=o:=ho;refine ⟨hMg o ?_,fun h=>by omega⟩;have ho:(n+m)*es<=o:=ho;rw [Nat.add_mul] at ho;omega
 . have hjl:j<(xs++news).length:=(List.getElem?_eq_some_iff.1 hj).1;rw [hall] at hjl;refine ⟨fun h=>h.2 ⟨rfl,hjl⟩,?_⟩;simp only [World.cell?,hheap];exact hcells j u hj
theorem vow {T e:TypeId} {es eb:Nat} {i:TypeInfo} {z:Value} (ht:P.underlying T=some (.slice e)) (hi:P.info? e=some i) (hz:i.zero=some z) (hsz:i.size=es) (hby:i.bytes=eb) (hzs:z.cells.size=es) (hes:0<es)
 {E:Env} {M:Nat->Nat->Prop} {w:World} (hN:E.N<=w.heap.size) (hmb:∀ b o,M b o->b<w.heap.size) (ty:TypeId) {v:Value} (hv:wyo E M w ⟨v,es⟩) {n:Nat} {xs:List Value} (hlen:∃ ad cap,v=.slice ad n cap)
 (hxs:xs.length=n*es) (hx:xs=[]\/∃ g cap,v=.slice (some ⟨g,0,none⟩) n cap/\∀ j u,xs[j]? = some u->¬M g j/\w.cell? ⟨g,j,none⟩=some u)
 {y:Value} {m:Nat} {news:List Value} (hy:∃ ad cap,y=.slice ad m cap) (hnl:news.length=m*es) (hn1:∀ u∈news,u.oneCell'=true)
 (hnews:news=[]\/∃ b off cap,y=.slice (some ⟨b,off,none⟩) m cap/\∀ j u,news[j]? = some u->¬M b (off+j)/\w.cell? ⟨b,off+j,none⟩=some u)
 (hbound:(n+m)*eb<=140737488355328) (h63:n+m<=9223372036854775807) :
 ∃ v' w' M',(Builtin.append_ #[T,T] ty #[v,y]).run P w=.ok v' w'/\Grew E M w w' M' v v' es (n+m) (xs++news):=by
 subst hsz;subst hby
 have hall:(xs++news).length=(n+m)*i.size:=by rw [List.length_append,hxs,hnl,Nat.add_mul]
 have hf:(Builtin.firstCells i.size m y).run P w=.ok news.toArray w:=yqx w m y news hy hnl (hnews.imp id fun ⟨b,off,cap,e,h⟩=>⟨b,off,cap,e,fun j u hj=>(h j u hj).2⟩);have hfd:(Builtin.firstCells i.size m y).run P w.drew=.ok news.toArray w.drew:=yqx w.drew m y news hy hnl (hnews.imp id fun ⟨b,off,cap,e,h⟩=>⟨b,off,cap,e,fun j u hj=>(h j u hj).2⟩);obtain ⟨ad0,cap0,hv0⟩:=hlen;have hfo:(Builtin.firstCells i.size n v).run P w.drew=.ok xs.toArray w.drew:=yqx w.drew n v xs ⟨_,_,hv0⟩ hxs (hx.imp id fun ⟨g,cap,e,h⟩=>⟨g,0,cap,e,fun j u hj=>by rw [Nat.zero_add];exact (h j u hj).2⟩);obtain ⟨yad,ycap,rfl⟩:=hy;have growth:∀ old,v=.slice ad0 n old->old<n+m->
  ∃ v' w' M',(Builtin.append_ #[T,T] ty #[v,.slice yad m ycap]).run P w=.ok v' w'/\Grew E M w w' M' v v' i.size (n+m) (xs++news):=fun old hvo ho=>by
  have hge:=grownCap_ge w (n+m) old e;have hcm:grownCap w (n+m) old e<=maxLen:=grownCap_le_maxLen w (n+m) old e (by unfold maxLen;omega);refine ⟨.slice (some ⟨w.heap.size,0,none⟩) (n+m) (grownCap w (n+m) old e),_,_,?_,y1q hN hmb v e i.size (n+m) (grownCap w (n+m) old e) (xs++news) (Builtin.zeroCells z.cells (grownCap w (n+m) old e-(n+m))) hes hall hge hcm (by rw [size_zeroCells,hzs])⟩
  have hn:¬(n+m<=old):=by omega
  have h63':¬(9223372036854775807<((n:Int)+(m:Int))):=by omega
  have hfit:=growslice_fits (need:=n+m) (old:=old) (bytes:=i.bytes) ho hbound
  have h48':¬(281474976710656<Builtin.nextslicecap (n+m) old*i.bytes):=by omega
  rw [hvo] at hfo ⊢;simp [Builtin.append_,run_underlying ht,sizeOf,typeInfo,zeroValue,hi,hz,Builtin.lenOf,hn,h63',h48',Question.forced,hfd,hfo,newRow,grownCap]
  congr 2
  apply Array.ext';simp [List.append_assoc]
 by_cases hzero:∃ ad,v=.slice ad 0 0
 ·
  obtain ⟨ad,hva⟩:=hzero
  have hn00:n=0:=by rw [hva] at hv0;cases hv0;rfl
  subst hn00;by_cases hm:m=0
  . subst hm;have hx0:xs=[]:=List.eq_nil_of_length_eq_zero (by simpa using hxs);have hn0:news=[]:=List.eq_nil_of_length_eq_zero (by simpa using hnl);subst hx0;subst hn0;refine ⟨.slice ad 0 0,w,M,?_,?_⟩
    . rw [hva]
      cases ad with
      | none=>simp [Builtin.append_,run_underlying ht,sizeOf,typeInfo,hi,Builtin.lenOf,hf]
      | some b=>simp [Builtin.append_,run_underlying ht,sizeOf,typeInfo,hi,Builtin.lenOf,hf,storeCells]
    . exact { keeps := fun _ _ _ h1 h2 => ⟨h1, h2⟩, size := Nat.le_refl _, os := rfl, tape := rfl, output := rfl, block := fun _ _ _ => rfl, mem := fun _ _ h _ => h, mb := hmb, tok := .inl ⟨ad, rfl⟩,
              blk':=fun g hg=>by cases ad<;>simp [tokB] at hg,cells:=.inl rfl,len:=⟨_,_,rfl,Nat.le_refl _⟩ }
  . have:ad0=ad:=by rw [hva] at hv0;cases hv0;rfl
    exact growth 0 (by rw [this];exact hva) (by omega)
 . rcases hv with hv | ⟨Tb,n',xs',hown,hMg⟩
   . exact absurd hv hzero
   have hown:w.ownsRow E.N Tb i.size v n' xs':=hown;have hMg:∀ g,v.ownBlock=some g->∀ o,n'*i.size<=o->M g o:=hMg
   rcases hown.2 with ⟨hva,hn'⟩ | ⟨g,cap,cur,hva,hbg,hg,hnc,hcm,hcs,htake⟩
   . exact absurd ⟨none,hva⟩ hzero
   . have hnn:n'=n:=by rw [hva] at hv0;cases hv0;rfl
     subst hnn
     have had:ad0=some ⟨g,0,none⟩:=by rw [hva] at hv0;cases hv0;rfl
     by_cases hroom:n'+m<=cap
     . have hfit:n'*i.size+news.length<=cur.size:=by rw [hnl,hcs,<-Nat.add_mul];exact Nat.mul_le_mul_right _ hroom
       have hrun:=z9o (P:=P) ht hi w ty g Tb n' cap cur hg m _ news ⟨_,_,rfl⟩ hnl hf hn1 hroom hfit
       have hcap0:cap≠0:=fun h0=>hzero ⟨_,by rw [hva,h0,show n'=0 by omega]⟩
       have hxs':∀(j:Nat) (u:Value),xs[j]? = some u->cur[j]? = some u:=fun j u hj=>by
        rcases hx with rfl | ⟨g',cap',e1,hc⟩
        . simp at hj
        . rw [hva] at e1
          cases e1
          have:=(hc j u hj).2
          simpa [World.cell?,hg] using this
       have hgrew:=vnx (E:=E) hmb hbg hg (hMg g (by rw [hva];rfl)) hxs hxs' hnl hcs hroom hcap0 hcm;rw [hva];exact ⟨_,_,_,hrun,hgrew⟩
     . exact growth cap (by rw [had];exact hva) (by omega)
end Go.Slot
