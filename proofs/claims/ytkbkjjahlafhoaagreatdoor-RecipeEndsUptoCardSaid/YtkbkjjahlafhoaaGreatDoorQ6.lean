/- The proof, part Q6: He, Hf, Hg. -/
import Derived.Test.YtkbkjjahlafhoaaGreatDoorQ5
namespace Go.Hp
open Go Go.RowKit Go.Slot
variable {P:Program} {Γ:List (Nat×List Cell)}
variable {lo b cap es d eb nb:Nat} {M:Nat->Nat->Prop} {w:World} {T e:TypeId} {ρ:Nat->Value} {η η':List SB} {v:Value} {x:SB} {bs:List Nat} {o:Oper} {J:List SV} {ti te:TI} {ik:Option IntKind}
def frzB:SB->SB
 | .arr c _ T=>.arr c (c.cnt*c.esz) T
 | x=>x
def frzE (η:List SB) (bs:List Nat):List (Nat×SB):=bs.map fun b=>(b,frzB (gB η b))
def wry:SB->Bool
 | .arr _ _ _=>true
 | _=>false
def subC (c:Cell) (lo n:Nat):Cell:=match lo==0&&n==c.cnt with
 | true=>c
 | false=>c.sub lo n
def xf6 (η:List SB):HC->Option (Cell×List Nat)
 | .dat c=>some (c,[])
 | .sl b es lo n=>match gB η b with
  | .arr c _ _=>if c.esz=es/\lo+n<=c.cnt then some (subC c lo n,[b]) else none
  | _=>none
 | _=>none
def xs7 (η:List SB):List HC->Option (List Cell×List Nat)
 | []=>some ([],[])
 | h::r=>match xf6 η h,xs7 η r with
  | some (c,bs),some (cs,bs')=>some (c::cs,bs++bs')
  | _,_=>none
theorem x5i {c:Cell} {n:Nat} (_h:lo+n<=c.cnt):(lo=0/\n=c.cnt/\subC c lo n=c)\/subC c lo n=c.sub lo n:=by
 unfold subC
 split
 . rename_i e;simp only [Bool.and_eq_true,beq_iff_eq] at e;exact .inl ⟨e.1,e.2,rfl⟩
 . exact .inr rfl
theorem zh0 {vs q:List Value} {c:Cell} (hb:w.heap[b]? = some (.cells (vs++q).toArray T (0,0))) (hr:RdD M w vs c.flat) (hu:c.uni)
 (hcap:c.cnt<=cap) (hM:∀ o,o<vs.length->¬M b o):RdC M w (.slice (some ⟨b,0,none⟩) c.cnt cap) c:=by
 cases c with
 | ints k l=>
  refine .ints b 0 rfl hcap (fun _=>rfl) (fun i hi=>?_);obtain ⟨v,hv,hrv⟩:=hr.get i (.raw (.int k l[i])) (by simp [Cell.flat,hi]);rw [RdC.v7q hrv] at hv;rw [Nat.zero_add];exact ⟨hM _ (List.getElem?_eq_some_iff.1 hv).1,x55 hb hv⟩
 | sl n rows=>
  have hu:∀ r∈rows,r.length=n:=hu
  have key:∀ i (hi:i<rows.length) j,j<n->∃ v,vs[i*n+j]? = some v/\∀ hj':j<rows[i].length,RdC M w v (rows[i][j]'hj'):=fun i hi j hj=>by
   have hlen:=hu _ (List.getElem_mem hi)
   obtain ⟨v,hv,hrv⟩:=hr.get (i*n+j) (rows[i][j]'(by omega)) (by
    simp only [Cell.flat];rw [zi8 rows i j hu hi hj]
    have:rows.getD i []=rows[i]:=by simp [hi]
    rw [this]
    simp [hlen,hj])
   exact ⟨v,hv,fun _=>hrv⟩
  refine .sl b 0 (fun i j=>(vs[i*n+j]?).getD Go.undef) rfl hcap (fun _=>rfl) hu (fun i hi j hj=>?_) (fun i hi j hj=>?_)
  . obtain ⟨v,hv,_⟩:=key i hi j hj;rw [hv,Nat.zero_add];exact ⟨hM _ (List.getElem?_eq_some_iff.1 hv).1,x55 hb hv⟩
  . have hlen:=hu _ (List.getElem_mem hi);obtain ⟨v,hv,hrv⟩:=key i hi j (by omega);rw [hv];exact hrv hj
 | _=>exact hu.elim
theorem RdC.empty {ad:Option Addr} {c:Cell} (hu:c.uni) (h0:c.cnt=0):RdC M w (.slice ad 0 cap) c:=by
 cases c with
 | ints k l=>
  have:l=[]:=List.eq_nil_of_length_eq_zero h0
  subst this;exact .ints 0 0 rfl (Nat.zero_le _) (fun h=>absurd rfl h) (fun i hi=>absurd hi (by simp))
 | sl n rows=>
  have:rows=[]:=List.eq_nil_of_length_eq_zero h0
  subst this;exact .sl 0 0 (fun _ _=>Go.undef) rfl (Nat.zero_le _) (fun h=>absurd rfl h) (fun r hr=>by cases hr) (fun i hi=>absurd hi (by simp)) (fun i hi=>absurd hi (by simp))
 | _=>exact hu.elim
theorem Cell.zoq {c:Cell} (hu:c.uni) {n:Nat}:(c.sub lo n).uni:=by
 cases c with
 | ints k l=>trivial
 | sl m rows=>exact fun r hr=>hu r (List.mem_of_mem_drop (List.mem_of_mem_take hr))
 | _=>exact hu.elim
variable {c:Cell}
theorem Cell.v56 (hu:c.uni) {n:Nat} (h:lo+n<=c.cnt):(c.sub lo n).cnt=n:=by
 cases c with
 | ints k l=>simp [Cell.sub,Cell.cnt] at h ⊢;omega
 | sl m rows=>simp [Cell.sub,Cell.cnt] at h ⊢;omega
 | _=>exact hu.elim
theorem vmf {Mo:Nat->Nat->Prop} (h:HInv Γ Mo ρ η w) {n:Nat} {T:Option TypeId} (hb:η[b]? = some (.arr c (c.cnt*c.esz) T)) (hes:c.esz=es) (hfit:lo+n<=c.cnt)
 (hv:HRd η ρ (MX Mo ρ η) w v (.sl b es lo n)):RdC (MX Mo ρ η) w v (subC c lo n):=by
 obtain ⟨⟨hu,_⟩,h0⟩:=h.blk b _ hb;obtain ⟨_,ad,cap,rfl,hle,hcap⟩:=hv;by_cases hc0:cap=0
 . have hn:n=0:=by omega
   subst hn
   rcases x5i hfit with ⟨h1,h2,h3⟩ | h3
   . rw [h3];exact RdC.empty hu h2.symm
   . rw [h3];exact RdC.empty (Cell.zoq hu) (Cell.v56 hu hfit)
 . obtain ⟨hre,had,arr,T',fz,hheap,hsz⟩:=hcap hc0
   rcases h0 with ⟨_,e⟩ | ⟨bb,vs,q,T2,e,hh,hr,_⟩
   . exact absurd e hre
   . have hbk:bk (ρ b)=bb:=by rw [e];rfl
     have hfl:=Cell.x84 hu;have hvl:=hr.length
     have hM:∀ o,o<vs.length->¬MX Mo ρ η bb o:=fun o ho hm=>by
      rcases hm with hm | ⟨j,y,hj,hy,hrj,ej⟩
      . exact h.sep b _ hb rfl hre o (by rw [hbk];exact hm)
      . have hjb:=h.inj j b y _ hj hb (SB.xlm hy) rfl hrj hre (by rw [hbk];exact ej);subst hjb;rw [hb] at hj;cases hj
        have:c.cnt*c.esz<=o:=hy
        omega
     have hd:=zh0 (cap:=max c.cnt cap) hh hr hu (Nat.le_max_left _ _) hM;rw [hbk] at had
     rcases x5i hfit with ⟨h1,h2,h3⟩ | h3
     . rw [h3]
       have:=RdC.sub hd hu (lo:=0) (n:=c.cnt) (cap':=cap) (ad:=ad) (by omega) (fun _=>by rw [had,h1];simp) (by omega)
       have hs:c.sub 0 c.cnt=c:=by
        cases c with
        | ints k l=>simp [Cell.sub,Cell.cnt]
        | sl m rows=>simp [Cell.sub,Cell.cnt]
        | _=>rfl
       rw [hs] at this;rw [h2];exact this
     . rw [h3];exact RdC.sub hd hu hfit (fun _=>by rw [had,hes,Nat.zero_add]) hle
theorem zdk (h:b<η.length):gB (η.set b x) b=x:=by simp [gB,h]
theorem y81 {i:Nat} (h:i≠b):gB (η.set b x) i=gB η i:=by simp [gB,List.getElem?_set_ne (Ne.symm h)]
theorem zsz {α:Type}:∀(e:List (Nat×α)) (l:List α),(appL e l).length=l.length
 | [],_=>rfl
 | (i,x)::e,l=>by simp only [appL];rw [zsz e];simp
theorem Went.frz {Mo:Nat->Nat->Prop} {ρ:Nat->Value} {w:World} {η:List SB}:∀(bs:List Nat) (η1:List SB),HInv Γ Mo ρ η1 w->η1.length=η.length->(∀ b∈bs,wry (gB η b)=true)->(∀ b,gB η1 b=gB η b\/gB η1 b=frzB (gB η b))->
 Went Γ Mo ρ η1 w ρ (appL (frzE η bs) η1) w/\(∀ b,gB (appL (frzE η bs) η1) b=gB η1 b\/gB (appL (frzE η bs) η1) b=frzB (gB η b))/\(∀ b∈bs,gB (appL (frzE η bs) η1) b=frzB (gB η b))
 | [],η1,h,_,_,_=>⟨Went.refl h,fun b=>.inl rfl,fun b hb=>by cases hb⟩
 | b::bs,η1,h,hl,ha,hg=>by
  have hab:=ha b (by simp)
  have hx:∃ c k T,gB η b=.arr c k T:=by
   generalize gB η b=y at hab
   cases y<;>first | exact ⟨_,_,_,rfl⟩ | cases hab
  obtain ⟨c,k,T,hx⟩:=hx
  have hf:frzB (gB η b)=.arr c (c.cnt*c.esz) T:=by rw [hx];rfl
  obtain ⟨k1,h1⟩:∃ k1,η1[b]? = some (.arr c k1 T):=by
   rcases hg b with e | e
   . exact ⟨k,w5n (e.trans hx) (by simp)⟩
   . exact ⟨_,w5n (e.trans hf) (by simp)⟩
  have hlt:b<η1.length:=(List.getElem?_eq_some_iff.1 h1).1;have hsbr:=h.blk b _ h1
  have hstep:Went Γ Mo ρ η1 w ρ (η1.set b (.arr c (c.cnt*c.esz) T)) w:=by
   refine Went.less h h1 (by simp) (fun _=>rfl) (fun o ho=>Nat.le_trans hsbr.1.2 ho) (fun m=>?_);obtain ⟨⟨hu,_⟩,h0⟩:=hsbr.mv m (fun _ _=>rfl);exact ⟨⟨hu,Nat.le_refl _⟩,h0⟩
  have hg':∀ i,gB (η1.set b (.arr c (c.cnt*c.esz) T)) i=gB η i\/gB (η1.set b (.arr c (c.cnt*c.esz) T)) i=frzB (gB η i):=fun i=>by
   by_cases e:i=b
   . subst e;rw [zdk hlt,hf];exact .inr rfl
   . rw [y81 e];exact hg i
  obtain ⟨h3,h4,h5⟩:=Went.frz bs (η1.set b (.arr c (c.cnt*c.esz) T)) hstep.inv (by simp [hl]) (fun i hi=>ha i (by simp [hi])) hg'
  have he:appL (frzE η (b::bs)) η1=appL (frzE η bs) (η1.set b (.arr c (c.cnt*c.esz) T)):=by
   show appL ((b,frzB (gB η b))::frzE η bs) η1=_;rw [hf];rfl
  rw [he];refine ⟨hstep.trans h3,fun i=>?_,fun i hi=>?_⟩
  . rcases h4 i with e | e
    . by_cases e':i=b
      . subst e';rw [e,zdk hlt,hf];exact .inr rfl
      . rw [y81 e'] at e;exact .inl e
    . exact .inr e
  . rcases List.mem_cons.1 hi with rfl | hi
    . rcases h4 i with e | e
      . rw [e,zdk hlt,hf]
      . exact e
    . exact h5 i hi
theorem v5z {h : HC} (hd : xf6 η h = some (c, bs)) : ∀ b ∈ bs, wry (gB η b) = true := by
 unfold xf6 at hd;split at hd
 . cases hd;intro b hb;cases hb
 . split at hd
   . rename_i c' k T hb;split at hd
     . cases hd;intro b hb';simp only [List.mem_singleton] at hb';subst hb';rw [hb];rfl
     . cases hd
   . cases hd
 . cases hd
theorem w4w {η:List SB}:∀{hs:List HC} {cs:List Cell} {bs:List Nat},xs7 η hs=some (cs,bs)->∀ b∈bs,wry (gB η b)=true
 | [],cs,bs,hd=>by cases hd;intro b hb;cases hb
 | h::hs,cs,bs,hd=>by
  simp only [xs7] at hd;split at hd
  . rename_i c bs1 cs2 bs2 h1 h2
    cases hd;intro b hb
    rcases List.mem_append.1 hb with hb | hb
    . exact v5z h1 b hb
    . exact w4w h2 b hb
  . cases hd
theorem zrl {Mo : Nat → Nat → Prop} {ρ : Nat → Value} (h : HInv Γ Mo ρ η' w) {x : HC} (hd : xf6 η x = some (c, bs)) (hf : ∀ b ∈ bs, gB η' b = frzB (gB η b))
 (hv:HRd η' ρ (MX Mo ρ η') w v x):RdC (MX Mo ρ η') w v c:=by
 unfold xf6 at hd;split at hd
 . cases hd;exact hv
 . rename_i b es lo n;split at hd
   . rename_i c' k T hb;split at hd
     . rename_i hc
       cases hd
       have:=hf b (by simp)
       rw [hb] at this;exact vmf h (w5n this (by simp)) hc.1 hc.2 hv
     . cases hd
   . cases hd
 . cases hd
theorem v4g {Mo:Nat->Nat->Prop} {ρ:Nat->Value} {η η':List SB} {w:World} (h:HInv Γ Mo ρ η' w):∀{hs:List HC} {cs:List Cell} {bs:List Nat},xs7 η hs=some (cs,bs)->(∀ b∈bs,gB η' b=frzB (gB η b))->∀{vs:List Value},
 HRL η' ρ (MX Mo ρ η') w vs hs->RdD (MX Mo ρ η') w vs cs
 | [],cs,bs,hd,_,vs,hv=>by
  cases hd
  cases vs with
  | nil=>trivial
  | cons _ _=>exact hv.elim
 | x::hs,cs,bs,hd,hf,vs,hv=>by
  simp only [xs7] at hd;split at hd
  . rename_i c bs1 cs2 bs2 h1 h2
    cases hd
    cases vs with
    | nil=>exact hv.elim
    | cons v vs=>exact ⟨zrl h h1 (fun b hb=>hf b (by simp [hb])) hv.1,v4g h h2 (fun b hb=>hf b (by simp [hb])) hv.2⟩
  . cases hd
theorem y5z {x : HC} (hd : xf6 η x = some (c, bs)) (ha : ∀ b ∈ bs, gB η' b = gB η b) : xf6 η' x = some (c, bs) := by
 unfold xf6 at hd ⊢;split at hd
 . exact hd
 . rename_i b es lo n
   have e:gB η' b=gB η b:=by
    split at hd
    . split at hd
      . cases hd;exact ha b (by simp)
      . cases hd
    . cases hd
   simp only [e];exact hd
 . cases hd
theorem vex {η η':List SB}:∀{hs:List HC} {cs:List Cell} {bs:List Nat},xs7 η hs=some (cs,bs)->(∀ b∈bs,gB η' b=gB η b)->xs7 η' hs=some (cs,bs)
 | [],cs,bs,hd,_=>hd
 | x::hs,cs,bs,hd,ha=>by
  simp only [xs7] at hd ⊢;split at hd
  . rename_i c bs1 cs2 bs2 h1 h2
    cases hd;rw [y5z h1 (fun b hb=>ha b (by simp [hb])),vex h2 (fun b hb=>ha b (by simp [hb]))]
  . cases hd
theorem y2c {η η':List SB}:∀{bs:List Nat},(∀ b∈bs,gB η' b=gB η b)->frzE η' bs=frzE η bs
 | [],_=>rfl
 | b::bs,ha=>by
  show (b,frzB (gB η' b))::frzE η' bs=(b,frzB (gB η b))::frzE η bs;rw [ha b (by simp),y2c (fun i hi=>ha i (by simp [hi]))]
theorem RI.frz {E:HEnv} {ρ:Nat->Value} {J:List SV} {η:List SB} {a:Act} {w:World} (h:RI Γ E ρ J η a w) {bs:List Nat} (ha:∀ b∈bs,wry (gB η b)=true) :
 RI Γ E ρ J (appL (frzE η bs) η) a w/\∀ b∈bs,gB (appL (frzE η bs) η) b=frzB (gB η b):=by
 obtain ⟨h1,_,h3⟩:=Went.frz bs η h.inv rfl ha (fun _=>.inl rfl);exact ⟨h.go h1,h3⟩
def zyg (place:Nat->Option (Nat×Nat)) (cs:List HC):List (Nat×SV)->Option (List HC)
 | []=>some cs
 | (i,x)::r=>match place i,xb6 x with
  | some (off,size),some us=>if us.length=size/\off+size<=cs.length then zyg place (cs.take off++us++cs.drop (off+size)) r else none
  | _,_=>none
def zrj (Γ:List (Nat×List Cell)) (J:List SV):List (Nat×Operand)->List (Nat×SV)
 | []=>[]
 | (i,x)::r=>(i,opdS Γ J x)::zrj Γ J r
theorem wu2 {E:HEnv} {ρ:Nat->Value} {J:List SV} {η:List SB} {a:Act} {w:World} (hI:RI Γ E ρ J η a w) (place:Nat->Option (Nat×Nat)):∀(ps:List (Nat×Operand)) (cells:Array Value) (cs cs':List HC),
 HRL η ρ (MX E.Mo ρ η) w cells.toList cs->zyg place cs (zrj Γ J ps)=some cs'->∃ cells',Instr.fill place cells (ps.map fun p=>(p.1,a.eval p.2))=some cells'/\HRL η ρ (MX E.Mo ρ η) w cells'.toList cs'
 | [],cells,cs,cs',hr,h=>by
  simp only [zrj,zyg,Option.some.injEq] at h;subst h;exact ⟨cells,rfl,hr⟩
 | (i, x) :: ps, cells, cs, cs', hr, h => by
  simp only [zrj,zyg] at h;split at h
  . rename_i off size us hp hu;split at h
    . rename_i hc;obtain ⟨h1,h2⟩:=hc;have hv:=wxo hu (hI.opd x)
      have hvl:(a.eval x).cells.size=size:=by rw [<-h1,<-hv.length];simp
      have hcl:cells.size=cs.length:=by rw [<-hr.length];simp
      have hfold:((a.eval x).cells.zipIdx.foldl (fun cs (p:Value×Nat)=>cs.setIfInBounds (off+p.2) p.1) cells).toList=cells.toList.take off++(a.eval x).cells.toList++cells.toList.drop (off+size):=by
       have:=zv8 off (a.eval x).cells.toList 0 cells (by simp [hvl];omega)
       rw [<-Array.foldl_toList];simpa [hvl] using this
      obtain ⟨cells',hf,hr'⟩:=wu2 hI place ps ((a.eval x).cells.zipIdx.foldl (fun cs (p:Value×Nat)=>cs.setIfInBounds (off+p.2) p.1) cells) _ cs' (by
       rw [hfold]
       exact ((hr.take off).append hv).append (hr.drop _)) h
      refine ⟨cells',?_,hr'⟩;simp only [List.map_cons,Instr.fill,hp];rw [if_neg]
      . exact hf
      . simp only [hvl,ne_eq,not_true_eq_false,decide_false,Bool.false_or,decide_eq_true_eq];omega
    . cases h
  . cases h
theorem v8q {rd:List Nat} {J J':List SV} (hag:agS rd J J'):∀(ps:List (Nat×Operand)),(∀ t∈orrs ps,t∈rd)->zrj Γ J' ps=zrj Γ J ps
 | [],_=>rfl
 | (i,x)::ps,h=>by
  simp only [zrj];rw [hag.opd (fun t ht=>h t (by simp [orrs,ht])),v8q hag ps (fun t ht=>h t (by simp [orrs,ht]))]
theorem wmb {parts:List (Nat×Operand)} (ho:o.op=.build T parts.toArray) (hdst:o.dst=some d) (hti:mkTI P T=some ti)
 (harr:z01 ti=true) (hagg:ti.sh.agg=true) {hs:List HC} (hf:zyg (placeOf ti.sh) (ti.zc.map .dat) (zrj Γ J parts)=some hs):x6g Γ P o J η (d::orrs parts) [] [(d,.agg hs)] []:=by
 have hok:=xat hti;obtain ⟨ds,i,z,hd,hi,hz,hsz,_,hzs,hone,hzc,hsh⟩:=hok.ex;refine x6g.pure hdst (fun E ρ J' η' a w hag hah hI=>?_);have hav:=v8q (Γ:=Γ) hag parts (fun t ht=>by simp [ht])
 have hz0:HRL η' ρ (MX E.Mo ρ η') w z.cells.toList (ti.zc.map .dat):=by rw [hzc];exact vg3 hone
 obtain ⟨cells',hfill,hrd⟩:=wu2 hI (placeOf ti.sh) parts z.cells _ hs hz0 (by rw [hav];exact hf)
 have hbuilt:P.built T (parts.map fun p=>(p.1,a.eval p.2))=some cells':=by
  unfold Program.built;rw [hi,hd];rw [hsh] at hagg
  rcases zfy hagg with ⟨fl,rfl⟩ | ⟨n,e,rfl⟩
  . have hst:∃ fs,ti.sh=.struct fs:=by
     rw [hsh];unfold shOf at hagg ⊢;dsimp only at hagg ⊢;split at hagg
     . exact ⟨_,by rename_i hc;rw [if_pos hc]⟩
     . cases hagg
    obtain ⟨fs,hfs⟩:=hst;obtain ⟨fl',e1,rfl,hne⟩:=xqa (hsh.symm.trans hfs)
    cases e1;have hpl:fl.toList.mapM (fun f=>(P.info? f.type).map fun i=>(f.offset,i.size))=some (fl.toList.map fun f=>(f.offset,P.cellsOf f.type)):=
     mapM_some _ _ _ (fun f hf=>by
      obtain ⟨j,hj,hjs⟩:=w7r (hne f hf)
      simp [hj,hjs])
    simp only [hz,hpl];rw [hfs] at hfill;rw [<-hfill]
    congr 1
    funext x
    simp [placeOf];rfl
  . have har:ti.sh=.array n e (P.cellsOf e):=hsh
    have har':P.cellsOf e≠0:=by unfold z01 at harr;rw [har] at harr;simpa using harr
    obtain ⟨j,hj,hjs⟩:=w7r har';simp only [hz,hj];rw [har] at hfill;rw [<-hfill,hjs];rfl
 refine ⟨.agg cells',?_,⟨cells'.toList,by simp,hrd⟩⟩;have hrun:=run_build (P:=P) w T (parts.map fun p=>(p.1,a.eval p.2)).toArray cells' (by simpa using hbuilt);simp only [execOp,ho]
 have he:(parts.toArray.map fun (p:Nat×Operand)=>(p.1,a.eval p.2))=(parts.map fun p=>(p.1,a.eval p.2)).toArray:=by simp
 have:(Array.map (fun x=>match x with | (i,x)=>(i,a.eval x)) parts.toArray)=(parts.map fun p=>(p.1,a.eval p.2)).toArray:=by rw [<-he]
 rw [this];simp [hrun]
def vwd (es:Nat) (ik:Option IntKind) (n:Nat) (cs:List Cell):Option Cell:=match ik with
 | some k=>if es=1 then (v16 k cs).map (.ints k) else none
 | none=>some (.sl es (chunk es n cs))
theorem vpx {k : IntKind} : ∀ {cs : List Cell} {l : List Int}, v16 k cs = some l → cs = l.map fun n => .raw (.int k n)
 | [],l,h=>by simp [v16] at h;simp [h]
 | c::cs,l,h=>by
  unfold v16 at h;split at h
  . rename_i heq;cases heq
  . rename_i k' n r heq
    cases heq;split at h
    . rename_i hk;subst hk;simp only [Option.map_eq_some_iff] at h;obtain ⟨l',h1,rfl⟩:=h;rw [vpx h1];rfl
    . cases h
  . cases h
theorem x8b {n:Nat} {cs:List Cell} (hlen:cs.length=n*es) (h:vwd es ik n cs=some c):c.uni/\c.cnt=n/\c.esz=es/\c.flat=cs:=by
 unfold vwd at h;split at h
 . rename_i k;split at h
   . rename_i he;subst he;obtain ⟨l,hl,rfl⟩:=Option.map_eq_some_iff.1 h
     have:=vpx hl
     subst this;simp only [List.length_map,Nat.mul_one] at hlen;exact ⟨trivial,hlen,rfl,rfl⟩
   . cases h
 . cases h;exact ⟨x8w es n cs hlen,we9 es n cs,rfl,x14 es n cs hlen⟩
theorem xxr {place : Nat → Option (Nat × Nat)} : ∀ (ps : List (Nat × SV)) (cs cs' : List HC), zyg place cs ps = some cs' → cs'.length = cs.length
 | [],cs,cs',h=>by simp only [zyg,Option.some.injEq] at h;rw [h]
 | (i, x) :: ps, cs, cs', h => by
  simp only [zyg] at h;split at h
  . rename_i off size us hp hu;split at h
    . rename_i hc;rw [xxr ps _ cs' h];simp only [List.length_append,List.length_take,List.length_drop];omega
    . cases h
  . cases h
theorem ztb {η:List SB}:∀{hs:List HC} {cs:List Cell} {bs:List Nat},xs7 η hs=some (cs,bs)->cs.length=hs.length
 | [],cs,bs,hd=>by cases hd;rfl
 | h::hs,cs,bs,hd=>by
  simp only [xs7] at hd;split at hd
  . rename_i c bs1 cs2 bs2 h1 h2
    cases hd;simp [ztb h2]
  . cases hd
def litH (Γ:List (Nat×List Cell)) (J:List SV) (η:List SB) (es:Nat) (ik:Option IntKind) (zc:List Cell) (n:Nat) (parts:List (Nat×Operand)):Option (Cell×List Nat):=
 if n*es<=16777216/\n≠0 then match zyg (fun i=>some (i*es,es)) ((y7v zc n).map .dat) (zrj Γ J parts) with
  | some hs=>match xs7 η hs with
   | some (cs,bs)=>(vwd es ik n cs).map fun c=>(c,bs)
   | none=>none
  | none=>none
 else none
theorem x9f {η:List SB} {ρ:Nat->Value} {M:Nat->Nat->Prop} {w:World} {vs:List Value} {cs:List Cell} (h:HRL η ρ M w vs (cs.map .dat)):∀ n,HRL η ρ M w (y7v vs n) ((y7v cs n).map .dat)
 | 0=>trivial
 | n+1=>by
  simp only [y7v,List.map_append];exact h.append (x9f h n)
theorem yfq {E:HEnv} {a:Act} (hI:RI Γ E ρ J η a w) {n:Nat} {parts:List (Nat×Operand)} (ho:o.op=.buildSlice T n parts.toArray)
 (hti:mkTI P T=some ti) (hsh:ti.sh=.slice e es eb ik) (hte:mkTI P e=some te) (h:litH Γ J η es ik te.zc n parts=some (c,bs)) :
 ∃ vs:List Value,(execOp a.eval o).run P w=.ok (.value (.slice (some ⟨w.heap.size,0,none⟩) n n)) (w.alloc (.cells vs.toArray e))/\c.uni/\c.cnt=n/\c.esz=es/\vs.length=n*es/\(∀ b∈bs,wry (gB η b)=true)/\
  ∀(ρ':Nat->Value) (η':List SB) (w':World),HInv Γ E.Mo ρ' η' w'->Mv η ρ (MX E.Mo ρ η) w η' ρ' (MX E.Mo ρ' η') w'->(∀ b∈bs,gB η' b=frzB (gB η b))->RdD (MX E.Mo ρ' η') w' vs c.flat:=by
 have hok:=xat hti;obtain ⟨ds,i,z,hd,hi,hz,_,_,_,_,_,hsh'⟩:=hok.ex;unfold litH at h;split at h
 case isFalse=>cases h
 rename_i hsmall;split at h
 case h_2=>cases h
 rename_i hs hfill;split at h
 case h_2=>cases h
 rename_i cs bs' hdat;obtain ⟨c',hsl,he⟩:=Option.map_eq_some_iff.1 h
 cases he;obtain ⟨rfl,j,z',hj,hz',hjs,hjb,hes0,hzs,hik⟩:=zz2 (hsh'.symm.trans hsh);obtain ⟨de,je,ze,hde,hje,hze,_,_,_,hone,hzce,_⟩:=(xat hte).ex;rw [hj] at hje;cases hje;rw [hz'] at hze;cases hze;have hz0:HRL η ρ (MX E.Mo ρ η) w (y7v z'.cells.toList n) ((y7v te.zc n).map .dat):=x9f (by rw [hzce];exact vg3 hone) n
 have hinit:(Array.range (n*es)).map (z'.cells[· % z'.cells.size]!)=(y7v z'.cells.toList n).toArray:=by
  apply Array.ext
  . simp [vfi,hzs]
  . intro q h1 h2;simp only [Array.size_map,Array.size_range] at h1;have hq:=vdw z'.cells.toList n q (by simpa [hzs] using h1);have hlt:q % z'.cells.size<z'.cells.size:=Nat.mod_lt _ (by rw [hzs];omega);simp only [Array.getElem_map,Array.getElem_range,List.getElem_toArray];simp only [Array.length_toList,Array.getElem?_toList] at hq;rw [Array.getElem?_eq_getElem hlt,List.getElem?_eq_getElem (by simpa using h2)] at hq;simp at hq;rw [hq];simp [hlt]
 obtain ⟨cells',hf,hrd⟩:=wu2 hI (fun i=>some (i*es,es)) parts (y7v z'.cells.toList n).toArray _ hs (by simpa using hz0) hfill
 have hrun:(execOp a.eval o).run P w=.ok (.value (.slice (some ⟨w.heap.size,0,none⟩) n n)) (w.alloc (.cells cells' e)):=by
  have hpe:(Array.map (fun x=>match x with | (i,x)=>(i,a.eval x)) parts.toArray).toList=parts.map fun p=>(p.1,a.eval p.2):=by simp
  have h24:¬(16777216<n*es):=by omega
  have hne:¬(n*es=0):=by
   intro h0
   rcases Nat.mul_eq_zero.1 h0 with h0 | h0
   . exact hsmall.2 h0
   . exact hes0 h0
  simp only [execOp,ho,Instr.buildSlice,Sem.run_bind,y9m hd,Result.andThen_ok,ynn hj,hjs];rw [if_neg (by simpa using h24),if_neg hne];simp only [Sem.run_bind,zao hj hz',Result.andThen_ok,Sem.run_pure,hinit];rw [hpe,hf];simp [newRow]
 have hlen:cs.length=n*es:=by
  rw [ztb hdat,xxr _ _ _ hfill,List.length_map,vfi,hzce];simp [hzs]
 obtain ⟨h1,h2,h3,h4⟩:=x8b hlen hsl;refine ⟨cells'.toList,by rw [Array.toArray_toList];exact hrun,h1,h2,h3,?_,w4w hdat,fun ρ' η' w' hinv m hfz=>?_⟩
 . rw [hrd.length,<-ztb hdat,hlen]
 . rw [h4];exact v4g hinv hdat hfz (hrd.mv m)
theorem vgo {J':List SV} {n:Nat} {zc:List Cell} {parts:List (Nat×Operand)} (hp:zrj Γ J' parts=zrj Γ J parts) (h:litH Γ J η es ik zc n parts=some (c,bs))
 (ha:∀ b∈bs,gB η' b=gB η b):litH Γ J' η' es ik zc n parts=some (c,bs):=by
 unfold litH at h ⊢;rw [hp];split at h
 . rename_i hc;rw [if_pos hc];split at h
   . rename_i hs hf;split at h
     . rename_i cs bs' hd;obtain ⟨c',_,he⟩:=Option.map_eq_some_iff.1 h
       cases he;rw [vex hd ha];exact h
     . cases h
   . cases h
 . cases h
theorem w8t {α:Type}:∀(e e':List (Nat×α)) (l:List α),appL (e++e') l=appL e' (appL e l)
 | [],_,_=>rfl
 | (i,x)::e,e',l=>by simp only [List.cons_append,appL];exact w8t e e' _
theorem wv4 (ha : ∀ b ∈ bs, wry (gB η b) = true) (hf : η[nb]? = some .fresh) : (appL (frzE η bs) η)[nb]? = some .fresh := by
 have key:∀(bs:List Nat) (η1:List SB),(∀ b∈bs,wry (gB η b)=true)->η1[nb]? = some .fresh->(appL (frzE η bs) η1)[nb]? = some .fresh:=by
  intro bs
  induction bs with
  | nil=>intro η1 _ h;exact h
  | cons b bs ih=>
   intro η1 ha h;show (appL (frzE η bs) (η1.set b (frzB (gB η b))))[nb]? = _;refine ih _ (fun i hi=>ha i (by simp [hi])) ?_
   have hne:b≠nb:=fun e=>by
    have h1:=ha b (by simp);rw [e] at h1;unfold gB at h1;rw [hf] at h1
    cases h1
   rw [List.getElem?_set_ne hne];exact h
 exact key bs η ha hf
theorem ydi {n:Nat} {parts:List (Nat×Operand)} (ho:o.op=.buildSlice T n parts.toArray) (hdst:o.dst=some d)
 (hti:mkTI P T=some ti) (hsh:ti.sh=.slice e es eb ik) (hte:mkTI P e=some te) (h:litH Γ J η es ik te.zc n parts=some (c,bs)) (hroom:y6w η nb=true) :
 x6g Γ P o J η (d::orrs parts) (nb::bs) [(d,.one (.sl nb es 0 n))] (frzE η bs++[(nb,.arr c 0 (some e))]):=by
 refine x6g.val hdst (fun E ρ J' η' a w hag hah hI=>?_);have hp:=v8q (Γ:=Γ) hag parts (fun t ht=>by simp [ht])
 have hgb:∀ b∈bs,gB η' b=gB η b:=fun b hb=>hah.gB (by simp [hb])
 obtain ⟨vs,hrun,hu,hcnt,hesz,hvl,harr,hrd⟩:=yfq hI ho hti hsh hte (vgo hp h hgb);obtain ⟨hw1,_,hfz⟩:=Went.frz bs η' hI.inv rfl harr (fun _=>.inl rfl);have hfr:=wv4 harr (hah.room (by simp) hroom);have hb:Below w.heap.size w (w.alloc (.cells vs.toArray e)):=(Below.refl _ _).alloc (Nat.le_refl _) _;have hlt:nb<(appL (frzE η' bs) η').length:=(List.getElem?_eq_some_iff.1 hfr).1;have hrd1:=hrd ρ _ w hw1.inv hw1.mv hfz;have hw2:=Went.new hw1.inv hb hfr (v:=.pointer (some ⟨w.heap.size,0,none⟩)) (x:=.arr c 0 (some e)) (by simp) (fun _ _=>Nat.le_refl _) (fun m=>⟨⟨hu,Nat.zero_le _⟩,.inr ⟨w.heap.size,vs,[],e,rfl,by simpa using ylf w _,hrd1.keep m.keep,fun t' ht=>by cases ht;rfl⟩⟩);refine ⟨_,_,upd ρ nb (.pointer (some ⟨w.heap.size,0,none⟩)),hrun,?_,?_⟩
 . rw [<-y2c hgb,w8t];exact hw1.trans hw2
 . rw [<-y2c hgb,w8t];refine ⟨⟨_,by simp only [appL];rw [List.getElem?_set_self hlt],by simp⟩,_,n,rfl,Nat.le_refl _,fun _=>⟨by rw [wty];simp [real],by rw [wty];simp [bk,blk],vs.toArray,e,(0,0),by rw [wty];exact ylf w _,?_⟩⟩;simp [hvl]
theorem voq {n:Nat} {parts:List (Nat×Operand)} (ho:o.op=.buildSlice T n parts.toArray) (hdst:o.dst=some d)
 (hti:mkTI P T=some ti) (hsh:ti.sh=.slice e es eb ik) (hte:mkTI P e=some te) (h:litH Γ J η es ik te.zc n parts=some (c,bs)) :
 x6g Γ P o J η (d::orrs parts) bs [(d,.one (.dat c))] (frzE η bs):=by
 refine x6g.val hdst (fun E ρ J' η' a w hag hah hI=>?_);have hp:=v8q (Γ:=Γ) hag parts (fun t ht=>by simp [ht])
 have hgb:∀ b∈bs,gB η' b=gB η b:=fun b hb=>hah.gB hb
 obtain ⟨vs,hrun,hu,hcnt,hesz,hvl,harr,hrd⟩:=yfq hI ho hti hsh hte (vgo hp h hgb);obtain ⟨hw1,_,hfz⟩:=Went.frz bs η' hI.inv rfl harr (fun _=>.inl rfl);have hb:Below w.heap.size w (w.alloc (.cells vs.toArray e)):=(Below.refl _ _).alloc (Nat.le_refl _) _;have hw2:=Went.below hw1.inv hb;have hrd2:=(hrd ρ _ w hw1.inv hw1.mv hfz).keep hw2.keep;refine ⟨_,_,ρ,hrun,?_,?_⟩
 . rw [<-y2c hgb];exact hw1.trans hw2
 . rw [<-y2c hgb]
   have hM:∀ o,o<vs.length->¬MX E.Mo ρ (appL (frzE η' bs) η') w.heap.size o:=fun o _ hm=>by
    have:=x6h hw1.inv hm
    omega
   have:=zh0 (cap:=n) (q:=[]) (by simpa using ylf w (.cells vs.toArray e)) hrd2 hu (by omega) hM
   rw [hcnt] at this;exact this
def appT (T:Option TypeId) (e:TypeId):Option TypeId:=match T with
 | some t=>if t=e then some e else none
 | none=>none
def dstH (η:List SB) (e:TypeId) (es:Nat) (ik:Option IntKind):SV->Option (Option Nat×Cell×Nat×Option TypeId)
 | .one (.sl b es' 0 n)=>match gB η b with
  | .arr c k T=>if es'=es/\c.esz=es/\n=c.cnt then some (some b,c,k,T) else none
  | _=>none
 | .one (.dat c)=>match isZc c with
  | true=>some (none,wll es ik,0,some e)
  | false=>none
 | _=>none
def srcH (η:List SB):SV->Option (Cell×List Nat)
 | .one h=>xf6 η h
 | _=>none
def v0r:Option Nat->List (Nat×SB)
 | some b=>[(b,.dead)]
 | none=>[]
def xvy (η:List SB) (nb:Nat) (e:TypeId) (es eb:Nat) (ik:Option IntKind) (x y:SV):Option (List Nat×List (Nat×SB)×SV):=
 match dstH η e es ik x,srcH η y with
 | some (ob,c,k,T),some (cy,bs)=>match vd3 es eb ik c cy with
  | some c'=>if bs.all (fun i=>ob != some i) then some (ob.toList++bs,frzE η bs++(v0r ob++[(nb,.arr c' k (appT T e))]),.one (.sl nb es 0 c'.cnt)) else none
  | none=>none
 | _,_=>none
theorem y73 {η:List SB} {b:Nat}:∀(bs:List Nat) (η1:List SB),b∉bs->gB (appL (frzE η bs) η1) b=gB η1 b
 | [],_,_=>rfl
 | i::bs,η1,h=>by
  show gB (appL (frzE η bs) (η1.set i (frzB (gB η i)))) b=_;rw [y73 bs _ (fun hb=>h (by simp [hb])),y81 (fun e=>h (by simp [e]))]
theorem wzl (es:Nat) (ik:Option IntKind):(wll es ik).uni/\(wll es ik).cnt=0:=by
 cases ik with
 | none=>exact ⟨fun r hr=>(by cases hr),rfl⟩
 | some k=>exact ⟨trivial,rfl⟩
theorem yzu {Mo:Nat->Nat->Prop} (h:HInv Γ Mo ρ η w) (hf:η[nb]? = some .fresh) {n m k:Nat} {T:Option TypeId} {c':Cell} {all:List Value} {rest:Array Value}
 (hu:c'.uni) (_hcnt:c'.cnt=n+m) (hk:k<=c'.cnt*c'.esz) (hrd:RdD (MX Mo ρ η) w all c'.flat) (hall:all.length=(n+m)*es) (hcap:n+m<=cap) (hrest:rest.size=(cap-(n+m))*es) :
 Went Γ Mo ρ η w (upd ρ nb (.pointer (some ⟨w.heap.size,0,none⟩))) (η.set nb (.arr c' k (appT T e))) (w.drew.alloc (.cells (all.toArray++rest) e))/\
 HRd (η.set nb (.arr c' k (appT T e))) (upd ρ nb (.pointer (some ⟨w.heap.size,0,none⟩))) (MX Mo (upd ρ nb (.pointer (some ⟨w.heap.size,0,none⟩))) (η.set nb (.arr c' k (appT T e)))) (w.drew.alloc (.cells (all.toArray++rest) e))
  (.slice (some ⟨w.heap.size,0,none⟩) (n+m) cap) (.sl nb es 0 (n+m)):=by
 have hb:Below w.heap.size w (w.drew.alloc (.cells (all.toArray++rest) e)):=((Below.refl _ _).drew).alloc (Nat.le_refl _) _
 have hheap:(w.drew.alloc (.cells (all.toArray++rest) e)).heap[w.heap.size]? = some (.cells (all++rest.toList).toArray e (0,0)):=by
  have:=ylf w.drew (.cells (all.toArray++rest) e)
  rw [show (all++rest.toList).toArray=all.toArray++rest by apply Array.ext';simp];exact this
 have hlt:nb<η.length:=(List.getElem?_eq_some_iff.1 hf).1;refine ⟨Went.new h hb hf (by simp) (fun _ _=>Nat.le_refl _) (fun m=>⟨⟨hu,hk⟩,.inr ⟨w.heap.size,all,rest.toList,e,rfl,hheap,hrd.keep m.keep,fun t' ht=>?_⟩⟩),?_⟩
 . unfold appT at ht;split at ht
   . split at ht<;>cases ht;rfl
   . cases ht
 . refine ⟨⟨_,by rw [List.getElem?_set_self hlt],by simp⟩,_,cap,rfl,hcap,fun _=>⟨by rw [wty];simp [real],by rw [wty];simp [bk,blk],_,e,(0,0),by rw [wty];exact hheap,?_⟩⟩;simp only [List.size_toArray,List.length_append,Array.length_toList,hall,hrest,Nat.zero_add];rw [<-Nat.add_mul];exact Nat.le_of_eq (by congr 1;omega)
theorem v6m {x y:Operand} (ho:o.op=.call { callee:=.builtin .append,args:=#[x,y],argTypes:=#[T,T] }) (hdst:o.dst=some d)
 (hti:mkTI P T=some ti) (hsh:ti.sh=.slice e es eb ik) {rh:List Nat} {heff:List (Nat×SB)} {v:SV} (h:xvy η nb e es eb ik (opdS Γ J x) (opdS Γ J y)=some (rh,heff,v)) (hroom:y6w η nb=true) :
 x6g Γ P o J η (d::(orr x++orr y)) (nb::rh) [(d,v)] heff:=by
 refine x6g.val hdst (fun E ρ J' η' a w hag hah hI=>?_);obtain ⟨d0,i,z,hd0,hi,hz,_,_,_,_,_,hsh'⟩:=(xat hti).ex;obtain ⟨rfl,j,z',hj,hz',hjs,hjb,hes0,hzs,hik⟩:=zz2 (hsh'.symm.trans hsh)
 have hes:0<es:=by omega
 have hx:=hI.opd x;have hy:=hI.opd y;rw [hag.opd (fun t ht=>by simp [ht])] at hx hy;unfold xvy at h;split at h
 case h_2=>cases h
 rename_i ob c k T0 cy bs hD hS;split at h
 case h_2=>cases h
 rename_i c' y7q;split at h
 case isFalse=>cases h
 rename_i hob
 cases h
 have hnb:∀ b,ob=some b->b∉bs:=fun b e1 hb=>by
  have:=(List.all_eq_true.1 hob) b hb
  rw [e1] at this;simp at this
 obtain ⟨hsv,hS'⟩:∃ hc,opdS Γ J y=.one hc/\xf6 η hc=some (cy,bs):=by
  unfold srcH at hS;split at hS
  . rename_i hc e1;exact ⟨hc,e1,hS⟩
  . cases hS
 obtain ⟨hye,hyd⟩:=hS';rw [hye] at hy
 have hgb:∀ b∈bs,gB η' b=gB η b:=fun b hb=>hah.gB (by simp [hb])
 have hyd':=y5z hyd hgb;have harr:=v5z hyd';obtain ⟨hw1,_,hfz⟩:=Went.frz bs η' hI.inv rfl harr (fun _=>.inl rfl);have hfr:=wv4 harr (hah.room (by simp) hroom);have hyr:=zrl hw1.inv hyd' hfz (HRd.mv hw1.mv hy);have hfe:frzE η bs=frzE η' bs:=(y2c hgb).symm;rw [hfe];simp only [w8t];have hlt:nb<(appL (frzE η' bs) η').length:=(List.getElem?_eq_some_iff.1 hfr).1;generalize hη1:appL (frzE η' bs) η'=η1 at hw1 hfr hyr hfz hlt
 have hexec:∀(vx vy u:Value) (w2:World),a.eval x=vx->a.eval y=vy->(Builtin.append_ #[T,T] o.type #[vx,vy]).run P w=.ok u w2->(execOp a.eval o).run P w=.ok (.value u) w2:=fun vx vy u w2 e1 e2 hr=>by
  rw [vli ho,show (#[x,y]:Array Operand).map a.eval=#[vx,vy] from by simp [e1,e2]];simp only [builtin,Sem.run_bind,hr];rfl
 have nothing:∀(ad yad:Option Addr) (ycap:Nat),(Builtin.append_ #[T,T] o.type #[.slice ad 0 0,.slice yad 0 ycap]).run P w=.ok (.slice ad 0 0) w:=fun ad yad ycap=>by
  have hf0:(Builtin.firstCells j.size 0 (.slice yad 0 ycap)).run P w=.ok #[] w:=vc5 w 0 _ [] ⟨_,_,rfl⟩ (by simp) (.inl rfl)
  cases ad with
  | none=>simp [Builtin.append_,run_underlying hd0,sizeOf,typeInfo,hj,Builtin.lenOf,hf0]
  | some b=>simp [Builtin.append_,run_underlying hd0,sizeOf,typeInfo,hj,Builtin.lenOf,hf0,storeCells]
 unfold dstH at hD;split at hD
 ·
  rename_i b es' n hxe;split at hD
  case h_2=>cases hD
  rename_i c0 k0 T1 hb;split at hD
  case isFalse=>cases hD
  rename_i hc;obtain ⟨rfl,hcz,hn⟩:=hc
  cases hD;rw [hxe] at hx;have hx0:HRd η' ρ (MX E.Mo ρ η') w (a.eval x) (.sl b es' 0 n):=hx;have hx1:=HRd.mv hw1.mv hx0
  have hb':gB η1 b=.arr c k T0:=by
   rw [<-hη1,y73 bs η' (hnb b rfl),hah.gB (by simp)];exact hb
  have hb1:=w5n hb' (by simp);have hsb:=hw1.inv.blk b _ hb1;obtain ⟨⟨hu,hk⟩,h0⟩:=hsb;obtain ⟨m,news,fy,⟨yad,ycap,hvy⟩,hnl,hnr,hnc,hu',hcnt',hesz',hcesz,hflat',hb1',hb2'⟩:=yrg hes y7q hu hyr;obtain ⟨_,ad,cap,hv,hle,hcap⟩:=hx1
  have hk':k<=c'.cnt*c'.esz:=by
   rw [hcnt',hesz',<-hcesz,Nat.add_mul];omega
  have hne:nb≠b:=fun e1=>by rw [e1,hb1] at hfr;cases hfr
  have hkf:(η1.set b .dead)[nb]? = some .fresh:=by rw [List.getElem?_set_ne (Ne.symm hne)];exact hfr
  have hnc':news=[]\/∃ b off cap,Value.slice yad m ycap=.slice (some ⟨b,off,none⟩) m cap/\∀ j u,news[j]? = some u->w.cell? ⟨b,off+j,none⟩=some u:=
   hnc.imp id fun ⟨b,off,cap,e,h⟩=>⟨b,off,cap,hvy▸e,fun j u hj=>(h j u hj).2⟩
  show ∃ v w' ρ',_/\Went Γ E.Mo ρ η' w ρ' ((η1.set b .dead).set nb (.arr c' k (appT T0 e))) w'/\SVR ((η1.set b .dead).set nb (.arr c' k (appT T0 e))) ρ' (MX E.Mo ρ' ((η1.set b .dead).set nb (.arr c' k (appT T0 e)))) w' v _;by_cases hcm:cap=0/\m=0
  . obtain ⟨rfl,rfl⟩:=hcm
    have hn0:n=0:=by omega
    subst hn0;have hk0:=Went.kill hw1.inv hb1;have hw2:=Went.new hk0.inv (xr1 w) hkf (v:=.pointer none) (x:=.arr c' k (appT T0 e)) (by simp) (fun _ hr=>absurd rfl hr) (fun m=>⟨⟨hu',hk'⟩,.inl ⟨by rw [hcnt'];omega,rfl⟩⟩);refine ⟨.slice ad 0 0,w,_,hexec _ _ _ _ hv hvy (nothing ad yad ycap),hw1.trans (hk0.trans hw2),⟨_,by rw [List.getElem?_set_self (by simpa using hlt)],by simp⟩,ad,0,?_,by omega,fun h=>absurd rfl h⟩;rw [hcnt',<-hn]
  . by_cases hroom':n+m<=cap
    ·
     obtain ⟨hre,had,arr,Tb,fz,hheap,hsz⟩:=hcap (by omega)
     rcases h0 with ⟨_,e1⟩ | ⟨bb,vs,q,Tb',e1,hh,hr,hT⟩
     . exact absurd e1 hre
     have hbk:bk (ρ b)=bb:=by rw [e1];rfl
     rw [hbk] at had hheap;rw [hh] at hheap
     cases hheap;have hvl:=hr.length;have hfl:=Cell.x84 hu
     have hfit:n*es'+news.length<=(vs++q).length:=by
      have:(n+m)*es'<=(0+cap)*es':=Nat.mul_le_mul_right _ (by omega)
      rw [Nat.add_mul] at this;simp only [List.size_toArray] at hsz;rw [hnl];omega
     have hf:(Builtin.firstCells j.size m (.slice yad m ycap)).run P w=.ok news.toArray w:=vc5 w m _ news ⟨_,_,rfl⟩ (by rw [hjs];exact hnl) hnc'
     have hones:∀ u∈news,u.oneCell'=true:=fun u hu=>hnr.oneL u hu
     have hrun:=wem (P:=P) hd0 hj w o.type bb Tb n cap (vs++q).toArray hh m (.slice yad m ycap) news ⟨_,_,rfl⟩ (by rw [hjs];exact hnl) hf hones hroom' (by rw [hjs];simpa using hfit);rw [hjs] at hrun
     have hnv:n*es'=vs.length:=by rw [hvl,hfl,hn,hcesz]
     have hnew:(vs++q).toArray.toList.take (n*es')++news++(vs++q).toArray.toList.drop (n*es'+news.length)=(vs++news)++(vs++q).drop (vs.length+news.length):=by
      simp only [hnv,List.take_left',List.append_assoc]
     rw [hnew] at hrun
     have hdrop:(vs++q).drop (vs.length+news.length)=q.drop news.length:=by rw [List.drop_append];simp
     rw [hdrop] at hrun;rw [hnv,List.length_append] at hfit
     have hsize':((vs++news)++q.drop news.length).length=(vs++q).length:=by
      simp only [List.length_append,List.length_drop];omega
     have hwr:=Went.write (w':=w.setRow bb ((vs++news)++q.drop news.length).toArray) (x':=.arr c' k (appT T0 e)) hw1.inv hb1 rfl hre rfl (fun o=>Iff.rfl) (by simp [World.setRow]) rfl rfl rfl (fun kk hk=>setRow_other w bb kk _ (by rw [<-hbk];exact hk))
      (wqu hh (by simp only [List.size_toArray];omega)) (fun oo u hm hc=>by
        rw [hbk] at hc ⊢;rw [cell_setRow_same w bb oo _ _ _ _ hh]
        have hlt':oo<vs.length:=by
         have:¬k<=oo:=hm
         omega
        simp only [World.cell?,hh,Option.isSome_none,Bool.false_eq_true,if_false,List.getElem?_toArray] at hc;rw [List.getElem?_append_left hlt'] at hc;rw [List.getElem?_toArray,List.append_assoc,List.getElem?_append_left hlt']
        exact hc)
      (fun m'=>⟨⟨hu',hk'⟩,.inr ⟨bb,vs++news,q.drop news.length,Tb,e1,setRow_heap w bb _ _ Tb (0,0) hh,by rw [hflat'];exact (hr.app hnr).keep m'.keep,fun t' ht=>by
        unfold appT at ht;split at ht
        . rename_i t;split at ht
          . rename_i e2;cases ht;rw [<-e2];exact hT t rfl
          . cases ht
        . cases ht⟩⟩)
     have hfr2:(η1.set b (.arr c' k (appT T0 e)))[nb]? = some .fresh:=by rw [List.getElem?_set_ne (Ne.symm hne)];exact hfr
     have hmv:=Went.move hwr.inv (b:=b) (nb:=nb) (x:=.arr c' k (appT T0 e)) (by rw [List.getElem?_set_self (List.getElem?_eq_some_iff.1 hb1).1]) rfl hfr2;rw [List.set_set] at hmv;subst had;refine ⟨_,_,_,hexec _ _ _ _ hv hvy (by rw [Nat.zero_mul];exact hrun),hw1.trans (hwr.trans hmv),⟨_,by rw [List.getElem?_set_self (by simpa using hlt)],by simp⟩,_,cap,?_,?_,fun _=>⟨by rw [wty];exact hre,by rw [wty,hbk,Nat.zero_mul],_,Tb,(0,0),by rw [wty,hbk];exact setRow_heap w bb _ _ Tb (0,0) hh,?_⟩⟩
     . rw [hcnt',<-hn]
     . rw [hcnt',<-hn];exact hroom'
     . simp only [List.size_toArray] at hsz ⊢;rw [hsize'];exact hsz
    ·
     have hold:cap<n+m:=by omega
     have hxs:∃ xs:List Value,RdD (MX E.Mo ρ η1) w xs c.flat/\(xs=[]\/∃ g cap',Value.slice ad n cap=.slice (some ⟨g,0,none⟩) n cap'/\∀ j u,xs[j]? = some u->w.cell? ⟨g,0+j,none⟩=some u):=by
      by_cases h00:n=0
      . have hf0:c.flat=[]:=List.eq_nil_of_length_eq_zero (by rw [Cell.x84 hu,<-hn,h00];simp);rw [hf0];exact ⟨[],trivial,.inl rfl⟩
      . obtain ⟨hre,had,arr,Tb,fz,hheap,hsz⟩:=hcap (by omega)
        rcases h0 with ⟨h00',_⟩ | ⟨bb,vs,q,Tb',e1,hh,hr,hT⟩
        . omega
        . have hbk:bk (ρ b)=bb:=by rw [e1];rfl
          rw [hbk] at had;refine ⟨vs,hr,.inr ⟨bb,cap,by rw [had];simp,fun jj u hj=>?_⟩⟩;rw [Nat.zero_add];exact x55 hh hj
     obtain ⟨xs,hxr,hxc⟩:=hxs
     have hxl:xs.length=n*es':=by rw [hxr.length,Cell.x84 hu,hn,hcesz]
     have hfd:(Builtin.firstCells j.size m (.slice yad m ycap)).run P w.drew=.ok news.toArray w.drew:=vc5 w.drew m _ news ⟨_,_,rfl⟩ (by rw [hjs];exact hnl) hnc';have hfo:(Builtin.firstCells j.size n (.slice ad n cap)).run P w.drew=.ok xs.toArray w.drew:=vc5 w.drew n _ xs ⟨_,_,rfl⟩ (by rw [hjs];exact hxl) (hxc.imp id fun ⟨g,cap',e1,hc⟩=>⟨g,0,cap',e1,hc⟩);have hrun:=wnm (P:=P) hd0 hj hz' w o.type hfd hfo hold (by rw [hjb,hn];exact hb1') (by rw [hn];exact hb2');have hge:=grownCap_ge w (n+m) cap e;have hk0:=Went.kill hw1.inv hb1;have hgn:=yzu hk0.inv hkf (e:=e) (es:=es') (n:=n) (m:=m) (cap:=grownCap w (n+m) cap e) (k:=k) (T:=T0) (c':=c') (all:=xs++news) (rest:=Builtin.zeroCells z'.cells (grownCap w (n+m) cap e-(n+m))) hu' (by rw [hcnt',<-hn]) hk'
      (by rw [hflat'];exact (hxr.app hnr).keep hk0.keep) (by rw [List.length_append,hxl,hnl,Nat.add_mul]) hge (by rw [size_zeroCells,hzs])
     refine ⟨_,_,_,hexec _ _ _ _ hv hvy hrun,hw1.trans (hk0.trans hgn.1),?_⟩;rw [hcnt',<-hn];exact hgn.2
 ·
  rename_i c0 hxe;split at hD
  case h_2=>cases hD
  rename_i hzc
  cases hD;rw [hxe] at hx;obtain ⟨hu,hcnt0⟩:=wzl es ik;obtain ⟨ad,hv⟩:=zr9 (τ:=fun _=>⟨Go.undef,0⟩) hzc (RdT.of (show RdC _ w (a.eval x) c0 from hx));obtain ⟨m,news,fy,⟨yad,ycap,hvy⟩,hnl,hnr,hnc,hu',hcnt',hesz',hcesz,hflat',hb1',hb2'⟩:=yrg hes y7q hu hyr;rw [hcnt0] at hcnt' hb1' hb2';show ∃ v w' ρ',_/\Went Γ E.Mo ρ η' w ρ' (η1.set nb (.arr c' 0 (appT (some e) e))) w'/\SVR (η1.set nb (.arr c' 0 (appT (some e) e))) ρ' (MX E.Mo ρ' (η1.set nb (.arr c' 0 (appT (some e) e)))) w' v _;by_cases hm0:m=0
  . subst hm0;have hw2:=Went.new hw1.inv (xr1 w) hfr (v:=.pointer none) (x:=.arr c' 0 (appT (some e) e)) (by simp) (fun _ hr=>absurd rfl hr) (fun m=>⟨⟨hu',Nat.zero_le _⟩,.inl ⟨by rw [hcnt'],rfl⟩⟩);refine ⟨.slice ad 0 0,w,_,hexec _ _ _ _ hv hvy (nothing ad yad ycap),hw1.trans hw2,⟨_,by rw [List.getElem?_set_self hlt],by simp⟩,ad,0,?_,by omega,fun h=>absurd rfl h⟩;rw [hcnt']
  . have hnc':news=[]\/∃ b off cap,Value.slice yad m ycap=.slice (some ⟨b,off,none⟩) m cap/\∀ j u,news[j]? = some u->w.cell? ⟨b,off+j,none⟩=some u:=
     hnc.imp id fun ⟨b,off,cap,e,h⟩=>⟨b,off,cap,hvy▸e,fun j u hj=>(h j u hj).2⟩
    have hfd:(Builtin.firstCells j.size m (.slice yad m ycap)).run P w.drew=.ok news.toArray w.drew:=vc5 w.drew m _ news ⟨_,_,rfl⟩ (by rw [hjs];exact hnl) hnc';have hfo:(Builtin.firstCells j.size 0 (.slice ad 0 0)).run P w.drew=.ok ([]:List Value).toArray w.drew:=vc5 w.drew 0 _ [] ⟨_,_,rfl⟩ (by simp) (.inl rfl);have hrun:=wnm (P:=P) hd0 hj hz' w o.type hfd hfo (by omega) (by rw [hjb];exact hb1') hb2';have hge:=grownCap_ge w (0+m) 0 e;have hf0:(wll es ik).flat=[]:=List.eq_nil_of_length_eq_zero (by rw [Cell.x84 hu,hcnt0];simp);have hgn:=yzu hw1.inv hfr (e:=e) (es:=es) (n:=0) (m:=m) (cap:=grownCap w (0+m) 0 e) (k:=0) (T:=some e) (c':=c') (all:=[]++news) (rest:=Builtin.zeroCells z'.cells (grownCap w (0+m) 0 e-(0+m))) hu' hcnt' (Nat.zero_le _)
     (by rw [hflat',hf0];exact hnr) (by rw [List.nil_append,hnl,Nat.zero_add]) hge (by rw [size_zeroCells,hzs])
    refine ⟨_,_,_,hexec _ _ _ _ hv hvy hrun,hw1.trans hgn.1,?_⟩;rw [hcnt'];exact hgn.2
 . cases hD
end Go.Hp
