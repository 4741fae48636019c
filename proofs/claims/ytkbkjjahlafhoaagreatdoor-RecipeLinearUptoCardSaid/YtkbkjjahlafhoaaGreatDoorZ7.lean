/- The proof, part Z7: Hi, Hj. -/
import Derived.Test.YtkbkjjahlafhoaaGreatDoorZ6
import Derived.ChangeKeysEq
import Derived.Laws.BytesArg
import Derived.Lib.UnsafeStr
namespace Go.Hp
open Go Go.RowKit Go.Slot
variable {P:Program} {Γ:List (Nat×List Cell)}
def CallsD (Γ:List (Nat×List Cell)) (P:Program) (f:FuncId) (args:List AV) (res:AV):Prop:=
 zz7 P f/\∀(M:Nat->Nat->Prop) (w:World) (vs:List Value),Bounded M w->wjt Γ M w->RdBL M w vs args->Calls P f vs.toArray w (Back M w res)
def wiy (Γ:List (Nat×List Cell)) (Mo:Nat->Nat->Prop) (ρ:Nat->Value) (η:List SB) (w:World) (η':List SB) (res:SV):Ending->World->Prop:=fun e w'=>
 ∃ v ρ',e=.returned v/\Went Γ Mo ρ η w ρ' η' w'/\SVR η' ρ' (MX Mo ρ' η') w' v res
def z00 (Γ:List (Nat×List Cell)) (P:Program) (f:FuncId) (η:List SB) (args:List SV) (η':List SB) (res:SV):Prop:=
 zz7 P f/\∀(Mo:Nat->Nat->Prop) (ρ:Nat->Value) (w:World) (vs:List Value),HInv Γ Mo ρ η w->SRL η ρ (MX Mo ρ η) w vs args->Calls P f vs.toArray w (wiy Γ Mo ρ η w η' res)
def ztd (Γ:List (Nat×List Cell)) (P:Program) (F:List AV->AV->Prop) (M:Nat->Nat->Prop) (w:World) (v:Value):Prop:=
 ∃ f caps,v=.func (.func f) #[] caps/\zz7 P f/\∀ args res vs,F args res->Bounded M w->wjt Γ M w->RdBL M w vs args->Calls P f (vs.toArray++caps) w (Back M w res)
def argD (η:List SB):SV->Option (AV×List Nat)
 | .one h=>(yo0 η h).map fun p=>(.one p.1,p.2)
 | .agg hs=>(ym9 η hs).map fun p=>(.agg p.1,p.2)
 | .elt cs=>some (.elt cs,[])
 | .any=>some (.any,[])
 | _=>none
def wrt (η:List SB):List SV->Option (List AV×List Nat)
 | []=>some ([],[])
 | x::r=>match argD η x,wrt η r with
  | some (a,bs),some (l,bs')=>some (a::l,bs++bs')
  | _,_=>none
def ypm (Γ:List (Nat×List Cell)) (J:List SV):List Operand->List SV
 | []=>[]
 | x::r=>opdS Γ J x::ypm Γ J r
theorem wlr {η:List SB} {x:SV} {a:AV} {bs:List Nat} (h:argD η x=some (a,bs)):∀ b∈bs,w9u (gB η b)=true:=by
 unfold argD at h;split at h
 . obtain ⟨p,hp,e⟩:=Option.map_eq_some_iff.1 h;cases e;exact xoq hp
 . obtain ⟨p,hp,e⟩:=Option.map_eq_some_iff.1 h;cases e;exact wy7 hp
 . cases h;intro b hb;cases hb
 . cases h;intro b hb;cases hb
 . cases h
theorem yey {η:List SB}:∀{l:List SV} {r:List AV} {bs:List Nat},wrt η l=some (r,bs)->∀ b∈bs,w9u (gB η b)=true
 | [],r,bs,h=>by cases h;intro b hb;cases hb
 | x::l,r,bs,h=>by
  simp only [wrt] at h;split at h
  . rename_i a bs1 r2 bs2 h1 h2
    cases h;intro b hb
    rcases List.mem_append.1 hb with hb | hb
    . exact wlr h1 b hb
    . exact yey h2 b hb
  . cases h
theorem y8q {Mo:Nat->Nat->Prop} {ρ:Nat->Value} {η η':List SB} {w:World} (hI:HInv Γ Mo ρ η' w) {x:SV} {a:AV} {bs:List Nat} (h:argD η x=some (a,bs)) (hf:∀ b∈bs,gB η' b=frzB (gB η b)) {v:Value}
 (hv:SVR0 η' ρ (MX Mo ρ η') w v x):RdB (MX Mo ρ η') w v a:=by
 unfold argD at h;split at h
 . obtain ⟨p,hp,e⟩:=Option.map_eq_some_iff.1 h;cases e;exact zpt hI hp hf hv
 . obtain ⟨p,hp,e⟩:=Option.map_eq_some_iff.1 h;cases e;obtain ⟨vs,rfl,hr⟩:=hv;exact ⟨vs,rfl,vmp hI hp hf hr⟩
 . cases h;exact hv
 . cases h;trivial
 . cases h
theorem z4d {Mo:Nat->Nat->Prop} {ρ:Nat->Value} {η η':List SB} {w:World} (hI:HInv Γ Mo ρ η' w):∀{l:List SV} {r:List AV} {bs:List Nat},wrt η l=some (r,bs)->(∀ b∈bs,gB η' b=frzB (gB η b))->∀{vs:List Value},
 SRL η' ρ (MX Mo ρ η') w vs l->RdBL (MX Mo ρ η') w vs r
 | [],r,bs,h,_,vs,hv=>by
  cases h
  cases vs with
  | nil=>trivial
  | cons _ _=>exact hv.elim
 | x::l,r,bs,h,hf,vs,hv=>by
  simp only [wrt] at h;split at h
  . rename_i a bs1 r2 bs2 h1 h2
    cases h
    cases vs with
    | nil=>exact hv.elim
    | cons v vs=>exact ⟨y8q hI h1 (fun b hb=>hf b (by simp [hb])) hv.1,z4d hI h2 (fun b hb=>hf b (by simp [hb])) hv.2⟩
  . cases h
theorem zg4 {η η':List SB} {x:SV} {a:AV} {bs:List Nat} (h:argD η x=some (a,bs)) (ha:∀ b∈bs,gB η' b=gB η b):argD η' x=some (a,bs):=by
 unfold argD at h ⊢;split at h
 . obtain ⟨p,hp,e⟩:=Option.map_eq_some_iff.1 h;cases e;rw [xvg hp ha];rfl
 . obtain ⟨p,hp,e⟩:=Option.map_eq_some_iff.1 h;cases e;rw [zan hp ha];rfl
 . exact h
 . exact h
 . cases h
theorem vnx {η η':List SB}:∀{l:List SV} {r:List AV} {bs:List Nat},wrt η l=some (r,bs)->(∀ b∈bs,gB η' b=gB η b)->wrt η' l=some (r,bs)
 | [],r,bs,h,_=>h
 | x::l,r,bs,h,ha=>by
  simp only [wrt] at h ⊢;split at h
  . rename_i a bs1 r2 bs2 h1 h2
    cases h;rw [zg4 h1 (fun b hb=>ha b (by simp [hb])),vnx h2 (fun b hb=>ha b (by simp [hb]))]
  . cases h
theorem wus {rd:List Nat} {J J':List SV} (hag:agS rd J J'):∀(xs:List Operand),(∀ t∈orrL xs,t∈rd)->ypm Γ J' xs=ypm Γ J xs
 | [],_=>rfl
 | x::xs,h=>by
  simp only [ypm];rw [hag.opd (fun t ht=>h t (by simp [orrL,ht])),wus hag xs (fun t ht=>h t (by simp [orrL,ht]))]
def zji (l:List SV):Bool:=l.all xnf
theorem wgs {E:HEnv} {ρ:Nat->Value} {J:List SV} {η:List SB} {a:Act} {w:World} (hI:RI Γ E ρ J η a w):∀(xs:List Operand),zji (ypm Γ J xs)=true->SRL η ρ (MX E.Mo ρ η) w (xs.map a.eval) (ypm Γ J xs)
 | [],_=>trivial
 | x::xs,h=>by
  simp only [ypm,zji,List.all_cons,Bool.and_eq_true] at h;exact ⟨(hI.opd x).to0 h.1,wgs hI xs h.2⟩
theorem z6n {η:List SB}:∀{l:List SV} {r:List AV} {bs:List Nat},wrt η l=some (r,bs)->zji l=true
 | [],r,bs,h=>rfl
 | x::l,r,bs,h=>by
  simp only [wrt] at h;split at h
  . rename_i a bs1 r2 bs2 h1 h2;simp only [zji,List.all_cons,Bool.and_eq_true];refine ⟨?_,z6n h2⟩
    cases x<;>first | rfl | cases h1
  . cases h
def ywb:AV->Option SV
 | .one c=>some (.one (.dat c))
 | .agg cs=>some (.agg (cs.map .dat))
 | .elt cs=>some (.elt cs)
 | .any=>some .any
 | _=>none
def x3n:List AV->Option (List SV)
 | []=>some []
 | a::r=>match ywb a,x3n r with
  | some x,some l=>some (x::l)
  | _,_=>none
def resS (nb:Nat):AV->Option (SV×Option SB)
 | .tup l=>(x3n l).map fun l=>(.tup l,none)
 | .arr [] c none=>some (.one (.sl nb c.esz 0 c.cnt),some (.arr c 0 none))
 | a=>(ywb a).map fun x=>(x,none)
theorem vye {η:List SB} {ρ:Nat->Value} {M:Nat->Nat->Prop} {w:World} {v:Value} {a:AV} {x:SV} (h:ywb a=some x) (hv:RdB M w v a):SVR0 η ρ M w v x:=by
 unfold ywb at h;split at h
 . cases h;exact hv
 . cases h;obtain ⟨vs,rfl,hr⟩:=hv;exact ⟨vs,rfl,RdD.hrl hr⟩
 . cases h;exact hv
 . cases h;trivial
 . cases h
theorem wri {η:List SB} {ρ:Nat->Value} {M:Nat->Nat->Prop} {w:World}:∀{l:List AV} {r:List SV} {vs:List Value},x3n l=some r->RdBL M w vs l->SRL η ρ M w vs r
 | [],r,vs,h,hv=>by
  cases h
  cases vs with
  | nil=>trivial
  | cons _ _=>exact hv.elim
 | a::l,r,vs,h,hv=>by
  simp only [x3n] at h;split at h
  . rename_i x l' h1 h2
    cases h
    cases vs with
    | nil=>exact hv.elim
    | cons v vs=>exact ⟨vye h1 hv.1,wri h2 hv.2⟩
  . cases h
theorem yor {Mo:Nat->Nat->Prop} {ρ:Nat->Value} {η:List SB} {w w':World} (h:HInv Γ Mo ρ η w) {e:Ending} {res:AV} (hb:Back (MX Mo ρ η) w res e w') {nb:Nat} {x:SV} {ob:Option SB} (hr:resS nb res=some (x,ob)) (hroom:ob≠none->η[nb]? = some .fresh) :
 ∃ v ρ',e=.returned v/\Went Γ Mo ρ η w ρ' (appL (oB nb ob) η) w'/\SVR (appL (oB nb ob) η) ρ' (MX Mo ρ' (appL (oB nb ob) η)) w' v x:=by
 obtain ⟨v,rfl,hbl,hrd,hfr⟩:=hb;have hw:=Went.below h hbl;unfold resS at hr;split at hr
 . rename_i l;obtain ⟨l',hl,he⟩:=Option.map_eq_some_iff.1 hr
   cases he;obtain ⟨vs,rfl,hv⟩:=hrd;exact ⟨_,ρ,rfl,hw,vs,rfl,wri hl hv⟩
 . rename_i c
   cases hr;obtain ⟨_,_,how⟩:=hrd;obtain ⟨b,T,vs,q,cap,rfl,hbk,hr,hu,hcap,hsz,hM⟩:=how;have hf:=hroom (by simp);have hlt:nb<η.length:=(List.getElem?_eq_some_iff.1 hf).1;have hge:w.heap.size<=b:=hfr rfl;refine ⟨_,upd ρ nb (.pointer (some ⟨b,0,none⟩)),rfl,Went.new h hbl hf (by simp) (fun _ _=>hge) (fun m=>⟨⟨hu,Nat.zero_le _⟩,.inr ⟨b,vs,q,T,rfl,hbk,hr.keep (y3e.shrink w' ?_),by simp⟩⟩),?_⟩
   . rintro b' o' (hm | ⟨i,y,hi,hy,hre,e⟩)
     . exact .inl (.inl hm)
     . rcases wl7 hi with ⟨rfl,rfl⟩ | ⟨hn,hi⟩
       . rw [xjo] at e;exact .inr e.symm
       . rw [vw6 hn] at hre e;exact .inl (.inr ⟨i,y,hi,hy,hre,e⟩)
   . refine ⟨⟨_,by simp only [oB,appL];rw [List.getElem?_set_self hlt],by simp⟩,_,cap,rfl,hcap,fun _=>⟨by rw [xjo];simp [real],by rw [xjo];simp [bk,blk],_,T,_,by rw [xjo];exact hbk,?_⟩⟩;simpa using hsz
 . rename_i a h1 h2;obtain ⟨x',hx,he⟩:=Option.map_eq_some_iff.1 hr
   cases he;refine ⟨v,ρ,rfl,hw,SVR.of0 (vye hx ?_)⟩;unfold ywb at hx
   split at hx<;>first | exact hrd | cases hx
def xln (_Γ:List (Nat×List Cell)) (J:List SV) (η:List SB):Operand->Option (FuncId×List SV×List Nat×List Nat)
 | .func f=>some (f,[],[],[])
 | .tmp t=>match gtS J t with
  | .one (.dat (.raw v))=>(wgb v).map fun f=>(f,[],[t],[])
  | .one (.fnr b)=>match gB η b with
   | .clo f caps=>some (f,caps,[t],[b])
   | _=>none
  | _=>none
 | _=>none
theorem z4o {o:Oper} {x:Operand} {ev:Operand->Value} {xs:Array Operand} {ts:Array TypeId} {f:FuncId} {cv:Array Value} (ho:o.op=.call { callee:=.value x,args:=xs,argTypes:=ts }) (hx:ev x=.func (.func f) #[] cv) (hc:zz7 P f) (w:World) :
 (execOp ev o).run P w=.ok (.enter f (xs.map ev++cv)) w:=by
 unfold execOp;rw [ho];simp [resolve,Deferred.ofValue,hx,invoke,vuc hc]
theorem wuz {E:HEnv} {ρ:Nat->Value} {J:List SV} {η:List SB} {a:Act} {w:World} (hI:RI Γ E ρ J η a w) {x:Operand} {f:FuncId} {caps:List SV} {rd rh:List Nat} (h:xln Γ J η x=some (f,caps,rd,rh)) :
 ∃ cv:List Value,a.eval x=.func (.func f) #[] cv.toArray/\SRL η ρ (MX E.Mo ρ η) w cv caps:=by
 unfold xln at h;split at h
 . cases h;exact ⟨[],rfl,trivial⟩
 . rename_i t;have ht:=hI.gt t;split at h
   . rename_i v hv;obtain ⟨f',hf,he⟩:=Option.map_eq_some_iff.1 h
     cases he;rw [hv] at ht;have e:a.tmps.getD t Go.undef=v:=RdC.xbx ht;exact ⟨[],by show a.tmps.getD t Go.undef=_;rw [e,wer hf],trivial⟩
   . rename_i b hb;split at h
     . rename_i f' caps' hg
       cases h;rw [hb] at ht;obtain ⟨cv,e,hr⟩:=hI.sbr hg (by simp);exact ⟨cv,by show a.tmps.getD t Go.undef=_;rw [ht.2.1,e],hr⟩
     . cases h
   . cases h
 . cases h
theorem y8b {J J' : List SV} {η η' : List SB} {x : Operand} {f : FuncId} {caps : List SV} {rd rh : List Nat} (h : xln Γ J η x = some (f, caps, rd, rh)) (hs : ∀ t ∈ rd, gtS J' t = gtS J t) (hb : ∀ b ∈ rh, gB η' b = gB η b) : xln Γ J' η' x = some (f, caps, rd, rh) := by
 unfold xln at h ⊢;split at h
 . exact h
 . rename_i t
   have e:gtS J' t=gtS J t:=by
    split at h
    . obtain ⟨f',hf,he⟩:=Option.map_eq_some_iff.1 h;cases he;exact hs t (by simp)
    . split at h
      . cases h;exact hs t (by simp)
      . cases h
    . cases h
   simp only [e];split at h
   . rename_i v hv;exact h
   . rename_i b hbb;split at h
     . rename_i f' caps' hg
       cases h;rw [hb b (by simp),hg]
     . cases h
   . cases h
 . cases h
def vij (o:Oper) (x:SV):List (Nat×SV):=match o.dst with
 | some d=>[(d,x)]
 | none=>[]
theorem RI.dst {E:HEnv} {ρ:Nat->Value} {J:List SV} {η:List SB} {a:Act} {w:World} (h:RI Γ E ρ J η a w) {o:Oper} {v:Value} {x:SV} (hx:SVR η ρ (MX E.Mo ρ η) w v x):RI Γ E ρ (appL (vij o x) J) η (a.put o.dst v) w:=by
 unfold vij
 cases o.dst with
 | none=>exact h
 | some d=>exact h.put hx
theorem waa {o:Oper} {J:List SV} {η:List SB} {x:Operand} {xs:List Operand} {ts:Array TypeId} {nb:Nat} (ho:o.op=.call { callee:=.value x,args:=xs.toArray,argTypes:=ts }) {f:FuncId} {caps:List SV} {rd rh:List Nat}
 (hc:xln Γ J η x=some (f,caps,rd,rh)) {l:List AV} {bs:List Nat} (ha:wrt η (ypm Γ J xs++caps)=some (l,bs)) {res:AV} (w5a:CallsD Γ P f l res) {y:SV} {ob:Option SB} (hres:resS nb res=some (y,ob)) (hroom:zm6 η nb ob=true) :
 wpk Γ P o J η (vpg o++rd++orrL xs) (oN nb ob++rh++bs) (vij o y) (frzE η bs++oB nb ob):=by
 intro E ρ J' η' a w hag hah hI K Q hK;have hc':=y8b hc (fun t ht=>hag.2 t (by simp [ht])) (fun b hb=>hah.gB (by simp [hb]));have hargs:=wus (Γ:=Γ) hag xs (fun t ht=>by simp [ht])
 have hgb:∀ b∈bs,gB η' b=gB η b:=fun b hb=>hah.gB (by simp [hb])
 have ha':=vnx ha hgb;have hnt:=z6n ha'
 have hnt1:zji (ypm Γ J' xs)=true:=by
  rw [hargs];unfold zji at hnt ⊢;rw [List.all_append,Bool.and_eq_true] at hnt;exact hnt.1
 obtain ⟨cv,hcv,hcr⟩:=wuz hI hc';have hsr:=(wgs hI xs hnt1).append hcr;rw [hargs] at hsr;have harr:=yey ha';obtain ⟨hw1,_,hfz⟩:=Went.frz bs η' hI.inv rfl harr (fun _=>.inl rfl);have hrb:=z4d hw1.inv ha' hfz (hsr.mv hw1.mv);have hcalls:=w5a.2 _ w _ (fun b o hm=>xhq hw1.inv hm) hw1.inv.glob hrb;unfold Oper.wp;rw [z4o ho hcv w5a.1 w];show Calls P f _ w _
 have e1:xs.toArray.map a.eval++cv.toArray=(xs.map a.eval++cv).toArray:=by simp
 rw [e1];refine hcalls.mono ?_;intro e w' hb
 obtain ⟨v,ρ',rfl,hw2,hv⟩:=yor hw1.inv hb hres (nb:=nb) (fun hne=>by
  cases ob with
  | none=>exact absurd rfl hne
  | some z=>exact xm0 harr (hah.room (show nb∈oN nb (some z)++rh++bs by simp [oN]) hroom))
 refine hK _ _ ρ' ?_;rw [<-vlv hgb,wvp];exact ((hI.go hw1).go hw2).dst hv
theorem wni {o:Oper} {J:List SV} {η:List SB} {t:Nat} {xs:List Operand} {ts:Array TypeId} {nb:Nat} (ho:o.op=.call { callee:=.value (.tmp t),args:=xs.toArray,argTypes:=ts }) {F:List AV->AV->Prop} (ht:gtS J t=.one (.dat (.fnp (ztd Γ P F))))
 {l:List AV} {bs:List Nat} (ha:wrt η (ypm Γ J xs)=some (l,bs)) {res:AV} (w5a:F l res) {y:SV} {ob:Option SB} (hres:resS nb res=some (y,ob)) (hroom:zm6 η nb ob=true) :
 wpk Γ P o J η (vpg o++t::orrL xs) (oN nb ob++bs) (vij o y) (frzE η bs++oB nb ob):=by
 intro E ρ J' η' a w hag hah hI K Q hK;have hargs:=wus (Γ:=Γ) hag xs (fun t ht=>by simp [ht])
 have hgb:∀ b∈bs,gB η' b=gB η b:=fun b hb=>hah.gB (by simp [hb])
 have ha':=vnx ha hgb;have hnt:=z6n ha';have hsr:=wgs hI xs (by rw [hargs];exact hnt);rw [hargs] at hsr;have harr:=yey ha';obtain ⟨hw1,_,hfz⟩:=Went.frz bs η' hI.inv rfl harr (fun _=>.inl rfl);have hrb:=z4d hw1.inv ha' hfz (hsr.mv hw1.mv);have hf:=(hI.go hw1).gt t;rw [hag.2 t (by simp),ht] at hf;have hf:RdC _ w (a.tmps.getD t Go.undef) (.fnp (ztd Γ P F)):=hf;generalize hv:a.tmps.getD t Go.undef=v at hf
 cases hf with
 | fnp h1 hp=>
  obtain ⟨f,caps,rfl,hcl,hspec⟩:=hp _ w (fun _ _ _ h1 h2=>⟨h1,h2⟩);have hcalls:=hspec l res _ w5a (fun b o hm=>xhq hw1.inv hm) hw1.inv.glob hrb;unfold Oper.wp;rw [z4o (x:=.tmp t) ho hv hcl w];show Calls P f _ w _
  have e1:xs.toArray.map a.eval++caps=(xs.map a.eval).toArray++caps:=by simp
  rw [e1];refine hcalls.mono ?_;intro e w' hb
  obtain ⟨v,ρ',rfl,hw2,hv⟩:=yor hw1.inv hb hres (nb:=nb) (fun hne=>by
   cases ob with
   | none=>exact absurd rfl hne
   | some z=>exact xm0 harr (hah.room (show nb∈oN nb (some z)++bs by simp [oN]) hroom))
  refine hK _ _ ρ' ?_;rw [<-vlv hgb,wvp];exact ((hI.go hw1).go hw2).dst hv
def zik (Γ:List (Nat×List Cell)) (P:Program) (o:Oper) (J:List SV) (η:List SB) (σ2:List SV) (η2:List SB):Prop:=
 ∀(E:HEnv) (ρ:Nat->Value) (a:Act) (w:World),RI Γ E ρ J η a w->∀(K:Act->World->Prop) (Q:Exit->Act->World->Prop),
  (∀ a' w' ρ',RI Γ E ρ' σ2 η2 a' w'->K a' w')->o.wp P a w K Q
theorem wpk.p {o:Oper} {J:List SV} {η:List SB} {rd rh:List Nat} {eff:List (Nat×SV)} {heff:List (Nat×SB)} (h:wpk Γ P o J η rd rh eff heff):zik Γ P o J η (appL eff J) (appL heff η):=
 fun E ρ a w hI K Q hK=>h E ρ J η a w ⟨rfl,fun _ _=>rfl⟩ ⟨rfl,fun _ _=>rfl⟩ hI K Q hK
theorem wpk.px {o:Oper} {J:List SV} {η:List SB} {rd rh:List Nat} {eff:List (Nat×SV)} {heff:List (Nat×SB)} (h:wpk Γ P o J (η++[.fresh]) rd rh eff heff):zik Γ P o J η (appL eff J) (appL heff (η++[.fresh])):=
 fun E ρ a w hI K Q hK=>h.p E ρ a w (hI.go (Went.extend hI.inv 1)) K Q hK
theorem wez {o:Oper} {J:List SV} {η:List SB} {x:Operand} {xs:List Operand} {ts:Array TypeId} (ho:o.op=.call { callee:=.value x,args:=xs.toArray,argTypes:=ts }) {f:FuncId} {caps:List SV} {rd rh:List Nat}
 (hc:xln Γ J η x=some (f,caps,rd,rh)) (hnt:zji (ypm Γ J xs)=true) {η':List SB} {res:SV} (w5a:z00 Γ P f η (ypm Γ J xs++caps) η' res) :
 zik Γ P o J η (appL (vij o res) J) η':=by
 intro E ρ a w hI K Q hK;obtain ⟨cv,hcv,hcr⟩:=wuz hI hc;have hsr:=(wgs hI xs hnt).append hcr;have hcalls:=w5a.2 _ ρ w _ hI.inv hsr;unfold Oper.wp;rw [z4o ho hcv w5a.1 w];show Calls P f _ w _
 have e1:xs.toArray.map a.eval++cv.toArray=(xs.map a.eval++cv).toArray:=by simp
 rw [e1];refine hcalls.mono ?_;rintro e w' ⟨v,ρ',rfl,hw,hv⟩;exact hK _ _ ρ' ((hI.go hw).dst hv)
theorem ymd {o:Oper} {J:List SV} {η:List SB} {x:Operand} {xs:List Operand} {ts:Array TypeId} (ho:o.op=.call { callee:=.value x,args:=xs.toArray,argTypes:=ts }) {f:FuncId} {caps:List SV} {rd rh:List Nat}
 (hc:xln Γ J η x=some (f,caps,rd,rh)) (hnt:zji (ypm Γ J xs)=true) {res:SV} {heff:List (Nat×SB)} (w5a:z00 Γ P f η (ypm Γ J xs++caps) (appL heff η) res) :
 wpk Γ P o J η (vpg o++rd++orrL xs) (List.range η.length) (vij o res) heff:=by
 intro E ρ J' η' a w hag hah hI K Q hK
 have hη:η'=η:=by
  apply List.ext_getElem?;intro i;by_cases hi:i<η.length
  . exact hah.2 i (by simpa using hi)
  . rw [List.getElem?_eq_none (by rw [hah.1];omega),List.getElem?_eq_none (by omega)]
 subst hη;have hc':=y8b hc (fun t ht=>hag.2 t (by simp [ht])) (fun b _=>rfl);have hargs:=wus (Γ:=Γ) hag xs (fun t ht=>by simp [ht])
 have:=wez (o:=o) (J:=J') (η:=η') ho hc' (by rw [hargs];exact hnt) (by rw [hargs];exact w5a)
 exact this E ρ a w hI K Q hK
theorem x6h {o:Oper} {J:List SV} {η:List SB} {f:FuncId} {xs:List Operand} {d nb:Nat} (ho:o.op=.makeFunc (.func f) #[] xs.toArray) (hdst:o.dst=some d) (hnt:zji (ypm Γ J xs)=true) (hroom:wo7 η nb=true) :
 wpk Γ P o J η (d::orrL xs) [nb] [(d,.one (.fnr nb))] [(nb,.clo f (ypm Γ J xs))]:=by
 refine wpk.val hdst (fun E ρ J' η' a w hag hah hI=>?_);have hargs:=wus (Γ:=Γ) hag xs (fun t ht=>by simp [ht]);have hsr:=wgs hI xs (by rw [hargs];exact hnt);rw [hargs] at hsr;have hfr:=hah.room (by simp) hroom;have hlt:nb<η'.length:=(List.getElem?_eq_some_iff.1 hfr).1;refine ⟨.func (.func f) #[] (xs.map a.eval).toArray,w,upd ρ nb (.func (.func f) #[] (xs.map a.eval).toArray),by simp [execOp,ho,Instr.makeFunc],Went.new hI.inv (xs8 w) hfr (by simp) (fun h=>by cases h) (fun m=>⟨_,rfl,hsr.mv m⟩),?_⟩;exact ⟨⟨_,by simp [appL,hlt];rfl,by simp⟩,by rw [xjo],rfl⟩
theorem yuk {o:Oper} {J:List SV} {η:List SB} {f:FuncId} {xs:List Operand} {d:Nat} (ho:o.op=.makeFunc (.func f) #[] xs.toArray) (hdst:o.dst=some d) {caps:List AV} {bs:List Nat} (ha:wrt η (ypm Γ J xs)=some (caps,bs))
 {F:List AV->AV->Prop} (w5a:zz7 P f) (hF:∀ args res,F args res->CallsD Γ P f (args++caps) res) :
 wpk Γ P o J η (d::orrL xs) bs [(d,.one (.dat (.fnp (ztd Γ P F))))] (frzE η bs):=by
 refine wpk.val hdst (fun E ρ J' η' a w hag hah hI=>?_);have hargs:=wus (Γ:=Γ) hag xs (fun t ht=>by simp [ht])
 have hgb:∀ b∈bs,gB η' b=gB η b:=fun b hb=>hah.gB hb
 have ha':=vnx ha hgb;have hsr:=wgs hI xs (by rw [hargs];exact z6n ha');rw [hargs] at hsr;have harr:=yey ha';obtain ⟨hw1,_,hfz⟩:=Went.frz bs η' hI.inv rfl harr (fun _=>.inl rfl);have hrb:=z4d hw1.inv ha' hfz (hsr.mv hw1.mv);rw [<-vlv hgb];refine ⟨.func (.func f) #[] (xs.map a.eval).toArray,w,ρ,by simp [execOp,ho,Instr.makeFunc],hw1,RdC.fnp rfl (fun M' w' hk=>⟨f,_,rfl,w5a,fun args res vs hres hb hg hrd=>?_⟩)⟩
 have:=(hF args res hres).2 M' w' (vs++xs.map a.eval) hb hg (hrd.append (hrb.keep hk))
 simpa using this
def yto (g:TypeId->Option Nat):List Field->Nat->Option Nat
 | [],acc=>some acc
 | f::fs,acc=>match g f.type with
  | some k=>if f.name != "_" &&f.offset==acc then yto g fs (acc+k) else none
  | none=>none
def xsk (P:Program):Nat->TypeId->Option Nat
 | 0,_=>none
 | d + 1, t => match P.underlying t, P.info? t with
  | some ds,some i=>match ds with
   | .int _=>if i.size==1 then some 1 else none
   | .string=>if i.size==1 then some 1 else none
   | .bool=>if i.size==1 then some 1 else none
   | .array n e=>match xsk P d e with
    | some k=>if i.size==n*k then some (n*k) else none
    | none=>none
   | .struct fs=>if P.stoodInHeld t then none else match yto (xsk P d) fs.toList 0 with
    | some n=>if i.size==n then some n else none
    | none=>none
   | _=>none
  | _,_=>none
def aggT (P:Program) (t:TypeId):Bool:=match P.underlying t with
 | some (.struct _)=>true
 | some (.array _ _)=>true
 | _=>false
def valT (P:Program) (t:TypeId) (l:List Value):Value:=if aggT P t then .agg l.toArray else l.getD 0 Go.undef
theorem z8a:∀{a b:List Value} {r:Bool},eqL a b=some r->a.length=b.length
 | [],[],_,_=>rfl
 | a::as,b::bs,r,h=>by
  simp only [eqL] at h;split at h
  . rename_i p q h1 h2;simp [z8a h2]
  . cases h
theorem x7b:∀(k:Nat) {a b:List Value} {r:Bool},eqL a b=some r->∃ p q,eqL (a.take k) (b.take k)=some p/\eqL (a.drop k) (b.drop k)=some q/\r=(p&&q)
 | 0,a,b,r,h=>⟨true,r,by simp [eqL],by simpa using h,by simp⟩
 | k+1,[],[],r,h=>⟨true,true,by simp [eqL],by simp [eqL],by simp [eqL] at h;simp [h]⟩
 | k+1,[],_::_,r,h=>by simp [eqL] at h
 | k+1,_::_,[],r,h=>by simp [eqL] at h
 | k+1,a::as,b::bs,r,h=>by
  simp only [eqL] at h;split at h
  . rename_i p q h1 h2
    cases h;obtain ⟨p',q',h3,h4,rfl⟩:=x7b k h2;exact ⟨p&&p',q',by simp [eqL,h1,h3],by simpa using h4,by simp [Bool.and_assoc]⟩
  . cases h
theorem yrw {d : Nat} {t : TypeId} {n : Nat} (h : xsk P d t = some n) : ∃ i, P.info? t = some i ∧ i.size = n := by
 cases d with
 | zero=>cases h
 | succ d=>
  unfold xsk at h;split at h
  . rename_i ds i hu hi;refine ⟨i,hi,?_⟩;split at h
    . split at h
      . rename_i hs;cases h;simpa using hs
      . cases h
    . split at h
      . rename_i hs;cases h;simpa using hs
      . cases h
    . split at h
      . rename_i hs;cases h;simpa using hs
      . cases h
    . split at h
      . split at h
        . rename_i hs;cases h;simpa using hs
        . cases h
      . cases h
    . split at h
      . cases h
      . split at h
        . split at h
          . rename_i hs;cases h;simpa using hs
          . cases h
        . cases h
    . cases h
  . cases h
theorem ynv {t:TypeId} {ds:TypeDesc} (hu:P.underlying t=some ds) (w:World):(isAgg t).run P w=.ok (aggT P t) w:=by
 unfold aggT;rw [hu]
 cases ds<;>simp [isAgg,zp8 hu]
theorem x10 {d:Nat} {t:TypeId} {n:Nat} (h:xsk P d t=some n):∃ ds,P.underlying t=some ds:=by
 cases d with
 | zero=>cases h
 | succ d=>
  unfold xsk at h;split at h
  . rename_i ds i hu hi;exact ⟨ds,hu⟩
  . cases h
theorem xqa {d:Nat} {t:TypeId} {k:Nat} (h:xsk P d t=some k) {l:List Value} {off:Nat} (hfit:off+k<=l.length) (hk:aggT P t=false->0<k) (w:World):(part t l.toArray off).run P w=.ok (valT P t ((l.drop off).take k)) w:=by
 obtain ⟨ds,hu⟩:=x10 h;obtain ⟨i,hi,hs⟩:=yrw h;unfold part valT;simp only [Sem.run_bind,ynv hu,Result.andThen_ok]
 cases ha:aggT P t
 . have hk:=hk ha
   have hlt:off<l.length:=by omega
   simp only [Bool.false_eq_true,if_false,List.getElem?_toArray,List.getElem?_eq_getElem hlt,Sem.run_pure]
   congr 1
   rw [List.getD_eq_getElem?_getD,List.getElem?_take,if_pos hk,List.getElem?_drop,Nat.add_zero,List.getElem?_eq_getElem hlt];rfl
 . simp only [if_true,Sem.run_bind,zxp hi,hs,Result.andThen_ok,Sem.run_pure]
   congr 1
   simp [List.extract_eq_take_drop]
theorem xjm {d:Nat} {t:TypeId} {n:Nat} (h:xsk P d t=some n) (ha:aggT P t=false):n=1/\∃ ds,P.underlying t=some ds/\((∃ k,ds=.int k)\/ds=.string\/ds=.bool):=by
 cases d with
 | zero=>cases h
 | succ d=>
  unfold xsk at h;split at h
  . rename_i ds i hu hi;unfold aggT at ha;rw [hu] at ha;split at h
    . split at h<;>cases h;exact ⟨rfl,_,hu,.inl ⟨_,rfl⟩⟩
    . split at h<;>cases h;exact ⟨rfl,_,hu,.inr (.inl rfl)⟩
    . split at h<;>cases h;exact ⟨rfl,_,hu,.inr (.inr rfl)⟩
    . cases ha
    . cases ha
    . cases h
  . cases h
theorem x9s {t:TypeId} {ds:TypeDesc} (hu:P.underlying t=some ds) (hd:(∃ k,ds=.int k)\/ds=.string\/ds=.bool) {a b:Value} {r:Bool} (h:kEq0 a b=some r) (ht:(∀ k,ds=.int k->∃ q n,a=.int q n)/\(ds=.string->∃ s,a=.string s)/\(ds=.bool->∃ p,a=.bool p)) (d:Nat) (w:World) :
 (Op.equalIn (d+1) t a b).run P w=.ok r w:=by
 rcases hd with ⟨k,rfl⟩ | rfl | rfl
 . obtain ⟨q,n,rfl⟩:=ht.1 k rfl
   cases b<;>simp only [kEq0] at h<;>first | (cases h;done) | skip
   split at h
   . rename_i e;subst e;cases h;simp [Op.equalIn,zp8 hu]
   . cases h
 . obtain ⟨s,rfl⟩:=ht.2.1 rfl
   cases b<;>simp only [kEq0] at h<;>first | (cases h;done) | skip
   cases h;simp [Op.equalIn,zp8 hu,beq_toListBytes,seq]
 . obtain ⟨p,rfl⟩:=ht.2.2 rfl
   cases b<;>simp only [kEq0] at h<;>first | (cases h;done) | skip
   cases h;simp [Op.equalIn,zp8 hu]
def fitD:TypeDesc->Value->Bool
 | .int k,.int k' _=>k==k'
 | .string,.string _=>true
 | .bool,.bool _=>true
 | _,_=>false
def fitF (g:TypeId->List Value->Bool) (sz:TypeId->Nat):List Field->List Value->Bool
 | [],_=>true
 | f::fs,l=>g f.type (l.take (sz f.type))&&fitF g sz fs (l.drop (sz f.type))
def fitN (g:List Value->Bool) (k:Nat):Nat->List Value->Bool
 | 0,_=>true
 | n+1,l=>g (l.take k)&&fitN g k n (l.drop k)
def fitT (P:Program):Nat->TypeId->List Value->Bool
 | 0,_,_=>false
 | d+1,t,l=>match P.underlying t with
  | some (.array n e)=>fitN (fitT P d e) (P.cellsOf e) n l
  | some (.struct fs)=>fitF (fitT P d) P.cellsOf fs.toList l
  | some ds=>match l with
   | [v]=>fitD ds v
   | _=>false
  | none=>false
theorem wop:∀(d:Nat) {t:TypeId} {n:Nat},xsk P d t=some n->∀(m:Nat) {l l':List Value} {r:Bool},l.length=n->fitT P d t l=true->eqL l l'=some r->∀ w,(Op.equalIn (d+m) t (valT P t l) (valT P t l')).run P w=.ok r w
 | 0,_,_,h=>by cases h
 | d + 1, t, n, h => fun m l l' r hl hfit he w => by
  have hll:=z8a he
  cases ha:aggT P t with
  | false=>
   obtain ⟨rfl,ds,hu,hd⟩:=xjm h ha;unfold fitT at hfit;rw [hu] at hfit
   match l,l',hl,hll,he with
   | [a],[b],_,_,he=>
    unfold valT;rw [ha];simp only [Bool.false_eq_true,if_false,List.getD_cons_zero]
    have hk:kEq0 a b=some r:=by
     simp only [eqL] at he;split at he
     . rename_i p q h1 h2;cases h2;cases he;rw [h1];simp
     . cases he
    rw [show d+1+m=d+m+1 by omega];refine x9s hu hd hk ?_ (d+m) w
    rcases hd with ⟨k,rfl⟩ | rfl | rfl
    . refine ⟨fun k' _=>?_,fun e=>(by cases e),fun e=>(by cases e)⟩
      cases a<;>simp [fitD] at hfit
      exact ⟨_,_,rfl⟩
    . refine ⟨fun k' e=>(by cases e),fun _=>?_,fun e=>(by cases e)⟩
      cases a<;>simp [fitD] at hfit
      exact ⟨_,rfl⟩
    . refine ⟨fun k' e=>(by cases e),fun e=>(by cases e),fun _=>?_⟩
      cases a<;>simp [fitD] at hfit
      exact ⟨_,rfl⟩
  | true=>
   unfold valT;rw [ha];simp only [if_true];unfold xsk at h;split at h
   case h_2=>cases h
   rename_i ds i hu hi;unfold fitT at hfit;rw [hu] at hfit;split at h
   case h_1 | h_2 | h_3 | h_6=>first | (unfold aggT at ha;rw [hu] at ha;cases ha) | cases h
   ·
    rename_i nn e;split at h
    case h_2=>cases h
    rename_i k hk;split at h
    case isFalse=>cases h
    cases h;obtain ⟨ie,hie,hse⟩:=yrw hk
    have hce:P.cellsOf e=k:=by simp [Program.cellsOf,hie,hse]
    rw [show d+1+m=d+m+1 by omega,run_equalIn_array w (d+m) l.toArray l'.toArray hu hie,hce];simp only [hce] at hfit
    have key:∀(c j:Nat) {r:Bool},c+j=nn->fitN (fitT P d e) k c (l.drop (j*k))=true->eqL (l.drop (j*k)) (l'.drop (j*k))=some r->(Op.eqItems (d+m) e k l.toArray l'.toArray (List.range' j c)).run P w=.ok r w:=by
     intro c
     induction c with
     | zero=>
      intro j r hj _ he
      have:l.drop (j*k)=[]:=List.drop_eq_nil_of_le (by rw [hl,<-hj];simp)
      have h2:l'.drop (j*k)=[]:=List.drop_eq_nil_of_le (by rw [<-hll,hl,<-hj];simp);rw [this,h2] at he
      cases he;simp [Op.eqItems]
     | succ c ih=>
      intro j r hj hf he;simp only [fitN,Bool.and_eq_true] at hf;obtain ⟨p,q,h1,h2,rfl⟩:=x7b k he
      have hfit1:j*k+k<=l.length:=by
       rw [hl,<-hj]
       have:(j+1)*k<=(c+1+j)*k:=Nat.mul_le_mul_right _ (by omega)
       rw [Nat.add_mul,Nat.one_mul] at this;exact this
      have hpos:aggT P e=false->0<k:=fun ha=>by rw [(xjm hk ha).1];exact Nat.one_pos
      rw [List.range'_succ];have h3:=wop d hk m (by simp;omega) hf.1 h1 w;simp only [Op.eqItems,Sem.run_bind,xqa hk hfit1 hpos,xqa hk (l:=l') (by rw [<-hll];exact hfit1) hpos,Result.andThen_ok,h3];rw [List.drop_drop,List.drop_drop,show j*k+k=(j+1)*k by rw [Nat.add_mul,Nat.one_mul]] at h2;have hf2:=hf.2;rw [List.drop_drop,show j*k+k=(j+1)*k by rw [Nat.add_mul,Nat.one_mul]] at hf2
      cases p
      . simp
      . simp only [Bool.not_true,Bool.false_eq_true,if_false,Bool.true_and];exact ih (j+1) (by omega) hf2 h2
    rw [List.range_eq_range'];exact key nn 0 (by omega) (by simpa using hfit) (by simpa using he)
   ·
    rename_i fs;split at h
    . cases h
    rename_i hsi;split at h
    case h_2=>cases h
    rename_i nn hff;split at h
    case isFalse=>cases h
    cases h
    have hfo:P.fieldsOf t=fs:=by simp [Program.fieldsOf,hu]
    rw [show d+1+m=d+m+1 by omega,run_equalIn_struct w (d+m) t _ _ (by rw [hfo];exact hu) (by simpa using hsi),hfo]
    have key:∀(fs:List Field) (acc:Nat) {r:Bool},yto (xsk P d) fs acc=some n->fitF (fitT P d) P.cellsOf fs (l.drop acc)=true->eqL (l.drop acc) (l'.drop acc)=some r->(Op.eqFields (d+m) l.toArray l'.toArray fs).run P w=.ok r w:=by
     intro fs
     induction fs with
     | nil=>
      intro acc r hf _ he;simp only [yto,Option.some.injEq] at hf
      have:l.drop acc=[]:=List.drop_eq_nil_of_le (by omega)
      have h2:l'.drop acc=[]:=List.drop_eq_nil_of_le (by omega);rw [this,h2] at he
      cases he;simp [Op.eqFields]
     | cons f fs ih=>
      intro acc r hf hfi he;simp only [yto] at hf;split at hf
      case h_2=>cases hf
      rename_i k hk;split at hf
      case isFalse=>cases hf
      rename_i hc;simp only [Bool.and_eq_true,bne_iff_ne,ne_eq,beq_iff_eq] at hc;obtain ⟨ie,hie,hse⟩:=yrw hk
      have hce:P.cellsOf f.type=k:=by simp [Program.cellsOf,hie,hse]
      simp only [fitF,hce,Bool.and_eq_true] at hfi;obtain ⟨p,q,h1,h2,rfl⟩:=x7b k he
      have hmono:∀(fs:List Field) (a n:Nat),yto (xsk P d) fs a=some n->a<=n:=by
       intro fs
       induction fs with
       | nil=>intro a n h;simp only [yto,Option.some.injEq] at h;omega
       | cons f fs ih=>
        intro a n h;simp only [yto] at h;split at h
        . split at h
          . have:=ih _ _ h;omega
          . cases h
        . cases h
      have hfit1:acc+k<=l.length:=by have:=hmono _ _ _ hf;omega
      have hpos:aggT P f.type=false->0<k:=fun ha=>by rw [(xjm hk ha).1];exact Nat.one_pos
      have h3:=wop d hk m (by simp;omega) hfi.1 h1 w;simp only [Op.eqFields,hc.1,ne_eq,not_false_eq_true,if_true,hc.2,Sem.run_bind,xqa hk hfit1 hpos,xqa hk (l:=l') (by rw [<-hll];exact hfit1) hpos,Result.andThen_ok,h3];rw [List.drop_drop,List.drop_drop] at h2;have hf2:=hfi.2;rw [List.drop_drop] at hf2
      cases p
      . simp
      . simp only [Bool.not_true,Bool.false_eq_true,if_false,Bool.true_and];exact ih (acc+k) hf hf2 h2
    exact key fs.toList 0 hff (by simpa using hfit) (by simpa using he)
def zhk:List HC->Option (List Value)
 | []=>some []
 | .dat (.raw v)::r=>(zhk r).map (v::·)
 | _::_=>none
theorem zam {η:List SB} {ρ:Nat->Value} {M:Nat->Nat->Prop} {w:World}:∀{hs:List HC} {l vs:List Value},zhk hs=some l->HRL η ρ M w vs hs->vs=l
 | [],l,vs,h,hr=>by
  cases h
  cases vs with
  | nil=>rfl
  | cons _ _=>exact hr.elim
 | x::hs,l,vs,h,hr=>by
  cases vs with
  | nil=>exact hr.elim
  | cons v vs=>
   unfold zhk at h;split at h
   . rename_i heq;cases heq
   . rename_i u r heq
     cases heq;obtain ⟨l',hl,rfl⟩:=Option.map_eq_some_iff.1 h;rw [zam hl hr.2,RdC.xbx hr.1]
   . cases h
def eqOf (op:BinOp) (r:Bool):Option Bool:=match op with
 | .eql=>some r
 | .neq=>some (!r)
 | _=>none
def w8b (P:Program) (T:TypeId) (op:BinOp) (x y:SV):Option SV:=match x,y with
 | .agg hx,.agg hy=>match zhk hx,zhk hy with
  | some lx,some ly=>if xsk P 9 T=some lx.length/\aggT P T=true/\P.eqGuardType P.depth T=false/\fitT P 9 T lx=true then
   match eqL lx ly with
   | some r=>(eqOf op r).map fun b=>.one (.dat (.raw (.bool b)))
   | none=>none
   else none
  | _,_=>none
 | _,_=>none
theorem wvb {o:Oper} {J:List SV} {η:List SB} {op:BinOp} {T U:TypeId} {x y:Operand} {d:Nat} (ho:o.op=.binOp op T x y U) (hdst:o.dst=some d) {v:SV} (h:w8b P T op (opdS Γ J x) (opdS Γ J y)=some v) :
 wpk Γ P o J η (d::(orr x++orr y)) [] [(d,v)] []:=by
 refine wpk.pure hdst (fun E ρ J' η' a w hag hah hI=>?_);have hx:=hI.opd x;have hy:=hI.opd y;rw [hag.opd (fun t ht=>by simp [ht])] at hx hy;unfold w8b at h;split at h
 case h_2=>cases h
 rename_i hsx hsy ex ey;split at h
 case h_2=>cases h
 rename_i lx ly h1 h2;split at h
 case isFalse=>cases h
 rename_i hc;split at h
 case h_2=>cases h
 rename_i r hr;obtain ⟨b,hb,rfl⟩:=Option.map_eq_some_iff.1 h;rw [ex] at hx;rw [ey] at hy;obtain ⟨vx,hvx,hrx⟩:=hx;obtain ⟨vy,hvy,hry⟩:=hy;rw [zam h1 hrx] at hvx;rw [zam h2 hry] at hvy;have hrun:=wop 9 hc.1 9991 rfl hc.2.2.2 hr w;unfold valT at hrun;rw [hc.2.1] at hrun;simp only [if_true,Nat.reduceAdd] at hrun
 have hg:∀ ox oy,(eqGuard op T ox oy (.agg lx.toArray) (.agg ly.toArray)).run P w=.ok () w:=fun ox oy=>run_eqGuard_agg w op T ox oy _ _ hc.2.2.1
 refine ⟨.bool b,?_,RdC.raw rfl⟩;unfold eqOf at hb;split at hb
 . cases hb;simp only [execOp,ho,hvx,hvy,Sem.run_bind,hg,Result.andThen_ok,run_eql_struct,hrun,Sem.run_pure]
 . cases hb;simp only [execOp,ho,hvx,hvy,Sem.run_bind,hg,Result.andThen_ok,run_neq_struct,hrun,Sem.run_pure]
 . cases hb
def y6m (η:List SB):SV->Option (List Int×List Nat)
 | .one h=>match yo0 η h with
  | some (c,bs)=>(wjs .u8 c).map fun l=>(l,bs)
  | none=>none
 | _=>none
theorem xac {o:Oper} {J:List SV} {η:List SB} {S D e:TypeId} {x:Operand} {d:Nat} (ho:o.op=.convert S D x) (hdst:o.dst=some d) (hS:P.underlying S=some (.slice e)) (he:P.underlying e=some (.int .u8)) (hD:P.underlying D=some .string)
 {l:List Int} {bs:List Nat} (h:y6m η (opdS Γ J x)=some (l,bs)):wpk Γ P o J η (d::orr x) bs [(d,.one (.dat (.raw (.string (strOfNums l)))))] (frzE η bs):=by
 refine wpk.val hdst (fun E ρ J' η' a w hag hah hI=>?_);have hx:=hI.opd x;rw [hag.opd (fun t ht=>by simp [ht])] at hx;unfold y6m at h;split at h
 case h_2=>cases h
 rename_i hc hxe;split at h
 case h_2=>cases h
 rename_i c bs' hd;obtain ⟨l',hl,he'⟩:=Option.map_eq_some_iff.1 h
 cases he';rw [hxe] at hx
 have hgb:∀ b∈bs,gB η' b=gB η b:=fun b hb=>hah.gB hb
 have hd':=xvg hd hgb;obtain ⟨hw1,_,hfz⟩:=Went.frz bs η' hI.inv rfl (xoq hd') (fun _=>.inl rfl);have hx0:HRd η' ρ (MX E.Mo ρ η') w (a.eval x) hc:=hx;have hr:=zpt hw1.inv hd' hfz (HRd.mv hw1.mv hx0);rw [<-vlv hgb];obtain ⟨⟨ad,cap,hv⟩,hcells⟩:=hr.zvt hl;refine ⟨.string (strOfNums l),w,ρ,?_,hw1,RdC.raw rfl⟩
 have hexec:∀ u,(convert S D (a.eval x)).run P w=.ok u w->(execOp a.eval o).run P w=.ok (.value u) w:=fun u hr=>by
  unfold execOp;rw [ho];simp only [Sem.run_bind,hr,Result.andThen_ok,Sem.run_pure]
 apply hexec;rw [hv]
 rcases hcells with hnil | ⟨b,off,cap',e1,hc⟩
 . have hl0:l=[]:=by simpa using hnil
   subst hl0
   cases ad with
   | none=>rw [run_convert_bytes_nil w S e hS he _ _ D hD];rfl
   | some ad=>
    rw [run_convert_bytes_string w S D e (some ad) _ cap hS he hD,run_bytesToString w ad _ cap [] (by simp [loadCells,loadCellsFrom])];rfl
 . rw [hv] at e1
   cases e1
   exact run_convert_bytes_arg w S e hS he b off l.length _ l rfl (fun i hi=>by
    have:=(hc i (.int .u8 l[i]) (by simp [hi])).2
    rw [this]
    simp [List.getD,hi]) D hD
end Go.Hp
