/- The proof, part P6: Hi, Hj, Hl, Hm, Hn, Ho. -/
import Derived.Test.YtmegdbbbllffkaaGreatP5
import Derived.ChangeKeysEq
import Derived.Laws.BytesArg
import Derived.Lib.UnsafeStr
import Derived.Lib.Builder
import Derived.LaidEql
import Derived.Laws.Externs
import Derived.KernelRfl
namespace Go.Hp
open Go Go.RowKit Go.Slot
variable {P:Program} {Γ:List (Nat×List Cell)}
variable {f:FuncId} {res a:AV} {J J':List SB} {x y:Operand} {bs rd rh:List Nat} {Mo M:Nat->Nat->Prop} {ρ:Nat->Value} {e T S D:TypeId} {nb off b es:Nat} {ob:Option SB} {o:Oper} {xs:List Operand} {ts:Array TypeId} {E:HEnv} {I caps I':List SV} {l:List AV} {F:List AV->AV->Prop} {heff:List (Nat×SB)} {ds:TypeDesc} {j:TypeInfo} {tf ti:TI} {ik:Option IntKind} {lit fn:Bool}
def CallsD (Γ:List (Nat×List Cell)) (P:Program) (f:FuncId) (args:List AV) (res:AV):Prop:=
 wuj P f/\∀(M:Nat->Nat->Prop) (w:World) (vs:List Value),Bounded M w->y7g Γ M w->RdBL M w vs args->Calls P f vs.toArray w (Back M w res)
theorem yn2.d {args:List AV} (h:yn2 P f args res):CallsD Γ P f args res:=⟨h.1,fun M w vs hb _ hr=>h.2 M w vs hb hr⟩
def wzi (Γ:List (Nat×List Cell)) (Mo:Nat->Nat->Prop) (ρ:Nat->Value) (J:List SB) (w:World) (J':List SB) (res:SV):Ending->World->Prop:=fun e w'=>
 ∃ v ρ',e=.returned v/\Went Γ Mo ρ J w ρ' J' w'/\SVR J' ρ' (MX Mo ρ' J') w' v res
def vfe (Γ:List (Nat×List Cell)) (P:Program) (f:FuncId) (J:List SB) (args:List SV) (J':List SB) (res:SV):Prop:=
 wuj P f/\∀(Mo:Nat->Nat->Prop) (ρ:Nat->Value) (w:World) (vs:List Value),HInv Γ Mo ρ J w->SRL J ρ (MX Mo ρ J) w vs args->Calls P f vs.toArray w (wzi Γ Mo ρ J w J' res)
def wrb (Γ:List (Nat×List Cell)) (P:Program) (F:List AV->AV->Prop) (M:Nat->Nat->Prop) (w:World) (v:Value):Prop:=
 ∃ f caps,v=.func (.func f) #[] caps/\wuj P f/\∀ args res vs,F args res->Bounded M w->y7g Γ M w->RdBL M w vs args->Calls P f (vs.toArray++caps) w (Back M w res)
def argD (J:List SB):SV->Option (AV×List Nat)
 | .one h=>(v9i J h).map fun p=>(.one p.1,p.2)
 | .agg hs=>(yp0 J hs).map fun p=>(.agg p.1,p.2)
 | .elt cs=>some (.elt cs,[])
 | .any=>some (.any,[])
 | _=>none
def zfh (J:List SB):List SV->Option (List AV×List Nat)
 | []=>some ([],[])
 | x::r=>match argD J x,zfh J r with
  | some (a,bs),some (l,bs')=>some (a::l,bs++bs')
  | _,_=>none
def wb2 (Γ:List (Nat×List Cell)) (I:List SV):List Operand->List SV
 | []=>[]
 | x::r=>opdS Γ I x::wb2 Γ I r
theorem yjf {x:SV} (h:argD J x=some (a,bs)):∀ b∈bs,vfv (gB J b)=true:=by
 unfold argD at h;split at h
 . obtain ⟨p,hp,e⟩:=Option.map_eq_some_iff.1 h;cases e;exact xee hp
 . obtain ⟨p,hp,e⟩:=Option.map_eq_some_iff.1 h;cases e;exact x5z hp
 . cases h;intro b hb;cases hb
 . cases h;intro b hb;cases hb
 . cases h
theorem vw0 {J:List SB}:∀{l:List SV} {r:List AV} {bs:List Nat},zfh J l=some (r,bs)->∀ b∈bs,vfv (gB J b)=true
 | [],r,bs,h=>by cases h;intro b hb;cases hb
 | x::l,r,bs,h=>by
  simp only [zfh] at h;split at h
  . rename_i a bs1 r2 bs2 h1 h2
    cases h;intro b hb
    rcases List.mem_append.1 hb with hb | hb
    . exact yjf h1 b hb
    . exact vw0 h2 b hb
  . cases h
theorem vi1 {w:World} (hI:HInv Γ Mo ρ J' w) {x:SV} (h:argD J x=some (a,bs)) (hf:∀ b∈bs,gB J' b=frzB (gB J b)) {v:Value}
 (hv:SVR0 J' ρ (MX Mo ρ J') w v x):RdB (MX Mo ρ J') w v a:=by
 unfold argD at h;split at h
 . obtain ⟨p,hp,e⟩:=Option.map_eq_some_iff.1 h;cases e;exact ydg hI hp hf hv
 . obtain ⟨p,hp,e⟩:=Option.map_eq_some_iff.1 h;cases e;obtain ⟨vs,rfl,hr⟩:=hv;exact ⟨vs,rfl,w1u hI hp hf hr⟩
 . cases h;exact hv
 . cases h;trivial
 . cases h
theorem xp6 {Mo:Nat->Nat->Prop} {ρ:Nat->Value} {J J':List SB} {w:World} (hI:HInv Γ Mo ρ J' w):∀{l:List SV} {r:List AV} {bs:List Nat},zfh J l=some (r,bs)->(∀ b∈bs,gB J' b=frzB (gB J b))->∀{vs:List Value},
 SRL J' ρ (MX Mo ρ J') w vs l->RdBL (MX Mo ρ J') w vs r
 | [],r,bs,h,_,vs,hv=>by
  cases h
  cases vs with
  | nil=>trivial
  | cons _ _=>exact hv.elim
 | x::l,r,bs,h,hf,vs,hv=>by
  simp only [zfh] at h;split at h
  . rename_i a bs1 r2 bs2 h1 h2
    cases h
    cases vs with
    | nil=>exact hv.elim
    | cons v vs=>exact ⟨vi1 hI h1 (fun b hb=>hf b (by simp [hb])) hv.1,xp6 hI h2 (fun b hb=>hf b (by simp [hb])) hv.2⟩
  . cases h
theorem xgl {x:SV} (h:argD J x=some (a,bs)) (ha:∀ b∈bs,gB J' b=gB J b):argD J' x=some (a,bs):=by
 unfold argD at h ⊢;split at h
 . obtain ⟨p,hp,e⟩:=Option.map_eq_some_iff.1 h;cases e;rw [zci hp ha];rfl
 . obtain ⟨p,hp,e⟩:=Option.map_eq_some_iff.1 h;cases e;rw [xkd hp ha];rfl
 . exact h
 . exact h
 . cases h
theorem xkj {J J':List SB}:∀{l:List SV} {r:List AV} {bs:List Nat},zfh J l=some (r,bs)->(∀ b∈bs,gB J' b=gB J b)->zfh J' l=some (r,bs)
 | [],r,bs,h,_=>h
 | x::l,r,bs,h,ha=>by
  simp only [zfh] at h ⊢;split at h
  . rename_i a bs1 r2 bs2 h1 h2
    cases h;rw [xgl h1 (fun b hb=>ha b (by simp [hb])),xkj h2 (fun b hb=>ha b (by simp [hb]))]
  . cases h
theorem xwe {rd:List Nat} {I I':List SV} (hag:agS rd I I'):∀(xs:List Operand),(∀ t∈orrL xs,t∈rd)->wb2 Γ I' xs=wb2 Γ I xs
 | [],_=>rfl
 | x::xs,h=>by
  simp only [wb2];rw [hag.opd (fun t ht=>h t (by simp [orrL,ht])),xwe hag xs (fun t ht=>h t (by simp [orrL,ht]))]
def vtv (l:List SV):Bool:=l.all yuh
theorem wmx {E:HEnv} {ρ:Nat->Value} {I:List SV} {J:List SB} {a:Act} {w:World} (hI:RI Γ E ρ I J a w):∀(xs:List Operand),vtv (wb2 Γ I xs)=true->SRL J ρ (MX E.Mo ρ J) w (xs.map a.eval) (wb2 Γ I xs)
 | [],_=>trivial
 | x::xs,h=>by
  simp only [wb2,vtv,List.all_cons,Bool.and_eq_true] at h;exact ⟨(hI.opd x).to0 h.1,wmx hI xs h.2⟩
theorem z0h {J:List SB}:∀{l:List SV} {r:List AV} {bs:List Nat},zfh J l=some (r,bs)->vtv l=true
 | [],r,bs,h=>rfl
 | x::l,r,bs,h=>by
  simp only [zfh] at h;split at h
  . rename_i a bs1 r2 bs2 h1 h2;simp only [vtv,List.all_cons,Bool.and_eq_true];refine ⟨?_,z0h h2⟩
    cases x<;>first | rfl | cases h1
  . cases h
def wvr:AV->Option SV
 | .one c=>some (.one (.dat c))
 | .agg cs=>some (.agg (cs.map .dat))
 | .elt cs=>some (.elt cs)
 | .any=>some .any
 | _=>none
def zsa:List AV->Option (List SV)
 | []=>some []
 | a::r=>match wvr a,zsa r with
  | some x,some l=>some (x::l)
  | _,_=>none
def resS (nb:Nat):AV->Option (SV×Option SB)
 | .tup l=>(zsa l).map fun l=>(.tup l,none)
 | .arr [] c none=>some (.one (.sl nb c.esz 0 c.cnt),some (.arr c 0 none))
 | a=>(wvr a).map fun x=>(x,none)
theorem zid {w:World} {v:Value} {x:SV} (h:wvr a=some x) (hv:RdB M w v a):SVR0 J ρ M w v x:=by
 unfold wvr at h;split at h
 . cases h;exact hv
 . cases h;obtain ⟨vs,rfl,hr⟩:=hv;exact ⟨vs,rfl,RdD.hrl hr⟩
 . cases h;exact hv
 . cases h;trivial
 . cases h
theorem v9u {J:List SB} {ρ:Nat->Value} {M:Nat->Nat->Prop} {w:World}:∀{l:List AV} {r:List SV} {vs:List Value},zsa l=some r->RdBL M w vs l->SRL J ρ M w vs r
 | [],r,vs,h,hv=>by
  cases h
  cases vs with
  | nil=>trivial
  | cons _ _=>exact hv.elim
 | a::l,r,vs,h,hv=>by
  simp only [zsa] at h;split at h
  . rename_i x l' h1 h2
    cases h
    cases vs with
    | nil=>exact hv.elim
    | cons v vs=>exact ⟨zid h1 hv.1,v9u h2 hv.2⟩
  . cases h
theorem zzf {w w':World} (h:HInv Γ Mo ρ J w) {e:Ending} (hb:Back (MX Mo ρ J) w res e w') {x:SV} (hr:resS nb res=some (x,ob)) (hroom:ob≠none->J[nb]? = some .fresh) :
 ∃ v ρ',e=.returned v/\Went Γ Mo ρ J w ρ' (appL (oB nb ob) J) w'/\SVR (appL (oB nb ob) J) ρ' (MX Mo ρ' (appL (oB nb ob) J)) w' v x:=by
 obtain ⟨v,rfl,hbl,hrd,hfr⟩:=hb;have hw:=Went.below h hbl;unfold resS at hr;split at hr
 . rename_i l;obtain ⟨l',hl,he⟩:=Option.map_eq_some_iff.1 hr
   cases he;obtain ⟨vs,rfl,hv⟩:=hrd;exact ⟨_,ρ,rfl,hw,vs,rfl,v9u hl hv⟩
 . rename_i c
   cases hr;obtain ⟨_,_,how⟩:=hrd;obtain ⟨b,T,vs,q,cap,rfl,hbk,hr,hu,hcap,hsz,hM⟩:=how;have hf:=hroom (by simp);have hlt:nb<J.length:=(List.getElem?_eq_some_iff.1 hf).1;have hge:w.heap.size<=b:=hfr rfl;refine ⟨_,upd ρ nb (.pointer (some ⟨b,0,none⟩)),rfl,Went.new h hbl hf (by simp) (fun _ _=>hge) (fun m=>⟨⟨hu,Nat.zero_le _⟩,.inr ⟨b,vs,q,T,rfl,hbk,hr.keep (ya3.shrink w' ?_),by simp⟩⟩),?_⟩
   . rintro b' o' (hm | ⟨i,y,hi,hy,hre,e⟩)
     . exact .inl (.inl hm)
     . rcases zr6 hi with ⟨rfl,rfl⟩ | ⟨hn,hi⟩
       . rw [vgt] at e;exact .inr e.symm
       . rw [wl3 hn] at hre e;exact .inl (.inr ⟨i,y,hi,hy,hre,e⟩)
   . refine ⟨⟨_,by simp only [oB,appL];rw [List.getElem?_set_self hlt],by simp⟩,_,cap,rfl,hcap,fun _=>⟨by rw [vgt];simp [real],by rw [vgt];simp [bk,blk],_,T,_,by rw [vgt];exact hbk,?_⟩⟩;simpa using hsz
 . rename_i a h1 h2;obtain ⟨x',hx,he⟩:=Option.map_eq_some_iff.1 hr
   cases he;refine ⟨v,ρ,rfl,hw,SVR.of0 (zid hx ?_)⟩;unfold wvr at hx
   split at hx<;>first | exact hrd | cases hx
def wq8 (_Γ:List (Nat×List Cell)) (I:List SV) (J:List SB):Operand->Option (FuncId×List SV×List Nat×List Nat)
 | .func f=>some (f,[],[],[])
 | .tmp t=>match gtS I t with
  | .one (.dat (.raw v))=>(xfw v).map fun f=>(f,[],[t],[])
  | .one (.fnr b)=>match gB J b with
   | .clo f caps=>some (f,caps,[t],[b])
   | _=>none
  | _=>none
 | _=>none
theorem vkn {ev:Operand->Value} {xs:Array Operand} {cv:Array Value} (ho:o.op=.call { callee:=.value x,args:=xs,argTypes:=ts }) (hx:ev x=.func (.func f) #[] cv) (hc:wuj P f) (w:World) :
 (execOp ev o).run P w=.ok (.enter f (xs.map ev++cv)) w:=by
 unfold execOp;rw [ho];simp [resolve,Deferred.ofValue,hx,invoke,v7d hc]
theorem yht {a:Act} {w:World} (hI:RI Γ E ρ I J a w) (h:wq8 Γ I J x=some (f,caps,rd,rh)) :
 ∃ cv:List Value,a.eval x=.func (.func f) #[] cv.toArray/\SRL J ρ (MX E.Mo ρ J) w cv caps:=by
 unfold wq8 at h;split at h
 . cases h;exact ⟨[],rfl,trivial⟩
 . rename_i t;have ht:=hI.gt t;split at h
   . rename_i v hv;obtain ⟨f',hf,he⟩:=Option.map_eq_some_iff.1 h
     cases he;rw [hv] at ht;have e:a.tmps.getD t Go.undef=v:=RdC.zb6 ht;exact ⟨[],by show a.tmps.getD t Go.undef=_;rw [e,v42 hf],trivial⟩
   . rename_i b hb;split at h
     . rename_i f' caps' hg
       cases h;rw [hb] at ht;obtain ⟨cv,e,hr⟩:=hI.sbr hg (by simp);exact ⟨cv,by show a.tmps.getD t Go.undef=_;rw [ht.2.1,e],hr⟩
     . cases h
   . cases h
 . cases h
theorem wro (h : wq8 Γ I J x = some (f, caps, rd, rh)) (hs : ∀ t ∈ rd, gtS I' t = gtS I t) (hb : ∀ b ∈ rh, gB J' b = gB J b) : wq8 Γ I' J' x = some (f, caps, rd, rh) := by
 unfold wq8 at h ⊢;split at h
 . exact h
 . rename_i t
   have e:gtS I' t=gtS I t:=by
    split at h
    . obtain ⟨f',hf,he⟩:=Option.map_eq_some_iff.1 h;cases he;exact hs t (by simp)
    . split at h
      . cases h;exact hs t (by simp)
      . cases h
    . cases h
   simp only [e];split at h
   . rename_i v hv;exact h
   . rename_i b hbb;split at h
     . rename_i f' caps' hg
       cases h;rw [hb b (by simp),hg]
     . cases h
   . cases h
 . cases h
def ylm (o:Oper) (x:SV):List (Nat×SV):=match o.dst with
 | some d=>[(d,x)]
 | none=>[]
theorem RI.dst {E:HEnv} {ρ:Nat->Value} {I:List SV} {J:List SB} {a:Act} {w:World} (h:RI Γ E ρ I J a w) {o:Oper} {v:Value} {x:SV} (hx:SVR J ρ (MX E.Mo ρ J) w v x):RI Γ E ρ (appL (ylm o x) I) J (a.put o.dst v) w:=by
 unfold ylm
 cases o.dst with
 | none=>exact h
 | some d=>exact h.put hx
theorem w00 (ho:o.op=.call { callee:=.value x,args:=xs.toArray,argTypes:=ts })
 (hc:wq8 Γ I J x=some (f,caps,rd,rh)) (ha:zfh J (wb2 Γ I xs++caps)=some (l,bs)) (v6l:CallsD Γ P f l res) {y:SV} (hres:resS nb res=some (y,ob)) (hroom:wmm J nb ob=true) :
 yvu Γ P o I J (v9o o++rd++orrL xs) (oN nb ob++rh++bs) (ylm o y) (frzE J bs++oB nb ob):=by
 intro E ρ I' J' a w hag hah hI K Q hK;have hc':=wro hc (fun t ht=>hag.2 t (by simp [ht])) (fun b hb=>hah.gB (by simp [hb]));have hargs:=xwe (Γ:=Γ) hag xs (fun t ht=>by simp [ht])
 have hgb:∀ b∈bs,gB J' b=gB J b:=fun b hb=>hah.gB (by simp [hb])
 have ha':=xkj ha hgb;have hnt:=z0h ha'
 have hnt1:vtv (wb2 Γ I' xs)=true:=by
  rw [hargs];unfold vtv at hnt ⊢;rw [List.all_append,Bool.and_eq_true] at hnt;exact hnt.1
 obtain ⟨cv,hcv,hcr⟩:=yht hI hc';have hsr:=(wmx hI xs hnt1).append hcr;rw [hargs] at hsr;have harr:=vw0 ha';obtain ⟨hw1,_,hfz⟩:=Went.frz bs J' hI.inv rfl harr (fun _=>.inl rfl);have hrb:=xp6 hw1.inv ha' hfz (hsr.mv hw1.mv);have hcalls:=v6l.2 _ w _ (fun b o hm=>zef hw1.inv hm) hw1.inv.glob hrb;unfold Oper.wp;rw [vkn ho hcv v6l.1 w];show Calls P f _ w _
 have e1:xs.toArray.map a.eval++cv.toArray=(xs.map a.eval++cv).toArray:=by simp
 rw [e1];refine hcalls.mono ?_;intro e w' hb
 obtain ⟨v,ρ',rfl,hw2,hv⟩:=zzf hw1.inv hb hres (nb:=nb) (fun hne=>by
  cases ob with
  | none=>exact absurd rfl hne
  | some z=>exact zuh harr (hah.room (show nb∈oN nb (some z)++rh++bs by simp [oN]) hroom))
 refine hK _ _ ρ' ?_;rw [<-xei hgb,we6];exact ((hI.go hw1).go hw2).dst hv
theorem xj2 {t:Nat} (ho:o.op=.call { callee:=.value (.tmp t),args:=xs.toArray,argTypes:=ts }) (ht:gtS I t=.one (.dat (.fnp (wrb Γ P F))))
 (ha:zfh J (wb2 Γ I xs)=some (l,bs)) (v6l:F l res) {y:SV} (hres:resS nb res=some (y,ob)) (hroom:wmm J nb ob=true) :
 yvu Γ P o I J (v9o o++t::orrL xs) (oN nb ob++bs) (ylm o y) (frzE J bs++oB nb ob):=by
 intro E ρ I' J' a w hag hah hI K Q hK;have hargs:=xwe (Γ:=Γ) hag xs (fun t ht=>by simp [ht])
 have hgb:∀ b∈bs,gB J' b=gB J b:=fun b hb=>hah.gB (by simp [hb])
 have ha':=xkj ha hgb;have hnt:=z0h ha';have hsr:=wmx hI xs (by rw [hargs];exact hnt);rw [hargs] at hsr;have harr:=vw0 ha';obtain ⟨hw1,_,hfz⟩:=Went.frz bs J' hI.inv rfl harr (fun _=>.inl rfl);have hrb:=xp6 hw1.inv ha' hfz (hsr.mv hw1.mv);have hf:=(hI.go hw1).gt t;rw [hag.2 t (by simp),ht] at hf;have hf:RdC _ w (a.tmps.getD t Go.undef) (.fnp (wrb Γ P F)):=hf;generalize hv:a.tmps.getD t Go.undef=v at hf
 cases hf with
 | fnp h1 hp=>
  obtain ⟨f,caps,rfl,hcl,hspec⟩:=hp _ w (fun _ _ _ h1 h2=>⟨h1,h2⟩);have hcalls:=hspec l res _ v6l (fun b o hm=>zef hw1.inv hm) hw1.inv.glob hrb;unfold Oper.wp;rw [vkn (x:=.tmp t) ho hv hcl w];show Calls P f _ w _
  have e1:xs.toArray.map a.eval++caps=(xs.map a.eval).toArray++caps:=by simp
  rw [e1];refine hcalls.mono ?_;intro e w' hb
  obtain ⟨v,ρ',rfl,hw2,hv⟩:=zzf hw1.inv hb hres (nb:=nb) (fun hne=>by
   cases ob with
   | none=>exact absurd rfl hne
   | some z=>exact zuh harr (hah.room (show nb∈oN nb (some z)++bs by simp [oN]) hroom))
  refine hK _ _ ρ' ?_;rw [<-xei hgb,we6];exact ((hI.go hw1).go hw2).dst hv
def wfn (Γ:List (Nat×List Cell)) (P:Program) (o:Oper) (I:List SV) (J:List SB) (σ2:List SV) (η2:List SB):Prop:=
 ∀(E:HEnv) (ρ:Nat->Value) (a:Act) (w:World),RI Γ E ρ I J a w->∀(K:Act->World->Prop) (Q:Exit->Act->World->Prop),
  (∀ a' w' ρ',RI Γ E ρ' σ2 η2 a' w'->K a' w')->o.wp P a w K Q
theorem yvu.p {eff:List (Nat×SV)} (h:yvu Γ P o I J rd rh eff heff):wfn Γ P o I J (appL eff I) (appL heff J):=
 fun E ρ a w hI K Q hK=>h E ρ I J a w ⟨rfl,fun _ _=>rfl⟩ ⟨rfl,fun _ _=>rfl⟩ hI K Q hK
theorem yvu.px {eff:List (Nat×SV)} (h:yvu Γ P o I (J++[.fresh]) rd rh eff heff):wfn Γ P o I J (appL eff I) (appL heff (J++[.fresh])):=
 fun E ρ a w hI K Q hK=>h.p E ρ a w (hI.go (Went.extend hI.inv 1)) K Q hK
theorem wtf (ho:o.op=.call { callee:=.value x,args:=xs.toArray,argTypes:=ts })
 (hc:wq8 Γ I J x=some (f,caps,rd,rh)) (hnt:vtv (wb2 Γ I xs)=true) {res:SV} (v6l:vfe Γ P f J (wb2 Γ I xs++caps) J' res) :
 wfn Γ P o I J (appL (ylm o res) I) J':=by
 intro E ρ a w hI K Q hK;obtain ⟨cv,hcv,hcr⟩:=yht hI hc;have hsr:=(wmx hI xs hnt).append hcr;have hcalls:=v6l.2 _ ρ w _ hI.inv hsr;unfold Oper.wp;rw [vkn ho hcv v6l.1 w];show Calls P f _ w _
 have e1:xs.toArray.map a.eval++cv.toArray=(xs.map a.eval++cv).toArray:=by simp
 rw [e1];refine hcalls.mono ?_;rintro e w' ⟨v,ρ',rfl,hw,hv⟩;exact hK _ _ ρ' ((hI.go hw).dst hv)
theorem w4n (ho:o.op=.call { callee:=.value x,args:=xs.toArray,argTypes:=ts })
 (hc:wq8 Γ I J x=some (f,caps,rd,rh)) (hnt:vtv (wb2 Γ I xs)=true) {res:SV} (v6l:vfe Γ P f J (wb2 Γ I xs++caps) (appL heff J) res) :
 yvu Γ P o I J (v9o o++rd++orrL xs) (List.range J.length) (ylm o res) heff:=by
 intro E ρ I' J' a w hag hah hI K Q hK
 have hη:J'=J:=by
  apply List.ext_getElem?;intro i;by_cases hi:i<J.length
  . exact hah.2 i (by simpa using hi)
  . rw [List.getElem?_eq_none (by rw [hah.1];omega),List.getElem?_eq_none (by omega)]
 subst hη;have hc':=wro hc (fun t ht=>hag.2 t (by simp [ht])) (fun b _=>rfl);have hargs:=xwe (Γ:=Γ) hag xs (fun t ht=>by simp [ht])
 have:=wtf (o:=o) (I:=I') (J:=J') ho hc' (by rw [hargs];exact hnt) (by rw [hargs];exact v6l)
 exact this E ρ a w hI K Q hK
theorem wg7 {d:Nat} (ho:o.op=.makeFunc (.func f) #[] xs.toArray) (hdst:o.dst=some d) (hnt:vtv (wb2 Γ I xs)=true) (hroom:xvh J nb=true) :
 yvu Γ P o I J (d::orrL xs) [nb] [(d,.one (.fnr nb))] [(nb,.clo f (wb2 Γ I xs))]:=by
 refine yvu.val hdst (fun E ρ I' J' a w hag hah hI=>?_);have hargs:=xwe (Γ:=Γ) hag xs (fun t ht=>by simp [ht]);have hsr:=wmx hI xs (by rw [hargs];exact hnt);rw [hargs] at hsr;have hfr:=hah.room (by simp) hroom;have hlt:nb<J'.length:=(List.getElem?_eq_some_iff.1 hfr).1;refine ⟨.func (.func f) #[] (xs.map a.eval).toArray,w,upd ρ nb (.func (.func f) #[] (xs.map a.eval).toArray),by simp [execOp,ho,Instr.makeFunc],Went.new hI.inv (zgs w) hfr (by simp) (fun h=>by cases h) (fun m=>⟨_,rfl,hsr.mv m⟩),?_⟩;exact ⟨⟨_,by simp [appL,hlt];rfl,by simp⟩,by rw [vgt],rfl⟩
theorem vse {d:Nat} (ho:o.op=.makeFunc (.func f) #[] xs.toArray) (hdst:o.dst=some d) {caps:List AV} (ha:zfh J (wb2 Γ I xs)=some (caps,bs))
 (v6l:wuj P f) (hF:∀ args res,F args res->CallsD Γ P f (args++caps) res) :
 yvu Γ P o I J (d::orrL xs) bs [(d,.one (.dat (.fnp (wrb Γ P F))))] (frzE J bs):=by
 refine yvu.val hdst (fun E ρ I' J' a w hag hah hI=>?_);have hargs:=xwe (Γ:=Γ) hag xs (fun t ht=>by simp [ht])
 have hgb:∀ b∈bs,gB J' b=gB J b:=fun b hb=>hah.gB hb
 have ha':=xkj ha hgb;have hsr:=wmx hI xs (by rw [hargs];exact z0h ha');rw [hargs] at hsr;have harr:=vw0 ha';obtain ⟨hw1,_,hfz⟩:=Went.frz bs J' hI.inv rfl harr (fun _=>.inl rfl);have hrb:=xp6 hw1.inv ha' hfz (hsr.mv hw1.mv);rw [<-xei hgb];refine ⟨.func (.func f) #[] (xs.map a.eval).toArray,w,ρ,by simp [execOp,ho,Instr.makeFunc],hw1,RdC.fnp rfl (fun M' w' hk=>⟨f,_,rfl,v6l,fun args res vs hres hb hg hrd=>?_⟩)⟩
 have:=(hF args res hres).2 M' w' (vs++xs.map a.eval) hb hg (hrd.append (hrb.keep hk))
 simpa using this
def eqL:List Value->List Value->Option Bool
 | [],[]=>some true
 | a::as,b::bs=>match kEq a b,eqL as bs with
  | some p,some q=>some (p&&q)
  | _,_=>none
 | _,_=>none
def zka (g:TypeId->Option Nat):List Field->Nat->Option Nat
 | [],acc=>some acc
 | f::fs,acc=>match g f.type with
  | some k=>if f.name != "_" &&f.offset==acc then zka g fs (acc+k) else none
  | none=>none
def ztb (P:Program):Nat->TypeId->Option Nat
 | 0,_=>none
 | d + 1, t => match P.underlying t, P.info? t with
  | some ds,some i=>match ds with
   | .int _=>if i.size==1 then some 1 else none
   | .string=>if i.size==1 then some 1 else none
   | .bool=>if i.size==1 then some 1 else none
   | .array n e=>match ztb P d e with
    | some k=>if i.size==n*k then some (n*k) else none
    | none=>none
   | .struct fs=>if P.stoodInHeld t then none else match zka (ztb P d) fs.toList 0 with
    | some n=>if i.size==n then some n else none
    | none=>none
   | _=>none
  | _,_=>none
def aggT (P:Program) (t:TypeId):Bool:=match P.underlying t with
 | some (.struct _)=>true
 | some (.array _ _)=>true
 | _=>false
def valT (P:Program) (t:TypeId) (l:List Value):Value:=if aggT P t then .agg l.toArray else l.getD 0 Go.undef
theorem v8b:∀{a b:List Value} {r:Bool},eqL a b=some r->a.length=b.length
 | [],[],_,_=>rfl
 | a::as,b::bs,r,h=>by
  simp only [eqL] at h;split at h
  . rename_i p q h1 h2;simp [v8b h2]
  . cases h
theorem whu:∀(k:Nat) {a b:List Value} {r:Bool},eqL a b=some r->∃ p q,eqL (a.take k) (b.take k)=some p/\eqL (a.drop k) (b.drop k)=some q/\r=(p&&q)
 | 0,a,b,r,h=>⟨true,r,by simp [eqL],by simpa using h,by simp⟩
 | k+1,[],[],r,h=>⟨true,true,by simp [eqL],by simp [eqL],by simp [eqL] at h;simp [h]⟩
 | k+1,[],_::_,r,h=>by simp [eqL] at h
 | k+1,_::_,[],r,h=>by simp [eqL] at h
 | k+1,a::as,b::bs,r,h=>by
  simp only [eqL] at h;split at h
  . rename_i p q h1 h2
    cases h;obtain ⟨p',q',h3,h4,rfl⟩:=whu k h2;exact ⟨p&&p',q',by simp [eqL,h1,h3],by simpa using h4,by simp [Bool.and_assoc]⟩
  . cases h
theorem ziy {d : Nat} {t : TypeId} {n : Nat} (h : ztb P d t = some n) : ∃ i, P.info? t = some i ∧ i.size = n := by
 cases d with
 | zero=>cases h
 | succ d=>
  unfold ztb at h;split at h
  . rename_i ds i hu hi;refine ⟨i,hi,?_⟩;split at h
    . split at h
      . rename_i hs;cases h;simpa using hs
      . cases h
    . split at h
      . rename_i hs;cases h;simpa using hs
      . cases h
    . split at h
      . rename_i hs;cases h;simpa using hs
      . cases h
    . split at h
      . split at h
        . rename_i hs;cases h;simpa using hs
        . cases h
      . cases h
    . split at h
      . cases h
      . split at h
        . split at h
          . rename_i hs;cases h;simpa using hs
          . cases h
        . cases h
    . cases h
  . cases h
theorem x05 {t:TypeId} (hu:P.underlying t=some ds) (w:World):(isAgg t).run P w=.ok (aggT P t) w:=by
 unfold aggT;rw [hu]
 cases ds<;>simp [isAgg,voj hu]
theorem wsj {d:Nat} {t:TypeId} {n:Nat} (h:ztb P d t=some n):∃ ds,P.underlying t=some ds:=by
 cases d with
 | zero=>cases h
 | succ d=>
  unfold ztb at h;split at h
  . rename_i ds i hu hi;exact ⟨ds,hu⟩
  . cases h
theorem wsp {d:Nat} {t:TypeId} {k:Nat} (h:ztb P d t=some k) {l:List Value} (hfit:off+k<=l.length) (hk:aggT P t=false->0<k) (w:World):(part t l.toArray off).run P w=.ok (valT P t ((l.drop off).take k)) w:=by
 obtain ⟨ds,hu⟩:=wsj h;obtain ⟨i,hi,hs⟩:=ziy h;unfold part valT;simp only [Sem.run_bind,x05 hu,Result.andThen_ok]
 cases ha:aggT P t
 . have hk:=hk ha
   have hlt:off<l.length:=by omega
   simp only [Bool.false_eq_true,if_false,List.getElem?_toArray,List.getElem?_eq_getElem hlt,Sem.run_pure]
   congr 1
   rw [List.getD_eq_getElem?_getD,List.getElem?_take,if_pos hk,List.getElem?_drop,Nat.add_zero,List.getElem?_eq_getElem hlt];rfl
 . simp only [if_true,Sem.run_bind,xvp hi,hs,Result.andThen_ok,Sem.run_pure]
   congr 1
   simp [List.extract_eq_take_drop]
theorem ycc {d:Nat} {t:TypeId} {n:Nat} (h:ztb P d t=some n) (ha:aggT P t=false):n=1/\∃ ds,P.underlying t=some ds/\((∃ k,ds=.int k)\/ds=.string\/ds=.bool):=by
 cases d with
 | zero=>cases h
 | succ d=>
  unfold ztb at h;split at h
  . rename_i ds i hu hi;unfold aggT at ha;rw [hu] at ha;split at h
    . split at h<;>cases h;exact ⟨rfl,_,hu,.inl ⟨_,rfl⟩⟩
    . split at h<;>cases h;exact ⟨rfl,_,hu,.inr (.inl rfl)⟩
    . split at h<;>cases h;exact ⟨rfl,_,hu,.inr (.inr rfl)⟩
    . cases ha
    . cases ha
    . cases h
  . cases h
theorem xid {t:TypeId} (hu:P.underlying t=some ds) (hd:(∃ k,ds=.int k)\/ds=.string\/ds=.bool) {a b:Value} {r:Bool} (h:kEq a b=some r) (ht:(∀ k,ds=.int k->∃ q n,a=.int q n)/\(ds=.string->∃ s,a=.string s)/\(ds=.bool->∃ p,a=.bool p)) (d:Nat) (w:World) :
 (Op.equalIn (d+1) t a b).run P w=.ok r w:=by
 rcases hd with ⟨k,rfl⟩ | rfl | rfl
 . obtain ⟨q,n,rfl⟩:=ht.1 k rfl
   cases b<;>simp only [kEq] at h<;>first | (cases h;done) | skip
   split at h
   . rename_i e;subst e;cases h;simp [Op.equalIn,voj hu]
   . cases h
 . obtain ⟨s,rfl⟩:=ht.2.1 rfl
   cases b<;>simp only [kEq] at h<;>first | (cases h;done) | skip
   cases h;simp [Op.equalIn,voj hu,beq_toListBytes,seq]
 . obtain ⟨p,rfl⟩:=ht.2.2 rfl
   cases b<;>simp only [kEq] at h<;>first | (cases h;done) | skip
   cases h;simp [Op.equalIn,voj hu]
def fitD:TypeDesc->Value->Bool
 | .int k,.int k' _=>k==k'
 | .string,.string _=>true
 | .bool,.bool _=>true
 | _,_=>false
def fitF (g:TypeId->List Value->Bool) (sz:TypeId->Nat):List Field->List Value->Bool
 | [],_=>true
 | f::fs,l=>g f.type (l.take (sz f.type))&&fitF g sz fs (l.drop (sz f.type))
def fitN (g:List Value->Bool) (k:Nat):Nat->List Value->Bool
 | 0,_=>true
 | n+1,l=>g (l.take k)&&fitN g k n (l.drop k)
def fitT (P:Program):Nat->TypeId->List Value->Bool
 | 0,_,_=>false
 | d+1,t,l=>match P.underlying t with
  | some (.array n e)=>fitN (fitT P d e) (P.cellsOf e) n l
  | some (.struct fs)=>fitF (fitT P d) P.cellsOf fs.toList l
  | some ds=>match l with
   | [v]=>fitD ds v
   | _=>false
  | none=>false
theorem x5n:∀(d:Nat) {t:TypeId} {n:Nat},ztb P d t=some n->∀(m:Nat) {l l':List Value} {r:Bool},l.length=n->fitT P d t l=true->eqL l l'=some r->∀ w,(Op.equalIn (d+m) t (valT P t l) (valT P t l')).run P w=.ok r w
 | 0,_,_,h=>by cases h
 | d + 1, t, n, h => fun m l l' r hl hfit he w => by
  have hll:=v8b he
  cases ha:aggT P t with
  | false=>
   obtain ⟨rfl,ds,hu,hd⟩:=ycc h ha;unfold fitT at hfit;rw [hu] at hfit
   match l,l',hl,hll,he with
   | [a],[b],_,_,he=>
    unfold valT;rw [ha];simp only [Bool.false_eq_true,if_false,List.getD_cons_zero]
    have hk:kEq a b=some r:=by
     simp only [eqL] at he;split at he
     . rename_i p q h1 h2;cases h2;cases he;rw [h1];simp
     . cases he
    rw [show d+1+m=d+m+1 by omega];refine xid hu hd hk ?_ (d+m) w
    rcases hd with ⟨k,rfl⟩ | rfl | rfl
    . refine ⟨fun k' _=>?_,fun e=>(by cases e),fun e=>(by cases e)⟩
      cases a<;>simp [fitD] at hfit
      exact ⟨_,_,rfl⟩
    . refine ⟨fun k' e=>(by cases e),fun _=>?_,fun e=>(by cases e)⟩
      cases a<;>simp [fitD] at hfit
      exact ⟨_,rfl⟩
    . refine ⟨fun k' e=>(by cases e),fun e=>(by cases e),fun _=>?_⟩
      cases a<;>simp [fitD] at hfit
      exact ⟨_,rfl⟩
  | true=>
   unfold valT;rw [ha];simp only [if_true];unfold ztb at h;split at h
   case h_2=>cases h
   rename_i ds i hu hi;unfold fitT at hfit;rw [hu] at hfit;split at h
   case h_1 | h_2 | h_3 | h_6=>first | (unfold aggT at ha;rw [hu] at ha;cases ha) | cases h
   ·
    rename_i nn e;split at h
    case h_2=>cases h
    rename_i k hk;split at h
    case isFalse=>cases h
    cases h;obtain ⟨ie,hie,hse⟩:=ziy hk
    have hce:P.cellsOf e=k:=by simp [Program.cellsOf,hie,hse]
    rw [show d+1+m=d+m+1 by omega,run_equalIn_array w (d+m) l.toArray l'.toArray hu hie,hce];simp only [hce] at hfit
    have key:∀(c j:Nat) {r:Bool},c+j=nn->fitN (fitT P d e) k c (l.drop (j*k))=true->eqL (l.drop (j*k)) (l'.drop (j*k))=some r->(Op.eqItems (d+m) e k l.toArray l'.toArray (List.range' j c)).run P w=.ok r w:=by
     intro c
     induction c with
     | zero=>
      intro j r hj _ he
      have:l.drop (j*k)=[]:=List.drop_eq_nil_of_le (by rw [hl,<-hj];simp)
      have h2:l'.drop (j*k)=[]:=List.drop_eq_nil_of_le (by rw [<-hll,hl,<-hj];simp);rw [this,h2] at he
      cases he;simp [Op.eqItems]
     | succ c ih=>
      intro j r hj hf he;simp only [fitN,Bool.and_eq_true] at hf;obtain ⟨p,q,h1,h2,rfl⟩:=whu k he
      have hfit1:j*k+k<=l.length:=by
       rw [hl,<-hj]
       have:(j+1)*k<=(c+1+j)*k:=Nat.mul_le_mul_right _ (by omega)
       rw [Nat.add_mul,Nat.one_mul] at this;exact this
      have hpos:aggT P e=false->0<k:=fun ha=>by rw [(ycc hk ha).1];exact Nat.one_pos
      rw [List.range'_succ];have h3:=x5n d hk m (by simp;omega) hf.1 h1 w;simp only [Op.eqItems,Sem.run_bind,wsp hk hfit1 hpos,wsp hk (l:=l') (by rw [<-hll];exact hfit1) hpos,Result.andThen_ok,h3];rw [List.drop_drop,List.drop_drop,show j*k+k=(j+1)*k by rw [Nat.add_mul,Nat.one_mul]] at h2;have hf2:=hf.2;rw [List.drop_drop,show j*k+k=(j+1)*k by rw [Nat.add_mul,Nat.one_mul]] at hf2
      cases p
      . simp
      . simp only [Bool.not_true,Bool.false_eq_true,if_false,Bool.true_and];exact ih (j+1) (by omega) hf2 h2
    rw [List.range_eq_range'];exact key nn 0 (by omega) (by simpa using hfit) (by simpa using he)
   ·
    rename_i fs;split at h
    . cases h
    rename_i hsi;split at h
    case h_2=>cases h
    rename_i nn hff;split at h
    case isFalse=>cases h
    cases h
    have hfo:P.fieldsOf t=fs:=by simp [Program.fieldsOf,hu]
    rw [show d+1+m=d+m+1 by omega,run_equalIn_struct w (d+m) t _ _ (by rw [hfo];exact hu) (by simpa using hsi),hfo]
    have key:∀(fs:List Field) (acc:Nat) {r:Bool},zka (ztb P d) fs acc=some n->fitF (fitT P d) P.cellsOf fs (l.drop acc)=true->eqL (l.drop acc) (l'.drop acc)=some r->(Op.eqFields (d+m) l.toArray l'.toArray fs).run P w=.ok r w:=by
     intro fs
     induction fs with
     | nil=>
      intro acc r hf _ he;simp only [zka,Option.some.injEq] at hf
      have:l.drop acc=[]:=List.drop_eq_nil_of_le (by omega)
      have h2:l'.drop acc=[]:=List.drop_eq_nil_of_le (by omega);rw [this,h2] at he
      cases he;simp [Op.eqFields]
     | cons f fs ih=>
      intro acc r hf hfi he;simp only [zka] at hf;split at hf
      case h_2=>cases hf
      rename_i k hk;split at hf
      case isFalse=>cases hf
      rename_i hc;simp only [Bool.and_eq_true,bne_iff_ne,ne_eq,beq_iff_eq] at hc;obtain ⟨ie,hie,hse⟩:=ziy hk
      have hce:P.cellsOf f.type=k:=by simp [Program.cellsOf,hie,hse]
      simp only [fitF,hce,Bool.and_eq_true] at hfi;obtain ⟨p,q,h1,h2,rfl⟩:=whu k he
      have hmono:∀(fs:List Field) (a n:Nat),zka (ztb P d) fs a=some n->a<=n:=by
       intro fs
       induction fs with
       | nil=>intro a n h;simp only [zka,Option.some.injEq] at h;omega
       | cons f fs ih=>
        intro a n h;simp only [zka] at h;split at h
        . split at h
          . have:=ih _ _ h;omega
          . cases h
        . cases h
      have hfit1:acc+k<=l.length:=by have:=hmono _ _ _ hf;omega
      have hpos:aggT P f.type=false->0<k:=fun ha=>by rw [(ycc hk ha).1];exact Nat.one_pos
      have h3:=x5n d hk m (by simp;omega) hfi.1 h1 w;simp only [Op.eqFields,hc.1,ne_eq,not_false_eq_true,if_true,hc.2,Sem.run_bind,wsp hk hfit1 hpos,wsp hk (l:=l') (by rw [<-hll];exact hfit1) hpos,Result.andThen_ok,h3];rw [List.drop_drop,List.drop_drop] at h2;have hf2:=hfi.2;rw [List.drop_drop] at hf2
      cases p
      . simp
      . simp only [Bool.not_true,Bool.false_eq_true,if_false,Bool.true_and];exact ih (acc+k) hf hf2 h2
    exact key fs.toList 0 hff (by simpa using hfit) (by simpa using he)
def wlg:List HC->Option (List Value)
 | []=>some []
 | .dat (.raw v)::r=>(wlg r).map (v::·)
 | _::_=>none
theorem ymu {J:List SB} {ρ:Nat->Value} {M:Nat->Nat->Prop} {w:World}:∀{hs:List HC} {l vs:List Value},wlg hs=some l->HRL J ρ M w vs hs->vs=l
 | [],l,vs,h,hr=>by
  cases h
  cases vs with
  | nil=>rfl
  | cons _ _=>exact hr.elim
 | x::hs,l,vs,h,hr=>by
  cases vs with
  | nil=>exact hr.elim
  | cons v vs=>
   unfold wlg at h;split at h
   . rename_i heq;cases heq
   . rename_i u r heq
     cases heq;obtain ⟨l',hl,rfl⟩:=Option.map_eq_some_iff.1 h;rw [ymu hl hr.2,RdC.zb6 hr.1]
   . cases h
def eqOf (op:BinOp) (r:Bool):Option Bool:=match op with
 | .eql=>some r
 | .neq=>some (!r)
 | _=>none
def ynd (P:Program) (T:TypeId) (op:BinOp) (x y:SV):Option SV:=match x,y with
 | .agg hx,.agg hy=>match wlg hx,wlg hy with
  | some lx,some ly=>if ztb P 9 T=some lx.length/\aggT P T=true/\P.eqGuardType P.depth T=false/\fitT P 9 T lx=true then
   match eqL lx ly with
   | some r=>(eqOf op r).map fun b=>.one (.dat (.raw (.bool b)))
   | none=>none
   else none
  | _,_=>none
 | _,_=>none
theorem zza {op:BinOp} {U:TypeId} {d:Nat} (ho:o.op=.binOp op T x y U) (hdst:o.dst=some d) {v:SV} (h:ynd P T op (opdS Γ I x) (opdS Γ I y)=some v) :
 yvu Γ P o I J (d::(orr x++orr y)) [] [(d,v)] []:=by
 refine yvu.pure hdst (fun E ρ I' J' a w hag hah hI=>?_);have hx:=hI.opd x;have hy:=hI.opd y;rw [hag.opd (fun t ht=>by simp [ht])] at hx hy;unfold ynd at h;split at h
 case h_2=>cases h
 rename_i hsx hsy ex ey;split at h
 case h_2=>cases h
 rename_i lx ly h1 h2;split at h
 case isFalse=>cases h
 rename_i hc;split at h
 case h_2=>cases h
 rename_i r hr;obtain ⟨b,hb,rfl⟩:=Option.map_eq_some_iff.1 h;rw [ex] at hx;rw [ey] at hy;obtain ⟨vx,hvx,hrx⟩:=hx;obtain ⟨vy,hvy,hry⟩:=hy;rw [ymu h1 hrx] at hvx;rw [ymu h2 hry] at hvy;have hrun:=x5n 9 hc.1 9991 rfl hc.2.2.2 hr w;unfold valT at hrun;rw [hc.2.1] at hrun;simp only [if_true,Nat.reduceAdd] at hrun
 have hg:∀ ox oy,(eqGuard op T ox oy (.agg lx.toArray) (.agg ly.toArray)).run P w=.ok () w:=fun ox oy=>run_eqGuard_agg w op T ox oy _ _ hc.2.2.1
 refine ⟨.bool b,?_,RdC.raw rfl⟩;unfold eqOf at hb;split at hb
 . cases hb;simp only [execOp,ho,hvx,hvy,Sem.run_bind,hg,Result.andThen_ok,run_eql_struct,hrun,Sem.run_pure]
 . cases hb;simp only [execOp,ho,hvx,hvy,Sem.run_bind,hg,Result.andThen_ok,run_neq_struct,hrun,Sem.run_pure]
 . cases hb
def xzq (J:List SB):SV->Option (List Int×List Nat)
 | .one h=>match v9i J h with
  | some (c,bs)=>(xo9 .u8 c).map fun l=>(l,bs)
  | none=>none
 | _=>none
theorem we8 {d:Nat} (ho:o.op=.convert S D x) (hdst:o.dst=some d) (hS:P.underlying S=some (.slice e)) (he:P.underlying e=some (.int .u8)) (hD:P.underlying D=some .string)
 {l:List Int} (h:xzq J (opdS Γ I x)=some (l,bs)):yvu Γ P o I J (d::orr x) bs [(d,.one (.dat (.raw (.string (strOfNums l)))))] (frzE J bs):=by
 refine yvu.val hdst (fun E ρ I' J' a w hag hah hI=>?_);have hx:=hI.opd x;rw [hag.opd (fun t ht=>by simp [ht])] at hx;unfold xzq at h;split at h
 case h_2=>cases h
 rename_i hc hxe;split at h
 case h_2=>cases h
 rename_i c bs' hd;obtain ⟨l',hl,he'⟩:=Option.map_eq_some_iff.1 h
 cases he';rw [hxe] at hx
 have hgb:∀ b∈bs,gB J' b=gB J b:=fun b hb=>hah.gB hb
 have hd':=zci hd hgb;obtain ⟨hw1,_,hfz⟩:=Went.frz bs J' hI.inv rfl (xee hd') (fun _=>.inl rfl);have hx0:HRd J' ρ (MX E.Mo ρ J') w (a.eval x) hc:=hx;have hr:=ydg hw1.inv hd' hfz (HRd.mv hw1.mv hx0);rw [<-xei hgb];obtain ⟨⟨ad,cap,hv⟩,hcells⟩:=hr.y9g hl;refine ⟨.string (strOfNums l),w,ρ,?_,hw1,RdC.raw rfl⟩
 have hexec:∀ u,(convert S D (a.eval x)).run P w=.ok u w->(execOp a.eval o).run P w=.ok (.value u) w:=fun u hr=>by
  unfold execOp;rw [ho];simp only [Sem.run_bind,hr,Result.andThen_ok,Sem.run_pure]
 apply hexec;rw [hv]
 rcases hcells with hnil | ⟨b,off,cap',e1,hc⟩
 . have hl0:l=[]:=by simpa using hnil
   subst hl0
   cases ad with
   | none=>rw [run_convert_bytes_nil w S e hS he _ _ D hD];rfl
   | some ad=>
    rw [run_convert_bytes_string w S D e (some ad) _ cap hS he hD,run_bytesToString w ad _ cap [] (by simp [loadCells,loadCellsFrom])];rfl
 . rw [hv] at e1
   cases e1
   exact run_convert_bytes_arg w S e hS he b off l.length _ l rfl (fun i hi=>by
    have:=(hc i (.int .u8 l[i]) (by simp [hi])).2
    rw [this]
    simp [List.getD,hi]) D hD
def za8:SV->Option Bool
 | .one (.dat (.raw (.pointer none)))=>some true
 | .one (.ptr _ _) | .one (.pel _ _ _ _) | .elt _=>some false
 | _=>none
def wig:SV->SV->Bool
 | .one (.ptr b f),.one (.ptr b' f')=>b==b'&&f==f'
 | _,_=>false
def vez (op:BinOp) (x y:SV):Option SV:=match za8 y with
 | some true=>match za8 x with
  | some r=>(eqOf op r).map fun b=>.one (.dat (.raw (.bool b)))
  | none=>none
 | _=>match wig x y with
  | true=>(eqOf op true).map fun b=>.one (.dat (.raw (.bool b)))
  | false=>none
theorem zj0 {t:TypeId} (hT:P.underlying T=some (.pointer t)) (v:Value) (r:Bool) (hv:(r=true/\v=.pointer none)\/(r=false/\∃ a,v=.pointer (some a))) (d:Nat) (w:World):(Op.equalIn (d+1) T v (.pointer none)).run P w=.ok r w:=by
 rcases hv with ⟨rfl,rfl⟩ | ⟨rfl,a,rfl⟩<;>simp [Op.equalIn,voj hT]
theorem zxa {t:TypeId} (hT:P.underlying T=some (.pointer t)) (ht:P.info? t=some j) (a:Addr) (d:Nat) (w:World):(Op.equalIn (d+1) T (.pointer (some a)) (.pointer (some a))).run P w=.ok true w:=by
 simp [Op.equalIn,voj hT,sizeOf,typeInfo,ht,run_sameAddr_same]
theorem xti {op:BinOp} {x y:Option Addr} {r b:Bool} (hb:eqOf op r=some b) (h:∀ d w,(Op.equalIn (d+1) T (.pointer x) (.pointer y)).run P w=.ok r w) (w:World):(binOp op T (.pointer x) (.pointer y)).run P w=.ok (.bool b) w:=by
 unfold eqOf at hb
 split at hb<;>first | (cases hb;done) | skip
 . cases hb;simp only [binOp];simp [Op.equal,Op.maxDepth,h 9999]
 . cases hb;simp only [binOp];simp [Op.equal,Op.maxDepth,h 9999]
theorem xkn {op:BinOp} {U t:TypeId} {d:Nat} (ho:o.op=.binOp op T x y U) (hdst:o.dst=some d) (hT:P.underlying T=some (.pointer t)) (ht:P.info? t=some j) {v:SV}
 (h:vez op (opdS Γ I x) (opdS Γ I y)=some v):yvu Γ P o I J (d::(orr x++orr y)) [] [(d,v)] []:=by
 refine yvu.pure hdst (fun E ρ I' J' a w hag hah hI=>?_);have hx:=hI.opd x;have hy:=hI.opd y;rw [hag.opd (fun t ht=>by simp [ht])] at hx hy
 have nilv:∀{v:Value} {s:SV} {r:Bool},SVR J' ρ (MX E.Mo ρ J') w v s->za8 s=some r->(r=true/\v=.pointer none)\/(r=false/\∃ a,v=.pointer (some a)):=fun {v s r} hv hr=>by
  unfold za8 at hr
  split at hr<;>first | (cases hr;done) | (cases hr;skip)
  . exact .inl ⟨rfl,RdC.zb6 hv⟩
  . exact .inr ⟨rfl,_,hv.2⟩
  . exact .inr ⟨rfl,_,hv.2⟩
  . obtain ⟨b,oo,vs,e,_⟩:=hv;exact .inr ⟨rfl,_,e⟩
 have hexec:∀(ax ay:Option Addr) (b:Bool),a.eval x=.pointer ax->a.eval y=.pointer ay->(binOp op T (.pointer ax) (.pointer ay)).run P w=.ok (.bool b) w->(execOp a.eval o).run P w=.ok (.value (.bool b)) w:=fun ax ay b e1 e2 hr=>by
  have hg:∀ ox oy,(eqGuard op T ox oy (.pointer ax) (.pointer ay)).run P w=.ok () w:=fun ox oy=>by cases op<;>simp [eqGuard]
  unfold execOp;rw [ho];simp only [e1,e2,Sem.run_bind,hg,Result.andThen_ok,hr,Sem.run_pure]
 unfold vez at h;split at h
 . rename_i hny;split at h
   . rename_i r hnx;obtain ⟨b,hb,rfl⟩:=Option.map_eq_some_iff.1 h
     rcases nilv hy hny with ⟨_,e2⟩ | ⟨e,_⟩
     . have hv:=nilv hx hnx
       have hv':∃ ax,a.eval x=.pointer ax:=by rcases hv with ⟨_,e⟩ | ⟨_,ad,e⟩<;>exact ⟨_,e⟩
       obtain ⟨ax,ex⟩:=hv';refine ⟨.bool b,hexec ax none b ex e2 (xti hb (fun d w=>zj0 hT _ r (by rw [<-ex];exact hv) d w) w),RdC.raw rfl⟩
     . cases e
   . cases h
 . split at h
   . rename_i hs;obtain ⟨b,hb,rfl⟩:=Option.map_eq_some_iff.1 h
     have hsv:∃ bb f,opdS Γ I x=.one (.ptr bb f)/\opdS Γ I y=.one (.ptr bb f):=by
      generalize opdS Γ I x=sx at hs;generalize opdS Γ I y=sy at hs;unfold wig at hs;split at hs
      . simp only [Bool.and_eq_true,beq_iff_eq] at hs;obtain ⟨rfl,rfl⟩:=hs;exact ⟨_,_,rfl,rfl⟩
      . cases hs
     obtain ⟨bb,f,e1,e2⟩:=hsv;rw [e1] at hx;rw [e2] at hy;exact ⟨.bool b,hexec _ _ b hx.2 hy.2 (xti hb (fun d w=>zxa hT ht _ d w) w),RdC.raw rfl⟩
   . cases h
def w01 (J:List SB):SV->Option (Nat×Nat×TypeId×Nat)
 | .one (.ptr b off)=>match gB J b with
  | .box hs (some T)=>if off<hs.length then some (b,off,T,hs.length) else none
  | _=>none
 | _=>none
theorem znu {ρ : Nat → Value} {a : Act} {w : World} (hI : RI Γ E ρ I' J' a w) {v : Value} {x : SV} {n:Nat} (h : w01 J x = some (b, off, T, n)) (hb : gB J' b = gB J b) (hx : SVR J' ρ (MX E.Mo ρ J') w v x) :
 x=.one (.ptr b off)/\∃ ad:Addr,v=.pointer (some ad)/\ad.off=off/\off<n/\w.shape? ad.block=some (T,n):=by
 unfold w01 at h;split at h
 . rename_i b' off';split at h
   . rename_i hs T' hg;split at h
     . rename_i hlt
       cases h
       have hg':gB J' b=.box hs (some T):=by rw [hb];exact hg
       obtain ⟨bb,vs,T2,e,hh,hr,hT⟩:=hI.sbr hg' (by simp)
       have hbk:bk (ρ b)=bb:=by rw [e];rfl
       refine ⟨rfl,_,hx.2,rfl,hlt,?_⟩;simp only [hbk];unfold World.shape?;rw [hh,hT T rfl];simp [hr.length]
     . cases h
   . cases h
 . cases h
theorem xnl {t:TypeId} {d n:Nat} (ho:o.op=.convert S D x) (hdst:o.dst=some d) (hS:P.underlying S=some (.pointer t)) (hD:P.underlying D=some .unsafePointer) (ht:P.info? t=some j) (hj:j.size≠0)
 (hb:w01 J (opdS Γ I x)=some (b,off,T,n)):yvu Γ P o I J (d::orr x) [b] [(d,.one (.ptr b off))] []:=by
 refine yvu.pure hdst (fun E ρ I' J' a w hag hah hI=>?_);have hx:=hI.opd x;rw [hag.opd (fun t ht=>by simp [ht])] at hx;obtain ⟨e0,ad,e1,e2,e3,e4⟩:=znu hI hb (hah.gB (by simp)) hx;rw [e0] at hx;have hrun:=Go.Lib.run_to_unsafe (P:=P) w ad hS hD ht hj e4 (by omega);refine ⟨a.eval x,?_,hx⟩;unfold execOp;rw [ho];simp only [e1,Sem.run_bind,hrun,Result.andThen_ok,Sem.run_pure]
theorem y52 {u:TypeId} {d n:Nat} (ho:o.op=.convert S D x) (hdst:o.dst=some d) (hS:P.underlying S=some .unsafePointer) (hD:P.underlying D=some (.pointer u)) (hu:P.info? u=some j)
 (hlies:liesAt P P.depth T (n / P.cellsOf T) off u 1=true) (hb:w01 J (opdS Γ I x)=some (b,off,T,n)):yvu Γ P o I J (d::orr x) [b] [(d,.one (.ptr b off))] []:=by
 refine yvu.pure hdst (fun E ρ I' J' a w hag hah hI=>?_);have hx:=hI.opd x;rw [hag.opd (fun t ht=>by simp [ht])] at hx;obtain ⟨e0,ad,e1,e2,e3,e4⟩:=znu hI hb (hah.gB (by simp)) hx;rw [e0] at hx;have hrun:=Go.Lib.run_from_unsafe (P:=P) w ad hS hD hu e4 (by rw [e2];exact hlies);refine ⟨a.eval x,?_,hx⟩;unfold execOp;rw [ho];simp only [e1,Sem.run_bind,hrun,Result.andThen_ok,Sem.run_pure]
def wp2 (P:Program) (f:FuncId):Bool:=match P.funcs[f]? with
 | some fn=>fn.body.isNone&&fn.name == "internal/abi.NoEscape" &&fn.origin == ""
 | none=>false
theorem vy6:Extern.allNextRows.lookup "internal/abi.NoEscape" = none/\Extern.allNextRows.lookup "" = none/\Extern.allGenericRows.lookup "internal/abi.NoEscape" = none/\Extern.allTypedRows.lookup "internal/abi.NoEscape" = none:=by
 refine ⟨?_,?_,?_,?_⟩<;>kernel_rfl
theorem v2d:Extern.allRows.lookup "internal/abi.NoEscape" = some Extern.AbiNoEscape.same:=by kernel_rfl
theorem v31 (h:wp2 P f=true) (v:Value) (w:World):(callFunc f #[v]).run P w=.ok (.value v) w:=by
 unfold wp2 at h;split at h
 . rename_i fn hf;simp only [Bool.and_eq_true,beq_iff_eq] at h;obtain ⟨⟨hb,hn⟩,ho⟩:=h;obtain ⟨r1,r2,r3,r4⟩:=vy6
   have h1:Extern.findNext fn=none:=by
    unfold Extern.findNext;simp only [hn,ho,r1,r2,Option.map_none];rfl
   have h2:Extern.find fn=some Extern.AbiNoEscape.same:=by
    unfold Extern.find;simp only [hn,ho,r3,r4,v2d,Option.map_none];rfl
   rw [run_callFunc_extern hf (by rw [hn];rfl) hb h1 h2,Go.Lib.run_noEscape];rfl
 . cases h
theorem vxb {d:Nat} (ho:o.op=.call { callee:=.value (.func f),args:=#[x],argTypes:=ts }) (hdst:o.dst=some d) (hf:wp2 P f=true):yvu Γ P o I J (d::orr x) [] [(d,opdS Γ I x)] []:=by
 refine yvu.pure hdst (fun E ρ I' J' a w hag hah hI=>?_);have hx:=hI.opd x;rw [hag.opd (fun t ht=>by simp [ht])] at hx;refine ⟨a.eval x,?_,hx⟩;have hrun:=v31 hf (a.eval x) w;have he:a.eval (.func f)=.func (.func f) #[] #[]:=rfl;unfold execOp;rw [ho];simp [resolve,Deferred.ofValue,he,invoke,hrun]
def usdH:SV->Option SV
 | .one (.sl b 1 0 n)=>if 0<n then some (.one (.pel b 1 0 0)) else none
 | _=>none
theorem xbw {d:Nat} (ho:o.op=.call { callee:=.builtin .unsafeSliceData,args:=#[x],argTypes:=ts }) (hdst:o.dst=some d) {v:SV} (h:usdH (opdS Γ I x)=some v) :
 yvu Γ P o I J (d::orr x) [] [(d,v)] []:=by
 refine yvu.pure hdst (fun E ρ I' J' a w hag hah hI=>?_);have hx:=hI.opd x;rw [hag.opd (fun t ht=>by simp [ht])] at hx;unfold usdH at h;split at h
 . rename_i b n e;split at h
   . rename_i hn
     cases h;rw [e] at hx;obtain ⟨hob,ad,cap,hv,hle,hcap⟩:=hx;obtain ⟨_,had,_⟩:=hcap (by omega);subst had;refine ⟨.pointer (some ⟨bk (ρ b),0*1,none⟩),?_,hob,rfl⟩;rw [x6y ho,show (#[x]:Array Operand).map a.eval=#[a.eval x] from by simp,hv];simp only [builtin,Sem.run_bind,Go.Lib.run_unsafeSliceData_row w ts o.type ⟨bk (ρ b),0*1,none⟩ n cap (by omega)];rfl
   . cases h
 . cases h
def xe1 (P:Program) (t:TypeId):Option TypeId:=match P.underlying t with
 | some (.pointer e)=>some e
 | _=>none
theorem xl2 {t:TypeId} (h:xe1 P t=some e):P.underlying t=some (.pointer e):=by
 unfold xe1 at h;split at h
 . rename_i e' hu;cases h;exact hu
 . cases h
def yua (n:Int):Bool:=decide (0<=n)&&decide (n<256)
def usH (P:Program) (J:List SB) (pt:TypeId) (x y:SV):Option (Nat×List Int):=match x,y with
 | .one (.pel b 1 0 0),.one (.dat (.raw (.int .i64 n)))=>match gB J b with
  | .arr (.ints .u8 l) _ (some e)=>if xe1 P pt=some e/\P.cellsOf e=1/\n=(l.length:Int)/\0<l.length/\l.length<=9223372036854775807/\l.all yua=true then some (b,l) else none
  | _=>none
 | _,_=>none
theorem World.xtb (w:World) (a:Addr) (n k:Nat) (h:k≠a.block):(w.freeze a n).heap[k]? = w.heap[k]?:=by
 unfold World.freeze
 split
 . rfl
 . simp only [Array.getElem?_modify];rw [if_neg (Ne.symm h)]
theorem s_us {pt it:TypeId} {d:Nat} (ho:o.op=.call { callee:=.builtin .unsafeString,args:=#[x,y],argTypes:=#[pt,it] }) (hdst:o.dst=some d) {l:List Int} (h:usH P J pt (opdS Γ I x) (opdS Γ I y)=some (b,l)) :
 yvu Γ P o I J (d::(orr x++orr y)) [b] [(d,.one (.dat (.raw (.string (strOfNums l)))))] [(b,.dead)]:=by
 refine yvu.val hdst (fun E ρ I' J' a w hag hah hI=>?_);have hx:=hI.opd x;have hy:=hI.opd y;rw [hag.opd (fun t ht=>by simp [ht])] at hx hy;unfold usH at h;split at h
 case h_2=>cases h
 rename_i b' n ex ey;split at h
 case h_2=>cases h
 rename_i l' k e hb;split at h
 case isFalse=>cases h
 rename_i hc
 cases h;obtain ⟨hpt,hce,rfl,hl0,h63,hby⟩:=hc;have hpt:=xl2 hpt;rw [ex] at hx;rw [ey] at hy
 have hb':gB J' b=.arr (.ints .u8 l) k (some e):=by rw [hah.gB (by simp)];exact hb
 have hbs:=vil hb' (by simp);obtain ⟨⟨hu,hk⟩,h0 | ⟨bb,vs,q,T2,e1,hh,hr,hT⟩⟩:=hI.sbr hb' (by simp)
 . have h1:=h0.1;simp [Cell.cnt] at h1;rw [h1] at hl0;simp at hl0
 have hbk:bk (ρ b)=bb:=by rw [e1];rfl
 have hT:=hT e rfl;subst hT
 have ev:a.eval x=.pointer (some ⟨bb,0,none⟩):=by rw [hx.2,hbk]
 have ey':a.eval y=.int .i64 (l.length:Int):=RdC.zb6 hy
 have hvs:vs=l.map (Value.int .u8):=xe3 (k:=.u8) hr (by
  have:∀ l:List Int,xdp .u8 (l.map fun n=>Cell.raw (.int .u8 n))=some l:=by
   intro l
   induction l with
   | nil=>rfl
   | cons n l ih=>simp [xdp,ih]
  exact this l)
 have hsh:w.shape? bb=some (T2,(vs++q).length):=by simp [World.shape?,hh]
 have hbyte:∀ n∈l,0<=n/\n<256:=fun n hn=>by
  have:=(List.all_eq_true.1 hby) n hn
  simpa [yua] using this
 have hcell:∀(j:Nat) (u:UInt8),(l.map fun n=>UInt8.ofNat n.toNat)[j]? = some u->w.cell? ((⟨bb,0,none⟩:Addr).add j)=some (.int .u8 u.toNat):=fun j u hj=>by
  rw [v1c,Nat.zero_add];rw [List.getElem?_map] at hj;obtain ⟨n,hn,rfl⟩:=Option.map_eq_some_iff.1 hj;have h2:=hbyte n (List.mem_of_getElem? hn)
  have h3:((UInt8.ofNat n.toNat).toNat:Int)=n:=by
   rw [UInt8.toNat_ofNat']
   have:n.toNat % 2 ^ 8=n.toNat:=Nat.mod_eq_of_lt (by omega)
   rw [this];omega
  rw [h3];exact w02 hh (by rw [hvs,List.getElem?_map,hn];rfl)
 have hrun:=Go.Lib.run_unsafeString_row (P:=P) w pt it o.type T2 hpt hce bb _ hsh (l.map fun n=>UInt8.ofNat n.toNat) (by intro e;simp at e;subst e;simp at hl0) (by simp [hvs]) (by simpa using h63) hcell;simp only [List.length_map] at hrun;have hres:(⟨(l.map fun n=>UInt8.ofNat n.toNat).toArray⟩:ByteArray)=strOfNums l:=rfl;rw [hres] at hrun;have hw1:=Went.kill hI.inv hbs
 have hfz:(w.freeze ⟨bb,0,none⟩ l.length).heap[bb]? = some (.cells (vs++q).toArray T2 (if (0:Nat)==0 then (0,0+l.length) else (min 0 0,max 0 (0+l.length)))):=by
  unfold World.freeze;rw [if_neg (by omega)];simp only [Array.getElem?_modify,if_true];rw [hh];rfl
 have hother:=fun k hk=>World.xtb w ⟨bb,0,none⟩ l.length k hk
 have hsz:(w.freeze ⟨bb,0,none⟩ l.length).heap.size=w.heap.size:=by
  unfold World.freeze;split<;>simp
 have hos:(w.freeze ⟨bb,0,none⟩ l.length).os=w.os/\(w.freeze ⟨bb,0,none⟩ l.length).tape=w.tape/\(w.freeze ⟨bb,0,none⟩ l.length).output=w.output:=by
  unfold World.freeze;split<;>exact ⟨rfl,rfl,rfl⟩
 have hcells:∀ c oo u,w.cell? ⟨c,oo,none⟩=some u->(w.freeze ⟨bb,0,none⟩ l.length).cell? ⟨c,oo,none⟩=some u:=fun c oo u hc=>by
  by_cases e2:c=bb
  . subst e2;unfold World.cell? at hc ⊢;dsimp only at hc ⊢;rw [hh] at hc;rw [hfz];exact hc
  . unfold World.cell? at hc ⊢;dsimp only at hc ⊢;rw [hother c e2];exact hc
 have hkeep:∀ M,ya3 M M w (w.freeze ⟨bb,0,none⟩ l.length):=fun M c oo u h1 h2=>⟨h1,hcells c oo u h2⟩
 have hgrow:Grow w (w.freeze ⟨bb,0,none⟩ l.length):=fun i arr T fz hi=>by
  by_cases e2:i=bb
  . subst e2;rw [hh] at hi;cases hi;exact ⟨_,_,_,hfz,Nat.le_refl _⟩
  . exact ⟨arr,T,fz,by rw [hother i e2];exact hi,Nat.le_refl _⟩
 have hnotown:∀ i z,(J'.set b .dead)[i]? = some z->z.own=true->real (ρ i)->bk (ρ i)≠bb:=fun i z hi hz hri e2=>by
  rcases zr6 hi with ⟨_,rfl⟩ | ⟨hn,hi⟩
  . cases hz
  . exact hn (hI.inv.inj i b z _ hi hbs hz rfl hri (by rw [e1];simp [real]) (by rw [hbk];exact e2))
 have hinv2:HInv Γ E.Mo ρ (J'.set b .dead) (w.freeze ⟨bb,0,none⟩ l.length):=
  ⟨fun c oo hm=>by rw [hsz];exact hw1.inv.bnd c oo hm,fun i z hi=>(hw1.inv.blk i z hi).mv ⟨fun _ h=>h,fun _ _=>rfl,hkeep _,hgrow⟩ (fun ho' hr'=>hother _ (hnotown i z hi ho' hr')),hw1.inv.inj,hw1.inv.sep,hw1.inv.glob.keep (hkeep _)⟩
 have hrb:real (ρ b):=by rw [e1];simp [real]
 refine ⟨_,w.freeze ⟨bb,0,none⟩ l.length,ρ,?_,⟨hw1.ok,hw1.rho,hw1.keep.trans (hkeep _),hgrow,hinv2,by rw [hsz];exact Nat.le_refl _,hos.1,hos.2.1,hos.2.2,fun k _ hk=>hother k (fun e2=>hk ⟨b,_,hbs,rfl,hrb,by rw [hbk];exact e2.symm⟩),fun k hk=>hw1.fresh k hk⟩,RdC.raw rfl⟩;rw [x6y ho,show (#[x,y]:Array Operand).map a.eval=#[a.eval x,a.eval y] from by simp,ev,ey'];simp only [builtin,Sem.run_bind,hrun];rfl
def yk4 (off:Nat) (tf:TI):SV->Option SV
 | .agg hs=>y05 tf (hs.drop off)
 | _=>none
theorem z04 (hok:TIok P T tf) {w:World} {vs:List Value} {hs:List HC} (hr:HRL J ρ M w vs hs) {x:SV} (h:y05 tf (hs.drop off)=some x) :
 ∃ v,(part T vs.toArray off).run P w=.ok v w/\SVR J ρ M w v x:=by
 obtain ⟨_,j,_,_,hj,_,hjs,_,_,_,_,_⟩:=hok.ex;have hr':=hr.drop off;unfold y05 at h;split at h
 . rename_i hm;split at h
   . rename_i hle
     cases h;refine ⟨.agg ((vs.drop off).take tf.size).toArray,?_,_,rfl,hr'.take _⟩;simp [part,hok.z1x hm,xvp hj,hjs,List.extract_eq_take_drop]
   . cases h
 . rename_i hm;split at h
   . rename_i c cs' hcs
     cases h;rw [hcs] at hr'
     cases hv:vs.drop off with
     | nil=>rw [hv] at hr';exact hr'.elim
     | cons v0 vs'=>
      rw [hv] at hr'
      have hg:vs[off]? = some v0:=by
       have:=congrArg (fun l=>l[0]?) hv
       simpa using this
      exact ⟨v0,by simp [part,hok.z1x hm,hg],hr'.1⟩
   . cases h
 . cases h
theorem ytg {ft:TypeId} {f d sz:Nat} {fs:List (Nat×Nat×TypeId)} (ho:o.op=.field T x f) (hdst:o.dst=some d) (hti:mkTI P T=some ti) (hs:ti.sh=.struct fs) (hf:fs[f]? = some (off,sz,ft)) (htf:mkTI P ft=some tf)
 {v:SV} (h:yk4 off tf (opdS Γ I x)=some v):yvu Γ P o I J (d::orr x) [] [(d,v)] []:=by
 refine yvu.pure hdst (fun E ρ I' J' a w hag hah hI=>?_);have hx:=hI.opd x;rw [hag.opd (fun t ht=>by simp [ht])] at hx;obtain ⟨dd,i,z,hd,hi',hz,_,_,_,_,_,hsh⟩:=(vnz hti).ex;obtain ⟨fl,rfl,rfl,_⟩:=zhd (hsh.symm.trans hs);rw [List.getElem?_map] at hf;obtain ⟨fd,hfd,hfe⟩:=Option.map_eq_some_iff.1 hf
 cases hfe
 have hfa:fl[f]? = some fd:=by simpa using hfd
 unfold yk4 at h;split at h
 . rename_i hs' e;rw [e] at hx;obtain ⟨vs,hv,hr⟩:=hx;obtain ⟨u,h1,h2⟩:=z04 (vnz htf) hr h;exact ⟨u,by simp [execOp,ho,Instr.field,asAgg,hv,voj hd,hfa,h1],h2⟩
 . cases h
theorem vog {d n:Nat} {k:IntKind} {ix:Int} (ho:o.op=.index T x y) (hdst:o.dst=some d) {te:TI} (hti:mkTI P T=some ti) (hs:ti.sh=.array n e es) (hte:mkTI P e=some te)
 (hy:opdS Γ I y=.one (.dat (.raw (.int k ix)))) (h0:0<=ix/\ix<n) (hes:es=te.size) {v:SV} (h:yk4 (ix.toNat*es) te (opdS Γ I x)=some v):yvu Γ P o I J (d::(orr x++orr y)) [] [(d,v)] []:=by
 refine yvu.pure hdst (fun E ρ I' J' a w hag hah hI=>?_);have hx:=hI.opd x;have hyr:=hI.opd y;rw [hag.opd (fun t ht=>by simp [ht])] at hx hyr;rw [hy] at hyr;have ey:a.eval y=.int k ix:=RdC.zb6 hyr;obtain ⟨dd,i,z,hd,hi',hz,_,_,_,_,_,hsh⟩:=(vnz hti).ex;obtain ⟨rfl,_⟩:=w3p (hsh.symm.trans hs);have hok:=vnz hte;obtain ⟨_,j,_,_,hj,_,hjs,_,_,_,_,_⟩:=hok.ex;unfold yk4 at h;split at h
 . rename_i hs' ex;rw [ex] at hx;obtain ⟨vs,hv,hr⟩:=hx;obtain ⟨u,h1,h2⟩:=z04 hok hr h;exact ⟨u,by simp [execOp,ho,Instr.index,asIntOf,hv,ey,voj hd,h0.1,h0.2,xvp hj,hjs,<-hes,h1],h2⟩
 . cases h
inductive HO where
 | eff (rd rh:List Nat) (eff:List (Nat×SV)) (heff:List (Nat×SB)) (new:Option SB)
 | callD (f:FuncId) (l:List AV) (rd rh bs:List Nat)
 | callF (p:(Nat->Nat->Prop)->World->Value->Prop) (l:List AV) (rd bs:List Nat)
 | callH (f:FuncId) (l:List SV) (rd:List Nat)
 | mk (f:FuncId) (caps:List AV) (rd bs:List Nat)
 | look (r:Option SV) (zero:SV) (ok:Bool) (rd rh:List Nat)
 | bad
variable {k:TI->HO} {r:HO}
def x40 (P:Program) (t:TypeId) (k:TI->HO):HO:=match mkTI P t with
 | some ti=>k ti
 | none=>.bad
def vO (o:Oper) (rd rh:List Nat):Option SV->HO
 | some x=>match o.dst with
  | some d=>.eff (d::rd) rh [(d,x)] [] none
  | none=>.bad
 | none=>.bad
def nO (o:Oper) (rd rh:List Nat) (x:SV) (heff:List (Nat×SB)) (b:SB):HO:=match o.dst with
 | some d=>.eff (d::rd) rh [(d,x)] heff (some b)
 | none=>.bad
def isNil {α:Type}:List α->Bool
 | []=>true
 | _=>false
def oldR (d nb:Nat):OR->HO
 | .eff rd tk [(d',av)]=>if isNil tk&&d'==d then match av2 nb av with
  | some (x,ob)=>.eff rd [] [(d,x)] [] ob
  | none=>.bad
  else .bad
 | _=>.bad
def oldO (P:Program) (I:List SV) (nb:Nat) (o:Oper):HO:=match o.dst with
 | some d=>if wjz o.op=true/\d<I.length then oldR d nb (opA0 P (I.map vw) o) else .bad
 | none=>.bad
def zrb:SV->SV->Option SV
 | .one (.dat (.raw (.string s))),.one (.dat (.raw (.int _ i)))=>if 0<=i/\i<s.size then some (.one (.dat (.raw (.int .u8 (x41 s i.toNat))))) else none
 | _,_=>none
def intS:SV->Option Int
 | .one (.dat (.raw (.int _ i)))=>some i
 | _=>none
inductive CK where
 | agg
 | ptr
 | other
def ckH:SV->SV->CK
 | .agg _,_=>.agg
 | .one (.ptr _ _),_=>.ptr
 | .one (.pel _ _ _ _),_=>.ptr
 | .elt _,_=>.ptr
 | .one (.dat (.raw (.pointer _))),_=>.ptr
 | _,_=>.other
def yl5:SV->Bool
 | .one (.sl _ _ _ _)=>true
 | _=>false
def xzp:SV->Bool
 | .one (.sl _ _ _ _)=>true
 | .one (.mp _)=>true
 | _=>false
def zm8 (_o:Oper) (ok:Bool) (rd rh:List Nat):Option (Option SV)->Option SV->HO
 | some r,some z=>.look r z ok rd rh
 | _,_=>.bad
def opP (P:Program) (Γ:List (Nat×List Cell)) (I:List SV) (J:List SB) (nb:Nat) (o:Oper):HO:=
 match o.op with
 | .move x=>vO o (orr x) [] (some (opdS Γ I x))
 | .assign x=>vO o (orr x) [] (some (opdS Γ I x))
 | .pick c x y=>match y8q (opdS Γ I c) (opdS Γ I x) (opdS Γ I y) with
  | some v=>vO o (orr c++orr x++orr y) [] (some v)
  | none=>oldO P I nb o
 | .load T x=>x40 P T fun ti=>match seeH J (opdS Γ I x) with
  | some (rh,hs)=>vO o (orr x) rh (y05 ti hs)
  | none=>.bad
 | .store T x y=>match o.dst with
  | none=>x40 P T fun ti=>match ymo (opdS Γ I y) with
   | some us=>if us.length=ti.size then match ztk J ti.size (opdS Γ I x) us with
    | some (b,z)=>.eff (orr x++orr y) [b] [] [(b,z)] none
    | none=>.bad
    else .bad
   | none=>.bad
  | some _=>.bad
 | .fieldAddr S x f=>x40 P S fun ti=>match ti.sh with
  | .struct fs=>match fs[f]? with
   | some (off,_,_)=>vO o (orr x) [] (ywi (opdS Γ I x) off)
   | none=>.bad
  | _=>.bad
 | .indexAddr T x y=>x40 P T fun ti=>match z9d ti.sh (opdS Γ I x) (opdS Γ I y) with
  | some v=>vO o (orr x++orr y) [] (some v)
  | none=>oldO P I nb o
 | .extract x n=>vO o (orr x) [] (w9o (opdS Γ I x) n)
 | .nilCheck x=>if ptrH (opdS Γ I x)=true then vO o (orr x) [] (some (opdS Γ I x)) else .bad
 | .binOp op T x y _=>match ckH (opdS Γ I x) (opdS Γ I y) with
  | .agg=>vO o (orr x++orr y) [] (ynd P T op (opdS Γ I x) (opdS Γ I y))
  | .ptr=>match xe1 P T with
   | some t=>match P.info? t with
    | some _=>vO o (orr x++orr y) [] (vez op (opdS Γ I x) (opdS Γ I y))
    | none=>.bad
   | none=>.bad
  | .other=>oldO P I nb o
 | .unOp _ _ _=>oldO P I nb o
 | .makeSlice _ _ _=>oldO P I nb o
 | .slice T x lo hi mx=>match yl5 (opdS Γ I x) with
  | true=>match mx with
   | none=>x40 P T fun ti=>vO o (orr x++orrO lo++orrO hi) [] (xvr Γ I ti.sh (opdS Γ I x) lo hi)
   | some _=>.bad
  | false=>oldO P I nb o
 | .build T ps=>x40 P T fun ti=>if xjd ti=true/\ti.sh.agg=true then vO o (orrs ps.toList) [] ((xl4 (placeOf ti.sh) (ti.zc.map .dat) (vmp Γ I ps.toList)).map .agg) else .bad
 | .field T x f=>x40 P T fun ti=>match ti.sh with
  | .struct fs=>match fs[f]? with
   | some (off,_,ft)=>x40 P ft fun tf=>vO o (orr x) [] (yk4 off tf (opdS Γ I x))
   | none=>.bad
  | _=>.bad
 | .index T x y=>x40 P T fun ti=>match ti.sh with
  | .array n e es=>x40 P e fun te=>match intS (opdS Γ I y) with
   | some ix=>if (0<=ix/\ix<n)/\es=te.size then vO o (orr x++orr y) [] (yk4 (ix.toNat*es) te (opdS Γ I x)) else .bad
   | none=>.bad
  | .string=>vO o (orr x++orr y) [] (zrb (opdS Γ I x) (opdS Γ I y))
  | _=>.bad
 | .lookup T x y ok=>x40 P T fun ti=>match ti.sh with
  | .map kt et=>x40 P kt fun tk=>match xkx J (opdS Γ I x),keyV (opdS Γ I y) with
   | some (b,es),some k=>if z7b tk.sh k=true then zm8 o ok (v9o o++(orr x++orr y)) [b] (zgw es k) (w2m P et) else .bad
   | _,_=>.bad
  | _=>.bad
 | .mapUpdate T x y z=>match o.dst with
  | none=>x40 P T fun ti=>match ti.sh with
   | .map kt _=>x40 P kt fun tk=>match xkx J (opdS Γ I x),keyV (opdS Γ I y) with
    | some (b,es),some k=>if z7b tk.sh k=true/\yuh (opdS Γ I z)=true then match updM es k (opdS Γ I z) with
     | some es'=>.eff (orr x++orr y++orr z) [b] [] [(b,.map es')] none
     | none=>.bad
     else .bad
    | _,_=>.bad
   | _=>.bad
  | some _=>.bad
 | _=>.bad
def zm7 (P:Program) (Γ:List (Nat×List Cell)) (I:List SV) (J:List SB) (nb:Nat) (o:Oper) (S D:TypeId) (x:Operand):HO:=match P.underlying S,P.underlying D with
 | some (.slice e),some .string=>match P.underlying e with
  | some (.int .u8)=>match xzq J (opdS Γ I x) with
   | some (l,bs)=>match o.dst with
    | some d=>.eff (d::orr x) bs [(d,.one (.dat (.raw (.string (strOfNums l)))))] (frzE J bs) none
    | none=>.bad
   | none=>.bad
  | _=>.bad
 | some (.pointer t),some .unsafePointer=>match P.info? t,w01 J (opdS Γ I x) with
  | some j,some (b,off,_,_)=>if j.size != 0 then vO o (orr x) [b] (some (.one (.ptr b off))) else .bad
  | _,_=>.bad
 | some .unsafePointer,some (.pointer u)=>match P.info? u,w01 J (opdS Γ I x) with
  | some _,some (b,off,T,n)=>if liesAt P P.depth T (n / P.cellsOf T) off u 1 then vO o (orr x) [b] (some (.one (.ptr b off))) else .bad
  | _,_=>.bad
 | _,_=>oldO P I nb o
def zbg (P:Program) (Γ:List (Nat×List Cell)) (I:List SV) (J:List SB) (o:Oper) (x:Operand) (xs:List Operand):HO:=match x with
 | .func f=>if wp2 P f=true then match xs with
  | [y]=>vO o (orr y) [] (some (opdS Γ I y))
  | _=>.bad
  else callG f [] [] []
 | .tmp t=>match gtS I t with
  | .one (.dat (.fnp p))=>match zfh J (wb2 Γ I xs) with
   | some (l,bs)=>.callF p l (v9o o++t::orrL xs) bs
   | none=>.bad
  | _=>match wq8 Γ I J (.tmp t) with
   | some (f,caps,rd,rh)=>callG f caps rd rh
   | none=>.bad
 | _=>.bad
where callG (f:FuncId) (caps:List SV) (rd rh:List Nat):HO:=match zfh J (wb2 Γ I xs++caps) with
 | some (l,bs)=>.callD f l (v9o o++rd++orrL xs) rh bs
 | none=>match vtv (wb2 Γ I xs) with
  | true=>.callH f (wb2 Γ I xs++caps) (v9o o++rd++orrL xs)
  | false=>.bad
def opH (P:Program) (Γ:List (Nat×List Cell)) (lit fn:Bool) (I:List SV) (J:List SB) (nb:Nat) (o:Oper):HO:=
 match o.op with
 | .alloc T=>x40 P T fun ti=>nO o [] [] (.one (.ptr nb 0)) [] (.box (ti.zc.map .dat) (some T))
 | .box T x=>match ymo (opdS Γ I x) with
  | some hs=>nO o (orr x) [] (.one (.ptr nb 0)) [] (.box hs (some T))
  | none=>.bad
 | .buildSlice T n ps=>match n with
  | 0=>oldO P I nb o
  | n + 1 => x40 P T fun ti => match ti.sh with
   | .slice e es _ ik=>x40 P e fun te=>match litH Γ I J es ik te.zc (n+1) ps.toList with
    | some (c,bs)=>match lit with
     | true=>match o.dst with
      | some d=>.eff (d::orrs ps.toList) bs [(d,.one (.dat c))] (frzE J bs) none
      | none=>.bad
     | false=>nO o (orrs ps.toList) bs (.one (.sl nb es 0 (n+1))) (frzE J bs) (.arr c 0 (some e))
    | none=>.bad
   | _=>.bad
 | .makeMap _ none=>nO o [] [] (.one (.mp nb)) [] (.map [])
 | .makeFunc (.func f) fs cs=>match fs.toList with
  | []=>match fn with
   | true=>match zfh J (wb2 Γ I cs.toList),o.dst with
    | some (l,bs),some d=>.mk f l (d::orrL cs.toList) bs
    | _,_=>.bad
   | false=>match vtv (wb2 Γ I cs.toList) with
    | true=>nO o (orrL cs.toList) [] (.one (.fnr nb)) [] (.clo f (wb2 Γ I cs.toList))
    | false=>.bad
  | _=>.bad
 | .convert S D x=>zm7 P Γ I J nb o S D x
 | .call c => match c.callee with
  | .value x=>zbg P Γ I J o x c.args.toList
  | .builtin b=>match b with
   | .len=>match c.args.toList,c.argTypes.toList with
    | [x],[T]=>match xzp (opdS Γ I x) with
     | true=>x40 P T fun ti=>match lenH J ti.sh (opdS Γ I x) with
      | some (rh,n)=>vO o (orr x) rh (some (.one (.dat (.raw (.int .i64 (n:Int))))))
      | none=>.bad
     | false=>oldO P I nb o
    | _,_=>.bad
   | .append=>match c.args.toList,c.argTypes.toList with
    | [x,y],[T,U]=>if T=U then x40 P T fun ti=>match ti.sh with
     | .slice e es eb ik=>appO (opdS Γ I x) (opdS Γ I y) (orr x++orr y) e es eb ik
     | _=>.bad
     else .bad
    | _,_=>.bad
   | .unsafeSliceData=>match c.args.toList with
    | [x]=>vO o (orr x) [] (usdH (opdS Γ I x))
    | _=>.bad
   | .unsafeString=>match c.args.toList,c.argTypes.toList,o.dst with
    | [x,y],[pt,_],some d=>match usH P J pt (opdS Γ I x) (opdS Γ I y) with
     | some (b,l)=>.eff (d::(orr x++orr y)) [b] [(d,.one (.dat (.raw (.string (strOfNums l)))))] [(b,.dead)] none
     | none=>.bad
    | _,_,_=>.bad
   | .max=>oldO P I nb o
   | .min=>oldO P I nb o
   | _=>.bad
  | _=>.bad
 | _=>opP P Γ I J nb o
where appO (x y:SV) (rd:List Nat) (e:TypeId) (es eb:Nat) (ik:Option IntKind):HO:=match dstH J e es ik x,srcH J y with
 | some (ob,c,k,T),some (cy,bs)=>match y5i es eb ik c cy with
  | some c'=>if bs.all (fun i=>ob != some i) then nO o rd (ob.toList++bs) (.one (.sl nb es 0 c'.cnt)) (frzE J bs++ykn ob) (.arr c' k (appT T e)) else .bad
  | none=>.bad
 | _,_=>.bad
theorem zxp {l:List SB} (h:b<J.length):gB (J++l) b=gB J b:=by
 unfold gB;rw [List.getElem?_append_left h]
theorem y8n (h:vfv (gB J b)=true):b<J.length:=by
 rcases Nat.lt_or_ge b J.length with h1 | h1
 . exact h1
 . unfold gB at h;rw [List.getElem?_eq_none h1] at h;cases h
theorem y8i:∀(heff:List (Nat×SB)) (J:List SB) (x:SB),(∀ p∈heff,p.1<J.length)->appL (heff++[(J.length,x)]) (J++[.fresh])=appL heff J++[x]
 | [],J,x,_=>by simp [appL]
 | (i,y)::r,J,x,h=>by
  have hi:i<J.length:=h (i,y) (by simp);simp only [List.cons_append,appL];rw [List.set_append_left _ _ hi]
  have:=y8i r (J.set i y) x (fun p hp=>by rw [List.length_set];exact h p (by simp [hp]))
  rw [List.length_set] at this;exact this
theorem zwm (J:List SB):xvh (J++[.fresh]) J.length=true:=by simp [xvh]
theorem wfn.new {eff:List (Nat×SV)} {x:SB} (h:yvu Γ P o I (J++[.fresh]) rd rh eff (heff++[(J.length,x)])) (hl:∀ p∈heff,p.1<J.length) :
 wfn Γ P o I J (appL eff I) (appL heff J++[x]):=by
 have:=h.px
 rw [y8i heff J x hl] at this;exact this
def Sound (Γ:List (Nat×List Cell)) (P:Program) (o:Oper) (I:List SV) (J:List SB) (nb:Nat) (rd rh:List Nat) (eff:List (Nat×SV)) (heff:List (Nat×SB)):Option SB->Prop
 | none=>yvu Γ P o I J rd rh eff heff
 | some x=>(xvh J nb=true->yvu Γ P o I J rd (nb::rh) eff (heff++[(nb,x)]))/\(nb=J.length->wfn Γ P o I J (appL eff I) (appL heff J++[x]))
def zo5 (Γ:List (Nat×List Cell)) (P:Program) (o:Oper) (I:List SV) (J:List SB) (nb:Nat):HO->Prop
 | .eff rd rh eff heff new=>Sound Γ P o I J nb rd rh eff heff new
 | _=>True
theorem vdb {t:TypeId} (h:∀ ti,mkTI P t=some ti->zo5 Γ P o I J nb (k ti)):zo5 Γ P o I J nb (x40 P t k):=by
 unfold x40
 split
 . rename_i ti hti;exact h ti hti
 . trivial
theorem v1i {x:Option SV} (h:∀ v d,x=some v->o.dst=some d->yvu Γ P o I J (d::rd) rh [(d,v)] []):zo5 Γ P o I J nb (vO o rd rh x):=by
 unfold vO
 split
 . split
   . rename_i d hd;exact h _ d rfl hd
   . trivial
 . trivial
theorem wx8 {x:SV} {b:SB} (h:∀ d J',o.dst=some d->(J'=J\/J'=J++[.fresh])->xvh J' nb=true->yvu Γ P o I J' (d::rd) (nb::rh) [(d,x)] (heff++[(nb,b)]))
 (hl:∀ p∈heff,p.1<J.length):zo5 Γ P o I J nb (nO o rd rh x heff b):=by
 unfold nO
 split
 . rename_i d hd;refine ⟨fun hr=>h d J hd (.inl rfl) hr,fun e=>?_⟩;subst e;exact wfn.new (h d (J++[.fresh]) hd (.inr rfl) (zwm J)) hl
 . trivial
theorem w4r {α:Type} {l:List α} (h:isNil l=true):l=[]:=by cases l<;>first | rfl | cases h
theorem z6e:zo5 Γ P o I J nb (oldO P I nb o):=by
 unfold oldO
 split
 case h_2=>trivial
 rename_i d hd
 split
 case isFalse=>trivial
 rename_i hc;unfold oldR
 split
 case h_2=>trivial
 rename_i rd tk d' av heq
 split
 case isFalse=>trivial
 rename_i hcc;simp only [Bool.and_eq_true,beq_iff_eq] at hcc;obtain ⟨htk,rfl⟩:=hcc;have htk:=w4r htk;subst htk
 split
 case h_2=>trivial
 rename_i x ob h2;have hst:=(za3 heq).1
 cases ob with
 | none=>exact ytu hc.1 hd hst hc.2 h2 rfl
 | some b=>
  refine ⟨fun hr=>ytu hc.1 hd hst hc.2 h2 hr,fun e=>?_⟩;subst e
  have:=ytu (Γ:=Γ) (J:=J++[.fresh]) (nb:=J.length) hc.1 hd hst hc.2 h2 (show wmm (J++[.fresh]) J.length (some b)=true from zwm J)
  exact wfn.new (heff:=[]) this (by simp)
theorem wnt {d:Nat} (ho:o.op=.index T x y) (hdst:o.dst=some d) (hti:mkTI P T=some ti) (hs:ti.sh=.string) {v:SV} (h:zrb (opdS Γ I x) (opdS Γ I y)=some v) :
 yvu Γ P o I J (d::(orr x++orr y)) [] [(d,v)] []:=by
 refine yvu.pure hdst (fun E ρ I' J' a w hag hah hI=>?_);have hx:=hI.opd x;have hy:=hI.opd y;rw [hag.opd (fun t ht=>by simp [ht])] at hx hy;obtain ⟨dd,i,z,hd,_,_,_,_,_,_,_,hsh⟩:=(vnz hti).ex;have hT:=zms (hsh.symm.trans hs);subst hT;unfold zrb at h;split at h
 . rename_i s k ix ex ey;split at h
   . rename_i hi
     cases h;rw [ex] at hx;rw [ey] at hy;have ex:a.eval x=.string s:=RdC.zb6 hx;have ey:a.eval y=.int k ix:=RdC.zb6 hy;refine ⟨_,?_,RdC.raw rfl⟩
     have hsz:ix.toNat<s.size:=by omega
     have hg:s[ix.toNat]? = some s[ix.toNat]:=by simp [hsz]
     have hb:x41 s ix.toNat=(s[ix.toNat]).toNat:=by
      unfold x41
      have:s.data[ix.toNat]? = some s[ix.toNat]:=by
       rw [Array.getElem?_eq_getElem (by simpa using hsz)];rfl
      rw [this];rfl
     rw [hb];simp [execOp,ho,Instr.index,asIntOf,ex,ey,voj hd,hi.1,hg]
   . cases h
 . cases h
theorem y4o {x:SV} {i:Int} (h:intS x=some i):∃ k,x=.one (.dat (.raw (.int k i))):=by
 unfold intS at h;split at h
 . cases h;exact ⟨_,rfl⟩
 . cases h
theorem vhc:zo5 Γ P o I J nb (opP P Γ I J nb o):=by
 unfold opP
 split
 . rename_i x ho;exact v1i (fun v d e hd=>by cases e;exact z4l (.inl ho) hd)
 . rename_i x ho;exact v1i (fun v d e hd=>by cases e;exact z4l (.inr ho) hd)
 . rename_i c x y ho
   split
   . rename_i v hv;exact v1i (fun v' d e hd=>by cases e;exact yjd ho hd hv)
   . exact z6e
 . rename_i T x ho;refine vdb (fun ti hti=>?_)
   split
   . rename_i rh hs hsee;exact v1i (fun v d e hd=>zls ho hd hti hsee e)
   . trivial
 . rename_i T x y ho
   split
   . rename_i hd;refine vdb (fun ti hti=>?_)
     split
     . rename_i us hu
       split
       . rename_i hl
         split
         . rename_i b z hst;exact vxy ho hd hti hu hl hst
         . trivial
       . trivial
     . trivial
   . trivial
 . rename_i S x f ho;refine vdb (fun ti hti=>?_)
   split
   . rename_i fs hs
     split
     . rename_i off sz ft hf;exact v1i (fun v d e hd=>z6f ho hd hti hs hf e)
     . trivial
   . trivial
 . rename_i T x y ho;refine vdb (fun ti hti=>?_)
   split
   . rename_i v hv;exact v1i (fun v' d e hd=>by cases e;exact zh2 ho hd hti hv)
   . exact z6e
 . rename_i x n ho;exact v1i (fun v d e hd=>zyi ho hd e)
 . rename_i x ho
   split
   . rename_i hp;exact v1i (fun v d e hd=>by cases e;exact v0d ho hd hp)
   . trivial
 . rename_i op T x y U ho
   split
   . exact v1i (fun v d e hd=>zza ho hd e)
   . split
     . rename_i t ht
       split
       . rename_i j hj;exact v1i (fun v d e hd=>xkn ho hd (xl2 ht) hj e)
       . trivial
     . trivial
   . exact z6e
 . exact z6e
 . exact z6e
 . rename_i T x lo hi mx ho
   split
   . split
     . exact vdb (fun ti hti=>v1i (fun v d e hd=>ztf ho hd hti e))
     . trivial
   . exact z6e
 . rename_i T ps ho;refine vdb (fun ti hti=>?_)
   split
   . rename_i hc;refine v1i (fun v d e hd=>?_);obtain ⟨hs,hf,rfl⟩:=Option.map_eq_some_iff.1 e;exact w05 (parts:=ps.toList) (by rw [ho]) hd hti hc.1 hc.2 hf
   . trivial
 . rename_i T x f ho;refine vdb (fun ti hti=>?_)
   split
   . rename_i fs hs
     split
     . rename_i off sz ft hf;exact vdb (fun tf htf=>v1i (fun v d e hd=>ytg ho hd hti hs hf htf e))
     . trivial
   . trivial
 . rename_i T x y ho;refine vdb (fun ti hti=>?_)
   split
   . rename_i n e es hs;refine vdb (fun te hte=>?_)
     split
     . rename_i ix hix
       split
       . rename_i hc;obtain ⟨k,hk⟩:=y4o hix;exact v1i (fun v d e hd=>vog ho hd hti hs hte hk hc.1 hc.2 e)
       . trivial
     . trivial
   . rename_i hs;exact v1i (fun v d e hd=>wnt ho hd hti hs e)
   . trivial
 . rename_i T x y ok ho;refine vdb (fun ti hti=>?_)
   split
   . refine vdb (fun tk htk=>?_)
     split
     . split
       . unfold zm8
         split<;>trivial
       . trivial
     . trivial
   . trivial
 . rename_i T x y z ho
   split
   . rename_i hd;refine vdb (fun ti hti=>?_)
     split
     . rename_i kt et hs;refine vdb (fun tk htk=>?_)
       split
       . rename_i b es k hm hk
         split
         . rename_i hc
           split
           . rename_i es' hu;exact zhl (.inl ho) hd hti hs htk hm hk hc.1 hc.2 hu
           . trivial
         . trivial
       . trivial
     . trivial
   . trivial
 . trivial
theorem va9 (h:∀ b∈bs,vfv (gB J b)=true):∀ p∈frzE J bs,p.1<J.length:=fun p hp=>by
 obtain ⟨b,hb,rfl⟩:=List.mem_map.1 hp;exact y8n (h b hb)
theorem w7g {n:Nat} {zc : List Cell} {parts : List (Nat × Operand)} {c : Cell} (h : litH Γ I J es ik zc n parts = some (c, bs)) : ∀ b ∈ bs, vfv (gB J b) = true := by
 unfold litH at h;split at h
 . split at h
   . split at h
     . rename_i cs bs' hd;obtain ⟨c',_,he⟩:=Option.map_eq_some_iff.1 h
       cases he;exact x5z hd
     . cases h
   . cases h
 . cases h
theorem yw4 {xs:Array Operand} (h:xs.toList=[x]):xs=#[x]:=by rw [<-Array.toArray_toList (xs:=xs),h]
theorem z1f {xs:Array Operand} (h:xs.toList=[x,y]):xs=#[x,y]:=by rw [<-Array.toArray_toList (xs:=xs),h]
theorem ww7 {x:TypeId} {xs:Array TypeId} (h:xs.toList=[x]):xs=#[x]:=by rw [<-Array.toArray_toList (xs:=xs),h]
theorem zrd {x y:TypeId} {xs:Array TypeId} (h:xs.toList=[x,y]):xs=#[x,y]:=by rw [<-Array.toArray_toList (xs:=xs),h]
theorem xum {x:SV} {c:Cell} {k:Nat} {T:Option TypeId} (h:dstH J e es ik x=some (some b,c,k,T)):vfv (gB J b)=true:=by
 unfold dstH at h;split at h
 . split at h
   . rename_i hb;split at h
     . cases h;rw [hb];rfl
     . cases h
   . cases h
 . split at h<;>cases h
 . cases h
theorem yfq {x : SV} {ob : Option Nat} {c : Cell} {k : Nat} {T : Option TypeId} (h : dstH J e es ik x = some (ob, c, k, T)) (ha : ∀ b, ob = some b → gB J' b = gB J b) : dstH J' e es ik x = some (ob, c, k, T) := by
 unfold dstH at h ⊢;split at h
 . rename_i b es' n
   have e1:gB J' b=gB J b:=by
    split at h
    . split at h
      . cases h;exact ha b rfl
      . cases h
    . cases h
   simp only [e1];exact h
 . exact h
 . cases h
theorem v8w {x:SV} {c:Cell} (h:srcH J x=some (c,bs)) (ha:∀ b∈bs,gB J' b=gB J b):srcH J' x=some (c,bs):=by
 unfold srcH at h ⊢;split at h
 . exact zci h ha
 . cases h
theorem v41 {x:SV} {c:Cell} (h:srcH J x=some (c,bs)):∀ b∈bs,vfv (gB J b)=true:=by
 unfold srcH at h;split at h
 . exact xee h
 . cases h
theorem vzb (he:J'=J\/J'=J++[.fresh]) (hb:vfv (gB J b)=true):gB J' b=gB J b:=by
 rcases he with rfl | rfl
 . rfl
 . exact zxp (y8n hb)
theorem ykw:zo5 Γ P o I J nb (opH P Γ lit fn I J nb o):=by
 unfold opH
 split
 . rename_i T ho;exact vdb (fun ti hti=>wx8 (fun d J' hd _ hr=>vvs ho hd hti hr) (by simp))
 . rename_i T x ho
   split
   . rename_i hs hcs;exact wx8 (fun d J' hd _ hr=>ww2 ho hd hcs hr) (by simp)
   . trivial
 . rename_i T n ps ho
   split
   . exact z6e
   . rename_i n;refine vdb (fun ti hti=>?_)
     split
     . rename_i e es eb ik hsh;refine vdb (fun te hte=>?_)
       split
       . rename_i c bs hl;have harr:=w7g hl
         split
         . split
           . rename_i d hd;exact xoo (parts:=ps.toList) (by rw [ho]) hd hti hsh hte hl
           . trivial
         . refine wx8 (fun d J' hd he hr=>?_) (va9 harr)
           have hg:∀ b∈bs,gB J' b=gB J b:=fun b hb=>vzb he (harr b hb)
           have:=yt9 (parts:=ps.toList) (nb:=nb) (by rw [ho]) hd hti hsh hte (z0j (I':=I) rfl hl hg) hr
           rw [xei hg] at this;exact this
       . trivial
     . trivial
 . rename_i T ho;exact wx8 (fun d J' hd _ hr=>v8e ho hd hr) (by simp)
 . rename_i f fs cs ho
   split
   . rename_i hfs
     have hfs':fs=#[]:=by rw [<-Array.toArray_toList (xs:=fs),hfs]
     subst hfs'
     split
     . split<;>trivial
     . split
       . rename_i hnt;exact wx8 (fun d J' hd _ hr=>wg7 (xs:=cs.toList) (by rw [ho]) hd hnt hr) (by simp)
       . trivial
   . trivial
 . rename_i S D x ho;unfold zm7
   split
   . rename_i e hS hD
     split
     . rename_i he
       split
       . rename_i l bs hb
         split
         . rename_i d hd;exact we8 ho hd hS he hD hb
         . trivial
       . trivial
     . trivial
   . rename_i t hS hD
     split
     . rename_i j b off T n hj hb
       split
       . rename_i hsz;exact v1i (fun v d e hd=>by cases e;exact xnl ho hd hS hD hj (by simpa using hsz) hb)
       . trivial
     . trivial
   . rename_i u hS hD
     split
     . rename_i j b off T n hj hb
       split
       . rename_i hl;exact v1i (fun v d e hd=>by cases e;exact y52 ho hd hS hD hj hl hb)
       . trivial
     . trivial
   . exact z6e
 . rename_i c ho;obtain ⟨ce,args,ats⟩:=c;dsimp only
   split
   . rename_i x;unfold zbg
     have hG:∀ f caps rd rh,zo5 Γ P o I J nb (zbg.callG Γ I J o args.toList f caps rd rh):=fun f caps rd rh=>by
      unfold zbg.callG
      split
      . trivial
      . split<;>trivial
     split
     . rename_i f
       split
       . rename_i hne
         split
         . rename_i y hy
           have:=yw4 hy
           subst this;exact v1i (fun v d e hd=>by cases e;exact vxb ho hd hne)
         . trivial
       . exact hG _ _ _ _
     . split
       . split<;>trivial
       . split
         . exact hG _ _ _ _
         . trivial
     . trivial
   . rename_i b
     split
     . split
       . rename_i x T hx hT;have h1:=yw4 hx;have h2:=ww7 hT;subst h1;subst h2
         split
         . refine vdb (fun ti hti=>?_)
           split
           . rename_i rh n hl;exact v1i (fun v d e hd=>by cases e;exact yg4 ho hd hti hl)
           . trivial
         . exact z6e
       . trivial
     . split
       . rename_i x y T U hx hT;have h1:=z1f hx;have h2:=zrd hT;subst h1;subst h2
         split
         . rename_i hTU;subst hTU;refine vdb (fun ti hti=>?_)
           split
           . rename_i e es eb ik hsh;unfold opH.appO
             split
             . rename_i ob cc k TT cy bs hD hS
               split
               . rename_i c' hj
                 split
                 . rename_i hob;have harr:=v41 hS
                   have harrD:∀ b,ob=some b->vfv (gB J b)=true:=fun b e1=>by subst e1;exact xum hD
                   refine wx8 (fun d J' hd he hr=>?_) (fun p hp=>?_)
                   . have hg:∀ b∈bs,gB J' b=gB J b:=fun b hb=>vzb he (harr b hb)
                     have hA:yhf J' nb e es eb ik (opdS Γ I x) (opdS Γ I y)=some (ob.toList++bs,frzE J' bs++(ykn ob++[(nb,.arr c' k (appT TT e))]),.one (.sl nb es 0 c'.cnt)):=by
                      unfold yhf;rw [yfq hD (fun b e1=>vzb he (harrD b e1)),v8w hS hg];simp only [hj,hob,if_true]
                     have:=yaw ho hd hti hsh hA hr
                     rw [xei hg,<-List.append_assoc] at this;exact this
                   . rcases List.mem_append.1 hp with hp | hp
                     . exact va9 harr p hp
                     . cases ob with
                       | none=>cases hp
                       | some b=>
                        simp only [ykn,List.mem_singleton] at hp;subst hp;exact y8n (harrD b rfl)
                 . trivial
               . trivial
             . trivial
           . trivial
         . trivial
       . trivial
     . split
       . rename_i x hx;have h1:=yw4 hx;subst h1;exact v1i (fun v d e hd=>xbw ho hd e)
       . trivial
     . split
       . rename_i x y pt it d hx hT hd;have h1:=z1f hx;have h2:=zrd hT;subst h1;subst h2
         split
         . rename_i b l hu;exact s_us ho hd hu
         . trivial
       . trivial
     . exact z6e
     . exact z6e
     . trivial
   . trivial
 . exact vhc
def HO.flat:HO->Prop
 | .eff _ _ _ _ _=>True
 | .bad=>True
 | _=>False
theorem w8v {t:TypeId} (h:∀ ti,(k ti).flat):(x40 P t k).flat:=by
 unfold x40
 split
 . exact h _
 . trivial
theorem wru {x:Option SV}:(vO o rd rh x).flat:=by
 unfold vO
 repeat' split
 all_goals trivial
theorem zic {x:SV} {b:SB}:(nO o rd rh x heff b).flat:=by
 unfold nO
 split<;>trivial
theorem xoc:(oldO P I nb o).flat:=by
 unfold oldO oldR
 repeat' split
 all_goals trivial
theorem xj6:(zm7 P Γ I J nb o S D x).flat:=by
 unfold zm7
 repeat' split
 all_goals first | trivial | exact wru | exact xoc
theorem yu0 {x y:SV} {eb:Nat}:(opH.appO J nb o x y rd e es eb ik).flat:=by
 unfold opH.appO
 repeat' split
 all_goals first | trivial | exact zic
theorem y8r {t:TypeId} (hr:r≠.bad) (h:x40 P t k=r):∃ ti,mkTI P t=some ti/\k ti=r:=by
 unfold x40 at h;split at h
 . rename_i ti hti;exact ⟨ti,hti,h⟩
 . exact absurd h.symm hr
theorem w5r {ok:Bool} (ho:o.op=.lookup T x y ok) (h:opP P Γ I J nb o=r) (hr:r≠.bad) :
 ∃ ti kt et tk b es k r0 z,mkTI P T=some ti/\ti.sh=.map kt et/\mkTI P kt=some tk/\xkx J (opdS Γ I x)=some (b,es)/\keyV (opdS Γ I y)=some k/\z7b tk.sh k=true/\zgw es k=some r0/\w2m P et=some z/\r=.look r0 z ok (v9o o++(orr x++orr y)) [b]:=by
 unfold opP at h;rw [ho] at h;dsimp only at h;obtain ⟨ti,hti,h⟩:=y8r hr h;split at h
 case h_2=>exact absurd h.symm hr
 rename_i kt et hs;obtain ⟨tk,htk,h⟩:=y8r hr h;split at h
 case h_2=>exact absurd h.symm hr
 rename_i b es k hm hk;split at h
 case isFalse=>exact absurd h.symm hr
 rename_i hko;unfold zm8 at h;split at h
 case h_2=>exact absurd h.symm hr
 rename_i r' z' hf hz;exact ⟨ti,kt,et,tk,b,es,k,r',z',hti,hs,htk,hm,hk,hko,hf,hz,h.symm⟩
theorem wx5 (h:∀ T x y ok,o.op≠.lookup T x y ok):(opP P Γ I J nb o).flat:=by
 unfold opP
 split
 all_goals first
  | trivial
  | exact wru
  | exact xoc
  | (rename_i heq;exact absurd heq (h _ _ _ _))
  | skip
 all_goals
  repeat' first
   | trivial
   | exact wru
   | exact xoc
   | refine w8v (fun ti=>?_)
   | split
theorem zm2 (h1:∀ T x y ok,o.op≠.lookup T x y ok) (h2:∀ f fs cs,o.op≠.makeFunc f fs cs) (h3:∀ x xs ts,o.op≠.call { callee:=.value x,args:=xs,argTypes:=ts }):(opH P Γ lit fn I J nb o).flat:=by
 unfold opH
 split
 . exact w8v (fun _=>zic)
 . split
   . exact zic
   . trivial
 . split
   . exact xoc
   . refine w8v (fun ti=>?_)
     split
     . refine w8v (fun te=>?_)
       repeat' split
       all_goals first | trivial | exact zic
     . trivial
 . exact zic
 . rename_i heq;exact absurd heq (h2 _ _ _)
 . exact xj6
 . rename_i c ho;obtain ⟨ce,args,ats⟩:=c;dsimp only
   split
   . exact absurd ho (h3 _ _ _)
   . split
     . split
       . split
         . refine w8v (fun ti=>?_)
           split
           . exact wru
           . trivial
         . exact xoc
       . trivial
     . split
       . split
         . refine w8v (fun ti=>?_)
           split
           . exact yu0
           . trivial
         . trivial
       . trivial
     . split
       . exact wru
       . trivial
     . repeat' split
       all_goals trivial
     . exact xoc
     . exact xoc
     . trivial
   . trivial
 . exact wx5 h1
theorem x5a {xs:Array Operand} (ho:o.op=.call { callee:=.value x,args:=xs,argTypes:=ts }):opH P Γ lit fn I J nb o=zbg P Γ I J o x xs.toList:=by
 unfold opH;rw [ho]
theorem vz0 (h:opH P Γ lit fn I J nb o=r) (hr:(∃ f l rd rh bs,r=.callD f l rd rh bs)\/(∃ p l rd bs,r=.callF p l rd bs)\/(∃ f l rd,r=.callH f l rd)) :
 ∃ x xs ts,o.op=.call { callee:=.value x,args:=xs,argTypes:=ts }:=by
 apply Classical.byContradiction;intro hn
 have h3:∀ x xs ts,o.op≠.call { callee:=.value x,args:=xs,argTypes:=ts }:=fun x xs ts e=>hn ⟨x,xs,ts,e⟩
 by_cases h1:∀ T x y ok,o.op≠.lookup T x y ok
 . by_cases h2:∀ f fs cs,o.op≠.makeFunc f fs cs
   . have:=zm2 (P:=P) (Γ:=Γ) (lit:=lit) (fn:=fn) (I:=I) (J:=J) (nb:=nb) h1 h2 h3
     rw [h] at this
     rcases hr with ⟨_,_,_,_,_,rfl⟩ | ⟨_,_,_,_,rfl⟩ | ⟨_,_,_,rfl⟩<;>exact this
   . obtain ⟨f,hf⟩:=Classical.not_forall.1 h2;obtain ⟨fs,hf⟩:=Classical.not_forall.1 hf;obtain ⟨cs,hf⟩:=Classical.not_forall.1 hf;have ho:=Classical.not_not.1 hf
     have hno:∀ r,((∃ f l rd rh bs,r=HO.callD f l rd rh bs)\/(∃ p l rd bs,r=HO.callF p l rd bs)\/(∃ f l rd,r=HO.callH f l rd))->opH P Γ lit fn I J nb o≠r:=fun r hr e=>by
      unfold opH at e;rw [ho] at e
      cases f with
      | func f=>
       dsimp only at e;split at e
       . split at e
         . split at e
           . subst e;rcases hr with ⟨_,_,_,_,_,e⟩ | ⟨_,_,_,_,e⟩ | ⟨_,_,_,e⟩<;>cases e
           . subst e;rcases hr with ⟨_,_,_,_,_,e⟩ | ⟨_,_,_,_,e⟩ | ⟨_,_,_,e⟩<;>cases e
         . split at e
           . have:=zic (o:=o) (rd:=orrL cs.toList) (rh:=[]) (x:=.one (.fnr nb)) (heff:=[]) (b:=.clo f (wb2 Γ I cs.toList))
             rw [e] at this
             rcases hr with ⟨_,_,_,_,_,rfl⟩ | ⟨_,_,_,_,rfl⟩ | ⟨_,_,_,rfl⟩<;>exact this
           . subst e;rcases hr with ⟨_,_,_,_,_,e⟩ | ⟨_,_,_,_,e⟩ | ⟨_,_,_,e⟩<;>cases e
       . subst e;rcases hr with ⟨_,_,_,_,_,e⟩ | ⟨_,_,_,_,e⟩ | ⟨_,_,_,e⟩<;>cases e
      | _=>
       dsimp only at e;unfold opP at e;rw [ho] at e;dsimp only at e;subst e
       rcases hr with ⟨_,_,_,_,_,e⟩ | ⟨_,_,_,_,e⟩ | ⟨_,_,_,e⟩<;>cases e
     exact hno r hr h
 . obtain ⟨T,hf⟩:=Classical.not_forall.1 h1;obtain ⟨x,hf⟩:=Classical.not_forall.1 hf;obtain ⟨y,hf⟩:=Classical.not_forall.1 hf;obtain ⟨ok,hf⟩:=Classical.not_forall.1 hf;have ho:=Classical.not_not.1 hf;unfold opH at h;rw [ho] at h;dsimp only at h
   have hnb:r≠.bad:=fun e=>by
    subst e;rcases hr with ⟨_,_,_,_,_,e⟩ | ⟨_,_,_,_,e⟩ | ⟨_,_,_,e⟩<;>cases e
   obtain ⟨_,_,_,_,_,_,_,_,_,_,_,_,_,_,_,_,_,rfl⟩:=w5r ho h hnb
   rcases hr with ⟨_,_,_,_,_,e⟩ | ⟨_,_,_,_,e⟩ | ⟨_,_,_,e⟩<;>cases e
theorem xoy {eff:List (Nat×SV)} (hl:∀ p∈heff,p.1<J.length)
 (h:∀ J',(J'=J\/J'=J++[.fresh])->wmm J' nb ob=true->yvu Γ P o I J' rd (oN nb ob++rh) eff (heff++oB nb ob)):Sound Γ P o I J nb rd rh eff heff ob:=by
 cases ob with
 | none=>
  have:=h J (.inl rfl) rfl
  simp only [oN,oB,List.nil_append,List.append_nil] at this;exact this
 | some b=>
  refine ⟨fun hr=>h J (.inl rfl) hr,fun e=>?_⟩;subst e;exact wfn.new (h (J++[.fresh]) (.inr rfl) (show wmm (J++[.fresh]) J.length (some b)=true from zwm J)) hl
theorem y02 (h : wq8 Γ I J x = some (f, caps, rd, rh)) : ∀ b ∈ rh, b < J.length := by
 unfold wq8 at h;split at h
 . cases h;intro b hb;cases hb
 . split at h
   . obtain ⟨f0,_,e⟩:=Option.map_eq_some_iff.1 h;cases e;intro b hb;cases hb
   . split at h
     . rename_i hgb
       cases h;intro b hb;simp only [List.mem_singleton] at hb;subst hb;exact (List.getElem?_eq_some_iff.1 (vil hgb (by simp))).1
     . cases h
   . cases h
 . cases h
theorem yr2 (h:opH P Γ lit fn I J nb o=.callD f l rd rh bs) (hc:CallsD Γ P f l res) {y:SV} (hr:resS nb res=some (y,ob)) :
 Sound Γ P o I J nb rd (rh++bs) (ylm o y) (frzE J bs) ob:=by
 obtain ⟨x,xs,ts,ho⟩:=vz0 h (.inl ⟨_,_,_,_,_,rfl⟩);rw [x5a ho] at h
 have ho':o.op=.call { callee:=.value x,args:=xs.toList.toArray,argTypes:=ts }:=by rw [ho]
 have hG:∀{f':FuncId} {caps:List SV} {rd' rh':List Nat},wq8 Γ I J x=some (f',caps,rd',rh')->(∀ b∈rh',b<J.length)->zbg.callG Γ I J o xs.toList f' caps rd' rh'=.callD f l rd rh bs->Sound Γ P o I J nb rd (rh++bs) (ylm o y) (frzE J bs) ob:=fun {f' caps rd' rh'} hcal hlt hg=>by
  unfold zbg.callG at hg;split at hg
  . rename_i l' bs' ha
    cases hg;have harr:=vw0 ha;refine xoy (va9 harr) (fun J' he hroom=>?_)
    have hgb:∀ b∈bs,gB J' b=gB J b:=fun b hb=>vzb he (harr b hb)
    have hcal':=wro (I':=I) (J':=J') hcal (fun _ _=>rfl) (fun b hb=>by
     rcases he with rfl | rfl
     . rfl
     . exact zxp (hlt b hb))
    have:=w00 (J:=J') ho' hcal' (xkj ha hgb) hc hr hroom
    rw [xei hgb,List.append_assoc (oN nb ob)] at this;exact this
  . split at hg<;>cases hg
 unfold zbg at h;split at h
 . split at h
   . split at h
     . unfold vO at h;repeat' split at h
       all_goals cases h
     . cases h
   . exact hG rfl (by simp) h
 . rename_i t;split at h
   . split at h<;>cases h
   . split at h
     . rename_i f' caps rd' rh' hcal;exact hG hcal (y02 hcal) h
     . cases h
 . cases h
theorem xbd (h:opH P Γ lit fn I J nb o=.callF (wrb Γ P F) l rd bs) (hc:F l res) {y:SV} (hr:resS nb res=some (y,ob)) :
 Sound Γ P o I J nb rd bs (ylm o y) (frzE J bs) ob:=by
 obtain ⟨x,xs,ts,ho⟩:=vz0 h (.inr (.inl ⟨_,_,_,_,rfl⟩));rw [x5a ho] at h
 have ho':o.op=.call { callee:=.value x,args:=xs.toList.toArray,argTypes:=ts }:=by rw [ho]
 have hno:∀{f':FuncId} {caps:List SV} {rd' rh':List Nat},zbg.callG Γ I J o xs.toList f' caps rd' rh'≠.callF (wrb Γ P F) l rd bs:=fun {f' caps rd' rh'} hg=>by
  unfold zbg.callG at hg;split at hg
  . cases hg
  . split at hg<;>cases hg
 unfold zbg at h;split at h
 . split at h
   . split at h
     . unfold vO at h;repeat' split at h
       all_goals cases h
     . cases h
   . exact absurd h hno
 . rename_i t;split at h
   . rename_i p ht;split at h
     . rename_i l' bs' ha
       cases h;have harr:=vw0 ha;refine xoy (va9 harr) (fun J' he hroom=>?_)
       have hgb:∀ b∈bs,gB J' b=gB J b:=fun b hb=>vzb he (harr b hb)
       have:=xj2 (J:=J') ho' ht (xkj ha hgb) hc hr hroom
       rw [xei hgb] at this;exact this
     . cases h
   . split at h
     . exact absurd h hno
     . cases h
 . cases h
theorem xod {l:List SV} (h:opH P Γ lit fn I J nb o=.callH f l rd) {res:SV} (hc:vfe Γ P f J l J' res) :
 wfn Γ P o I J (appL (ylm o res) I) J'/\(∀ heff,J'=appL heff J->yvu Γ P o I J rd (List.range J.length) (ylm o res) heff):=by
 obtain ⟨x,xs,ts,ho⟩:=vz0 h (.inr (.inr ⟨_,_,_,rfl⟩));rw [x5a ho] at h
 have ho':o.op=.call { callee:=.value x,args:=xs.toList.toArray,argTypes:=ts }:=by rw [ho]
 have hG:∀{f':FuncId} {caps:List SV} {rd' rh':List Nat},wq8 Γ I J x=some (f',caps,rd',rh')->zbg.callG Γ I J o xs.toList f' caps rd' rh'=.callH f l rd->wfn Γ P o I J (appL (ylm o res) I) J'/\(∀ heff,J'=appL heff J->yvu Γ P o I J rd (List.range J.length) (ylm o res) heff):=fun {f' caps rd' rh'} hcal hg=>by
  unfold zbg.callG at hg;split at hg
  . cases hg
  . split at hg
    . rename_i hnt
      cases hg;exact ⟨wtf ho' hcal hnt hc,fun heff e=>by subst e;exact w4n ho' hcal hnt hc⟩
    . cases hg
 unfold zbg at h;split at h
 . split at h
   . split at h
     . unfold vO at h;repeat' split at h
       all_goals cases h
     . cases h
   . exact hG rfl h
 . rename_i t;split at h
   . split at h<;>cases h
   . split at h
     . rename_i f' caps rd' rh' hcal;exact hG hcal h
     . cases h
 . cases h
theorem ya0 {caps : List AV} (h : opH P Γ lit fn I J nb o = .mk f caps rd bs) {F : List AV → AV → Prop} (v6l : wuj P f) (hF : ∀ args res, F args res → CallsD Γ P f (args ++ caps) res) :
 yvu Γ P o I J rd bs (ylm o (.one (.dat (.fnp (wrb Γ P F))))) (frzE J bs):=by
 by_cases hm:∃ g cs,o.op=.makeFunc (.func g) #[] cs
 . obtain ⟨g,cs,ho⟩:=hm;unfold opH at h;rw [ho] at h;dsimp only at h;split at h
   . split at h
     . rename_i l' bs' d ha hd
       cases h
       have:=vse (J:=J) (I:=I) (o:=o) (xs:=cs.toList) (by rw [ho]) hd ha v6l hF
       unfold ylm;rw [hd];exact this
     . cases h
   . split at h
     . exfalso
       have:=zic (o:=o) (rd:=orrL cs.toList) (rh:=[]) (x:=.one (.fnr nb)) (heff:=[]) (b:=.clo g (wb2 Γ I cs.toList))
       rw [h] at this;exact this
     . cases h
 . exfalso;by_cases hl:∃ T x y ok,o.op=.lookup T x y ok
   . obtain ⟨T,x,y,ok,ho⟩:=hl;unfold opH at h;rw [ho] at h;dsimp only at h;obtain ⟨_,_,_,_,_,_,_,_,_,_,_,_,_,_,_,_,_,e⟩:=w5r ho h (by simp)
     cases e
   . by_cases hc:∃ x xs ts,o.op=.call { callee:=.value x,args:=xs,argTypes:=ts }
     . obtain ⟨x,xs,ts,ho⟩:=hc;rw [x5a ho] at h;unfold zbg zbg.callG vO at h
       repeat' split at h
       all_goals cases h
     . by_cases hmf:∃ f fs cs,o.op=.makeFunc f fs cs
       . obtain ⟨g,fs,cs,ho⟩:=hmf;unfold opH at h;rw [ho] at h
         cases g with
         | func g=>
          dsimp only at h;split at h
          . rename_i hfs;exact hm ⟨g,cs,by rw [ho,show fs=#[] by rw [<-Array.toArray_toList (xs:=fs),hfs]]⟩
          . cases h
         | _=>
          dsimp only at h;unfold opP at h;rw [ho] at h
          cases h
       . have:=zm2 (P:=P) (Γ:=Γ) (lit:=lit) (fn:=fn) (I:=I) (J:=J) (nb:=nb) (o:=o) (fun T x y ok e=>hl ⟨T,x,y,ok,e⟩) (fun f fs cs e=>hmf ⟨f,fs,cs,e⟩) (fun x xs ts e=>hc ⟨x,xs,ts,e⟩)
         rw [h] at this;exact this
theorem vio {r:Option SV} {zero:SV} {ok:Bool} (h:opH P Γ lit fn I J nb o=.look r zero ok rd rh):yvu Γ P o I J rd rh (ylm o (wog ok r zero)) []\/o.dst=none:=by
 by_cases hl:∃ T x y ok,o.op=.lookup T x y ok
 . obtain ⟨T,x,y,ok',ho⟩:=hl;unfold opH at h;rw [ho] at h;dsimp only at h;obtain ⟨ti,kt,et,tk,b,es,k,r',z',hti,hs,htk,hm,hk,hko,hf,hz,e⟩:=w5r ho h (by simp)
   cases e
   cases hd:o.dst with
   | none=>exact .inr rfl
   | some d=>
    left
    have:=wi0 (J:=J) (I:=I) ho hd hti hs htk hm hk hko hf hz
    unfold ylm v9o;rw [hd];exact this
 . exfalso;by_cases hc:∃ x xs ts,o.op=.call { callee:=.value x,args:=xs,argTypes:=ts }
   . obtain ⟨x,xs,ts,ho⟩:=hc;rw [x5a ho] at h;unfold zbg zbg.callG vO at h
     repeat' split at h
     all_goals cases h
   . by_cases hmf:∃ f fs cs,o.op=.makeFunc f fs cs
     . obtain ⟨g,fs,cs,ho⟩:=hmf;unfold opH at h;rw [ho] at h
       cases g with
       | func g=>
        dsimp only at h;unfold nO at h
        repeat' split at h
        all_goals cases h
       | _=>
        dsimp only at h;unfold opP at h;rw [ho] at h
        cases h
     . have:=zm2 (P:=P) (Γ:=Γ) (lit:=lit) (fn:=fn) (I:=I) (J:=J) (nb:=nb) (o:=o) (fun T x y ok e=>hl ⟨T,x,y,ok,e⟩) (fun f fs cs e=>hmf ⟨f,fs,cs,e⟩) (fun x xs ts e=>hc ⟨x,xs,ts,e⟩)
       rw [h] at this;exact this
end Go.Hp
