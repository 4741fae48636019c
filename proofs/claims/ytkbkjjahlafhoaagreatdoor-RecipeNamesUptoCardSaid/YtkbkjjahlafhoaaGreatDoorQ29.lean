/- The proof, part Q29: Iv, Iw, 6g. -/
import Derived.Test.YtkbkjjahlafhoaaGreatDoorQ12
import Derived.Test.YtkbkjjahlafhoaaGreatDoorQ15
import Derived.Test.YtkbkjjahlafhoaaGreatDoorQ17
import Derived.Test.YtkbkjjahlafhoaaGreatDoorQ27
import Derived.Test.YtkbkjjahlafhoaaGreatDoorQ28
namespace Go.Hp
open Go Go.RowKit Go.Slot
variable {P:Program} {Γ:List (Nat×List Cell)}
variable {o:Oper} {J vs σ0:List SV} {η:List SB} {T kt et:TypeId} {x:Operand} {b j id i:Nat} {es:List (Value×SV)} {kl:List Value} {ops:Array Oper} {Q:Exit->Act->World->Prop} {a:Act} {w:World} {ts:List Nat} {L:Nat->Bool}
def insM:List (Value×SV)->Value->SV->Option (SV×Nat×List (Value×SV))
 | [],k,z=>some (z,0,[(k,z)])
 | (k',x)::r,k,z=>match kEq k k' with
  | some true=>some (x,0,(k,x)::r)
  | some false=>(insM r k z).map fun p=>(p.1,p.2.1+1,(k',x)::p.2.2)
  | none=>none
section
variable {η:List SB} {ρ:Nat->Value} {M:Nat->Nat->Prop} {w:World}
theorem z07 {kt:TypeId} {k:List Value} (hk:keyT P kt k=true) (w':World) {z:SV} (clk:Nat):∀{es:List MapEntry} {l:List (Value×SV)} {x:SV} {j:Nat} {l':List (Value×SV)} (i:Nat),EnR η ρ M w es l->insM l (.agg k.toArray) z=some (x,j,l')->
 ((Instr.findAsking kt (.agg k.toArray) es i).run P w'=.ok none w'/\x=z/\j=es.length/\∀ zv,SVR0 η ρ M w zv z->EnR η ρ M w (es++[{ key:=.agg k.toArray,val:=zv,born:=clk }]) l')\/
 ∃ v e,(Instr.findAsking kt (.agg k.toArray) es i).run P w'=.ok (some (i+j,v)) w'/\es[j]? = some e/\SVR0 η ρ M w v x/\kEq (.agg k.toArray) e.key=some true/\EnR η ρ M w (es.modify j fun e=>{ e with key:=.agg k.toArray }) l'
 | [],[],x,j,l',i,_,h=>by cases h;exact .inl ⟨rfl,rfl,rfl,fun zv hz=>⟨⟨rfl,hz⟩,trivial⟩⟩
 | e::es,(k',y)::l,x,j,l',i,hr,h=>by
  simp only [insM] at h;have hk1:e.key=k':=hr.1.1;rw [<-hk1] at h;unfold Instr.findAsking;split at h
  . rename_i he
    cases h;obtain ⟨l',e1,e2⟩:=y0s he;refine .inr ⟨e.val,e,?_,rfl,hr.1.2,he,⟨⟨rfl,hr.1.2⟩,hr.2⟩⟩;rw [e1];simp only [Sem.run_bind,vjy hk e2,Result.andThen_ok,if_true,Sem.run_pure,Nat.add_zero]
  . rename_i he;obtain ⟨⟨x2,j2,l2⟩,h2,h3⟩:=Option.map_eq_some_iff.1 h;simp only [Prod.mk.injEq] at h3;obtain ⟨rfl,rfl,rfl⟩:=h3;obtain ⟨l',e1,e2⟩:=y0s he;rw [e1];simp only [Sem.run_bind,vjy hk e2,Result.andThen_ok,Bool.false_eq_true,if_false]
    rcases z07 hk w' clk (i+1) hr.2 h2 with ⟨h3,h4,h5,h6⟩ | ⟨v,e',h3,h4,h5,h6,h7⟩
    . exact .inl ⟨h3,h4,by rw [h5,List.length_cons],fun zv hz=>⟨⟨e1,hr.1.2⟩,h6 zv hz⟩⟩
    . exact .inr ⟨v,e',by rw [show i+(j2+1)=i+1+j2 by omega];exact h3,by simpa using h4,h5,h6,⟨⟨e1,hr.1.2⟩,h7⟩⟩
  . cases h
theorem EnR.set {x:SV} {v:Value} (hv:SVR0 η ρ M w v x):∀{es:List MapEntry} {l:List (Value×SV)} (j:Nat),EnR η ρ M w es l->EnR η ρ M w (es.modify j fun e=>{ e with val:=v }) (l.modify j fun p=>(p.1,x))
 | [],[],j,_=>by cases j<;>trivial
 | _::_,_::_,0,h=>⟨⟨h.1.1,hv⟩,h.2⟩
 | _::_,_::_,j+1,h=>⟨h.1,EnR.set hv j h.2⟩
theorem EnR.len:∀{es:List MapEntry} {l:List (Value×SV)},EnR η ρ M w es l->es.length=l.length
 | [],[],_=>rfl
 | _::_,_::_,h=>by rw [List.length_cons,List.length_cons,EnR.len h.2]
end
theorem wr7 {y:Operand} {d:Nat} (ho:o.op=.mapEntry T x y) (hdst:o.dst=some d) {ti:TI} (hti:mkTI P T=some ti) (hsh:ti.sh=.map kt et)
 {es':List (Value×SV)} (hm:wox η (opdS Γ J x)=some (b,es)) (hkv:keyX (opdS Γ J y)=some (.agg kl.toArray)) (hkt:keyT P kt kl=true) {zero v:SV} (hz:zxg P et=some zero) (hnt:y5y v=true) (hu:insM es (.agg kl.toArray) zero=some (v,j,es')) :
 x6g Γ P o J η (d::(orr x++orr y)) [b] [(d,.tup [v,.one (.dat (.raw (.int .i64 j)))])] [(b,.map es')]:=by
 refine x6g.val hdst (fun E ρ J' η' a w hag hah hI=>?_);have hx:=hI.opd x;have hy:=hI.opd y;rw [hag.opd (fun t ht=>by simp [ht])] at hx hy;unfold wox at hm;split at hm
 case h_2=>cases hm
 rename_i b' hxe;split at hm
 case h_2=>cases hm
 rename_i es0 hb
 cases hm;rw [hxe] at hx
 have hb':gB η' b=.map es:=by rw [hah.gB (by simp)];exact hb
 obtain ⟨bb,ents,clk,he,hh,hen,hB⟩:=hI.sbr hb' (by simp);have hkey:=v1k hkv hy;obtain ⟨dd,i,zz,hd,hi,hz',_,_,_,_,_,hsh'⟩:=(xat hti).ex;have hmap:=ywi (hsh'.symm.trans hsh);subst hmap
 have hmv:a.eval x=.map (some bb):=by rw [hx.2.1,he]
 obtain ⟨zv,hzrun,hzr⟩:=wtb hz;have hck:=vxd hkt false 9998 w
 have hbk:bk (ρ b)=bb:=by rw [he];rfl
 have hlt:bb<w.heap.size:=(Array.getElem?_eq_some_iff.1 hh).1;have fin:∀(en':Array MapEntry) (clk':Nat) (u:Value),EnR η' ρ (MX E.Mo ρ η') w en'.toList es'->z5q en' clk'->SVR0 η' ρ (MX E.Mo ρ η') w u v->(Instr.mapEntry T (.map (some bb)) (.agg kl.toArray)).run P w=.ok (.tuple #[u,goInt j]) { w with heap:=w.heap.setIfInBounds bb (.map en' clk') }->
  ∃ x' w' ρ',(execOp a.eval o).run P w=.ok (.value x') w'/\Went Γ E.Mo ρ η' w ρ' (appL [(b,.map es')] η') w'/\SVR (appL [(b,.map es')] η') ρ' (MX E.Mo ρ' (appL [(b,.map es')] η')) w' x' (.tup [v,.one (.dat (.raw (.int .i64 j)))]):=fun en' clk' u hen' hB' hu' hrun=>by
  have hw:Went Γ E.Mo ρ η' w ρ (appL [(b,.map es')] η') { w with heap:=w.heap.setIfInBounds bb (.map en' clk') }:=by
   refine Went.write hI.inv (w5n hb' (by simp)) rfl (by rw [he];simp [real]) rfl (fun o=>Iff.rfl) (by simp) rfl rfl rfl (fun kk hkk=>?_) (fun i arr T fz hi'=>?_) (fun oo u _ hc=>?_) (fun m=>⟨bb,en',clk',he,by simp [hlt],hen'.mv m,hB'⟩)
   . rw [hbk] at hkk;simp only [Array.getElem?_setIfInBounds_ne (Ne.symm hkk)]
   . by_cases e:i=bb
     . subst e;rw [hh] at hi';cases hi'
     . exact ⟨arr,T,fz,by simp only [Array.getElem?_setIfInBounds_ne (Ne.symm e)];exact hi',Nat.le_refl _⟩
   . rw [hbk] at hc;simp [World.cell?,hh] at hc
  exact ⟨_,_,ρ,by simp [execOp,ho,hmv,hkey,hrun],hw,[u,goInt j],rfl,hu'.mv hw.mv,RdC.raw rfl,trivial⟩
 rcases z07 hkt w (z:=zero) clk 0 hen hu with ⟨hf,rfl,hj,hen'⟩ | ⟨u,e,hf,hj,hv,hq,hen'⟩
 . refine fin (ents.push { key:=.agg kl.toArray,val:=zv,born:=clk }) (clk+1) zv (by simpa using hen' zv (SVR.to0 hnt (SVR.of0 (hzr _ _ _ _)))) (hB.push _ _) (hzr _ _ _ _) ?_
   have hjc:clk=j:=by rw [hB.1,hj];simp
   simp [Instr.mapEntry,y9m hd,getObj,setObj,Sem.run,hh,hck,y0u hkt,hf,hzrun,hjc]
 . refine fin (ents.modify j fun e=>{ e with key:=.agg kl.toArray }) clk u (by simpa using hen') (hB.modify _ _ (fun _=>rfl)) hv ?_;rw [Nat.zero_add] at hf
   have hj':ents[j]? = some e:=by simpa using hj
   have hsb:=voi hq 9999;have hbj:=hB.2 j e hj';simp [Instr.mapEntry,y9m hd,getObj,setObj,Sem.run,hh,hck,y0u hkt,hf,Instr.keyThatStays,hj',hsb,hbj]
theorem wxq {s z:Operand} (ho:o.op=.entryStore T x s z) (hdst:o.dst=none)
 (hm:wox η (opdS Γ J x)=some (b,es)) (hs:opdS Γ J s=.one (.dat (.raw (.int .i64 j)))) (hj:j<es.length) (hn:y5y (opdS Γ J z)=true) :
 x6g Γ P o J η (orr x++orr s++orr z) [b] [] [(b,.map (es.modify j fun p=>(p.1,opdS Γ J z)))]:=by
 refine x6g.skip hdst (fun E ρ J' η' a w hag hah hI=>?_);have hx:=hI.opd x;have hy:=hI.opd s;have hz:=hI.opd z;rw [hag.opd (fun t ht=>by simp [ht])] at hx hy hz;unfold wox at hm;split at hm
 case h_2=>cases hm
 rename_i b' hxe;split at hm
 case h_2=>cases hm
 rename_i es0 hb
 cases hm;rw [hxe] at hx;rw [hs] at hy
 have hb':gB η' b=.map es:=by rw [hah.gB (by simp)];exact hb
 obtain ⟨bb,ents,clk,he,hh,hen,hB⟩:=hI.sbr hb' (by simp)
 have hmv:a.eval x=.map (some bb):=by rw [hx.2.1,he]
 have hsv:a.eval s=.int .i64 j:=RdC.v7q hy
 have hbk:bk (ρ b)=bb:=by rw [he];rfl
 have hlt:bb<w.heap.size:=(Array.getElem?_eq_some_iff.1 hh).1
 have hsz:j<ents.size:=by have:=hen.len;simp at this;omega
 have hfi:ents.findIdx? (fun e=>(e.born:Int)==(j:Int))=some j:=by
  rw [Array.findIdx?_eq_some_iff_getElem];refine ⟨hsz,by have:=hB.2 j ents[j] (by simp [hsz]);simp [this],fun i hi=>?_⟩
  have:=hB.2 i ents[i] (by simp [show i<ents.size by omega])
  simp [this];omega
 refine ⟨{ w with heap:=w.heap.setIfInBounds bb (.map (ents.modify j fun e=>{ e with val:=a.eval z }) clk) },ρ,?_,Went.write hI.inv (w5n hb' (by simp)) rfl (by rw [he];simp [real]) rfl (fun o=>Iff.rfl) (by simp) rfl rfl rfl (fun kk hkk=>?_) (fun i arr T fz hi'=>?_) (fun oo u _ hc=>?_) (fun m=>⟨bb,ents.modify j fun e=>{ e with val:=a.eval z },clk,he,by simp [hlt],(by simpa using (EnR.set (hz.to0 hn) j hen).mv m),hB.modify _ _ (fun _=>rfl)⟩)⟩
 . have hrun:(Instr.entryStore T (.map (some bb)) (.int .i64 j) (a.eval z)).run P w=.ok () { w with heap:=w.heap.setIfInBounds bb (.map (ents.modify j fun e=>{ e with val:=a.eval z }) clk) }:=by
    simp [Instr.entryStore,getObj,setObj,Sem.run,hh,asInt,asIntOf,hfi]
   simp [execOp,ho,hmv,hsv,hrun]
 . rw [hbk] at hkk;simp only [Array.getElem?_setIfInBounds_ne (Ne.symm hkk)]
 . by_cases e:i=bb
   . subst e;rw [hh] at hi';cases hi'
   . exact ⟨arr,T,fz,by simp only [Array.getElem?_setIfInBounds_ne (Ne.symm e)];exact hi',Nat.le_refl _⟩
 . rw [hbk] at hc;simp [World.cell?,hh] at hc
theorem wt2 (Φ:(Nat->Bool)->Act->World->Prop) (hng:∀(j:Nat) (o:Oper),ops[j]? = some o->o.guard=none) (hedge:xu5 0 ops.toList=true)
 (hQ:∀(L:Nat->Bool) (a:Act) (w:World),(∀ i,i<ops.size->L i=true)->Φ L a w->Q .normal a w)
 (hstep:∀(L:Nat->Bool) (j:Nat) (o:Oper) (a:Act) (w:World),ops[j]? = some o->L j=false->(∀ d∈direct o,L d=true)->(∀(k:Nat) (o:Oper),ops[k]? = some o->L k=true->∀ d∈direct o,L d=true)->Φ L a w->∀ K:Act->World->Prop,(∀ a' w',Φ (fun i=>L i||i==j) a' w'->K a' w')->o.wp P a w K Q) :
 ∀(fuel:Nat) (listed:Array Bool) (a:Act) (w:World),listed.size=ops.size->(listed.toList.filter (! ·)).length<=fuel->(∀(k:Nat) (o:Oper),ops[k]? = some o->listed.getD k false=true->∀ d∈direct o,listed.getD d false=true)->
  Φ (fun i=>listed.getD i false) a w->wpAny P .any ops Q fuel listed a w:=by
 have done:∀(listed:Array Bool),listed.size=ops.size->Region.ready .any ops listed=[]->∀ i,i<ops.size->listed.getD i false=true:=by
  intro listed hsz hr i
  induction i using Nat.strongRecOn with
  | _ i ih =>
   intro hi
   cases hx:listed.getD i false with
   | true=>rfl
   | false=>
    exfalso
    have hmem:i∈Region.ready .any ops listed:=by
     rw [mem_ready];refine ⟨?_,ops[i],by simp [hi],fun e he hb=>?_⟩
     . simp only [Array.getD_eq_getD_getElem?,Array.getElem?_eq_getElem (show i<listed.size by omega),Option.getD_some] at hx ⊢;exact hx
     . have hd:e.on∈direct ops[i]:=List.mem_map.2 ⟨e,by simp [List.mem_filter,hb];exact he,rfl⟩
       have:=ysw ops.toList 0 hedge i ops[i] (by simp [hi]) e.on hd
       exact ih e.on (by omega) (by omega)
    rw [hr] at hmem
    cases hmem
 intro fuel
 induction fuel with
 | zero=>
  intro listed a w hsz hf hcl hR
  have hall:∀ i,i<ops.size->listed.getD i false=true:=fun i hi=>by
   have hnil:listed.toList.filter (! ·)=[]:=List.eq_nil_of_length_eq_zero (by omega);rw [List.filter_eq_nil_iff] at hnil
   have:=hnil listed[i] (by simp)
   simp only [Bool.not_eq_true',Bool.not_eq_false] at this;simp [show i<listed.size by omega,this]
  have hready:Region.ready .any ops listed=[]:=by
   cases hr:Region.ready .any ops listed with
   | nil=>rfl
   | cons j _=>
    exfalso
    have hj:j∈Region.ready .any ops listed:=by rw [hr];simp
    obtain ⟨h1,o,ho,_⟩:=mem_ready.1 hj;have hjl:j<ops.size:=(Array.getElem?_eq_some_iff.1 ho).1
    have:=hall j hjl
    simp only [Array.getD_eq_getD_getElem?,Array.getElem?_eq_getElem (show j<listed.size by omega),Option.getD_some] at this h1;rw [this] at h1;cases h1
  exact ⟨hready,hQ _ a w hall hR⟩
 | succ fuel ih=>
  intro listed a w hsz hf hcl hR;refine ⟨fun hready=>hQ _ a w (done listed hsz hready) hR,fun j hj=>?_⟩;obtain ⟨h1,o,ho,hall⟩:=mem_ready.1 hj;have hjl:j<ops.size:=(Array.getElem?_eq_some_iff.1 ho).1
  have hout:listed.getD j false=false:=by
   simp only [Array.getD_eq_getD_getElem?,Array.getElem?_eq_getElem (show j<listed.size by omega),Option.getD_some] at h1 ⊢;exact h1
  have hdir:∀ d∈direct o,listed.getD d false=true:=fun d hd=>by
   obtain ⟨e,he,rfl⟩:=List.mem_map.1 hd;rw [List.mem_filter] at he;exact hall e (by simpa using he.1) he.2
  have hX:∀ i,(listed.setIfInBounds j true).getD i false=(listed.getD i false||i==j):=fun i=>by
   by_cases e:i=j
   . subst e;simp [show i<listed.size by omega]
   . simp only [Array.getD_eq_getD_getElem?,Array.getElem?_setIfInBounds_ne (Ne.symm e)];simp [e]
  have hstep':=hstep _ j o a w ho hout hdir hcl hR (wpAny P .any ops Q fuel (listed.setIfInBounds j true)) (fun a' w' hR'=>by
   refine ih _ a' w' (by simpa using hsz) ?_ ?_ ?_
   . have hcount:∀(l:List Bool) (j:Nat),l[j]? = some false->((l.set j true).filter (! ·)).length+1=(l.filter (! ·)).length:=by
      intro l
      induction l with
      | nil=>intro j h;simp at h
      | cons b l ihl=>
       intro j h
       cases j with
       | zero=>simp at h;subst h;simp
       | succ j=>
        have:=ihl j (by simpa using h)
        cases b<;>simp<;>omega
     have hjb:listed.toList[j]? = some false:=by
      simp only [Array.getD_eq_getD_getElem?,Array.getElem?_eq_getElem (show j<listed.size by omega),Option.getD_some] at hout;simp [Array.getElem?_eq_getElem (show j<listed.size by omega),hout]
     have:=hcount listed.toList j hjb
     simp only [Array.toList_setIfInBounds];omega
   . intro k ok hko hk i hi;rw [hX] at hk ⊢;by_cases e:k=j
     . subst e;rw [ho] at hko
       cases hko;rw [hdir i hi,Bool.true_or]
     . have:listed.getD k false=true:=by simpa [e] using hk
       rw [hcl k ok hko this i hi,Bool.true_or]
   . rw [show (fun i=>(listed.setIfInBounds j true).getD i false)=fun i=>(listed.getD i false||i==j) from funext hX]
     exact hR')
  unfold wpOp;rw [ho];dsimp only;rw [if_pos (by simp [Region.wanted,hng j o ho])];exact .inl hstep'
theorem yeq (hm:P.follows .mixedOrders=true) (Φ:(Nat->Bool)->Act->World->Prop) (hng:∀(j:Nat) (o:Oper),ops[j]? = some o->o.guard=none) (hedge:xu5 0 ops.toList=true)
 (hQ:∀(L:Nat->Bool) (a:Act) (w:World),(∀ i,i<ops.size->L i=true)->Φ L a w->Q .normal a w)
 (hstep:∀(L:Nat->Bool) (j:Nat) (o:Oper) (a:Act) (w:World),ops[j]? = some o->L j=false->(∀ d∈direct o,L d=true)->(∀(k:Nat) (o:Oper),ops[k]? = some o->L k=true->∀ d∈direct o,L d=true)->Φ L a w->∀ K:Act->World->Prop,(∀ a' w',Φ (fun i=>L i||i==j) a' w'->K a' w')->o.wp P a w K Q)
 (h0:Φ (fun _=>false) a { w with drawn:=w.drawn+1 }):(Code.region id ops true).wp P Q a w:=by
 have hz:∀ i,(Array.replicate ops.size false).getD i false=false:=fun i=>by
  rw [Array.getD_eq_getD_getElem?];by_cases hi:i<ops.size
  . simp [hi]
  . rw [Array.getElem?_eq_none (by simp;omega)];rfl
 refine wp_region_any hm (wt2 Φ hng hedge hQ hstep ops.size _ a _ (by simp) (by simp) (fun k o _ hk=>by rw [hz] at hk;cases hk) ?_);rw [show (fun i=>(Array.replicate ops.size false).getD i false)=fun _=>false from funext hz];exact h0
theorem xfw {k:Nat} {x:SV} (h:k≠i):gtS (J.set i x) k=gtS J k:=by
 unfold gtS;rw [List.getElem?_set_ne (Ne.symm h)]
theorem xo9 {x:SV} (h:i<J.length):gtS (J.set i x) i=x:=by
 unfold gtS;rw [List.getElem?_set_self h];rfl
structure StX (ts:List Nat) (vs:List SV) (σ0:List SV) (L:Nat->Bool) (J:List SV):Prop where
 len:J.length=σ0.length
 out:∀ i,i∉ts->J[i]? = σ0[i]?
 val:∀ k,k<ts.length->L k=true->gtS J (ts.getD k 0)=vs.getD k .any
theorem StX.set {ts:List Nat} {vs:List SV} {σ0:List SV} {L:Nat->Bool} {J:List SV} {j:Nat} (h:StX ts vs σ0 L J) (hn:ts.Nodup) (hl:∀ t∈ts,t<σ0.length) (hj:j<ts.length):StX ts vs σ0 (fun i=>L i||i==j) (J.set (ts.getD j 0) (vs.getD j .any)):=by
 have hjt:ts.getD j 0∈ts:=by rw [List.getD_eq_getElem?_getD,List.getElem?_eq_getElem hj];simp
 refine ⟨by rw [List.length_set,h.len],fun i hi=>?_,fun k hk hL=>?_⟩
 . rw [List.getElem?_set_ne (fun e=>hi (by rw [<-e];exact hjt))];exact h.out i hi
 . by_cases e:k=j
   . subst e;exact xo9 (by rw [h.len];exact hl _ hjt)
   . have hL':L k=true:=by simpa [e] using hL
     rw [xfw (fun e2=>e ?_)]
     . exact h.val k hk hL'
     . rw [List.getD_eq_getElem?_getD,List.getD_eq_getElem?_getD,List.getElem?_eq_getElem hk,List.getElem?_eq_getElem hj] at e2;exact (List.getElem_inj hn).1 (by simpa using e2)
theorem StX.more (h:StX ts vs σ0 L J) (hj:ts.length<=j):StX ts vs σ0 (fun i=>L i||i==j) J:=
 ⟨h.len,h.out,fun k hk hL=>h.val k hk (by simpa [show k≠j by omega] using hL)⟩
theorem w8r : ∀ (ts : List Nat) (J : List SV) (i : Nat) (x : SV), (appL (ts.map fun t => (t, SV.any)) J)[i]? = some x → x = .any ∨ (i ∉ ts ∧ J[i]? = some x)
 | [],J,i,x,h=>.inr ⟨by simp,h⟩
 | t::ts,J,i,x,h=>by
  rcases w8r ts (J.set t .any) i x h with h | ⟨h1,h2⟩
  . exact .inl h
  . by_cases e:i=t
    . subst e;rw [List.getElem?_set] at h2;split at h2
      . split at h2
        . cases h2;exact .inl rfl
        . cases h2
      . rename_i hne;exact absurd rfl hne
    . rw [List.getElem?_set_ne (Ne.symm e)] at h2;exact .inr ⟨by simp [e,h1],h2⟩
theorem StX.weak (h:StX ts vs σ0 L J) {E:HEnv} {ρ:Nat->Value} (hR:RI Γ E ρ J η a w):RI Γ E ρ (appL (ts.map fun t=>(t,SV.any)) σ0) η a w:=by
 refine ⟨hR.hd,by rw [hR.hs,h.len,zsz],fun i x hi=>?_,hR.went⟩
 rcases w8r ts σ0 i x hi with rfl | ⟨h1,h2⟩
 . exact trivial
 . rw [<-h.out i h1] at h2;exact hR.slot i x h2
theorem wn5 {x:SB} (h:η[b]? = some x):η.set b x=η:=by
 apply List.ext_getElem?;intro i;by_cases e:b=i
 . subst e;rw [List.getElem?_set_self (List.getElem?_eq_some_iff.1 h).1,h]
 . rw [List.getElem?_set_ne e]
theorem yt4 {x:SB} (h:b<η.length):gB (η.set b x) b=x:=by
 unfold gB;rw [List.getElem?_set_self h];rfl
theorem zxc {e:List SB} {Q:Exit->List SV->List SB->Prop} (hm:P.follows .mixedOrders=true) {M X t0 t1 t2 t3 t4 t5 c:Nat} {v:Int} {MT:TypeId}
 {o0 o1 o2 o3 o4 o5 o6:Oper} (hops:ops.toList=[o0,o1,o2,o3,o4,o5,o6]) (hng:(ops.toList.all fun o=>o.guard.isNone)=true) (hedge:xu5 0 ops.toList=true)
 (x2:0∈direct o2/\1∈direct o2) (x3:2∈direct o3) (x4:0∈direct o4/\1∈direct o4) (x5:4∈direct o5) (x6:0∈direct o6/\3∈direct o6/\5∈direct o6)
 (e0:o0.op=.move (.tmp M)) (d0:o0.dst=some t0) (e1:o1.op=.load kt (.tmp X)) (d1:o1.dst=some t1) (e2:o2.op=.lookup MT (.tmp t0) (.tmp t1) false) (d2:o2.dst=some t2)
 {IT IU:TypeId} (e3:o3.op=.binOp .add IT (.tmp t2) (.const (.int .i64 1)) IU) (d3:o3.dst=some t3) (e4:o4.op=.mapEntry MT (.tmp t0) (.tmp t1)) (d4:o4.dst=some t4) (e5:o5.op=.extract (.tmp t4) 1) (d5:o5.dst=some t5)
 (e6:o6.op=.entryStore MT (.tmp t0) (.tmp t5) (.tmp t3)) (d6:o6.dst=none)
 (hts:[t0,t1,t2,t3,t4,t5].Nodup) (hlt:∀ t∈[t0,t1,t2,t3,t4,t5],t<J.length) (hM0:M∉[t0,t1,t2,t3,t4,t5]) (hX0:X∉[t0,t1,t2,t3,t4,t5])
 {tiM tk:TI} (htiM:mkTI P MT=some tiM) (hsh:tiM.sh=.map kt et) (htk:mkTI P kt=some tk)
 {es2:List (Value×SV)} (hM:gtS J M=.one (.mp b)) (hb:η[b]? = some (.map es)) {khs:List HC} (hX:seeH η (gtS J X)=some ([c],khs)) (hcb:c≠b) {kv:SV} (hload:wc3 tk khs=some kv) (hkey:keyX kv=some (.agg kl.toArray)) (hkt:keyT P kt kl=true)
 (hz:zxg P et=some (.one (.dat (.raw (.int .i64 0))))) {r:Option SV} (hf:y6f es (.agg kl.toArray)=some r) (hr:wnl false r (.one (.dat (.raw (.int .i64 0))))=.one (.dat (.raw (.int .i64 v))))
 (hins:insM es (.agg kl.toArray) (.one (.dat (.raw (.int .i64 0))))=some (.one (.dat (.raw (.int .i64 v))),j,es2)) (hf2:y6f es2 (.agg kl.toArray)=some (some (.one (.dat (.raw (.int .i64 v)))))) (hjl:j<es2.length) (hw:IntKind.i64.wrap (v+1)=v+1)
 (hk:Q .normal (appL ([t0,t1,t2,t3,t4,t5].map fun t=>(t,SV.any)) J) (η.set b (.map (es2.modify j fun p=>(p.1,.one (.dat (.raw (.int .i64 (v+1))))))))):xty Γ P e (.region id ops true) Q J η:=by
 intro E ρ a w hE hR;have hbl:b<η.length:=(List.getElem?_eq_some_iff.1 hb).1
 let ts:=[t0,t1,t2,t3,t4,t5]
 let vs:List SV:=[.one (.mp b),kv,.one (.dat (.raw (.int .i64 v))),.one (.dat (.raw (.int .i64 (v+1)))),.tup [.one (.dat (.raw (.int .i64 v))),.one (.dat (.raw (.int .i64 j)))],.one (.dat (.raw (.int .i64 j)))]
 let es3:=es2.modify j fun p=>(p.1,SV.one (.dat (.raw (.int .i64 (v+1)))))
 let cur:(Nat->Bool)->List (Value×SV):=fun L=>bif L 6 then es3 else bif L 4 then es2 else es
 have hget:∀(k:Nat) (o:Oper),ops[k]? = some o->[o0,o1,o2,o3,o4,o5,o6][k]? = some o:=fun k o h=>by rw [<-hops];simpa using h
 refine yeq (Q:=wl4 Γ E Q) (Φ:=fun L a w=>∃ ρ J',StX ts vs J L J'/\RI Γ E ρ J' (η.set b (.map (cur L))) a w) hm ?_ hedge ?_ ?_ ?_
 case refine_4=>
  refine ⟨ρ,J,⟨rfl,fun _ _=>rfl,fun _ _ h=>by cases h⟩,?_⟩
  have:cur (fun _=>false)=es:=rfl
  rw [this,wn5 hb];exact hR.go (Went.below hR.inv ((Below.refl _ w).drew))
 . intro k o hk
   have:=List.all_eq_true.1 hng o (by rw [hops];exact List.mem_of_getElem? (hget k o hk))
   simpa using this
 . intro L a w hL ⟨ρ',J',hS,hR'⟩;refine ⟨_,_,ρ',hk,?_⟩;have h6:L 6=true:=hL 6 (by rw [<-Array.length_toList,hops];show 6<7;omega)
   have:cur L=es3:=by show (bif L 6 then _ else _)=_;rw [h6];rfl
   rw [this] at hR';exact hS.weak hR'
 . intro L k o a w hko hout hdir hcl ⟨ρ',J',hS,hR'⟩ K hK;have hb':gB (η.set b (.map (cur L))) b=.map (cur L):=yt4 hbl
   have hsM:gtS J' M=.one (.mp b):=by unfold gtS;rw [hS.out M hM0];exact hM
   have hsX:gtS J' X=gtS J X:=by unfold gtS;rw [hS.out X hX0]
   have hko':=hget k o hko
   have hat:∀(i:Nat) (o:Oper),[o0,o1,o2,o3,o4,o5,o6][i]? = some o->ops[i]? = some o:=fun i o h=>by rw [<-hops] at h;simpa using h
   have hc6:L 6=true->L 5=true/\L 3=true:=fun h=>⟨hcl 6 o6 (hat 6 o6 rfl) h 5 x6.2.2,hcl 6 o6 (hat 6 o6 rfl) h 3 x6.2.1⟩
   have hc5:L 5=true->L 4=true:=fun h=>hcl 5 o5 (hat 5 o5 rfl) h 4 x5
   have hc3:L 3=true->L 2=true:=fun h=>hcl 3 o3 (hat 3 o3 rfl) h 2 x3
   have hkeep:∀ i,i≠4->i≠6->cur (fun n=>L n||n==i)=cur L:=fun i h4 h6=>by
    show (bif (L 6||6==i) then _ else bif (L 4||4==i) then _ else _)=_;rw [show ((6:Nat)==i)=false by simp;omega,show ((4:Nat)==i)=false by simp;omega,Bool.or_false,Bool.or_false]
   have hrefl:∀ l,agS l J' J':=fun l=>⟨rfl,fun _ _=>rfl⟩
   have hreflB:∀ l,agB l (η.set b (.map (cur L))) (η.set b (.map (cur L))):=fun l=>⟨rfl,fun _ _=>rfl⟩
   have hlt0:t0<J'.length:=by rw [hS.len];exact hlt t0 (by simp)
   have same:∀ i,i≠4->i≠6->∀ a' w' ρ2 σ2,StX ts vs J (fun n=>L n||n==i) σ2->RI Γ E ρ2 σ2 (η.set b (.map (cur L))) a' w'->∃ ρ J',StX ts vs J (fun n=>L n||n==i) J'/\RI Γ E ρ J' (η.set b (.map (cur (fun n=>L n||n==i)))) a' w':=fun i h4 h6 a' w' ρ2 σ2 hs hr=>⟨ρ2,σ2,hs,by rw [hkeep i h4 h6];exact hr⟩
   match k,hko' with
   | 0,h=>
    cases h;refine zyi (.inl e0) d0 E ρ' J' _ a w (hrefl _) (hreflB _) hR' K _ (fun a' w' ρ2 hr=>hK a' w' (same 0 (by decide) (by decide) a' w' ρ2 _ (hS.set hts hlt (by show _<6;omega)) ?_))
    have:opdS Γ J' (.tmp M)=.one (.mp b):=hsM
    rw [this] at hr;exact hr
   | 1,h=>
    cases h
    have hsee:seeH (η.set b (.map (cur L))) (opdS Γ J' (.tmp X))=some ([c],khs):=by
     show seeH _ (gtS J' X)=_;rw [hsX];exact y1g hX (fun d hd=>by rw [List.mem_singleton] at hd;subst hd;exact y81 hcb)
    exact xa3 e1 d1 htk hsee hload E ρ' J' _ a w (hrefl _) (hreflB _) hR' K _ (fun a' w' ρ2 hr=>hK a' w' (same 1 (by decide) (by decide) a' w' ρ2 _ (hS.set hts hlt (by show _<6;omega)) hr))
   | 2,h=>
    cases h;have l0:=hdir 0 x2.1;have l1:=hdir 1 x2.2;have s0:opdS Γ J' (.tmp t0)=.one (.mp b):=hS.val 0 (by show _<6;omega) l0;have s1:opdS Γ J' (.tmp t1)=kv:=hS.val 1 (by show _<6;omega) l1
    have h6:L 6=false:=by
     cases h:L 6 with
     | false=>rfl
     | true=>have:=hc3 (hc6 h).2;rw [hout] at this;cases this
    have hm':wox (η.set b (.map (cur L))) (opdS Γ J' (.tmp t0))=some (b,cur L):=by rw [s0];show (match gB _ b with | .map es=>some (b,es) | _=>none)=_;rw [hb']
    have hfc:∃ r',y6f (cur L) (.agg kl.toArray)=some r'/\wnl false r' (.one (.dat (.raw (.int .i64 0))))=.one (.dat (.raw (.int .i64 v))):=by
     show ∃ r',y6f (bif L 6 then _ else bif L 4 then _ else _) _=_/\_;rw [h6,cond_false]
     cases L 4 with
     | true=>exact ⟨_,hf2,rfl⟩
     | false=>exact ⟨r,hf,hr⟩
    obtain ⟨r',hf',hr'⟩:=hfc;refine ymw e2 d2 htiM hsh htk hm' (by rw [s1];exact hkey) (by show keyT P kt _=true;simpa using hkt) hf' hz E ρ' J' _ a w (hrefl _) (hreflB _) hR' K _ (fun a' w' ρ2 hr2=>hK a' w' (same 2 (by decide) (by decide) a' w' ρ2 _ (hS.set hts hlt (by show _<6;omega)) ?_));rw [hr'] at hr2;exact hr2
   | 3,h=>
    cases h;have s2:opdS Γ J' (.tmp t2)=.one (.dat (.raw (.int .i64 v))):=hS.val 2 (by show _<6;omega) (hdir 2 x3);refine v4u e3 d3 (p:=.int .i64 v) (q:=.int .i64 1) (v:=.int .i64 (v+1)) (by rw [s2];rfl) (by show (if IntKind.i64=IntKind.i64 then some (Value.int .i64 (IntKind.i64.wrap (v+1))) else none)=_;rw [if_pos rfl,hw]) E ρ' J' _ a w (hrefl _) (hreflB _) hR' K _ (fun a' w' ρ2 hr2=>hK a' w' (same 3 (by decide) (by decide) a' w' ρ2 _ (hS.set hts hlt (by show _<6;omega)) hr2))
   | 4,h=>
    cases h;have s0:opdS Γ J' (.tmp t0)=.one (.mp b):=hS.val 0 (by show _<6;omega) (hdir 0 x4.1);have s1:opdS Γ J' (.tmp t1)=kv:=hS.val 1 (by show _<6;omega) (hdir 1 x4.2)
    have h6:L 6=false:=by
     cases h:L 6 with
     | false=>rfl
     | true=>have:=hc5 (hc6 h).1;rw [hout] at this;cases this
    have hcu:cur L=es:=by show (bif L 6 then _ else bif L 4 then _ else _)=_;rw [h6,hout];rfl
    have hcu':cur (fun n=>L n||n==4)=es2:=by show (bif (L 6||6==4) then _ else bif (L 4||4==4) then _ else _)=_;rw [h6];simp
    rw [hcu] at hR' hb' hreflB
    have hm':wox (η.set b (.map es)) (opdS Γ J' (.tmp t0))=some (b,es):=by rw [s0];show (match gB _ b with | .map es=>some (b,es) | _=>none)=_;rw [hb']
    refine wr7 e4 d4 htiM hsh hm' (by rw [s1];exact hkey) hkt hz rfl hins E ρ' J' _ a w (hrefl _) (hreflB _) hR' K _ (fun a' w' ρ2 hr2=>hK a' w' ⟨ρ2,_,hS.set hts hlt (by show _<6;omega),?_⟩);rw [hcu']
    have:appL [(b,SB.map es2)] (η.set b (.map es))=η.set b (.map es2):=by show (η.set b _).set b _=_;rw [List.set_set]
    rw [this] at hr2;exact hr2
   | 5,h=>
    cases h;have s4:opdS Γ J' (.tmp t4)=.tup [.one (.dat (.raw (.int .i64 v))),.one (.dat (.raw (.int .i64 j)))]:=hS.val 4 (by show _<6;omega) (hdir 4 x5);refine yp8 e5 d5 (v:=.one (.dat (.raw (.int .i64 j)))) (by rw [s4];rfl) E ρ' J' _ a w (hrefl _) (hreflB _) hR' K _ (fun a' w' ρ2 hr2=>hK a' w' (same 5 (by decide) (by decide) a' w' ρ2 _ (hS.set hts hlt (by show _<6;omega)) hr2))
   | 6,h=>
    cases h;have s0:opdS Γ J' (.tmp t0)=.one (.mp b):=hS.val 0 (by show _<6;omega) (hdir 0 x6.1);have s3:opdS Γ J' (.tmp t3)=.one (.dat (.raw (.int .i64 (v+1)))):=hS.val 3 (by show _<6;omega) (hdir 3 x6.2.1);have s5:opdS Γ J' (.tmp t5)=.one (.dat (.raw (.int .i64 j))):=hS.val 5 (by show _<6;omega) (hdir 5 x6.2.2);have l4:=hc5 (hdir 5 x6.2.2)
    have hcu:cur L=es2:=by show (bif L 6 then _ else bif L 4 then _ else _)=_;rw [hout,l4];rfl
    have hcu':cur (fun n=>L n||n==6)=es3:=by show (bif (L 6||6==6) then _ else _)=_;simp
    rw [hcu] at hR' hb' hreflB
    have hm':wox (η.set b (.map es2)) (opdS Γ J' (.tmp t0))=some (b,es2):=by rw [s0];show (match gB _ b with | .map es=>some (b,es) | _=>none)=_;rw [hb']
    refine wxq e6 d6 hm' s5 hjl (by rw [s3];rfl) E ρ' J' _ a w (hrefl _) (hreflB _) hR' K _ (fun a' w' ρ2 hr2=>hK a' w' ⟨ρ2,_,hS.more (by show 6<=6;omega),?_⟩);rw [hcu']
    have:appL [(b,SB.map (es2.modify j fun p=>(p.1,opdS Γ J' (.tmp t3))))] (η.set b (.map es2))=η.set b (.map es3):=by show (η.set b _).set b _=_;rw [List.set_set,s3]
    rw [this] at hr2;exact hr2
   | n+7,h=>simp at h
end Go.Hp
namespace Go.Hp
open Go Go.RowKit Go.Slot
variable {P:Program} {Γ:List (Nat×List Cell)} {e:List SB}
theorem wy2 {G:List (Nat×List GhH)} {x y:Code} {Q:Exit->Bool->List SV->List SB->Prop} {J:List SV} {η:List SB} (h:RH Γ P e G x true (vmg (hide (fun _ J' η'=>xty Γ P e y (outH Q) J' η') ()) Q) J η):ye1 Γ P e G x y Q J η:=by
 refine vtt ((RH.sound x true _ J η h).mono ?_);intro ex J' η' ⟨b',h'⟩
 cases ex with
 | normal=>exact h'
 | _=>exact ⟨b',h'⟩
end Go.Hp
namespace Go.Hp.T
open Go Go.RowKit Go.Slot Go.Hp Go.Slot.T
set_option maxRecDepth 10000
section
variable {κ α:Type}
def insG (eq:κ->κ->Bool):List (κ×α)->κ->α->List (κ×α)
 | [],s,z=>[(s,z)]
 | p::l,s,z=>bif eq s p.1 then (s,p.2)::l else p::insG eq l s z
def posG (eq:κ->κ->Bool):List (κ×α)->κ->Nat
 | [],_=>0
 | p::l,s=>bif eq s p.1 then 0 else posG eq l s+1
variable {K:κ->Value} {C:α->SV} {eq:κ->κ->Bool}
theorem xed (h:∀ a b,kEq (K a) (K b)=some (eq a b)) {s:κ} {z:α}:∀{l:List (κ×α)},insM (entG K C l) (K s) (C z)=some (C ((ypi eq l s).getD z),posG eq l s,entG K C (insG eq l s z))
 | []=>rfl
 | p::l=>by
  have ih:=xed h (s:=s) (z:=z) (l:=l);simp only [entG,insM,h,insG,posG,ypi];rw [ih]
  cases eq s p.1<;>rfl
theorem v4i (hr:∀ s,eq s s=true) {s:κ} {z:α}:∀{l:List (κ×α)},ypi eq (insG eq l s z) s=some ((ypi eq l s).getD z)
 | []=>by simp only [insG,ypi,hr,cond_true];rfl
 | p::l=>by
  have ih:=v4i hr (s:=s) (z:=z) (l:=l);simp only [insG,ypi]
  cases he:eq s p.1 with
  | true=>simp only [cond_true,ypi,hr];rfl
  | false=>simp only [cond_false,ypi,he];exact ih
theorem wyj {s:κ} {z:α}:∀{l:List (κ×α)},posG eq l s<(entG K C (insG eq l s z)).length
 | []=>Nat.zero_lt_one
 | p::l=>by
  have ih:=wyj (s:=s) (z:=z) (l:=l);simp only [insG,posG]
  cases eq s p.1 with
  | true=>exact Nat.succ_pos _
  | false=>simp only [cond_false,entG,List.length_cons];omega
theorem xzw {s:κ} {z v:α}:∀{l:List (κ×α)},(entG K C (insG eq l s z)).modify (posG eq l s) (fun p=>(p.1,C v))=entG K C (updG eq l s v)
 | []=>rfl
 | p::l=>by
  have ih:=xzw (s:=s) (z:=z) (v:=v) (l:=l);simp only [insG,posG,updG]
  cases eq s p.1 with
  | true=>rfl
  | false=>
   simp only [cond_false,entG];rw [<-ih];rfl
theorem vo7 (hr:∀ s,eq s s=true) {s t:κ} {v:α} (ht:∀ a b c,eq a b=true->eq b c=eq a c) (hs:∀ a b,eq a b=eq b a):∀{l:List (κ×α)},ypi eq (updG eq l s v) t=bif eq t s then some v else ypi eq l t
 | []=>rfl
 | p::l=>by
  have ih:=vo7 hr (s:=s) (t:=t) (v:=v) ht hs (l:=l);simp only [updG,ypi]
  cases he:eq s p.1 with
  | true=>
   simp only [cond_true,ypi]
   cases h2:eq t s with
   | true=>rfl
   | false=>
    have h3:eq t p.1=false:=by rw [hs t p.1,ht p.1 s t (by rw [hs];exact he) |>.symm,hs];exact h2
    rw [h3];rfl
  | false=>
   simp only [cond_false,ypi];rw [ih]
   cases h2:eq t s with
   | true=>
    have h3:eq t p.1=false:=by rw [<-he];exact (ht t s p.1 h2).symm
    rw [h3];rfl
   | false=>cases eq t p.1<;>rfl
end
open Go.Proofs.Tryz
attribute [local irreducible] hide RH
set_option maxHeartbeats 8000000
variable {Γ:List (Nat×List Cell)}
theorem yxy (s:Tg):tgE s s=true:=yxx.2 rfl
theorem z2h (a b:Tg):tgE a b=tgE b a:=by
 rw [Bool.eq_iff_iff,yxx,yxx];exact eq_comm
theorem yxh (a b c:Tg) (h:tgE a b=true):tgE b c=tgE a c:=by rw [yxx.1 h]
def cntM (T:List Tg) (m:Mb):Mb:=T.foldl (fun m y=>updG tgE m y ((ypi tgE m y).getD 0+1)) m
def vmc (e at':Int) (H K:Mb):List Tg->List Int
 | []=>[at']
 | y::l=>match ypi tgE H y with
  | some k=>bif decide (e=5) then [k,at'] else bif decide (1<(ypi tgE K y).getD 0) then [at'] else vmc e at' H K l
  | none=>bif decide (1<(ypi tgE K y).getD 0) then [at'] else vmc e at' H K l
def vq1 (e at':Int) (H:Mb) (x:Stp):List Int:=vmc e at' H (cntM (yr8 x) []) (yr8 x)
theorem zt8 {m:Mb} {i:Int} (h:∀ t,0<=(ypi tgE m t).getD 0/\(ypi tgE m t).getD 0<=i) (y t:Tg):0<=(ypi tgE (updG tgE m y ((ypi tgE m y).getD 0+1)) t).getD 0/\(ypi tgE (updG tgE m y ((ypi tgE m y).getD 0+1)) t).getD 0<=i+1:=by
 rw [vo7 yxy yxh z2h];have h1:=h y;have h2:=h t
 cases tgE t y with
 | true=>rw [cond_true,Option.getD_some];omega
 | false=>rw [cond_false];omega
theorem ya1 {v:Int} (h:0<=v) (h2:v<=4611686018427387904):IntKind.i64.wrap v=v:=w64 (by omega)
theorem w6b (e at':Int) (H:Mb) (x:Stp) (hi:x.inn.length<=1073741824) (ho:x.out.length<=1073741824) :
 xbh Γ prog 79 [mK H] [.one (.dat (cI e)),.one (.dat (cI at')),.one (.mp 0),.agg ((stpC x).map .dat)] [mK H] (.one (.dat (.ints .i64 (vq1 e at' H x)))):=by
 have ht:=yfh (Γ:=Γ) x hi ho
 have htl:(yr8 x).length<=4294967296:=by
  unfold yr8;rw [List.length_append,List.length_append,List.length_map,List.length_map]
  cases (decide (x.kind=0)||(decide (x.kind=1)||decide (x.kind=5)))
  . simp;omega
  . simp;omega
 unfold vq1;generalize yr8 x=T at *;refine hEh [(5,[.join])] func79 f79.eq_1 ?_
 (with_reducible refine wdy ht ?_)<;>refine hgS ?_
 refine wf5 [0,1,2,7,9,18,19] (fun p:Nat×Mb=>[(20,.one (.dat (cI p.1)))]) (fun p=>[mK H,.box ((stpC x).map .dat) (some 70),mK p.2])
  (fun p=>p.1<=T.length/\cntM T []=cntM (T.drop p.1) p.2/\∀ t,0<=(ypi tgE p.2 t).getD 0/\(ypi tgE p.2 t).getD 0<=p.1) (fun p=>T.length-p.1) (0,[]) ⟨Nat.zero_le _,rfl,fun t=>⟨Int.le_refl _,Int.le_refl _⟩⟩ ?_ ?_
 . refine hg ?_;exact sS
 rintro ⟨i,m⟩ ⟨h1,h2,h3⟩;dsimp only at h1 h2 h3;refine hg ?_;refine y8g (fun hlt _=>?_) (fun hlt _=>?_)
 . have hlt':i<T.length:=by omega
   rw [xc3 hlt'] at h2;have hbd:=h3 (T.getD i default);refine hg ?_;refine wy2 ?_;refine hg ?_;refine zxc (M:=9) (X:=11) (b:=2) (c:=3) (v:=(ypi tgE m (T.getD i default)).getD 0) (j:=posG tgE m (T.getD i default)) (es2:=envK (insG tgE m (T.getD i default) 0)) (kl:=[.int .i64 (T.getD i default).1,.string (T.getD i default).2]) mixed rfl (by kernel_rfl) (by kernel_rfl) ⟨by decide,by decide⟩ (by decide) ⟨by decide,by decide⟩ (by decide) ⟨by decide,by decide,by decide⟩ rfl rfl rfl rfl rfl rfl rfl rfl rfl rfl rfl rfl rfl rfl (by decide) (fun t ht=>?_) (by decide) (by decide) m147 rfl m154 rfl rfl rfl (by decide) rfl rfl xp9 z3 wfj ?_ (xed xdx (C:=fun k:Int=>.one (.dat (cI k))) (z:=0)) ?_ wyj (ya1 (by omega) (by omega)) ?_
   . have:t<59:=by simp at ht;omega
     exact this
   . show wnl false ((ypi tgE m (T.getD i default)).map _) _=_
     cases ypi tgE m (T.getD i default)<;>rfl
   . have:=yth xdx (C:=fun k:Int=>SV.one (.dat (cI k))) (s:=T.getD i default) (l:=insG tgE m (T.getD i default) 0)
     rw [v4i yxy] at this;exact this
   refine ⟨true,?_⟩;have hme:(envK (insG tgE m (T.getD i default) 0)).modify (posG tgE m (T.getD i default)) (fun p=>(p.1,SV.one (.dat (.raw (.int .i64 ((ypi tgE m (T.getD i default)).getD 0+1))))))=envK (updG tgE m (T.getD i default) ((ypi tgE m (T.getD i default)).getD 0+1)):=xzw;rw [hme]
   conv=>simp (maxSteps:=2000000) (disch:=omega) only [go_sem,Nat.reduceAdd,Nat.reduceSub,Nat.reduceMul,Int.reduceToNat,Nat.reduceEqDiff,Nat.reduceBEq,Nat.reduceBneDiff,Nat.reduceLT,Int.reduceEq,Int.reduceLT,Int.reduceLE,Int.reduceNeg,Int.reduceAdd,Int.reduceSub,Int.reduceMul,List.map_cons,List.map_nil,List.set_cons_succ,List.set_cons_zero]
   refine ⟨(i+1,updG tgE m (T.getD i default) ((ypi tgE m (T.getD i default)).getD 0+1)),⟨by dsimp only;omega,h2,fun t=>?_⟩,by dsimp only;omega,?_⟩
   . have:=zt8 h3 (T.getD i default) t
     dsimp only;rw [show ((i+1:Nat):Int)=(i:Int)+1 by omega];exact this
   refine StH.cutN [0,1,2,7,9,18,19,20] 3 rfl ?_ ?_
   . refine hg ?_
     first | exact trivial | rfl
   exact sS
 have hm:cntM T []=m:=by rw [h2,List.drop_eq_nil_of_le (by omega)];rfl
 rw [hm];clear hm h2 hlt h1;generalize hR:vmc e at' H m T=R;refine hg ?_
 (with_reducible refine wdy ht ?_)<;>refine hgS ?_
 refine wf5 [0,1,2,9,32,33] (fun i:Nat=>[(34,.one (.dat (cI i)))]) (fun _=>[mK H,.box ((stpC x).map .dat) (some 70),mK m])
  (fun i=>i<=T.length/\vmc e at' H m (T.drop i)=R) (fun i=>T.length-i) 0 ⟨Nat.zero_le _,hR⟩ ?_ ?_
 . refine hg ?_;exact sS
 clear hR;rintro i ⟨h1,h2⟩;refine hg ?_;refine y8g (fun hlt _=>?_) (fun hlt _=>?_)
 . have hlt':i<T.length:=by omega
   rw [xc3 hlt',vmc] at h2
   replace h2:(match ypi tgE H ((T.getD i default).1,(T.getD i default).2) with
    | some k=>bif decide (e=5) then [k,at'] else bif decide (1<(ypi tgE m ((T.getD i default).1,(T.getD i default).2)).getD 0) then [at'] else vmc e at' H m (T.drop (i+1))
    | none=>bif decide (1<(ypi tgE m ((T.getD i default).1,(T.getD i default).2)).getD 0) then [at'] else vmc e at' H m (T.drop (i+1)))=R:=h2
   cases hA:ypi tgE H ((T.getD i default).1,(T.getD i default).2)<;>cases hB:ypi tgE m ((T.getD i default).1,(T.getD i default).2)
   all_goals
    rw [hA,hB] at h2;dsimp only [Option.getD_none,Option.getD_some] at h2;refine hg2 @hA @hB ?_
    repeat' (refine hF ?_ ?_<;>intros)
   all_goals first
    | (exfalso;omega)
    | (refine ⟨i+1,⟨by omega,?_⟩,by omega,?_⟩
       . rw [<-h2];simp [*]
       refine StH.cutN [0,1,2,9,32,33,34] 3 rfl ?_ ?_
       . refine hg ?_
         first | exact trivial | rfl
       exact sS)
    | exact StH.y4a rfl (by kernel_rfl) (by rw [<-h2];simp [*])
 . have h4:[at']=R:=by rw [<-h2,List.drop_eq_nil_of_le (by omega)];rfl
   rw [<-h4];clear h2 h4;refine hg ?_;exact StH.y4a rfl (by kernel_rfl) rfl
end Go.Hp.T
