/- The proof, part Z8: Hz, Hl, M0. -/
import Derived.Test.YtkbkjjahlafhoaaGreatDoorZ7
import Derived.Test.YtkbkjjahlafhoaaGreatDoorZ3
import Derived.Lib.Builder
import Derived.LaidEql
import Derived.Laws.Externs
import Derived.KernelRfl
namespace Go.Hp
open Go Go.RowKit Go.Slot
variable {P:Program} {Γ:List (Nat×List Cell)}
def ztt (P:Program) (t:TypeId):Bool:=match P.underlying t with
 | some (.int _)=>true
 | some .string=>true
 | some .bool=>true
 | _=>false
def keyT (P:Program) (kt:TypeId) (l:List Value):Bool:=match P.underlying kt with
 | some (.struct fs)=>fs.toList.all (fun f=>ztt P f.type)&&decide (xsk P 2 kt=some l.length)&&fitT P 2 kt l
 | _=>false
theorem xzm {kt:TypeId} {l:List Value} (h:keyT P kt l=true):∃ fs,P.underlying kt=some (.struct fs)/\(∀ f∈fs.toList,ztt P f.type=true)/\xsk P 2 kt=some l.length/\fitT P 2 kt l=true:=by
 unfold keyT at h;split at h
 . rename_i fs hu;simp only [Bool.and_eq_true,List.all_eq_true,decide_eq_true_eq] at h;exact ⟨fs,hu,h.1.1,h.1.2,h.2⟩
 . cases h
theorem wjb {g:TypeId->Option Nat}:∀(fs:List Field) (a n:Nat),yto g fs a=some n->a<=n
 | [],a,n,h=>by simp only [yto,Option.some.injEq] at h;omega
 | f::fs,a,n,h=>by
  simp only [yto] at h;split at h
  . split at h
    . have:=wjb fs _ _ h;omega
    . cases h
  . cases h
theorem z0y {t:TypeId} (h:ztt P t=true) (b:Bool) (n:Nat) (v:Value) (w:World):(Instr.checkKey b (n+1) t v).run P w=.ok () w:=by
 unfold ztt at h;split at h
 . rename_i hu;simp [Instr.checkKey,zp8 hu]
 . rename_i hu;simp [Instr.checkKey,zp8 hu]
 . rename_i hu;simp [Instr.checkKey,zp8 hu]
 . cases h
theorem xrf {kt:TypeId} {l:List Value} (hk:keyT P kt l=true) (b:Bool) (n:Nat) (w:World):(Instr.checkKey b (n+2) kt (.agg l.toArray)).run P w=.ok () w:=by
 obtain ⟨fs,hu,hlf,hfl,hfit⟩:=xzm hk;unfold xsk at hfl;split at hfl
 case h_2=>cases hfl
 rename_i ds i hu' hi;rw [hu] at hu'
 cases hu';dsimp only at hfl;split at hfl
 . cases hfl
 split at hfl
 case h_2=>cases hfl
 rename_i nn hff;split at hfl
 case isFalse=>cases hfl
 have hnn:=Option.some.inj hfl
 have key:∀(fs:List Field) (acc:Nat),(∀ f∈fs,ztt P f.type=true)->yto (xsk P 1) fs acc=some nn->∀ w,(forIn (m:=Sem) fs PUnit.unit fun f _=>(do
  if f.name≠"_" then Instr.checkKey b (n+1) f.type (<-part f.type l.toArray f.offset)
  pure (ForInStep.yield PUnit.unit):Sem (ForInStep PUnit))).run P w=.ok () w:=by
  intro fs
  induction fs with
  | nil=>intro acc _ _ w;simp
  | cons f fs ih=>
   intro acc hl hf w;simp only [yto] at hf;split at hf
   case h_2=>cases hf
   rename_i k hk1;split at hf
   case isFalse=>cases hf
   rename_i hc;simp only [Bool.and_eq_true,bne_iff_ne,beq_iff_eq] at hc;have h1:=ih (acc+k) (fun g hg=>hl g (List.mem_cons_of_mem _ hg)) hf w;have h2:=wjb _ _ _ hf
   have hpos:aggT P f.type=false->0<k:=fun ha=>by rw [(xjm hk1 ha).1];exact Nat.one_pos
   have h3:=xqa hk1 (l:=l) (off:=f.offset) (by rw [hc.2];omega) hpos w;have h4:=z0y (hl f (List.mem_cons_self ..)) b n (valT P f.type ((l.drop f.offset).take k)) w;rw [List.forIn_cons];simp only [ne_eq,hc.1,not_false_eq_true,if_true,Sem.run_bind,h3,Result.andThen_ok,h4,Sem.run_pure];exact h1
 have:=key fs.toList 0 hlf hff w
 rw [show n+2=n+1+1 from rfl];rw [Instr.checkKey];simp only [Sem.run_bind,zp8 hu,Result.andThen_ok];rw [<-Array.forIn_toList];simp at this ⊢;rw [this];rfl
theorem vdz {kt:TypeId} {l l':List Value} {r:Bool} (hk:keyT P kt l=true) (he:eqL l l'=some r) (w:World):(Op.equal kt (.agg l.toArray) (.agg l'.toArray)).run P w=.ok r w:=by
 obtain ⟨fs,hu,hlf,hfl,hfit⟩:=xzm hk;have h:=wop 2 hfl 9998 rfl hfit he w
 have ha:aggT P kt=true:=by unfold aggT;rw [hu]
 unfold valT at h;rw [ha] at h;exact h
theorem wrp {l:List Value} {k:Value} {r:Bool} (h:kEq (.agg l.toArray) k=some r):∃ l',k=.agg (List.toArray l')/\eqL l l'=some r:=by
 cases k with
 | agg a=>exact ⟨a.toList,by simp,by simpa [kEq] using h⟩
 | _=>cases h
section
variable {η:List SB} {ρ:Nat->Value} {M:Nat->Nat->Prop} {w:World}
theorem z7r {kt:TypeId} {k:List Value} (hk:keyT P kt k=true) (w':World):∀{es:List MapEntry} {l:List (Value×SV)} (i:Nat),EnR η ρ M w es l->∀{r:Option SV},xpi l (.agg k.toArray)=some r->
 (r=none/\(Instr.findAsking kt (.agg k.toArray) es i).run P w'=.ok none w')\/∃ x j v,r=some x/\(Instr.findAsking kt (.agg k.toArray) es i).run P w'=.ok (some (j,v)) w'/\SVR0 η ρ M w v x
 | [],[],i,_,r,h=>by cases h;exact .inl ⟨rfl,rfl⟩
 | e::es,(k',x)::l,i,hr,r,h=>by
  simp only [xpi] at h;have hk1:e.key=k':=hr.1.1;rw [<-hk1] at h;unfold Instr.findAsking;split at h
  . rename_i he
    cases h;obtain ⟨l',e1,e2⟩:=wrp he;refine .inr ⟨x,i,e.val,rfl,?_,hr.1.2⟩;rw [e1];simp only [Sem.run_bind,vdz hk e2,Result.andThen_ok,if_true,Sem.run_pure]
  . rename_i he;obtain ⟨l',e1,e2⟩:=wrp he;rw [e1];simp only [Sem.run_bind,vdz hk e2,Result.andThen_ok,Bool.false_eq_true,if_false];exact z7r hk w' (i+1) hr.2 h
  . cases h
theorem xzo {kt:TypeId} {k:List Value} (hk:keyT P kt k=true) (w':World) {v:Value} {x:SV} (hv:SVR0 η ρ M w v x) (clk:Nat):∀{es:List MapEntry} {l l':List (Value×SV)} (i:Nat),EnR η ρ M w es l->updM l (.agg k.toArray) x=some l'->
 ((Instr.findAsking kt (.agg k.toArray) es i).run P w'=.ok none w'/\EnR η ρ M w (es++[{ key:=.agg k.toArray,val:=v,born:=clk }]) l')\/
 ∃ j u e,(Instr.findAsking kt (.agg k.toArray) es i).run P w'=.ok (some (i+j,u)) w'/\es[j]? = some e/\kEq (.agg k.toArray) e.key=some true/\EnR η ρ M w (es.modify j fun e=>{ e with key:=.agg k.toArray,val:=v }) l'
 | [],[],l',i,_,h=>by cases h;exact .inl ⟨rfl,⟨⟨rfl,hv⟩,trivial⟩⟩
 | e::es,(k',y)::l,l',i,hr,h=>by
  simp only [updM] at h;have hk1:e.key=k':=hr.1.1;rw [<-hk1] at h;unfold Instr.findAsking;split at h
  . rename_i he
    cases h;obtain ⟨l',e1,e2⟩:=wrp he;refine .inr ⟨0,e.val,e,?_,rfl,he,⟨⟨rfl,hv⟩,hr.2⟩⟩;rw [e1];simp only [Sem.run_bind,vdz hk e2,Result.andThen_ok,if_true,Sem.run_pure,Nat.add_zero]
  . rename_i he;obtain ⟨l2,h2,rfl⟩:=Option.map_eq_some_iff.1 h;obtain ⟨l',e1,e2⟩:=wrp he;rw [e1];simp only [Sem.run_bind,vdz hk e2,Result.andThen_ok,Bool.false_eq_true,if_false]
    rcases xzo hk w' hv clk (i+1) hr.2 h2 with ⟨h3,h4⟩ | ⟨j,u,e',h3,h4,h5,h6⟩
    . exact .inl ⟨h3,⟨⟨e1,hr.1.2⟩,h4⟩⟩
    . exact .inr ⟨j+1,u,e',by rw [show i+(j+1)=i+1+j by omega];exact h3,by simpa using h4,h5,⟨⟨e1,hr.1.2⟩,h6⟩⟩
  . cases h
end
theorem yl3 {kt:TypeId} {k:List Value} (hk:keyT P kt k=true) (es:List MapEntry) (w:World):(Instr.findKey kt (.agg k.toArray) es).run P w=(Instr.findAsking kt (.agg k.toArray) es 0).run P w:=by
 obtain ⟨fs,hu,_⟩:=xzm hk
 cases es with
 | nil=>simp [Instr.findKey,zp8 hu,Instr.findNow,Instr.findAsking]
 | cons e es=>simp [Instr.findKey,zp8 hu,Instr.findNow,Instr.sameNow]
theorem yu1 {a b:Value} (h:kEq0 a b=some true) (n:Nat):Instr.sameBits n b a=true:=by
 cases a<;>cases b<;>simp only [kEq0] at h<;>first | (cases h;done) | skip
 . simp at h;subst h;simp [Instr.sameBits]
 . split at h
   . rename_i e;simp at h;subst e;subst h;simp [Instr.sameBits]
   . cases h
 . have e:=(MapKept.bytes_beq _ _).1 ((beq_toListBytes _ _).trans (Option.some.inj h));subst e;simp only [Instr.sameBits];exact (MapKept.bytes_beq _ _).2 rfl
theorem vum (n:Nat):∀{a b:List Value},eqL a b=some true->(b.zip a).all (fun p=>Instr.sameBits n p.1 p.2)=true
 | [],[],_=>rfl
 | a::as,b::bs,h=>by
  simp only [eqL] at h;split at h
  . rename_i p q h1 h2;simp only [Option.some.injEq,Bool.and_eq_true] at h;rw [h.1] at h1;rw [h.2] at h2;simp only [List.zip_cons_cons,List.all_cons,yu1 h1,vum n h2,Bool.and_self]
  . cases h
 | [],_::_,h=>by cases h
 | _::_,[],h=>by cases h
theorem vuw {k:List Value} {k':Value} (h:kEq (.agg k.toArray) k'=some true) (n:Nat):Instr.sameBits (n+1) k' (.agg k.toArray)=true:=by
 obtain ⟨l',rfl,he⟩:=wrp h;have h1:=z8a he;have h2:=vum n he;simp only [Instr.sameBits,List.size_toArray,h1,beq_self_eq_true,Bool.true_and];exact h2
def rawL:List HC->Option (List Value)
 | []=>some []
 | .dat (.raw v)::l=>(rawL l).map (v::·)
 | _=>none
theorem y9n {η:List SB} {ρ:Nat->Value} {M:Nat->Nat->Prop} {w:World}:∀{hs:List HC} {l vs:List Value},rawL hs=some l->HRL η ρ M w vs hs->vs=l
 | [],l,[],h,_=>by cases h;rfl
 | .dat (.raw v)::hs,l,u::vs,h,hr=>by
  simp only [rawL] at h;obtain ⟨l',h1,rfl⟩:=Option.map_eq_some_iff.1 h;rw [y9n h1 hr.2,RdC.xbx hr.1]
def keyX:SV->Option Value
 | .one (.dat (.raw v))=>some v
 | .agg hs=>(rawL hs).map fun l=>.agg l.toArray
 | _=>none
def z6i (P:Program) (kt:TypeId) (sh:Sh):Value->Bool
 | .agg a=>keyT P kt a.toList
 | v=>xjk sh v
theorem zuf {kt:TypeId} {sh:Sh} {k:IntKind} {n:Int}:z6i P kt sh (.int k n)=xjk sh (.int k n):=rfl
theorem ykg {kt:TypeId} {sh:Sh} {s:ByteArray}:z6i P kt sh (.string s)=xjk sh (.string s):=rfl
theorem vgr {kt:TypeId} {sh:Sh} {b:Bool}:z6i P kt sh (.bool b)=xjk sh (.bool b):=rfl
theorem v90 {kt:TypeId} {sh:Sh} {l:List Value}:z6i P kt sh (.agg l.toArray)=keyT P kt l:=rfl
theorem v1g {η:List SB} {ρ:Nat->Value} {M:Nat->Nat->Prop} {w:World} {x:SV} {k v:Value} (h:keyX x=some k) (hr:SVR η ρ M w v x):v=k:=by
 unfold keyX at h;split at h
 . cases h;exact RdC.xbx hr
 . obtain ⟨l,h1,rfl⟩:=Option.map_eq_some_iff.1 h;obtain ⟨vs,rfl,hr⟩:=hr;rw [y9n h1 hr]
 . cases h
theorem y1y {x:SV} {k:Value} (h:keyX x=some k) (hk:∀ a,k≠.agg a):keyV x=some k:=by
 unfold keyX at h;split at h
 . cases h;rfl
 . obtain ⟨l,h1,rfl⟩:=Option.map_eq_some_iff.1 h;exact absurd rfl (hk _)
 . cases h
theorem vsb {kt:TypeId} {sh:Sh} {k:Value} (h:z6i P kt sh k=true) (hk:∀ a,k≠.agg a):xjk sh k=true:=by
 unfold z6i at h;split at h
 . exact absurd rfl (hk _)
 . exact h
theorem y88 {o:Oper} {J:List SV} {η:List SB} {T kt et:TypeId} {x y:Operand} {ok:Bool} {d b:Nat} (ho:o.op=.lookup T x y ok) (hdst:o.dst=some d) {ti tk:TI} (hti:mkTI P T=some ti) (hsh:ti.sh=.map kt et) (htk:mkTI P kt=some tk)
 {es:List (Value×SV)} (hm:xe2 η (opdS Γ J x)=some (b,es)) {k:Value} (hkv:keyX (opdS Γ J y)=some k) (hk:z6i P kt tk.sh k=true) {r:Option SV} (hr:xpi es k=some r) {zero:SV} (hz:vaz P et=some zero) :
 wpk Γ P o J η (d::(orr x++orr y)) [b] [(d,z8c ok r zero)] []:=by
 by_cases hag0:∀ a,k≠.agg a
 . exact vd2 ho hdst hti hsh htk hm (y1y hkv hag0) (vsb hk hag0) hr hz
 obtain ⟨ka,hka⟩:=Classical.not_forall.1 hag0;have hka:=Classical.not_not.1 hka;subst hka;obtain ⟨kl,rfl⟩:∃ kl,ka=List.toArray kl:=⟨ka.toList,by simp⟩
 have hkt:keyT P kt kl=true:=by simpa [z6i] using hk
 refine wpk.pure hdst (fun E ρ J' η' a w hag hah hI=>?_);have hx:=hI.opd x;have hy:=hI.opd y;rw [hag.opd (fun t ht=>by simp [ht])] at hx hy;unfold xe2 at hm;split at hm
 case h_2=>cases hm
 rename_i b' hxe;split at hm
 case h_2=>cases hm
 rename_i es' hb
 cases hm;rw [hxe] at hx
 have hb':gB η' b=.map es:=by rw [hah.gB (by simp)];exact hb
 obtain ⟨bb,ents,clk,he,hh,hen,hB⟩:=hI.sbr hb' (by simp);have hkey:=v1g hkv hy;obtain ⟨dd,i,z,hd,hi,hz',_,_,_,_,_,hsh'⟩:=(vq6 hti).ex;have hmap:=vay (hsh'.symm.trans hsh);subst hmap
 have hmv:a.eval x=.map (some bb):=by rw [hx.2.1,he]
 obtain ⟨zv,hzrun,hzr⟩:=w8u hz;have hck:=xrf hkt ents.isEmpty 9998 w
 have hrun:∀ fo,(Instr.findAsking kt (.agg kl.toArray) ents.toList 0).run P w=.ok fo w->(Instr.lookup T (.map (some bb)) (.agg kl.toArray) ok).run P w=.ok (if ok then .tuple #[(fo.map (·.2)).getD zv,.bool fo.isSome] else (fo.map (·.2)).getD zv) w:=fun fo hfo=>by
  cases fo with
  | none=>cases ok<;>simp [Instr.lookup,zp8 hd,getObj,Sem.run,hh,hck,yl3 hkt,hfo,hzrun]
  | some p=>cases ok<;>simp [Instr.lookup,zp8 hd,getObj,Sem.run,hh,hck,yl3 hkt,hfo]
 rcases z7r hkt w 0 hen hr with ⟨rfl,hf⟩ | ⟨xx,j,v,rfl,hf,hv⟩
 . refine ⟨_,by simp only [execOp,ho,hmv,hkey,Sem.run_bind,hrun _ hf];rfl,?_⟩
   cases ok
   . exact SVR.of0 (hzr _ _ _ _)
   . exact ⟨[zv,.bool false],rfl,hzr _ _ _ _,RdC.raw rfl,trivial⟩
 . refine ⟨_,by simp only [execOp,ho,hmv,hkey,Sem.run_bind,hrun _ hf];rfl,?_⟩
   cases ok
   . exact SVR.of0 hv
   . exact ⟨[v,.bool true],rfl,hv,RdC.raw rfl,trivial⟩
theorem y5t {o:Oper} {J:List SV} {η:List SB} {T kt et:TypeId} {x y z:Operand} {b:Nat} (ho:o.op=.mapUpdate T x y z) (hdst:o.dst=none) {ti tk:TI} (hti:mkTI P T=some ti) (hsh:ti.sh=.map kt et) (htk:mkTI P kt=some tk)
 {es es':List (Value×SV)} (hm:xe2 η (opdS Γ J x)=some (b,es)) {k:Value} (hkv:keyX (opdS Γ J y)=some k) (hk:z6i P kt tk.sh k=true) (hn:xnf (opdS Γ J z)=true) (hu:updM es k (opdS Γ J z)=some es') :
 wpk Γ P o J η (orr x++orr y++orr z) [b] [] [(b,.map es')]:=by
 by_cases hag0:∀ a,k≠.agg a
 . exact vw8 (.inl ho) hdst hti hsh htk hm (y1y hkv hag0) (vsb hk hag0) hn hu
 obtain ⟨ka,hka⟩:=Classical.not_forall.1 hag0;have hka:=Classical.not_not.1 hka;subst hka;obtain ⟨kl,rfl⟩:∃ kl,ka=List.toArray kl:=⟨ka.toList,by simp⟩
 have hkt:keyT P kt kl=true:=by simpa [z6i] using hk
 refine wpk.skip hdst (fun E ρ J' η' a w hag hah hI=>?_);have hx:=hI.opd x;have hy:=hI.opd y;have hz:=hI.opd z;rw [hag.opd (fun t ht=>by simp [ht])] at hx hy hz;unfold xe2 at hm;split at hm
 case h_2=>cases hm
 rename_i b' hxe;split at hm
 case h_2=>cases hm
 rename_i es0 hb
 cases hm;rw [hxe] at hx
 have hb':gB η' b=.map es:=by rw [hah.gB (by simp)];exact hb
 obtain ⟨bb,ents,clk,he,hh,hen,hB⟩:=hI.sbr hb' (by simp);have hkey:=v1g hkv hy;obtain ⟨dd,i,zz,hd,hi,hz',_,_,_,_,_,hsh'⟩:=(vq6 hti).ex;have hmap:=vay (hsh'.symm.trans hsh);subst hmap
 have hmv:a.eval x=.map (some bb):=by rw [hx.2.1,he]
 have hck:=xrf hkt false 9998 w
 have hbk:bk (ρ b)=bb:=by rw [he];rfl
 have fin:∀ ob:Obj,(∃ en' clk',ob=.map en' clk'/\EnR η' ρ (MX E.Mo ρ η') w en'.toList es'/\xgz en' clk')->(Instr.mapUpdate T (.map (some bb)) (.agg kl.toArray) (a.eval z)).run P w=.ok () { w with heap:=w.heap.setIfInBounds bb ob }->
  ∃ w' ρ',(execOp a.eval o).run P w=.ok .skip w'/\Went Γ E.Mo ρ η' w ρ' (appL [(b,.map es')] η') w':=fun ob hob hrun=>by
  obtain ⟨en',clk',rfl,hen',hB'⟩:=hob;have hlt:bb<w.heap.size:=(Array.getElem?_eq_some_iff.1 hh).1;refine ⟨{ w with heap:=w.heap.setIfInBounds bb (.map en' clk') },ρ,?_,Went.write hI.inv (wep hb' (by simp)) rfl (by rw [he];simp [real]) rfl (fun o=>Iff.rfl) (by simp) rfl rfl rfl (fun kk hkk=>?_) (fun i arr T fz hi'=>?_) (fun oo u _ hc=>?_) (fun m=>⟨bb,en',clk',he,by simp [hlt],hen'.mv m,hB'⟩)⟩
  . simp [execOp,ho,hmv,hkey,hrun]
  . rw [hbk] at hkk;simp only [Array.getElem?_setIfInBounds_ne (Ne.symm hkk)]
  . by_cases e:i=bb
    . subst e;rw [hh] at hi';cases hi'
    . exact ⟨arr,T,fz,by simp only [Array.getElem?_setIfInBounds_ne (Ne.symm e)];exact hi',Nat.le_refl _⟩
  . rw [hbk] at hc;simp [World.cell?,hh] at hc
 rcases xzo hkt w (hz.to0 hn) clk 0 hen hu with ⟨hf,hen'⟩ | ⟨j,u,e,hf,hj,hq,hen'⟩
 . refine fin (.map (ents.push { key:=.agg kl.toArray,val:=a.eval z,born:=clk }) (clk+1)) ⟨_,_,rfl,by simpa using hen',hB.push _ _⟩ ?_;simp [Instr.mapUpdate,zp8 hd,getObj,setObj,Sem.run,hh,hck,yl3 hkt,hf]
 . refine fin (.map (ents.modify j fun e=>{ e with key:=.agg kl.toArray,val:=a.eval z }) clk) ⟨_,_,rfl,by simpa using hen',hB.modify _ _ (fun _=>rfl)⟩ ?_;rw [Nat.zero_add] at hf
   have hj':ents[j]? = some e:=by simpa using hj
   have hsb:=vuw hq 9999;simp [Instr.mapUpdate,zp8 hd,getObj,setObj,Sem.run,hh,hck,yl3 hkt,hf,Instr.keyThatStays,hj',hsb]
def xh4:SV->Option Bool
 | .one (.dat (.raw (.pointer none)))=>some true
 | .one (.ptr _ _) | .one (.pel _ _ _ _) | .elt _=>some false
 | _=>none
def xvf:SV->SV->Bool
 | .one (.ptr b f),.one (.ptr b' f')=>b==b'&&f==f'
 | _,_=>false
def yzr (op:BinOp) (x y:SV):Option SV:=match xh4 y with
 | some true=>match xh4 x with
  | some r=>(eqOf op r).map fun b=>.one (.dat (.raw (.bool b)))
  | none=>none
 | _=>match xvf x y with
  | true=>(eqOf op true).map fun b=>.one (.dat (.raw (.bool b)))
  | false=>none
theorem vm3 {T t:TypeId} (hT:P.underlying T=some (.pointer t)) (v:Value) (r:Bool) (hv:(r=true/\v=.pointer none)\/(r=false/\∃ a,v=.pointer (some a))) (d:Nat) (w:World):(Op.equalIn (d+1) T v (.pointer none)).run P w=.ok r w:=by
 rcases hv with ⟨rfl,rfl⟩ | ⟨rfl,a,rfl⟩<;>simp [Op.equalIn,zp8 hT]
theorem xcp {T t:TypeId} {j:TypeInfo} (hT:P.underlying T=some (.pointer t)) (ht:P.info? t=some j) (a:Addr) (d:Nat) (w:World):(Op.equalIn (d+1) T (.pointer (some a)) (.pointer (some a))).run P w=.ok true w:=by
 simp [Op.equalIn,zp8 hT,sizeOf,typeInfo,ht,run_sameAddr_same]
theorem vqw {op:BinOp} {T:TypeId} {x y:Option Addr} {r b:Bool} (hb:eqOf op r=some b) (h:∀ d w,(Op.equalIn (d+1) T (.pointer x) (.pointer y)).run P w=.ok r w) (w:World):(binOp op T (.pointer x) (.pointer y)).run P w=.ok (.bool b) w:=by
 unfold eqOf at hb
 split at hb<;>first | (cases hb;done) | skip
 . cases hb;simp only [binOp];simp [Op.equal,Op.maxDepth,h 9999]
 . cases hb;simp only [binOp];simp [Op.equal,Op.maxDepth,h 9999]
theorem vpr {o:Oper} {J:List SV} {η:List SB} {op:BinOp} {T U t:TypeId} {j:TypeInfo} {x y:Operand} {d:Nat} (ho:o.op=.binOp op T x y U) (hdst:o.dst=some d) (hT:P.underlying T=some (.pointer t)) (ht:P.info? t=some j) {v:SV}
 (h:yzr op (opdS Γ J x) (opdS Γ J y)=some v):wpk Γ P o J η (d::(orr x++orr y)) [] [(d,v)] []:=by
 refine wpk.pure hdst (fun E ρ J' η' a w hag hah hI=>?_);have hx:=hI.opd x;have hy:=hI.opd y;rw [hag.opd (fun t ht=>by simp [ht])] at hx hy
 have nilv:∀{v:Value} {s:SV} {r:Bool},SVR η' ρ (MX E.Mo ρ η') w v s->xh4 s=some r->(r=true/\v=.pointer none)\/(r=false/\∃ a,v=.pointer (some a)):=fun {v s r} hv hr=>by
  unfold xh4 at hr
  split at hr<;>first | (cases hr;done) | (cases hr;skip)
  . exact .inl ⟨rfl,RdC.xbx hv⟩
  . exact .inr ⟨rfl,_,hv.2⟩
  . exact .inr ⟨rfl,_,hv.2⟩
  . obtain ⟨b,oo,vs,e,_⟩:=hv;exact .inr ⟨rfl,_,e⟩
 have hexec:∀(ax ay:Option Addr) (b:Bool),a.eval x=.pointer ax->a.eval y=.pointer ay->(binOp op T (.pointer ax) (.pointer ay)).run P w=.ok (.bool b) w->(execOp a.eval o).run P w=.ok (.value (.bool b)) w:=fun ax ay b e1 e2 hr=>by
  have hg:∀ ox oy,(eqGuard op T ox oy (.pointer ax) (.pointer ay)).run P w=.ok () w:=fun ox oy=>by cases op<;>simp [eqGuard]
  unfold execOp;rw [ho];simp only [e1,e2,Sem.run_bind,hg,Result.andThen_ok,hr,Sem.run_pure]
 unfold yzr at h;split at h
 . rename_i hny;split at h
   . rename_i r hnx;obtain ⟨b,hb,rfl⟩:=Option.map_eq_some_iff.1 h
     rcases nilv hy hny with ⟨_,e2⟩ | ⟨e,_⟩
     . have hv:=nilv hx hnx
       have hv':∃ ax,a.eval x=.pointer ax:=by rcases hv with ⟨_,e⟩ | ⟨_,ad,e⟩<;>exact ⟨_,e⟩
       obtain ⟨ax,ex⟩:=hv';refine ⟨.bool b,hexec ax none b ex e2 (vqw hb (fun d w=>vm3 hT _ r (by rw [<-ex];exact hv) d w) w),RdC.raw rfl⟩
     . cases e
   . cases h
 . split at h
   . rename_i hs;obtain ⟨b,hb,rfl⟩:=Option.map_eq_some_iff.1 h
     have hsv:∃ bb f,opdS Γ J x=.one (.ptr bb f)/\opdS Γ J y=.one (.ptr bb f):=by
      generalize opdS Γ J x=sx at hs;generalize opdS Γ J y=sy at hs;unfold xvf at hs;split at hs
      . simp only [Bool.and_eq_true,beq_iff_eq] at hs;obtain ⟨rfl,rfl⟩:=hs;exact ⟨_,_,rfl,rfl⟩
      . cases hs
     obtain ⟨bb,f,e1,e2⟩:=hsv;rw [e1] at hx;rw [e2] at hy;exact ⟨.bool b,hexec _ _ b hx.2 hy.2 (vqw hb (fun d w=>xcp hT ht _ d w) w),RdC.raw rfl⟩
   . cases h
def ylg (η:List SB):SV->Option (Nat×Nat×TypeId×Nat)
 | .one (.ptr b off)=>match gB η b with
  | .box hs (some T)=>if off<hs.length then some (b,off,T,hs.length) else none
  | _=>none
 | _=>none
theorem vhb {E : HEnv} {ρ : Nat → Value} {J' : List SV} {η η' : List SB} {a : Act} {w : World} (hI : RI Γ E ρ J' η' a w) {v : Value} {x : SV} {b off n : Nat} {T : TypeId} (h : ylg η x = some (b, off, T, n)) (hb : gB η' b = gB η b) (hx : SVR η' ρ (MX E.Mo ρ η') w v x) :
 x=.one (.ptr b off)/\∃ ad:Addr,v=.pointer (some ad)/\ad.off=off/\off<n/\w.shape? ad.block=some (T,n):=by
 unfold ylg at h;split at h
 . rename_i b' off';split at h
   . rename_i hs T' hg;split at h
     . rename_i hlt
       cases h
       have hg':gB η' b=.box hs (some T):=by rw [hb];exact hg
       obtain ⟨bb,vs,T2,e,hh,hr,hT⟩:=hI.sbr hg' (by simp)
       have hbk:bk (ρ b)=bb:=by rw [e];rfl
       refine ⟨rfl,_,hx.2,rfl,hlt,?_⟩;simp only [hbk];unfold World.shape?;rw [hh,hT T rfl];simp [hr.length]
     . cases h
   . cases h
 . cases h
theorem v1f {o:Oper} {J:List SV} {η:List SB} {S D t:TypeId} {j:TypeInfo} {x:Operand} {d b off n:Nat} {T:TypeId} (ho:o.op=.convert S D x) (hdst:o.dst=some d) (hS:P.underlying S=some (.pointer t)) (hD:P.underlying D=some .unsafePointer) (ht:P.info? t=some j) (hj:j.size≠0)
 (hb:ylg η (opdS Γ J x)=some (b,off,T,n)):wpk Γ P o J η (d::orr x) [b] [(d,.one (.ptr b off))] []:=by
 refine wpk.pure hdst (fun E ρ J' η' a w hag hah hI=>?_);have hx:=hI.opd x;rw [hag.opd (fun t ht=>by simp [ht])] at hx;obtain ⟨e0,ad,e1,e2,e3,e4⟩:=vhb hI hb (hah.gB (by simp)) hx;rw [e0] at hx;have hrun:=Go.Lib.run_to_unsafe (P:=P) w ad hS hD ht hj e4 (by omega);refine ⟨a.eval x,?_,hx⟩;unfold execOp;rw [ho];simp only [e1,Sem.run_bind,hrun,Result.andThen_ok,Sem.run_pure]
theorem zcx {o:Oper} {J:List SV} {η:List SB} {S D u:TypeId} {j:TypeInfo} {x:Operand} {d b off n:Nat} {T:TypeId} (ho:o.op=.convert S D x) (hdst:o.dst=some d) (hS:P.underlying S=some .unsafePointer) (hD:P.underlying D=some (.pointer u)) (hu:P.info? u=some j)
 (hlies:liesAt P P.depth T (n / P.cellsOf T) off u 1=true) (hb:ylg η (opdS Γ J x)=some (b,off,T,n)):wpk Γ P o J η (d::orr x) [b] [(d,.one (.ptr b off))] []:=by
 refine wpk.pure hdst (fun E ρ J' η' a w hag hah hI=>?_);have hx:=hI.opd x;rw [hag.opd (fun t ht=>by simp [ht])] at hx;obtain ⟨e0,ad,e1,e2,e3,e4⟩:=vhb hI hb (hah.gB (by simp)) hx;rw [e0] at hx;have hrun:=Go.Lib.run_from_unsafe (P:=P) w ad hS hD hu e4 (by rw [e2];exact hlies);refine ⟨a.eval x,?_,hx⟩;unfold execOp;rw [ho];simp only [e1,Sem.run_bind,hrun,Result.andThen_ok,Sem.run_pure]
def wn7 (P:Program) (f:FuncId):Bool:=match P.funcs[f]? with
 | some fn=>fn.body.isNone&&fn.name == "internal/abi.NoEscape" &&fn.origin == ""
 | none=>false
theorem x4a:Extern.allNextRows.lookup "internal/abi.NoEscape" = none/\Extern.allNextRows.lookup "" = none/\Extern.allGenericRows.lookup "internal/abi.NoEscape" = none/\Extern.allTypedRows.lookup "internal/abi.NoEscape" = none:=by
 refine ⟨?_,?_,?_,?_⟩<;>kernel_rfl
theorem vwk:Extern.allRows.lookup "internal/abi.NoEscape" = some Extern.AbiNoEscape.same:=by kernel_rfl
theorem yao {f:FuncId} (h:wn7 P f=true) (v:Value) (w:World):(callFunc f #[v]).run P w=.ok (.value v) w:=by
 unfold wn7 at h;split at h
 . rename_i fn hf;simp only [Bool.and_eq_true,beq_iff_eq] at h;obtain ⟨⟨hb,hn⟩,ho⟩:=h;obtain ⟨r1,r2,r3,r4⟩:=x4a
   have h1:Extern.findNext fn=none:=by
    unfold Extern.findNext;simp only [hn,ho,r1,r2,Option.map_none];rfl
   have h2:Extern.find fn=some Extern.AbiNoEscape.same:=by
    unfold Extern.find;simp only [hn,ho,r3,r4,vwk,Option.map_none];rfl
   rw [run_callFunc_extern hf (by rw [hn];rfl) hb h1 h2,Go.Lib.run_noEscape];rfl
 . cases h
theorem zqp {o:Oper} {J:List SV} {η:List SB} {f:FuncId} {x:Operand} {ts:Array TypeId} {d:Nat} (ho:o.op=.call { callee:=.value (.func f),args:=#[x],argTypes:=ts }) (hdst:o.dst=some d) (hf:wn7 P f=true):wpk Γ P o J η (d::orr x) [] [(d,opdS Γ J x)] []:=by
 refine wpk.pure hdst (fun E ρ J' η' a w hag hah hI=>?_);have hx:=hI.opd x;rw [hag.opd (fun t ht=>by simp [ht])] at hx;refine ⟨a.eval x,?_,hx⟩;have hrun:=yao hf (a.eval x) w;have he:a.eval (.func f)=.func (.func f) #[] #[]:=rfl;unfold execOp;rw [ho];simp [resolve,Deferred.ofValue,he,invoke,hrun]
def usdH:SV->Option SV
 | .one (.sl b 1 0 n)=>if 0<n then some (.one (.pel b 1 0 0)) else none
 | _=>none
theorem zne {o:Oper} {J:List SV} {η:List SB} {x:Operand} {ts:Array TypeId} {d:Nat} (ho:o.op=.call { callee:=.builtin .unsafeSliceData,args:=#[x],argTypes:=ts }) (hdst:o.dst=some d) {v:SV} (h:usdH (opdS Γ J x)=some v) :
 wpk Γ P o J η (d::orr x) [] [(d,v)] []:=by
 refine wpk.pure hdst (fun E ρ J' η' a w hag hah hI=>?_);have hx:=hI.opd x;rw [hag.opd (fun t ht=>by simp [ht])] at hx;unfold usdH at h;split at h
 . rename_i b n e;split at h
   . rename_i hn
     cases h;rw [e] at hx;obtain ⟨hob,ad,cap,hv,hle,hcap⟩:=hx;obtain ⟨_,had,_⟩:=hcap (by omega);subst had;refine ⟨.pointer (some ⟨bk (ρ b),0*1,none⟩),?_,hob,rfl⟩;rw [ziw ho,show (#[x]:Array Operand).map a.eval=#[a.eval x] from by simp,hv];simp only [builtin,Sem.run_bind,Go.Lib.run_unsafeSliceData_row w ts o.type ⟨bk (ρ b),0*1,none⟩ n cap (by omega)];rfl
   . cases h
 . cases h
def xdh (P:Program) (t:TypeId):Option TypeId:=match P.underlying t with
 | some (.pointer e)=>some e
 | _=>none
theorem wwt {t e:TypeId} (h:xdh P t=some e):P.underlying t=some (.pointer e):=by
 unfold xdh at h;split at h
 . rename_i e' hu;cases h;exact hu
 . cases h
def xug (n:Int):Bool:=decide (0<=n)&&decide (n<256)
def usH (P:Program) (η:List SB) (pt:TypeId) (x y:SV):Option (Nat×List Int):=match x,y with
 | .one (.pel b 1 0 0),.one (.dat (.raw (.int .i64 n)))=>match gB η b with
  | .arr (.ints .u8 l) _ (some e)=>if xdh P pt=some e/\P.cellsOf e=1/\n=(l.length:Int)/\0<l.length/\l.length<=9223372036854775807/\l.all xug=true then some (b,l) else none
  | _=>none
 | _,_=>none
theorem World.wur (w:World) (a:Addr) (n k:Nat) (h:k≠a.block):(w.freeze a n).heap[k]? = w.heap[k]?:=by
 unfold World.freeze
 split
 . rfl
 . simp only [Array.getElem?_modify];rw [if_neg (Ne.symm h)]
theorem s_us {o:Oper} {J:List SV} {η:List SB} {x y:Operand} {pt it:TypeId} {d:Nat} (ho:o.op=.call { callee:=.builtin .unsafeString,args:=#[x,y],argTypes:=#[pt,it] }) (hdst:o.dst=some d) {b:Nat} {l:List Int} (h:usH P η pt (opdS Γ J x) (opdS Γ J y)=some (b,l)) :
 wpk Γ P o J η (d::(orr x++orr y)) [b] [(d,.one (.dat (.raw (.string (strOfNums l)))))] [(b,.dead)]:=by
 refine wpk.val hdst (fun E ρ J' η' a w hag hah hI=>?_);have hx:=hI.opd x;have hy:=hI.opd y;rw [hag.opd (fun t ht=>by simp [ht])] at hx hy;unfold usH at h;split at h
 case h_2=>cases h
 rename_i b' n ex ey;split at h
 case h_2=>cases h
 rename_i l' k e hb;split at h
 case isFalse=>cases h
 rename_i hc
 cases h;obtain ⟨hpt,hce,rfl,hl0,h63,hby⟩:=hc;have hpt:=wwt hpt;rw [ex] at hx;rw [ey] at hy
 have hb':gB η' b=.arr (.ints .u8 l) k (some e):=by rw [hah.gB (by simp)];exact hb
 have hbs:=wep hb' (by simp);obtain ⟨⟨hu,hk⟩,h0 | ⟨bb,vs,q,T2,e1,hh,hr,hT⟩⟩:=hI.sbr hb' (by simp)
 . have h1:=h0.1;simp [Cell.cnt] at h1;rw [h1] at hl0;simp at hl0
 have hbk:bk (ρ b)=bb:=by rw [e1];rfl
 have hT:=hT e rfl;subst hT
 have ev:a.eval x=.pointer (some ⟨bb,0,none⟩):=by rw [hx.2,hbk]
 have ey':a.eval y=.int .i64 (l.length:Int):=RdC.xbx hy
 have hvs:vs=l.map (Value.int .u8):=yas (k:=.u8) hr (by
  have:∀ l:List Int,wjp .u8 (l.map fun n=>Cell.raw (.int .u8 n))=some l:=by
   intro l
   induction l with
   | nil=>rfl
   | cons n l ih=>simp [wjp,ih]
  exact this l)
 have hsh:w.shape? bb=some (T2,(vs++q).length):=by simp [World.shape?,hh]
 have hbyte:∀ n∈l,0<=n/\n<256:=fun n hn=>by
  have:=(List.all_eq_true.1 hby) n hn
  simpa [xug] using this
 have hcell:∀(j:Nat) (u:UInt8),(l.map fun n=>UInt8.ofNat n.toNat)[j]? = some u->w.cell? ((⟨bb,0,none⟩:Addr).add j)=some (.int .u8 u.toNat):=fun j u hj=>by
  rw [ydc,Nat.zero_add];rw [List.getElem?_map] at hj;obtain ⟨n,hn,rfl⟩:=Option.map_eq_some_iff.1 hj;have h2:=hbyte n (List.mem_of_getElem? hn)
  have h3:((UInt8.ofNat n.toNat).toNat:Int)=n:=by
   rw [UInt8.toNat_ofNat']
   have:n.toNat % 2 ^ 8=n.toNat:=Nat.mod_eq_of_lt (by omega)
   rw [this];omega
  rw [h3];exact x9h hh (by rw [hvs,List.getElem?_map,hn];rfl)
 have hrun:=Go.Lib.run_unsafeString_row (P:=P) w pt it o.type T2 hpt hce bb _ hsh (l.map fun n=>UInt8.ofNat n.toNat) (by intro e;simp at e;subst e;simp at hl0) (by simp [hvs]) (by simpa using h63) hcell;simp only [List.length_map] at hrun;have hres:(⟨(l.map fun n=>UInt8.ofNat n.toNat).toArray⟩:ByteArray)=strOfNums l:=rfl;rw [hres] at hrun;have hw1:=Went.kill hI.inv hbs
 have hfz:(w.freeze ⟨bb,0,none⟩ l.length).heap[bb]? = some (.cells (vs++q).toArray T2 (if (0:Nat)==0 then (0,0+l.length) else (min 0 0,max 0 (0+l.length)))):=by
  unfold World.freeze;rw [if_neg (by omega)];simp only [Array.getElem?_modify,if_true];rw [hh];rfl
 have hother:=fun k hk=>World.wur w ⟨bb,0,none⟩ l.length k hk
 have hsz:(w.freeze ⟨bb,0,none⟩ l.length).heap.size=w.heap.size:=by
  unfold World.freeze;split<;>simp
 have hos:(w.freeze ⟨bb,0,none⟩ l.length).os=w.os/\(w.freeze ⟨bb,0,none⟩ l.length).tape=w.tape/\(w.freeze ⟨bb,0,none⟩ l.length).output=w.output:=by
  unfold World.freeze;split<;>exact ⟨rfl,rfl,rfl⟩
 have hcells:∀ c oo u,w.cell? ⟨c,oo,none⟩=some u->(w.freeze ⟨bb,0,none⟩ l.length).cell? ⟨c,oo,none⟩=some u:=fun c oo u hc=>by
  by_cases e2:c=bb
  . subst e2;unfold World.cell? at hc ⊢;dsimp only at hc ⊢;rw [hh] at hc;rw [hfz];exact hc
  . unfold World.cell? at hc ⊢;dsimp only at hc ⊢;rw [hother c e2];exact hc
 have hkeep:∀ M,y3e M M w (w.freeze ⟨bb,0,none⟩ l.length):=fun M c oo u h1 h2=>⟨h1,hcells c oo u h2⟩
 have hgrow:Grow w (w.freeze ⟨bb,0,none⟩ l.length):=fun i arr T fz hi=>by
  by_cases e2:i=bb
  . subst e2;rw [hh] at hi;cases hi;exact ⟨_,_,_,hfz,Nat.le_refl _⟩
  . exact ⟨arr,T,fz,by rw [hother i e2];exact hi,Nat.le_refl _⟩
 have hnotown:∀ i z,(η'.set b .dead)[i]? = some z->z.own=true->real (ρ i)->bk (ρ i)≠bb:=fun i z hi hz hri e2=>by
  rcases wl7 hi with ⟨_,rfl⟩ | ⟨hn,hi⟩
  . cases hz
  . exact hn (hI.inv.inj i b z _ hi hbs hz rfl hri (by rw [e1];simp [real]) (by rw [hbk];exact e2))
 have hinv2:HInv Γ E.Mo ρ (η'.set b .dead) (w.freeze ⟨bb,0,none⟩ l.length):=
  ⟨fun c oo hm=>by rw [hsz];exact hw1.inv.bnd c oo hm,fun i z hi=>(hw1.inv.blk i z hi).mv ⟨fun _ h=>h,fun _ _=>rfl,hkeep _,hgrow⟩ (fun ho' hr'=>hother _ (hnotown i z hi ho' hr')),hw1.inv.inj,hw1.inv.sep,hw1.inv.glob.keep (hkeep _)⟩
 have hrb:real (ρ b):=by rw [e1];simp [real]
 refine ⟨_,w.freeze ⟨bb,0,none⟩ l.length,ρ,?_,⟨hw1.ok,hw1.rho,hw1.keep.trans (hkeep _),hgrow,hinv2,by rw [hsz];exact Nat.le_refl _,hos.1,hos.2.1,hos.2.2,fun k _ hk=>hother k (fun e2=>hk ⟨b,_,hbs,rfl,hrb,by rw [hbk];exact e2.symm⟩),fun k hk=>hw1.fresh k hk⟩,RdC.raw rfl⟩;rw [ziw ho,show (#[x,y]:Array Operand).map a.eval=#[a.eval x,a.eval y] from by simp,ev,ey'];simp only [builtin,Sem.run_bind,hrun];rfl
end Go.Hp
namespace Go.Slot
open Go Go.RowKit
variable {P:Program}
def opN (P : Program) (J : List AV) (o : Oper) : OR :=
 match o.op with
 | .pick c x y=>vofA J o (orr c++orr x++orr y) (xs7 J c x y)
 | .indexAddr T x y=>xdr P T fun ti=>vofB J o (zhw J ti x y)
 | .binOp op T x y _=>match nilO y with
  | true=>xdr P T fun ti=>vofA J o (orr x) (nilA J ti op x)
  | false=>match eqOp op with
   | true=>match xiw (opd J x) (opd J y) with
    | true=>xdr P T fun ti=>vofA J o (orr x++orr y) (bbA ti op (opd J x) (opd J y))
    | false=>vofA J o (orr x++orr y) (binA J op x y)
   | false=>vofA J o (orr x++orr y) (binA J op x y)
 | .unOp op _ x=>vofA J o (orr x) (unA J op x)
 | .convert S D x=>xdr P S fun ts=>xdr P D fun td=>vofA J o (orr x) (z7v J ts td x)
 | .slice T x lo hi mx=>xdr P T fun ti=>if vr8 ti (opd J x) then vofA J o (orr x++orrO lo++orrO hi++orrO mx) (xfm J ti x lo hi mx) else .bad
 | .makeSlice T x y=>xdr P T fun ti=>ygp P ti fun te=>vofA J o (orr x++orr y) (x9w J ti te x y)
 | .buildSlice T n ps=>match n with
  | 0=>xdr P T fun ti=>vofA J o [] (vxd ti ps.toList)
  | _+1=>.bad
 | .call c=>match c.callee with
  | .builtin .len=>match c.args.toList,c.argTypes.toList with
   | [x],[T]=>xdr P T fun ti=>if vem J ti x then vofB J o (lenA J x) else .bad
   | _,_=>.bad
  | .builtin .max=>match c.args.toList with
   | [x,y]=>vofA J o (orr x++orr y) (maxV true (opd J x) (opd J y))
   | _=>.bad
  | .builtin .min=>match c.args.toList with
   | [x,y]=>vofA J o (orr x++orr y) (maxV false (opd J x) (opd J y))
   | _=>.bad
  | _=>.bad
 | _=>.bad
theorem v5q {J:List AV} {o:Oper} {rd tk:List Nat} {eff:List (Nat×AV)} (h:opN P J o=.eff rd tk eff):tk=[]/\yjc P o J rd tk eff:=by
 have nb:OR.eff rd tk eff≠.bad:=by simp
 unfold opN at h;split at h
 . rename_i c x y ho;exact xyc (fun av ha r hr=>xp8 ho ha hr) h
 . rename_i T x y ho;obtain ⟨ti,hti,hk⟩:=vwd nb h;exact zi5 (fun rd0 av ha r hr=>v51 ho hti ha hr) hk
 . rename_i op T x y U ho;split at h
   . rename_i hnil;obtain ⟨ti,hti,hk⟩:=vwd nb h;rw [yko hnil] at ho;exact xyc (fun av ha r hr=>vie ho hti ha hr) hk
   . split at h
     . split at h
       . obtain ⟨ti,hti,hk⟩:=vwd nb h;exact xyc (fun av ha r hr=>w4z ho hti ha hr) hk
       . exact xyc (fun av ha r hr=>yre ho ha hr) h
     . exact xyc (fun av ha r hr=>yre ho ha hr) h
 . rename_i op T x ho;exact xyc (fun av ha r hr=>vyj ho ha hr) h
 . rename_i S D x ho;obtain ⟨ts,hts,hk⟩:=vwd nb h;obtain ⟨td,htd,hk⟩:=vwd nb hk;exact xyc (fun av ha r hr=>zuh ho hts htd ha hr) hk
 . rename_i T x lo hi mx ho;obtain ⟨ti,hti,hk⟩:=vwd nb h;split at hk
   . rename_i hok;refine xyc (fun av ha r hr=>ywo ho hti (fun e es eb ik hsh c hc=>?_) ha hr) hk;unfold vr8 at hok;simp only [hsh,hc] at hok;refine ⟨fun k L e=>?_,fun n rows e=>?_⟩
     . rw [e] at hok;simpa using hok
     . rw [e] at hok;simpa using hok
   . cases hk
 . rename_i T x y ho;obtain ⟨ti,hti,hk⟩:=vwd nb h;obtain ⟨e,es,eb,ik,te,hs,hte,hk⟩:=wmq nb hk;exact xyc (fun av ha r hr=>yow ho hti (fun e' es' eb' ik' hs'=>by rw [hs] at hs';cases hs';exact hte) ha hr) hk
 . rename_i T n ps ho;split at h
   . obtain ⟨ti,hti,hk⟩:=vwd nb h;exact xyc (fun av ha r hr=>y1z (by rw [ho]) rfl hti ha hr) hk
   . cases h
 . rename_i c ho;obtain ⟨callee,args,argTypes⟩:=c;simp only at h;split at h
   . split at h
     . rename_i x T ha ht;obtain ⟨ti,hti,hk⟩:=vwd nb h;split at hk
       . rename_i hfit;rw [xf4 ha,xf4 ht] at ho;exact zi5 (fun rd0 av hb r hr=>znb ho hti hfit hb hr) hk
       . cases hk
     . cases h
   . split at h
     . rename_i x y ha;rw [xf4 ha] at ho;exact xyc (fun av ha r hr=>vfk (b:=true) ho ha hr) h
     . cases h
   . split at h
     . rename_i x y ha;rw [xf4 ha] at ho;exact xyc (fun av ha r hr=>vfk (b:=false) ho ha hr) h
     . cases h
   . cases h
 . cases h
attribute [go_sem] opN
end Go.Slot
