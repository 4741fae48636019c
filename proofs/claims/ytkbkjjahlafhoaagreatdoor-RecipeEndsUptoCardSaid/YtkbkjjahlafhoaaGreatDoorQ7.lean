/- The proof, part Q7: Hh, Hi. -/
import Derived.Test.YtkbkjjahlafhoaaGreatDoorQ6
import Derived.Laws.StructEq
import Derived.Laws.NewFold
import Derived.MapKept
namespace Go.Hp
open Go Go.RowKit Go.Slot
variable {P:Program} {Γ:List (Nat×List Cell)}
variable {d:TypeDesc} {k k' v:Value} {kt T et:TypeId} {tk ti:TI} {x y:Operand} {o:Oper} {J caps:List SV} {η η':List SB} {nb b:Nat} {es:List (Value×SV)} {ρ:Nat->Value} {M:Nat->Nat->Prop} {w:World} {a res:AV} {bs rd rh:List Nat} {ob:Option SB} {xs:List Operand} {ts:Array TypeId} {f:FuncId} {l:List AV} {F:List AV->AV->Prop} {eff:List (Nat×SV)} {heff:List (Nat×SB)}
def kEq0:Value->Value->Option Bool
 | .int k a,.int k' b=>if k=k' then some (a==b) else none
 | .string a,.string b=>some (seq a b)
 | .bool a,.bool b=>some (a==b)
 | _,_=>none
def eqL:List Value->List Value->Option Bool
 | [],[]=>some true
 | a::as,b::bs=>match kEq0 a b,eqL as bs with
  | some p,some q=>some (p&&q)
  | _,_=>none
 | _,_=>none
def kEq:Value->Value->Option Bool
 | .int k a,.int k' b=>if k=k' then some (a==b) else none
 | .string a,.string b=>some (seq a b)
 | .bool a,.bool b=>some (a==b)
 | .agg a,.agg b=>eqL a.toList b.toList
 | _,_=>none
def y6f:List (Value×SV)->Value->Option (Option SV)
 | [],_=>some none
 | (k',x)::r,k=>match kEq k k' with
  | some true=>some (some x)
  | some false=>y6f r k
  | none=>none
def updM:List (Value×SV)->Value->SV->Option (List (Value×SV))
 | [],k,v=>some [(k,v)]
 | (k',x)::r,k,v=>match kEq k k' with
  | some true=>some ((k,v)::r)
  | some false=>(updM r k v).map ((k',x)::·)
  | none=>none
def yt9 (sh:Sh):Value->Bool
 | .int k _=>match sh with
  | .int k'=>k==k'
  | _=>false
 | .string _=>match sh with
  | .string=>true
  | _=>false
 | .bool _=>match sh with
  | .bool=>true
  | _=>false
 | _=>false
def keyV:SV->Option Value
 | .one (.dat (.raw v))=>some v
 | _=>none
theorem zmh (h:yt9 (shOf P d) k=true):(∃ q n,d=.int q/\k=.int q n)\/(∃ s,d=.string/\k=.string s)\/(∃ b,d=.bool/\k=.bool b):=by
 unfold yt9 at h;split at h
 . rename_i q n;split at h
   . rename_i q' hs
     have:=y2y hs
     subst this;simp only [beq_iff_eq] at h;subst h;exact .inl ⟨_,_,rfl,rfl⟩
   . cases h
 . split at h
   . rename_i s _ hs;exact .inr (.inl ⟨_,vgt hs,rfl⟩)
   . cases h
 . split at h
   . rename_i b _ hs;exact .inr (.inr ⟨_,xej hs,rfl⟩)
   . cases h
 . cases h
theorem run_checkKey (htk:mkTI P kt=some tk) (hk:yt9 tk.sh k=true) (b:Bool) (n:Nat) (w:World):(Instr.checkKey b (n+1) kt k).run P w=.ok () w:=by
 obtain ⟨d,i,z,hd,_,_,_,_,_,_,_,hsh⟩:=(xat htk).ex;rw [hsh] at hk
 rcases zmh hk with ⟨q,n,rfl,rfl⟩ | ⟨s,rfl,rfl⟩ | ⟨b,rfl,rfl⟩<;>simp [Instr.checkKey,y9m hd]
theorem wzb (h:yt9 (shOf P d) k=true):Instr.sameNow d k k'=kEq k k':=by
 rcases zmh h with ⟨q,n,rfl,rfl⟩ | ⟨s,rfl,rfl⟩ | ⟨b,rfl,rfl⟩<;>cases k'<;>first | rfl | exact congrArg some (beq_toListBytes _ _)
section
variable {η:List SB} {ρ:Nat->Value} {M:Nat->Nat->Prop} {w:World}
theorem w3b {d:TypeDesc} {k:Value} (hk:yt9 (shOf P d) k=true):∀{es:List MapEntry} {l:List (Value×SV)} (i:Nat),EnR η ρ M w es l->∀{r:Option SV},y6f l k=some r->
 (r=none/\Instr.findNow d k es i=some none)\/∃ x j v,r=some x/\Instr.findNow d k es i=some (some (j,v))/\SVR0 η ρ M w v x
 | [],[],i,_,r,h=>by cases h;exact .inl ⟨rfl,rfl⟩
 | e::es,(k',x)::l,i,hr,r,h=>by
  simp only [y6f] at h
  have hs:Instr.sameNow d k e.key=kEq k k':=by rw [wzb hk,hr.1.1]
  unfold Instr.findNow;rw [hs];split at h
  . rename_i he;cases h;rw [he];exact .inr ⟨x,i,e.val,rfl,rfl,hr.1.2⟩
  . rename_i he;rw [he];exact w3b hk (i+1) hr.2 h
  . cases h
theorem xbl {d:TypeDesc} {k:Value} (hk:yt9 (shOf P d) k=true) {v:Value} {x:SV} (hv:SVR0 η ρ M w v x) (clk:Nat):∀{es:List MapEntry} {l l':List (Value×SV)} (i:Nat),EnR η ρ M w es l->updM l k x=some l'->
 (Instr.findNow d k es i=some none/\EnR η ρ M w (es++[{ key:=k,val:=v,born:=clk }]) l')\/
 ∃ j u e,Instr.findNow d k es i=some (some (i+j,u))/\es[j]? = some e/\kEq k e.key=some true/\EnR η ρ M w (es.modify j fun e=>{ e with key:=k,val:=v }) l'
 | [],[],l',i,_,h=>by cases h;exact .inl ⟨rfl,⟨⟨rfl,hv⟩,trivial⟩⟩
 | e::es,(k',y)::l,l',i,hr,h=>by
  simp only [updM] at h
  have hs:Instr.sameNow d k e.key=kEq k k':=by rw [wzb hk,hr.1.1]
  unfold Instr.findNow;rw [hs];split at h
  . rename_i he
    cases h;rw [he];exact .inr ⟨0,e.val,e,rfl,rfl,by rw [hr.1.1];exact he,⟨⟨rfl,hv⟩,hr.2⟩⟩
  . rename_i he;obtain ⟨l2,h2,rfl⟩:=Option.map_eq_some_iff.1 h;rw [he]
    rcases xbl hk hv clk (i+1) hr.2 h2 with ⟨h3,h4⟩ | ⟨j,u,e',h3,h4,h5,h6⟩
    . exact .inl ⟨h3,⟨hr.1,h4⟩⟩
    . exact .inr ⟨j+1,u,e',by rw [show i+(j+1)=i+1+j by omega];exact h3,by simpa using h4,h5,⟨hr.1,h6⟩⟩
  . cases h
end
theorem xtx (hk:yt9 (shOf P d) k=true) (h:kEq k k'=some true) (n:Nat):Instr.sameBits n k' k=true:=by
 rcases zmh hk with ⟨q,m,rfl,rfl⟩ | ⟨s,rfl,rfl⟩ | ⟨b,rfl,rfl⟩
 . cases k'<;>simp only [kEq] at h<;>first | (cases h;done) | skip
   split at h
   . rename_i e;simp at h;subst e;subst h;simp [Instr.sameBits]
   . cases h
 . cases k'<;>simp only [kEq] at h<;>first | (cases h;done) | skip
   have e:=(MapKept.bytes_beq _ _).1 ((beq_toListBytes _ _).trans (Option.some.inj h));subst e;simp only [Instr.sameBits];exact (MapKept.bytes_beq _ _).2 rfl
 . cases k'<;>simp only [kEq] at h<;>first | (cases h;done) | skip
   simp at h;subst h;simp [Instr.sameBits]
def zeroV:Value->Option SV
 | .agg vs=>if vs.toList.all (·.oneCell') then some (.agg ((vs.toList.map zyj).map .dat)) else none
 | .tuple _=>none
 | v=>some (.one (.dat (zyj v)))
def zxg (P:Program) (t:TypeId):Option SV:=match P.info? t with
 | some i=>match i.zero with
  | some z=>zeroV z
  | none=>none
 | none=>none
theorem wtb {t : TypeId} {x : SV} (h : zxg P t = some x) : ∃ z, (∀ w, (zeroValue t).run P w = .ok z w) ∧ ∀ (η : List SB) (ρ : Nat → Value) (M : Nat → Nat → Prop) (w : World), SVR0 η ρ M w z x := by
 unfold zxg at h;split at h
 . rename_i i hi;split at h
   . rename_i z hz;refine ⟨z,fun w=>zao hi hz,fun η ρ M w=>?_⟩;unfold zeroV at h;split at h
     . rename_i vs;split at h
       . rename_i hall
         cases h;exact ⟨vs.toList,by simp,vg3 (fun v hv=>(List.all_eq_true.1 hall) v hv)⟩
       . cases h
     . cases h
     . rename_i h1 h2
       cases h;refine vwb ?_
       cases z<;>first | rfl | exact absurd rfl (h1 _) | exact absurd rfl (h2 _)
   . cases h
 . cases h
theorem zta {d:Nat} (ho:o.op=.makeMap T none) (hdst:o.dst=some d) (hroom:y6w η nb=true) :
 x6g Γ P o J η [d] [nb] [(d,.one (.mp nb))] [(nb,.map [])]:=by
 refine x6g.val hdst (fun E ρ J' η' a w hag hah hI=>?_);have hfr:=hah.room (by simp) hroom;have hlt:nb<η'.length:=(List.getElem?_eq_some_iff.1 hfr).1;have hb:Below w.heap.size w (w.alloc (.map #[] 0)):=(Below.refl _ _).alloc (Nat.le_refl _) _;refine ⟨.map (some w.heap.size),w.alloc (.map #[] 0),upd ρ nb (.map (some w.heap.size)),?_,Went.new hI.inv hb hfr (by simp) (fun _ _=>Nat.le_refl _) (fun m=>⟨w.heap.size,#[],0,rfl,ylf w _,trivial,rfl,fun i e h=>by simp at h⟩),?_⟩
 . simp [execOp,ho,Instr.makeMap]
 . exact ⟨⟨_,by simp [appL,hlt];rfl,by simp⟩,by rw [wty],rfl⟩
def wnl (ok:Bool) (r:Option SV) (zero:SV):SV:=match ok with
 | true=>match r with
  | some x=>.tup [x,.one (.dat (.raw (.bool true)))]
  | none=>.tup [zero,.one (.dat (.raw (.bool false)))]
 | false=>match r with
  | some x=>x
  | none=>zero
def wox (η:List SB):SV->Option (Nat×List (Value×SV))
 | .one (.mp b)=>match gB η b with
  | .map es=>some (b,es)
  | _=>none
 | _=>none
theorem y4c {ok:Bool} {d:Nat} (ho:o.op=.lookup T x y ok) (hdst:o.dst=some d) (hti:mkTI P T=some ti) (hsh:ti.sh=.map kt et) (htk:mkTI P kt=some tk)
 (hm:wox η (opdS Γ J x)=some (b,es)) (hkv:keyV (opdS Γ J y)=some k) (hk:yt9 tk.sh k=true) {r:Option SV} (hr:y6f es k=some r) {zero:SV} (hz:zxg P et=some zero) :
 x6g Γ P o J η (d::(orr x++orr y)) [b] [(d,wnl ok r zero)] []:=by
 refine x6g.pure hdst (fun E ρ J' η' a w hag hah hI=>?_);have hx:=hI.opd x;have hy:=hI.opd y;rw [hag.opd (fun t ht=>by simp [ht])] at hx hy;unfold wox at hm;split at hm
 case h_2=>cases hm
 rename_i b' hxe;split at hm
 case h_2=>cases hm
 rename_i es' hb
 cases hm;rw [hxe] at hx
 have hb':gB η' b=.map es:=by rw [hah.gB (by simp)];exact hb
 obtain ⟨bb,ents,clk,he,hh,hen,hB⟩:=hI.sbr hb' (by simp)
 have hkey:a.eval y=k:=by
  unfold keyV at hkv;split at hkv
  . rename_i v hye;cases hkv;rw [hye] at hy;exact RdC.v7q hy
  . cases hkv
 obtain ⟨dd,i,z,hd,hi,hz',_,_,_,_,_,hsh'⟩:=(xat hti).ex;have hmap:=ywi (hsh'.symm.trans hsh);subst hmap;obtain ⟨dk,ik,zk,hdk,_,_,_,_,_,_,_,hshk⟩:=(xat htk).ex
 have hmv:a.eval x=.map (some bb):=by rw [hx.2.1,he]
 obtain ⟨zv,hzrun,hzr⟩:=wtb hz;have hck:=run_checkKey htk hk ents.isEmpty 9999 w
 have hk':yt9 (shOf P dk) k=true:=by rw [<-hshk];exact hk
 have hrun:∀ fo,Instr.findNow dk k ents.toList 0=some fo->(Instr.lookup T (.map (some bb)) k ok).run P w=.ok (if ok then .tuple #[(fo.map (·.2)).getD zv,.bool fo.isSome] else (fo.map (·.2)).getD zv) w:=fun fo hfo=>by
  cases fo with
  | none=>cases ok<;>simp [Instr.lookup,y9m hd,getObj,Sem.run,hh,hck,Instr.findKey,y9m hdk,hfo,hzrun]
  | some p=>cases ok<;>simp [Instr.lookup,y9m hd,getObj,Sem.run,hh,hck,Instr.findKey,y9m hdk,hfo]
 rcases w3b hk' 0 hen hr with ⟨rfl,hf⟩ | ⟨xx,j,v,rfl,hf,hv⟩
 . refine ⟨_,by simp only [execOp,ho,hmv,hkey,Sem.run_bind,hrun _ hf];rfl,?_⟩
   cases ok
   . exact SVR.of0 (hzr _ _ _ _)
   . exact ⟨[zv,.bool false],rfl,hzr _ _ _ _,RdC.raw rfl,trivial⟩
 . refine ⟨_,by simp only [execOp,ho,hmv,hkey,Sem.run_bind,hrun _ hf];rfl,?_⟩
   cases ok
   . exact SVR.of0 hv
   . exact ⟨[v,.bool true],rfl,hv,RdC.raw rfl,trivial⟩
def y5y:SV->Bool
 | .tup _=>false
 | _=>true
theorem SVR.to0 {x:SV} (hn:y5y x=true) (h:SVR η ρ M w v x):SVR0 η ρ M w v x:=by
 cases x<;>first | exact h | cases hn
theorem vr2 {z:Operand} (ho:o.op=.mapUpdate T x y z\/o.op=.insert T x y z) (hdst:o.dst=none) (hti:mkTI P T=some ti) (hsh:ti.sh=.map kt et) (htk:mkTI P kt=some tk)
 {es':List (Value×SV)} (hm:wox η (opdS Γ J x)=some (b,es)) (hkv:keyV (opdS Γ J y)=some k) (hk:yt9 tk.sh k=true) (hn:y5y (opdS Γ J z)=true) (hu:updM es k (opdS Γ J z)=some es') :
 x6g Γ P o J η (orr x++orr y++orr z) [b] [] [(b,.map es')]:=by
 refine x6g.skip hdst (fun E ρ J' η' a w hag hah hI=>?_);have hx:=hI.opd x;have hy:=hI.opd y;have hz:=hI.opd z;rw [hag.opd (fun t ht=>by simp [ht])] at hx hy hz;unfold wox at hm;split at hm
 case h_2=>cases hm
 rename_i b' hxe;split at hm
 case h_2=>cases hm
 rename_i es0 hb
 cases hm;rw [hxe] at hx
 have hb':gB η' b=.map es:=by rw [hah.gB (by simp)];exact hb
 obtain ⟨bb,ents,clk,he,hh,hen,hB⟩:=hI.sbr hb' (by simp)
 have hkey:a.eval y=k:=by
  unfold keyV at hkv;split at hkv
  . rename_i v hye;cases hkv;rw [hye] at hy;exact RdC.v7q hy
  . cases hkv
 obtain ⟨dd,i,zz,hd,hi,hz',_,_,_,_,_,hsh'⟩:=(xat hti).ex;have hmap:=ywi (hsh'.symm.trans hsh);subst hmap;obtain ⟨dk,ik,zk,hdk,_,_,_,_,_,_,_,hshk⟩:=(xat htk).ex
 have hmv:a.eval x=.map (some bb):=by rw [hx.2.1,he]
 have hck:=run_checkKey htk hk false 9999 w
 have hk':yt9 (shOf P dk) k=true:=by rw [<-hshk];exact hk
 have hbk:bk (ρ b)=bb:=by rw [he];rfl
 have fin:∀ ob:Obj,(∃ en' clk',ob=.map en' clk'/\EnR η' ρ (MX E.Mo ρ η') w en'.toList es'/\z5q en' clk')->(Instr.mapUpdate T (.map (some bb)) k (a.eval z)).run P w=.ok () { w with heap:=w.heap.setIfInBounds bb ob }->
  ∃ w' ρ',(execOp a.eval o).run P w=.ok .skip w'/\Went Γ E.Mo ρ η' w ρ' (appL [(b,.map es')] η') w':=fun ob hob hrun=>by
  obtain ⟨en',clk',rfl,hen',hB'⟩:=hob;have hlt:bb<w.heap.size:=(Array.getElem?_eq_some_iff.1 hh).1;refine ⟨{ w with heap:=w.heap.setIfInBounds bb (.map en' clk') },ρ,?_,Went.write hI.inv (w5n hb' (by simp)) rfl (by rw [he];simp [real]) rfl (fun o=>Iff.rfl) (by simp) rfl rfl rfl (fun kk hkk=>?_) (fun i arr T fz hi'=>?_) (fun oo u _ hc=>?_) (fun m=>⟨bb,en',clk',he,by simp [hlt],hen'.mv m,hB'⟩)⟩
  . rcases ho with ho | ho<;>simp [execOp,ho,hmv,hkey,hrun]
  . rw [hbk] at hkk;simp only [Array.getElem?_setIfInBounds_ne (Ne.symm hkk)]
  . by_cases e:i=bb
    . subst e;rw [hh] at hi';cases hi'
    . exact ⟨arr,T,fz,by simp only [Array.getElem?_setIfInBounds_ne (Ne.symm e)];exact hi',Nat.le_refl _⟩
  . rw [hbk] at hc;simp [World.cell?,hh] at hc
 rcases xbl hk' (hz.to0 hn) clk 0 hen hu with ⟨hf,hen'⟩ | ⟨j,u,e,hf,hj,hq,hen'⟩
 . refine fin (.map (ents.push { key:=k,val:=a.eval z,born:=clk }) (clk+1)) ⟨_,_,rfl,by simpa using hen',hB.push _ _⟩ ?_;simp [Instr.mapUpdate,y9m hd,getObj,setObj,Sem.run,hh,hck,Instr.findKey,y9m hdk,hf]
 . refine fin (.map (ents.modify j fun e=>{ e with key:=k,val:=a.eval z }) clk) ⟨_,_,rfl,by simpa using hen',hB.modify _ _ (fun _=>rfl)⟩ ?_;rw [Nat.zero_add] at hf
   have hj':ents[j]? = some e:=by simpa using hj
   have hsb:=xtx hk' hq 10000;simp [Instr.mapUpdate,y9m hd,getObj,setObj,Sem.run,hh,hck,Instr.findKey,y9m hdk,hf,Instr.keyThatStays,hj',hsb]
def CallsD (Γ:List (Nat×List Cell)) (P:Program) (f:FuncId) (args:List AV) (res:AV):Prop:=
 ybv P f/\∀(M:Nat->Nat->Prop) (w:World) (vs:List Value),Bounded M w->zw4 Γ M w->RdBL M w vs args->Calls P f vs.toArray w (Back M w res)
def xq6 (Γ:List (Nat×List Cell)) (Mo:Nat->Nat->Prop) (ρ:Nat->Value) (η:List SB) (w:World) (η':List SB) (res:SV):Ending->World->Prop:=fun e w'=>
 ∃ v ρ',e=.returned v/\Went Γ Mo ρ η w ρ' η' w'/\SVR η' ρ' (MX Mo ρ' η') w' v res
def xbh (Γ:List (Nat×List Cell)) (P:Program) (f:FuncId) (η:List SB) (args:List SV) (η':List SB) (res:SV):Prop:=
 ybv P f/\∀(Mo:Nat->Nat->Prop) (ρ:Nat->Value) (w:World) (vs:List Value),HInv Γ Mo ρ η w->SRL η ρ (MX Mo ρ η) w vs args->Calls P f vs.toArray w (xq6 Γ Mo ρ η w η' res)
def v0k (Γ:List (Nat×List Cell)) (P:Program) (F:List AV->AV->Prop) (M:Nat->Nat->Prop) (w:World) (v:Value):Prop:=
 ∃ f caps,v=.func (.func f) #[] caps/\ybv P f/\∀ args res vs,F args res->Bounded M w->zw4 Γ M w->RdBL M w vs args->Calls P f (vs.toArray++caps) w (Back M w res)
def argD (η:List SB):SV->Option (AV×List Nat)
 | .one h=>(xf6 η h).map fun p=>(.one p.1,p.2)
 | .agg hs=>(xs7 η hs).map fun p=>(.agg p.1,p.2)
 | .elt cs=>some (.elt cs,[])
 | .any=>some (.any,[])
 | _=>none
def y7w (η:List SB):List SV->Option (List AV×List Nat)
 | []=>some ([],[])
 | x::r=>match argD η x,y7w η r with
  | some (a,bs),some (l,bs')=>some (a::l,bs++bs')
  | _,_=>none
def vnq (Γ:List (Nat×List Cell)) (J:List SV):List Operand->List SV
 | []=>[]
 | x::r=>opdS Γ J x::vnq Γ J r
theorem y3o {x:SV} (h:argD η x=some (a,bs)):∀ b∈bs,wry (gB η b)=true:=by
 unfold argD at h;split at h
 . obtain ⟨p,hp,e⟩:=Option.map_eq_some_iff.1 h;cases e;exact v5z hp
 . obtain ⟨p,hp,e⟩:=Option.map_eq_some_iff.1 h;cases e;exact w4w hp
 . cases h;intro b hb;cases hb
 . cases h;intro b hb;cases hb
 . cases h
theorem y8d {η:List SB}:∀{l:List SV} {r:List AV} {bs:List Nat},y7w η l=some (r,bs)->∀ b∈bs,wry (gB η b)=true
 | [],r,bs,h=>by cases h;intro b hb;cases hb
 | x::l,r,bs,h=>by
  simp only [y7w] at h;split at h
  . rename_i a bs1 r2 bs2 h1 h2
    cases h;intro b hb
    rcases List.mem_append.1 hb with hb | hb
    . exact y3o h1 b hb
    . exact y8d h2 b hb
  . cases h
theorem zui {Mo:Nat->Nat->Prop} (hI:HInv Γ Mo ρ η' w) {x:SV} (h:argD η x=some (a,bs)) (hf:∀ b∈bs,gB η' b=frzB (gB η b))
 (hv:SVR0 η' ρ (MX Mo ρ η') w v x):RdB (MX Mo ρ η') w v a:=by
 unfold argD at h;split at h
 . obtain ⟨p,hp,e⟩:=Option.map_eq_some_iff.1 h;cases e;exact zrl hI hp hf hv
 . obtain ⟨p,hp,e⟩:=Option.map_eq_some_iff.1 h;cases e;obtain ⟨vs,rfl,hr⟩:=hv;exact ⟨vs,rfl,v4g hI hp hf hr⟩
 . cases h;exact hv
 . cases h;trivial
 . cases h
theorem yt1 {Mo:Nat->Nat->Prop} {ρ:Nat->Value} {η η':List SB} {w:World} (hI:HInv Γ Mo ρ η' w):∀{l:List SV} {r:List AV} {bs:List Nat},y7w η l=some (r,bs)->(∀ b∈bs,gB η' b=frzB (gB η b))->∀{vs:List Value},
 SRL η' ρ (MX Mo ρ η') w vs l->RdBL (MX Mo ρ η') w vs r
 | [],r,bs,h,_,vs,hv=>by
  cases h
  cases vs with
  | nil=>trivial
  | cons _ _=>exact hv.elim
 | x::l,r,bs,h,hf,vs,hv=>by
  simp only [y7w] at h;split at h
  . rename_i a bs1 r2 bs2 h1 h2
    cases h
    cases vs with
    | nil=>exact hv.elim
    | cons v vs=>exact ⟨zui hI h1 (fun b hb=>hf b (by simp [hb])) hv.1,yt1 hI h2 (fun b hb=>hf b (by simp [hb])) hv.2⟩
  . cases h
theorem zbd {x:SV} (h:argD η x=some (a,bs)) (ha:∀ b∈bs,gB η' b=gB η b):argD η' x=some (a,bs):=by
 unfold argD at h ⊢;split at h
 . obtain ⟨p,hp,e⟩:=Option.map_eq_some_iff.1 h;cases e;rw [y5z hp ha];rfl
 . obtain ⟨p,hp,e⟩:=Option.map_eq_some_iff.1 h;cases e;rw [vex hp ha];rfl
 . exact h
 . exact h
 . cases h
theorem wut {η η':List SB}:∀{l:List SV} {r:List AV} {bs:List Nat},y7w η l=some (r,bs)->(∀ b∈bs,gB η' b=gB η b)->y7w η' l=some (r,bs)
 | [],r,bs,h,_=>h
 | x::l,r,bs,h,ha=>by
  simp only [y7w] at h ⊢;split at h
  . rename_i a bs1 r2 bs2 h1 h2
    cases h;rw [zbd h1 (fun b hb=>ha b (by simp [hb])),wut h2 (fun b hb=>ha b (by simp [hb]))]
  . cases h
theorem wba {rd:List Nat} {J J':List SV} (hag:agS rd J J'):∀(xs:List Operand),(∀ t∈orrL xs,t∈rd)->vnq Γ J' xs=vnq Γ J xs
 | [],_=>rfl
 | x::xs,h=>by
  simp only [vnq];rw [hag.opd (fun t ht=>h t (by simp [orrL,ht])),wba hag xs (fun t ht=>h t (by simp [orrL,ht]))]
def zt0 (l:List SV):Bool:=l.all y5y
theorem xxh {E:HEnv} {ρ:Nat->Value} {J:List SV} {η:List SB} {a:Act} {w:World} (hI:RI Γ E ρ J η a w):∀(xs:List Operand),zt0 (vnq Γ J xs)=true->SRL η ρ (MX E.Mo ρ η) w (xs.map a.eval) (vnq Γ J xs)
 | [],_=>trivial
 | x::xs,h=>by
  simp only [vnq,zt0,List.all_cons,Bool.and_eq_true] at h;exact ⟨(hI.opd x).to0 h.1,xxh hI xs h.2⟩
theorem zs2 {η:List SB}:∀{l:List SV} {r:List AV} {bs:List Nat},y7w η l=some (r,bs)->zt0 l=true
 | [],r,bs,h=>rfl
 | x::l,r,bs,h=>by
  simp only [y7w] at h;split at h
  . rename_i a bs1 r2 bs2 h1 h2;simp only [zt0,List.all_cons,Bool.and_eq_true];refine ⟨?_,zs2 h2⟩
    cases x<;>first | rfl | cases h1
  . cases h
def xw8:AV->Option SV
 | .one c=>some (.one (.dat c))
 | .agg cs=>some (.agg (cs.map .dat))
 | .elt cs=>some (.elt cs)
 | .any=>some .any
 | _=>none
def xo6:List AV->Option (List SV)
 | []=>some []
 | a::r=>match xw8 a,xo6 r with
  | some x,some l=>some (x::l)
  | _,_=>none
def resS (nb:Nat):AV->Option (SV×Option SB)
 | .tup l=>(xo6 l).map fun l=>(.tup l,none)
 | .arr [] c none=>some (.one (.sl nb c.esz 0 c.cnt),some (.arr c 0 none))
 | a=>(xw8 a).map fun x=>(x,none)
theorem w2c {x:SV} (h:xw8 a=some x) (hv:RdB M w v a):SVR0 η ρ M w v x:=by
 unfold xw8 at h;split at h
 . cases h;exact hv
 . cases h;obtain ⟨vs,rfl,hr⟩:=hv;exact ⟨vs,rfl,RdD.hrl hr⟩
 . cases h;exact hv
 . cases h;trivial
 . cases h
theorem xp5 {η:List SB} {ρ:Nat->Value} {M:Nat->Nat->Prop} {w:World}:∀{l:List AV} {r:List SV} {vs:List Value},xo6 l=some r->RdBL M w vs l->SRL η ρ M w vs r
 | [],r,vs,h,hv=>by
  cases h
  cases vs with
  | nil=>trivial
  | cons _ _=>exact hv.elim
 | a::l,r,vs,h,hv=>by
  simp only [xo6] at h;split at h
  . rename_i x l' h1 h2
    cases h
    cases vs with
    | nil=>exact hv.elim
    | cons v vs=>exact ⟨w2c h1 hv.1,xp5 h2 hv.2⟩
  . cases h
theorem wzs {Mo:Nat->Nat->Prop} {w':World} (h:HInv Γ Mo ρ η w) {e:Ending} (hb:Back (MX Mo ρ η) w res e w') {x:SV} (hr:resS nb res=some (x,ob)) (hroom:ob≠none->η[nb]? = some .fresh) :
 ∃ v ρ',e=.returned v/\Went Γ Mo ρ η w ρ' (appL (oB nb ob) η) w'/\SVR (appL (oB nb ob) η) ρ' (MX Mo ρ' (appL (oB nb ob) η)) w' v x:=by
 obtain ⟨v,rfl,hbl,hrd,hfr⟩:=hb;have hw:=Went.below h hbl;unfold resS at hr;split at hr
 . rename_i l;obtain ⟨l',hl,he⟩:=Option.map_eq_some_iff.1 hr
   cases he;obtain ⟨vs,rfl,hv⟩:=hrd;exact ⟨_,ρ,rfl,hw,vs,rfl,xp5 hl hv⟩
 . rename_i c
   cases hr;obtain ⟨_,_,how⟩:=hrd;obtain ⟨b,T,vs,q,cap,rfl,hbk,hr,hu,hcap,hsz,hM⟩:=how;have hf:=hroom (by simp);have hlt:nb<η.length:=(List.getElem?_eq_some_iff.1 hf).1;have hge:w.heap.size<=b:=hfr rfl;refine ⟨_,upd ρ nb (.pointer (some ⟨b,0,none⟩)),rfl,Went.new h hbl hf (by simp) (fun _ _=>hge) (fun m=>⟨⟨hu,Nat.zero_le _⟩,.inr ⟨b,vs,q,T,rfl,hbk,hr.keep (ydx.shrink w' ?_),by simp⟩⟩),?_⟩
   . rintro b' o' (hm | ⟨i,y,hi,hy,hre,e⟩)
     . exact .inl (.inl hm)
     . rcases wn4 hi with ⟨rfl,rfl⟩ | ⟨hn,hi⟩
       . rw [wty] at e;exact .inr e.symm
       . rw [yml hn] at hre e;exact .inl (.inr ⟨i,y,hi,hy,hre,e⟩)
   . refine ⟨⟨_,by simp only [oB,appL];rw [List.getElem?_set_self hlt],by simp⟩,_,cap,rfl,hcap,fun _=>⟨by rw [wty];simp [real],by rw [wty];simp [bk,blk],_,T,_,by rw [wty];exact hbk,?_⟩⟩;simpa using hsz
 . rename_i a h1 h2;obtain ⟨x',hx,he⟩:=Option.map_eq_some_iff.1 hr
   cases he;refine ⟨v,ρ,rfl,hw,SVR.of0 (w2c hx ?_)⟩;unfold xw8 at hx
   split at hx<;>first | exact hrd | cases hx
def z8h (_Γ:List (Nat×List Cell)) (J:List SV) (η:List SB):Operand->Option (FuncId×List SV×List Nat×List Nat)
 | .func f=>some (f,[],[],[])
 | .tmp t=>match gtS J t with
  | .one (.dat (.raw v))=>(xui v).map fun f=>(f,[],[t],[])
  | .one (.fnr b)=>match gB η b with
   | .clo f caps=>some (f,caps,[t],[b])
   | _=>none
  | _=>none
 | _=>none
theorem x0k {ev:Operand->Value} {xs:Array Operand} {cv:Array Value} (ho:o.op=.call { callee:=.value x,args:=xs,argTypes:=ts }) (hx:ev x=.func (.func f) #[] cv) (hc:ybv P f) (w:World) :
 (execOp ev o).run P w=.ok (.enter f (xs.map ev++cv)) w:=by
 unfold execOp;rw [ho];simp [resolve,Deferred.ofValue,hx,invoke,wbu hc]
theorem yty {E:HEnv} {a:Act} (hI:RI Γ E ρ J η a w) (h:z8h Γ J η x=some (f,caps,rd,rh)) :
 ∃ cv:List Value,a.eval x=.func (.func f) #[] cv.toArray/\SRL η ρ (MX E.Mo ρ η) w cv caps:=by
 unfold z8h at h;split at h
 . cases h;exact ⟨[],rfl,trivial⟩
 . rename_i t;have ht:=hI.gt t;split at h
   . rename_i v hv;obtain ⟨f',hf,he⟩:=Option.map_eq_some_iff.1 h
     cases he;rw [hv] at ht;have e:a.tmps.getD t Go.undef=v:=RdC.v7q ht;exact ⟨[],by show a.tmps.getD t Go.undef=_;rw [e,v3n hf],trivial⟩
   . rename_i b hb;split at h
     . rename_i f' caps' hg
       cases h;rw [hb] at ht;obtain ⟨cv,e,hr⟩:=hI.sbr hg (by simp);exact ⟨cv,by show a.tmps.getD t Go.undef=_;rw [ht.2.1,e],hr⟩
     . cases h
   . cases h
 . cases h
theorem y76 {J':List SV} (h : z8h Γ J η x = some (f, caps, rd, rh)) (hs : ∀ t ∈ rd, gtS J' t = gtS J t) (hb : ∀ b ∈ rh, gB η' b = gB η b) : z8h Γ J' η' x = some (f, caps, rd, rh) := by
 unfold z8h at h ⊢;split at h
 . exact h
 . rename_i t
   have e:gtS J' t=gtS J t:=by
    split at h
    . obtain ⟨f',hf,he⟩:=Option.map_eq_some_iff.1 h;cases he;exact hs t (by simp)
    . split at h
      . cases h;exact hs t (by simp)
      . cases h
    . cases h
   simp only [e];split at h
   . rename_i v hv;exact h
   . rename_i b hbb;split at h
     . rename_i f' caps' hg
       cases h;rw [hb b (by simp),hg]
     . cases h
   . cases h
 . cases h
def yoh (o:Oper) (x:SV):List (Nat×SV):=match o.dst with
 | some d=>[(d,x)]
 | none=>[]
theorem RI.dst {E:HEnv} {ρ:Nat->Value} {J:List SV} {η:List SB} {a:Act} {w:World} (h:RI Γ E ρ J η a w) {o:Oper} {v:Value} {x:SV} (hx:SVR η ρ (MX E.Mo ρ η) w v x):RI Γ E ρ (appL (yoh o x) J) η (a.put o.dst v) w:=by
 unfold yoh
 cases o.dst with
 | none=>exact h
 | some d=>exact h.put hx
theorem vj7 (ho:o.op=.call { callee:=.value x,args:=xs.toArray,argTypes:=ts })
 (hc:z8h Γ J η x=some (f,caps,rd,rh)) (ha:y7w η (vnq Γ J xs++caps)=some (l,bs)) (wdy:CallsD Γ P f l res) {y:SV} (hres:resS nb res=some (y,ob)) (hroom:zrs η nb ob=true) :
 x6g Γ P o J η (vf6 o++rd++orrL xs) (oN nb ob++rh++bs) (yoh o y) (frzE η bs++oB nb ob):=by
 intro E ρ J' η' a w hag hah hI K Q hK;have hc':=y76 hc (fun t ht=>hag.2 t (by simp [ht])) (fun b hb=>hah.gB (by simp [hb]));have hargs:=wba (Γ:=Γ) hag xs (fun t ht=>by simp [ht])
 have hgb:∀ b∈bs,gB η' b=gB η b:=fun b hb=>hah.gB (by simp [hb])
 have ha':=wut ha hgb;have hnt:=zs2 ha'
 have hnt1:zt0 (vnq Γ J' xs)=true:=by
  rw [hargs];unfold zt0 at hnt ⊢;rw [List.all_append,Bool.and_eq_true] at hnt;exact hnt.1
 obtain ⟨cv,hcv,hcr⟩:=yty hI hc';have hsr:=(xxh hI xs hnt1).append hcr;rw [hargs] at hsr;have harr:=y8d ha';obtain ⟨hw1,_,hfz⟩:=Went.frz bs η' hI.inv rfl harr (fun _=>.inl rfl);have hrb:=yt1 hw1.inv ha' hfz (hsr.mv hw1.mv);have hcalls:=wdy.2 _ w _ (fun b o hm=>x6h hw1.inv hm) hw1.inv.glob hrb;unfold Oper.wp;rw [x0k ho hcv wdy.1 w];show Calls P f _ w _
 have e1:xs.toArray.map a.eval++cv.toArray=(xs.map a.eval++cv).toArray:=by simp
 rw [e1];refine hcalls.mono ?_;intro e w' hb
 obtain ⟨v,ρ',rfl,hw2,hv⟩:=wzs hw1.inv hb hres (nb:=nb) (fun hne=>by
  cases ob with
  | none=>exact absurd rfl hne
  | some z=>exact wv4 harr (hah.room (show nb∈oN nb (some z)++rh++bs by simp [oN]) hroom))
 refine hK _ _ ρ' ?_;rw [<-y2c hgb,w8t];exact ((hI.go hw1).go hw2).dst hv
theorem vkx {t:Nat} (ho:o.op=.call { callee:=.value (.tmp t),args:=xs.toArray,argTypes:=ts }) (ht:gtS J t=.one (.dat (.fnp (v0k Γ P F))))
 (ha:y7w η (vnq Γ J xs)=some (l,bs)) (wdy:F l res) {y:SV} (hres:resS nb res=some (y,ob)) (hroom:zrs η nb ob=true) :
 x6g Γ P o J η (vf6 o++t::orrL xs) (oN nb ob++bs) (yoh o y) (frzE η bs++oB nb ob):=by
 intro E ρ J' η' a w hag hah hI K Q hK;have hargs:=wba (Γ:=Γ) hag xs (fun t ht=>by simp [ht])
 have hgb:∀ b∈bs,gB η' b=gB η b:=fun b hb=>hah.gB (by simp [hb])
 have ha':=wut ha hgb;have hnt:=zs2 ha';have hsr:=xxh hI xs (by rw [hargs];exact hnt);rw [hargs] at hsr;have harr:=y8d ha';obtain ⟨hw1,_,hfz⟩:=Went.frz bs η' hI.inv rfl harr (fun _=>.inl rfl);have hrb:=yt1 hw1.inv ha' hfz (hsr.mv hw1.mv);have hf:=(hI.go hw1).gt t;rw [hag.2 t (by simp),ht] at hf;have hf:RdC _ w (a.tmps.getD t Go.undef) (.fnp (v0k Γ P F)):=hf;generalize hv:a.tmps.getD t Go.undef=v at hf
 cases hf with
 | fnp h1 hp=>
  obtain ⟨f,caps,rfl,hcl,hspec⟩:=hp _ w (fun _ _ _ h1 h2=>⟨h1,h2⟩);have hcalls:=hspec l res _ wdy (fun b o hm=>x6h hw1.inv hm) hw1.inv.glob hrb;unfold Oper.wp;rw [x0k (x:=.tmp t) ho hv hcl w];show Calls P f _ w _
  have e1:xs.toArray.map a.eval++caps=(xs.map a.eval).toArray++caps:=by simp
  rw [e1];refine hcalls.mono ?_;intro e w' hb
  obtain ⟨v,ρ',rfl,hw2,hv⟩:=wzs hw1.inv hb hres (nb:=nb) (fun hne=>by
   cases ob with
   | none=>exact absurd rfl hne
   | some z=>exact wv4 harr (hah.room (show nb∈oN nb (some z)++bs by simp [oN]) hroom))
  refine hK _ _ ρ' ?_;rw [<-y2c hgb,w8t];exact ((hI.go hw1).go hw2).dst hv
def yao (Γ:List (Nat×List Cell)) (P:Program) (o:Oper) (J:List SV) (η:List SB) (σ2:List SV) (η2:List SB):Prop:=
 ∀(E:HEnv) (ρ:Nat->Value) (a:Act) (w:World),RI Γ E ρ J η a w->∀(K:Act->World->Prop) (Q:Exit->Act->World->Prop),
  (∀ a' w' ρ',RI Γ E ρ' σ2 η2 a' w'->K a' w')->o.wp P a w K Q
theorem x6g.p (h:x6g Γ P o J η rd rh eff heff):yao Γ P o J η (appL eff J) (appL heff η):=
 fun E ρ a w hI K Q hK=>h E ρ J η a w ⟨rfl,fun _ _=>rfl⟩ ⟨rfl,fun _ _=>rfl⟩ hI K Q hK
theorem x6g.px (h:x6g Γ P o J (η++[.fresh]) rd rh eff heff):yao Γ P o J η (appL eff J) (appL heff (η++[.fresh])):=
 fun E ρ a w hI K Q hK=>h.p E ρ a w (hI.go (Went.extend hI.inv 1)) K Q hK
theorem wtx (ho:o.op=.call { callee:=.value x,args:=xs.toArray,argTypes:=ts })
 (hc:z8h Γ J η x=some (f,caps,rd,rh)) (hnt:zt0 (vnq Γ J xs)=true) {res:SV} (wdy:xbh Γ P f η (vnq Γ J xs++caps) η' res) :
 yao Γ P o J η (appL (yoh o res) J) η':=by
 intro E ρ a w hI K Q hK;obtain ⟨cv,hcv,hcr⟩:=yty hI hc;have hsr:=(xxh hI xs hnt).append hcr;have hcalls:=wdy.2 _ ρ w _ hI.inv hsr;unfold Oper.wp;rw [x0k ho hcv wdy.1 w];show Calls P f _ w _
 have e1:xs.toArray.map a.eval++cv.toArray=(xs.map a.eval++cv).toArray:=by simp
 rw [e1];refine hcalls.mono ?_;rintro e w' ⟨v,ρ',rfl,hw,hv⟩;exact hK _ _ ρ' ((hI.go hw).dst hv)
theorem wkv (ho:o.op=.call { callee:=.value x,args:=xs.toArray,argTypes:=ts })
 (hc:z8h Γ J η x=some (f,caps,rd,rh)) (hnt:zt0 (vnq Γ J xs)=true) {res:SV} (wdy:xbh Γ P f η (vnq Γ J xs++caps) (appL heff η) res) :
 x6g Γ P o J η (vf6 o++rd++orrL xs) (List.range η.length) (yoh o res) heff:=by
 intro E ρ J' η' a w hag hah hI K Q hK
 have hη:η'=η:=by
  apply List.ext_getElem?;intro i;by_cases hi:i<η.length
  . exact hah.2 i (by simpa using hi)
  . rw [List.getElem?_eq_none (by rw [hah.1];omega),List.getElem?_eq_none (by omega)]
 subst hη;have hc':=y76 hc (fun t ht=>hag.2 t (by simp [ht])) (fun b _=>rfl);have hargs:=wba (Γ:=Γ) hag xs (fun t ht=>by simp [ht])
 have:=wtx (o:=o) (J:=J') (η:=η') ho hc' (by rw [hargs];exact hnt) (by rw [hargs];exact wdy)
 exact this E ρ a w hI K Q hK
theorem vmz {d:Nat} (ho:o.op=.makeFunc (.func f) #[] xs.toArray) (hdst:o.dst=some d) (hnt:zt0 (vnq Γ J xs)=true) (hroom:y6w η nb=true) :
 x6g Γ P o J η (d::orrL xs) [nb] [(d,.one (.fnr nb))] [(nb,.clo f (vnq Γ J xs))]:=by
 refine x6g.val hdst (fun E ρ J' η' a w hag hah hI=>?_);have hargs:=wba (Γ:=Γ) hag xs (fun t ht=>by simp [ht]);have hsr:=xxh hI xs (by rw [hargs];exact hnt);rw [hargs] at hsr;have hfr:=hah.room (by simp) hroom;have hlt:nb<η'.length:=(List.getElem?_eq_some_iff.1 hfr).1;refine ⟨.func (.func f) #[] (xs.map a.eval).toArray,w,upd ρ nb (.func (.func f) #[] (xs.map a.eval).toArray),by simp [execOp,ho,Instr.makeFunc],Went.new hI.inv (xr1 w) hfr (by simp) (fun h=>by cases h) (fun m=>⟨_,rfl,hsr.mv m⟩),?_⟩;exact ⟨⟨_,by simp [appL,hlt];rfl,by simp⟩,by rw [wty],rfl⟩
theorem w4i {d:Nat} (ho:o.op=.makeFunc (.func f) #[] xs.toArray) (hdst:o.dst=some d) {caps:List AV} (ha:y7w η (vnq Γ J xs)=some (caps,bs))
 (wdy:ybv P f) (hF:∀ args res,F args res->CallsD Γ P f (args++caps) res) :
 x6g Γ P o J η (d::orrL xs) bs [(d,.one (.dat (.fnp (v0k Γ P F))))] (frzE η bs):=by
 refine x6g.val hdst (fun E ρ J' η' a w hag hah hI=>?_);have hargs:=wba (Γ:=Γ) hag xs (fun t ht=>by simp [ht])
 have hgb:∀ b∈bs,gB η' b=gB η b:=fun b hb=>hah.gB hb
 have ha':=wut ha hgb;have hsr:=xxh hI xs (by rw [hargs];exact zs2 ha');rw [hargs] at hsr;have harr:=y8d ha';obtain ⟨hw1,_,hfz⟩:=Went.frz bs η' hI.inv rfl harr (fun _=>.inl rfl);have hrb:=yt1 hw1.inv ha' hfz (hsr.mv hw1.mv);rw [<-y2c hgb];refine ⟨.func (.func f) #[] (xs.map a.eval).toArray,w,ρ,by simp [execOp,ho,Instr.makeFunc],hw1,RdC.fnp rfl (fun M' w' hk=>⟨f,_,rfl,wdy,fun args res vs hres hb hg hrd=>?_⟩)⟩
 have:=(hF args res hres).2 M' w' (vs++xs.map a.eval) hb hg (hrd.append (hrb.keep hk))
 simpa using this
end Go.Hp
