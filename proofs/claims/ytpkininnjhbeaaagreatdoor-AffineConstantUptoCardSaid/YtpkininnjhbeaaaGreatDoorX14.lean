/- The proof, part X14: Hh, Hi. -/
import Derived.Test.YtpkininnjhbeaaaGreatDoorX13
import Derived.Laws.StructEq
import Derived.Laws.NewFold
import Derived.MapKept
namespace Go.Hp
open Go Go.RowKit Go.Slot
variable {P:Program} {Γ:List (Nat×List Cell)}
variable {k k' v:Value} {kt T et:TypeId} {tk ti:TI} {x y:Operand} {o:Oper} {I caps:List SV} {J J':List SB} {nb b:Nat} {es:List (Value×SV)} {ρ:Nat->Value} {M Mo:Nat->Nat->Prop} {w:World} {f:FuncId} {res a:AV} {bs rd rh:List Nat} {ob:Option SB} {xs:List Operand} {ts:Array TypeId} {l:List AV} {F:List AV->AV->Prop} {heff:List (Nat×SB)}
def kEq:Value->Value->Option Bool
 | .int k a,.int k' b=>if k=k' then some (a==b) else none
 | .string a,.string b=>some (seq a b)
 | .bool a,.bool b=>some (a==b)
 | _,_=>none
def yvo:List (Value×SV)->Value->Option (Option SV)
 | [],_=>some none
 | (k',x)::r,k=>match kEq k k' with
  | some true=>some (some x)
  | some false=>yvo r k
  | none=>none
def updM:List (Value×SV)->Value->SV->Option (List (Value×SV))
 | [],k,v=>some [(k,v)]
 | (k',x)::r,k,v=>match kEq k k' with
  | some true=>some ((k,v)::r)
  | some false=>(updM r k v).map ((k',x)::·)
  | none=>none
def wdo (sh:Sh):Value->Bool
 | .int k _=>match sh with
  | .int k'=>k==k'
  | _=>false
 | .string _=>match sh with
  | .string=>true
  | _=>false
 | .bool _=>match sh with
  | .bool=>true
  | _=>false
 | _=>false
def keyV:SV->Option Value
 | .one (.dat (.raw v))=>some v
 | _=>none
theorem vys {d:TypeDesc} (h:wdo (shOf P d) k=true):(∃ q n,d=.int q/\k=.int q n)\/(∃ s,d=.string/\k=.string s)\/(∃ b,d=.bool/\k=.bool b):=by
 unfold wdo at h;split at h
 . rename_i q n;split at h
   . rename_i q' hs
     have:=xlv hs
     subst this;simp only [beq_iff_eq] at h;subst h;exact .inl ⟨_,_,rfl,rfl⟩
   . cases h
 . split at h
   . rename_i s _ hs;exact .inr (.inl ⟨_,wbh hs,rfl⟩)
   . cases h
 . split at h
   . rename_i b _ hs;exact .inr (.inr ⟨_,w1b hs,rfl⟩)
   . cases h
 . cases h
theorem run_checkKey (htk:mkTI P kt=some tk) (hk:wdo tk.sh k=true) (b:Bool) (n:Nat) (w:World):(Instr.checkKey b (n+1) kt k).run P w=.ok () w:=by
 obtain ⟨d,i,z,hd,_,_,_,_,_,_,_,hsh⟩:=(wgk htk).ex;rw [hsh] at hk
 rcases vys hk with ⟨q,n,rfl,rfl⟩ | ⟨s,rfl,rfl⟩ | ⟨b,rfl,rfl⟩<;>simp [Instr.checkKey,w9c hd]
theorem xov {d:TypeDesc} (h:wdo (shOf P d) k=true):Instr.sameNow d k k'=kEq k k':=by
 rcases vys h with ⟨q,n,rfl,rfl⟩ | ⟨s,rfl,rfl⟩ | ⟨b,rfl,rfl⟩<;>cases k'<;>first | rfl | exact congrArg some (beq_toListBytes _ _)
section
variable {J:List SB} {ρ:Nat->Value} {M:Nat->Nat->Prop} {w:World}
theorem v32 {d:TypeDesc} {k:Value} (hk:wdo (shOf P d) k=true):∀{es:List MapEntry} {l:List (Value×SV)} (i:Nat),EnR J ρ M w es l->∀{r:Option SV},yvo l k=some r->
 (r=none/\Instr.findNow d k es i=some none)\/∃ x j v,r=some x/\Instr.findNow d k es i=some (some (j,v))/\SVR0 J ρ M w v x
 | [],[],i,_,r,h=>by cases h;exact .inl ⟨rfl,rfl⟩
 | e::es,(k',x)::l,i,hr,r,h=>by
  simp only [yvo] at h
  have hs:Instr.sameNow d k e.key=kEq k k':=by rw [xov hk,hr.1.1]
  unfold Instr.findNow;rw [hs];split at h
  . rename_i he;cases h;rw [he];exact .inr ⟨x,i,e.val,rfl,rfl,hr.1.2⟩
  . rename_i he;rw [he];exact v32 hk (i+1) hr.2 h
  . cases h
theorem y2b {d:TypeDesc} {k:Value} (hk:wdo (shOf P d) k=true) {v:Value} {x:SV} (hv:SVR0 J ρ M w v x) (clk:Nat):∀{es:List MapEntry} {l l':List (Value×SV)} (i:Nat),EnR J ρ M w es l->updM l k x=some l'->
 (Instr.findNow d k es i=some none/\EnR J ρ M w (es++[{ key:=k,val:=v,born:=clk }]) l')\/
 ∃ j u e,Instr.findNow d k es i=some (some (i+j,u))/\es[j]? = some e/\kEq k e.key=some true/\EnR J ρ M w (es.modify j fun e=>{ e with key:=k,val:=v }) l'
 | [],[],l',i,_,h=>by cases h;exact .inl ⟨rfl,⟨⟨rfl,hv⟩,trivial⟩⟩
 | e::es,(k',y)::l,l',i,hr,h=>by
  simp only [updM] at h
  have hs:Instr.sameNow d k e.key=kEq k k':=by rw [xov hk,hr.1.1]
  unfold Instr.findNow;rw [hs];split at h
  . rename_i he
    cases h;rw [he];exact .inr ⟨0,e.val,e,rfl,rfl,by rw [hr.1.1];exact he,⟨⟨rfl,hv⟩,hr.2⟩⟩
  . rename_i he;obtain ⟨l2,h2,rfl⟩:=Option.map_eq_some_iff.1 h;rw [he]
    rcases y2b hk hv clk (i+1) hr.2 h2 with ⟨h3,h4⟩ | ⟨j,u,e',h3,h4,h5,h6⟩
    . exact .inl ⟨h3,⟨hr.1,h4⟩⟩
    . exact .inr ⟨j+1,u,e',by rw [show i+(j+1)=i+1+j by omega];exact h3,by simpa using h4,h5,⟨hr.1,h6⟩⟩
  . cases h
end
theorem y8a {d:TypeDesc} (hk:wdo (shOf P d) k=true) (h:kEq k k'=some true) (n:Nat):Instr.sameBits n k' k=true:=by
 rcases vys hk with ⟨q,m,rfl,rfl⟩ | ⟨s,rfl,rfl⟩ | ⟨b,rfl,rfl⟩
 . cases k'<;>simp only [kEq] at h<;>first | (cases h;done) | skip
   split at h
   . rename_i e;simp at h;subst e;subst h;simp [Instr.sameBits]
   . cases h
 . cases k'<;>simp only [kEq] at h<;>first | (cases h;done) | skip
   have e:=(MapKept.bytes_beq _ _).1 ((beq_toListBytes _ _).trans (Option.some.inj h));subst e;simp only [Instr.sameBits];exact (MapKept.bytes_beq _ _).2 rfl
 . cases k'<;>simp only [kEq] at h<;>first | (cases h;done) | skip
   simp at h;subst h;simp [Instr.sameBits]
def zeroV:Value->Option SV
 | .agg vs=>if vs.toList.all (·.oneCell') then some (.agg ((vs.toList.map zm7).map .dat)) else none
 | .tuple _=>none
 | v=>some (.one (.dat (zm7 v)))
def zya (P:Program) (t:TypeId):Option SV:=match P.info? t with
 | some i=>match i.zero with
  | some z=>zeroV z
  | none=>none
 | none=>none
theorem zdf {t : TypeId} {x : SV} (h : zya P t = some x) : ∃ z, (∀ w, (zeroValue t).run P w = .ok z w) ∧ ∀ (J : List SB) (ρ : Nat → Value) (M : Nat → Nat → Prop) (w : World), SVR0 J ρ M w z x := by
 unfold zya at h;split at h
 . rename_i i hi;split at h
   . rename_i z hz;refine ⟨z,fun w=>wx4 hi hz,fun J ρ M w=>?_⟩;unfold zeroV at h;split at h
     . rename_i vs;split at h
       . rename_i hall
         cases h;exact ⟨vs.toList,by simp,vrd (fun v hv=>(List.all_eq_true.1 hall) v hv)⟩
       . cases h
     . cases h
     . rename_i h1 h2
       cases h;refine vo6 ?_
       cases z<;>first | rfl | exact absurd rfl (h1 _) | exact absurd rfl (h2 _)
   . cases h
 . cases h
theorem y69 {d:Nat} (ho:o.op=.makeMap T none) (hdst:o.dst=some d) (hroom:y4f J nb=true) :
 vbd Γ P o I J [d] [nb] [(d,.one (.mp nb))] [(nb,.map [])]:=by
 refine vbd.val hdst (fun E ρ I' J' a w hag hah hI=>?_);have hfr:=hah.room (by simp) hroom;have hlt:nb<J'.length:=(List.getElem?_eq_some_iff.1 hfr).1;have hb:Below w.heap.size w (w.alloc (.map #[] 0)):=(Below.refl _ _).alloc (Nat.le_refl _) _;refine ⟨.map (some w.heap.size),w.alloc (.map #[] 0),upd ρ nb (.map (some w.heap.size)),?_,Went.new hI.inv hb hfr (by simp) (fun _ _=>Nat.le_refl _) (fun m=>⟨w.heap.size,#[],0,rfl,xp1 w _,trivial⟩),?_⟩
 . simp [execOp,ho,Instr.makeMap]
 . exact ⟨⟨_,by simp [appL,hlt];rfl,by simp⟩,by rw [yr4],rfl⟩
def vi3 (ok:Bool) (r:Option SV) (zero:SV):SV:=match ok with
 | true=>match r with
  | some x=>.tup [x,.one (.dat (.raw (.bool true)))]
  | none=>.tup [zero,.one (.dat (.raw (.bool false)))]
 | false=>match r with
  | some x=>x
  | none=>zero
def wii (J:List SB):SV->Option (Nat×List (Value×SV))
 | .one (.mp b)=>match gB J b with
  | .map es=>some (b,es)
  | _=>none
 | _=>none
theorem zb8 {ok:Bool} {d:Nat} (ho:o.op=.lookup T x y ok) (hdst:o.dst=some d) (hti:mkTI P T=some ti) (hsh:ti.sh=.map kt et) (htk:mkTI P kt=some tk)
 (hm:wii J (opdS Γ I x)=some (b,es)) (hkv:keyV (opdS Γ I y)=some k) (hk:wdo tk.sh k=true) {r:Option SV} (hr:yvo es k=some r) {zero:SV} (hz:zya P et=some zero) :
 vbd Γ P o I J (d::(orr x++orr y)) [b] [(d,vi3 ok r zero)] []:=by
 refine vbd.pure hdst (fun E ρ I' J' a w hag hah hI=>?_);have hx:=hI.opd x;have hy:=hI.opd y;rw [hag.opd (fun t ht=>by simp [ht])] at hx hy;unfold wii at hm;split at hm
 case h_2=>cases hm
 rename_i b' hxe;split at hm
 case h_2=>cases hm
 rename_i es' hb
 cases hm;rw [hxe] at hx
 have hb':gB J' b=.map es:=by rw [hah.gB (by simp)];exact hb
 obtain ⟨bb,ents,clk,he,hh,hen⟩:=hI.sbr hb' (by simp)
 have hkey:a.eval y=k:=by
  unfold keyV at hkv;split at hkv
  . rename_i v hye;cases hkv;rw [hye] at hy;exact RdC.x18 hy
  . cases hkv
 obtain ⟨dd,i,z,hd,hi,hz',_,_,_,_,_,hsh'⟩:=(wgk hti).ex;have hmap:=w8w (hsh'.symm.trans hsh);subst hmap;obtain ⟨dk,ik,zk,hdk,_,_,_,_,_,_,_,hshk⟩:=(wgk htk).ex
 have hmv:a.eval x=.map (some bb):=by rw [hx.2.1,he]
 obtain ⟨zv,hzrun,hzr⟩:=zdf hz;have hck:=run_checkKey htk hk ents.isEmpty 9999 w
 have hk':wdo (shOf P dk) k=true:=by rw [<-hshk];exact hk
 have hrun:∀ fo,Instr.findNow dk k ents.toList 0=some fo->(Instr.lookup T (.map (some bb)) k ok).run P w=.ok (if ok then .tuple #[(fo.map (·.2)).getD zv,.bool fo.isSome] else (fo.map (·.2)).getD zv) w:=fun fo hfo=>by
  cases fo with
  | none=>cases ok<;>simp [Instr.lookup,w9c hd,getObj,Sem.run,hh,hck,Instr.findKey,w9c hdk,hfo,hzrun]
  | some p=>cases ok<;>simp [Instr.lookup,w9c hd,getObj,Sem.run,hh,hck,Instr.findKey,w9c hdk,hfo]
 rcases v32 hk' 0 hen hr with ⟨rfl,hf⟩ | ⟨xx,j,v,rfl,hf,hv⟩
 . refine ⟨_,by simp only [execOp,ho,hmv,hkey,Sem.run_bind,hrun _ hf];rfl,?_⟩
   cases ok
   . exact SVR.of0 (hzr _ _ _ _)
   . exact ⟨[zv,.bool false],rfl,hzr _ _ _ _,RdC.raw rfl,trivial⟩
 . refine ⟨_,by simp only [execOp,ho,hmv,hkey,Sem.run_bind,hrun _ hf];rfl,?_⟩
   cases ok
   . exact SVR.of0 hv
   . exact ⟨[v,.bool true],rfl,hv,RdC.raw rfl,trivial⟩
def vms:SV->Bool
 | .tup _=>false
 | _=>true
theorem SVR.to0 {x:SV} (hn:vms x=true) (h:SVR J ρ M w v x):SVR0 J ρ M w v x:=by
 cases x<;>first | exact h | cases hn
theorem vjc {z:Operand} (ho:o.op=.mapUpdate T x y z\/o.op=.insert T x y z) (hdst:o.dst=none) (hti:mkTI P T=some ti) (hsh:ti.sh=.map kt et) (htk:mkTI P kt=some tk)
 {es':List (Value×SV)} (hm:wii J (opdS Γ I x)=some (b,es)) (hkv:keyV (opdS Γ I y)=some k) (hk:wdo tk.sh k=true) (hn:vms (opdS Γ I z)=true) (hu:updM es k (opdS Γ I z)=some es') :
 vbd Γ P o I J (orr x++orr y++orr z) [b] [] [(b,.map es')]:=by
 refine vbd.skip hdst (fun E ρ I' J' a w hag hah hI=>?_);have hx:=hI.opd x;have hy:=hI.opd y;have hz:=hI.opd z;rw [hag.opd (fun t ht=>by simp [ht])] at hx hy hz;unfold wii at hm;split at hm
 case h_2=>cases hm
 rename_i b' hxe;split at hm
 case h_2=>cases hm
 rename_i es0 hb
 cases hm;rw [hxe] at hx
 have hb':gB J' b=.map es:=by rw [hah.gB (by simp)];exact hb
 obtain ⟨bb,ents,clk,he,hh,hen⟩:=hI.sbr hb' (by simp)
 have hkey:a.eval y=k:=by
  unfold keyV at hkv;split at hkv
  . rename_i v hye;cases hkv;rw [hye] at hy;exact RdC.x18 hy
  . cases hkv
 obtain ⟨dd,i,zz,hd,hi,hz',_,_,_,_,_,hsh'⟩:=(wgk hti).ex;have hmap:=w8w (hsh'.symm.trans hsh);subst hmap;obtain ⟨dk,ik,zk,hdk,_,_,_,_,_,_,_,hshk⟩:=(wgk htk).ex
 have hmv:a.eval x=.map (some bb):=by rw [hx.2.1,he]
 have hck:=run_checkKey htk hk false 9999 w
 have hk':wdo (shOf P dk) k=true:=by rw [<-hshk];exact hk
 have hbk:bk (ρ b)=bb:=by rw [he];rfl
 have fin:∀ ob:Obj,(∃ en' clk',ob=.map en' clk'/\EnR J' ρ (MX E.Mo ρ J') w en'.toList es')->(Instr.mapUpdate T (.map (some bb)) k (a.eval z)).run P w=.ok () { w with heap:=w.heap.setIfInBounds bb ob }->
  ∃ w' ρ',(execOp a.eval o).run P w=.ok .skip w'/\Went Γ E.Mo ρ J' w ρ' (appL [(b,.map es')] J') w':=fun ob hob hrun=>by
  obtain ⟨en',clk',rfl,hen'⟩:=hob;have hlt:bb<w.heap.size:=(Array.getElem?_eq_some_iff.1 hh).1;refine ⟨{ w with heap:=w.heap.setIfInBounds bb (.map en' clk') },ρ,?_,Went.write hI.inv (xuw hb' (by simp)) rfl (by rw [he];simp [real]) rfl (fun o=>Iff.rfl) (by simp) rfl rfl rfl (fun kk hkk=>?_) (fun i arr T fz hi'=>?_) (fun oo u _ hc=>?_) (fun m=>⟨bb,en',clk',he,by simp [hlt],hen'.mv m⟩)⟩
  . rcases ho with ho | ho<;>simp [execOp,ho,hmv,hkey,hrun]
  . rw [hbk] at hkk;simp only [Array.getElem?_setIfInBounds_ne (Ne.symm hkk)]
  . by_cases e:i=bb
    . subst e;rw [hh] at hi';cases hi'
    . exact ⟨arr,T,fz,by simp only [Array.getElem?_setIfInBounds_ne (Ne.symm e)];exact hi',Nat.le_refl _⟩
  . rw [hbk] at hc;simp [World.cell?,hh] at hc
 rcases y2b hk' (hz.to0 hn) clk 0 hen hu with ⟨hf,hen'⟩ | ⟨j,u,e,hf,hj,hq,hen'⟩
 . refine fin (.map (ents.push { key:=k,val:=a.eval z,born:=clk }) (clk+1)) ⟨_,_,rfl,by simpa using hen'⟩ ?_;simp [Instr.mapUpdate,w9c hd,getObj,setObj,Sem.run,hh,hck,Instr.findKey,w9c hdk,hf]
 . refine fin (.map (ents.modify j fun e=>{ e with key:=k,val:=a.eval z }) clk) ⟨_,_,rfl,by simpa using hen'⟩ ?_;rw [Nat.zero_add] at hf
   have hj':ents[j]? = some e:=by simpa using hj
   have hsb:=y8a hk' hq 10000;simp [Instr.mapUpdate,w9c hd,getObj,setObj,Sem.run,hh,hck,Instr.findKey,w9c hdk,hf,Instr.keyThatStays,hj',hsb]
def CallsD (Γ:List (Nat×List Cell)) (P:Program) (f:FuncId) (args:List AV) (res:AV):Prop:=
 yss P f/\∀(M:Nat->Nat->Prop) (w:World) (vs:List Value),Bounded M w->y72 Γ M w->RdBL M w vs args->Calls P f vs.toArray w (Back M w res)
theorem y4n.d {args:List AV} (h:y4n P f args res):CallsD Γ P f args res:=⟨h.1,fun M w vs hb _ hr=>h.2 M w vs hb hr⟩
def xfz (Γ:List (Nat×List Cell)) (Mo:Nat->Nat->Prop) (ρ:Nat->Value) (J:List SB) (w:World) (J':List SB) (res:SV):Ending->World->Prop:=fun e w'=>
 ∃ v ρ',e=.returned v/\Went Γ Mo ρ J w ρ' J' w'/\SVR J' ρ' (MX Mo ρ' J') w' v res
def xpp (Γ:List (Nat×List Cell)) (P:Program) (f:FuncId) (J:List SB) (args:List SV) (J':List SB) (res:SV):Prop:=
 yss P f/\∀(Mo:Nat->Nat->Prop) (ρ:Nat->Value) (w:World) (vs:List Value),HInv Γ Mo ρ J w->SRL J ρ (MX Mo ρ J) w vs args->Calls P f vs.toArray w (xfz Γ Mo ρ J w J' res)
def zw4 (Γ:List (Nat×List Cell)) (P:Program) (F:List AV->AV->Prop) (M:Nat->Nat->Prop) (w:World) (v:Value):Prop:=
 ∃ f caps,v=.func (.func f) #[] caps/\yss P f/\∀ args res vs,F args res->Bounded M w->y72 Γ M w->RdBL M w vs args->Calls P f (vs.toArray++caps) w (Back M w res)
def argD (J:List SB):SV->Option (AV×List Nat)
 | .one h=>(zyf J h).map fun p=>(.one p.1,p.2)
 | .agg hs=>(w8n J hs).map fun p=>(.agg p.1,p.2)
 | .elt cs=>some (.elt cs,[])
 | .any=>some (.any,[])
 | _=>none
def zfb (J:List SB):List SV->Option (List AV×List Nat)
 | []=>some ([],[])
 | x::r=>match argD J x,zfb J r with
  | some (a,bs),some (l,bs')=>some (a::l,bs++bs')
  | _,_=>none
def wy6 (Γ:List (Nat×List Cell)) (I:List SV):List Operand->List SV
 | []=>[]
 | x::r=>opdS Γ I x::wy6 Γ I r
theorem ze2 {x:SV} (h:argD J x=some (a,bs)):∀ b∈bs,y10 (gB J b)=true:=by
 unfold argD at h;split at h
 . obtain ⟨p,hp,e⟩:=Option.map_eq_some_iff.1 h;cases e;exact wtq hp
 . obtain ⟨p,hp,e⟩:=Option.map_eq_some_iff.1 h;cases e;exact y93 hp
 . cases h;intro b hb;cases hb
 . cases h;intro b hb;cases hb
 . cases h
theorem yig {J:List SB}:∀{l:List SV} {r:List AV} {bs:List Nat},zfb J l=some (r,bs)->∀ b∈bs,y10 (gB J b)=true
 | [],r,bs,h=>by cases h;intro b hb;cases hb
 | x::l,r,bs,h=>by
  simp only [zfb] at h;split at h
  . rename_i a bs1 r2 bs2 h1 h2
    cases h;intro b hb
    rcases List.mem_append.1 hb with hb | hb
    . exact ze2 h1 b hb
    . exact yig h2 b hb
  . cases h
theorem xnj (hI:HInv Γ Mo ρ J' w) {x:SV} (h:argD J x=some (a,bs)) (hf:∀ b∈bs,gB J' b=frzB (gB J b))
 (hv:SVR0 J' ρ (MX Mo ρ J') w v x):RdB (MX Mo ρ J') w v a:=by
 unfold argD at h;split at h
 . obtain ⟨p,hp,e⟩:=Option.map_eq_some_iff.1 h;cases e;exact yw5 hI hp hf hv
 . obtain ⟨p,hp,e⟩:=Option.map_eq_some_iff.1 h;cases e;obtain ⟨vs,rfl,hr⟩:=hv;exact ⟨vs,rfl,zqm hI hp hf hr⟩
 . cases h;exact hv
 . cases h;trivial
 . cases h
theorem zlh {Mo:Nat->Nat->Prop} {ρ:Nat->Value} {J J':List SB} {w:World} (hI:HInv Γ Mo ρ J' w):∀{l:List SV} {r:List AV} {bs:List Nat},zfb J l=some (r,bs)->(∀ b∈bs,gB J' b=frzB (gB J b))->∀{vs:List Value},
 SRL J' ρ (MX Mo ρ J') w vs l->RdBL (MX Mo ρ J') w vs r
 | [],r,bs,h,_,vs,hv=>by
  cases h
  cases vs with
  | nil=>trivial
  | cons _ _=>exact hv.elim
 | x::l,r,bs,h,hf,vs,hv=>by
  simp only [zfb] at h;split at h
  . rename_i a bs1 r2 bs2 h1 h2
    cases h
    cases vs with
    | nil=>exact hv.elim
    | cons v vs=>exact ⟨xnj hI h1 (fun b hb=>hf b (by simp [hb])) hv.1,zlh hI h2 (fun b hb=>hf b (by simp [hb])) hv.2⟩
  . cases h
theorem xte {x:SV} (h:argD J x=some (a,bs)) (ha:∀ b∈bs,gB J' b=gB J b):argD J' x=some (a,bs):=by
 unfold argD at h ⊢;split at h
 . obtain ⟨p,hp,e⟩:=Option.map_eq_some_iff.1 h;cases e;rw [xm5 hp ha];rfl
 . obtain ⟨p,hp,e⟩:=Option.map_eq_some_iff.1 h;cases e;rw [vrp hp ha];rfl
 . exact h
 . exact h
 . cases h
theorem zei {J J':List SB}:∀{l:List SV} {r:List AV} {bs:List Nat},zfb J l=some (r,bs)->(∀ b∈bs,gB J' b=gB J b)->zfb J' l=some (r,bs)
 | [],r,bs,h,_=>h
 | x::l,r,bs,h,ha=>by
  simp only [zfb] at h ⊢;split at h
  . rename_i a bs1 r2 bs2 h1 h2
    cases h;rw [xte h1 (fun b hb=>ha b (by simp [hb])),zei h2 (fun b hb=>ha b (by simp [hb]))]
  . cases h
theorem wk7 {rd:List Nat} {I I':List SV} (hag:agS rd I I'):∀(xs:List Operand),(∀ t∈orrL xs,t∈rd)->wy6 Γ I' xs=wy6 Γ I xs
 | [],_=>rfl
 | x::xs,h=>by
  simp only [wy6];rw [hag.opd (fun t ht=>h t (by simp [orrL,ht])),wk7 hag xs (fun t ht=>h t (by simp [orrL,ht]))]
def voj (l:List SV):Bool:=l.all vms
theorem xw8 {E:HEnv} {ρ:Nat->Value} {I:List SV} {J:List SB} {a:Act} {w:World} (hI:RI Γ E ρ I J a w):∀(xs:List Operand),voj (wy6 Γ I xs)=true->SRL J ρ (MX E.Mo ρ J) w (xs.map a.eval) (wy6 Γ I xs)
 | [],_=>trivial
 | x::xs,h=>by
  simp only [wy6,voj,List.all_cons,Bool.and_eq_true] at h;exact ⟨(hI.opd x).to0 h.1,xw8 hI xs h.2⟩
theorem w9u {J:List SB}:∀{l:List SV} {r:List AV} {bs:List Nat},zfb J l=some (r,bs)->voj l=true
 | [],r,bs,h=>rfl
 | x::l,r,bs,h=>by
  simp only [zfb] at h;split at h
  . rename_i a bs1 r2 bs2 h1 h2;simp only [voj,List.all_cons,Bool.and_eq_true];refine ⟨?_,w9u h2⟩
    cases x<;>first | rfl | cases h1
  . cases h
def z5d:AV->Option SV
 | .one c=>some (.one (.dat c))
 | .agg cs=>some (.agg (cs.map .dat))
 | .elt cs=>some (.elt cs)
 | .any=>some .any
 | _=>none
def vug:List AV->Option (List SV)
 | []=>some []
 | a::r=>match z5d a,vug r with
  | some x,some l=>some (x::l)
  | _,_=>none
def resS (nb:Nat):AV->Option (SV×Option SB)
 | .tup l=>(vug l).map fun l=>(.tup l,none)
 | .arr [] c none=>some (.one (.sl nb c.esz 0 c.cnt),some (.arr c 0 none))
 | a=>(z5d a).map fun x=>(x,none)
theorem zkq {x:SV} (h:z5d a=some x) (hv:RdB M w v a):SVR0 J ρ M w v x:=by
 unfold z5d at h;split at h
 . cases h;exact hv
 . cases h;obtain ⟨vs,rfl,hr⟩:=hv;exact ⟨vs,rfl,RdD.hrl hr⟩
 . cases h;exact hv
 . cases h;trivial
 . cases h
theorem ypo {J:List SB} {ρ:Nat->Value} {M:Nat->Nat->Prop} {w:World}:∀{l:List AV} {r:List SV} {vs:List Value},vug l=some r->RdBL M w vs l->SRL J ρ M w vs r
 | [],r,vs,h,hv=>by
  cases h
  cases vs with
  | nil=>trivial
  | cons _ _=>exact hv.elim
 | a::l,r,vs,h,hv=>by
  simp only [vug] at h;split at h
  . rename_i x l' h1 h2
    cases h
    cases vs with
    | nil=>exact hv.elim
    | cons v vs=>exact ⟨zkq h1 hv.1,ypo h2 hv.2⟩
  . cases h
theorem w6y {w':World} (h:HInv Γ Mo ρ J w) {e:Ending} (hb:Back (MX Mo ρ J) w res e w') {x:SV} (hr:resS nb res=some (x,ob)) (hroom:ob≠none->J[nb]? = some .fresh) :
 ∃ v ρ',e=.returned v/\Went Γ Mo ρ J w ρ' (appL (oB nb ob) J) w'/\SVR (appL (oB nb ob) J) ρ' (MX Mo ρ' (appL (oB nb ob) J)) w' v x:=by
 obtain ⟨v,rfl,hbl,hrd,hfr⟩:=hb;have hw:=Went.below h hbl;unfold resS at hr;split at hr
 . rename_i l;obtain ⟨l',hl,he⟩:=Option.map_eq_some_iff.1 hr
   cases he;obtain ⟨vs,rfl,hv⟩:=hrd;exact ⟨_,ρ,rfl,hw,vs,rfl,ypo hl hv⟩
 . rename_i c
   cases hr;obtain ⟨_,_,how⟩:=hrd;obtain ⟨b,T,vs,q,cap,rfl,hbk,hr,hu,hcap,hsz,hM⟩:=how;have hf:=hroom (by simp);have hlt:nb<J.length:=(List.getElem?_eq_some_iff.1 hf).1;have hge:w.heap.size<=b:=hfr rfl;refine ⟨_,upd ρ nb (.pointer (some ⟨b,0,none⟩)),rfl,Went.new h hbl hf (by simp) (fun _ _=>hge) (fun m=>⟨⟨hu,Nat.zero_le _⟩,.inr ⟨b,vs,q,T,rfl,hbk,hr.keep (wf2.shrink w' ?_),by simp⟩⟩),?_⟩
   . rintro b' o' (hm | ⟨i,y,hi,hy,hre,e⟩)
     . exact .inl (.inl hm)
     . rcases yu6 hi with ⟨rfl,rfl⟩ | ⟨hn,hi⟩
       . rw [yr4] at e;exact .inr e.symm
       . rw [zwj hn] at hre e;exact .inl (.inr ⟨i,y,hi,hy,hre,e⟩)
   . refine ⟨⟨_,by simp only [oB,appL];rw [List.getElem?_set_self hlt],by simp⟩,_,cap,rfl,hcap,fun _=>⟨by rw [yr4];simp [real],by rw [yr4];simp [bk,blk],_,T,_,by rw [yr4];exact hbk,?_⟩⟩;simpa using hsz
 . rename_i a h1 h2;obtain ⟨x',hx,he⟩:=Option.map_eq_some_iff.1 hr
   cases he;refine ⟨v,ρ,rfl,hw,SVR.of0 (zkq hx ?_)⟩;unfold z5d at hx
   split at hx<;>first | exact hrd | cases hx
def zxi (_Γ:List (Nat×List Cell)) (I:List SV) (J:List SB):Operand->Option (FuncId×List SV×List Nat×List Nat)
 | .func f=>some (f,[],[],[])
 | .tmp t=>match gtS I t with
  | .one (.dat (.raw v))=>(vr2 v).map fun f=>(f,[],[t],[])
  | .one (.fnr b)=>match gB J b with
   | .clo f caps=>some (f,caps,[t],[b])
   | _=>none
  | _=>none
 | _=>none
theorem z3e {ev:Operand->Value} {xs:Array Operand} {cv:Array Value} (ho:o.op=.call { callee:=.value x,args:=xs,argTypes:=ts }) (hx:ev x=.func (.func f) #[] cv) (hc:yss P f) (w:World) :
 (execOp ev o).run P w=.ok (.enter f (xs.map ev++cv)) w:=by
 unfold execOp;rw [ho];simp [resolve,Deferred.ofValue,hx,invoke,yfb hc]
theorem wf3 {E:HEnv} {a:Act} (hI:RI Γ E ρ I J a w) (h:zxi Γ I J x=some (f,caps,rd,rh)) :
 ∃ cv:List Value,a.eval x=.func (.func f) #[] cv.toArray/\SRL J ρ (MX E.Mo ρ J) w cv caps:=by
 unfold zxi at h;split at h
 . cases h;exact ⟨[],rfl,trivial⟩
 . rename_i t;have ht:=hI.gt t;split at h
   . rename_i v hv;obtain ⟨f',hf,he⟩:=Option.map_eq_some_iff.1 h
     cases he;rw [hv] at ht;have e:a.tmps.getD t Go.undef=v:=RdC.x18 ht;exact ⟨[],by show a.tmps.getD t Go.undef=_;rw [e,yz2 hf],trivial⟩
   . rename_i b hb;split at h
     . rename_i f' caps' hg
       cases h;rw [hb] at ht;obtain ⟨cv,e,hr⟩:=hI.sbr hg (by simp);exact ⟨cv,by show a.tmps.getD t Go.undef=_;rw [ht.2.1,e],hr⟩
     . cases h
   . cases h
 . cases h
theorem voz {I':List SV} (h : zxi Γ I J x = some (f, caps, rd, rh)) (hs : ∀ t ∈ rd, gtS I' t = gtS I t) (hb : ∀ b ∈ rh, gB J' b = gB J b) : zxi Γ I' J' x = some (f, caps, rd, rh) := by
 unfold zxi at h ⊢;split at h
 . exact h
 . rename_i t
   have e:gtS I' t=gtS I t:=by
    split at h
    . obtain ⟨f',hf,he⟩:=Option.map_eq_some_iff.1 h;cases he;exact hs t (by simp)
    . split at h
      . cases h;exact hs t (by simp)
      . cases h
    . cases h
   simp only [e];split at h
   . rename_i v hv;exact h
   . rename_i b hbb;split at h
     . rename_i f' caps' hg
       cases h;rw [hb b (by simp),hg]
     . cases h
   . cases h
 . cases h
def v9n (o:Oper) (x:SV):List (Nat×SV):=match o.dst with
 | some d=>[(d,x)]
 | none=>[]
theorem RI.dst {E:HEnv} {ρ:Nat->Value} {I:List SV} {J:List SB} {a:Act} {w:World} (h:RI Γ E ρ I J a w) {o:Oper} {v:Value} {x:SV} (hx:SVR J ρ (MX E.Mo ρ J) w v x):RI Γ E ρ (appL (v9n o x) I) J (a.put o.dst v) w:=by
 unfold v9n
 cases o.dst with
 | none=>exact h
 | some d=>exact h.put hx
theorem ypf (ho:o.op=.call { callee:=.value x,args:=xs.toArray,argTypes:=ts })
 (hc:zxi Γ I J x=some (f,caps,rd,rh)) (ha:zfb J (wy6 Γ I xs++caps)=some (l,bs)) (wml:CallsD Γ P f l res) {y:SV} (hres:resS nb res=some (y,ob)) (hroom:wla J nb ob=true) :
 vbd Γ P o I J (xl0 o++rd++orrL xs) (oN nb ob++rh++bs) (v9n o y) (frzE J bs++oB nb ob):=by
 intro E ρ I' J' a w hag hah hI K Q hK;have hc':=voz hc (fun t ht=>hag.2 t (by simp [ht])) (fun b hb=>hah.gB (by simp [hb]));have hargs:=wk7 (Γ:=Γ) hag xs (fun t ht=>by simp [ht])
 have hgb:∀ b∈bs,gB J' b=gB J b:=fun b hb=>hah.gB (by simp [hb])
 have ha':=zei ha hgb;have hnt:=w9u ha'
 have hnt1:voj (wy6 Γ I' xs)=true:=by
  rw [hargs];unfold voj at hnt ⊢;rw [List.all_append,Bool.and_eq_true] at hnt;exact hnt.1
 obtain ⟨cv,hcv,hcr⟩:=wf3 hI hc';have hsr:=(xw8 hI xs hnt1).append hcr;rw [hargs] at hsr;have harr:=yig ha';obtain ⟨hw1,_,hfz⟩:=Went.frz bs J' hI.inv rfl harr (fun _=>.inl rfl);have hrb:=zlh hw1.inv ha' hfz (hsr.mv hw1.mv);have hcalls:=wml.2 _ w _ (fun b o hm=>x02 hw1.inv hm) hw1.inv.glob hrb;unfold Oper.wp;rw [z3e ho hcv wml.1 w];show Calls P f _ w _
 have e1:xs.toArray.map a.eval++cv.toArray=(xs.map a.eval++cv).toArray:=by simp
 rw [e1];refine hcalls.mono ?_;intro e w' hb
 obtain ⟨v,ρ',rfl,hw2,hv⟩:=w6y hw1.inv hb hres (nb:=nb) (fun hne=>by
  cases ob with
  | none=>exact absurd rfl hne
  | some z=>exact xd8 harr (hah.room (show nb∈oN nb (some z)++rh++bs by simp [oN]) hroom))
 refine hK _ _ ρ' ?_;rw [<-zii hgb,zo1];exact ((hI.go hw1).go hw2).dst hv
theorem wtr {t:Nat} (ho:o.op=.call { callee:=.value (.tmp t),args:=xs.toArray,argTypes:=ts }) (ht:gtS I t=.one (.dat (.fnp (zw4 Γ P F))))
 (ha:zfb J (wy6 Γ I xs)=some (l,bs)) (wml:F l res) {y:SV} (hres:resS nb res=some (y,ob)) (hroom:wla J nb ob=true) :
 vbd Γ P o I J (xl0 o++t::orrL xs) (oN nb ob++bs) (v9n o y) (frzE J bs++oB nb ob):=by
 intro E ρ I' J' a w hag hah hI K Q hK;have hargs:=wk7 (Γ:=Γ) hag xs (fun t ht=>by simp [ht])
 have hgb:∀ b∈bs,gB J' b=gB J b:=fun b hb=>hah.gB (by simp [hb])
 have ha':=zei ha hgb;have hnt:=w9u ha';have hsr:=xw8 hI xs (by rw [hargs];exact hnt);rw [hargs] at hsr;have harr:=yig ha';obtain ⟨hw1,_,hfz⟩:=Went.frz bs J' hI.inv rfl harr (fun _=>.inl rfl);have hrb:=zlh hw1.inv ha' hfz (hsr.mv hw1.mv);have hf:=(hI.go hw1).gt t;rw [hag.2 t (by simp),ht] at hf;have hf:RdC _ w (a.tmps.getD t Go.undef) (.fnp (zw4 Γ P F)):=hf;generalize hv:a.tmps.getD t Go.undef=v at hf
 cases hf with
 | fnp h1 hp=>
  obtain ⟨f,caps,rfl,hcl,hspec⟩:=hp _ w (fun _ _ _ h1 h2=>⟨h1,h2⟩);have hcalls:=hspec l res _ wml (fun b o hm=>x02 hw1.inv hm) hw1.inv.glob hrb;unfold Oper.wp;rw [z3e (x:=.tmp t) ho hv hcl w];show Calls P f _ w _
  have e1:xs.toArray.map a.eval++caps=(xs.map a.eval).toArray++caps:=by simp
  rw [e1];refine hcalls.mono ?_;intro e w' hb
  obtain ⟨v,ρ',rfl,hw2,hv⟩:=w6y hw1.inv hb hres (nb:=nb) (fun hne=>by
   cases ob with
   | none=>exact absurd rfl hne
   | some z=>exact xd8 harr (hah.room (show nb∈oN nb (some z)++bs by simp [oN]) hroom))
  refine hK _ _ ρ' ?_;rw [<-zii hgb,zo1];exact ((hI.go hw1).go hw2).dst hv
def vjm (Γ:List (Nat×List Cell)) (P:Program) (o:Oper) (I:List SV) (J:List SB) (σ2:List SV) (η2:List SB):Prop:=
 ∀(E:HEnv) (ρ:Nat->Value) (a:Act) (w:World),RI Γ E ρ I J a w->∀(K:Act->World->Prop) (Q:Exit->Act->World->Prop),
  (∀ a' w' ρ',RI Γ E ρ' σ2 η2 a' w'->K a' w')->o.wp P a w K Q
theorem vbd.p {eff:List (Nat×SV)} (h:vbd Γ P o I J rd rh eff heff):vjm Γ P o I J (appL eff I) (appL heff J):=
 fun E ρ a w hI K Q hK=>h E ρ I J a w ⟨rfl,fun _ _=>rfl⟩ ⟨rfl,fun _ _=>rfl⟩ hI K Q hK
theorem vbd.px {eff:List (Nat×SV)} (h:vbd Γ P o I (J++[.fresh]) rd rh eff heff):vjm Γ P o I J (appL eff I) (appL heff (J++[.fresh])):=
 fun E ρ a w hI K Q hK=>h.p E ρ a w (hI.go (Went.extend hI.inv 1)) K Q hK
theorem vya (ho:o.op=.call { callee:=.value x,args:=xs.toArray,argTypes:=ts })
 (hc:zxi Γ I J x=some (f,caps,rd,rh)) (hnt:voj (wy6 Γ I xs)=true) {res:SV} (wml:xpp Γ P f J (wy6 Γ I xs++caps) J' res) :
 vjm Γ P o I J (appL (v9n o res) I) J':=by
 intro E ρ a w hI K Q hK;obtain ⟨cv,hcv,hcr⟩:=wf3 hI hc;have hsr:=(xw8 hI xs hnt).append hcr;have hcalls:=wml.2 _ ρ w _ hI.inv hsr;unfold Oper.wp;rw [z3e ho hcv wml.1 w];show Calls P f _ w _
 have e1:xs.toArray.map a.eval++cv.toArray=(xs.map a.eval++cv).toArray:=by simp
 rw [e1];refine hcalls.mono ?_;rintro e w' ⟨v,ρ',rfl,hw,hv⟩;exact hK _ _ ρ' ((hI.go hw).dst hv)
theorem zed (ho:o.op=.call { callee:=.value x,args:=xs.toArray,argTypes:=ts })
 (hc:zxi Γ I J x=some (f,caps,rd,rh)) (hnt:voj (wy6 Γ I xs)=true) {res:SV} (wml:xpp Γ P f J (wy6 Γ I xs++caps) (appL heff J) res) :
 vbd Γ P o I J (xl0 o++rd++orrL xs) (List.range J.length) (v9n o res) heff:=by
 intro E ρ I' J' a w hag hah hI K Q hK
 have hη:J'=J:=by
  apply List.ext_getElem?;intro i;by_cases hi:i<J.length
  . exact hah.2 i (by simpa using hi)
  . rw [List.getElem?_eq_none (by rw [hah.1];omega),List.getElem?_eq_none (by omega)]
 subst hη;have hc':=voz hc (fun t ht=>hag.2 t (by simp [ht])) (fun b _=>rfl);have hargs:=wk7 (Γ:=Γ) hag xs (fun t ht=>by simp [ht])
 have:=vya (o:=o) (I:=I') (J:=J') ho hc' (by rw [hargs];exact hnt) (by rw [hargs];exact wml)
 exact this E ρ a w hI K Q hK
theorem ys4 {d:Nat} (ho:o.op=.makeFunc (.func f) #[] xs.toArray) (hdst:o.dst=some d) (hnt:voj (wy6 Γ I xs)=true) (hroom:y4f J nb=true) :
 vbd Γ P o I J (d::orrL xs) [nb] [(d,.one (.fnr nb))] [(nb,.clo f (wy6 Γ I xs))]:=by
 refine vbd.val hdst (fun E ρ I' J' a w hag hah hI=>?_);have hargs:=wk7 (Γ:=Γ) hag xs (fun t ht=>by simp [ht]);have hsr:=xw8 hI xs (by rw [hargs];exact hnt);rw [hargs] at hsr;have hfr:=hah.room (by simp) hroom;have hlt:nb<J'.length:=(List.getElem?_eq_some_iff.1 hfr).1;refine ⟨.func (.func f) #[] (xs.map a.eval).toArray,w,upd ρ nb (.func (.func f) #[] (xs.map a.eval).toArray),by simp [execOp,ho,Instr.makeFunc],Went.new hI.inv (vpa w) hfr (by simp) (fun h=>by cases h) (fun m=>⟨_,rfl,hsr.mv m⟩),?_⟩;exact ⟨⟨_,by simp [appL,hlt];rfl,by simp⟩,by rw [yr4],rfl⟩
theorem zqz {d:Nat} (ho:o.op=.makeFunc (.func f) #[] xs.toArray) (hdst:o.dst=some d) {caps:List AV} (ha:zfb J (wy6 Γ I xs)=some (caps,bs))
 (wml:yss P f) (hF:∀ args res,F args res->CallsD Γ P f (args++caps) res) :
 vbd Γ P o I J (d::orrL xs) bs [(d,.one (.dat (.fnp (zw4 Γ P F))))] (frzE J bs):=by
 refine vbd.val hdst (fun E ρ I' J' a w hag hah hI=>?_);have hargs:=wk7 (Γ:=Γ) hag xs (fun t ht=>by simp [ht])
 have hgb:∀ b∈bs,gB J' b=gB J b:=fun b hb=>hah.gB hb
 have ha':=zei ha hgb;have hsr:=xw8 hI xs (by rw [hargs];exact w9u ha');rw [hargs] at hsr;have harr:=yig ha';obtain ⟨hw1,_,hfz⟩:=Went.frz bs J' hI.inv rfl harr (fun _=>.inl rfl);have hrb:=zlh hw1.inv ha' hfz (hsr.mv hw1.mv);rw [<-zii hgb];refine ⟨.func (.func f) #[] (xs.map a.eval).toArray,w,ρ,by simp [execOp,ho,Instr.makeFunc],hw1,RdC.fnp rfl (fun M' w' hk=>⟨f,_,rfl,wml,fun args res vs hres hb hg hrd=>?_⟩)⟩
 have:=(hF args res hres).2 M' w' (vs++xs.map a.eval) hb hg (hrd.append (hrb.keep hk))
 simpa using this
end Go.Hp
