import Derived.Test.YtpkininnjhbeaaaGreatDoorY11
import Derived.Laws.StructEq
import Derived.Laws.NewFold
import Derived.MapKept
import Derived.ChangeKeysEq
import Derived.Laws.BytesArg
import Derived.Lib.UnsafeStr
import Derived.Lib.Builder
import Derived.LaidEql
import Derived.Laws.Externs
import Derived.KernelRfl
namespace Go.Hp
open Go Go.RowKit Go.Slot
variable {P:Program} {Γ:List (Nat×List Cell)}
variable {k k' v:Value} {kt T et:TypeId} {tk ti:TI} {x y:Operand} {o:Oper} {I caps:List SV} {J J':List SB} {nb b:Nat} {es:List (Value×SV)} {ρ:Nat->Value} {M Mo:Nat->Nat->Prop} {w:World} {f:FuncId} {res a:AV} {bs rd rh:List Nat} {ob:Option SB} {xs:List Operand} {ts:Array TypeId} {l:List AV} {F:List AV->AV->Prop} {heff:List (Nat×SB)}
def kEq:Value->Value->Option Bool
 | .int k a,.int k' b=>if k=k' then some (a==b) else none
 | .string a,.string b=>some (seq a b)
 | .bool a,.bool b=>some (a==b)
 | _,_=>none
def yvo:List (Value×SV)->Value->Option (Option SV)
 | [],_=>some none
 | (k',x)::r,k=>match kEq k k' with
  | some true=>some (some x)
  | some false=>yvo r k
  | none=>none
def updM:List (Value×SV)->Value->SV->Option (List (Value×SV))
 | [],k,v=>some [(k,v)]
 | (k',x)::r,k,v=>match kEq k k' with
  | some true=>some ((k,v)::r)
  | some false=>(updM r k v).map ((k',x)::·)
  | none=>none
def wdo (sh:Sh):Value->Bool
 | .int k _=>match sh with
  | .int k'=>k==k'
  | _=>false
 | .string _=>match sh with
  | .string=>true
  | _=>false
 | .bool _=>match sh with
  | .bool=>true
  | _=>false
 | _=>false
def keyV:SV->Option Value
 | .one (.dat (.raw v))=>some v
 | _=>none
theorem vys {d:TypeDesc} (h:wdo (shOf P d) k=true):(∃ q n,d=.int q/\k=.int q n)\/(∃ s,d=.string/\k=.string s)\/(∃ b,d=.bool/\k=.bool b):=by
 unfold wdo at h;split at h
 . rename_i q n;split at h
   . rename_i q' hs
     have:=xlv hs
     subst this;simp only [beq_iff_eq] at h;subst h;exact .inl ⟨_,_,rfl,rfl⟩
   . cases h
 . split at h
   . rename_i s _ hs;exact .inr (.inl ⟨_,wbh hs,rfl⟩)
   . cases h
 . split at h
   . rename_i b _ hs;exact .inr (.inr ⟨_,w1b hs,rfl⟩)
   . cases h
 . cases h
theorem run_checkKey (htk:mkTI P kt=some tk) (hk:wdo tk.sh k=true) (b:Bool) (n:Nat) (w:World):(Instr.checkKey b (n+1) kt k).run P w=.ok () w:=by
 obtain ⟨d,i,z,hd,_,_,_,_,_,_,_,hsh⟩:=(wgk htk).ex;rw [hsh] at hk
 rcases vys hk with ⟨q,n,rfl,rfl⟩ | ⟨s,rfl,rfl⟩ | ⟨b,rfl,rfl⟩<;>simp [Instr.checkKey,w9c hd]
theorem xov {d:TypeDesc} (h:wdo (shOf P d) k=true):Instr.sameNow d k k'=kEq k k':=by
 rcases vys h with ⟨q,n,rfl,rfl⟩ | ⟨s,rfl,rfl⟩ | ⟨b,rfl,rfl⟩<;>cases k'<;>first | rfl | exact congrArg some (beq_toListBytes _ _)
section
variable {J:List SB} {ρ:Nat->Value} {M:Nat->Nat->Prop} {w:World}
theorem v32 {d:TypeDesc} {k:Value} (hk:wdo (shOf P d) k=true):∀{es:List MapEntry} {l:List (Value×SV)} (i:Nat),EnR J ρ M w es l->∀{r:Option SV},yvo l k=some r->
 (r=none/\Instr.findNow d k es i=some none)\/∃ x j v,r=some x/\Instr.findNow d k es i=some (some (j,v))/\SVR0 J ρ M w v x
 | [],[],i,_,r,h=>by cases h;exact .inl ⟨rfl,rfl⟩
 | e::es,(k',x)::l,i,hr,r,h=>by
  simp only [yvo] at h
  have hs:Instr.sameNow d k e.key=kEq k k':=by rw [xov hk,hr.1.1]
  unfold Instr.findNow;rw [hs];split at h
  . rename_i he;cases h;rw [he];exact .inr ⟨x,i,e.val,rfl,rfl,hr.1.2⟩
  . rename_i he;rw [he];exact v32 hk (i+1) hr.2 h
  . cases h
theorem y2b {d:TypeDesc} {k:Value} (hk:wdo (shOf P d) k=true) {v:Value} {x:SV} (hv:SVR0 J ρ M w v x) (clk:Nat):∀{es:List MapEntry} {l l':List (Value×SV)} (i:Nat),EnR J ρ M w es l->updM l k x=some l'->
 (Instr.findNow d k es i=some none/\EnR J ρ M w (es++[{ key:=k,val:=v,born:=clk }]) l')\/
 ∃ j u e,Instr.findNow d k es i=some (some (i+j,u))/\es[j]? = some e/\kEq k e.key=some true/\EnR J ρ M w (es.modify j fun e=>{ e with key:=k,val:=v }) l'
 | [],[],l',i,_,h=>by cases h;exact .inl ⟨rfl,⟨⟨rfl,hv⟩,trivial⟩⟩
 | e::es,(k',y)::l,l',i,hr,h=>by
  simp only [updM] at h
  have hs:Instr.sameNow d k e.key=kEq k k':=by rw [xov hk,hr.1.1]
  unfold Instr.findNow;rw [hs];split at h
  . rename_i he
    cases h;rw [he];exact .inr ⟨0,e.val,e,rfl,rfl,by rw [hr.1.1];exact he,⟨⟨rfl,hv⟩,hr.2⟩⟩
  . rename_i he;obtain ⟨l2,h2,rfl⟩:=Option.map_eq_some_iff.1 h;rw [he]
    rcases y2b hk hv clk (i+1) hr.2 h2 with ⟨h3,h4⟩ | ⟨j,u,e',h3,h4,h5,h6⟩
    . exact .inl ⟨h3,⟨hr.1,h4⟩⟩
    . exact .inr ⟨j+1,u,e',by rw [show i+(j+1)=i+1+j by omega];exact h3,by simpa using h4,h5,⟨hr.1,h6⟩⟩
  . cases h
end
theorem y8a {d:TypeDesc} (hk:wdo (shOf P d) k=true) (h:kEq k k'=some true) (n:Nat):Instr.sameBits n k' k=true:=by
 rcases vys hk with ⟨q,m,rfl,rfl⟩ | ⟨s,rfl,rfl⟩ | ⟨b,rfl,rfl⟩
 . cases k'<;>simp only [kEq] at h<;>first | (cases h;done) | skip
   split at h
   . rename_i e;simp at h;subst e;subst h;simp [Instr.sameBits]
   . cases h
 . cases k'<;>simp only [kEq] at h<;>first | (cases h;done) | skip
   have e:=(MapKept.bytes_beq _ _).1 ((beq_toListBytes _ _).trans (Option.some.inj h));subst e;simp only [Instr.sameBits];exact (MapKept.bytes_beq _ _).2 rfl
 . cases k'<;>simp only [kEq] at h<;>first | (cases h;done) | skip
   simp at h;subst h;simp [Instr.sameBits]
def zeroV:Value->Option SV
 | .agg vs=>if vs.toList.all (·.oneCell') then some (.agg ((vs.toList.map zm7).map .dat)) else none
 | .tuple _=>none
 | v=>some (.one (.dat (zm7 v)))
def zya (P:Program) (t:TypeId):Option SV:=match P.info? t with
 | some i=>match i.zero with
  | some z=>zeroV z
  | none=>none
 | none=>none
theorem zdf {t : TypeId} {x : SV} (h : zya P t = some x) : ∃ z, (∀ w, (zeroValue t).run P w = .ok z w) ∧ ∀ (J : List SB) (ρ : Nat → Value) (M : Nat → Nat → Prop) (w : World), SVR0 J ρ M w z x := by
 unfold zya at h;split at h
 . rename_i i hi;split at h
   . rename_i z hz;refine ⟨z,fun w=>wx4 hi hz,fun J ρ M w=>?_⟩;unfold zeroV at h;split at h
     . rename_i vs;split at h
       . rename_i hall
         cases h;exact ⟨vs.toList,by simp,vrd (fun v hv=>(List.all_eq_true.1 hall) v hv)⟩
       . cases h
     . cases h
     . rename_i h1 h2
       cases h;refine vo6 ?_
       cases z<;>first | rfl | exact absurd rfl (h1 _) | exact absurd rfl (h2 _)
   . cases h
 . cases h
theorem y69 {d:Nat} (ho:o.op=.makeMap T none) (hdst:o.dst=some d) (hroom:y4f J nb=true) :
 vbd Γ P o I J [d] [nb] [(d,.one (.mp nb))] [(nb,.map [])]:=by
 refine vbd.val hdst (fun E ρ I' J' a w hag hah hI=>?_);have hfr:=hah.room (by simp) hroom;have hlt:nb<J'.length:=(List.getElem?_eq_some_iff.1 hfr).1;have hb:Below w.heap.size w (w.alloc (.map #[] 0)):=(Below.refl _ _).alloc (Nat.le_refl _) _;refine ⟨.map (some w.heap.size),w.alloc (.map #[] 0),upd ρ nb (.map (some w.heap.size)),?_,Went.new hI.inv hb hfr (by simp) (fun _ _=>Nat.le_refl _) (fun m=>⟨w.heap.size,#[],0,rfl,xp1 w _,trivial⟩),?_⟩
 . simp [execOp,ho,Instr.makeMap]
 . exact ⟨⟨_,by simp [appL,hlt];rfl,by simp⟩,by rw [yr4],rfl⟩
def vi3 (ok:Bool) (r:Option SV) (zero:SV):SV:=match ok with
 | true=>match r with
  | some x=>.tup [x,.one (.dat (.raw (.bool true)))]
  | none=>.tup [zero,.one (.dat (.raw (.bool false)))]
 | false=>match r with
  | some x=>x
  | none=>zero
def wii (J:List SB):SV->Option (Nat×List (Value×SV))
 | .one (.mp b)=>match gB J b with
  | .map es=>some (b,es)
  | _=>none
 | _=>none
theorem zb8 {ok:Bool} {d:Nat} (ho:o.op=.lookup T x y ok) (hdst:o.dst=some d) (hti:mkTI P T=some ti) (hsh:ti.sh=.map kt et) (htk:mkTI P kt=some tk)
 (hm:wii J (opdS Γ I x)=some (b,es)) (hkv:keyV (opdS Γ I y)=some k) (hk:wdo tk.sh k=true) {r:Option SV} (hr:yvo es k=some r) {zero:SV} (hz:zya P et=some zero) :
 vbd Γ P o I J (d::(orr x++orr y)) [b] [(d,vi3 ok r zero)] []:=by
 refine vbd.pure hdst (fun E ρ I' J' a w hag hah hI=>?_);have hx:=hI.opd x;have hy:=hI.opd y;rw [hag.opd (fun t ht=>by simp [ht])] at hx hy;unfold wii at hm;split at hm
 case h_2=>cases hm
 rename_i b' hxe;split at hm
 case h_2=>cases hm
 rename_i es' hb
 cases hm;rw [hxe] at hx
 have hb':gB J' b=.map es:=by rw [hah.gB (by simp)];exact hb
 obtain ⟨bb,ents,clk,he,hh,hen⟩:=hI.sbr hb' (by simp)
 have hkey:a.eval y=k:=by
  unfold keyV at hkv;split at hkv
  . rename_i v hye;cases hkv;rw [hye] at hy;exact RdC.x18 hy
  . cases hkv
 obtain ⟨dd,i,z,hd,hi,hz',_,_,_,_,_,hsh'⟩:=(wgk hti).ex;have hmap:=w8w (hsh'.symm.trans hsh);subst hmap;obtain ⟨dk,ik,zk,hdk,_,_,_,_,_,_,_,hshk⟩:=(wgk htk).ex
 have hmv:a.eval x=.map (some bb):=by rw [hx.2.1,he]
 obtain ⟨zv,hzrun,hzr⟩:=zdf hz;have hck:=run_checkKey htk hk ents.isEmpty 9999 w
 have hk':wdo (shOf P dk) k=true:=by rw [<-hshk];exact hk
 have hrun:∀ fo,Instr.findNow dk k ents.toList 0=some fo->(Instr.lookup T (.map (some bb)) k ok).run P w=.ok (if ok then .tuple #[(fo.map (·.2)).getD zv,.bool fo.isSome] else (fo.map (·.2)).getD zv) w:=fun fo hfo=>by
  cases fo with
  | none=>cases ok<;>simp [Instr.lookup,w9c hd,getObj,Sem.run,hh,hck,Instr.findKey,w9c hdk,hfo,hzrun]
  | some p=>cases ok<;>simp [Instr.lookup,w9c hd,getObj,Sem.run,hh,hck,Instr.findKey,w9c hdk,hfo]
 rcases v32 hk' 0 hen hr with ⟨rfl,hf⟩ | ⟨xx,j,v,rfl,hf,hv⟩
 . refine ⟨_,by simp only [execOp,ho,hmv,hkey,Sem.run_bind,hrun _ hf];rfl,?_⟩
   cases ok
   . exact SVR.of0 (hzr _ _ _ _)
   . exact ⟨[zv,.bool false],rfl,hzr _ _ _ _,RdC.raw rfl,trivial⟩
 . refine ⟨_,by simp only [execOp,ho,hmv,hkey,Sem.run_bind,hrun _ hf];rfl,?_⟩
   cases ok
   . exact SVR.of0 hv
   . exact ⟨[v,.bool true],rfl,hv,RdC.raw rfl,trivial⟩
def vms:SV->Bool
 | .tup _=>false
 | _=>true
theorem SVR.to0 {x:SV} (hn:vms x=true) (h:SVR J ρ M w v x):SVR0 J ρ M w v x:=by
 cases x<;>first | exact h | cases hn
theorem vjc {z:Operand} (ho:o.op=.mapUpdate T x y z\/o.op=.insert T x y z) (hdst:o.dst=none) (hti:mkTI P T=some ti) (hsh:ti.sh=.map kt et) (htk:mkTI P kt=some tk)
 {es':List (Value×SV)} (hm:wii J (opdS Γ I x)=some (b,es)) (hkv:keyV (opdS Γ I y)=some k) (hk:wdo tk.sh k=true) (hn:vms (opdS Γ I z)=true) (hu:updM es k (opdS Γ I z)=some es') :
 vbd Γ P o I J (orr x++orr y++orr z) [b] [] [(b,.map es')]:=by
 refine vbd.skip hdst (fun E ρ I' J' a w hag hah hI=>?_);have hx:=hI.opd x;have hy:=hI.opd y;have hz:=hI.opd z;rw [hag.opd (fun t ht=>by simp [ht])] at hx hy hz;unfold wii at hm;split at hm
 case h_2=>cases hm
 rename_i b' hxe;split at hm
 case h_2=>cases hm
 rename_i es0 hb
 cases hm;rw [hxe] at hx
 have hb':gB J' b=.map es:=by rw [hah.gB (by simp)];exact hb
 obtain ⟨bb,ents,clk,he,hh,hen⟩:=hI.sbr hb' (by simp)
 have hkey:a.eval y=k:=by
  unfold keyV at hkv;split at hkv
  . rename_i v hye;cases hkv;rw [hye] at hy;exact RdC.x18 hy
  . cases hkv
 obtain ⟨dd,i,zz,hd,hi,hz',_,_,_,_,_,hsh'⟩:=(wgk hti).ex;have hmap:=w8w (hsh'.symm.trans hsh);subst hmap;obtain ⟨dk,ik,zk,hdk,_,_,_,_,_,_,_,hshk⟩:=(wgk htk).ex
 have hmv:a.eval x=.map (some bb):=by rw [hx.2.1,he]
 have hck:=run_checkKey htk hk false 9999 w
 have hk':wdo (shOf P dk) k=true:=by rw [<-hshk];exact hk
 have hbk:bk (ρ b)=bb:=by rw [he];rfl
 have fin:∀ ob:Obj,(∃ en' clk',ob=.map en' clk'/\EnR J' ρ (MX E.Mo ρ J') w en'.toList es')->(Instr.mapUpdate T (.map (some bb)) k (a.eval z)).run P w=.ok () { w with heap:=w.heap.setIfInBounds bb ob }->
  ∃ w' ρ',(execOp a.eval o).run P w=.ok .skip w'/\Went Γ E.Mo ρ J' w ρ' (appL [(b,.map es')] J') w':=fun ob hob hrun=>by
  obtain ⟨en',clk',rfl,hen'⟩:=hob;have hlt:bb<w.heap.size:=(Array.getElem?_eq_some_iff.1 hh).1;refine ⟨{ w with heap:=w.heap.setIfInBounds bb (.map en' clk') },ρ,?_,Went.write hI.inv (xuw hb' (by simp)) rfl (by rw [he];simp [real]) rfl (fun o=>Iff.rfl) (by simp) rfl rfl rfl (fun kk hkk=>?_) (fun i arr T fz hi'=>?_) (fun oo u _ hc=>?_) (fun m=>⟨bb,en',clk',he,by simp [hlt],hen'.mv m⟩)⟩
  . rcases ho with ho | ho<;>simp [execOp,ho,hmv,hkey,hrun]
  . rw [hbk] at hkk;simp only [Array.getElem?_setIfInBounds_ne (Ne.symm hkk)]
  . by_cases e:i=bb
    . subst e;rw [hh] at hi';cases hi'
    . exact ⟨arr,T,fz,by simp only [Array.getElem?_setIfInBounds_ne (Ne.symm e)];exact hi',Nat.le_refl _⟩
  . rw [hbk] at hc;simp [World.cell?,hh] at hc
 rcases y2b hk' (hz.to0 hn) clk 0 hen hu with ⟨hf,hen'⟩ | ⟨j,u,e,hf,hj,hq,hen'⟩
 . refine fin (.map (ents.push { key:=k,val:=a.eval z,born:=clk }) (clk+1)) ⟨_,_,rfl,by simpa using hen'⟩ ?_;simp [Instr.mapUpdate,w9c hd,getObj,setObj,Sem.run,hh,hck,Instr.findKey,w9c hdk,hf]
 . refine fin (.map (ents.modify j fun e=>{ e with key:=k,val:=a.eval z }) clk) ⟨_,_,rfl,by simpa using hen'⟩ ?_;rw [Nat.zero_add] at hf
   have hj':ents[j]? = some e:=by simpa using hj
   have hsb:=y8a hk' hq 10000;simp [Instr.mapUpdate,w9c hd,getObj,setObj,Sem.run,hh,hck,Instr.findKey,w9c hdk,hf,Instr.keyThatStays,hj',hsb]
def CallsD (Γ:List (Nat×List Cell)) (P:Program) (f:FuncId) (args:List AV) (res:AV):Prop:=
 yss P f/\∀(M:Nat->Nat->Prop) (w:World) (vs:List Value),Bounded M w->y72 Γ M w->RdBL M w vs args->Calls P f vs.toArray w (Back M w res)
theorem y4n.d {args:List AV} (h:y4n P f args res):CallsD Γ P f args res:=⟨h.1,fun M w vs hb _ hr=>h.2 M w vs hb hr⟩
def xfz (Γ:List (Nat×List Cell)) (Mo:Nat->Nat->Prop) (ρ:Nat->Value) (J:List SB) (w:World) (J':List SB) (res:SV):Ending->World->Prop:=fun e w'=>
 ∃ v ρ',e=.returned v/\Went Γ Mo ρ J w ρ' J' w'/\SVR J' ρ' (MX Mo ρ' J') w' v res
def xpp (Γ:List (Nat×List Cell)) (P:Program) (f:FuncId) (J:List SB) (args:List SV) (J':List SB) (res:SV):Prop:=
 yss P f/\∀(Mo:Nat->Nat->Prop) (ρ:Nat->Value) (w:World) (vs:List Value),HInv Γ Mo ρ J w->SRL J ρ (MX Mo ρ J) w vs args->Calls P f vs.toArray w (xfz Γ Mo ρ J w J' res)
def zw4 (Γ:List (Nat×List Cell)) (P:Program) (F:List AV->AV->Prop) (M:Nat->Nat->Prop) (w:World) (v:Value):Prop:=
 ∃ f caps,v=.func (.func f) #[] caps/\yss P f/\∀ args res vs,F args res->Bounded M w->y72 Γ M w->RdBL M w vs args->Calls P f (vs.toArray++caps) w (Back M w res)
def argD (J:List SB):SV->Option (AV×List Nat)
 | .one h=>(zyf J h).map fun p=>(.one p.1,p.2)
 | .agg hs=>(w8n J hs).map fun p=>(.agg p.1,p.2)
 | .elt cs=>some (.elt cs,[])
 | .any=>some (.any,[])
 | _=>none
def zfb (J:List SB):List SV->Option (List AV×List Nat)
 | []=>some ([],[])
 | x::r=>match argD J x,zfb J r with
  | some (a,bs),some (l,bs')=>some (a::l,bs++bs')
  | _,_=>none
def wy6 (Γ:List (Nat×List Cell)) (I:List SV):List Operand->List SV
 | []=>[]
 | x::r=>opdS Γ I x::wy6 Γ I r
theorem ze2 {x:SV} (h:argD J x=some (a,bs)):∀ b∈bs,y10 (gB J b)=true:=by
 unfold argD at h;split at h
 . obtain ⟨p,hp,e⟩:=Option.map_eq_some_iff.1 h;cases e;exact wtq hp
 . obtain ⟨p,hp,e⟩:=Option.map_eq_some_iff.1 h;cases e;exact y93 hp
 . cases h;intro b hb;cases hb
 . cases h;intro b hb;cases hb
 . cases h
theorem yig {J:List SB}:∀{l:List SV} {r:List AV} {bs:List Nat},zfb J l=some (r,bs)->∀ b∈bs,y10 (gB J b)=true
 | [],r,bs,h=>by cases h;intro b hb;cases hb
 | x::l,r,bs,h=>by
  simp only [zfb] at h;split at h
  . rename_i a bs1 r2 bs2 h1 h2
    cases h;intro b hb
    rcases List.mem_append.1 hb with hb | hb
    . exact ze2 h1 b hb
    . exact yig h2 b hb
  . cases h
theorem xnj (hI:HInv Γ Mo ρ J' w) {x:SV} (h:argD J x=some (a,bs)) (hf:∀ b∈bs,gB J' b=frzB (gB J b))
 (hv:SVR0 J' ρ (MX Mo ρ J') w v x):RdB (MX Mo ρ J') w v a:=by
 unfold argD at h;split at h
 . obtain ⟨p,hp,e⟩:=Option.map_eq_some_iff.1 h;cases e;exact yw5 hI hp hf hv
 . obtain ⟨p,hp,e⟩:=Option.map_eq_some_iff.1 h;cases e;obtain ⟨vs,rfl,hr⟩:=hv;exact ⟨vs,rfl,zqm hI hp hf hr⟩
 . cases h;exact hv
 . cases h;trivial
 . cases h
theorem zlh {Mo:Nat->Nat->Prop} {ρ:Nat->Value} {J J':List SB} {w:World} (hI:HInv Γ Mo ρ J' w):∀{l:List SV} {r:List AV} {bs:List Nat},zfb J l=some (r,bs)->(∀ b∈bs,gB J' b=frzB (gB J b))->∀{vs:List Value},
 SRL J' ρ (MX Mo ρ J') w vs l->RdBL (MX Mo ρ J') w vs r
 | [],r,bs,h,_,vs,hv=>by
  cases h
  cases vs with
  | nil=>trivial
  | cons _ _=>exact hv.elim
 | x::l,r,bs,h,hf,vs,hv=>by
  simp only [zfb] at h;split at h
  . rename_i a bs1 r2 bs2 h1 h2
    cases h
    cases vs with
    | nil=>exact hv.elim
    | cons v vs=>exact ⟨xnj hI h1 (fun b hb=>hf b (by simp [hb])) hv.1,zlh hI h2 (fun b hb=>hf b (by simp [hb])) hv.2⟩
  . cases h
theorem xte {x:SV} (h:argD J x=some (a,bs)) (ha:∀ b∈bs,gB J' b=gB J b):argD J' x=some (a,bs):=by
 unfold argD at h ⊢;split at h
 . obtain ⟨p,hp,e⟩:=Option.map_eq_some_iff.1 h;cases e;rw [xm5 hp ha];rfl
 . obtain ⟨p,hp,e⟩:=Option.map_eq_some_iff.1 h;cases e;rw [vrp hp ha];rfl
 . exact h
 . exact h
 . cases h
theorem zei {J J':List SB}:∀{l:List SV} {r:List AV} {bs:List Nat},zfb J l=some (r,bs)->(∀ b∈bs,gB J' b=gB J b)->zfb J' l=some (r,bs)
 | [],r,bs,h,_=>h
 | x::l,r,bs,h,ha=>by
  simp only [zfb] at h ⊢;split at h
  . rename_i a bs1 r2 bs2 h1 h2
    cases h;rw [xte h1 (fun b hb=>ha b (by simp [hb])),zei h2 (fun b hb=>ha b (by simp [hb]))]
  . cases h
theorem wk7 {rd:List Nat} {I I':List SV} (hag:agS rd I I'):∀(xs:List Operand),(∀ t∈orrL xs,t∈rd)->wy6 Γ I' xs=wy6 Γ I xs
 | [],_=>rfl
 | x::xs,h=>by
  simp only [wy6];rw [hag.opd (fun t ht=>h t (by simp [orrL,ht])),wk7 hag xs (fun t ht=>h t (by simp [orrL,ht]))]
def voj (l:List SV):Bool:=l.all vms
theorem xw8 {E:HEnv} {ρ:Nat->Value} {I:List SV} {J:List SB} {a:Act} {w:World} (hI:RI Γ E ρ I J a w):∀(xs:List Operand),voj (wy6 Γ I xs)=true->SRL J ρ (MX E.Mo ρ J) w (xs.map a.eval) (wy6 Γ I xs)
 | [],_=>trivial
 | x::xs,h=>by
  simp only [wy6,voj,List.all_cons,Bool.and_eq_true] at h;exact ⟨(hI.opd x).to0 h.1,xw8 hI xs h.2⟩
theorem w9u {J:List SB}:∀{l:List SV} {r:List AV} {bs:List Nat},zfb J l=some (r,bs)->voj l=true
 | [],r,bs,h=>rfl
 | x::l,r,bs,h=>by
  simp only [zfb] at h;split at h
  . rename_i a bs1 r2 bs2 h1 h2;simp only [voj,List.all_cons,Bool.and_eq_true];refine ⟨?_,w9u h2⟩
    cases x<;>first | rfl | cases h1
  . cases h
def z5d:AV->Option SV
 | .one c=>some (.one (.dat c))
 | .agg cs=>some (.agg (cs.map .dat))
 | .elt cs=>some (.elt cs)
 | .any=>some .any
 | _=>none
def vug:List AV->Option (List SV)
 | []=>some []
 | a::r=>match z5d a,vug r with
  | some x,some l=>some (x::l)
  | _,_=>none
def resS (nb:Nat):AV->Option (SV×Option SB)
 | .tup l=>(vug l).map fun l=>(.tup l,none)
 | .arr [] c none=>some (.one (.sl nb c.esz 0 c.cnt),some (.arr c 0 none))
 | a=>(z5d a).map fun x=>(x,none)
theorem zkq {x:SV} (h:z5d a=some x) (hv:RdB M w v a):SVR0 J ρ M w v x:=by
 unfold z5d at h;split at h
 . cases h;exact hv
 . cases h;obtain ⟨vs,rfl,hr⟩:=hv;exact ⟨vs,rfl,RdD.hrl hr⟩
 . cases h;exact hv
 . cases h;trivial
 . cases h
theorem ypo {J:List SB} {ρ:Nat->Value} {M:Nat->Nat->Prop} {w:World}:∀{l:List AV} {r:List SV} {vs:List Value},vug l=some r->RdBL M w vs l->SRL J ρ M w vs r
 | [],r,vs,h,hv=>by
  cases h
  cases vs with
  | nil=>trivial
  | cons _ _=>exact hv.elim
 | a::l,r,vs,h,hv=>by
  simp only [vug] at h;split at h
  . rename_i x l' h1 h2
    cases h
    cases vs with
    | nil=>exact hv.elim
    | cons v vs=>exact ⟨zkq h1 hv.1,ypo h2 hv.2⟩
  . cases h
theorem w6y {w':World} (h:HInv Γ Mo ρ J w) {e:Ending} (hb:Back (MX Mo ρ J) w res e w') {x:SV} (hr:resS nb res=some (x,ob)) (hroom:ob≠none->J[nb]? = some .fresh) :
 ∃ v ρ',e=.returned v/\Went Γ Mo ρ J w ρ' (appL (oB nb ob) J) w'/\SVR (appL (oB nb ob) J) ρ' (MX Mo ρ' (appL (oB nb ob) J)) w' v x:=by
 obtain ⟨v,rfl,hbl,hrd,hfr⟩:=hb;have hw:=Went.below h hbl;unfold resS at hr;split at hr
 . rename_i l;obtain ⟨l',hl,he⟩:=Option.map_eq_some_iff.1 hr
   cases he;obtain ⟨vs,rfl,hv⟩:=hrd;exact ⟨_,ρ,rfl,hw,vs,rfl,ypo hl hv⟩
 . rename_i c
   cases hr;obtain ⟨_,_,how⟩:=hrd;obtain ⟨b,T,vs,q,cap,rfl,hbk,hr,hu,hcap,hsz,hM⟩:=how;have hf:=hroom (by simp);have hlt:nb<J.length:=(List.getElem?_eq_some_iff.1 hf).1;have hge:w.heap.size<=b:=hfr rfl;refine ⟨_,upd ρ nb (.pointer (some ⟨b,0,none⟩)),rfl,Went.new h hbl hf (by simp) (fun _ _=>hge) (fun m=>⟨⟨hu,Nat.zero_le _⟩,.inr ⟨b,vs,q,T,rfl,hbk,hr.keep (wf2.shrink w' ?_),by simp⟩⟩),?_⟩
   . rintro b' o' (hm | ⟨i,y,hi,hy,hre,e⟩)
     . exact .inl (.inl hm)
     . rcases yu6 hi with ⟨rfl,rfl⟩ | ⟨hn,hi⟩
       . rw [yr4] at e;exact .inr e.symm
       . rw [zwj hn] at hre e;exact .inl (.inr ⟨i,y,hi,hy,hre,e⟩)
   . refine ⟨⟨_,by simp only [oB,appL];rw [List.getElem?_set_self hlt],by simp⟩,_,cap,rfl,hcap,fun _=>⟨by rw [yr4];simp [real],by rw [yr4];simp [bk,blk],_,T,_,by rw [yr4];exact hbk,?_⟩⟩;simpa using hsz
 . rename_i a h1 h2;obtain ⟨x',hx,he⟩:=Option.map_eq_some_iff.1 hr
   cases he;refine ⟨v,ρ,rfl,hw,SVR.of0 (zkq hx ?_)⟩;unfold z5d at hx
   split at hx<;>first | exact hrd | cases hx
def zxi (_Γ:List (Nat×List Cell)) (I:List SV) (J:List SB):Operand->Option (FuncId×List SV×List Nat×List Nat)
 | .func f=>some (f,[],[],[])
 | .tmp t=>match gtS I t with
  | .one (.dat (.raw v))=>(vr2 v).map fun f=>(f,[],[t],[])
  | .one (.fnr b)=>match gB J b with
   | .clo f caps=>some (f,caps,[t],[b])
   | _=>none
  | _=>none
 | _=>none
theorem z3e {ev:Operand->Value} {xs:Array Operand} {cv:Array Value} (ho:o.op=.call { callee:=.value x,args:=xs,argTypes:=ts }) (hx:ev x=.func (.func f) #[] cv) (hc:yss P f) (w:World) :
 (execOp ev o).run P w=.ok (.enter f (xs.map ev++cv)) w:=by
 unfold execOp;rw [ho];simp [resolve,Deferred.ofValue,hx,invoke,yfb hc]
theorem wf3 {E:HEnv} {a:Act} (hI:RI Γ E ρ I J a w) (h:zxi Γ I J x=some (f,caps,rd,rh)) :
 ∃ cv:List Value,a.eval x=.func (.func f) #[] cv.toArray/\SRL J ρ (MX E.Mo ρ J) w cv caps:=by
 unfold zxi at h;split at h
 . cases h;exact ⟨[],rfl,trivial⟩
 . rename_i t;have ht:=hI.gt t;split at h
   . rename_i v hv;obtain ⟨f',hf,he⟩:=Option.map_eq_some_iff.1 h
     cases he;rw [hv] at ht;have e:a.tmps.getD t Go.undef=v:=RdC.x18 ht;exact ⟨[],by show a.tmps.getD t Go.undef=_;rw [e,yz2 hf],trivial⟩
   . rename_i b hb;split at h
     . rename_i f' caps' hg
       cases h;rw [hb] at ht;obtain ⟨cv,e,hr⟩:=hI.sbr hg (by simp);exact ⟨cv,by show a.tmps.getD t Go.undef=_;rw [ht.2.1,e],hr⟩
     . cases h
   . cases h
 . cases h
theorem voz {I':List SV} (h : zxi Γ I J x = some (f, caps, rd, rh)) (hs : ∀ t ∈ rd, gtS I' t = gtS I t) (hb : ∀ b ∈ rh, gB J' b = gB J b) : zxi Γ I' J' x = some (f, caps, rd, rh) := by
 unfold zxi at h ⊢;split at h
 . exact h
 . rename_i t
   have e:gtS I' t=gtS I t:=by
    split at h
    . obtain ⟨f',hf,he⟩:=Option.map_eq_some_iff.1 h;cases he;exact hs t (by simp)
    . split at h
      . cases h;exact hs t (by simp)
      . cases h
    . cases h
   simp only [e];split at h
   . rename_i v hv;exact h
   . rename_i b hbb;split at h
     . rename_i f' caps' hg
       cases h;rw [hb b (by simp),hg]
     . cases h
   . cases h
 . cases h
def v9n (o:Oper) (x:SV):List (Nat×SV):=match o.dst with
 | some d=>[(d,x)]
 | none=>[]
theorem RI.dst {E:HEnv} {ρ:Nat->Value} {I:List SV} {J:List SB} {a:Act} {w:World} (h:RI Γ E ρ I J a w) {o:Oper} {v:Value} {x:SV} (hx:SVR J ρ (MX E.Mo ρ J) w v x):RI Γ E ρ (appL (v9n o x) I) J (a.put o.dst v) w:=by
 unfold v9n
 cases o.dst with
 | none=>exact h
 | some d=>exact h.put hx
theorem ypf (ho:o.op=.call { callee:=.value x,args:=xs.toArray,argTypes:=ts })
 (hc:zxi Γ I J x=some (f,caps,rd,rh)) (ha:zfb J (wy6 Γ I xs++caps)=some (l,bs)) (wml:CallsD Γ P f l res) {y:SV} (hres:resS nb res=some (y,ob)) (hroom:wla J nb ob=true) :
 vbd Γ P o I J (xl0 o++rd++orrL xs) (oN nb ob++rh++bs) (v9n o y) (frzE J bs++oB nb ob):=by
 intro E ρ I' J' a w hag hah hI K Q hK;have hc':=voz hc (fun t ht=>hag.2 t (by simp [ht])) (fun b hb=>hah.gB (by simp [hb]));have hargs:=wk7 (Γ:=Γ) hag xs (fun t ht=>by simp [ht])
 have hgb:∀ b∈bs,gB J' b=gB J b:=fun b hb=>hah.gB (by simp [hb])
 have ha':=zei ha hgb;have hnt:=w9u ha'
 have hnt1:voj (wy6 Γ I' xs)=true:=by
  rw [hargs];unfold voj at hnt ⊢;rw [List.all_append,Bool.and_eq_true] at hnt;exact hnt.1
 obtain ⟨cv,hcv,hcr⟩:=wf3 hI hc';have hsr:=(xw8 hI xs hnt1).append hcr;rw [hargs] at hsr;have harr:=yig ha';obtain ⟨hw1,_,hfz⟩:=Went.frz bs J' hI.inv rfl harr (fun _=>.inl rfl);have hrb:=zlh hw1.inv ha' hfz (hsr.mv hw1.mv);have hcalls:=wml.2 _ w _ (fun b o hm=>x02 hw1.inv hm) hw1.inv.glob hrb;unfold Oper.wp;rw [z3e ho hcv wml.1 w];show Calls P f _ w _
 have e1:xs.toArray.map a.eval++cv.toArray=(xs.map a.eval++cv).toArray:=by simp
 rw [e1];refine hcalls.mono ?_;intro e w' hb
 obtain ⟨v,ρ',rfl,hw2,hv⟩:=w6y hw1.inv hb hres (nb:=nb) (fun hne=>by
  cases ob with
  | none=>exact absurd rfl hne
  | some z=>exact xd8 harr (hah.room (show nb∈oN nb (some z)++rh++bs by simp [oN]) hroom))
 refine hK _ _ ρ' ?_;rw [<-zii hgb,zo1];exact ((hI.go hw1).go hw2).dst hv
theorem wtr {t:Nat} (ho:o.op=.call { callee:=.value (.tmp t),args:=xs.toArray,argTypes:=ts }) (ht:gtS I t=.one (.dat (.fnp (zw4 Γ P F))))
 (ha:zfb J (wy6 Γ I xs)=some (l,bs)) (wml:F l res) {y:SV} (hres:resS nb res=some (y,ob)) (hroom:wla J nb ob=true) :
 vbd Γ P o I J (xl0 o++t::orrL xs) (oN nb ob++bs) (v9n o y) (frzE J bs++oB nb ob):=by
 intro E ρ I' J' a w hag hah hI K Q hK;have hargs:=wk7 (Γ:=Γ) hag xs (fun t ht=>by simp [ht])
 have hgb:∀ b∈bs,gB J' b=gB J b:=fun b hb=>hah.gB (by simp [hb])
 have ha':=zei ha hgb;have hnt:=w9u ha';have hsr:=xw8 hI xs (by rw [hargs];exact hnt);rw [hargs] at hsr;have harr:=yig ha';obtain ⟨hw1,_,hfz⟩:=Went.frz bs J' hI.inv rfl harr (fun _=>.inl rfl);have hrb:=zlh hw1.inv ha' hfz (hsr.mv hw1.mv);have hf:=(hI.go hw1).gt t;rw [hag.2 t (by simp),ht] at hf;have hf:RdC _ w (a.tmps.getD t Go.undef) (.fnp (zw4 Γ P F)):=hf;generalize hv:a.tmps.getD t Go.undef=v at hf
 cases hf with
 | fnp h1 hp=>
  obtain ⟨f,caps,rfl,hcl,hspec⟩:=hp _ w (fun _ _ _ h1 h2=>⟨h1,h2⟩);have hcalls:=hspec l res _ wml (fun b o hm=>x02 hw1.inv hm) hw1.inv.glob hrb;unfold Oper.wp;rw [z3e (x:=.tmp t) ho hv hcl w];show Calls P f _ w _
  have e1:xs.toArray.map a.eval++caps=(xs.map a.eval).toArray++caps:=by simp
  rw [e1];refine hcalls.mono ?_;intro e w' hb
  obtain ⟨v,ρ',rfl,hw2,hv⟩:=w6y hw1.inv hb hres (nb:=nb) (fun hne=>by
   cases ob with
   | none=>exact absurd rfl hne
   | some z=>exact xd8 harr (hah.room (show nb∈oN nb (some z)++bs by simp [oN]) hroom))
  refine hK _ _ ρ' ?_;rw [<-zii hgb,zo1];exact ((hI.go hw1).go hw2).dst hv
def vjm (Γ:List (Nat×List Cell)) (P:Program) (o:Oper) (I:List SV) (J:List SB) (σ2:List SV) (η2:List SB):Prop:=
 ∀(E:HEnv) (ρ:Nat->Value) (a:Act) (w:World),RI Γ E ρ I J a w->∀(K:Act->World->Prop) (Q:Exit->Act->World->Prop),
  (∀ a' w' ρ',RI Γ E ρ' σ2 η2 a' w'->K a' w')->o.wp P a w K Q
theorem vbd.p {eff:List (Nat×SV)} (h:vbd Γ P o I J rd rh eff heff):vjm Γ P o I J (appL eff I) (appL heff J):=
 fun E ρ a w hI K Q hK=>h E ρ I J a w ⟨rfl,fun _ _=>rfl⟩ ⟨rfl,fun _ _=>rfl⟩ hI K Q hK
theorem vbd.px {eff:List (Nat×SV)} (h:vbd Γ P o I (J++[.fresh]) rd rh eff heff):vjm Γ P o I J (appL eff I) (appL heff (J++[.fresh])):=
 fun E ρ a w hI K Q hK=>h.p E ρ a w (hI.go (Went.extend hI.inv 1)) K Q hK
theorem vya (ho:o.op=.call { callee:=.value x,args:=xs.toArray,argTypes:=ts })
 (hc:zxi Γ I J x=some (f,caps,rd,rh)) (hnt:voj (wy6 Γ I xs)=true) {res:SV} (wml:xpp Γ P f J (wy6 Γ I xs++caps) J' res) :
 vjm Γ P o I J (appL (v9n o res) I) J':=by
 intro E ρ a w hI K Q hK;obtain ⟨cv,hcv,hcr⟩:=wf3 hI hc;have hsr:=(xw8 hI xs hnt).append hcr;have hcalls:=wml.2 _ ρ w _ hI.inv hsr;unfold Oper.wp;rw [z3e ho hcv wml.1 w];show Calls P f _ w _
 have e1:xs.toArray.map a.eval++cv.toArray=(xs.map a.eval++cv).toArray:=by simp
 rw [e1];refine hcalls.mono ?_;rintro e w' ⟨v,ρ',rfl,hw,hv⟩;exact hK _ _ ρ' ((hI.go hw).dst hv)
theorem zed (ho:o.op=.call { callee:=.value x,args:=xs.toArray,argTypes:=ts })
 (hc:zxi Γ I J x=some (f,caps,rd,rh)) (hnt:voj (wy6 Γ I xs)=true) {res:SV} (wml:xpp Γ P f J (wy6 Γ I xs++caps) (appL heff J) res) :
 vbd Γ P o I J (xl0 o++rd++orrL xs) (List.range J.length) (v9n o res) heff:=by
 intro E ρ I' J' a w hag hah hI K Q hK
 have hη:J'=J:=by
  apply List.ext_getElem?;intro i;by_cases hi:i<J.length
  . exact hah.2 i (by simpa using hi)
  . rw [List.getElem?_eq_none (by rw [hah.1];omega),List.getElem?_eq_none (by omega)]
 subst hη;have hc':=voz hc (fun t ht=>hag.2 t (by simp [ht])) (fun b _=>rfl);have hargs:=wk7 (Γ:=Γ) hag xs (fun t ht=>by simp [ht])
 have:=vya (o:=o) (I:=I') (J:=J') ho hc' (by rw [hargs];exact hnt) (by rw [hargs];exact wml)
 exact this E ρ a w hI K Q hK
theorem ys4 {d:Nat} (ho:o.op=.makeFunc (.func f) #[] xs.toArray) (hdst:o.dst=some d) (hnt:voj (wy6 Γ I xs)=true) (hroom:y4f J nb=true) :
 vbd Γ P o I J (d::orrL xs) [nb] [(d,.one (.fnr nb))] [(nb,.clo f (wy6 Γ I xs))]:=by
 refine vbd.val hdst (fun E ρ I' J' a w hag hah hI=>?_);have hargs:=wk7 (Γ:=Γ) hag xs (fun t ht=>by simp [ht]);have hsr:=xw8 hI xs (by rw [hargs];exact hnt);rw [hargs] at hsr;have hfr:=hah.room (by simp) hroom;have hlt:nb<J'.length:=(List.getElem?_eq_some_iff.1 hfr).1;refine ⟨.func (.func f) #[] (xs.map a.eval).toArray,w,upd ρ nb (.func (.func f) #[] (xs.map a.eval).toArray),by simp [execOp,ho,Instr.makeFunc],Went.new hI.inv (vpa w) hfr (by simp) (fun h=>by cases h) (fun m=>⟨_,rfl,hsr.mv m⟩),?_⟩;exact ⟨⟨_,by simp [appL,hlt];rfl,by simp⟩,by rw [yr4],rfl⟩
theorem zqz {d:Nat} (ho:o.op=.makeFunc (.func f) #[] xs.toArray) (hdst:o.dst=some d) {caps:List AV} (ha:zfb J (wy6 Γ I xs)=some (caps,bs))
 (wml:yss P f) (hF:∀ args res,F args res->CallsD Γ P f (args++caps) res) :
 vbd Γ P o I J (d::orrL xs) bs [(d,.one (.dat (.fnp (zw4 Γ P F))))] (frzE J bs):=by
 refine vbd.val hdst (fun E ρ I' J' a w hag hah hI=>?_);have hargs:=wk7 (Γ:=Γ) hag xs (fun t ht=>by simp [ht])
 have hgb:∀ b∈bs,gB J' b=gB J b:=fun b hb=>hah.gB hb
 have ha':=zei ha hgb;have hsr:=xw8 hI xs (by rw [hargs];exact w9u ha');rw [hargs] at hsr;have harr:=yig ha';obtain ⟨hw1,_,hfz⟩:=Went.frz bs J' hI.inv rfl harr (fun _=>.inl rfl);have hrb:=zlh hw1.inv ha' hfz (hsr.mv hw1.mv);rw [<-zii hgb];refine ⟨.func (.func f) #[] (xs.map a.eval).toArray,w,ρ,by simp [execOp,ho,Instr.makeFunc],hw1,RdC.fnp rfl (fun M' w' hk=>⟨f,_,rfl,wml,fun args res vs hres hb hg hrd=>?_⟩)⟩
 have:=(hF args res hres).2 M' w' (vs++xs.map a.eval) hb hg (hrd.append (hrb.keep hk))
 simpa using this
end Go.Hp
namespace Go.Hp
open Go Go.RowKit Go.Slot
variable {P:Program} {Γ:List (Nat×List Cell)}
variable {t T S D e:TypeId} {ds:TypeDesc} {l:List Int} {off b es m:Nat} {r:Bool} {o:Oper} {I:List SV} {J J':List SB} {x y:Operand} {v:Value} {j:TypeInfo} {f:FuncId} {ts:Array TypeId} {rs:List (List Cell)} {rb:List Nat} {z:SB}
def eqL:List Value->List Value->Option Bool
 | [],[]=>some true
 | a::as,b::bs=>match kEq a b,eqL as bs with
  | some p,some q=>some (p&&q)
  | _,_=>none
 | _,_=>none
def v2z (g:TypeId->Option Nat):List Field->Nat->Option Nat
 | [],acc=>some acc
 | f::fs,acc=>match g f.type with
  | some k=>if f.name != "_" &&f.offset==acc then v2z g fs (acc+k) else none
  | none=>none
def v2p (P:Program):Nat->TypeId->Option Nat
 | 0,_=>none
 | d + 1, t => match P.underlying t, P.info? t with
  | some ds,some i=>match ds with
   | .int _=>if i.size==1 then some 1 else none
   | .string=>if i.size==1 then some 1 else none
   | .bool=>if i.size==1 then some 1 else none
   | .array n e=>match v2p P d e with
    | some k=>if i.size==n*k then some (n*k) else none
    | none=>none
   | .struct fs=>if P.stoodInHeld t then none else match v2z (v2p P d) fs.toList 0 with
    | some n=>if i.size==n then some n else none
    | none=>none
   | _=>none
  | _,_=>none
def aggT (P:Program) (t:TypeId):Bool:=match P.underlying t with
 | some (.struct _)=>true
 | some (.array _ _)=>true
 | _=>false
def valT (P:Program) (t:TypeId) (l:List Value):Value:=if aggT P t then .agg l.toArray else l.getD 0 Go.undef
theorem xog:∀{a b:List Value} {r:Bool},eqL a b=some r->a.length=b.length
 | [],[],_,_=>rfl
 | a::as,b::bs,r,h=>by
  simp only [eqL] at h;split at h
  . rename_i p q h1 h2;simp [xog h2]
  . cases h
theorem x9b:∀(k:Nat) {a b:List Value} {r:Bool},eqL a b=some r->∃ p q,eqL (a.take k) (b.take k)=some p/\eqL (a.drop k) (b.drop k)=some q/\r=(p&&q)
 | 0,a,b,r,h=>⟨true,r,by simp [eqL],by simpa using h,by simp⟩
 | k+1,[],[],r,h=>⟨true,true,by simp [eqL],by simp [eqL],by simp [eqL] at h;simp [h]⟩
 | k+1,[],_::_,r,h=>by simp [eqL] at h
 | k+1,_::_,[],r,h=>by simp [eqL] at h
 | k+1,a::as,b::bs,r,h=>by
  simp only [eqL] at h;split at h
  . rename_i p q h1 h2
    cases h;obtain ⟨p',q',h3,h4,rfl⟩:=x9b k h2;exact ⟨p&&p',q',by simp [eqL,h1,h3],by simpa using h4,by simp [Bool.and_assoc]⟩
  . cases h
theorem yow {d : Nat} {n : Nat} (h : v2p P d t = some n) : ∃ i, P.info? t = some i ∧ i.size = n := by
 cases d with
 | zero=>cases h
 | succ d=>
  unfold v2p at h;split at h
  . rename_i ds i hu hi;refine ⟨i,hi,?_⟩;split at h
    . split at h
      . rename_i hs;cases h;simpa using hs
      . cases h
    . split at h
      . rename_i hs;cases h;simpa using hs
      . cases h
    . split at h
      . rename_i hs;cases h;simpa using hs
      . cases h
    . split at h
      . split at h
        . rename_i hs;cases h;simpa using hs
        . cases h
      . cases h
    . split at h
      . cases h
      . split at h
        . split at h
          . rename_i hs;cases h;simpa using hs
          . cases h
        . cases h
    . cases h
  . cases h
theorem zhg (hu:P.underlying t=some ds) (w:World):(isAgg t).run P w=.ok (aggT P t) w:=by
 unfold aggT;rw [hu]
 cases ds<;>simp [isAgg,w9c hu]
theorem vit {d:Nat} {n:Nat} (h:v2p P d t=some n):∃ ds,P.underlying t=some ds:=by
 cases d with
 | zero=>cases h
 | succ d=>
  unfold v2p at h;split at h
  . rename_i ds i hu hi;exact ⟨ds,hu⟩
  . cases h
theorem wyg {d:Nat} {k:Nat} (h:v2p P d t=some k) {l:List Value} (hfit:off+k<=l.length) (hk:aggT P t=false->0<k) (w:World):(part t l.toArray off).run P w=.ok (valT P t ((l.drop off).take k)) w:=by
 obtain ⟨ds,hu⟩:=vit h;obtain ⟨i,hi,hs⟩:=yow h;unfold part valT;simp only [Sem.run_bind,zhg hu,Result.andThen_ok]
 cases ha:aggT P t
 . have hk:=hk ha
   have hlt:off<l.length:=by omega
   simp only [Bool.false_eq_true,if_false,List.getElem?_toArray,List.getElem?_eq_getElem hlt,Sem.run_pure]
   congr 1
   rw [List.getD_eq_getElem?_getD,List.getElem?_take,if_pos hk,List.getElem?_drop,Nat.add_zero,List.getElem?_eq_getElem hlt];rfl
 . simp only [if_true,Sem.run_bind,yyt hi,hs,Result.andThen_ok,Sem.run_pure]
   congr 1
   simp [List.extract_eq_take_drop]
theorem xyg {d:Nat} {n:Nat} (h:v2p P d t=some n) (ha:aggT P t=false):n=1/\∃ ds,P.underlying t=some ds/\((∃ k,ds=.int k)\/ds=.string\/ds=.bool):=by
 cases d with
 | zero=>cases h
 | succ d=>
  unfold v2p at h;split at h
  . rename_i ds i hu hi;unfold aggT at ha;rw [hu] at ha;split at h
    . split at h<;>cases h;exact ⟨rfl,_,hu,.inl ⟨_,rfl⟩⟩
    . split at h<;>cases h;exact ⟨rfl,_,hu,.inr (.inl rfl)⟩
    . split at h<;>cases h;exact ⟨rfl,_,hu,.inr (.inr rfl)⟩
    . cases ha
    . cases ha
    . cases h
  . cases h
theorem v6r (hu:P.underlying t=some ds) (hd:(∃ k,ds=.int k)\/ds=.string\/ds=.bool) {a b:Value} (h:kEq a b=some r) (ht:(∀ k,ds=.int k->∃ q n,a=.int q n)/\(ds=.string->∃ s,a=.string s)/\(ds=.bool->∃ p,a=.bool p)) (d:Nat) (w:World) :
 (Op.equalIn (d+1) t a b).run P w=.ok r w:=by
 rcases hd with ⟨k,rfl⟩ | rfl | rfl
 . obtain ⟨q,n,rfl⟩:=ht.1 k rfl
   cases b<;>simp only [kEq] at h<;>first | (cases h;done) | skip
   split at h
   . rename_i e;subst e;cases h;simp [Op.equalIn,w9c hu]
   . cases h
 . obtain ⟨s,rfl⟩:=ht.2.1 rfl
   cases b<;>simp only [kEq] at h<;>first | (cases h;done) | skip
   cases h;simp [Op.equalIn,w9c hu,beq_toListBytes,seq]
 . obtain ⟨p,rfl⟩:=ht.2.2 rfl
   cases b<;>simp only [kEq] at h<;>first | (cases h;done) | skip
   cases h;simp [Op.equalIn,w9c hu]
def fitD:TypeDesc->Value->Bool
 | .int k,.int k' _=>k==k'
 | .string,.string _=>true
 | .bool,.bool _=>true
 | _,_=>false
def fitF (g:TypeId->List Value->Bool) (sz:TypeId->Nat):List Field->List Value->Bool
 | [],_=>true
 | f::fs,l=>g f.type (l.take (sz f.type))&&fitF g sz fs (l.drop (sz f.type))
def fitN (g:List Value->Bool) (k:Nat):Nat->List Value->Bool
 | 0,_=>true
 | n+1,l=>g (l.take k)&&fitN g k n (l.drop k)
def fitT (P:Program):Nat->TypeId->List Value->Bool
 | 0,_,_=>false
 | d+1,t,l=>match P.underlying t with
  | some (.array n e)=>fitN (fitT P d e) (P.cellsOf e) n l
  | some (.struct fs)=>fitF (fitT P d) P.cellsOf fs.toList l
  | some ds=>match l with
   | [v]=>fitD ds v
   | _=>false
  | none=>false
theorem x5j:∀(d:Nat) {t:TypeId} {n:Nat},v2p P d t=some n->∀(m:Nat) {l l':List Value} {r:Bool},l.length=n->fitT P d t l=true->eqL l l'=some r->∀ w,(Op.equalIn (d+m) t (valT P t l) (valT P t l')).run P w=.ok r w
 | 0,_,_,h=>by cases h
 | d + 1, t, n, h => fun m l l' r hl hfit he w => by
  have hll:=xog he
  cases ha:aggT P t with
  | false=>
   obtain ⟨rfl,ds,hu,hd⟩:=xyg h ha;unfold fitT at hfit;rw [hu] at hfit
   match l,l',hl,hll,he with
   | [a],[b],_,_,he=>
    unfold valT;rw [ha];simp only [Bool.false_eq_true,if_false,List.getD_cons_zero]
    have hk:kEq a b=some r:=by
     simp only [eqL] at he;split at he
     . rename_i p q h1 h2;cases h2;cases he;rw [h1];simp
     . cases he
    rw [show d+1+m=d+m+1 by omega];refine v6r hu hd hk ?_ (d+m) w
    rcases hd with ⟨k,rfl⟩ | rfl | rfl
    . refine ⟨fun k' _=>?_,fun e=>(by cases e),fun e=>(by cases e)⟩
      cases a<;>simp [fitD] at hfit
      exact ⟨_,_,rfl⟩
    . refine ⟨fun k' e=>(by cases e),fun _=>?_,fun e=>(by cases e)⟩
      cases a<;>simp [fitD] at hfit
      exact ⟨_,rfl⟩
    . refine ⟨fun k' e=>(by cases e),fun e=>(by cases e),fun _=>?_⟩
      cases a<;>simp [fitD] at hfit
      exact ⟨_,rfl⟩
  | true=>
   unfold valT;rw [ha];simp only [if_true];unfold v2p at h;split at h
   case h_2=>cases h
   rename_i ds i hu hi;unfold fitT at hfit;rw [hu] at hfit;split at h
   case h_1 | h_2 | h_3 | h_6=>first | (unfold aggT at ha;rw [hu] at ha;cases ha) | cases h
   ·
    rename_i nn e;split at h
    case h_2=>cases h
    rename_i k hk;split at h
    case isFalse=>cases h
    cases h;obtain ⟨ie,hie,hse⟩:=yow hk
    have hce:P.cellsOf e=k:=by simp [Program.cellsOf,hie,hse]
    rw [show d+1+m=d+m+1 by omega,run_equalIn_array w (d+m) l.toArray l'.toArray hu hie,hce];simp only [hce] at hfit
    have key:∀(c j:Nat) {r:Bool},c+j=nn->fitN (fitT P d e) k c (l.drop (j*k))=true->eqL (l.drop (j*k)) (l'.drop (j*k))=some r->(Op.eqItems (d+m) e k l.toArray l'.toArray (List.range' j c)).run P w=.ok r w:=by
     intro c
     induction c with
     | zero=>
      intro j r hj _ he
      have:l.drop (j*k)=[]:=List.drop_eq_nil_of_le (by rw [hl,<-hj];simp)
      have h2:l'.drop (j*k)=[]:=List.drop_eq_nil_of_le (by rw [<-hll,hl,<-hj];simp);rw [this,h2] at he
      cases he;simp [Op.eqItems]
     | succ c ih=>
      intro j r hj hf he;simp only [fitN,Bool.and_eq_true] at hf;obtain ⟨p,q,h1,h2,rfl⟩:=x9b k he
      have hfit1:j*k+k<=l.length:=by
       rw [hl,<-hj]
       have:(j+1)*k<=(c+1+j)*k:=Nat.mul_le_mul_right _ (by omega)
       rw [Nat.add_mul,Nat.one_mul] at this;exact this
      have hpos:aggT P e=false->0<k:=fun ha=>by rw [(xyg hk ha).1];exact Nat.one_pos
      rw [List.range'_succ];have h3:=x5j d hk m (by simp;omega) hf.1 h1 w;simp only [Op.eqItems,Sem.run_bind,wyg hk hfit1 hpos,wyg hk (l:=l') (by rw [<-hll];exact hfit1) hpos,Result.andThen_ok,h3];rw [List.drop_drop,List.drop_drop,show j*k+k=(j+1)*k by rw [Nat.add_mul,Nat.one_mul]] at h2;have hf2:=hf.2;rw [List.drop_drop,show j*k+k=(j+1)*k by rw [Nat.add_mul,Nat.one_mul]] at hf2
      cases p
      . simp
      . simp only [Bool.not_true,Bool.false_eq_true,if_false,Bool.true_and];exact ih (j+1) (by omega) hf2 h2
    rw [List.range_eq_range'];exact key nn 0 (by omega) (by simpa using hfit) (by simpa using he)
   ·
    rename_i fs;split at h
    . cases h
    rename_i hsi;split at h
    case h_2=>cases h
    rename_i nn hff;split at h
    case isFalse=>cases h
    cases h
    have hfo:P.fieldsOf t=fs:=by simp [Program.fieldsOf,hu]
    rw [show d+1+m=d+m+1 by omega,run_equalIn_struct w (d+m) t _ _ (by rw [hfo];exact hu) (by simpa using hsi),hfo]
    have key:∀(fs:List Field) (acc:Nat) {r:Bool},v2z (v2p P d) fs acc=some n->fitF (fitT P d) P.cellsOf fs (l.drop acc)=true->eqL (l.drop acc) (l'.drop acc)=some r->(Op.eqFields (d+m) l.toArray l'.toArray fs).run P w=.ok r w:=by
     intro fs
     induction fs with
     | nil=>
      intro acc r hf _ he;simp only [v2z,Option.some.injEq] at hf
      have:l.drop acc=[]:=List.drop_eq_nil_of_le (by omega)
      have h2:l'.drop acc=[]:=List.drop_eq_nil_of_le (by omega);rw [this,h2] at he
      cases he;simp [Op.eqFields]
     | cons f fs ih=>
      intro acc r hf hfi he;simp only [v2z] at hf;split at hf
      case h_2=>cases hf
      rename_i k hk;split at hf
      case isFalse=>cases hf
      rename_i hc;simp only [Bool.and_eq_true,bne_iff_ne,ne_eq,beq_iff_eq] at hc;obtain ⟨ie,hie,hse⟩:=yow hk
      have hce:P.cellsOf f.type=k:=by simp [Program.cellsOf,hie,hse]
      simp only [fitF,hce,Bool.and_eq_true] at hfi;obtain ⟨p,q,h1,h2,rfl⟩:=x9b k he
      have hmono:∀(fs:List Field) (a n:Nat),v2z (v2p P d) fs a=some n->a<=n:=by
       intro fs
       induction fs with
       | nil=>intro a n h;simp only [v2z,Option.some.injEq] at h;omega
       | cons f fs ih=>
        intro a n h;simp only [v2z] at h;split at h
        . split at h
          . have:=ih _ _ h;omega
          . cases h
        . cases h
      have hfit1:acc+k<=l.length:=by have:=hmono _ _ _ hf;omega
      have hpos:aggT P f.type=false->0<k:=fun ha=>by rw [(xyg hk ha).1];exact Nat.one_pos
      have h3:=x5j d hk m (by simp;omega) hfi.1 h1 w;simp only [Op.eqFields,hc.1,ne_eq,not_false_eq_true,if_true,hc.2,Sem.run_bind,wyg hk hfit1 hpos,wyg hk (l:=l') (by rw [<-hll];exact hfit1) hpos,Result.andThen_ok,h3];rw [List.drop_drop,List.drop_drop] at h2;have hf2:=hfi.2;rw [List.drop_drop] at hf2
      cases p
      . simp
      . simp only [Bool.not_true,Bool.false_eq_true,if_false,Bool.true_and];exact ih (acc+k) hf hf2 h2
    exact key fs.toList 0 hff (by simpa using hfit) (by simpa using he)
def zk2:List HC->Option (List Value)
 | []=>some []
 | .dat (.raw v)::r=>(zk2 r).map (v::·)
 | _::_=>none
theorem w4o {J:List SB} {ρ:Nat->Value} {M:Nat->Nat->Prop} {w:World}:∀{hs:List HC} {l vs:List Value},zk2 hs=some l->HRL J ρ M w vs hs->vs=l
 | [],l,vs,h,hr=>by
  cases h
  cases vs with
  | nil=>rfl
  | cons _ _=>exact hr.elim
 | x::hs,l,vs,h,hr=>by
  cases vs with
  | nil=>exact hr.elim
  | cons v vs=>
   unfold zk2 at h;split at h
   . rename_i heq;cases heq
   . rename_i u r heq
     cases heq;obtain ⟨l',hl,rfl⟩:=Option.map_eq_some_iff.1 h;rw [w4o hl hr.2,RdC.x18 hr.1]
   . cases h
def eqOf (op:BinOp) (r:Bool):Option Bool:=match op with
 | .eql=>some r
 | .neq=>some (!r)
 | _=>none
def yxi (P:Program) (T:TypeId) (op:BinOp) (x y:SV):Option SV:=match x,y with
 | .agg hx,.agg hy=>match zk2 hx,zk2 hy with
  | some lx,some ly=>if v2p P 9 T=some lx.length/\aggT P T=true/\P.eqGuardType P.depth T=false/\fitT P 9 T lx=true then
   match eqL lx ly with
   | some r=>(eqOf op r).map fun b=>.one (.dat (.raw (.bool b)))
   | none=>none
   else none
  | _,_=>none
 | _,_=>none
theorem z9c {op:BinOp} {U:TypeId} {d:Nat} (ho:o.op=.binOp op T x y U) (hdst:o.dst=some d) {v:SV} (h:yxi P T op (opdS Γ I x) (opdS Γ I y)=some v) :
 vbd Γ P o I J (d::(orr x++orr y)) [] [(d,v)] []:=by
 refine vbd.pure hdst (fun E ρ I' J' a w hag hah hI=>?_);have hx:=hI.opd x;have hy:=hI.opd y;rw [hag.opd (fun t ht=>by simp [ht])] at hx hy;unfold yxi at h;split at h
 case h_2=>cases h
 rename_i hsx hsy ex ey;split at h
 case h_2=>cases h
 rename_i lx ly h1 h2;split at h
 case isFalse=>cases h
 rename_i hc;split at h
 case h_2=>cases h
 rename_i r hr;obtain ⟨b,hb,rfl⟩:=Option.map_eq_some_iff.1 h;rw [ex] at hx;rw [ey] at hy;obtain ⟨vx,hvx,hrx⟩:=hx;obtain ⟨vy,hvy,hry⟩:=hy;rw [w4o h1 hrx] at hvx;rw [w4o h2 hry] at hvy;have hrun:=x5j 9 hc.1 9991 rfl hc.2.2.2 hr w;unfold valT at hrun;rw [hc.2.1] at hrun;simp only [if_true,Nat.reduceAdd] at hrun
 have hg:∀ ox oy,(eqGuard op T ox oy (.agg lx.toArray) (.agg ly.toArray)).run P w=.ok () w:=fun ox oy=>run_eqGuard_agg w op T ox oy _ _ hc.2.2.1
 refine ⟨.bool b,?_,RdC.raw rfl⟩;unfold eqOf at hb;split at hb
 . cases hb;simp only [execOp,ho,hvx,hvy,Sem.run_bind,hg,Result.andThen_ok,run_eql_struct,hrun,Sem.run_pure]
 . cases hb;simp only [execOp,ho,hvx,hvy,Sem.run_bind,hg,Result.andThen_ok,run_neq_struct,hrun,Sem.run_pure]
 . cases hb
def wha (J:List SB):SV->Option (List Int×List Nat)
 | .one h=>match zyf J h with
  | some (c,bs)=>(wxa .u8 c).map fun l=>(l,bs)
  | none=>none
 | _=>none
theorem zcf {d:Nat} (ho:o.op=.convert S D x) (hdst:o.dst=some d) (hS:P.underlying S=some (.slice e)) (he:P.underlying e=some (.int .u8)) (hD:P.underlying D=some .string)
 {bs:List Nat} (h:wha J (opdS Γ I x)=some (l,bs)):vbd Γ P o I J (d::orr x) bs [(d,.one (.dat (.raw (.string (strOfNums l)))))] (frzE J bs):=by
 refine vbd.val hdst (fun E ρ I' J' a w hag hah hI=>?_);have hx:=hI.opd x;rw [hag.opd (fun t ht=>by simp [ht])] at hx;unfold wha at h;split at h
 case h_2=>cases h
 rename_i hc hxe;split at h
 case h_2=>cases h
 rename_i c bs' hd;obtain ⟨l',hl,he'⟩:=Option.map_eq_some_iff.1 h
 cases he';rw [hxe] at hx
 have hgb:∀ b∈bs,gB J' b=gB J b:=fun b hb=>hah.gB hb
 have hd':=xm5 hd hgb;obtain ⟨hw1,_,hfz⟩:=Went.frz bs J' hI.inv rfl (wtq hd') (fun _=>.inl rfl);have hx0:HRd J' ρ (MX E.Mo ρ J') w (a.eval x) hc:=hx;have hr:=yw5 hw1.inv hd' hfz (HRd.mv hw1.mv hx0);rw [<-zii hgb];obtain ⟨⟨ad,cap,hv⟩,hcells⟩:=hr.v7h hl;refine ⟨.string (strOfNums l),w,ρ,?_,hw1,RdC.raw rfl⟩
 have hexec:∀ u,(convert S D (a.eval x)).run P w=.ok u w->(execOp a.eval o).run P w=.ok (.value u) w:=fun u hr=>by
  unfold execOp;rw [ho];simp only [Sem.run_bind,hr,Result.andThen_ok,Sem.run_pure]
 apply hexec;rw [hv]
 rcases hcells with hnil | ⟨b,off,cap',e1,hc⟩
 . have hl0:l=[]:=by simpa using hnil
   subst hl0
   cases ad with
   | none=>rw [run_convert_bytes_nil w S e hS he _ _ D hD];rfl
   | some ad=>
    rw [run_convert_bytes_string w S D e (some ad) _ cap hS he hD,run_bytesToString w ad _ cap [] (by simp [loadCells,loadCellsFrom])];rfl
 . rw [hv] at e1
   cases e1
   exact run_convert_bytes_arg w S e hS he b off l.length _ l rfl (fun i hi=>by
    have:=(hc i (.int .u8 l[i]) (by simp [hi])).2
    rw [this]
    simp [List.getD,hi]) D hD
def zbh:SV->Option Bool
 | .one (.dat (.raw (.pointer none)))=>some true
 | .one (.ptr _ _) | .one (.pel _ _ _ _) | .elt _=>some false
 | _=>none
def wcj:SV->SV->Bool
 | .one (.ptr b f),.one (.ptr b' f')=>b==b'&&f==f'
 | _,_=>false
def xra (op:BinOp) (x y:SV):Option SV:=match zbh y with
 | some true=>match zbh x with
  | some r=>(eqOf op r).map fun b=>.one (.dat (.raw (.bool b)))
  | none=>none
 | _=>match wcj x y with
  | true=>(eqOf op true).map fun b=>.one (.dat (.raw (.bool b)))
  | false=>none
theorem x0o (hT:P.underlying T=some (.pointer t)) (v:Value) (r:Bool) (hv:(r=true/\v=.pointer none)\/(r=false/\∃ a,v=.pointer (some a))) (d:Nat) (w:World):(Op.equalIn (d+1) T v (.pointer none)).run P w=.ok r w:=by
 rcases hv with ⟨rfl,rfl⟩ | ⟨rfl,a,rfl⟩<;>simp [Op.equalIn,w9c hT]
theorem y4d (hT:P.underlying T=some (.pointer t)) (ht:P.info? t=some j) (a:Addr) (d:Nat) (w:World):(Op.equalIn (d+1) T (.pointer (some a)) (.pointer (some a))).run P w=.ok true w:=by
 simp [Op.equalIn,w9c hT,sizeOf,typeInfo,ht,run_sameAddr_same]
theorem w2q {op:BinOp} {x y:Option Addr} {b:Bool} (hb:eqOf op r=some b) (h:∀ d w,(Op.equalIn (d+1) T (.pointer x) (.pointer y)).run P w=.ok r w) (w:World):(binOp op T (.pointer x) (.pointer y)).run P w=.ok (.bool b) w:=by
 unfold eqOf at hb
 split at hb<;>first | (cases hb;done) | skip
 . cases hb;simp only [binOp];simp [Op.equal,Op.maxDepth,h 9999]
 . cases hb;simp only [binOp];simp [Op.equal,Op.maxDepth,h 9999]
theorem vrx {op:BinOp} {U:TypeId} {d:Nat} (ho:o.op=.binOp op T x y U) (hdst:o.dst=some d) (hT:P.underlying T=some (.pointer t)) (ht:P.info? t=some j) {v:SV}
 (h:xra op (opdS Γ I x) (opdS Γ I y)=some v):vbd Γ P o I J (d::(orr x++orr y)) [] [(d,v)] []:=by
 refine vbd.pure hdst (fun E ρ I' J' a w hag hah hI=>?_);have hx:=hI.opd x;have hy:=hI.opd y;rw [hag.opd (fun t ht=>by simp [ht])] at hx hy
 have nilv:∀{v:Value} {s:SV} {r:Bool},SVR J' ρ (MX E.Mo ρ J') w v s->zbh s=some r->(r=true/\v=.pointer none)\/(r=false/\∃ a,v=.pointer (some a)):=fun {v s r} hv hr=>by
  unfold zbh at hr
  split at hr<;>first | (cases hr;done) | (cases hr;skip)
  . exact .inl ⟨rfl,RdC.x18 hv⟩
  . exact .inr ⟨rfl,_,hv.2⟩
  . exact .inr ⟨rfl,_,hv.2⟩
  . obtain ⟨b,oo,vs,e,_⟩:=hv;exact .inr ⟨rfl,_,e⟩
 have hexec:∀(ax ay:Option Addr) (b:Bool),a.eval x=.pointer ax->a.eval y=.pointer ay->(binOp op T (.pointer ax) (.pointer ay)).run P w=.ok (.bool b) w->(execOp a.eval o).run P w=.ok (.value (.bool b)) w:=fun ax ay b e1 e2 hr=>by
  have hg:∀ ox oy,(eqGuard op T ox oy (.pointer ax) (.pointer ay)).run P w=.ok () w:=fun ox oy=>by cases op<;>simp [eqGuard]
  unfold execOp;rw [ho];simp only [e1,e2,Sem.run_bind,hg,Result.andThen_ok,hr,Sem.run_pure]
 unfold xra at h;split at h
 . rename_i hny;split at h
   . rename_i r hnx;obtain ⟨b,hb,rfl⟩:=Option.map_eq_some_iff.1 h
     rcases nilv hy hny with ⟨_,e2⟩ | ⟨e,_⟩
     . have hv:=nilv hx hnx
       have hv':∃ ax,a.eval x=.pointer ax:=by rcases hv with ⟨_,e⟩ | ⟨_,ad,e⟩<;>exact ⟨_,e⟩
       obtain ⟨ax,ex⟩:=hv';refine ⟨.bool b,hexec ax none b ex e2 (w2q hb (fun d w=>x0o hT _ r (by rw [<-ex];exact hv) d w) w),RdC.raw rfl⟩
     . cases e
   . cases h
 . split at h
   . rename_i hs;obtain ⟨b,hb,rfl⟩:=Option.map_eq_some_iff.1 h
     have hsv:∃ bb f,opdS Γ I x=.one (.ptr bb f)/\opdS Γ I y=.one (.ptr bb f):=by
      generalize opdS Γ I x=sx at hs;generalize opdS Γ I y=sy at hs;unfold wcj at hs;split at hs
      . simp only [Bool.and_eq_true,beq_iff_eq] at hs;obtain ⟨rfl,rfl⟩:=hs;exact ⟨_,_,rfl,rfl⟩
      . cases hs
     obtain ⟨bb,f,e1,e2⟩:=hsv;rw [e1] at hx;rw [e2] at hy;exact ⟨.bool b,hexec _ _ b hx.2 hy.2 (w2q hb (fun d w=>y4d hT ht _ d w) w),RdC.raw rfl⟩
   . cases h
def x7k (J:List SB):SV->Option (Nat×Nat×TypeId×Nat)
 | .one (.ptr b off)=>match gB J b with
  | .box hs (some T)=>if off<hs.length then some (b,off,T,hs.length) else none
  | _=>none
 | _=>none
theorem xxz {E : HEnv} {ρ : Nat → Value} {I' : List SV} {a : Act} {w : World} (hI : RI Γ E ρ I' J' a w) {x : SV} {n:Nat} (h : x7k J x = some (b, off, T, n)) (hb : gB J' b = gB J b) (hx : SVR J' ρ (MX E.Mo ρ J') w v x) :
 x=.one (.ptr b off)/\∃ ad:Addr,v=.pointer (some ad)/\ad.off=off/\off<n/\w.shape? ad.block=some (T,n):=by
 unfold x7k at h;split at h
 . rename_i b' off';split at h
   . rename_i hs T' hg;split at h
     . rename_i hlt
       cases h
       have hg':gB J' b=.box hs (some T):=by rw [hb];exact hg
       obtain ⟨bb,vs,T2,e,hh,hr,hT⟩:=hI.sbr hg' (by simp)
       have hbk:bk (ρ b)=bb:=by rw [e];rfl
       refine ⟨rfl,_,hx.2,rfl,hlt,?_⟩;simp only [hbk];unfold World.shape?;rw [hh,hT T rfl];simp [hr.length]
     . cases h
   . cases h
 . cases h
theorem zw8 {d n:Nat} (ho:o.op=.convert S D x) (hdst:o.dst=some d) (hS:P.underlying S=some (.pointer t)) (hD:P.underlying D=some .unsafePointer) (ht:P.info? t=some j) (hj:j.size≠0)
 (hb:x7k J (opdS Γ I x)=some (b,off,T,n)):vbd Γ P o I J (d::orr x) [b] [(d,.one (.ptr b off))] []:=by
 refine vbd.pure hdst (fun E ρ I' J' a w hag hah hI=>?_);have hx:=hI.opd x;rw [hag.opd (fun t ht=>by simp [ht])] at hx;obtain ⟨e0,ad,e1,e2,e3,e4⟩:=xxz hI hb (hah.gB (by simp)) hx;rw [e0] at hx;have hrun:=Go.Lib.run_to_unsafe (P:=P) w ad hS hD ht hj e4 (by omega);refine ⟨a.eval x,?_,hx⟩;unfold execOp;rw [ho];simp only [e1,Sem.run_bind,hrun,Result.andThen_ok,Sem.run_pure]
theorem xyx {u:TypeId} {d n:Nat} (ho:o.op=.convert S D x) (hdst:o.dst=some d) (hS:P.underlying S=some .unsafePointer) (hD:P.underlying D=some (.pointer u)) (hu:P.info? u=some j)
 (hlies:liesAt P P.depth T (n / P.cellsOf T) off u 1=true) (hb:x7k J (opdS Γ I x)=some (b,off,T,n)):vbd Γ P o I J (d::orr x) [b] [(d,.one (.ptr b off))] []:=by
 refine vbd.pure hdst (fun E ρ I' J' a w hag hah hI=>?_);have hx:=hI.opd x;rw [hag.opd (fun t ht=>by simp [ht])] at hx;obtain ⟨e0,ad,e1,e2,e3,e4⟩:=xxz hI hb (hah.gB (by simp)) hx;rw [e0] at hx;have hrun:=Go.Lib.run_from_unsafe (P:=P) w ad hS hD hu e4 (by rw [e2];exact hlies);refine ⟨a.eval x,?_,hx⟩;unfold execOp;rw [ho];simp only [e1,Sem.run_bind,hrun,Result.andThen_ok,Sem.run_pure]
def xts (P:Program) (f:FuncId):Bool:=match P.funcs[f]? with
 | some fn=>fn.body.isNone&&fn.name == "internal/abi.NoEscape" &&fn.origin == ""
 | none=>false
theorem z8b:Extern.allNextRows.lookup "internal/abi.NoEscape" = none/\Extern.allNextRows.lookup "" = none/\Extern.allGenericRows.lookup "internal/abi.NoEscape" = none/\Extern.allTypedRows.lookup "internal/abi.NoEscape" = none:=by
 refine ⟨?_,?_,?_,?_⟩<;>kernel_rfl
theorem yki:Extern.allRows.lookup "internal/abi.NoEscape" = some Extern.AbiNoEscape.same:=by kernel_rfl
theorem yxz (h:xts P f=true) (v:Value) (w:World):(callFunc f #[v]).run P w=.ok (.value v) w:=by
 unfold xts at h;split at h
 . rename_i fn hf;simp only [Bool.and_eq_true,beq_iff_eq] at h;obtain ⟨⟨hb,hn⟩,ho⟩:=h;obtain ⟨r1,r2,r3,r4⟩:=z8b
   have h1:Extern.findNext fn=none:=by
    unfold Extern.findNext;simp only [hn,ho,r1,r2,Option.map_none];rfl
   have h2:Extern.find fn=some Extern.AbiNoEscape.same:=by
    unfold Extern.find;simp only [hn,ho,r3,r4,yki,Option.map_none];rfl
   rw [run_callFunc_extern hf (by rw [hn];rfl) hb h1 h2,Go.Lib.run_noEscape];rfl
 . cases h
theorem zde {d:Nat} (ho:o.op=.call { callee:=.value (.func f),args:=#[x],argTypes:=ts }) (hdst:o.dst=some d) (hf:xts P f=true):vbd Γ P o I J (d::orr x) [] [(d,opdS Γ I x)] []:=by
 refine vbd.pure hdst (fun E ρ I' J' a w hag hah hI=>?_);have hx:=hI.opd x;rw [hag.opd (fun t ht=>by simp [ht])] at hx;refine ⟨a.eval x,?_,hx⟩;have hrun:=yxz hf (a.eval x) w;have he:a.eval (.func f)=.func (.func f) #[] #[]:=rfl;unfold execOp;rw [ho];simp [resolve,Deferred.ofValue,he,invoke,hrun]
def usdH:SV->Option SV
 | .one (.sl b 1 0 n)=>if 0<n then some (.one (.pel b 1 0 0)) else none
 | _=>none
theorem z4z {d:Nat} (ho:o.op=.call { callee:=.builtin .unsafeSliceData,args:=#[x],argTypes:=ts }) (hdst:o.dst=some d) {v:SV} (h:usdH (opdS Γ I x)=some v) :
 vbd Γ P o I J (d::orr x) [] [(d,v)] []:=by
 refine vbd.pure hdst (fun E ρ I' J' a w hag hah hI=>?_);have hx:=hI.opd x;rw [hag.opd (fun t ht=>by simp [ht])] at hx;unfold usdH at h;split at h
 . rename_i b n e;split at h
   . rename_i hn
     cases h;rw [e] at hx;obtain ⟨hob,ad,cap,hv,hle,hcap⟩:=hx;obtain ⟨_,had,_⟩:=hcap (by omega);subst had;refine ⟨.pointer (some ⟨bk (ρ b),0*1,none⟩),?_,hob,rfl⟩;rw [zs6 ho,show (#[x]:Array Operand).map a.eval=#[a.eval x] from by simp,hv];simp only [builtin,Sem.run_bind,Go.Lib.run_unsafeSliceData_row w ts o.type ⟨bk (ρ b),0*1,none⟩ n cap (by omega)];rfl
   . cases h
 . cases h
def vjd (P:Program) (t:TypeId):Option TypeId:=match P.underlying t with
 | some (.pointer e)=>some e
 | _=>none
theorem ylq (h:vjd P t=some e):P.underlying t=some (.pointer e):=by
 unfold vjd at h;split at h
 . rename_i e' hu;cases h;exact hu
 . cases h
def x7g (n:Int):Bool:=decide (0<=n)&&decide (n<256)
def usH (P:Program) (J:List SB) (pt:TypeId) (x y:SV):Option (Nat×List Int):=match x,y with
 | .one (.pel b 1 0 0),.one (.dat (.raw (.int .i64 n)))=>match gB J b with
  | .arr (.ints .u8 l) _ (some e)=>if vjd P pt=some e/\P.cellsOf e=1/\n=(l.length:Int)/\0<l.length/\l.length<=9223372036854775807/\l.all x7g=true then some (b,l) else none
  | _=>none
 | _,_=>none
theorem World.x1j (w:World) (a:Addr) (n k:Nat) (h:k≠a.block):(w.freeze a n).heap[k]? = w.heap[k]?:=by
 unfold World.freeze
 split
 . rfl
 . simp only [Array.getElem?_modify];rw [if_neg (Ne.symm h)]
theorem s_us {pt it:TypeId} {d:Nat} (ho:o.op=.call { callee:=.builtin .unsafeString,args:=#[x,y],argTypes:=#[pt,it] }) (hdst:o.dst=some d) (h:usH P J pt (opdS Γ I x) (opdS Γ I y)=some (b,l)) :
 vbd Γ P o I J (d::(orr x++orr y)) [b] [(d,.one (.dat (.raw (.string (strOfNums l)))))] [(b,.dead)]:=by
 refine vbd.val hdst (fun E ρ I' J' a w hag hah hI=>?_);have hx:=hI.opd x;have hy:=hI.opd y;rw [hag.opd (fun t ht=>by simp [ht])] at hx hy;unfold usH at h;split at h
 case h_2=>cases h
 rename_i b' n ex ey;split at h
 case h_2=>cases h
 rename_i l' k e hb;split at h
 case isFalse=>cases h
 rename_i hc
 cases h;obtain ⟨hpt,hce,rfl,hl0,h63,hby⟩:=hc;have hpt:=ylq hpt;rw [ex] at hx;rw [ey] at hy
 have hb':gB J' b=.arr (.ints .u8 l) k (some e):=by rw [hah.gB (by simp)];exact hb
 have hbs:=xuw hb' (by simp);obtain ⟨⟨hu,hk⟩,h0 | ⟨bb,vs,q,T2,e1,hh,hr,hT⟩⟩:=hI.sbr hb' (by simp)
 . have h1:=h0.1;simp [Cell.cnt] at h1;rw [h1] at hl0;simp at hl0
 have hbk:bk (ρ b)=bb:=by rw [e1];rfl
 have hT:=hT e rfl;subst hT
 have ev:a.eval x=.pointer (some ⟨bb,0,none⟩):=by rw [hx.2,hbk]
 have ey':a.eval y=.int .i64 (l.length:Int):=RdC.x18 hy
 have hvs:vs=l.map (Value.int .u8):=xrp (k:=.u8) hr (by
  have:∀ l:List Int,w6n .u8 (l.map fun n=>Cell.raw (.int .u8 n))=some l:=by
   intro l
   induction l with
   | nil=>rfl
   | cons n l ih=>simp [w6n,ih]
  exact this l)
 have hsh:w.shape? bb=some (T2,(vs++q).length):=by simp [World.shape?,hh]
 have hbyte:∀ n∈l,0<=n/\n<256:=fun n hn=>by
  have:=(List.all_eq_true.1 hby) n hn
  simpa [x7g] using this
 have hcell:∀(j:Nat) (u:UInt8),(l.map fun n=>UInt8.ofNat n.toNat)[j]? = some u->w.cell? ((⟨bb,0,none⟩:Addr).add j)=some (.int .u8 u.toNat):=fun j u hj=>by
  rw [v4h,Nat.zero_add];rw [List.getElem?_map] at hj;obtain ⟨n,hn,rfl⟩:=Option.map_eq_some_iff.1 hj;have h2:=hbyte n (List.mem_of_getElem? hn)
  have h3:((UInt8.ofNat n.toNat).toNat:Int)=n:=by
   rw [UInt8.toNat_ofNat']
   have:n.toNat % 2 ^ 8=n.toNat:=Nat.mod_eq_of_lt (by omega)
   rw [this];omega
  rw [h3];exact xbn hh (by rw [hvs,List.getElem?_map,hn];rfl)
 have hrun:=Go.Lib.run_unsafeString_row (P:=P) w pt it o.type T2 hpt hce bb _ hsh (l.map fun n=>UInt8.ofNat n.toNat) (by intro e;simp at e;subst e;simp at hl0) (by simp [hvs]) (by simpa using h63) hcell;simp only [List.length_map] at hrun;have hres:(⟨(l.map fun n=>UInt8.ofNat n.toNat).toArray⟩:ByteArray)=strOfNums l:=rfl;rw [hres] at hrun;have hw1:=Went.kill hI.inv hbs
 have hfz:(w.freeze ⟨bb,0,none⟩ l.length).heap[bb]? = some (.cells (vs++q).toArray T2 (if (0:Nat)==0 then (0,0+l.length) else (min 0 0,max 0 (0+l.length)))):=by
  unfold World.freeze;rw [if_neg (by omega)];simp only [Array.getElem?_modify,if_true];rw [hh];rfl
 have hother:=fun k hk=>World.x1j w ⟨bb,0,none⟩ l.length k hk
 have hsz:(w.freeze ⟨bb,0,none⟩ l.length).heap.size=w.heap.size:=by
  unfold World.freeze;split<;>simp
 have hos:(w.freeze ⟨bb,0,none⟩ l.length).os=w.os/\(w.freeze ⟨bb,0,none⟩ l.length).tape=w.tape/\(w.freeze ⟨bb,0,none⟩ l.length).output=w.output:=by
  unfold World.freeze;split<;>exact ⟨rfl,rfl,rfl⟩
 have hcells:∀ c oo u,w.cell? ⟨c,oo,none⟩=some u->(w.freeze ⟨bb,0,none⟩ l.length).cell? ⟨c,oo,none⟩=some u:=fun c oo u hc=>by
  by_cases e2:c=bb
  . subst e2;unfold World.cell? at hc ⊢;dsimp only at hc ⊢;rw [hh] at hc;rw [hfz];exact hc
  . unfold World.cell? at hc ⊢;dsimp only at hc ⊢;rw [hother c e2];exact hc
 have hkeep:∀ M,wf2 M M w (w.freeze ⟨bb,0,none⟩ l.length):=fun M c oo u h1 h2=>⟨h1,hcells c oo u h2⟩
 have hgrow:Grow w (w.freeze ⟨bb,0,none⟩ l.length):=fun i arr T fz hi=>by
  by_cases e2:i=bb
  . subst e2;rw [hh] at hi;cases hi;exact ⟨_,_,_,hfz,Nat.le_refl _⟩
  . exact ⟨arr,T,fz,by rw [hother i e2];exact hi,Nat.le_refl _⟩
 have hnotown:∀ i z,(J'.set b .dead)[i]? = some z->z.own=true->real (ρ i)->bk (ρ i)≠bb:=fun i z hi hz hri e2=>by
  rcases yu6 hi with ⟨_,rfl⟩ | ⟨hn,hi⟩
  . cases hz
  . exact hn (hI.inv.inj i b z _ hi hbs hz rfl hri (by rw [e1];simp [real]) (by rw [hbk];exact e2))
 have hinv2:HInv Γ E.Mo ρ (J'.set b .dead) (w.freeze ⟨bb,0,none⟩ l.length):=
  ⟨fun c oo hm=>by rw [hsz];exact hw1.inv.bnd c oo hm,fun i z hi=>(hw1.inv.blk i z hi).mv ⟨fun _ h=>h,fun _ _=>rfl,hkeep _,hgrow⟩ (fun ho' hr'=>hother _ (hnotown i z hi ho' hr')),hw1.inv.inj,hw1.inv.sep,hw1.inv.glob.keep (hkeep _)⟩
 have hrb:real (ρ b):=by rw [e1];simp [real]
 refine ⟨_,w.freeze ⟨bb,0,none⟩ l.length,ρ,?_,⟨hw1.ok,hw1.rho,hw1.keep.trans (hkeep _),hgrow,hinv2,by rw [hsz];exact Nat.le_refl _,hos.1,hos.2.1,hos.2.2,fun k _ hk=>hother k (fun e2=>hk ⟨b,_,hbs,rfl,hrb,by rw [hbk];exact e2.symm⟩),fun k hk=>hw1.fresh k hk⟩,RdC.raw rfl⟩;rw [zs6 ho,show (#[x,y]:Array Operand).map a.eval=#[a.eval x,a.eval y] from by simp,ev,ey'];simp only [builtin,Sem.run_bind,hrun];rfl
theorem ykp {α:Type} {n:Nat}:∀{l:List (List α)},(∀ r∈l,r.length=n)->∀ k,(l.take k).flatten=l.flatten.take (k*n)
 | [],_,k=>by simp
 | r::l,h,0=>by simp
 | r::l,h,k+1=>by
  have hr:=h r (by simp);rw [List.take_succ_cons,List.flatten_cons,List.flatten_cons,ykp (fun s hs=>h s (by simp [hs])) k,Nat.succ_mul,Nat.add_comm (k*n) n,<-hr,List.take_length_add_append]
theorem zuq {α:Type} {n:Nat}:∀{l:List (List α)},(∀ r∈l,r.length=n)->∀ k,(l.drop k).flatten=l.flatten.drop (k*n)
 | [],_,k=>by simp
 | r::l,h,0=>by simp
 | r::l,h,k+1=>by
  have hr:=h r (by simp);rw [List.drop_succ_cons,List.flatten_cons,zuq (fun s hs=>h s (by simp [hs])) k,Nat.succ_mul,Nat.add_comm (k*n) n,<-hr,List.drop_length_add_append]
theorem w3f {α:Type} {n:Nat}:∀{l:List (List α)},(∀ r∈l,r.length=n)->l.flatten.length=l.length*n
 | [],_=>by simp
 | r::l,h=>by rw [List.flatten_cons,List.length_append,w3f (fun s hs=>h s (by simp [hs])),h r (by simp),List.length_cons,Nat.succ_mul,Nat.add_comm]
def v8q (J:List SB) (es:Nat):SV->Option (List (List Cell)×List Nat)
 | .one (.dat c)=>(vbz es c).map fun l=>(l,[])
 | .one (.sl b es' lo n)=>match gB J b with
  | .arr (.sl es2 rows) _ _=>if es'=es/\es2=es/\lo+n<=rows.length then some ((rows.drop lo).take n,[b]) else none
  | _=>none
 | _=>none
def z5s (J:List SB) (es:Nat) (x y:SV):Option (Nat×SB×Nat×List Nat):=match x with
 | .one (.sl b es' lo n)=>match gB J b with
  | .arr (.sl es2 rows) k T=>match v8q J es y with
   | some (rs,rb)=>if es'=es/\es2=es/\k<=lo*es/\lo+n<=rows.length then
    some (b,.arr (.sl es (rows.take lo++(rs.take (min n rs.length)++rows.drop (lo+min n rs.length)))) k T,min n rs.length,b::rb) else none
   | none=>none
  | _=>none
 | _=>none
theorem zp1 {x : SV} (h : v8q J es x = some (rs, rb)) : ∀ b ∈ rb, y10 (gB J b) = true := by
 unfold v8q at h;split at h
 . obtain ⟨l,_,e⟩:=Option.map_eq_some_iff.1 h
   cases e;intro b hb;cases hb
 . split at h
   . rename_i hb;split at h
     . cases h;intro b' hb';rw [List.mem_singleton.1 hb',hb];rfl
     . cases h
   . cases h
 . cases h
theorem xwf {x y:SV} (h:z5s J es x y=some (b,z,m,rb)):b∈rb/\∀ b∈rb,y10 (gB J b)=true:=by
 unfold z5s at h;split at h
 case h_2=>cases h
 split at h
 case h_2=>cases h
 rename_i hb;split at h
 case h_2=>cases h
 rename_i hs;split at h
 case isFalse=>cases h
 cases h;refine ⟨by simp,fun b' hb'=>?_⟩
 rcases List.mem_cons.1 hb' with rfl | hb'
 . rw [hb];rfl
 . exact zp1 hs b' hb'
theorem z1y {x : SV} (h : v8q J es x = some (rs, rb)) (hg : ∀ b ∈ rb, gB J' b = gB J b) : v8q J' es x = some (rs, rb) := by
 unfold v8q at h ⊢;split at h
 . exact h
 . rename_i b es' lo n
   cases hb:gB J b with
   | arr c k T =>
    rw [hb] at h
    have hm:b∈rb:=by
     split at h
     . split at h
       . cases h;simp
       . cases h
     . cases h
    simp only [hg b hm,hb];exact h
   | _=>rw [hb] at h;cases h
 . cases h
theorem x4y {x y:SV} (h:z5s J es x y=some (b,z,m,rb)) (hg:∀ b∈rb,gB J' b=gB J b):z5s J' es x y=some (b,z,m,rb):=by
 unfold z5s at h ⊢;split at h
 case h_2=>cases h
 rename_i b' es' lo n;split at h
 case h_2=>cases h
 rename_i es2 rows k T hb;split at h
 case h_2=>cases h
 rename_i rs rb' hs;split at h
 case isFalse=>cases h
 rename_i hc
 cases h;simp only [hg b (by simp),hb,z1y hs (fun c hc=>hg c (by simp [hc])),hc,and_self,if_true]
theorem x0m {Mo:Nat->Nat->Prop} {ρ:Nat->Value} {w:World} (hes:0<es) (h:HInv Γ Mo ρ J w) {x:SV} (hs:v8q J es x=some (rs,rb)) (hv:SVR J ρ (MX Mo ρ J) w v x) :
 ∃(us:List Value) (ad:Option Addr) (cap:Nat),v=.slice ad rs.length cap/\us.length=rs.length*es/\RdD (MX Mo ρ J) w us rs.flatten/\(∀ r∈rs,r.length=es)/\
  (us=[]\/∃ b off,ad=some ⟨b,off,none⟩/\∀ j u,us[j]? = some u->w.cell? ⟨b,off+j,none⟩=some u):=by
 unfold v8q at hs;split at hs
 . rename_i c;obtain ⟨l,hl,e⟩:=Option.map_eq_some_iff.1 hs
   cases e;obtain ⟨⟨ad,cap,hyl⟩,hyn,us,hul,hur,hyc⟩:=(show RdC (MX Mo ρ J) w v c from hv).vy2 hes hl;refine ⟨us,ad,cap,hyl,hul,hur,hyn,?_⟩
   rcases hyc with hyc | ⟨b,off,cap',e,hc⟩
   . exact .inl hyc
   . rw [hyl] at e
     cases e;exact .inr ⟨b,off,rfl,fun j u hj=>(hc j u hj).2⟩
 . rename_i b es' lo n;split at hs
   case h_2=>cases hs
   rename_i es2 rows k T hb;split at hs
   case isFalse=>cases hs
   rename_i hc;obtain ⟨rfl,rfl,hfit⟩:=hc
   cases hs;obtain ⟨_,ad,cap,hvs,hle,hcap⟩:=hv;obtain ⟨⟨hu,hk⟩,h0⟩:=h.blk b _ (xuw hb (by simp));have hu:∀ r∈rows,r.length=es2:=hu
   have hlen:((rows.drop lo).take n).length=n:=by rw [List.length_take,List.length_drop];omega
   have hmem:∀ r∈(rows.drop lo).take n,r.length=es2:=fun r hr=>hu r (List.mem_of_mem_drop (List.mem_of_mem_take hr))
   by_cases hn0:n=0
   . subst hn0;exact ⟨[],ad,cap,by rw [hlen];exact hvs,by simp,by simp;trivial,hmem,.inl rfl⟩
   . obtain ⟨hre,had,arr,Tb,fz,hheap,hsz⟩:=hcap (by omega)
     rcases h0 with ⟨_,e1⟩ | ⟨bb,vs,q,Tb',e1,hh,hr,hT⟩
     . exact absurd e1 hre
     have hbk:bk (ρ b)=bb:=by rw [e1];rfl
     rw [hbk] at had;have hr:RdD (MX Mo ρ J) w vs rows.flatten:=hr;have hvl:=hr.length;rw [w3f hu] at hvl
     have hfit2:lo*es2+n*es2<=rows.length*es2:=by rw [<-Nat.add_mul];exact Nat.mul_le_mul_right _ hfit
     refine ⟨(vs.drop (lo*es2)).take (n*es2),ad,cap,by rw [hlen];exact hvs,by rw [hlen,List.length_take,List.length_drop];omega,?_,hmem,.inr ⟨bb,lo*es2,had,fun j u hj=>?_⟩⟩
     . rw [ykp (fun r hr=>hu r (List.mem_of_mem_drop hr)),zuq hu];exact (hr.drop (lo*es2)).take (n*es2)
     . have hj2:(vs.drop (lo*es2))[j]? = some u:=by
        rw [List.getElem?_take] at hj;split at hj
        . exact hj
        . cases hj
       rw [List.getElem?_drop] at hj2;exact xbn hh hj2
 . cases hs
theorem x1i {d eb:Nat} {ik:Option IntKind} (ho:o.op=.call { callee:=.builtin .copy,args:=#[x,y],argTypes:=#[T,T] }) (hdst:o.dst=some d)
 {ti:TI} (hti:mkTI P T=some ti) (hsh:ti.sh=.slice e es eb ik) (h:z5s J es (opdS Γ I x) (opdS Γ I y)=some (b,z,m,rb)) :
 vbd Γ P o I J (d::(orr x++orr y)) rb [(d,.one (.dat (.raw (.int .i64 (m:Int)))))] [(b,z)]:=by
 have hin:=xwf h;refine vbd.val hdst (fun E ρ I' J' a w hag hah hI=>?_);obtain ⟨d0,i,zz,hd0,hi,hz,_,_,_,_,_,hsh'⟩:=(wgk hti).ex;obtain ⟨rfl,j,z',hj,hz',hjs,hjb,hes0,hzs,hik⟩:=zu3 (hsh'.symm.trans hsh)
 have hes:0<es:=by omega
 have hx:=hI.opd x;have hy:=hI.opd y;rw [hag.opd (fun t ht=>by simp [ht])] at hx hy;have h:=x4y h (J':=J') (fun b hb=>hah.gB hb);unfold z5s at h;split at h
 case h_2=>cases h
 rename_i b' es' lo n hxe;split at h
 case h_2=>cases h
 rename_i es2 rows k T0 hb;split at h
 case h_2=>cases h
 rename_i rs rb' hs;split at h
 case isFalse=>cases h
 rename_i hc;obtain ⟨rfl,rfl,hk,hfit⟩:=hc
 cases h;rw [hxe] at hx;obtain ⟨_,ad,cap,hvx,hle,hcap⟩:=hx;obtain ⟨us,yad,ycap,hvy,hul,hur,hun,huc⟩:=x0m hes hI.inv hs hy;have hb1:=xuw hb (by simp);obtain ⟨⟨hu,hk2⟩,h0⟩:=hI.sbr hb (by simp);have hu:∀ r∈rows,r.length=es2:=hu;generalize hm:min n rs.length=m
 have hm1:m<=n:=by omega
 have hm2:m<=rs.length:=by omega
 have hmin:Nat.min rs.length n=m:=by rw [<-hm];exact Nat.min_comm _ _
 have hml:(us.take (m*es2)).length=m*es2:=by
  have:=Nat.mul_le_mul_right es2 hm2
  rw [List.length_take];omega
 have hf:(Builtin.firstCells j.size m (.slice yad rs.length ycap)).run P w=.ok (us.take (m*es2)).toArray w:=by
  rcases huc with rfl | ⟨g,off,rfl,hc⟩
  . rw [List.take_nil] at hml ⊢
    cases yad with
    | none=>exact run_firstCells_none _ _ _ _ _
    | some a1=>exact run_firstCells_some w _ _ _ _ _ [] (by rw [hjs];exact hml) (fun j v hj=>by cases hj)
  . exact run_firstCells_some w _ _ _ _ _ _ (by rw [hjs];exact hml) (fun j v hj=>by
     rw [v4h];rw [List.getElem?_take] at hj;split at hj
     . exact hc j v hj
     . cases hj)
 have hexec:∀(w2:World),(Builtin.copy_ #[T,T] o.type #[a.eval x,a.eval y]).run P w=.ok (goInt (m:Int)) w2->(execOp a.eval o).run P w=.ok (.value (goInt (m:Int))) w2:=fun w2 hr=>by
  rw [zs6 ho,show (#[x,y]:Array Operand).map a.eval=#[a.eval x,a.eval y] from by simp];simp only [builtin,Sem.run_bind,hr];rfl
 have hflat:(Cell.sl es2 (rows.take lo++(rs.take m++rows.drop (lo+m)))).flat=rows.flatten.take (lo*es2)++(rs.flatten.take (m*es2)++rows.flatten.drop ((lo+m)*es2)):=by
  show (rows.take lo++(rs.take m++rows.drop (lo+m))).flatten=_;rw [List.flatten_append,List.flatten_append,ykp hu,ykp hun,zuq hu]
 by_cases hm0:m=0
 . subst hm0
   have e1:rows.take lo++(rs.take 0++rows.drop (lo+0))=rows:=by rw [List.take_zero,List.nil_append,Nat.add_zero,List.take_append_drop]
   have e2:J'.set b (.arr (.sl es2 rows) k T0)=J':=by
    apply List.ext_getElem?;intro i;by_cases hib:b=i
    . subst hib;rw [List.getElem?_set_self (List.getElem?_eq_some_iff.1 hb1).1,hb1]
    . rw [List.getElem?_set_ne hib]
   rw [e1];show ∃ v w' ρ',_/\Went Γ E.Mo ρ J' w ρ' (J'.set b (.arr (.sl es2 rows) k T0)) w'/\_
   have hrun:(Builtin.copy_ #[T,T] o.type #[a.eval x,a.eval y]).run P w=.ok (goInt ((0:Nat):Int)) w:=by
    rw [hvx,hvy]
    cases ad<;>simp [Builtin.copy_,run_underlying hd0,Builtin.lenOf,sizeOf,typeInfo,hj,hmin,hf,storeCells]
   refine ⟨_,w,ρ,hexec w hrun,?_,RdC.raw rfl⟩;rw [e2];exact Went.refl hI.inv
 . obtain ⟨hre,had,arr,Tb,fz,hheap,hsz⟩:=hcap (by omega)
   rcases h0 with ⟨_,e1⟩ | ⟨bb,vs,q,Tb',e1,hh,hr,hT⟩
   . exact absurd e1 hre
   have hbk:bk (ρ b)=bb:=by rw [e1];rfl
   rw [hbk] at had hheap;rw [hh] at hheap
   cases hheap;have hr:RdD (MX E.Mo ρ J') w vs rows.flatten:=hr;have hvl:=hr.length;rw [w3f hu] at hvl
   have hfit2:lo*es2+m*es2<=rows.length*es2:=by rw [<-Nat.add_mul];exact Nat.mul_le_mul_right _ (by omega)
   have hones:∀ u∈us.take (m*es2),u.oneCell'=true:=fun u hu=>hur.oneL u (List.mem_of_mem_take hu)
   have hst:=run_storeCells_at P bb (lo*es2) Tb (us.take (m*es2)) 0 (vs++q).toArray w hh (by rw [hml];simp only [List.size_toArray,List.length_append];omega) hones;simp only [Nat.add_zero] at hst;rw [hml] at hst
   have hrun:(Builtin.copy_ #[T,T] o.type #[a.eval x,a.eval y]).run P w=.ok (goInt (m:Int)) (w.setRow bb ((vs++q).toArray.toList.take (lo*es2)++us.take (m*es2)++(vs++q).toArray.toList.drop (lo*es2+m*es2)).toArray):=by
    rw [hvx,hvy,had];simp [Builtin.copy_,run_underlying hd0,Builtin.lenOf,sizeOf,typeInfo,hj,hmin,hf];simp at hst;rw [hst];rfl
   have hnew:(vs++q).toArray.toList.take (lo*es2)++us.take (m*es2)++(vs++q).toArray.toList.drop (lo*es2+m*es2)=(vs.take (lo*es2)++(us.take (m*es2)++vs.drop ((lo+m)*es2)))++q:=by
    show (vs++q).take (lo*es2)++us.take (m*es2)++(vs++q).drop (lo*es2+m*es2)=_;rw [List.take_append_of_le_length (by omega),List.drop_append_of_le_length (by omega),Nat.add_mul];simp [List.append_assoc]
   rw [hnew] at hrun
   have hcnt:(rows.take lo++(rs.take m++rows.drop (lo+m))).length=rows.length:=by
    simp only [List.length_append,List.length_take,List.length_drop];omega
   refine ⟨_,_,ρ,hexec _ hrun,?_,RdC.raw rfl⟩;show Went Γ E.Mo ρ J' w ρ (J'.set b _) _;refine Went.write hI.inv hb1 rfl hre rfl (fun o=>Iff.rfl) (by simp [World.setRow]) rfl rfl rfl (fun kk hk=>setRow_other w bb kk _ (by rw [<-hbk];exact hk)) (zwl hh ?_) (fun oo u hmu hcc=>?_) (fun mv=>?_)
   . simp only [List.size_toArray,List.length_append,hml];simp only [List.length_take,List.length_drop,Nat.add_mul];omega
   . rw [hbk] at hcc ⊢;rw [cell_setRow_same w bb oo _ _ _ _ hh]
     have hlt:oo<lo*es2:=by
      have:¬k<=oo:=hmu
      omega
     simp only [World.cell?,hh,Option.isSome_none,Bool.false_eq_true,if_false,List.getElem?_toArray] at hcc
     have hlt2:oo<vs.length:=by omega
     rw [List.getElem?_append_left hlt2] at hcc
     have hlt3:oo<(vs.take (lo*es2)).length:=by rw [List.length_take];exact Nat.lt_min.2 ⟨hlt,hlt2⟩
     rw [List.getElem?_toArray,List.append_assoc,List.getElem?_append_left hlt3,List.getElem?_take_of_lt hlt];exact hcc
   . refine ⟨⟨fun r hr=>?_,?_⟩,.inr ⟨bb,_,q,Tb,e1,setRow_heap w bb _ _ Tb (0,0) hh,?_,hT⟩⟩
     . rcases List.mem_append.1 hr with h | h
       . exact hu r (List.mem_of_mem_take h)
       . rcases List.mem_append.1 h with h | h
         . exact hun r (List.mem_of_mem_take h)
         . exact hu r (List.mem_of_mem_drop h)
     . show k<=(rows.take lo++(rs.take m++rows.drop (lo+m))).length*es2;rw [hcnt];exact hk2
     . rw [hflat];exact ((hr.take (lo*es2)).app ((hur.take (m*es2)).app (hr.drop ((lo+m)*es2)))).keep mv.keep
end Go.Hp
namespace Go.Hp
open Go Go.RowKit Go.Slot
variable {P:Program} {Γ:List (Nat×List Cell)}
variable {T e:TypeId} {tf ti:TI} {J J':List SB} {off es k b nb:Nat} {x y:Operand} {o:Oper} {I:List SV} {v:SV} {rd rh bs:List Nat} {heff:List (Nat×SB)} {ik:Option IntKind} {c:Cell} {xs:Array Operand}
def wco (off:Nat) (tf:TI):SV->Option SV
 | .agg hs=>yi8 tf (hs.drop off)
 | _=>none
theorem vvy (hok:TIok P T tf) {ρ:Nat->Value} {M:Nat->Nat->Prop} {w:World} {vs:List Value} {hs:List HC} (hr:HRL J ρ M w vs hs) {x:SV} (h:yi8 tf (hs.drop off)=some x) :
 ∃ v,(part T vs.toArray off).run P w=.ok v w/\SVR J ρ M w v x:=by
 obtain ⟨_,j,_,_,hj,_,hjs,_,_,_,_,_⟩:=hok.ex;have hr':=hr.drop off;unfold yi8 at h;split at h
 . rename_i hm;split at h
   . rename_i hle
     cases h;refine ⟨.agg ((vs.drop off).take tf.size).toArray,?_,_,rfl,hr'.take _⟩;simp [part,hok.vkb hm,yyt hj,hjs,List.extract_eq_take_drop]
   . cases h
 . rename_i hm;split at h
   . rename_i c cs' hcs
     cases h;rw [hcs] at hr'
     cases hv:vs.drop off with
     | nil=>rw [hv] at hr';exact hr'.elim
     | cons v0 vs'=>
      rw [hv] at hr'
      have hg:vs[off]? = some v0:=by
       have:=congrArg (fun l=>l[0]?) hv
       simpa using this
      exact ⟨v0,by simp [part,hok.vkb hm,hg],hr'.1⟩
   . cases h
 . cases h
theorem w5l {ft:TypeId} {f d sz:Nat} {fs:List (Nat×Nat×TypeId)} (ho:o.op=.field T x f) (hdst:o.dst=some d) (hti:mkTI P T=some ti) (hs:ti.sh=.struct fs) (hf:fs[f]? = some (off,sz,ft)) (htf:mkTI P ft=some tf)
 (h:wco off tf (opdS Γ I x)=some v):vbd Γ P o I J (d::orr x) [] [(d,v)] []:=by
 refine vbd.pure hdst (fun E ρ I' J' a w hag hah hI=>?_);have hx:=hI.opd x;rw [hag.opd (fun t ht=>by simp [ht])] at hx;obtain ⟨dd,i,z,hd,hi',hz,_,_,_,_,_,hsh⟩:=(wgk hti).ex;obtain ⟨fl,rfl,rfl,_⟩:=xzn (hsh.symm.trans hs);rw [List.getElem?_map] at hf;obtain ⟨fd,hfd,hfe⟩:=Option.map_eq_some_iff.1 hf
 cases hfe
 have hfa:fl[f]? = some fd:=by simpa using hfd
 unfold wco at h;split at h
 . rename_i hs' e;rw [e] at hx;obtain ⟨vs,hv,hr⟩:=hx;obtain ⟨u,h1,h2⟩:=vvy (wgk htf) hr h;exact ⟨u,by simp [execOp,ho,Instr.field,asAgg,hv,w9c hd,hfa,h1],h2⟩
 . cases h
theorem zdr {d n:Nat} {k:IntKind} {ix:Int} (ho:o.op=.index T x y) (hdst:o.dst=some d) {te:TI} (hti:mkTI P T=some ti) (hs:ti.sh=.array n e es) (hte:mkTI P e=some te)
 (hy:opdS Γ I y=.one (.dat (.raw (.int k ix)))) (h0:0<=ix/\ix<n) (hes:es=te.size) (h:wco (ix.toNat*es) te (opdS Γ I x)=some v):vbd Γ P o I J (d::(orr x++orr y)) [] [(d,v)] []:=by
 refine vbd.pure hdst (fun E ρ I' J' a w hag hah hI=>?_);have hx:=hI.opd x;have hyr:=hI.opd y;rw [hag.opd (fun t ht=>by simp [ht])] at hx hyr;rw [hy] at hyr;have ey:a.eval y=.int k ix:=RdC.x18 hyr;obtain ⟨dd,i,z,hd,hi',hz,_,_,_,_,_,hsh⟩:=(wgk hti).ex;obtain ⟨rfl,_⟩:=ycg (hsh.symm.trans hs);have hok:=wgk hte;obtain ⟨_,j,_,_,hj,_,hjs,_,_,_,_,_⟩:=hok.ex;unfold wco at h;split at h
 . rename_i hs' ex;rw [ex] at hx;obtain ⟨vs,hv,hr⟩:=hx;obtain ⟨u,h1,h2⟩:=vvy hok hr h;exact ⟨u,by simp [execOp,ho,Instr.index,asIntOf,hv,ey,w9c hd,h0.1,h0.2,yyt hj,hjs,<-hes,h1],h2⟩
 . cases h
inductive HO where
 | eff (rd rh:List Nat) (eff:List (Nat×SV)) (heff:List (Nat×SB)) (new:Option SB)
 | callD (f:FuncId) (l:List AV) (rd rh bs:List Nat)
 | callF (p:(Nat->Nat->Prop)->World->Value->Prop) (l:List AV) (rd bs:List Nat)
 | callH (f:FuncId) (l:List SV) (rd:List Nat)
 | mk (f:FuncId) (caps:List AV) (rd bs:List Nat)
 | look (r:Option SV) (zero:SV) (ok:Bool) (rd rh:List Nat)
 | bad
def vem (P:Program) (t:TypeId) (k:TI->HO):HO:=match mkTI P t with
 | some ti=>k ti
 | none=>.bad
def vO (o:Oper) (rd rh:List Nat):Option SV->HO
 | some x=>match o.dst with
  | some d=>.eff (d::rd) rh [(d,x)] [] none
  | none=>.bad
 | none=>.bad
def nO (o:Oper) (rd rh:List Nat) (x:SV) (heff:List (Nat×SB)) (b:SB):HO:=match o.dst with
 | some d=>.eff (d::rd) rh [(d,x)] heff (some b)
 | none=>.bad
def isNil {α:Type}:List α->Bool
 | []=>true
 | _=>false
def oldR (d nb:Nat):OR->HO
 | .eff rd tk [(d',av)]=>if isNil tk&&d'==d then match av2 nb av with
  | some (x,ob)=>.eff rd [] [(d,x)] [] ob
  | none=>.bad
  else .bad
 | _=>.bad
def oldO (P:Program) (I:List SV) (nb:Nat) (o:Oper):HO:=match o.dst with
 | some d=>if v1z o.op=true/\d<I.length then oldR d nb (opA0 P (I.map vw) o) else .bad
 | none=>.bad
def x72:SV->SV->Option SV
 | .one (.dat (.raw (.string s))),.one (.dat (.raw (.int _ i)))=>if 0<=i/\i<s.size then some (.one (.dat (.raw (.int .u8 (yuk s i.toNat))))) else none
 | _,_=>none
def intS:SV->Option Int
 | .one (.dat (.raw (.int _ i)))=>some i
 | _=>none
inductive CK where
 | agg
 | ptr
 | other
def ckH:SV->SV->CK
 | .agg _,_=>.agg
 | .one (.ptr _ _),_=>.ptr
 | .one (.pel _ _ _ _),_=>.ptr
 | .elt _,_=>.ptr
 | .one (.dat (.raw (.pointer _))),_=>.ptr
 | _,_=>.other
def vk7:SV->Bool
 | .one (.sl _ _ _ _)=>true
 | _=>false
def z00:SV->Bool
 | .one (.sl _ _ _ _)=>true
 | .one (.mp _)=>true
 | _=>false
def wsi (_o:Oper) (ok:Bool) (rd rh:List Nat):Option (Option SV)->Option SV->HO
 | some r,some z=>.look r z ok rd rh
 | _,_=>.bad
def opP (P:Program) (Γ:List (Nat×List Cell)) (I:List SV) (J:List SB) (nb:Nat) (o:Oper):HO:=
 match o.op with
 | .move x=>vO o (orr x) [] (some (opdS Γ I x))
 | .assign x=>vO o (orr x) [] (some (opdS Γ I x))
 | .pick c x y=>match vby (opdS Γ I c) (opdS Γ I x) (opdS Γ I y) with
  | some v=>vO o (orr c++orr x++orr y) [] (some v)
  | none=>oldO P I nb o
 | .load T x=>vem P T fun ti=>match seeH J (opdS Γ I x) with
  | some (rh,hs)=>vO o (orr x) rh (yi8 ti hs)
  | none=>.bad
 | .store T x y=>match o.dst with
  | none=>vem P T fun ti=>match vg7 (opdS Γ I y) with
   | some us=>if us.length=ti.size then match x71 J ti.size (opdS Γ I x) us with
    | some (b,z)=>.eff (orr x++orr y) [b] [] [(b,z)] none
    | none=>.bad
    else .bad
   | none=>.bad
  | some _=>.bad
 | .fieldAddr S x f=>vem P S fun ti=>match ti.sh with
  | .struct fs=>match fs[f]? with
   | some (off,_,_)=>vO o (orr x) [] (vlp (opdS Γ I x) off)
   | none=>.bad
  | _=>.bad
 | .indexAddr T x y=>vem P T fun ti=>match vui ti.sh (opdS Γ I x) (opdS Γ I y) with
  | some v=>vO o (orr x++orr y) [] (some v)
  | none=>oldO P I nb o
 | .extract x n=>vO o (orr x) [] (ydz (opdS Γ I x) n)
 | .nilCheck x=>if ptrH (opdS Γ I x)=true then vO o (orr x) [] (some (opdS Γ I x)) else .bad
 | .binOp op T x y _=>match ckH (opdS Γ I x) (opdS Γ I y) with
  | .agg=>vO o (orr x++orr y) [] (yxi P T op (opdS Γ I x) (opdS Γ I y))
  | .ptr=>match vjd P T with
   | some t=>match P.info? t with
    | some _=>vO o (orr x++orr y) [] (xra op (opdS Γ I x) (opdS Γ I y))
    | none=>.bad
   | none=>.bad
  | .other=>oldO P I nb o
 | .unOp _ _ _=>oldO P I nb o
 | .makeSlice _ _ _=>oldO P I nb o
 | .slice T x lo hi mx=>match vk7 (opdS Γ I x) with
  | true=>match mx with
   | none=>vem P T fun ti=>vO o (orr x++orrO lo++orrO hi) [] (yw0 Γ I ti.sh (opdS Γ I x) lo hi)
   | some _=>.bad
  | false=>oldO P I nb o
 | .build T ps=>vem P T fun ti=>if v27 ti=true/\ti.sh.agg=true then vO o (orrs ps.toList) [] ((y31 (placeOf ti.sh) (ti.zc.map .dat) (x3f Γ I ps.toList)).map .agg) else .bad
 | .field T x f=>vem P T fun ti=>match ti.sh with
  | .struct fs=>match fs[f]? with
   | some (off,_,ft)=>vem P ft fun tf=>vO o (orr x) [] (wco off tf (opdS Γ I x))
   | none=>.bad
  | _=>.bad
 | .index T x y=>vem P T fun ti=>match ti.sh with
  | .array n e es=>vem P e fun te=>match intS (opdS Γ I y) with
   | some ix=>if (0<=ix/\ix<n)/\es=te.size then vO o (orr x++orr y) [] (wco (ix.toNat*es) te (opdS Γ I x)) else .bad
   | none=>.bad
  | .string=>vO o (orr x++orr y) [] (x72 (opdS Γ I x) (opdS Γ I y))
  | _=>.bad
 | .lookup T x y ok=>vem P T fun ti=>match ti.sh with
  | .map kt et=>vem P kt fun tk=>match wii J (opdS Γ I x),keyV (opdS Γ I y) with
   | some (b,es),some k=>if wdo tk.sh k=true then wsi o ok (xl0 o++(orr x++orr y)) [b] (yvo es k) (zya P et) else .bad
   | _,_=>.bad
  | _=>.bad
 | .mapUpdate T x y z=>match o.dst with
  | none=>vem P T fun ti=>match ti.sh with
   | .map kt _=>vem P kt fun tk=>match wii J (opdS Γ I x),keyV (opdS Γ I y) with
    | some (b,es),some k=>if wdo tk.sh k=true/\vms (opdS Γ I z)=true then match updM es k (opdS Γ I z) with
     | some es'=>.eff (orr x++orr y++orr z) [b] [] [(b,.map es')] none
     | none=>.bad
     else .bad
    | _,_=>.bad
   | _=>.bad
  | some _=>.bad
 | _=>.bad
def vj1 (P:Program) (Γ:List (Nat×List Cell)) (I:List SV) (J:List SB) (nb:Nat) (o:Oper) (S D:TypeId) (x:Operand):HO:=match P.underlying S,P.underlying D with
 | some (.slice e),some .string=>match P.underlying e with
  | some (.int .u8)=>match wha J (opdS Γ I x) with
   | some (l,bs)=>match o.dst with
    | some d=>.eff (d::orr x) bs [(d,.one (.dat (.raw (.string (strOfNums l)))))] (frzE J bs) none
    | none=>.bad
   | none=>.bad
  | _=>.bad
 | some (.pointer t),some .unsafePointer=>match P.info? t,x7k J (opdS Γ I x) with
  | some j,some (b,off,_,_)=>if j.size != 0 then vO o (orr x) [b] (some (.one (.ptr b off))) else .bad
  | _,_=>.bad
 | some .unsafePointer,some (.pointer u)=>match P.info? u,x7k J (opdS Γ I x) with
  | some _,some (b,off,T,n)=>if liesAt P P.depth T (n / P.cellsOf T) off u 1 then vO o (orr x) [b] (some (.one (.ptr b off))) else .bad
  | _,_=>.bad
 | _,_=>oldO P I nb o
def wew:Bool->Bool->Bool
 | false,false=>true
 | _,_=>false
def vii (own:Bool) (J:List SB) (l:List SV):Option (List AV×List Nat):=match own with
 | true=>none
 | false=>zfb J l
theorem vjw {own:Bool} {l:List SV} {r:List AV×List Nat} (h:vii own J l=some r):zfb J l=some r:=by
 cases own with
 | true=>cases h
 | false=>exact h
def wds (P:Program) (Γ:List (Nat×List Cell)) (own:Bool) (I:List SV) (J:List SB) (o:Oper) (x:Operand) (xs:List Operand):HO:=match x with
 | .func f=>if xts P f=true then match xs with
  | [y]=>vO o (orr y) [] (some (opdS Γ I y))
  | _=>.bad
  else callG f [] [] []
 | .tmp t=>match gtS I t with
  | .one (.dat (.fnp p))=>match zfb J (wy6 Γ I xs) with
   | some (l,bs)=>.callF p l (xl0 o++t::orrL xs) bs
   | none=>.bad
  | _=>match zxi Γ I J (.tmp t) with
   | some (f,caps,rd,rh)=>callG f caps rd rh
   | none=>.bad
 | _=>.bad
where callG (f:FuncId) (caps:List SV) (rd rh:List Nat):HO:=match vii own J (wy6 Γ I xs++caps) with
 | some (l,bs)=>.callD f l (xl0 o++rd++orrL xs) rh bs
 | none=>match voj (wy6 Γ I xs) with
  | true=>.callH f (wy6 Γ I xs++caps) (xl0 o++rd++orrL xs)
  | false=>.bad
def opH (P:Program) (Γ:List (Nat×List Cell)) (lit fn:Bool) (I:List SV) (J:List SB) (nb:Nat) (o:Oper):HO:=
 match o.op with
 | .alloc T=>vem P T fun ti=>nO o [] [] (.one (.ptr nb 0)) [] (.box (ti.zc.map .dat) (some T))
 | .box T x=>match vg7 (opdS Γ I x) with
  | some hs=>nO o (orr x) [] (.one (.ptr nb 0)) [] (.box hs (some T))
  | none=>.bad
 | .buildSlice T n ps=>match n with
  | 0=>oldO P I nb o
  | n + 1 => vem P T fun ti => match ti.sh with
   | .slice e es _ ik=>vem P e fun te=>match litH Γ I J es ik te.zc (n+1) ps.toList with
    | some (c,bs)=>match lit with
     | true=>match o.dst with
      | some d=>.eff (d::orrs ps.toList) bs [(d,.one (.dat c))] (frzE J bs) none
      | none=>.bad
     | false=>nO o (orrs ps.toList) bs (.one (.sl nb es 0 (n+1))) (frzE J bs) (.arr c 0 (some e))
    | none=>.bad
   | _=>.bad
 | .makeMap _ none=>nO o [] [] (.one (.mp nb)) [] (.map [])
 | .makeFunc (.func f) fs cs=>match fs.toList with
  | []=>match fn with
   | true=>match zfb J (wy6 Γ I cs.toList),o.dst with
    | some (l,bs),some d=>.mk f l (d::orrL cs.toList) bs
    | _,_=>.bad
   | false=>match voj (wy6 Γ I cs.toList) with
    | true=>nO o (orrL cs.toList) [] (.one (.fnr nb)) [] (.clo f (wy6 Γ I cs.toList))
    | false=>.bad
  | _=>.bad
 | .convert S D x=>vj1 P Γ I J nb o S D x
 | .call c => match c.callee with
  | .value x=>wds P Γ (wew lit fn) I J o x c.args.toList
  | .builtin b=>match b with
   | .len=>match c.args.toList,c.argTypes.toList with
    | [x],[T]=>match z00 (opdS Γ I x) with
     | true=>vem P T fun ti=>match lenH J ti.sh (opdS Γ I x) with
      | some (rh,n)=>vO o (orr x) rh (some (.one (.dat (.raw (.int .i64 (n:Int))))))
      | none=>.bad
     | false=>oldO P I nb o
    | _,_=>.bad
   | .append=>match c.args.toList,c.argTypes.toList with
    | [x,y],[T,U]=>if T=U then vem P T fun ti=>match ti.sh with
     | .slice e es eb ik=>appO (opdS Γ I x) (opdS Γ I y) (orr x++orr y) e es eb ik
     | _=>.bad
     else .bad
    | _,_=>.bad
   | .unsafeSliceData=>match c.args.toList with
    | [x]=>vO o (orr x) [] (usdH (opdS Γ I x))
    | _=>.bad
   | .unsafeString=>match c.args.toList,c.argTypes.toList,o.dst with
    | [x,y],[pt,_],some d=>match usH P J pt (opdS Γ I x) (opdS Γ I y) with
     | some (b,l)=>.eff (d::(orr x++orr y)) [b] [(d,.one (.dat (.raw (.string (strOfNums l)))))] [(b,.dead)] none
     | none=>.bad
    | _,_,_=>.bad
   | .copy => match c.args.toList, c.argTypes.toList, o.dst with
    | [x, y], [T, U], some d => if T = U then vem P T fun ti => match ti.sh with
     | .slice _ es _ _=>match z5s J es (opdS Γ I x) (opdS Γ I y) with
      | some (b,z,m,rb)=>.eff (d::(orr x++orr y)) rb [(d,.one (.dat (.raw (.int .i64 (m:Int)))))] [(b,z)] none
      | none=>.bad
     | _=>.bad
     else .bad
    | _,_,_=>.bad
   | .max=>oldO P I nb o
   | .min=>oldO P I nb o
   | _=>.bad
  | _=>.bad
 | _=>opP P Γ I J nb o
where appO (x y:SV) (rd:List Nat) (e:TypeId) (es eb:Nat) (ik:Option IntKind):HO:=match dstH J e es ik x,srcH J y with
 | some (ob,c,k,T),some (cy,bs)=>match wch es eb ik c cy with
  | some c'=>if bs.all (fun i=>ob != some i) then nO o rd (ob.toList++bs) (.one (.sl nb es 0 c'.cnt)) (frzE J bs++x03 ob) (.arr c' k (appT T e)) else .bad
  | none=>.bad
 | _,_=>.bad
theorem v6d {l:List SB} (h:b<J.length):gB (J++l) b=gB J b:=by
 unfold gB;rw [List.getElem?_append_left h]
theorem xei (h:y10 (gB J b)=true):b<J.length:=by
 rcases Nat.lt_or_ge b J.length with h1 | h1
 . exact h1
 . unfold gB at h;rw [List.getElem?_eq_none h1] at h;cases h
theorem zj7:∀(heff:List (Nat×SB)) (J:List SB) (x:SB),(∀ p∈heff,p.1<J.length)->appL (heff++[(J.length,x)]) (J++[.fresh])=appL heff J++[x]
 | [],J,x,_=>by simp [appL]
 | (i,y)::r,J,x,h=>by
  have hi:i<J.length:=h (i,y) (by simp);simp only [List.cons_append,appL];rw [List.set_append_left _ _ hi]
  have:=zj7 r (J.set i y) x (fun p hp=>by rw [List.length_set];exact h p (by simp [hp]))
  rw [List.length_set] at this;exact this
theorem xnc (J:List SB):y4f (J++[.fresh]) J.length=true:=by simp [y4f]
theorem vjm.new {eff:List (Nat×SV)} {x:SB} (h:vbd Γ P o I (J++[.fresh]) rd rh eff (heff++[(J.length,x)])) (hl:∀ p∈heff,p.1<J.length) :
 vjm Γ P o I J (appL eff I) (appL heff J++[x]):=by
 have:=h.px
 rw [zj7 heff J x hl] at this;exact this
def Sound (Γ:List (Nat×List Cell)) (P:Program) (o:Oper) (I:List SV) (J:List SB) (nb:Nat) (rd rh:List Nat) (eff:List (Nat×SV)) (heff:List (Nat×SB)):Option SB->Prop
 | none=>vbd Γ P o I J rd rh eff heff
 | some x=>(y4f J nb=true->vbd Γ P o I J rd (nb::rh) eff (heff++[(nb,x)]))/\(nb=J.length->vjm Γ P o I J (appL eff I) (appL heff J++[x]))
def vlf (Γ:List (Nat×List Cell)) (P:Program) (o:Oper) (I:List SV) (J:List SB) (nb:Nat):HO->Prop
 | .eff rd rh eff heff new=>Sound Γ P o I J nb rd rh eff heff new
 | _=>True
theorem vz6 {t:TypeId} {k:TI->HO} (h:∀ ti,mkTI P t=some ti->vlf Γ P o I J nb (k ti)):vlf Γ P o I J nb (vem P t k):=by
 unfold vem
 split
 . rename_i ti hti;exact h ti hti
 . trivial
theorem zgs {x:Option SV} (h:∀ v d,x=some v->o.dst=some d->vbd Γ P o I J (d::rd) rh [(d,v)] []):vlf Γ P o I J nb (vO o rd rh x):=by
 unfold vO
 split
 . split
   . rename_i d hd;exact h _ d rfl hd
   . trivial
 . trivial
theorem wld {x:SV} {b:SB} (h:∀ d J',o.dst=some d->(J'=J\/J'=J++[.fresh])->y4f J' nb=true->vbd Γ P o I J' (d::rd) (nb::rh) [(d,x)] (heff++[(nb,b)]))
 (hl:∀ p∈heff,p.1<J.length):vlf Γ P o I J nb (nO o rd rh x heff b):=by
 unfold nO
 split
 . rename_i d hd;refine ⟨fun hr=>h d J hd (.inl rfl) hr,fun e=>?_⟩;subst e;exact vjm.new (h d (J++[.fresh]) hd (.inr rfl) (xnc J)) hl
 . trivial
theorem xmb {α:Type} {l:List α} (h:isNil l=true):l=[]:=by cases l<;>first | rfl | cases h
theorem xbj:vlf Γ P o I J nb (oldO P I nb o):=by
 unfold oldO
 split
 case h_2=>trivial
 rename_i d hd
 split
 case isFalse=>trivial
 rename_i hc;unfold oldR
 split
 case h_2=>trivial
 rename_i rd tk d' av heq
 split
 case isFalse=>trivial
 rename_i hcc;simp only [Bool.and_eq_true,beq_iff_eq] at hcc;obtain ⟨htk,rfl⟩:=hcc;have htk:=xmb htk;subst htk
 split
 case h_2=>trivial
 rename_i x ob h2;have hst:=(ymz heq).1
 cases ob with
 | none=>exact w2a hc.1 hd hst hc.2 h2 rfl
 | some b=>
  refine ⟨fun hr=>w2a hc.1 hd hst hc.2 h2 hr,fun e=>?_⟩;subst e
  have:=w2a (Γ:=Γ) (J:=J++[.fresh]) (nb:=J.length) hc.1 hd hst hc.2 h2 (show wla (J++[.fresh]) J.length (some b)=true from xnc J)
  exact vjm.new (heff:=[]) this (by simp)
theorem wdu {d:Nat} (ho:o.op=.index T x y) (hdst:o.dst=some d) (hti:mkTI P T=some ti) (hs:ti.sh=.string) (h:x72 (opdS Γ I x) (opdS Γ I y)=some v) :
 vbd Γ P o I J (d::(orr x++orr y)) [] [(d,v)] []:=by
 refine vbd.pure hdst (fun E ρ I' J' a w hag hah hI=>?_);have hx:=hI.opd x;have hy:=hI.opd y;rw [hag.opd (fun t ht=>by simp [ht])] at hx hy;obtain ⟨dd,i,z,hd,_,_,_,_,_,_,_,hsh⟩:=(wgk hti).ex;have hT:=wbh (hsh.symm.trans hs);subst hT;unfold x72 at h;split at h
 . rename_i s k ix ex ey;split at h
   . rename_i hi
     cases h;rw [ex] at hx;rw [ey] at hy;have ex:a.eval x=.string s:=RdC.x18 hx;have ey:a.eval y=.int k ix:=RdC.x18 hy;refine ⟨_,?_,RdC.raw rfl⟩
     have hsz:ix.toNat<s.size:=by omega
     have hg:s[ix.toNat]? = some s[ix.toNat]:=by simp [hsz]
     have hb:yuk s ix.toNat=(s[ix.toNat]).toNat:=by
      unfold yuk
      have:s.data[ix.toNat]? = some s[ix.toNat]:=by
       rw [Array.getElem?_eq_getElem (by simpa using hsz)];rfl
      rw [this];rfl
     rw [hb];simp [execOp,ho,Instr.index,asIntOf,ex,ey,w9c hd,hi.1,hg]
   . cases h
 . cases h
theorem xji {x:SV} {i:Int} (h:intS x=some i):∃ k,x=.one (.dat (.raw (.int k i))):=by
 unfold intS at h;split at h
 . cases h;exact ⟨_,rfl⟩
 . cases h
theorem ynj:vlf Γ P o I J nb (opP P Γ I J nb o):=by
 unfold opP
 split
 . rename_i x ho;exact zgs (fun v d e hd=>by cases e;exact zcg (.inl ho) hd)
 . rename_i x ho;exact zgs (fun v d e hd=>by cases e;exact zcg (.inr ho) hd)
 . rename_i c x y ho
   split
   . rename_i v hv;exact zgs (fun v' d e hd=>by cases e;exact yux ho hd hv)
   . exact xbj
 . rename_i T x ho;refine vz6 (fun ti hti=>?_)
   split
   . rename_i rh hs hsee;exact zgs (fun v d e hd=>w7w ho hd hti hsee e)
   . trivial
 . rename_i T x y ho
   split
   . rename_i hd;refine vz6 (fun ti hti=>?_)
     split
     . rename_i us hu
       split
       . rename_i hl
         split
         . rename_i b z hst;exact xbl ho hd hti hu hl hst
         . trivial
       . trivial
     . trivial
   . trivial
 . rename_i S x f ho;refine vz6 (fun ti hti=>?_)
   split
   . rename_i fs hs
     split
     . rename_i off sz ft hf;exact zgs (fun v d e hd=>x8o ho hd hti hs hf e)
     . trivial
   . trivial
 . rename_i T x y ho;refine vz6 (fun ti hti=>?_)
   split
   . rename_i v hv;exact zgs (fun v' d e hd=>by cases e;exact yaf ho hd hti hv)
   . exact xbj
 . rename_i x n ho;exact zgs (fun v d e hd=>xqd ho hd e)
 . rename_i x ho
   split
   . rename_i hp;exact zgs (fun v d e hd=>by cases e;exact zk8 ho hd hp)
   . trivial
 . rename_i op T x y U ho
   split
   . exact zgs (fun v d e hd=>z9c ho hd e)
   . split
     . rename_i t ht
       split
       . rename_i j hj;exact zgs (fun v d e hd=>vrx ho hd (ylq ht) hj e)
       . trivial
     . trivial
   . exact xbj
 . exact xbj
 . exact xbj
 . rename_i T x lo hi mx ho
   split
   . split
     . exact vz6 (fun ti hti=>zgs (fun v d e hd=>z1i ho hd hti e))
     . trivial
   . exact xbj
 . rename_i T ps ho;refine vz6 (fun ti hti=>?_)
   split
   . rename_i hc;refine zgs (fun v d e hd=>?_);obtain ⟨hs,hf,rfl⟩:=Option.map_eq_some_iff.1 e;exact y49 (parts:=ps.toList) (by rw [ho]) hd hti hc.1 hc.2 hf
   . trivial
 . rename_i T x f ho;refine vz6 (fun ti hti=>?_)
   split
   . rename_i fs hs
     split
     . rename_i off sz ft hf;exact vz6 (fun tf htf=>zgs (fun v d e hd=>w5l ho hd hti hs hf htf e))
     . trivial
   . trivial
 . rename_i T x y ho;refine vz6 (fun ti hti=>?_)
   split
   . rename_i n e es hs;refine vz6 (fun te hte=>?_)
     split
     . rename_i ix hix
       split
       . rename_i hc;obtain ⟨k,hk⟩:=xji hix;exact zgs (fun v d e hd=>zdr ho hd hti hs hte hk hc.1 hc.2 e)
       . trivial
     . trivial
   . rename_i hs;exact zgs (fun v d e hd=>wdu ho hd hti hs e)
   . trivial
 . rename_i T x y ok ho;refine vz6 (fun ti hti=>?_)
   split
   . refine vz6 (fun tk htk=>?_)
     split
     . split
       . unfold wsi
         split<;>trivial
       . trivial
     . trivial
   . trivial
 . rename_i T x y z ho
   split
   . rename_i hd;refine vz6 (fun ti hti=>?_)
     split
     . rename_i kt et hs;refine vz6 (fun tk htk=>?_)
       split
       . rename_i b es k hm hk
         split
         . rename_i hc
           split
           . rename_i es' hu;exact vjc (.inl ho) hd hti hs htk hm hk hc.1 hc.2 hu
           . trivial
         . trivial
       . trivial
     . trivial
   . trivial
 . trivial
theorem vej (h:∀ b∈bs,y10 (gB J b)=true):∀ p∈frzE J bs,p.1<J.length:=fun p hp=>by
 obtain ⟨b,hb,rfl⟩:=List.mem_map.1 hp;exact xei (h b hb)
theorem xna {n:Nat} {zc : List Cell} {parts : List (Nat × Operand)} (h : litH Γ I J es ik zc n parts = some (c, bs)) : ∀ b ∈ bs, y10 (gB J b) = true := by
 unfold litH at h;split at h
 . split at h
   . split at h
     . rename_i cs bs' hd;obtain ⟨c',_,he⟩:=Option.map_eq_some_iff.1 h
       cases he;exact y93 hd
     . cases h
   . cases h
 . cases h
theorem vbv (h:xs.toList=[x]):xs=#[x]:=by rw [<-Array.toArray_toList (xs:=xs),h]
theorem xmc (h:xs.toList=[x,y]):xs=#[x,y]:=by rw [<-Array.toArray_toList (xs:=xs),h]
theorem v02 {x:TypeId} {xs:Array TypeId} (h:xs.toList=[x]):xs=#[x]:=by rw [<-Array.toArray_toList (xs:=xs),h]
theorem vh8 {x y:TypeId} {xs:Array TypeId} (h:xs.toList=[x,y]):xs=#[x,y]:=by rw [<-Array.toArray_toList (xs:=xs),h]
theorem wh2 {x:SV} {T:Option TypeId} (h:dstH J e es ik x=some (some b,c,k,T)):y10 (gB J b)=true:=by
 unfold dstH at h;split at h
 . split at h
   . rename_i hb;split at h
     . cases h;rw [hb];rfl
     . cases h
   . cases h
 . split at h<;>cases h
 . cases h
theorem v0c {x : SV} {ob : Option Nat} {T : Option TypeId} (h : dstH J e es ik x = some (ob, c, k, T)) (ha : ∀ b, ob = some b → gB J' b = gB J b) : dstH J' e es ik x = some (ob, c, k, T) := by
 unfold dstH at h ⊢;split at h
 . rename_i b es' n
   have e1:gB J' b=gB J b:=by
    split at h
    . split at h
      . cases h;exact ha b rfl
      . cases h
    . cases h
   simp only [e1];exact h
 . exact h
 . cases h
theorem x45 {x:SV} (h:srcH J x=some (c,bs)) (ha:∀ b∈bs,gB J' b=gB J b):srcH J' x=some (c,bs):=by
 unfold srcH at h ⊢;split at h
 . exact xm5 h ha
 . cases h
theorem v61 {x:SV} (h:srcH J x=some (c,bs)):∀ b∈bs,y10 (gB J b)=true:=by
 unfold srcH at h;split at h
 . exact wtq h
 . cases h
theorem x40 (he:J'=J\/J'=J++[.fresh]) (hb:y10 (gB J b)=true):gB J' b=gB J b:=by
 rcases he with rfl | rfl
 . rfl
 . exact v6d (xei hb)
theorem zj0 {lit fn:Bool}:vlf Γ P o I J nb (opH P Γ lit fn I J nb o):=by
 unfold opH
 split
 . rename_i T ho;exact vz6 (fun ti hti=>wld (fun d J' hd _ hr=>z6h ho hd hti hr) (by simp))
 . rename_i T x ho
   split
   . rename_i hs hcs;exact wld (fun d J' hd _ hr=>zej ho hd hcs hr) (by simp)
   . trivial
 . rename_i T n ps ho
   split
   . exact xbj
   . rename_i n;refine vz6 (fun ti hti=>?_)
     split
     . rename_i e es eb ik hsh;refine vz6 (fun te hte=>?_)
       split
       . rename_i c bs hl;have harr:=xna hl
         split
         . split
           . rename_i d hd;exact vnm (parts:=ps.toList) (by rw [ho]) hd hti hsh hte hl
           . trivial
         . refine wld (fun d J' hd he hr=>?_) (vej harr)
           have hg:∀ b∈bs,gB J' b=gB J b:=fun b hb=>x40 he (harr b hb)
           have:=zru (parts:=ps.toList) (nb:=nb) (by rw [ho]) hd hti hsh hte (yqw (I':=I) rfl hl hg) hr
           rw [zii hg] at this;exact this
       . trivial
     . trivial
 . rename_i T ho;exact wld (fun d J' hd _ hr=>y69 ho hd hr) (by simp)
 . rename_i f fs cs ho
   split
   . rename_i hfs
     have hfs':fs=#[]:=by rw [<-Array.toArray_toList (xs:=fs),hfs]
     subst hfs'
     split
     . split<;>trivial
     . split
       . rename_i hnt;exact wld (fun d J' hd _ hr=>ys4 (xs:=cs.toList) (by rw [ho]) hd hnt hr) (by simp)
       . trivial
   . trivial
 . rename_i S D x ho;unfold vj1
   split
   . rename_i e hS hD
     split
     . rename_i he
       split
       . rename_i l bs hb
         split
         . rename_i d hd;exact zcf ho hd hS he hD hb
         . trivial
       . trivial
     . trivial
   . rename_i t hS hD
     split
     . rename_i j b off T n hj hb
       split
       . rename_i hsz;exact zgs (fun v d e hd=>by cases e;exact zw8 ho hd hS hD hj (by simpa using hsz) hb)
       . trivial
     . trivial
   . rename_i u hS hD
     split
     . rename_i j b off T n hj hb
       split
       . rename_i hl;exact zgs (fun v d e hd=>by cases e;exact xyx ho hd hS hD hj hl hb)
       . trivial
     . trivial
   . exact xbj
 . rename_i c ho;obtain ⟨ce,args,ats⟩:=c;dsimp only
   split
   . rename_i x;unfold wds
     have hG:∀ f caps rd rh,vlf Γ P o I J nb (wds.callG Γ (wew lit fn) I J o args.toList f caps rd rh):=fun f caps rd rh=>by
      unfold wds.callG
      split
      . trivial
      . split<;>trivial
     split
     . rename_i f
       split
       . rename_i hne
         split
         . rename_i y hy
           have:=vbv hy
           subst this;exact zgs (fun v d e hd=>by cases e;exact zde ho hd hne)
         . trivial
       . exact hG _ _ _ _
     . split
       . split<;>trivial
       . split
         . exact hG _ _ _ _
         . trivial
     . trivial
   . rename_i b
     split
     . split
       . rename_i x T hx hT;have h1:=vbv hx;have h2:=v02 hT;subst h1;subst h2
         split
         . refine vz6 (fun ti hti=>?_)
           split
           . rename_i rh n hl;exact zgs (fun v d e hd=>by cases e;exact xlk ho hd hti hl)
           . trivial
         . exact xbj
       . trivial
     . split
       . rename_i x y T U hx hT;have h1:=xmc hx;have h2:=vh8 hT;subst h1;subst h2
         split
         . rename_i hTU;subst hTU;refine vz6 (fun ti hti=>?_)
           split
           . rename_i e es eb ik hsh;unfold opH.appO
             split
             . rename_i ob cc k TT cy bs hD hS
               split
               . rename_i c' hj
                 split
                 . rename_i hob;have harr:=v61 hS
                   have harrD:∀ b,ob=some b->y10 (gB J b)=true:=fun b e1=>by subst e1;exact wh2 hD
                   refine wld (fun d J' hd he hr=>?_) (fun p hp=>?_)
                   . have hg:∀ b∈bs,gB J' b=gB J b:=fun b hb=>x40 he (harr b hb)
                     have hA:wd0 J' nb e es eb ik (opdS Γ I x) (opdS Γ I y)=some (ob.toList++bs,frzE J' bs++(x03 ob++[(nb,.arr c' k (appT TT e))]),.one (.sl nb es 0 c'.cnt)):=by
                      unfold wd0;rw [v0c hD (fun b e1=>x40 he (harrD b e1)),x45 hS hg];simp only [hj,hob,if_true]
                     have:=w0n ho hd hti hsh hA hr
                     rw [zii hg,<-List.append_assoc] at this;exact this
                   . rcases List.mem_append.1 hp with hp | hp
                     . exact vej harr p hp
                     . cases ob with
                       | none=>cases hp
                       | some b=>
                        simp only [x03,List.mem_singleton] at hp;subst hp;exact xei (harrD b rfl)
                 . trivial
               . trivial
             . trivial
           . trivial
         . trivial
       . trivial
     . split
       . rename_i x hx;have h1:=vbv hx;subst h1;exact zgs (fun v d e hd=>z4z ho hd e)
       . trivial
     . split
       . rename_i x y pt it d hx hT hd;have h1:=xmc hx;have h2:=vh8 hT;subst h1;subst h2
         split
         . rename_i b l hu;exact s_us ho hd hu
         . trivial
       . trivial
     . split
       . rename_i x y T U d hx hT hd;have h1:=xmc hx;have h2:=vh8 hT;subst h1;subst h2
         split
         . rename_i hTU;subst hTU;refine vz6 (fun ti hti=>?_)
           split
           . rename_i e es eb ik hsh
             split
             . rename_i b z m rb hc;exact x1i ho hd hti hsh hc
             . trivial
           . trivial
         . trivial
       . trivial
     . exact xbj
     . exact xbj
     . trivial
   . trivial
 . exact ynj
end Go.Hp
