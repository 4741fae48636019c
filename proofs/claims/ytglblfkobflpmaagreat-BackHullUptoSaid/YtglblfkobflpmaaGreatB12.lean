/- The proof, part B12: Hl, Hy, Hm. -/
import Derived.Test.YtglblfkobflpmaaGreatB11
import Derived.Test.YtglblfkobflpmaaGreatB10
import Derived.Lib.Builder
import Derived.LaidEql
import Derived.Laws.Externs
import Derived.KernelRfl
namespace Go.Hp
open Go Go.RowKit Go.Slot
variable {P:Program} {Γ:List (Nat×List Cell)}
def zbh:SV->Option Bool
 | .one (.dat (.raw (.pointer none)))=>some true
 | .one (.ptr _ _) | .one (.pel _ _ _ _) | .elt _=>some false
 | _=>none
def wcj:SV->SV->Bool
 | .one (.ptr b f),.one (.ptr b' f')=>b==b'&&f==f'
 | _,_=>false
def xra (op:BinOp) (x y:SV):Option SV:=match zbh y with
 | some true=>match zbh x with
  | some r=>(eqOf op r).map fun b=>.one (.dat (.raw (.bool b)))
  | none=>none
 | _=>match wcj x y with
  | true=>(eqOf op true).map fun b=>.one (.dat (.raw (.bool b)))
  | false=>none
theorem x0o {T t:TypeId} (hT:P.underlying T=some (.pointer t)) (v:Value) (r:Bool) (hv:(r=true/\v=.pointer none)\/(r=false/\∃ a,v=.pointer (some a))) (d:Nat) (w:World):(Op.equalIn (d+1) T v (.pointer none)).run P w=.ok r w:=by
 rcases hv with ⟨rfl,rfl⟩ | ⟨rfl,a,rfl⟩<;>simp [Op.equalIn,w9c hT]
theorem y4d {T t:TypeId} {j:TypeInfo} (hT:P.underlying T=some (.pointer t)) (ht:P.info? t=some j) (a:Addr) (d:Nat) (w:World):(Op.equalIn (d+1) T (.pointer (some a)) (.pointer (some a))).run P w=.ok true w:=by
 simp [Op.equalIn,w9c hT,sizeOf,typeInfo,ht,run_sameAddr_same]
theorem w2q {op:BinOp} {T:TypeId} {x y:Option Addr} {r b:Bool} (hb:eqOf op r=some b) (h:∀ d w,(Op.equalIn (d+1) T (.pointer x) (.pointer y)).run P w=.ok r w) (w:World):(binOp op T (.pointer x) (.pointer y)).run P w=.ok (.bool b) w:=by
 unfold eqOf at hb
 split at hb<;>first | (cases hb;done) | skip
 . cases hb;simp only [binOp];simp [Op.equal,Op.maxDepth,h 9999]
 . cases hb;simp only [binOp];simp [Op.equal,Op.maxDepth,h 9999]
theorem vrx {o:Oper} {I:List SV} {J:List SB} {op:BinOp} {T U t:TypeId} {j:TypeInfo} {x y:Operand} {d:Nat} (ho:o.op=.binOp op T x y U) (hdst:o.dst=some d) (hT:P.underlying T=some (.pointer t)) (ht:P.info? t=some j) {v:SV}
 (h:xra op (opdS Γ I x) (opdS Γ I y)=some v):vbd Γ P o I J (d::(orr x++orr y)) [] [(d,v)] []:=by
 refine vbd.pure hdst (fun E ρ I' J' a w hag hah hI=>?_);have hx:=hI.opd x;have hy:=hI.opd y;rw [hag.opd (fun t ht=>by simp [ht])] at hx hy
 have nilv:∀{v:Value} {s:SV} {r:Bool},SVR J' ρ (MX E.Mo ρ J') w v s->zbh s=some r->(r=true/\v=.pointer none)\/(r=false/\∃ a,v=.pointer (some a)):=fun {v s r} hv hr=>by
  unfold zbh at hr
  split at hr<;>first | (cases hr;done) | (cases hr;skip)
  . exact .inl ⟨rfl,RdC.x18 hv⟩
  . exact .inr ⟨rfl,_,hv.2⟩
  . exact .inr ⟨rfl,_,hv.2⟩
  . obtain ⟨b,oo,vs,e,_⟩:=hv;exact .inr ⟨rfl,_,e⟩
 have hexec:∀(ax ay:Option Addr) (b:Bool),a.eval x=.pointer ax->a.eval y=.pointer ay->(binOp op T (.pointer ax) (.pointer ay)).run P w=.ok (.bool b) w->(execOp a.eval o).run P w=.ok (.value (.bool b)) w:=fun ax ay b e1 e2 hr=>by
  have hg:∀ ox oy,(eqGuard op T ox oy (.pointer ax) (.pointer ay)).run P w=.ok () w:=fun ox oy=>by cases op<;>simp [eqGuard]
  unfold execOp;rw [ho];simp only [e1,e2,Sem.run_bind,hg,Result.andThen_ok,hr,Sem.run_pure]
 unfold xra at h;split at h
 . rename_i hny;split at h
   . rename_i r hnx;obtain ⟨b,hb,rfl⟩:=Option.map_eq_some_iff.1 h
     rcases nilv hy hny with ⟨_,e2⟩ | ⟨e,_⟩
     . have hv:=nilv hx hnx
       have hv':∃ ax,a.eval x=.pointer ax:=by rcases hv with ⟨_,e⟩ | ⟨_,ad,e⟩<;>exact ⟨_,e⟩
       obtain ⟨ax,ex⟩:=hv';refine ⟨.bool b,hexec ax none b ex e2 (w2q hb (fun d w=>x0o hT _ r (by rw [<-ex];exact hv) d w) w),RdC.raw rfl⟩
     . cases e
   . cases h
 . split at h
   . rename_i hs;obtain ⟨b,hb,rfl⟩:=Option.map_eq_some_iff.1 h
     have hsv:∃ bb f,opdS Γ I x=.one (.ptr bb f)/\opdS Γ I y=.one (.ptr bb f):=by
      generalize opdS Γ I x=sx at hs;generalize opdS Γ I y=sy at hs;unfold wcj at hs;split at hs
      . simp only [Bool.and_eq_true,beq_iff_eq] at hs;obtain ⟨rfl,rfl⟩:=hs;exact ⟨_,_,rfl,rfl⟩
      . cases hs
     obtain ⟨bb,f,e1,e2⟩:=hsv;rw [e1] at hx;rw [e2] at hy;exact ⟨.bool b,hexec _ _ b hx.2 hy.2 (w2q hb (fun d w=>y4d hT ht _ d w) w),RdC.raw rfl⟩
   . cases h
def x7k (J:List SB):SV->Option (Nat×Nat×TypeId×Nat)
 | .one (.ptr b off)=>match gB J b with
  | .box hs (some T)=>if off<hs.length then some (b,off,T,hs.length) else none
  | _=>none
 | _=>none
theorem xxz {E : HEnv} {ρ : Nat → Value} {I' : List SV} {J J' : List SB} {a : Act} {w : World} (hI : RI Γ E ρ I' J' a w) {v : Value} {x : SV} {b off n : Nat} {T : TypeId} (h : x7k J x = some (b, off, T, n)) (hb : gB J' b = gB J b) (hx : SVR J' ρ (MX E.Mo ρ J') w v x) :
 x=.one (.ptr b off)/\∃ ad:Addr,v=.pointer (some ad)/\ad.off=off/\off<n/\w.shape? ad.block=some (T,n):=by
 unfold x7k at h;split at h
 . rename_i b' off';split at h
   . rename_i hs T' hg;split at h
     . rename_i hlt
       cases h
       have hg':gB J' b=.box hs (some T):=by rw [hb];exact hg
       obtain ⟨bb,vs,T2,e,hh,hr,hT⟩:=hI.sbr hg' (by simp)
       have hbk:bk (ρ b)=bb:=by rw [e];rfl
       refine ⟨rfl,_,hx.2,rfl,hlt,?_⟩;simp only [hbk];unfold World.shape?;rw [hh,hT T rfl];simp [hr.length]
     . cases h
   . cases h
 . cases h
theorem zw8 {o:Oper} {I:List SV} {J:List SB} {S D t:TypeId} {j:TypeInfo} {x:Operand} {d b off n:Nat} {T:TypeId} (ho:o.op=.convert S D x) (hdst:o.dst=some d) (hS:P.underlying S=some (.pointer t)) (hD:P.underlying D=some .unsafePointer) (ht:P.info? t=some j) (hj:j.size≠0)
 (hb:x7k J (opdS Γ I x)=some (b,off,T,n)):vbd Γ P o I J (d::orr x) [b] [(d,.one (.ptr b off))] []:=by
 refine vbd.pure hdst (fun E ρ I' J' a w hag hah hI=>?_);have hx:=hI.opd x;rw [hag.opd (fun t ht=>by simp [ht])] at hx;obtain ⟨e0,ad,e1,e2,e3,e4⟩:=xxz hI hb (hah.gB (by simp)) hx;rw [e0] at hx;have hrun:=Go.Lib.run_to_unsafe (P:=P) w ad hS hD ht hj e4 (by omega);refine ⟨a.eval x,?_,hx⟩;unfold execOp;rw [ho];simp only [e1,Sem.run_bind,hrun,Result.andThen_ok,Sem.run_pure]
theorem xyx {o:Oper} {I:List SV} {J:List SB} {S D u:TypeId} {j:TypeInfo} {x:Operand} {d b off n:Nat} {T:TypeId} (ho:o.op=.convert S D x) (hdst:o.dst=some d) (hS:P.underlying S=some .unsafePointer) (hD:P.underlying D=some (.pointer u)) (hu:P.info? u=some j)
 (hlies:liesAt P P.depth T (n / P.cellsOf T) off u 1=true) (hb:x7k J (opdS Γ I x)=some (b,off,T,n)):vbd Γ P o I J (d::orr x) [b] [(d,.one (.ptr b off))] []:=by
 refine vbd.pure hdst (fun E ρ I' J' a w hag hah hI=>?_);have hx:=hI.opd x;rw [hag.opd (fun t ht=>by simp [ht])] at hx;obtain ⟨e0,ad,e1,e2,e3,e4⟩:=xxz hI hb (hah.gB (by simp)) hx;rw [e0] at hx;have hrun:=Go.Lib.run_from_unsafe (P:=P) w ad hS hD hu e4 (by rw [e2];exact hlies);refine ⟨a.eval x,?_,hx⟩;unfold execOp;rw [ho];simp only [e1,Sem.run_bind,hrun,Result.andThen_ok,Sem.run_pure]
def xts (P:Program) (f:FuncId):Bool:=match P.funcs[f]? with
 | some fn=>fn.body.isNone&&fn.name == "internal/abi.NoEscape" &&fn.origin == ""
 | none=>false
theorem z8c:Extern.allNextRows.lookup "internal/abi.NoEscape" = none/\Extern.allNextRows.lookup "" = none/\Extern.allGenericRows.lookup "internal/abi.NoEscape" = none/\Extern.allTypedRows.lookup "internal/abi.NoEscape" = none:=by
 refine ⟨?_,?_,?_,?_⟩<;>kernel_rfl
theorem yki:Extern.allRows.lookup "internal/abi.NoEscape" = some Extern.AbiNoEscape.same:=by kernel_rfl
theorem yxz {f:FuncId} (h:xts P f=true) (v:Value) (w:World):(callFunc f #[v]).run P w=.ok (.value v) w:=by
 unfold xts at h;split at h
 . rename_i fn hf;simp only [Bool.and_eq_true,beq_iff_eq] at h;obtain ⟨⟨hb,hn⟩,ho⟩:=h;obtain ⟨r1,r2,r3,r4⟩:=z8c
   have h1:Extern.findNext fn=none:=by
    unfold Extern.findNext;simp only [hn,ho,r1,r2,Option.map_none];rfl
   have h2:Extern.find fn=some Extern.AbiNoEscape.same:=by
    unfold Extern.find;simp only [hn,ho,r3,r4,yki,Option.map_none];rfl
   rw [run_callFunc_extern hf (by rw [hn];rfl) hb h1 h2,Go.Lib.run_noEscape];rfl
 . cases h
theorem zdf {o:Oper} {I:List SV} {J:List SB} {f:FuncId} {x:Operand} {ts:Array TypeId} {d:Nat} (ho:o.op=.call { callee:=.value (.func f),args:=#[x],argTypes:=ts }) (hdst:o.dst=some d) (hf:xts P f=true):vbd Γ P o I J (d::orr x) [] [(d,opdS Γ I x)] []:=by
 refine vbd.pure hdst (fun E ρ I' J' a w hag hah hI=>?_);have hx:=hI.opd x;rw [hag.opd (fun t ht=>by simp [ht])] at hx;refine ⟨a.eval x,?_,hx⟩;have hrun:=yxz hf (a.eval x) w;have he:a.eval (.func f)=.func (.func f) #[] #[]:=rfl;unfold execOp;rw [ho];simp [resolve,Deferred.ofValue,he,invoke,hrun]
def usdH:SV->Option SV
 | .one (.sl b 1 0 n)=>if 0<n then some (.one (.pel b 1 0 0)) else none
 | _=>none
theorem z4z {o:Oper} {I:List SV} {J:List SB} {x:Operand} {ts:Array TypeId} {d:Nat} (ho:o.op=.call { callee:=.builtin .unsafeSliceData,args:=#[x],argTypes:=ts }) (hdst:o.dst=some d) {v:SV} (h:usdH (opdS Γ I x)=some v) :
 vbd Γ P o I J (d::orr x) [] [(d,v)] []:=by
 refine vbd.pure hdst (fun E ρ I' J' a w hag hah hI=>?_);have hx:=hI.opd x;rw [hag.opd (fun t ht=>by simp [ht])] at hx;unfold usdH at h;split at h
 . rename_i b n e;split at h
   . rename_i hn
     cases h;rw [e] at hx;obtain ⟨hob,ad,cap,hv,hle,hcap⟩:=hx;obtain ⟨_,had,_⟩:=hcap (by omega);subst had;refine ⟨.pointer (some ⟨bk (ρ b),0*1,none⟩),?_,hob,rfl⟩;rw [zs6 ho,show (#[x]:Array Operand).map a.eval=#[a.eval x] from by simp,hv];simp only [builtin,Sem.run_bind,Go.Lib.run_unsafeSliceData_row w ts o.type ⟨bk (ρ b),0*1,none⟩ n cap (by omega)];rfl
   . cases h
 . cases h
def vjd (P:Program) (t:TypeId):Option TypeId:=match P.underlying t with
 | some (.pointer e)=>some e
 | _=>none
theorem ylq {t e:TypeId} (h:vjd P t=some e):P.underlying t=some (.pointer e):=by
 unfold vjd at h;split at h
 . rename_i e' hu;cases h;exact hu
 . cases h
def x7g (n:Int):Bool:=decide (0<=n)&&decide (n<256)
def usH (P:Program) (J:List SB) (pt:TypeId) (x y:SV):Option (Nat×List Int):=match x,y with
 | .one (.pel b 1 0 0),.one (.dat (.raw (.int .i64 n)))=>match gB J b with
  | .arr (.ints .u8 l) _ (some e)=>if vjd P pt=some e/\P.cellsOf e=1/\n=(l.length:Int)/\0<l.length/\l.length<=9223372036854775807/\l.all x7g=true then some (b,l) else none
  | _=>none
 | _,_=>none
theorem World.x1j (w:World) (a:Addr) (n k:Nat) (h:k≠a.block):(w.freeze a n).heap[k]? = w.heap[k]?:=by
 unfold World.freeze
 split
 . rfl
 . simp only [Array.getElem?_modify];rw [if_neg (Ne.symm h)]
theorem s_us {o:Oper} {I:List SV} {J:List SB} {x y:Operand} {pt it:TypeId} {d:Nat} (ho:o.op=.call { callee:=.builtin .unsafeString,args:=#[x,y],argTypes:=#[pt,it] }) (hdst:o.dst=some d) {b:Nat} {l:List Int} (h:usH P J pt (opdS Γ I x) (opdS Γ I y)=some (b,l)) :
 vbd Γ P o I J (d::(orr x++orr y)) [b] [(d,.one (.dat (.raw (.string (strOfNums l)))))] [(b,.dead)]:=by
 refine vbd.val hdst (fun E ρ I' J' a w hag hah hI=>?_);have hx:=hI.opd x;have hy:=hI.opd y;rw [hag.opd (fun t ht=>by simp [ht])] at hx hy;unfold usH at h;split at h
 case h_2=>cases h
 rename_i b' n ex ey;split at h
 case h_2=>cases h
 rename_i l' k e hb;split at h
 case isFalse=>cases h
 rename_i hc
 cases h;obtain ⟨hpt,hce,rfl,hl0,h63,hby⟩:=hc;have hpt:=ylq hpt;rw [ex] at hx;rw [ey] at hy
 have hb':gB J' b=.arr (.ints .u8 l) k (some e):=by rw [hah.gB (by simp)];exact hb
 have hbs:=xuw hb' (by simp);obtain ⟨⟨hu,hk⟩,h0 | ⟨bb,vs,q,T2,e1,hh,hr,hT⟩⟩:=hI.sbr hb' (by simp)
 . have h1:=h0.1;simp [Cell.cnt] at h1;rw [h1] at hl0;simp at hl0
 have hbk:bk (ρ b)=bb:=by rw [e1];rfl
 have hT:=hT e rfl;subst hT
 have ev:a.eval x=.pointer (some ⟨bb,0,none⟩):=by rw [hx.2,hbk]
 have ey':a.eval y=.int .i64 (l.length:Int):=RdC.x18 hy
 have hvs:vs=l.map (Value.int .u8):=xrp (k:=.u8) hr (by
  have:∀ l:List Int,w6n .u8 (l.map fun n=>Cell.raw (.int .u8 n))=some l:=by
   intro l
   induction l with
   | nil=>rfl
   | cons n l ih=>simp [w6n,ih]
  exact this l)
 have hsh:w.shape? bb=some (T2,(vs++q).length):=by simp [World.shape?,hh]
 have hbyte:∀ n∈l,0<=n/\n<256:=fun n hn=>by
  have:=(List.all_eq_true.1 hby) n hn
  simpa [x7g] using this
 have hcell:∀(j:Nat) (u:UInt8),(l.map fun n=>UInt8.ofNat n.toNat)[j]? = some u->w.cell? ((⟨bb,0,none⟩:Addr).add j)=some (.int .u8 u.toNat):=fun j u hj=>by
  rw [v4h,Nat.zero_add];rw [List.getElem?_map] at hj;obtain ⟨n,hn,rfl⟩:=Option.map_eq_some_iff.1 hj;have h2:=hbyte n (List.mem_of_getElem? hn)
  have h3:((UInt8.ofNat n.toNat).toNat:Int)=n:=by
   rw [UInt8.toNat_ofNat']
   have:n.toNat % 2 ^ 8=n.toNat:=Nat.mod_eq_of_lt (by omega)
   rw [this];omega
  rw [h3];exact xbn hh (by rw [hvs,List.getElem?_map,hn];rfl)
 have hrun:=Go.Lib.run_unsafeString_row (P:=P) w pt it o.type T2 hpt hce bb _ hsh (l.map fun n=>UInt8.ofNat n.toNat) (by intro e;simp at e;subst e;simp at hl0) (by simp [hvs]) (by simpa using h63) hcell;simp only [List.length_map] at hrun;have hres:(⟨(l.map fun n=>UInt8.ofNat n.toNat).toArray⟩:ByteArray)=strOfNums l:=rfl;rw [hres] at hrun;have hw1:=Went.kill hI.inv hbs
 have hfz:(w.freeze ⟨bb,0,none⟩ l.length).heap[bb]? = some (.cells (vs++q).toArray T2 (if (0:Nat)==0 then (0,0+l.length) else (min 0 0,max 0 (0+l.length)))):=by
  unfold World.freeze;rw [if_neg (by omega)];simp only [Array.getElem?_modify,if_true];rw [hh];rfl
 have hother:=fun k hk=>World.x1j w ⟨bb,0,none⟩ l.length k hk
 have hsz:(w.freeze ⟨bb,0,none⟩ l.length).heap.size=w.heap.size:=by
  unfold World.freeze;split<;>simp
 have hos:(w.freeze ⟨bb,0,none⟩ l.length).os=w.os/\(w.freeze ⟨bb,0,none⟩ l.length).tape=w.tape/\(w.freeze ⟨bb,0,none⟩ l.length).output=w.output:=by
  unfold World.freeze;split<;>exact ⟨rfl,rfl,rfl⟩
 have hcells:∀ c oo u,w.cell? ⟨c,oo,none⟩=some u->(w.freeze ⟨bb,0,none⟩ l.length).cell? ⟨c,oo,none⟩=some u:=fun c oo u hc=>by
  by_cases e2:c=bb
  . subst e2;unfold World.cell? at hc ⊢;dsimp only at hc ⊢;rw [hh] at hc;rw [hfz];exact hc
  . unfold World.cell? at hc ⊢;dsimp only at hc ⊢;rw [hother c e2];exact hc
 have hkeep:∀ M,wf2 M M w (w.freeze ⟨bb,0,none⟩ l.length):=fun M c oo u h1 h2=>⟨h1,hcells c oo u h2⟩
 have hgrow:Grow w (w.freeze ⟨bb,0,none⟩ l.length):=fun i arr T fz hi=>by
  by_cases e2:i=bb
  . subst e2;rw [hh] at hi;cases hi;exact ⟨_,_,_,hfz,Nat.le_refl _⟩
  . exact ⟨arr,T,fz,by rw [hother i e2];exact hi,Nat.le_refl _⟩
 have hnotown:∀ i z,(J'.set b .dead)[i]? = some z->z.own=true->real (ρ i)->bk (ρ i)≠bb:=fun i z hi hz hri e2=>by
  rcases yu7 hi with ⟨_,rfl⟩ | ⟨hn,hi⟩
  . cases hz
  . exact hn (hI.inv.inj i b z _ hi hbs hz rfl hri (by rw [e1];simp [real]) (by rw [hbk];exact e2))
 have hinv2:HInv Γ E.Mo ρ (J'.set b .dead) (w.freeze ⟨bb,0,none⟩ l.length):=
  ⟨fun c oo hm=>by rw [hsz];exact hw1.inv.bnd c oo hm,fun i z hi=>(hw1.inv.blk i z hi).mv ⟨fun _ h=>h,fun _ _=>rfl,hkeep _,hgrow⟩ (fun ho' hr'=>hother _ (hnotown i z hi ho' hr')),hw1.inv.inj,hw1.inv.sep,hw1.inv.glob.keep (hkeep _)⟩
 have hrb:real (ρ b):=by rw [e1];simp [real]
 refine ⟨_,w.freeze ⟨bb,0,none⟩ l.length,ρ,?_,⟨hw1.ok,hw1.rho,hw1.keep.trans (hkeep _),hgrow,hinv2,by rw [hsz];exact Nat.le_refl _,hos.1,hos.2.1,hos.2.2,fun k _ hk=>hother k (fun e2=>hk ⟨b,_,hbs,rfl,hrb,by rw [hbk];exact e2.symm⟩),fun k hk=>hw1.fresh k hk⟩,RdC.raw rfl⟩;rw [zs6 ho,show (#[x,y]:Array Operand).map a.eval=#[a.eval x,a.eval y] from by simp,ev,ey'];simp only [builtin,Sem.run_bind,hrun];rfl
theorem ykp {α:Type} {n:Nat}:∀{l:List (List α)},(∀ r∈l,r.length=n)->∀ k,(l.take k).flatten=l.flatten.take (k*n)
 | [],_,k=>by simp
 | r::l,h,0=>by simp
 | r::l,h,k+1=>by
  have hr:=h r (by simp);rw [List.take_succ_cons,List.flatten_cons,List.flatten_cons,ykp (fun s hs=>h s (by simp [hs])) k,Nat.succ_mul,Nat.add_comm (k*n) n,<-hr,List.take_length_add_append]
theorem zuq {α:Type} {n:Nat}:∀{l:List (List α)},(∀ r∈l,r.length=n)->∀ k,(l.drop k).flatten=l.flatten.drop (k*n)
 | [],_,k=>by simp
 | r::l,h,0=>by simp
 | r::l,h,k+1=>by
  have hr:=h r (by simp);rw [List.drop_succ_cons,List.flatten_cons,zuq (fun s hs=>h s (by simp [hs])) k,Nat.succ_mul,Nat.add_comm (k*n) n,<-hr,List.drop_length_add_append]
theorem w3f {α:Type} {n:Nat}:∀{l:List (List α)},(∀ r∈l,r.length=n)->l.flatten.length=l.length*n
 | [],_=>by simp
 | r::l,h=>by rw [List.flatten_cons,List.length_append,w3f (fun s hs=>h s (by simp [hs])),h r (by simp),List.length_cons,Nat.succ_mul,Nat.add_comm]
def v8r (J:List SB) (es:Nat):SV->Option (List (List Cell)×List Nat)
 | .one (.dat c)=>(vbz es c).map fun l=>(l,[])
 | .one (.sl b es' lo n)=>match gB J b with
  | .arr (.sl es2 rows) _ _=>if es'=es/\es2=es/\lo+n<=rows.length then some ((rows.drop lo).take n,[b]) else none
  | _=>none
 | _=>none
def z5s (J:List SB) (es:Nat) (x y:SV):Option (Nat×SB×Nat×List Nat):=match x with
 | .one (.sl b es' lo n)=>match gB J b with
  | .arr (.sl es2 rows) k T=>match v8r J es y with
   | some (rs,rb)=>if es'=es/\es2=es/\k<=lo*es/\lo+n<=rows.length then
    some (b,.arr (.sl es (rows.take lo++(rs.take (min n rs.length)++rows.drop (lo+min n rs.length)))) k T,min n rs.length,b::rb) else none
   | none=>none
  | _=>none
 | _=>none
theorem zp2 {J : List SB} {es : Nat} {x : SV} {rs : List (List Cell)} {rb : List Nat} (h : v8r J es x = some (rs, rb)) : ∀ b ∈ rb, y10 (gB J b) = true := by
 unfold v8r at h;split at h
 . obtain ⟨l,_,e⟩:=Option.map_eq_some_iff.1 h
   cases e;intro b hb;cases hb
 . split at h
   . rename_i hb;split at h
     . cases h;intro b' hb';rw [List.mem_singleton.1 hb',hb];rfl
     . cases h
   . cases h
 . cases h
theorem xwf {J:List SB} {es:Nat} {x y:SV} {b:Nat} {z:SB} {m:Nat} {rb:List Nat} (h:z5s J es x y=some (b,z,m,rb)):b∈rb/\∀ b∈rb,y10 (gB J b)=true:=by
 unfold z5s at h;split at h
 case h_2=>cases h
 split at h
 case h_2=>cases h
 rename_i hb;split at h
 case h_2=>cases h
 rename_i hs;split at h
 case isFalse=>cases h
 cases h;refine ⟨by simp,fun b' hb'=>?_⟩
 rcases List.mem_cons.1 hb' with rfl | hb'
 . rw [hb];rfl
 . exact zp2 hs b' hb'
theorem z1y {J J' : List SB} {es : Nat} {x : SV} {rs : List (List Cell)} {rb : List Nat} (h : v8r J es x = some (rs, rb)) (hg : ∀ b ∈ rb, gB J' b = gB J b) : v8r J' es x = some (rs, rb) := by
 unfold v8r at h ⊢;split at h
 . exact h
 . rename_i b es' lo n
   cases hb:gB J b with
   | arr c k T =>
    rw [hb] at h
    have hm:b∈rb:=by
     split at h
     . split at h
       . cases h;simp
       . cases h
     . cases h
    simp only [hg b hm,hb];exact h
   | _=>rw [hb] at h;cases h
 . cases h
theorem x4y {J J':List SB} {es:Nat} {x y:SV} {b:Nat} {z:SB} {m:Nat} {rb:List Nat} (h:z5s J es x y=some (b,z,m,rb)) (hg:∀ b∈rb,gB J' b=gB J b):z5s J' es x y=some (b,z,m,rb):=by
 unfold z5s at h ⊢;split at h
 case h_2=>cases h
 rename_i b' es' lo n;split at h
 case h_2=>cases h
 rename_i es2 rows k T hb;split at h
 case h_2=>cases h
 rename_i rs rb' hs;split at h
 case isFalse=>cases h
 rename_i hc
 cases h;simp only [hg b (by simp),hb,z1y hs (fun c hc=>hg c (by simp [hc])),hc,and_self,if_true]
theorem x0m {Mo:Nat->Nat->Prop} {ρ:Nat->Value} {J:List SB} {w:World} {es:Nat} (hes:0<es) (h:HInv Γ Mo ρ J w) {x:SV} {rs:List (List Cell)} {rb:List Nat} (hs:v8r J es x=some (rs,rb)) {v:Value} (hv:SVR J ρ (MX Mo ρ J) w v x) :
 ∃(us:List Value) (ad:Option Addr) (cap:Nat),v=.slice ad rs.length cap/\us.length=rs.length*es/\RdD (MX Mo ρ J) w us rs.flatten/\(∀ r∈rs,r.length=es)/\
  (us=[]\/∃ b off,ad=some ⟨b,off,none⟩/\∀ j u,us[j]? = some u->w.cell? ⟨b,off+j,none⟩=some u):=by
 unfold v8r at hs;split at hs
 . rename_i c;obtain ⟨l,hl,e⟩:=Option.map_eq_some_iff.1 hs
   cases e;obtain ⟨⟨ad,cap,hyl⟩,hyn,us,hul,hur,hyc⟩:=(show RdC (MX Mo ρ J) w v c from hv).vy2 hes hl;refine ⟨us,ad,cap,hyl,hul,hur,hyn,?_⟩
   rcases hyc with hyc | ⟨b,off,cap',e,hc⟩
   . exact .inl hyc
   . rw [hyl] at e
     cases e;exact .inr ⟨b,off,rfl,fun j u hj=>(hc j u hj).2⟩
 . rename_i b es' lo n;split at hs
   case h_2=>cases hs
   rename_i es2 rows k T hb;split at hs
   case isFalse=>cases hs
   rename_i hc;obtain ⟨rfl,rfl,hfit⟩:=hc
   cases hs;obtain ⟨_,ad,cap,hvs,hle,hcap⟩:=hv;obtain ⟨⟨hu,hk⟩,h0⟩:=h.blk b _ (xuw hb (by simp));have hu:∀ r∈rows,r.length=es2:=hu
   have hlen:((rows.drop lo).take n).length=n:=by rw [List.length_take,List.length_drop];omega
   have hmem:∀ r∈(rows.drop lo).take n,r.length=es2:=fun r hr=>hu r (List.mem_of_mem_drop (List.mem_of_mem_take hr))
   by_cases hn0:n=0
   . subst hn0;exact ⟨[],ad,cap,by rw [hlen];exact hvs,by simp,by simp;trivial,hmem,.inl rfl⟩
   . obtain ⟨hre,had,arr,Tb,fz,hheap,hsz⟩:=hcap (by omega)
     rcases h0 with ⟨_,e1⟩ | ⟨bb,vs,q,Tb',e1,hh,hr,hT⟩
     . exact absurd e1 hre
     have hbk:bk (ρ b)=bb:=by rw [e1];rfl
     rw [hbk] at had;have hr:RdD (MX Mo ρ J) w vs rows.flatten:=hr;have hvl:=hr.length;rw [w3f hu] at hvl
     have hfit2:lo*es2+n*es2<=rows.length*es2:=by rw [<-Nat.add_mul];exact Nat.mul_le_mul_right _ hfit
     refine ⟨(vs.drop (lo*es2)).take (n*es2),ad,cap,by rw [hlen];exact hvs,by rw [hlen,List.length_take,List.length_drop];omega,?_,hmem,.inr ⟨bb,lo*es2,had,fun j u hj=>?_⟩⟩
     . rw [ykp (fun r hr=>hu r (List.mem_of_mem_drop hr)),zuq hu];exact (hr.drop (lo*es2)).take (n*es2)
     . have hj2:(vs.drop (lo*es2))[j]? = some u:=by
        rw [List.getElem?_take] at hj;split at hj
        . exact hj
        . cases hj
       rw [List.getElem?_drop] at hj2;exact xbn hh hj2
 . cases hs
theorem x1h {o:Oper} {I:List SV} {J:List SB} {T e:TypeId} {x y:Operand} {d es eb:Nat} {ik:Option IntKind} (ho:o.op=.call { callee:=.builtin .copy,args:=#[x,y],argTypes:=#[T,T] }) (hdst:o.dst=some d)
 {ti:TI} (hti:mkTI P T=some ti) (hsh:ti.sh=.slice e es eb ik) {b:Nat} {z:SB} {m:Nat} {rb:List Nat} (h:z5s J es (opdS Γ I x) (opdS Γ I y)=some (b,z,m,rb)) :
 vbd Γ P o I J (d::(orr x++orr y)) rb [(d,.one (.dat (.raw (.int .i64 (m:Int)))))] [(b,z)]:=by
 have hin:=xwf h;refine vbd.val hdst (fun E ρ I' J' a w hag hah hI=>?_);obtain ⟨d0,i,zz,hd0,hi,hz,_,_,_,_,_,hsh'⟩:=(wgk hti).ex;obtain ⟨rfl,j,z',hj,hz',hjs,hjb,hes0,hzs,hik⟩:=zu3 (hsh'.symm.trans hsh)
 have hes:0<es:=by omega
 have hx:=hI.opd x;have hy:=hI.opd y;rw [hag.opd (fun t ht=>by simp [ht])] at hx hy;have h:=x4y h (J':=J') (fun b hb=>hah.gB hb);unfold z5s at h;split at h
 case h_2=>cases h
 rename_i b' es' lo n hxe;split at h
 case h_2=>cases h
 rename_i es2 rows k T0 hb;split at h
 case h_2=>cases h
 rename_i rs rb' hs;split at h
 case isFalse=>cases h
 rename_i hc;obtain ⟨rfl,rfl,hk,hfit⟩:=hc
 cases h;rw [hxe] at hx;obtain ⟨_,ad,cap,hvx,hle,hcap⟩:=hx;obtain ⟨us,yad,ycap,hvy,hul,hur,hun,huc⟩:=x0m hes hI.inv hs hy;have hb1:=xuw hb (by simp);obtain ⟨⟨hu,hk2⟩,h0⟩:=hI.sbr hb (by simp);have hu:∀ r∈rows,r.length=es2:=hu;generalize hm:min n rs.length=m
 have hm1:m<=n:=by omega
 have hm2:m<=rs.length:=by omega
 have hmin:Nat.min rs.length n=m:=by rw [<-hm];exact Nat.min_comm _ _
 have hml:(us.take (m*es2)).length=m*es2:=by
  have:=Nat.mul_le_mul_right es2 hm2
  rw [List.length_take];omega
 have hf:(Builtin.firstCells j.size m (.slice yad rs.length ycap)).run P w=.ok (us.take (m*es2)).toArray w:=by
  rcases huc with rfl | ⟨g,off,rfl,hc⟩
  . rw [List.take_nil] at hml ⊢
    cases yad with
    | none=>exact run_firstCells_none _ _ _ _ _
    | some a1=>exact run_firstCells_some w _ _ _ _ _ [] (by rw [hjs];exact hml) (fun j v hj=>by cases hj)
  . exact run_firstCells_some w _ _ _ _ _ _ (by rw [hjs];exact hml) (fun j v hj=>by
     rw [v4h];rw [List.getElem?_take] at hj;split at hj
     . exact hc j v hj
     . cases hj)
 have hexec:∀(w2:World),(Builtin.copy_ #[T,T] o.type #[a.eval x,a.eval y]).run P w=.ok (goInt (m:Int)) w2->(execOp a.eval o).run P w=.ok (.value (goInt (m:Int))) w2:=fun w2 hr=>by
  rw [zs6 ho,show (#[x,y]:Array Operand).map a.eval=#[a.eval x,a.eval y] from by simp];simp only [builtin,Sem.run_bind,hr];rfl
 have hflat:(Cell.sl es2 (rows.take lo++(rs.take m++rows.drop (lo+m)))).flat=rows.flatten.take (lo*es2)++(rs.flatten.take (m*es2)++rows.flatten.drop ((lo+m)*es2)):=by
  show (rows.take lo++(rs.take m++rows.drop (lo+m))).flatten=_;rw [List.flatten_append,List.flatten_append,ykp hu,ykp hun,zuq hu]
 by_cases hm0:m=0
 . subst hm0
   have e1:rows.take lo++(rs.take 0++rows.drop (lo+0))=rows:=by rw [List.take_zero,List.nil_append,Nat.add_zero,List.take_append_drop]
   have e2:J'.set b (.arr (.sl es2 rows) k T0)=J':=by
    apply List.ext_getElem?;intro i;by_cases hib:b=i
    . subst hib;rw [List.getElem?_set_self (List.getElem?_eq_some_iff.1 hb1).1,hb1]
    . rw [List.getElem?_set_ne hib]
   rw [e1];show ∃ v w' ρ',_/\Went Γ E.Mo ρ J' w ρ' (J'.set b (.arr (.sl es2 rows) k T0)) w'/\_
   have hrun:(Builtin.copy_ #[T,T] o.type #[a.eval x,a.eval y]).run P w=.ok (goInt ((0:Nat):Int)) w:=by
    rw [hvx,hvy]
    cases ad<;>simp [Builtin.copy_,run_underlying hd0,Builtin.lenOf,sizeOf,typeInfo,hj,hmin,hf,storeCells]
   refine ⟨_,w,ρ,hexec w hrun,?_,RdC.raw rfl⟩;rw [e2];exact Went.refl hI.inv
 . obtain ⟨hre,had,arr,Tb,fz,hheap,hsz⟩:=hcap (by omega)
   rcases h0 with ⟨_,e1⟩ | ⟨bb,vs,q,Tb',e1,hh,hr,hT⟩
   . exact absurd e1 hre
   have hbk:bk (ρ b)=bb:=by rw [e1];rfl
   rw [hbk] at had hheap;rw [hh] at hheap
   cases hheap;have hr:RdD (MX E.Mo ρ J') w vs rows.flatten:=hr;have hvl:=hr.length;rw [w3f hu] at hvl
   have hfit2:lo*es2+m*es2<=rows.length*es2:=by rw [<-Nat.add_mul];exact Nat.mul_le_mul_right _ (by omega)
   have hones:∀ u∈us.take (m*es2),u.oneCell'=true:=fun u hu=>hur.oneL u (List.mem_of_mem_take hu)
   have hst:=run_storeCells_at P bb (lo*es2) Tb (us.take (m*es2)) 0 (vs++q).toArray w hh (by rw [hml];simp only [List.size_toArray,List.length_append];omega) hones;simp only [Nat.add_zero] at hst;rw [hml] at hst
   have hrun:(Builtin.copy_ #[T,T] o.type #[a.eval x,a.eval y]).run P w=.ok (goInt (m:Int)) (w.setRow bb ((vs++q).toArray.toList.take (lo*es2)++us.take (m*es2)++(vs++q).toArray.toList.drop (lo*es2+m*es2)).toArray):=by
    rw [hvx,hvy,had];simp [Builtin.copy_,run_underlying hd0,Builtin.lenOf,sizeOf,typeInfo,hj,hmin,hf];simp at hst;rw [hst];rfl
   have hnew:(vs++q).toArray.toList.take (lo*es2)++us.take (m*es2)++(vs++q).toArray.toList.drop (lo*es2+m*es2)=(vs.take (lo*es2)++(us.take (m*es2)++vs.drop ((lo+m)*es2)))++q:=by
    show (vs++q).take (lo*es2)++us.take (m*es2)++(vs++q).drop (lo*es2+m*es2)=_;rw [List.take_append_of_le_length (by omega),List.drop_append_of_le_length (by omega),Nat.add_mul];simp [List.append_assoc]
   rw [hnew] at hrun
   have hcnt:(rows.take lo++(rs.take m++rows.drop (lo+m))).length=rows.length:=by
    simp only [List.length_append,List.length_take,List.length_drop];omega
   refine ⟨_,_,ρ,hexec _ hrun,?_,RdC.raw rfl⟩;show Went Γ E.Mo ρ J' w ρ (J'.set b _) _;refine Went.write hI.inv hb1 rfl hre rfl (fun o=>Iff.rfl) (by simp [World.setRow]) rfl rfl rfl (fun kk hk=>setRow_other w bb kk _ (by rw [<-hbk];exact hk)) (zwl hh ?_) (fun oo u hmu hcc=>?_) (fun mv=>?_)
   . simp only [List.size_toArray,List.length_append,hml];simp only [List.length_take,List.length_drop,Nat.add_mul];omega
   . rw [hbk] at hcc ⊢;rw [cell_setRow_same w bb oo _ _ _ _ hh]
     have hlt:oo<lo*es2:=by
      have:¬k<=oo:=hmu
      omega
     simp only [World.cell?,hh,Option.isSome_none,Bool.false_eq_true,if_false,List.getElem?_toArray] at hcc
     have hlt2:oo<vs.length:=by omega
     rw [List.getElem?_append_left hlt2] at hcc
     have hlt3:oo<(vs.take (lo*es2)).length:=by rw [List.length_take];exact Nat.lt_min.2 ⟨hlt,hlt2⟩
     rw [List.getElem?_toArray,List.append_assoc,List.getElem?_append_left hlt3,List.getElem?_take_of_lt hlt];exact hcc
   . refine ⟨⟨fun r hr=>?_,?_⟩,.inr ⟨bb,_,q,Tb,e1,setRow_heap w bb _ _ Tb (0,0) hh,?_,hT⟩⟩
     . rcases List.mem_append.1 hr with h | h
       . exact hu r (List.mem_of_mem_take h)
       . rcases List.mem_append.1 h with h | h
         . exact hun r (List.mem_of_mem_take h)
         . exact hu r (List.mem_of_mem_drop h)
     . show k<=(rows.take lo++(rs.take m++rows.drop (lo+m))).length*es2;rw [hcnt];exact hk2
     . rw [hflat];exact ((hr.take (lo*es2)).app ((hur.take (m*es2)).app (hr.drop ((lo+m)*es2)))).keep mv.keep
def wco (off:Nat) (tf:TI):SV->Option SV
 | .agg hs=>yi8 tf (hs.drop off)
 | _=>none
theorem vvx {T:TypeId} {tf:TI} (hok:TIok P T tf) {J:List SB} {ρ:Nat->Value} {M:Nat->Nat->Prop} {w:World} {vs:List Value} {hs:List HC} (hr:HRL J ρ M w vs hs) {off:Nat} {x:SV} (h:yi8 tf (hs.drop off)=some x) :
 ∃ v,(part T vs.toArray off).run P w=.ok v w/\SVR J ρ M w v x:=by
 obtain ⟨_,j,_,_,hj,_,hjs,_,_,_,_,_⟩:=hok.ex;have hr':=hr.drop off;unfold yi8 at h;split at h
 . rename_i hm;split at h
   . rename_i hle
     cases h;refine ⟨.agg ((vs.drop off).take tf.size).toArray,?_,_,rfl,hr'.take _⟩;simp [part,hok.vkb hm,yyt hj,hjs,List.extract_eq_take_drop]
   . cases h
 . rename_i hm;split at h
   . rename_i c cs' hcs
     cases h;rw [hcs] at hr'
     cases hv:vs.drop off with
     | nil=>rw [hv] at hr';exact hr'.elim
     | cons v0 vs'=>
      rw [hv] at hr'
      have hg:vs[off]? = some v0:=by
       have:=congrArg (fun l=>l[0]?) hv
       simpa using this
      exact ⟨v0,by simp [part,hok.vkb hm,hg],hr'.1⟩
   . cases h
 . cases h
theorem w5l {o:Oper} {I:List SV} {J:List SB} {T ft:TypeId} {x:Operand} {f d off sz:Nat} {fs:List (Nat×Nat×TypeId)} (ho:o.op=.field T x f) (hdst:o.dst=some d) {ti tf:TI} (hti:mkTI P T=some ti) (hs:ti.sh=.struct fs) (hf:fs[f]? = some (off,sz,ft)) (htf:mkTI P ft=some tf)
 {v:SV} (h:wco off tf (opdS Γ I x)=some v):vbd Γ P o I J (d::orr x) [] [(d,v)] []:=by
 refine vbd.pure hdst (fun E ρ I' J' a w hag hah hI=>?_);have hx:=hI.opd x;rw [hag.opd (fun t ht=>by simp [ht])] at hx;obtain ⟨dd,i,z,hd,hi',hz,_,_,_,_,_,hsh⟩:=(wgk hti).ex;obtain ⟨fl,rfl,rfl,_⟩:=xzn (hsh.symm.trans hs);rw [List.getElem?_map] at hf;obtain ⟨fd,hfd,hfe⟩:=Option.map_eq_some_iff.1 hf
 cases hfe
 have hfa:fl[f]? = some fd:=by simpa using hfd
 unfold wco at h;split at h
 . rename_i hs' e;rw [e] at hx;obtain ⟨vs,hv,hr⟩:=hx;obtain ⟨u,h1,h2⟩:=vvx (wgk htf) hr h;exact ⟨u,by simp [execOp,ho,Instr.field,asAgg,hv,w9c hd,hfa,h1],h2⟩
 . cases h
theorem zdr {o:Oper} {I:List SV} {J:List SB} {T e:TypeId} {x y:Operand} {d n es:Nat} {k:IntKind} {ix:Int} (ho:o.op=.index T x y) (hdst:o.dst=some d) {ti te:TI} (hti:mkTI P T=some ti) (hs:ti.sh=.array n e es) (hte:mkTI P e=some te)
 (hy:opdS Γ I y=.one (.dat (.raw (.int k ix)))) (h0:0<=ix/\ix<n) (hes:es=te.size) {v:SV} (h:wco (ix.toNat*es) te (opdS Γ I x)=some v):vbd Γ P o I J (d::(orr x++orr y)) [] [(d,v)] []:=by
 refine vbd.pure hdst (fun E ρ I' J' a w hag hah hI=>?_);have hx:=hI.opd x;have hyr:=hI.opd y;rw [hag.opd (fun t ht=>by simp [ht])] at hx hyr;rw [hy] at hyr;have ey:a.eval y=.int k ix:=RdC.x18 hyr;obtain ⟨dd,i,z,hd,hi',hz,_,_,_,_,_,hsh⟩:=(wgk hti).ex;obtain ⟨rfl,_⟩:=yce (hsh.symm.trans hs);have hok:=wgk hte;obtain ⟨_,j,_,_,hj,_,hjs,_,_,_,_,_⟩:=hok.ex;unfold wco at h;split at h
 . rename_i hs' ex;rw [ex] at hx;obtain ⟨vs,hv,hr⟩:=hx;obtain ⟨u,h1,h2⟩:=vvx hok hr h;exact ⟨u,by simp [execOp,ho,Instr.index,asIntOf,hv,ey,w9c hd,h0.1,h0.2,yyt hj,hjs,<-hes,h1],h2⟩
 . cases h
inductive HO where
 | eff (rd rh:List Nat) (eff:List (Nat×SV)) (heff:List (Nat×SB)) (new:Option SB)
 | callD (f:FuncId) (l:List AV) (rd rh bs:List Nat)
 | callF (p:(Nat->Nat->Prop)->World->Value->Prop) (l:List AV) (rd bs:List Nat)
 | callH (f:FuncId) (l:List SV) (rd:List Nat)
 | mk (f:FuncId) (caps:List AV) (rd bs:List Nat)
 | look (r:Option SV) (zero:SV) (ok:Bool) (rd rh:List Nat)
 | bad
def vem (P:Program) (t:TypeId) (k:TI->HO):HO:=match mkTI P t with
 | some ti=>k ti
 | none=>.bad
def vO (o:Oper) (rd rh:List Nat):Option SV->HO
 | some x=>match o.dst with
  | some d=>.eff (d::rd) rh [(d,x)] [] none
  | none=>.bad
 | none=>.bad
def nO (o:Oper) (rd rh:List Nat) (x:SV) (heff:List (Nat×SB)) (b:SB):HO:=match o.dst with
 | some d=>.eff (d::rd) rh [(d,x)] heff (some b)
 | none=>.bad
def isNil {α:Type}:List α->Bool
 | []=>true
 | _=>false
def oldR (d nb:Nat):OR->HO
 | .eff rd tk [(d',av)]=>if isNil tk&&d'==d then match av2 nb av with
  | some (x,ob)=>.eff rd [] [(d,x)] [] ob
  | none=>.bad
  else .bad
 | _=>.bad
def oldO (P:Program) (I:List SV) (nb:Nat) (o:Oper):HO:=match o.dst with
 | some d=>if v1x o.op=true/\d<I.length then oldR d nb (opA0 P (I.map vw) o) else .bad
 | none=>.bad
def x72:SV->SV->Option SV
 | .one (.dat (.raw (.string s))),.one (.dat (.raw (.int _ i)))=>if 0<=i/\i<s.size then some (.one (.dat (.raw (.int .u8 (yuk s i.toNat))))) else none
 | _,_=>none
def intS:SV->Option Int
 | .one (.dat (.raw (.int _ i)))=>some i
 | _=>none
inductive CK where
 | agg
 | ptr
 | other
def ckH:SV->SV->CK
 | .agg _,_=>.agg
 | .one (.ptr _ _),_=>.ptr
 | .one (.pel _ _ _ _),_=>.ptr
 | .elt _,_=>.ptr
 | .one (.dat (.raw (.pointer _))),_=>.ptr
 | _,_=>.other
def vk7:SV->Bool
 | .one (.sl _ _ _ _)=>true
 | _=>false
def z00:SV->Bool
 | .one (.sl _ _ _ _)=>true
 | .one (.mp _)=>true
 | _=>false
def wsi (_o:Oper) (ok:Bool) (rd rh:List Nat):Option (Option SV)->Option SV->HO
 | some r,some z=>.look r z ok rd rh
 | _,_=>.bad
def opP (P:Program) (Γ:List (Nat×List Cell)) (I:List SV) (J:List SB) (nb:Nat) (o:Oper):HO:=
 match o.op with
 | .move x=>vO o (orr x) [] (some (opdS Γ I x))
 | .assign x=>vO o (orr x) [] (some (opdS Γ I x))
 | .pick c x y=>match vby (opdS Γ I c) (opdS Γ I x) (opdS Γ I y) with
  | some v=>vO o (orr c++orr x++orr y) [] (some v)
  | none=>oldO P I nb o
 | .load T x=>vem P T fun ti=>match seeH J (opdS Γ I x) with
  | some (rh,hs)=>vO o (orr x) rh (yi8 ti hs)
  | none=>.bad
 | .store T x y=>match o.dst with
  | none=>vem P T fun ti=>match vg7 (opdS Γ I y) with
   | some us=>if us.length=ti.size then match x71 J ti.size (opdS Γ I x) us with
    | some (b,z)=>.eff (orr x++orr y) [b] [] [(b,z)] none
    | none=>.bad
    else .bad
   | none=>.bad
  | some _=>.bad
 | .fieldAddr S x f=>vem P S fun ti=>match ti.sh with
  | .struct fs=>match fs[f]? with
   | some (off,_,_)=>vO o (orr x) [] (vlp (opdS Γ I x) off)
   | none=>.bad
  | _=>.bad
 | .indexAddr T x y=>vem P T fun ti=>match vui ti.sh (opdS Γ I x) (opdS Γ I y) with
  | some v=>vO o (orr x++orr y) [] (some v)
  | none=>oldO P I nb o
 | .extract x n=>vO o (orr x) [] (ydz (opdS Γ I x) n)
 | .nilCheck x=>if ptrH (opdS Γ I x)=true then vO o (orr x) [] (some (opdS Γ I x)) else .bad
 | .binOp op T x y _=>match ckH (opdS Γ I x) (opdS Γ I y) with
  | .agg=>vO o (orr x++orr y) [] (yxi P T op (opdS Γ I x) (opdS Γ I y))
  | .ptr=>match vjd P T with
   | some t=>match P.info? t with
    | some _=>vO o (orr x++orr y) [] (xra op (opdS Γ I x) (opdS Γ I y))
    | none=>.bad
   | none=>.bad
  | .other=>oldO P I nb o
 | .unOp _ _ _=>oldO P I nb o
 | .makeSlice _ _ _=>oldO P I nb o
 | .slice T x lo hi mx=>match vk7 (opdS Γ I x) with
  | true=>match mx with
   | none=>vem P T fun ti=>vO o (orr x++orrO lo++orrO hi) [] (yw0 Γ I ti.sh (opdS Γ I x) lo hi)
   | some _=>.bad
  | false=>oldO P I nb o
 | .build T ps=>vem P T fun ti=>if v27 ti=true/\ti.sh.agg=true then vO o (orrs ps.toList) [] ((y31 (placeOf ti.sh) (ti.zc.map .dat) (x3f Γ I ps.toList)).map .agg) else .bad
 | .field T x f=>vem P T fun ti=>match ti.sh with
  | .struct fs=>match fs[f]? with
   | some (off,_,ft)=>vem P ft fun tf=>vO o (orr x) [] (wco off tf (opdS Γ I x))
   | none=>.bad
  | _=>.bad
 | .index T x y=>vem P T fun ti=>match ti.sh with
  | .array n e es=>vem P e fun te=>match intS (opdS Γ I y) with
   | some ix=>if (0<=ix/\ix<n)/\es=te.size then vO o (orr x++orr y) [] (wco (ix.toNat*es) te (opdS Γ I x)) else .bad
   | none=>.bad
  | .string=>vO o (orr x++orr y) [] (x72 (opdS Γ I x) (opdS Γ I y))
  | _=>.bad
 | .lookup T x y ok=>vem P T fun ti=>match ti.sh with
  | .map kt et=>vem P kt fun tk=>match wii J (opdS Γ I x),keyV (opdS Γ I y) with
   | some (b,es),some k=>if wdo tk.sh k=true then wsi o ok (xl0 o++(orr x++orr y)) [b] (yvo es k) (zya P et) else .bad
   | _,_=>.bad
  | _=>.bad
 | .mapUpdate T x y z=>match o.dst with
  | none=>vem P T fun ti=>match ti.sh with
   | .map kt _=>vem P kt fun tk=>match wii J (opdS Γ I x),keyV (opdS Γ I y) with
    | some (b,es),some k=>if wdo tk.sh k=true/\vms (opdS Γ I z)=true then match updM es k (opdS Γ I z) with
     | some es'=>.eff (orr x++orr y++orr z) [b] [] [(b,.map es')] none
     | none=>.bad
     else .bad
    | _,_=>.bad
   | _=>.bad
  | some _=>.bad
 | _=>.bad
def vj1 (P:Program) (Γ:List (Nat×List Cell)) (I:List SV) (J:List SB) (nb:Nat) (o:Oper) (S D:TypeId) (x:Operand):HO:=match P.underlying S,P.underlying D with
 | some (.slice e),some .string=>match P.underlying e with
  | some (.int .u8)=>match wha J (opdS Γ I x) with
   | some (l,bs)=>match o.dst with
    | some d=>.eff (d::orr x) bs [(d,.one (.dat (.raw (.string (strOfNums l)))))] (frzE J bs) none
    | none=>.bad
   | none=>.bad
  | _=>.bad
 | some (.pointer t),some .unsafePointer=>match P.info? t,x7k J (opdS Γ I x) with
  | some j,some (b,off,_,_)=>if j.size != 0 then vO o (orr x) [b] (some (.one (.ptr b off))) else .bad
  | _,_=>.bad
 | some .unsafePointer,some (.pointer u)=>match P.info? u,x7k J (opdS Γ I x) with
  | some _,some (b,off,T,n)=>if liesAt P P.depth T (n / P.cellsOf T) off u 1 then vO o (orr x) [b] (some (.one (.ptr b off))) else .bad
  | _,_=>.bad
 | _,_=>oldO P I nb o
def wew:Bool->Bool->Bool
 | false,false=>true
 | _,_=>false
def vii (own:Bool) (J:List SB) (l:List SV):Option (List AV×List Nat):=match own with
 | true=>none
 | false=>zfb J l
theorem vjw {own:Bool} {J:List SB} {l:List SV} {r:List AV×List Nat} (h:vii own J l=some r):zfb J l=some r:=by
 cases own with
 | true=>cases h
 | false=>exact h
def wds (P:Program) (Γ:List (Nat×List Cell)) (own:Bool) (I:List SV) (J:List SB) (o:Oper) (x:Operand) (xs:List Operand):HO:=match x with
 | .func f=>if xts P f=true then match xs with
  | [y]=>vO o (orr y) [] (some (opdS Γ I y))
  | _=>.bad
  else callG f [] [] []
 | .tmp t=>match gtS I t with
  | .one (.dat (.fnp p))=>match zfb J (wy5 Γ I xs) with
   | some (l,bs)=>.callF p l (xl0 o++t::orrL xs) bs
   | none=>.bad
  | _=>match zxi Γ I J (.tmp t) with
   | some (f,caps,rd,rh)=>callG f caps rd rh
   | none=>.bad
 | _=>.bad
where callG (f:FuncId) (caps:List SV) (rd rh:List Nat):HO:=match vii own J (wy5 Γ I xs++caps) with
 | some (l,bs)=>.callD f l (xl0 o++rd++orrL xs) rh bs
 | none=>match voj (wy5 Γ I xs) with
  | true=>.callH f (wy5 Γ I xs++caps) (xl0 o++rd++orrL xs)
  | false=>.bad
def opH (P:Program) (Γ:List (Nat×List Cell)) (lit fn:Bool) (I:List SV) (J:List SB) (nb:Nat) (o:Oper):HO:=
 match o.op with
 | .alloc T=>vem P T fun ti=>nO o [] [] (.one (.ptr nb 0)) [] (.box (ti.zc.map .dat) (some T))
 | .box T x=>match vg7 (opdS Γ I x) with
  | some hs=>nO o (orr x) [] (.one (.ptr nb 0)) [] (.box hs (some T))
  | none=>.bad
 | .buildSlice T n ps=>match n with
  | 0=>oldO P I nb o
  | n + 1 => vem P T fun ti => match ti.sh with
   | .slice e es _ ik=>vem P e fun te=>match litH Γ I J es ik te.zc (n+1) ps.toList with
    | some (c,bs)=>match lit with
     | true=>match o.dst with
      | some d=>.eff (d::orrs ps.toList) bs [(d,.one (.dat c))] (frzE J bs) none
      | none=>.bad
     | false=>nO o (orrs ps.toList) bs (.one (.sl nb es 0 (n+1))) (frzE J bs) (.arr c 0 (some e))
    | none=>.bad
   | _=>.bad
 | .makeMap _ none=>nO o [] [] (.one (.mp nb)) [] (.map [])
 | .makeFunc (.func f) fs cs=>match fs.toList with
  | []=>match fn with
   | true=>match zfb J (wy5 Γ I cs.toList),o.dst with
    | some (l,bs),some d=>.mk f l (d::orrL cs.toList) bs
    | _,_=>.bad
   | false=>match voj (wy5 Γ I cs.toList) with
    | true=>nO o (orrL cs.toList) [] (.one (.fnr nb)) [] (.clo f (wy5 Γ I cs.toList))
    | false=>.bad
  | _=>.bad
 | .convert S D x=>vj1 P Γ I J nb o S D x
 | .call c => match c.callee with
  | .value x=>wds P Γ (wew lit fn) I J o x c.args.toList
  | .builtin b=>match b with
   | .len=>match c.args.toList,c.argTypes.toList with
    | [x],[T]=>match z00 (opdS Γ I x) with
     | true=>vem P T fun ti=>match lenH J ti.sh (opdS Γ I x) with
      | some (rh,n)=>vO o (orr x) rh (some (.one (.dat (.raw (.int .i64 (n:Int))))))
      | none=>.bad
     | false=>oldO P I nb o
    | _,_=>.bad
   | .append=>match c.args.toList,c.argTypes.toList with
    | [x,y],[T,U]=>if T=U then vem P T fun ti=>match ti.sh with
     | .slice e es eb ik=>appO (opdS Γ I x) (opdS Γ I y) (orr x++orr y) e es eb ik
     | _=>.bad
     else .bad
    | _,_=>.bad
   | .unsafeSliceData=>match c.args.toList with
    | [x]=>vO o (orr x) [] (usdH (opdS Γ I x))
    | _=>.bad
   | .unsafeString=>match c.args.toList,c.argTypes.toList,o.dst with
    | [x,y],[pt,_],some d=>match usH P J pt (opdS Γ I x) (opdS Γ I y) with
     | some (b,l)=>.eff (d::(orr x++orr y)) [b] [(d,.one (.dat (.raw (.string (strOfNums l)))))] [(b,.dead)] none
     | none=>.bad
    | _,_,_=>.bad
   | .copy => match c.args.toList, c.argTypes.toList, o.dst with
    | [x, y], [T, U], some d => if T = U then vem P T fun ti => match ti.sh with
     | .slice _ es _ _=>match z5s J es (opdS Γ I x) (opdS Γ I y) with
      | some (b,z,m,rb)=>.eff (d::(orr x++orr y)) rb [(d,.one (.dat (.raw (.int .i64 (m:Int)))))] [(b,z)] none
      | none=>.bad
     | _=>.bad
     else .bad
    | _,_,_=>.bad
   | .max=>oldO P I nb o
   | .min=>oldO P I nb o
   | _=>.bad
  | _=>.bad
 | _=>opP P Γ I J nb o
where appO (x y:SV) (rd:List Nat) (e:TypeId) (es eb:Nat) (ik:Option IntKind):HO:=match dstH J e es ik x,srcH J y with
 | some (ob,c,k,T),some (cy,bs)=>match wch es eb ik c cy with
  | some c'=>if bs.all (fun i=>ob != some i) then nO o rd (ob.toList++bs) (.one (.sl nb es 0 c'.cnt)) (frzE J bs++x03 ob) (.arr c' k (appT T e)) else .bad
  | none=>.bad
 | _,_=>.bad
end Go.Hp
