/- The proof, part W12: Hl, Hm, Hn. -/
import Derived.Test.YtbdoipfmafbhoaaGreatDoorW11
import Derived.Lib.Builder
import Derived.LaidEql
import Derived.Laws.Externs
import Derived.KernelRfl
namespace Go.Hp
open Go Go.RowKit Go.Slot
variable {P:Program} {Γ:List (Nat×List Cell)}
def vrx:SV->Option Bool
 | .one (.dat (.raw (.pointer none)))=>some true
 | .one (.ptr _ _) | .one (.pel _ _ _ _) | .elt _=>some false
 | _=>none
def xwl:SV->SV->Bool
 | .one (.ptr b f),.one (.ptr b' f')=>b==b'&&f==f'
 | _,_=>false
def xhp (op:BinOp) (x y:SV):Option SV:=match vrx y with
 | some true=>match vrx x with
  | some r=>(eqOf op r).map fun b=>.one (.dat (.raw (.bool b)))
  | none=>none
 | _=>match xwl x y with
  | true=>(eqOf op true).map fun b=>.one (.dat (.raw (.bool b)))
  | false=>none
theorem wq0 {T t:TypeId} (hT:P.underlying T=some (.pointer t)) (v:Value) (r:Bool) (hv:(r=true/\v=.pointer none)\/(r=false/\∃ a,v=.pointer (some a))) (d:Nat) (w:World):(Op.equalIn (d+1) T v (.pointer none)).run P w=.ok r w:=by
 rcases hv with ⟨rfl,rfl⟩ | ⟨rfl,a,rfl⟩<;>simp [Op.equalIn,yot hT]
theorem vbu {T t:TypeId} {j:TypeInfo} (hT:P.underlying T=some (.pointer t)) (ht:P.info? t=some j) (a:Addr) (d:Nat) (w:World):(Op.equalIn (d+1) T (.pointer (some a)) (.pointer (some a))).run P w=.ok true w:=by
 simp [Op.equalIn,yot hT,sizeOf,typeInfo,ht,run_sameAddr_same]
theorem vnw {op:BinOp} {T:TypeId} {x y:Option Addr} {r b:Bool} (hb:eqOf op r=some b) (h:∀ d w,(Op.equalIn (d+1) T (.pointer x) (.pointer y)).run P w=.ok r w) (w:World):(binOp op T (.pointer x) (.pointer y)).run P w=.ok (.bool b) w:=by
 unfold eqOf at hb
 split at hb<;>first | (cases hb;done) | skip
 . cases hb;simp only [binOp];simp [Op.equal,Op.maxDepth,h 9999]
 . cases hb;simp only [binOp];simp [Op.equal,Op.maxDepth,h 9999]
theorem vxn {o:Oper} {J:List SV} {η:List SB} {op:BinOp} {T U t:TypeId} {j:TypeInfo} {x y:Operand} {d:Nat} (ho:o.op=.binOp op T x y U) (hdst:o.dst=some d) (hT:P.underlying T=some (.pointer t)) (ht:P.info? t=some j) {v:SV}
 (h:xhp op (opdS Γ J x) (opdS Γ J y)=some v):y9y Γ P o J η (d::(orr x++orr y)) [] [(d,v)] []:=by
 refine y9y.pure hdst (fun E ρ J' η' a w hag hah hI=>?_);have hx:=hI.opd x;have hy:=hI.opd y;rw [hag.opd (fun t ht=>by simp [ht])] at hx hy
 have nilv:∀{v:Value} {s:SV} {r:Bool},SVR η' ρ (MX E.Mo ρ η') w v s->vrx s=some r->(r=true/\v=.pointer none)\/(r=false/\∃ a,v=.pointer (some a)):=fun {v s r} hv hr=>by
  unfold vrx at hr
  split at hr<;>first | (cases hr;done) | (cases hr;skip)
  . exact .inl ⟨rfl,RdC.y6j hv⟩
  . exact .inr ⟨rfl,_,hv.2⟩
  . exact .inr ⟨rfl,_,hv.2⟩
  . obtain ⟨b,oo,vs,e,_⟩:=hv;exact .inr ⟨rfl,_,e⟩
 have hexec:∀(ax ay:Option Addr) (b:Bool),a.eval x=.pointer ax->a.eval y=.pointer ay->(binOp op T (.pointer ax) (.pointer ay)).run P w=.ok (.bool b) w->(execOp a.eval o).run P w=.ok (.value (.bool b)) w:=fun ax ay b e1 e2 hr=>by
  have hg:∀ ox oy,(eqGuard op T ox oy (.pointer ax) (.pointer ay)).run P w=.ok () w:=fun ox oy=>by cases op<;>simp [eqGuard]
  unfold execOp;rw [ho];simp only [e1,e2,Sem.run_bind,hg,Result.andThen_ok,hr,Sem.run_pure]
 unfold xhp at h;split at h
 . rename_i hny;split at h
   . rename_i r hnx;obtain ⟨b,hb,rfl⟩:=Option.map_eq_some_iff.1 h
     rcases nilv hy hny with ⟨_,e2⟩ | ⟨e,_⟩
     . have hv:=nilv hx hnx
       have hv':∃ ax,a.eval x=.pointer ax:=by rcases hv with ⟨_,e⟩ | ⟨_,ad,e⟩<;>exact ⟨_,e⟩
       obtain ⟨ax,ex⟩:=hv';refine ⟨.bool b,hexec ax none b ex e2 (vnw hb (fun d w=>wq0 hT _ r (by rw [<-ex];exact hv) d w) w),RdC.raw rfl⟩
     . cases e
   . cases h
 . split at h
   . rename_i hs;obtain ⟨b,hb,rfl⟩:=Option.map_eq_some_iff.1 h
     have hsv:∃ bb f,opdS Γ J x=.one (.ptr bb f)/\opdS Γ J y=.one (.ptr bb f):=by
      generalize opdS Γ J x=sx at hs;generalize opdS Γ J y=sy at hs;unfold xwl at hs;split at hs
      . simp only [Bool.and_eq_true,beq_iff_eq] at hs;obtain ⟨rfl,rfl⟩:=hs;exact ⟨_,_,rfl,rfl⟩
      . cases hs
     obtain ⟨bb,f,e1,e2⟩:=hsv;rw [e1] at hx;rw [e2] at hy;exact ⟨.bool b,hexec _ _ b hx.2 hy.2 (vnw hb (fun d w=>vbu hT ht _ d w) w),RdC.raw rfl⟩
   . cases h
def vyi (η:List SB):SV->Option (Nat×Nat×TypeId×Nat)
 | .one (.ptr b off)=>match gB η b with
  | .box hs (some T)=>if off<hs.length then some (b,off,T,hs.length) else none
  | _=>none
 | _=>none
theorem wgv {E : HEnv} {ρ : Nat → Value} {J' : List SV} {η η' : List SB} {a : Act} {w : World} (hI : RI Γ E ρ J' η' a w) {v : Value} {x : SV} {b off n : Nat} {T : TypeId} (h : vyi η x = some (b, off, T, n)) (hb : gB η' b = gB η b) (hx : SVR η' ρ (MX E.Mo ρ η') w v x) :
 x=.one (.ptr b off)/\∃ ad:Addr,v=.pointer (some ad)/\ad.off=off/\off<n/\w.shape? ad.block=some (T,n):=by
 unfold vyi at h;split at h
 . rename_i b' off';split at h
   . rename_i hs T' hg;split at h
     . rename_i hlt
       cases h
       have hg':gB η' b=.box hs (some T):=by rw [hb];exact hg
       obtain ⟨bb,vs,T2,e,hh,hr,hT⟩:=hI.sbr hg' (by simp)
       have hbk:bk (ρ b)=bb:=by rw [e];rfl
       refine ⟨rfl,_,hx.2,rfl,hlt,?_⟩;simp only [hbk];unfold World.shape?;rw [hh,hT T rfl];simp [hr.length]
     . cases h
   . cases h
 . cases h
theorem zgd {o:Oper} {J:List SV} {η:List SB} {S D t:TypeId} {j:TypeInfo} {x:Operand} {d b off n:Nat} {T:TypeId} (ho:o.op=.convert S D x) (hdst:o.dst=some d) (hS:P.underlying S=some (.pointer t)) (hD:P.underlying D=some .unsafePointer) (ht:P.info? t=some j) (hj:j.size≠0)
 (hb:vyi η (opdS Γ J x)=some (b,off,T,n)):y9y Γ P o J η (d::orr x) [b] [(d,.one (.ptr b off))] []:=by
 refine y9y.pure hdst (fun E ρ J' η' a w hag hah hI=>?_);have hx:=hI.opd x;rw [hag.opd (fun t ht=>by simp [ht])] at hx;obtain ⟨e0,ad,e1,e2,e3,e4⟩:=wgv hI hb (hah.gB (by simp)) hx;rw [e0] at hx;have hrun:=Go.Lib.run_to_unsafe (P:=P) w ad hS hD ht hj e4 (by omega);refine ⟨a.eval x,?_,hx⟩;unfold execOp;rw [ho];simp only [e1,Sem.run_bind,hrun,Result.andThen_ok,Sem.run_pure]
theorem vxs {o:Oper} {J:List SV} {η:List SB} {S D u:TypeId} {j:TypeInfo} {x:Operand} {d b off n:Nat} {T:TypeId} (ho:o.op=.convert S D x) (hdst:o.dst=some d) (hS:P.underlying S=some .unsafePointer) (hD:P.underlying D=some (.pointer u)) (hu:P.info? u=some j)
 (hlies:liesAt P P.depth T (n / P.cellsOf T) off u 1=true) (hb:vyi η (opdS Γ J x)=some (b,off,T,n)):y9y Γ P o J η (d::orr x) [b] [(d,.one (.ptr b off))] []:=by
 refine y9y.pure hdst (fun E ρ J' η' a w hag hah hI=>?_);have hx:=hI.opd x;rw [hag.opd (fun t ht=>by simp [ht])] at hx;obtain ⟨e0,ad,e1,e2,e3,e4⟩:=wgv hI hb (hah.gB (by simp)) hx;rw [e0] at hx;have hrun:=Go.Lib.run_from_unsafe (P:=P) w ad hS hD hu e4 (by rw [e2];exact hlies);refine ⟨a.eval x,?_,hx⟩;unfold execOp;rw [ho];simp only [e1,Sem.run_bind,hrun,Result.andThen_ok,Sem.run_pure]
def yix (P:Program) (f:FuncId):Bool:=match P.funcs[f]? with
 | some fn=>fn.body.isNone&&fn.name == "internal/abi.NoEscape" &&fn.origin == ""
 | none=>false
theorem zwf:Extern.allNextRows.lookup "internal/abi.NoEscape" = none/\Extern.allNextRows.lookup "" = none/\Extern.allGenericRows.lookup "internal/abi.NoEscape" = none/\Extern.allTypedRows.lookup "internal/abi.NoEscape" = none:=by
 refine ⟨?_,?_,?_,?_⟩<;>kernel_rfl
theorem zr3:Extern.allRows.lookup "internal/abi.NoEscape" = some Extern.AbiNoEscape.same:=by kernel_rfl
theorem ya4 {f:FuncId} (h:yix P f=true) (v:Value) (w:World):(callFunc f #[v]).run P w=.ok (.value v) w:=by
 unfold yix at h;split at h
 . rename_i fn hf;simp only [Bool.and_eq_true,beq_iff_eq] at h;obtain ⟨⟨hb,hn⟩,ho⟩:=h;obtain ⟨r1,r2,r3,r4⟩:=zwf
   have h1:Extern.findNext fn=none:=by
    unfold Extern.findNext;simp only [hn,ho,r1,r2,Option.map_none];rfl
   have h2:Extern.find fn=some Extern.AbiNoEscape.same:=by
    unfold Extern.find;simp only [hn,ho,r3,r4,zr3,Option.map_none];rfl
   rw [run_callFunc_extern hf (by rw [hn];rfl) hb h1 h2,Go.Lib.run_noEscape];rfl
 . cases h
theorem yia {o:Oper} {J:List SV} {η:List SB} {f:FuncId} {x:Operand} {ts:Array TypeId} {d:Nat} (ho:o.op=.call { callee:=.value (.func f),args:=#[x],argTypes:=ts }) (hdst:o.dst=some d) (hf:yix P f=true):y9y Γ P o J η (d::orr x) [] [(d,opdS Γ J x)] []:=by
 refine y9y.pure hdst (fun E ρ J' η' a w hag hah hI=>?_);have hx:=hI.opd x;rw [hag.opd (fun t ht=>by simp [ht])] at hx;refine ⟨a.eval x,?_,hx⟩;have hrun:=ya4 hf (a.eval x) w;have he:a.eval (.func f)=.func (.func f) #[] #[]:=rfl;unfold execOp;rw [ho];simp [resolve,Deferred.ofValue,he,invoke,hrun]
def usdH:SV->Option SV
 | .one (.sl b 1 0 n)=>if 0<n then some (.one (.pel b 1 0 0)) else none
 | _=>none
theorem wvg {o:Oper} {J:List SV} {η:List SB} {x:Operand} {ts:Array TypeId} {d:Nat} (ho:o.op=.call { callee:=.builtin .unsafeSliceData,args:=#[x],argTypes:=ts }) (hdst:o.dst=some d) {v:SV} (h:usdH (opdS Γ J x)=some v) :
 y9y Γ P o J η (d::orr x) [] [(d,v)] []:=by
 refine y9y.pure hdst (fun E ρ J' η' a w hag hah hI=>?_);have hx:=hI.opd x;rw [hag.opd (fun t ht=>by simp [ht])] at hx;unfold usdH at h;split at h
 . rename_i b n e;split at h
   . rename_i hn
     cases h;rw [e] at hx;obtain ⟨hob,ad,cap,hv,hle,hcap⟩:=hx;obtain ⟨_,had,_⟩:=hcap (by omega);subst had;refine ⟨.pointer (some ⟨bk (ρ b),0*1,none⟩),?_,hob,rfl⟩;rw [wfi ho,show (#[x]:Array Operand).map a.eval=#[a.eval x] from by simp,hv];simp only [builtin,Sem.run_bind,Go.Lib.run_unsafeSliceData_row w ts o.type ⟨bk (ρ b),0*1,none⟩ n cap (by omega)];rfl
   . cases h
 . cases h
def z7n (P:Program) (t:TypeId):Option TypeId:=match P.underlying t with
 | some (.pointer e)=>some e
 | _=>none
theorem y6n {t e:TypeId} (h:z7n P t=some e):P.underlying t=some (.pointer e):=by
 unfold z7n at h;split at h
 . rename_i e' hu;cases h;exact hu
 . cases h
def wtu (n:Int):Bool:=decide (0<=n)&&decide (n<256)
def usH (P:Program) (η:List SB) (pt:TypeId) (x y:SV):Option (Nat×List Int):=match x,y with
 | .one (.pel b 1 0 0),.one (.dat (.raw (.int .i64 n)))=>match gB η b with
  | .arr (.ints .u8 l) _ (some e)=>if z7n P pt=some e/\P.cellsOf e=1/\n=(l.length:Int)/\0<l.length/\l.length<=9223372036854775807/\l.all wtu=true then some (b,l) else none
  | _=>none
 | _,_=>none
theorem World.z1s (w:World) (a:Addr) (n k:Nat) (h:k≠a.block):(w.freeze a n).heap[k]? = w.heap[k]?:=by
 unfold World.freeze
 split
 . rfl
 . simp only [Array.getElem?_modify];rw [if_neg (Ne.symm h)]
theorem s_us {o:Oper} {J:List SV} {η:List SB} {x y:Operand} {pt it:TypeId} {d:Nat} (ho:o.op=.call { callee:=.builtin .unsafeString,args:=#[x,y],argTypes:=#[pt,it] }) (hdst:o.dst=some d) {b:Nat} {l:List Int} (h:usH P η pt (opdS Γ J x) (opdS Γ J y)=some (b,l)) :
 y9y Γ P o J η (d::(orr x++orr y)) [b] [(d,.one (.dat (.raw (.string (strOfNums l)))))] [(b,.dead)]:=by
 refine y9y.val hdst (fun E ρ J' η' a w hag hah hI=>?_);have hx:=hI.opd x;have hy:=hI.opd y;rw [hag.opd (fun t ht=>by simp [ht])] at hx hy;unfold usH at h;split at h
 case h_2=>cases h
 rename_i b' n ex ey;split at h
 case h_2=>cases h
 rename_i l' k e hb;split at h
 case isFalse=>cases h
 rename_i hc
 cases h;obtain ⟨hpt,hce,rfl,hl0,h63,hby⟩:=hc;have hpt:=y6n hpt;rw [ex] at hx;rw [ey] at hy
 have hb':gB η' b=.arr (.ints .u8 l) k (some e):=by rw [hah.gB (by simp)];exact hb
 have hbs:=va7 hb' (by simp);obtain ⟨⟨hu,hk⟩,h0 | ⟨bb,vs,q,T2,e1,hh,hr,hT⟩⟩:=hI.sbr hb' (by simp)
 . have h1:=h0.1;simp [Cell.cnt] at h1;rw [h1] at hl0;simp at hl0
 have hbk:bk (ρ b)=bb:=by rw [e1];rfl
 have hT:=hT e rfl;subst hT
 have ev:a.eval x=.pointer (some ⟨bb,0,none⟩):=by rw [hx.2,hbk]
 have ey':a.eval y=.int .i64 (l.length:Int):=RdC.y6j hy
 have hvs:vs=l.map (Value.int .u8):=z9f (k:=.u8) hr (by
  have:∀ l:List Int,wha .u8 (l.map fun n=>Cell.raw (.int .u8 n))=some l:=by
   intro l
   induction l with
   | nil=>rfl
   | cons n l ih=>simp [wha,ih]
  exact this l)
 have hsh:w.shape? bb=some (T2,(vs++q).length):=by simp [World.shape?,hh]
 have hbyte:∀ n∈l,0<=n/\n<256:=fun n hn=>by
  have:=(List.all_eq_true.1 hby) n hn
  simpa [wtu] using this
 have hcell:∀(j:Nat) (u:UInt8),(l.map fun n=>UInt8.ofNat n.toNat)[j]? = some u->w.cell? ((⟨bb,0,none⟩:Addr).add j)=some (.int .u8 u.toNat):=fun j u hj=>by
  rw [zwh,Nat.zero_add];rw [List.getElem?_map] at hj;obtain ⟨n,hn,rfl⟩:=Option.map_eq_some_iff.1 hj;have h2:=hbyte n (List.mem_of_getElem? hn)
  have h3:((UInt8.ofNat n.toNat).toNat:Int)=n:=by
   rw [UInt8.toNat_ofNat']
   have:n.toNat % 2 ^ 8=n.toNat:=Nat.mod_eq_of_lt (by omega)
   rw [this];omega
  rw [h3];exact yz7 hh (by rw [hvs,List.getElem?_map,hn];rfl)
 have hrun:=Go.Lib.run_unsafeString_row (P:=P) w pt it o.type T2 hpt hce bb _ hsh (l.map fun n=>UInt8.ofNat n.toNat) (by intro e;simp at e;subst e;simp at hl0) (by simp [hvs]) (by simpa using h63) hcell;simp only [List.length_map] at hrun;have hres:(⟨(l.map fun n=>UInt8.ofNat n.toNat).toArray⟩:ByteArray)=strOfNums l:=rfl;rw [hres] at hrun;have hw1:=Went.kill hI.inv hbs
 have hfz:(w.freeze ⟨bb,0,none⟩ l.length).heap[bb]? = some (.cells (vs++q).toArray T2 (if (0:Nat)==0 then (0,0+l.length) else (min 0 0,max 0 (0+l.length)))):=by
  unfold World.freeze;rw [if_neg (by omega)];simp only [Array.getElem?_modify,if_true];rw [hh];rfl
 have hother:=fun k hk=>World.z1s w ⟨bb,0,none⟩ l.length k hk
 have hsz:(w.freeze ⟨bb,0,none⟩ l.length).heap.size=w.heap.size:=by
  unfold World.freeze;split<;>simp
 have hos:(w.freeze ⟨bb,0,none⟩ l.length).os=w.os/\(w.freeze ⟨bb,0,none⟩ l.length).tape=w.tape/\(w.freeze ⟨bb,0,none⟩ l.length).output=w.output:=by
  unfold World.freeze;split<;>exact ⟨rfl,rfl,rfl⟩
 have hcells:∀ c oo u,w.cell? ⟨c,oo,none⟩=some u->(w.freeze ⟨bb,0,none⟩ l.length).cell? ⟨c,oo,none⟩=some u:=fun c oo u hc=>by
  by_cases e2:c=bb
  . subst e2;unfold World.cell? at hc ⊢;dsimp only at hc ⊢;rw [hh] at hc;rw [hfz];exact hc
  . unfold World.cell? at hc ⊢;dsimp only at hc ⊢;rw [hother c e2];exact hc
 have hkeep:∀ M,zg8 M M w (w.freeze ⟨bb,0,none⟩ l.length):=fun M c oo u h1 h2=>⟨h1,hcells c oo u h2⟩
 have hgrow:Grow w (w.freeze ⟨bb,0,none⟩ l.length):=fun i arr T fz hi=>by
  by_cases e2:i=bb
  . subst e2;rw [hh] at hi;cases hi;exact ⟨_,_,_,hfz,Nat.le_refl _⟩
  . exact ⟨arr,T,fz,by rw [hother i e2];exact hi,Nat.le_refl _⟩
 have hnotown:∀ i z,(η'.set b .dead)[i]? = some z->z.own=true->real (ρ i)->bk (ρ i)≠bb:=fun i z hi hz hri e2=>by
  rcases wad hi with ⟨_,rfl⟩ | ⟨hn,hi⟩
  . cases hz
  . exact hn (hI.inv.inj i b z _ hi hbs hz rfl hri (by rw [e1];simp [real]) (by rw [hbk];exact e2))
 have hinv2:HInv Γ E.Mo ρ (η'.set b .dead) (w.freeze ⟨bb,0,none⟩ l.length):=
  ⟨fun c oo hm=>by rw [hsz];exact hw1.inv.bnd c oo hm,fun i z hi=>(hw1.inv.blk i z hi).mv ⟨fun _ h=>h,fun _ _=>rfl,hkeep _,hgrow⟩ (fun ho' hr'=>hother _ (hnotown i z hi ho' hr')),hw1.inv.inj,hw1.inv.sep,hw1.inv.glob.keep (hkeep _)⟩
 have hrb:real (ρ b):=by rw [e1];simp [real]
 refine ⟨_,w.freeze ⟨bb,0,none⟩ l.length,ρ,?_,⟨hw1.ok,hw1.rho,hw1.keep.trans (hkeep _),hgrow,hinv2,by rw [hsz];exact Nat.le_refl _,hos.1,hos.2.1,hos.2.2,fun k _ hk=>hother k (fun e2=>hk ⟨b,_,hbs,rfl,hrb,by rw [hbk];exact e2.symm⟩),fun k hk=>hw1.fresh k hk⟩,RdC.raw rfl⟩;rw [wfi ho,show (#[x,y]:Array Operand).map a.eval=#[a.eval x,a.eval y] from by simp,ev,ey'];simp only [builtin,Sem.run_bind,hrun];rfl
def yck (off:Nat) (tf:TI):SV->Option SV
 | .agg hs=>ybx tf (hs.drop off)
 | _=>none
theorem yxj {T:TypeId} {tf:TI} (hok:TIok P T tf) {η:List SB} {ρ:Nat->Value} {M:Nat->Nat->Prop} {w:World} {vs:List Value} {hs:List HC} (hr:HRL η ρ M w vs hs) {off:Nat} {x:SV} (h:ybx tf (hs.drop off)=some x) :
 ∃ v,(part T vs.toArray off).run P w=.ok v w/\SVR η ρ M w v x:=by
 obtain ⟨_,j,_,_,hj,_,hjs,_,_,_,_,_⟩:=hok.ex;have hr':=hr.drop off;unfold ybx at h;split at h
 . rename_i hm;split at h
   . rename_i hle
     cases h;refine ⟨.agg ((vs.drop off).take tf.size).toArray,?_,_,rfl,hr'.take _⟩;simp [part,hok.yhw hm,wd4 hj,hjs,List.extract_eq_take_drop]
   . cases h
 . rename_i hm;split at h
   . rename_i c cs' hcs
     cases h;rw [hcs] at hr'
     cases hv:vs.drop off with
     | nil=>rw [hv] at hr';exact hr'.elim
     | cons v0 vs'=>
      rw [hv] at hr'
      have hg:vs[off]? = some v0:=by
       have:=congrArg (fun l=>l[0]?) hv
       simpa using this
      exact ⟨v0,by simp [part,hok.yhw hm,hg],hr'.1⟩
   . cases h
 . cases h
theorem ypa {o:Oper} {J:List SV} {η:List SB} {T ft:TypeId} {x:Operand} {f d off sz:Nat} {fs:List (Nat×Nat×TypeId)} (ho:o.op=.field T x f) (hdst:o.dst=some d) {ti tf:TI} (hti:mkTI P T=some ti) (hs:ti.sh=.struct fs) (hf:fs[f]? = some (off,sz,ft)) (htf:mkTI P ft=some tf)
 {v:SV} (h:yck off tf (opdS Γ J x)=some v):y9y Γ P o J η (d::orr x) [] [(d,v)] []:=by
 refine y9y.pure hdst (fun E ρ J' η' a w hag hah hI=>?_);have hx:=hI.opd x;rw [hag.opd (fun t ht=>by simp [ht])] at hx;obtain ⟨dd,i,z,hd,hi',hz,_,_,_,_,_,hsh⟩:=(x03 hti).ex;obtain ⟨fl,rfl,rfl,_⟩:=ziu (hsh.symm.trans hs);rw [List.getElem?_map] at hf;obtain ⟨fd,hfd,hfe⟩:=Option.map_eq_some_iff.1 hf
 cases hfe
 have hfa:fl[f]? = some fd:=by simpa using hfd
 unfold yck at h;split at h
 . rename_i hs' e;rw [e] at hx;obtain ⟨vs,hv,hr⟩:=hx;obtain ⟨u,h1,h2⟩:=yxj (x03 htf) hr h;exact ⟨u,by simp [execOp,ho,Instr.field,asAgg,hv,yot hd,hfa,h1],h2⟩
 . cases h
theorem yft {o:Oper} {J:List SV} {η:List SB} {T e:TypeId} {x y:Operand} {d n es:Nat} {k:IntKind} {ix:Int} (ho:o.op=.index T x y) (hdst:o.dst=some d) {ti te:TI} (hti:mkTI P T=some ti) (hs:ti.sh=.array n e es) (hte:mkTI P e=some te)
 (hy:opdS Γ J y=.one (.dat (.raw (.int k ix)))) (h0:0<=ix/\ix<n) (hes:es=te.size) {v:SV} (h:yck (ix.toNat*es) te (opdS Γ J x)=some v):y9y Γ P o J η (d::(orr x++orr y)) [] [(d,v)] []:=by
 refine y9y.pure hdst (fun E ρ J' η' a w hag hah hI=>?_);have hx:=hI.opd x;have hyr:=hI.opd y;rw [hag.opd (fun t ht=>by simp [ht])] at hx hyr;rw [hy] at hyr;have ey:a.eval y=.int k ix:=RdC.y6j hyr;obtain ⟨dd,i,z,hd,hi',hz,_,_,_,_,_,hsh⟩:=(x03 hti).ex;obtain ⟨rfl,_⟩:=yz4 (hsh.symm.trans hs);have hok:=x03 hte;obtain ⟨_,j,_,_,hj,_,hjs,_,_,_,_,_⟩:=hok.ex;unfold yck at h;split at h
 . rename_i hs' ex;rw [ex] at hx;obtain ⟨vs,hv,hr⟩:=hx;obtain ⟨u,h1,h2⟩:=yxj hok hr h;exact ⟨u,by simp [execOp,ho,Instr.index,asIntOf,hv,ey,yot hd,h0.1,h0.2,wd4 hj,hjs,<-hes,h1],h2⟩
 . cases h
inductive HO where
 | eff (rd rh:List Nat) (eff:List (Nat×SV)) (heff:List (Nat×SB)) (new:Option SB)
 | callD (f:FuncId) (l:List AV) (rd rh bs:List Nat)
 | callF (p:(Nat->Nat->Prop)->World->Value->Prop) (l:List AV) (rd bs:List Nat)
 | callH (f:FuncId) (l:List SV) (rd:List Nat)
 | mk (f:FuncId) (caps:List AV) (rd bs:List Nat)
 | look (r:Option SV) (zero:SV) (ok:Bool) (rd rh:List Nat)
 | bad
def vbs (P:Program) (t:TypeId) (k:TI->HO):HO:=match mkTI P t with
 | some ti=>k ti
 | none=>.bad
def vO (o:Oper) (rd rh:List Nat):Option SV->HO
 | some x=>match o.dst with
  | some d=>.eff (d::rd) rh [(d,x)] [] none
  | none=>.bad
 | none=>.bad
def nO (o:Oper) (rd rh:List Nat) (x:SV) (heff:List (Nat×SB)) (b:SB):HO:=match o.dst with
 | some d=>.eff (d::rd) rh [(d,x)] heff (some b)
 | none=>.bad
def isNil {α:Type}:List α->Bool
 | []=>true
 | _=>false
def oldR (d nb:Nat):OR->HO
 | .eff rd tk [(d',av)]=>if isNil tk&&d'==d then match av2 nb av with
  | some (x,ob)=>.eff rd [] [(d,x)] [] ob
  | none=>.bad
  else .bad
 | _=>.bad
def oldO (P:Program) (J:List SV) (nb:Nat) (o:Oper):HO:=match o.dst with
 | some d=>if ybt o.op=true/\d<J.length then oldR d nb (opA0 P (J.map vw) o) else .bad
 | none=>.bad
def vps:SV->SV->Option SV
 | .one (.dat (.raw (.string s))),.one (.dat (.raw (.int _ i)))=>if 0<=i/\i<s.size then some (.one (.dat (.raw (.int .u8 (xw3 s i.toNat))))) else none
 | _,_=>none
def intS:SV->Option Int
 | .one (.dat (.raw (.int _ i)))=>some i
 | _=>none
inductive CK where
 | agg
 | ptr
 | other
def ckH:SV->SV->CK
 | .agg _,_=>.agg
 | .one (.ptr _ _),_=>.ptr
 | .one (.pel _ _ _ _),_=>.ptr
 | .elt _,_=>.ptr
 | .one (.dat (.raw (.pointer _))),_=>.ptr
 | _,_=>.other
def zp4:SV->Bool
 | .one (.sl _ _ _ _)=>true
 | _=>false
def yg9:SV->Bool
 | .one (.sl _ _ _ _)=>true
 | .one (.mp _)=>true
 | _=>false
def xs9 (_o:Oper) (ok:Bool) (rd rh:List Nat):Option (Option SV)->Option SV->HO
 | some r,some z=>.look r z ok rd rh
 | _,_=>.bad
def opP (P:Program) (Γ:List (Nat×List Cell)) (J:List SV) (η:List SB) (nb:Nat) (o:Oper):HO:=
 match o.op with
 | .move x=>vO o (orr x) [] (some (opdS Γ J x))
 | .assign x=>vO o (orr x) [] (some (opdS Γ J x))
 | .pick c x y=>match wug (opdS Γ J c) (opdS Γ J x) (opdS Γ J y) with
  | some v=>vO o (orr c++orr x++orr y) [] (some v)
  | none=>oldO P J nb o
 | .load T x=>vbs P T fun ti=>match seeH η (opdS Γ J x) with
  | some (rh,hs)=>vO o (orr x) rh (ybx ti hs)
  | none=>.bad
 | .store T x y=>match o.dst with
  | none=>vbs P T fun ti=>match wvr (opdS Γ J y) with
   | some us=>if us.length=ti.size then match w4j η ti.size (opdS Γ J x) us with
    | some (b,z)=>.eff (orr x++orr y) [b] [] [(b,z)] none
    | none=>.bad
    else .bad
   | none=>.bad
  | some _=>.bad
 | .fieldAddr S x f=>vbs P S fun ti=>match ti.sh with
  | .struct fs=>match fs[f]? with
   | some (off,_,_)=>vO o (orr x) [] (wcy (opdS Γ J x) off)
   | none=>.bad
  | _=>.bad
 | .indexAddr T x y=>vbs P T fun ti=>match yha ti.sh (opdS Γ J x) (opdS Γ J y) with
  | some v=>vO o (orr x++orr y) [] (some v)
  | none=>oldO P J nb o
 | .extract x n=>vO o (orr x) [] (yct (opdS Γ J x) n)
 | .nilCheck x=>if ptrH (opdS Γ J x)=true then vO o (orr x) [] (some (opdS Γ J x)) else .bad
 | .binOp op T x y _=>match ckH (opdS Γ J x) (opdS Γ J y) with
  | .agg=>vO o (orr x++orr y) [] (v2k P T op (opdS Γ J x) (opdS Γ J y))
  | .ptr=>match z7n P T with
   | some t=>match P.info? t with
    | some _=>vO o (orr x++orr y) [] (xhp op (opdS Γ J x) (opdS Γ J y))
    | none=>.bad
   | none=>.bad
  | .other=>oldO P J nb o
 | .unOp _ _ _=>oldO P J nb o
 | .makeSlice _ _ _=>oldO P J nb o
 | .slice T x lo hi mx=>match zp4 (opdS Γ J x) with
  | true=>match mx with
   | none=>vbs P T fun ti=>vO o (orr x++orrO lo++orrO hi) [] (vzq Γ J ti.sh (opdS Γ J x) lo hi)
   | some _=>.bad
  | false=>oldO P J nb o
 | .build T ps=>vbs P T fun ti=>if vqb ti=true/\ti.sh.agg=true then vO o (orrs ps.toList) [] ((v7m (placeOf ti.sh) (ti.zc.map .dat) (wlr Γ J ps.toList)).map .agg) else .bad
 | .field T x f=>vbs P T fun ti=>match ti.sh with
  | .struct fs=>match fs[f]? with
   | some (off,_,ft)=>vbs P ft fun tf=>vO o (orr x) [] (yck off tf (opdS Γ J x))
   | none=>.bad
  | _=>.bad
 | .index T x y=>vbs P T fun ti=>match ti.sh with
  | .array n e es=>vbs P e fun te=>match intS (opdS Γ J y) with
   | some ix=>if (0<=ix/\ix<n)/\es=te.size then vO o (orr x++orr y) [] (yck (ix.toNat*es) te (opdS Γ J x)) else .bad
   | none=>.bad
  | .string=>vO o (orr x++orr y) [] (vps (opdS Γ J x) (opdS Γ J y))
  | _=>.bad
 | .lookup T x y ok=>vbs P T fun ti=>match ti.sh with
  | .map kt et=>vbs P kt fun tk=>match zsa η (opdS Γ J x),keyX (opdS Γ J y) with
   | some (b,es),some k=>if x81 P kt tk.sh k=true then xs9 o ok (zvv o++(orr x++orr y)) [b] (xog es k) (vnx P et) else .bad
   | _,_=>.bad
  | _=>.bad
 | .mapUpdate T x y z=>match o.dst with
  | none=>vbs P T fun ti=>match ti.sh with
   | .map kt _=>vbs P kt fun tk=>match zsa η (opdS Γ J x),keyX (opdS Γ J y) with
    | some (b,es),some k=>if x81 P kt tk.sh k=true/\yp1 (opdS Γ J z)=true then match updM es k (opdS Γ J z) with
     | some es'=>.eff (orr x++orr y++orr z) [b] [] [(b,.map es')] none
     | none=>.bad
     else .bad
    | _,_=>.bad
   | _=>.bad
  | some _=>.bad
 | _=>.bad
def xve (P:Program) (Γ:List (Nat×List Cell)) (J:List SV) (η:List SB) (nb:Nat) (o:Oper) (S D:TypeId) (x:Operand):HO:=match P.underlying S,P.underlying D with
 | some (.slice e),some .string=>match P.underlying e with
  | some (.int .u8)=>match xeh η (opdS Γ J x) with
   | some (l,bs)=>match o.dst with
    | some d=>.eff (d::orr x) bs [(d,.one (.dat (.raw (.string (strOfNums l)))))] (frzE η bs) none
    | none=>.bad
   | none=>.bad
  | _=>.bad
 | some (.pointer t),some .unsafePointer=>match P.info? t,vyi η (opdS Γ J x) with
  | some j,some (b,off,_,_)=>if j.size != 0 then vO o (orr x) [b] (some (.one (.ptr b off))) else .bad
  | _,_=>.bad
 | some .unsafePointer,some (.pointer u)=>match P.info? u,vyi η (opdS Γ J x) with
  | some _,some (b,off,T,n)=>if liesAt P P.depth T (n / P.cellsOf T) off u 1 then vO o (orr x) [b] (some (.one (.ptr b off))) else .bad
  | _,_=>.bad
 | _,_=>oldO P J nb o
def xev:Bool->Bool->Bool
 | false,false=>true
 | _,_=>false
def xpm (own:Bool) (η:List SB) (l:List SV):Option (List AV×List Nat):=match own with
 | true=>none
 | false=>vc1 η l
theorem zpu {own:Bool} {η:List SB} {l:List SV} {r:List AV×List Nat} (h:xpm own η l=some r):vc1 η l=some r:=by
 cases own with
 | true=>cases h
 | false=>exact h
def wm2 (P:Program) (Γ:List (Nat×List Cell)) (own:Bool) (J:List SV) (η:List SB) (o:Oper) (x:Operand) (xs:List Operand):HO:=match x with
 | .func f=>if yix P f=true then match xs with
  | [y]=>vO o (orr y) [] (some (opdS Γ J y))
  | _=>.bad
  else callG f [] [] []
 | .tmp t=>match gtS J t with
  | .one (.dat (.fnp p))=>match vc1 η (vx0 Γ J xs) with
   | some (l,bs)=>.callF p l (zvv o++t::orrL xs) bs
   | none=>.bad
  | _=>match zri Γ J η (.tmp t) with
   | some (f,caps,rd,rh)=>callG f caps rd rh
   | none=>.bad
 | _=>.bad
where callG (f:FuncId) (caps:List SV) (rd rh:List Nat):HO:=match xpm own η (vx0 Γ J xs++caps) with
 | some (l,bs)=>.callD f l (zvv o++rd++orrL xs) rh bs
 | none=>match ydk (vx0 Γ J xs) with
  | true=>.callH f (vx0 Γ J xs++caps) (zvv o++rd++orrL xs)
  | false=>.bad
def opH (P:Program) (Γ:List (Nat×List Cell)) (lit fn:Bool) (J:List SV) (η:List SB) (nb:Nat) (o:Oper):HO:=
 match o.op with
 | .alloc T=>vbs P T fun ti=>nO o [] [] (.one (.ptr nb 0)) [] (.box (ti.zc.map .dat) (some T))
 | .box T x=>match wvr (opdS Γ J x) with
  | some hs=>nO o (orr x) [] (.one (.ptr nb 0)) [] (.box hs (some T))
  | none=>.bad
 | .buildSlice T n ps=>match n with
  | 0=>oldO P J nb o
  | n + 1 => vbs P T fun ti => match ti.sh with
   | .slice e es _ ik=>vbs P e fun te=>match litH Γ J η es ik te.zc (n+1) ps.toList with
    | some (c,bs)=>match lit with
     | true=>match o.dst with
      | some d=>.eff (d::orrs ps.toList) bs [(d,.one (.dat c))] (frzE η bs) none
      | none=>.bad
     | false=>nO o (orrs ps.toList) bs (.one (.sl nb es 0 (n+1))) (frzE η bs) (.arr c 0 (some e))
    | none=>.bad
   | _=>.bad
 | .makeMap _ none=>nO o [] [] (.one (.mp nb)) [] (.map [])
 | .makeFunc (.func f) fs cs=>match fs.toList with
  | []=>match fn with
   | true=>match vc1 η (vx0 Γ J cs.toList),o.dst with
    | some (l,bs),some d=>.mk f l (d::orrL cs.toList) bs
    | _,_=>.bad
   | false=>match ydk (vx0 Γ J cs.toList) with
    | true=>nO o (orrL cs.toList) [] (.one (.fnr nb)) [] (.clo f (vx0 Γ J cs.toList))
    | false=>.bad
  | _=>.bad
 | .convert S D x=>xve P Γ J η nb o S D x
 | .call c => match c.callee with
  | .value x=>wm2 P Γ (xev lit fn) J η o x c.args.toList
  | .builtin b=>match b with
   | .len=>match c.args.toList,c.argTypes.toList with
    | [x],[T]=>match yg9 (opdS Γ J x) with
     | true=>vbs P T fun ti=>match lenH η ti.sh (opdS Γ J x) with
      | some (rh,n)=>vO o (orr x) rh (some (.one (.dat (.raw (.int .i64 (n:Int))))))
      | none=>.bad
     | false=>oldO P J nb o
    | _,_=>.bad
   | .append=>match c.args.toList,c.argTypes.toList with
    | [x,y],[T,U]=>if T=U then vbs P T fun ti=>match ti.sh with
     | .slice e es eb ik=>appO (opdS Γ J x) (opdS Γ J y) (orr x++orr y) e es eb ik
     | _=>.bad
     else .bad
    | _,_=>.bad
   | .unsafeSliceData=>match c.args.toList with
    | [x]=>vO o (orr x) [] (usdH (opdS Γ J x))
    | _=>.bad
   | .unsafeString=>match c.args.toList,c.argTypes.toList,o.dst with
    | [x,y],[pt,_],some d=>match usH P η pt (opdS Γ J x) (opdS Γ J y) with
     | some (b,l)=>.eff (d::(orr x++orr y)) [b] [(d,.one (.dat (.raw (.string (strOfNums l)))))] [(b,.dead)] none
     | none=>.bad
    | _,_,_=>.bad
   | .max=>oldO P J nb o
   | .min=>oldO P J nb o
   | _=>.bad
  | _=>.bad
 | _=>opP P Γ J η nb o
where appO (x y:SV) (rd:List Nat) (e:TypeId) (es eb:Nat) (ik:Option IntKind):HO:=match dstH η e es ik x,srcH η y with
 | some (ob,c,k,T),some (cy,bs)=>match xl4 es eb ik c cy with
  | some c'=>if bs.all (fun i=>ob != some i) then nO o rd (ob.toList++bs) (.one (.sl nb es 0 c'.cnt)) (frzE η bs++xw4 ob) (.arr c' k (appT T e)) else .bad
  | none=>.bad
 | _,_=>.bad
theorem wdb {η l:List SB} {b:Nat} (h:b<η.length):gB (η++l) b=gB η b:=by
 unfold gB;rw [List.getElem?_append_left h]
theorem z5a {η:List SB} {b:Nat} (h:wm5 (gB η b)=true):b<η.length:=by
 rcases Nat.lt_or_ge b η.length with h1 | h1
 . exact h1
 . unfold gB at h;rw [List.getElem?_eq_none h1] at h;cases h
theorem xi9:∀(heff:List (Nat×SB)) (η:List SB) (x:SB),(∀ p∈heff,p.1<η.length)->appL (heff++[(η.length,x)]) (η++[.fresh])=appL heff η++[x]
 | [],η,x,_=>by simp [appL]
 | (i,y)::r,η,x,h=>by
  have hi:i<η.length:=h (i,y) (by simp);simp only [List.cons_append,appL];rw [List.set_append_left _ _ hi]
  have:=xi9 r (η.set i y) x (fun p hp=>by rw [List.length_set];exact h p (by simp [hp]))
  rw [List.length_set] at this;exact this
theorem xay (η:List SB):xe4 (η++[.fresh]) η.length=true:=by simp [xe4]
theorem v61.new {o:Oper} {J:List SV} {η:List SB} {rd rh:List Nat} {eff:List (Nat×SV)} {heff:List (Nat×SB)} {x:SB} (h:y9y Γ P o J (η++[.fresh]) rd rh eff (heff++[(η.length,x)])) (hl:∀ p∈heff,p.1<η.length) :
 v61 Γ P o J η (appL eff J) (appL heff η++[x]):=by
 have:=h.px
 rw [xi9 heff η x hl] at this;exact this
def Sound (Γ:List (Nat×List Cell)) (P:Program) (o:Oper) (J:List SV) (η:List SB) (nb:Nat) (rd rh:List Nat) (eff:List (Nat×SV)) (heff:List (Nat×SB)):Option SB->Prop
 | none=>y9y Γ P o J η rd rh eff heff
 | some x=>(xe4 η nb=true->y9y Γ P o J η rd (nb::rh) eff (heff++[(nb,x)]))/\(nb=η.length->v61 Γ P o J η (appL eff J) (appL heff η++[x]))
def vjz (Γ:List (Nat×List Cell)) (P:Program) (o:Oper) (J:List SV) (η:List SB) (nb:Nat):HO->Prop
 | .eff rd rh eff heff new=>Sound Γ P o J η nb rd rh eff heff new
 | _=>True
theorem yjo {o:Oper} {J:List SV} {η:List SB} {nb:Nat} {t:TypeId} {k:TI->HO} (h:∀ ti,mkTI P t=some ti->vjz Γ P o J η nb (k ti)):vjz Γ P o J η nb (vbs P t k):=by
 unfold vbs
 split
 . rename_i ti hti;exact h ti hti
 . trivial
theorem zfd {o:Oper} {J:List SV} {η:List SB} {nb:Nat} {rd rh:List Nat} {x:Option SV} (h:∀ v d,x=some v->o.dst=some d->y9y Γ P o J η (d::rd) rh [(d,v)] []):vjz Γ P o J η nb (vO o rd rh x):=by
 unfold vO
 split
 . split
   . rename_i d hd;exact h _ d rfl hd
   . trivial
 . trivial
theorem zcj {o:Oper} {J:List SV} {η:List SB} {nb:Nat} {rd rh:List Nat} {x:SV} {heff:List (Nat×SB)} {b:SB} (h:∀ d η',o.dst=some d->(η'=η\/η'=η++[.fresh])->xe4 η' nb=true->y9y Γ P o J η' (d::rd) (nb::rh) [(d,x)] (heff++[(nb,b)]))
 (hl:∀ p∈heff,p.1<η.length):vjz Γ P o J η nb (nO o rd rh x heff b):=by
 unfold nO
 split
 . rename_i d hd;refine ⟨fun hr=>h d η hd (.inl rfl) hr,fun e=>?_⟩;subst e;exact v61.new (h d (η++[.fresh]) hd (.inr rfl) (xay η)) hl
 . trivial
theorem xsz {α:Type} {l:List α} (h:isNil l=true):l=[]:=by cases l<;>first | rfl | cases h
theorem vlr {o:Oper} {J:List SV} {η:List SB} {nb:Nat}:vjz Γ P o J η nb (oldO P J nb o):=by
 unfold oldO
 split
 case h_2=>trivial
 rename_i d hd
 split
 case isFalse=>trivial
 rename_i hc;unfold oldR
 split
 case h_2=>trivial
 rename_i rd tk d' av heq
 split
 case isFalse=>trivial
 rename_i hcc;simp only [Bool.and_eq_true,beq_iff_eq] at hcc;obtain ⟨htk,rfl⟩:=hcc;have htk:=xsz htk;subst htk
 split
 case h_2=>trivial
 rename_i x ob h2;have hst:=(wyt heq).1
 cases ob with
 | none=>exact xbc hc.1 hd hst hc.2 h2 rfl
 | some b=>
  refine ⟨fun hr=>xbc hc.1 hd hst hc.2 h2 hr,fun e=>?_⟩;subst e
  have:=xbc (Γ:=Γ) (η:=η++[.fresh]) (nb:=η.length) hc.1 hd hst hc.2 h2 (show xj5 (η++[.fresh]) η.length (some b)=true from xay η)
  exact v61.new (heff:=[]) this (by simp)
theorem vwq {o:Oper} {J:List SV} {η:List SB} {T:TypeId} {x y:Operand} {d:Nat} (ho:o.op=.index T x y) (hdst:o.dst=some d) {ti:TI} (hti:mkTI P T=some ti) (hs:ti.sh=.string) {v:SV} (h:vps (opdS Γ J x) (opdS Γ J y)=some v) :
 y9y Γ P o J η (d::(orr x++orr y)) [] [(d,v)] []:=by
 refine y9y.pure hdst (fun E ρ J' η' a w hag hah hI=>?_);have hx:=hI.opd x;have hy:=hI.opd y;rw [hag.opd (fun t ht=>by simp [ht])] at hx hy;obtain ⟨dd,i,z,hd,_,_,_,_,_,_,_,hsh⟩:=(x03 hti).ex;have hT:=vs5 (hsh.symm.trans hs);subst hT;unfold vps at h;split at h
 . rename_i s k ix ex ey;split at h
   . rename_i hi
     cases h;rw [ex] at hx;rw [ey] at hy;have ex:a.eval x=.string s:=RdC.y6j hx;have ey:a.eval y=.int k ix:=RdC.y6j hy;refine ⟨_,?_,RdC.raw rfl⟩
     have hsz:ix.toNat<s.size:=by omega
     have hg:s[ix.toNat]? = some s[ix.toNat]:=by simp [hsz]
     have hb:xw3 s ix.toNat=(s[ix.toNat]).toNat:=by
      unfold xw3
      have:s.data[ix.toNat]? = some s[ix.toNat]:=by
       rw [Array.getElem?_eq_getElem (by simpa using hsz)];rfl
      rw [this];rfl
     rw [hb];simp [execOp,ho,Instr.index,asIntOf,ex,ey,yot hd,hi.1,hg]
   . cases h
 . cases h
theorem wvk {x:SV} {i:Int} (h:intS x=some i):∃ k,x=.one (.dat (.raw (.int k i))):=by
 unfold intS at h;split at h
 . cases h;exact ⟨_,rfl⟩
 . cases h
theorem yar {o:Oper} {J:List SV} {η:List SB} {nb:Nat}:vjz Γ P o J η nb (opP P Γ J η nb o):=by
 unfold opP
 split
 . rename_i x ho;exact zfd (fun v d e hd=>by cases e;exact yu8 (.inl ho) hd)
 . rename_i x ho;exact zfd (fun v d e hd=>by cases e;exact yu8 (.inr ho) hd)
 . rename_i c x y ho
   split
   . rename_i v hv;exact zfd (fun v' d e hd=>by cases e;exact xjb ho hd hv)
   . exact vlr
 . rename_i T x ho;refine yjo (fun ti hti=>?_)
   split
   . rename_i rh hs hsee;exact zfd (fun v d e hd=>x9f ho hd hti hsee e)
   . trivial
 . rename_i T x y ho
   split
   . rename_i hd;refine yjo (fun ti hti=>?_)
     split
     . rename_i us hu
       split
       . rename_i hl
         split
         . rename_i b z hst;exact zqw ho hd hti hu hl hst
         . trivial
       . trivial
     . trivial
   . trivial
 . rename_i S x f ho;refine yjo (fun ti hti=>?_)
   split
   . rename_i fs hs
     split
     . rename_i off sz ft hf;exact zfd (fun v d e hd=>yfq ho hd hti hs hf e)
     . trivial
   . trivial
 . rename_i T x y ho;refine yjo (fun ti hti=>?_)
   split
   . rename_i v hv;exact zfd (fun v' d e hd=>by cases e;exact x96 ho hd hti hv)
   . exact vlr
 . rename_i x n ho;exact zfd (fun v d e hd=>z3v ho hd e)
 . rename_i x ho
   split
   . rename_i hp;exact zfd (fun v d e hd=>by cases e;exact yhp ho hd hp)
   . trivial
 . rename_i op T x y U ho
   split
   . exact zfd (fun v d e hd=>whg ho hd e)
   . split
     . rename_i t ht
       split
       . rename_i j hj;exact zfd (fun v d e hd=>vxn ho hd (y6n ht) hj e)
       . trivial
     . trivial
   . exact vlr
 . exact vlr
 . exact vlr
 . rename_i T x lo hi mx ho
   split
   . split
     . exact yjo (fun ti hti=>zfd (fun v d e hd=>zjy ho hd hti e))
     . trivial
   . exact vlr
 . rename_i T ps ho;refine yjo (fun ti hti=>?_)
   split
   . rename_i hc;refine zfd (fun v d e hd=>?_);obtain ⟨hs,hf,rfl⟩:=Option.map_eq_some_iff.1 e;exact xl9 (parts:=ps.toList) (by rw [ho]) hd hti hc.1 hc.2 hf
   . trivial
 . rename_i T x f ho;refine yjo (fun ti hti=>?_)
   split
   . rename_i fs hs
     split
     . rename_i off sz ft hf;exact yjo (fun tf htf=>zfd (fun v d e hd=>ypa ho hd hti hs hf htf e))
     . trivial
   . trivial
 . rename_i T x y ho;refine yjo (fun ti hti=>?_)
   split
   . rename_i n e es hs;refine yjo (fun te hte=>?_)
     split
     . rename_i ix hix
       split
       . rename_i hc;obtain ⟨k,hk⟩:=wvk hix;exact zfd (fun v d e hd=>yft ho hd hti hs hte hk hc.1 hc.2 e)
       . trivial
     . trivial
   . rename_i hs;exact zfd (fun v d e hd=>vwq ho hd hti hs e)
   . trivial
 . rename_i T x y ok ho;refine yjo (fun ti hti=>?_)
   split
   . refine yjo (fun tk htk=>?_)
     split
     . split
       . unfold xs9
         split<;>trivial
       . trivial
     . trivial
   . trivial
 . rename_i T x y z ho
   split
   . rename_i hd;refine yjo (fun ti hti=>?_)
     split
     . rename_i kt et hs;refine yjo (fun tk htk=>?_)
       split
       . rename_i b es k hm hk
         split
         . rename_i hc
           split
           . rename_i es' hu;exact z3w ho hd hti hs htk hm hk hc.1 hc.2 hu
           . trivial
         . trivial
       . trivial
     . trivial
   . trivial
 . trivial
theorem zvw {η:List SB} {bs:List Nat} (h:∀ b∈bs,wm5 (gB η b)=true):∀ p∈frzE η bs,p.1<η.length:=fun p hp=>by
 obtain ⟨b,hb,rfl⟩:=List.mem_map.1 hp;exact z5a (h b hb)
theorem yx5 {J : List SV} {η : List SB} {es n : Nat} {ik : Option IntKind} {zc : List Cell} {parts : List (Nat × Operand)} {c : Cell} {bs : List Nat} (h : litH Γ J η es ik zc n parts = some (c, bs)) : ∀ b ∈ bs, wm5 (gB η b) = true := by
 unfold litH at h;split at h
 . split at h
   . split at h
     . rename_i cs bs' hd;obtain ⟨c',_,he⟩:=Option.map_eq_some_iff.1 h
       cases he;exact xi1 hd
     . cases h
   . cases h
 . cases h
theorem x84 {x:Operand} {xs:Array Operand} (h:xs.toList=[x]):xs=#[x]:=by rw [<-Array.toArray_toList (xs:=xs),h]
theorem y0e {x y:Operand} {xs:Array Operand} (h:xs.toList=[x,y]):xs=#[x,y]:=by rw [<-Array.toArray_toList (xs:=xs),h]
theorem y4g {x:TypeId} {xs:Array TypeId} (h:xs.toList=[x]):xs=#[x]:=by rw [<-Array.toArray_toList (xs:=xs),h]
theorem zyn {x y:TypeId} {xs:Array TypeId} (h:xs.toList=[x,y]):xs=#[x,y]:=by rw [<-Array.toArray_toList (xs:=xs),h]
theorem y4w {η:List SB} {e:TypeId} {es:Nat} {ik:Option IntKind} {x:SV} {b:Nat} {c:Cell} {k:Nat} {T:Option TypeId} (h:dstH η e es ik x=some (some b,c,k,T)):wm5 (gB η b)=true:=by
 unfold dstH at h;split at h
 . split at h
   . rename_i hb;split at h
     . cases h;rw [hb];rfl
     . cases h
   . cases h
 . split at h<;>cases h
 . cases h
theorem w6g {η η' : List SB} {e : TypeId} {es : Nat} {ik : Option IntKind} {x : SV} {ob : Option Nat} {c : Cell} {k : Nat} {T : Option TypeId} (h : dstH η e es ik x = some (ob, c, k, T)) (ha : ∀ b, ob = some b → gB η' b = gB η b) : dstH η' e es ik x = some (ob, c, k, T) := by
 unfold dstH at h ⊢;split at h
 . rename_i b es' n
   have e1:gB η' b=gB η b:=by
    split at h
    . split at h
      . cases h;exact ha b rfl
      . cases h
    . cases h
   simp only [e1];exact h
 . exact h
 . cases h
theorem y0v {η η':List SB} {x:SV} {c:Cell} {bs:List Nat} (h:srcH η x=some (c,bs)) (ha:∀ b∈bs,gB η' b=gB η b):srcH η' x=some (c,bs):=by
 unfold srcH at h ⊢;split at h
 . exact vdw h ha
 . cases h
theorem xmn {η:List SB} {x:SV} {c:Cell} {bs:List Nat} (h:srcH η x=some (c,bs)):∀ b∈bs,wm5 (gB η b)=true:=by
 unfold srcH at h;split at h
 . exact vqh h
 . cases h
theorem x9i {η η':List SB} (he:η'=η\/η'=η++[.fresh]) {b:Nat} (hb:wm5 (gB η b)=true):gB η' b=gB η b:=by
 rcases he with rfl | rfl
 . rfl
 . exact wdb (z5a hb)
theorem zr8 {lit fn:Bool} {o:Oper} {J:List SV} {η:List SB} {nb:Nat}:vjz Γ P o J η nb (opH P Γ lit fn J η nb o):=by
 unfold opH
 split
 . rename_i T ho;exact yjo (fun ti hti=>zcj (fun d η' hd _ hr=>yb4 ho hd hti hr) (by simp))
 . rename_i T x ho
   split
   . rename_i hs hcs;exact zcj (fun d η' hd _ hr=>x3f ho hd hcs hr) (by simp)
   . trivial
 . rename_i T n ps ho
   split
   . exact vlr
   . rename_i n;refine yjo (fun ti hti=>?_)
     split
     . rename_i e es eb ik hsh;refine yjo (fun te hte=>?_)
       split
       . rename_i c bs hl;have harr:=yx5 hl
         split
         . split
           . rename_i d hd;exact vj3 (parts:=ps.toList) (by rw [ho]) hd hti hsh hte hl
           . trivial
         . refine zcj (fun d η' hd he hr=>?_) (zvw harr)
           have hg:∀ b∈bs,gB η' b=gB η b:=fun b hb=>x9i he (harr b hb)
           have:=vwz (parts:=ps.toList) (nb:=nb) (by rw [ho]) hd hti hsh hte (x1i (J':=J) rfl hl hg) hr
           rw [yvv hg] at this;exact this
       . trivial
     . trivial
 . rename_i T ho;exact zcj (fun d η' hd _ hr=>z3x ho hd hr) (by simp)
 . rename_i f fs cs ho
   split
   . rename_i hfs
     have hfs':fs=#[]:=by rw [<-Array.toArray_toList (xs:=fs),hfs]
     subst hfs'
     split
     . split<;>trivial
     . split
       . rename_i hnt;exact zcj (fun d η' hd _ hr=>wrj (xs:=cs.toList) (by rw [ho]) hd hnt hr) (by simp)
       . trivial
   . trivial
 . rename_i S D x ho;unfold xve
   split
   . rename_i e hS hD
     split
     . rename_i he
       split
       . rename_i l bs hb
         split
         . rename_i d hd;exact x1g ho hd hS he hD hb
         . trivial
       . trivial
     . trivial
   . rename_i t hS hD
     split
     . rename_i j b off T n hj hb
       split
       . rename_i hsz;exact zfd (fun v d e hd=>by cases e;exact zgd ho hd hS hD hj (by simpa using hsz) hb)
       . trivial
     . trivial
   . rename_i u hS hD
     split
     . rename_i j b off T n hj hb
       split
       . rename_i hl;exact zfd (fun v d e hd=>by cases e;exact vxs ho hd hS hD hj hl hb)
       . trivial
     . trivial
   . exact vlr
 . rename_i c ho;obtain ⟨ce,args,ats⟩:=c;dsimp only
   split
   . rename_i x;unfold wm2
     have hG:∀ f caps rd rh,vjz Γ P o J η nb (wm2.callG Γ (xev lit fn) J η o args.toList f caps rd rh):=fun f caps rd rh=>by
      unfold wm2.callG
      split
      . trivial
      . split<;>trivial
     split
     . rename_i f
       split
       . rename_i hne
         split
         . rename_i y hy
           have:=x84 hy
           subst this;exact zfd (fun v d e hd=>by cases e;exact yia ho hd hne)
         . trivial
       . exact hG _ _ _ _
     . split
       . split<;>trivial
       . split
         . exact hG _ _ _ _
         . trivial
     . trivial
   . rename_i b
     split
     . split
       . rename_i x T hx hT;have h1:=x84 hx;have h2:=y4g hT;subst h1;subst h2
         split
         . refine yjo (fun ti hti=>?_)
           split
           . rename_i rh n hl;exact zfd (fun v d e hd=>by cases e;exact w9u ho hd hti hl)
           . trivial
         . exact vlr
       . trivial
     . split
       . rename_i x y T U hx hT;have h1:=y0e hx;have h2:=zyn hT;subst h1;subst h2
         split
         . rename_i hTU;subst hTU;refine yjo (fun ti hti=>?_)
           split
           . rename_i e es eb ik hsh;unfold opH.appO
             split
             . rename_i ob cc k TT cy bs hD hS
               split
               . rename_i c' hj
                 split
                 . rename_i hob;have harr:=xmn hS
                   have harrD:∀ b,ob=some b->wm5 (gB η b)=true:=fun b e1=>by subst e1;exact y4w hD
                   refine zcj (fun d η' hd he hr=>?_) (fun p hp=>?_)
                   . have hg:∀ b∈bs,gB η' b=gB η b:=fun b hb=>x9i he (harr b hb)
                     have hA:zwv η' nb e es eb ik (opdS Γ J x) (opdS Γ J y)=some (ob.toList++bs,frzE η' bs++(xw4 ob++[(nb,.arr c' k (appT TT e))]),.one (.sl nb es 0 c'.cnt)):=by
                      unfold zwv;rw [w6g hD (fun b e1=>x9i he (harrD b e1)),y0v hS hg];simp only [hj,hob,if_true]
                     have:=yny ho hd hti hsh hA hr
                     rw [yvv hg,<-List.append_assoc] at this;exact this
                   . rcases List.mem_append.1 hp with hp | hp
                     . exact zvw harr p hp
                     . cases ob with
                       | none=>cases hp
                       | some b=>
                        simp only [xw4,List.mem_singleton] at hp;subst hp;exact z5a (harrD b rfl)
                 . trivial
               . trivial
             . trivial
           . trivial
         . trivial
       . trivial
     . split
       . rename_i x hx;have h1:=x84 hx;subst h1;exact zfd (fun v d e hd=>wvg ho hd e)
       . trivial
     . split
       . rename_i x y pt it d hx hT hd;have h1:=y0e hx;have h2:=zyn hT;subst h1;subst h2
         split
         . rename_i b l hu;exact s_us ho hd hu
         . trivial
       . trivial
     . exact vlr
     . exact vlr
     . trivial
   . trivial
 . exact yar
end Go.Hp
