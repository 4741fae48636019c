/- The proof, part Y12: Hl, Hm, Hn. -/
import Derived.Test.YtocdljjhobaabaaGreatDoorY11
import Derived.Lib.Builder
import Derived.LaidEql
import Derived.Laws.Externs
import Derived.KernelRfl
namespace Go.Hp
open Go Go.RowKit Go.Slot
variable {P:Program} {Γ:List (Nat×List Cell)}
def zzr:SV->Option Bool
 | .one (.dat (.raw (.pointer none)))=>some true
 | .one (.ptr _ _) | .one (.pel _ _ _ _) | .elt _=>some false
 | _=>none
def xby:SV->SV->Bool
 | .one (.ptr b f),.one (.ptr b' f')=>b==b'&&f==f'
 | _,_=>false
def yml (op:BinOp) (x y:SV):Option SV:=match zzr y with
 | some true=>match zzr x with
  | some r=>(eqOf op r).map fun b=>.one (.dat (.raw (.bool b)))
  | none=>none
 | _=>match xby x y with
  | true=>(eqOf op true).map fun b=>.one (.dat (.raw (.bool b)))
  | false=>none
theorem vca {T t:TypeId} (hT:P.underlying T=some (.pointer t)) (v:Value) (r:Bool) (hv:(r=true/\v=.pointer none)\/(r=false/\∃ a,v=.pointer (some a))) (d:Nat) (w:World):(Op.equalIn (d+1) T v (.pointer none)).run P w=.ok r w:=by
 rcases hv with ⟨rfl,rfl⟩ | ⟨rfl,a,rfl⟩<;>simp [Op.equalIn,z6x hT]
theorem xxw {T t:TypeId} {j:TypeInfo} (hT:P.underlying T=some (.pointer t)) (ht:P.info? t=some j) (a:Addr) (d:Nat) (w:World):(Op.equalIn (d+1) T (.pointer (some a)) (.pointer (some a))).run P w=.ok true w:=by
 simp [Op.equalIn,z6x hT,sizeOf,typeInfo,ht,run_sameAddr_same]
theorem w5a {op:BinOp} {T:TypeId} {x y:Option Addr} {r b:Bool} (hb:eqOf op r=some b) (h:∀ d w,(Op.equalIn (d+1) T (.pointer x) (.pointer y)).run P w=.ok r w) (w:World):(binOp op T (.pointer x) (.pointer y)).run P w=.ok (.bool b) w:=by
 unfold eqOf at hb
 split at hb<;>first | (cases hb;done) | skip
 . cases hb;simp only [binOp];simp [Op.equal,Op.maxDepth,h 9999]
 . cases hb;simp only [binOp];simp [Op.equal,Op.maxDepth,h 9999]
theorem z5k {o:Oper} {σ:List SV} {η:List SB} {op:BinOp} {T U t:TypeId} {j:TypeInfo} {x y:Operand} {d:Nat} (ho:o.op=.binOp op T x y U) (hdst:o.dst=some d) (hT:P.underlying T=some (.pointer t)) (ht:P.info? t=some j) {v:SV}
 (h:yml op (opdS Γ σ x) (opdS Γ σ y)=some v):xlu Γ P o σ η (d::(orr x++orr y)) [] [(d,v)] []:=by
 refine xlu.pure hdst (fun E ρ σ' η' a w hag hah hI=>?_);have hx:=hI.opd x;have hy:=hI.opd y;rw [hag.opd (fun t ht=>by simp [ht])] at hx hy
 have nilv:∀{v:Value} {s:SV} {r:Bool},SVR η' ρ (MX E.Mo ρ η') w v s->zzr s=some r->(r=true/\v=.pointer none)\/(r=false/\∃ a,v=.pointer (some a)):=fun {v s r} hv hr=>by
  unfold zzr at hr
  split at hr<;>first | (cases hr;done) | (cases hr;skip)
  . exact .inl ⟨rfl,RdC.xcn hv⟩
  . exact .inr ⟨rfl,_,hv.2⟩
  . exact .inr ⟨rfl,_,hv.2⟩
  . obtain ⟨b,oo,vs,e,_⟩:=hv;exact .inr ⟨rfl,_,e⟩
 have hexec:∀(ax ay:Option Addr) (b:Bool),a.eval x=.pointer ax->a.eval y=.pointer ay->(binOp op T (.pointer ax) (.pointer ay)).run P w=.ok (.bool b) w->(execOp a.eval o).run P w=.ok (.value (.bool b)) w:=fun ax ay b e1 e2 hr=>by
  have hg:∀ ox oy,(eqGuard op T ox oy (.pointer ax) (.pointer ay)).run P w=.ok () w:=fun ox oy=>by cases op<;>simp [eqGuard]
  unfold execOp;rw [ho];simp only [e1,e2,Sem.run_bind,hg,Result.andThen_ok,hr,Sem.run_pure]
 unfold yml at h;split at h
 . rename_i hny;split at h
   . rename_i r hnx;obtain ⟨b,hb,rfl⟩:=Option.map_eq_some_iff.1 h
     rcases nilv hy hny with ⟨_,e2⟩ | ⟨e,_⟩
     . have hv:=nilv hx hnx
       have hv':∃ ax,a.eval x=.pointer ax:=by rcases hv with ⟨_,e⟩ | ⟨_,ad,e⟩<;>exact ⟨_,e⟩
       obtain ⟨ax,ex⟩:=hv';refine ⟨.bool b,hexec ax none b ex e2 (w5a hb (fun d w=>vca hT _ r (by rw [<-ex];exact hv) d w) w),RdC.raw rfl⟩
     . cases e
   . cases h
 . split at h
   . rename_i hs;obtain ⟨b,hb,rfl⟩:=Option.map_eq_some_iff.1 h
     have hsv:∃ bb f,opdS Γ σ x=.one (.ptr bb f)/\opdS Γ σ y=.one (.ptr bb f):=by
      generalize opdS Γ σ x=sx at hs;generalize opdS Γ σ y=sy at hs;unfold xby at hs;split at hs
      . simp only [Bool.and_eq_true,beq_iff_eq] at hs;obtain ⟨rfl,rfl⟩:=hs;exact ⟨_,_,rfl,rfl⟩
      . cases hs
     obtain ⟨bb,f,e1,e2⟩:=hsv;rw [e1] at hx;rw [e2] at hy;exact ⟨.bool b,hexec _ _ b hx.2 hy.2 (w5a hb (fun d w=>xxw hT ht _ d w) w),RdC.raw rfl⟩
   . cases h
def z5u (η:List SB):SV->Option (Nat×Nat×TypeId×Nat)
 | .one (.ptr b off)=>match gB η b with
  | .box hs (some T)=>if off<hs.length then some (b,off,T,hs.length) else none
  | _=>none
 | _=>none
theorem wc4 {E : HEnv} {ρ : Nat → Value} {σ' : List SV} {η η' : List SB} {a : Act} {w : World} (hI : RI Γ E ρ σ' η' a w) {v : Value} {x : SV} {b off n : Nat} {T : TypeId} (h : z5u η x = some (b, off, T, n)) (hb : gB η' b = gB η b) (hx : SVR η' ρ (MX E.Mo ρ η') w v x) :
 x=.one (.ptr b off)/\∃ ad:Addr,v=.pointer (some ad)/\ad.off=off/\off<n/\w.shape? ad.block=some (T,n):=by
 unfold z5u at h;split at h
 . rename_i b' off';split at h
   . rename_i hs T' hg;split at h
     . rename_i hlt
       cases h
       have hg':gB η' b=.box hs (some T):=by rw [hb];exact hg
       obtain ⟨bb,vs,T2,e,hh,hr,hT⟩:=hI.sbr hg' (by simp)
       have hbk:bk (ρ b)=bb:=by rw [e];rfl
       refine ⟨rfl,_,hx.2,rfl,hlt,?_⟩;simp only [hbk];unfold World.shape?;rw [hh,hT T rfl];simp [hr.length]
     . cases h
   . cases h
 . cases h
theorem v1a {o:Oper} {σ:List SV} {η:List SB} {S D t:TypeId} {j:TypeInfo} {x:Operand} {d b off n:Nat} {T:TypeId} (ho:o.op=.convert S D x) (hdst:o.dst=some d) (hS:P.underlying S=some (.pointer t)) (hD:P.underlying D=some .unsafePointer) (ht:P.info? t=some j) (hj:j.size≠0)
 (hb:z5u η (opdS Γ σ x)=some (b,off,T,n)):xlu Γ P o σ η (d::orr x) [b] [(d,.one (.ptr b off))] []:=by
 refine xlu.pure hdst (fun E ρ σ' η' a w hag hah hI=>?_);have hx:=hI.opd x;rw [hag.opd (fun t ht=>by simp [ht])] at hx;obtain ⟨e0,ad,e1,e2,e3,e4⟩:=wc4 hI hb (hah.gB (by simp)) hx;rw [e0] at hx;have hrun:=Go.Lib.run_to_unsafe (P:=P) w ad hS hD ht hj e4 (by omega);refine ⟨a.eval x,?_,hx⟩;unfold execOp;rw [ho];simp only [e1,Sem.run_bind,hrun,Result.andThen_ok,Sem.run_pure]
theorem y7t {o:Oper} {σ:List SV} {η:List SB} {S D u:TypeId} {j:TypeInfo} {x:Operand} {d b off n:Nat} {T:TypeId} (ho:o.op=.convert S D x) (hdst:o.dst=some d) (hS:P.underlying S=some .unsafePointer) (hD:P.underlying D=some (.pointer u)) (hu:P.info? u=some j)
 (hlies:liesAt P P.depth T (n / P.cellsOf T) off u 1=true) (hb:z5u η (opdS Γ σ x)=some (b,off,T,n)):xlu Γ P o σ η (d::orr x) [b] [(d,.one (.ptr b off))] []:=by
 refine xlu.pure hdst (fun E ρ σ' η' a w hag hah hI=>?_);have hx:=hI.opd x;rw [hag.opd (fun t ht=>by simp [ht])] at hx;obtain ⟨e0,ad,e1,e2,e3,e4⟩:=wc4 hI hb (hah.gB (by simp)) hx;rw [e0] at hx;have hrun:=Go.Lib.run_from_unsafe (P:=P) w ad hS hD hu e4 (by rw [e2];exact hlies);refine ⟨a.eval x,?_,hx⟩;unfold execOp;rw [ho];simp only [e1,Sem.run_bind,hrun,Result.andThen_ok,Sem.run_pure]
def yb4 (P:Program) (f:FuncId):Bool:=match P.funcs[f]? with
 | some fn=>fn.body.isNone&&fn.name == "internal/abi.NoEscape" &&fn.origin == ""
 | none=>false
theorem wu6:Extern.allNextRows.lookup "internal/abi.NoEscape" = none/\Extern.allNextRows.lookup "" = none/\Extern.allGenericRows.lookup "internal/abi.NoEscape" = none/\Extern.allTypedRows.lookup "internal/abi.NoEscape" = none:=by
 refine ⟨?_,?_,?_,?_⟩<;>kernel_rfl
theorem z8w:Extern.allRows.lookup "internal/abi.NoEscape" = some Extern.AbiNoEscape.same:=by kernel_rfl
theorem xmc {f:FuncId} (h:yb4 P f=true) (v:Value) (w:World):(callFunc f #[v]).run P w=.ok (.value v) w:=by
 unfold yb4 at h;split at h
 . rename_i fn hf;simp only [Bool.and_eq_true,beq_iff_eq] at h;obtain ⟨⟨hb,hn⟩,ho⟩:=h;obtain ⟨r1,r2,r3,r4⟩:=wu6
   have h1:Extern.findNext fn=none:=by
    unfold Extern.findNext;simp only [hn,ho,r1,r2,Option.map_none];rfl
   have h2:Extern.find fn=some Extern.AbiNoEscape.same:=by
    unfold Extern.find;simp only [hn,ho,r3,r4,z8w,Option.map_none];rfl
   rw [run_callFunc_extern hf (by rw [hn];rfl) hb h1 h2,Go.Lib.run_noEscape];rfl
 . cases h
theorem vcc {o:Oper} {σ:List SV} {η:List SB} {f:FuncId} {x:Operand} {ts:Array TypeId} {d:Nat} (ho:o.op=.call { callee:=.value (.func f),args:=#[x],argTypes:=ts }) (hdst:o.dst=some d) (hf:yb4 P f=true):xlu Γ P o σ η (d::orr x) [] [(d,opdS Γ σ x)] []:=by
 refine xlu.pure hdst (fun E ρ σ' η' a w hag hah hI=>?_);have hx:=hI.opd x;rw [hag.opd (fun t ht=>by simp [ht])] at hx;refine ⟨a.eval x,?_,hx⟩;have hrun:=xmc hf (a.eval x) w;have he:a.eval (.func f)=.func (.func f) #[] #[]:=rfl;unfold execOp;rw [ho];simp [resolve,Deferred.ofValue,he,invoke,hrun]
def usdH:SV->Option SV
 | .one (.sl b 1 0 n)=>if 0<n then some (.one (.pel b 1 0 0)) else none
 | _=>none
theorem zqy {o:Oper} {σ:List SV} {η:List SB} {x:Operand} {ts:Array TypeId} {d:Nat} (ho:o.op=.call { callee:=.builtin .unsafeSliceData,args:=#[x],argTypes:=ts }) (hdst:o.dst=some d) {v:SV} (h:usdH (opdS Γ σ x)=some v) :
 xlu Γ P o σ η (d::orr x) [] [(d,v)] []:=by
 refine xlu.pure hdst (fun E ρ σ' η' a w hag hah hI=>?_);have hx:=hI.opd x;rw [hag.opd (fun t ht=>by simp [ht])] at hx;unfold usdH at h;split at h
 . rename_i b n e;split at h
   . rename_i hn
     cases h;rw [e] at hx;obtain ⟨hob,ad,cap,hv,hle,hcap⟩:=hx;obtain ⟨_,had,_⟩:=hcap (by omega);subst had;refine ⟨.pointer (some ⟨bk (ρ b),0*1,none⟩),?_,hob,rfl⟩;rw [z4y ho,show (#[x]:Array Operand).map a.eval=#[a.eval x] from by simp,hv];simp only [builtin,Sem.run_bind,Go.Lib.run_unsafeSliceData_row w ts o.type ⟨bk (ρ b),0*1,none⟩ n cap (by omega)];rfl
   . cases h
 . cases h
def wu7 (P:Program) (t:TypeId):Option TypeId:=match P.underlying t with
 | some (.pointer e)=>some e
 | _=>none
theorem xq3 {t e:TypeId} (h:wu7 P t=some e):P.underlying t=some (.pointer e):=by
 unfold wu7 at h;split at h
 . rename_i e' hu;cases h;exact hu
 . cases h
def x5a (n:Int):Bool:=decide (0<=n)&&decide (n<256)
def usH (P:Program) (η:List SB) (pt:TypeId) (x y:SV):Option (Nat×List Int):=match x,y with
 | .one (.pel b 1 0 0),.one (.dat (.raw (.int .i64 n)))=>match gB η b with
  | .arr (.ints .u8 l) _ (some e)=>if wu7 P pt=some e/\P.cellsOf e=1/\n=(l.length:Int)/\0<l.length/\l.length<=9223372036854775807/\l.all x5a=true then some (b,l) else none
  | _=>none
 | _,_=>none
theorem World.v3x (w:World) (a:Addr) (n k:Nat) (h:k≠a.block):(w.freeze a n).heap[k]? = w.heap[k]?:=by
 unfold World.freeze
 split
 . rfl
 . simp only [Array.getElem?_modify];rw [if_neg (Ne.symm h)]
theorem s_us {o:Oper} {σ:List SV} {η:List SB} {x y:Operand} {pt it:TypeId} {d:Nat} (ho:o.op=.call { callee:=.builtin .unsafeString,args:=#[x,y],argTypes:=#[pt,it] }) (hdst:o.dst=some d) {b:Nat} {l:List Int} (h:usH P η pt (opdS Γ σ x) (opdS Γ σ y)=some (b,l)) :
 xlu Γ P o σ η (d::(orr x++orr y)) [b] [(d,.one (.dat (.raw (.string (strOfNums l)))))] [(b,.dead)]:=by
 refine xlu.val hdst (fun E ρ σ' η' a w hag hah hI=>?_);have hx:=hI.opd x;have hy:=hI.opd y;rw [hag.opd (fun t ht=>by simp [ht])] at hx hy;unfold usH at h;split at h
 case h_2=>cases h
 rename_i b' n ex ey;split at h
 case h_2=>cases h
 rename_i l' k e hb;split at h
 case isFalse=>cases h
 rename_i hc
 cases h;obtain ⟨hpt,hce,rfl,hl0,h63,hby⟩:=hc;have hpt:=xq3 hpt;rw [ex] at hx;rw [ey] at hy
 have hb':gB η' b=.arr (.ints .u8 l) k (some e):=by rw [hah.gB (by simp)];exact hb
 have hbs:=ynn hb' (by simp);obtain ⟨⟨hu,hk⟩,h0 | ⟨bb,vs,q,T2,e1,hh,hr,hT⟩⟩:=hI.sbr hb' (by simp)
 . have h1:=h0.1;simp [Cell.cnt] at h1;rw [h1] at hl0;simp at hl0
 have hbk:bk (ρ b)=bb:=by rw [e1];rfl
 have hT:=hT e rfl;subst hT
 have ev:a.eval x=.pointer (some ⟨bb,0,none⟩):=by rw [hx.2,hbk]
 have ey':a.eval y=.int .i64 (l.length:Int):=RdC.xcn hy
 have hvs:vs=l.map (Value.int .u8):=y4u (k:=.u8) hr (by
  have:∀ l:List Int,xfz .u8 (l.map fun n=>Cell.raw (.int .u8 n))=some l:=by
   intro l
   induction l with
   | nil=>rfl
   | cons n l ih=>simp [xfz,ih]
  exact this l)
 have hsh:w.shape? bb=some (T2,(vs++q).length):=by simp [World.shape?,hh]
 have hbyte:∀ n∈l,0<=n/\n<256:=fun n hn=>by
  have:=(List.all_eq_true.1 hby) n hn
  simpa [x5a] using this
 have hcell:∀(j:Nat) (u:UInt8),(l.map fun n=>UInt8.ofNat n.toNat)[j]? = some u->w.cell? ((⟨bb,0,none⟩:Addr).add j)=some (.int .u8 u.toNat):=fun j u hj=>by
  rw [y78,Nat.zero_add];rw [List.getElem?_map] at hj;obtain ⟨n,hn,rfl⟩:=Option.map_eq_some_iff.1 hj;have h2:=hbyte n (List.mem_of_getElem? hn)
  have h3:((UInt8.ofNat n.toNat).toNat:Int)=n:=by
   rw [UInt8.toNat_ofNat']
   have:n.toNat % 2 ^ 8=n.toNat:=Nat.mod_eq_of_lt (by omega)
   rw [this];omega
  rw [h3];exact vxo hh (by rw [hvs,List.getElem?_map,hn];rfl)
 have hrun:=Go.Lib.run_unsafeString_row (P:=P) w pt it o.type T2 hpt hce bb _ hsh (l.map fun n=>UInt8.ofNat n.toNat) (by intro e;simp at e;subst e;simp at hl0) (by simp [hvs]) (by simpa using h63) hcell;simp only [List.length_map] at hrun;have hres:(⟨(l.map fun n=>UInt8.ofNat n.toNat).toArray⟩:ByteArray)=strOfNums l:=rfl;rw [hres] at hrun;have hw1:=Went.kill hI.inv hbs
 have hfz:(w.freeze ⟨bb,0,none⟩ l.length).heap[bb]? = some (.cells (vs++q).toArray T2 (if (0:Nat)==0 then (0,0+l.length) else (min 0 0,max 0 (0+l.length)))):=by
  unfold World.freeze;rw [if_neg (by omega)];simp only [Array.getElem?_modify,if_true];rw [hh];rfl
 have hother:=fun k hk=>World.v3x w ⟨bb,0,none⟩ l.length k hk
 have hsz:(w.freeze ⟨bb,0,none⟩ l.length).heap.size=w.heap.size:=by
  unfold World.freeze;split<;>simp
 have hos:(w.freeze ⟨bb,0,none⟩ l.length).os=w.os/\(w.freeze ⟨bb,0,none⟩ l.length).tape=w.tape/\(w.freeze ⟨bb,0,none⟩ l.length).output=w.output:=by
  unfold World.freeze;split<;>exact ⟨rfl,rfl,rfl⟩
 have hcells:∀ c oo u,w.cell? ⟨c,oo,none⟩=some u->(w.freeze ⟨bb,0,none⟩ l.length).cell? ⟨c,oo,none⟩=some u:=fun c oo u hc=>by
  by_cases e2:c=bb
  . subst e2;unfold World.cell? at hc ⊢;dsimp only at hc ⊢;rw [hh] at hc;rw [hfz];exact hc
  . unfold World.cell? at hc ⊢;dsimp only at hc ⊢;rw [hother c e2];exact hc
 have hkeep:∀ M,xhx M M w (w.freeze ⟨bb,0,none⟩ l.length):=fun M c oo u h1 h2=>⟨h1,hcells c oo u h2⟩
 have hgrow:Grow w (w.freeze ⟨bb,0,none⟩ l.length):=fun i arr T fz hi=>by
  by_cases e2:i=bb
  . subst e2;rw [hh] at hi;cases hi;exact ⟨_,_,_,hfz,Nat.le_refl _⟩
  . exact ⟨arr,T,fz,by rw [hother i e2];exact hi,Nat.le_refl _⟩
 have hnotown:∀ i z,(η'.set b .dead)[i]? = some z->z.own=true->real (ρ i)->bk (ρ i)≠bb:=fun i z hi hz hri e2=>by
  rcases x74 hi with ⟨_,rfl⟩ | ⟨hn,hi⟩
  . cases hz
  . exact hn (hI.inv.inj i b z _ hi hbs hz rfl hri (by rw [e1];simp [real]) (by rw [hbk];exact e2))
 have hinv2:HInv Γ E.Mo ρ (η'.set b .dead) (w.freeze ⟨bb,0,none⟩ l.length):=
  ⟨fun c oo hm=>by rw [hsz];exact hw1.inv.bnd c oo hm,fun i z hi=>(hw1.inv.blk i z hi).mv ⟨fun _ h=>h,fun _ _=>rfl,hkeep _,hgrow⟩ (fun ho' hr'=>hother _ (hnotown i z hi ho' hr')),hw1.inv.inj,hw1.inv.sep,hw1.inv.glob.keep (hkeep _)⟩
 have hrb:real (ρ b):=by rw [e1];simp [real]
 refine ⟨_,w.freeze ⟨bb,0,none⟩ l.length,ρ,?_,⟨hw1.ok,hw1.rho,hw1.keep.trans (hkeep _),hgrow,hinv2,by rw [hsz];exact Nat.le_refl _,hos.1,hos.2.1,hos.2.2,fun k _ hk=>hother k (fun e2=>hk ⟨b,_,hbs,rfl,hrb,by rw [hbk];exact e2.symm⟩),fun k hk=>hw1.fresh k hk⟩,RdC.raw rfl⟩;rw [z4y ho,show (#[x,y]:Array Operand).map a.eval=#[a.eval x,a.eval y] from by simp,ev,ey'];simp only [builtin,Sem.run_bind,hrun];rfl
def yem (off:Nat) (tf:TI):SV->Option SV
 | .agg hs=>xou tf (hs.drop off)
 | _=>none
theorem znm {T:TypeId} {tf:TI} (hok:TIok P T tf) {η:List SB} {ρ:Nat->Value} {M:Nat->Nat->Prop} {w:World} {vs:List Value} {hs:List HC} (hr:HRL η ρ M w vs hs) {off:Nat} {x:SV} (h:xou tf (hs.drop off)=some x) :
 ∃ v,(part T vs.toArray off).run P w=.ok v w/\SVR η ρ M w v x:=by
 obtain ⟨_,j,_,_,hj,_,hjs,_,_,_,_,_⟩:=hok.ex;have hr':=hr.drop off;unfold xou at h;split at h
 . rename_i hm;split at h
   . rename_i hle
     cases h;refine ⟨.agg ((vs.drop off).take tf.size).toArray,?_,_,rfl,hr'.take _⟩;simp [part,hok.z1f hm,yg7 hj,hjs,List.extract_eq_take_drop]
   . cases h
 . rename_i hm;split at h
   . rename_i c cs' hcs
     cases h;rw [hcs] at hr'
     cases hv:vs.drop off with
     | nil=>rw [hv] at hr';exact hr'.elim
     | cons v0 vs'=>
      rw [hv] at hr'
      have hg:vs[off]? = some v0:=by
       have:=congrArg (fun l=>l[0]?) hv
       simpa using this
      exact ⟨v0,by simp [part,hok.z1f hm,hg],hr'.1⟩
   . cases h
 . cases h
theorem vdj {o:Oper} {σ:List SV} {η:List SB} {T ft:TypeId} {x:Operand} {f d off sz:Nat} {fs:List (Nat×Nat×TypeId)} (ho:o.op=.field T x f) (hdst:o.dst=some d) {ti tf:TI} (hti:mkTI P T=some ti) (hs:ti.sh=.struct fs) (hf:fs[f]? = some (off,sz,ft)) (htf:mkTI P ft=some tf)
 {v:SV} (h:yem off tf (opdS Γ σ x)=some v):xlu Γ P o σ η (d::orr x) [] [(d,v)] []:=by
 refine xlu.pure hdst (fun E ρ σ' η' a w hag hah hI=>?_);have hx:=hI.opd x;rw [hag.opd (fun t ht=>by simp [ht])] at hx;obtain ⟨dd,i,z,hd,hi',hz,_,_,_,_,_,hsh⟩:=(xky hti).ex;obtain ⟨fl,rfl,rfl,_⟩:=x8t (hsh.symm.trans hs);rw [List.getElem?_map] at hf;obtain ⟨fd,hfd,hfe⟩:=Option.map_eq_some_iff.1 hf
 cases hfe
 have hfa:fl[f]? = some fd:=by simpa using hfd
 unfold yem at h;split at h
 . rename_i hs' e;rw [e] at hx;obtain ⟨vs,hv,hr⟩:=hx;obtain ⟨u,h1,h2⟩:=znm (xky htf) hr h;exact ⟨u,by simp [execOp,ho,Instr.field,asAgg,hv,z6x hd,hfa,h1],h2⟩
 . cases h
theorem v01 {o:Oper} {σ:List SV} {η:List SB} {T e:TypeId} {x y:Operand} {d n es:Nat} {k:IntKind} {ix:Int} (ho:o.op=.index T x y) (hdst:o.dst=some d) {ti te:TI} (hti:mkTI P T=some ti) (hs:ti.sh=.array n e es) (hte:mkTI P e=some te)
 (hy:opdS Γ σ y=.one (.dat (.raw (.int k ix)))) (h0:0<=ix/\ix<n) (hes:es=te.size) {v:SV} (h:yem (ix.toNat*es) te (opdS Γ σ x)=some v):xlu Γ P o σ η (d::(orr x++orr y)) [] [(d,v)] []:=by
 refine xlu.pure hdst (fun E ρ σ' η' a w hag hah hI=>?_);have hx:=hI.opd x;have hyr:=hI.opd y;rw [hag.opd (fun t ht=>by simp [ht])] at hx hyr;rw [hy] at hyr;have ey:a.eval y=.int k ix:=RdC.xcn hyr;obtain ⟨dd,i,z,hd,hi',hz,_,_,_,_,_,hsh⟩:=(xky hti).ex;obtain ⟨rfl,_⟩:=vj0 (hsh.symm.trans hs);have hok:=xky hte;obtain ⟨_,j,_,_,hj,_,hjs,_,_,_,_,_⟩:=hok.ex;unfold yem at h;split at h
 . rename_i hs' ex;rw [ex] at hx;obtain ⟨vs,hv,hr⟩:=hx;obtain ⟨u,h1,h2⟩:=znm hok hr h;exact ⟨u,by simp [execOp,ho,Instr.index,asIntOf,hv,ey,z6x hd,h0.1,h0.2,yg7 hj,hjs,<-hes,h1],h2⟩
 . cases h
inductive HO where
 | eff (rd rh:List Nat) (eff:List (Nat×SV)) (heff:List (Nat×SB)) (new:Option SB)
 | callD (f:FuncId) (l:List AV) (rd rh bs:List Nat)
 | callF (p:(Nat->Nat->Prop)->World->Value->Prop) (l:List AV) (rd bs:List Nat)
 | callH (f:FuncId) (l:List SV) (rd:List Nat)
 | mk (f:FuncId) (caps:List AV) (rd bs:List Nat)
 | look (r:Option SV) (zero:SV) (ok:Bool) (rd rh:List Nat)
 | bad
def v0y (P:Program) (t:TypeId) (k:TI->HO):HO:=match mkTI P t with
 | some ti=>k ti
 | none=>.bad
def vO (o:Oper) (rd rh:List Nat):Option SV->HO
 | some x=>match o.dst with
  | some d=>.eff (d::rd) rh [(d,x)] [] none
  | none=>.bad
 | none=>.bad
def nO (o:Oper) (rd rh:List Nat) (x:SV) (heff:List (Nat×SB)) (b:SB):HO:=match o.dst with
 | some d=>.eff (d::rd) rh [(d,x)] heff (some b)
 | none=>.bad
def isNil {α:Type}:List α->Bool
 | []=>true
 | _=>false
def oldR (d nb:Nat):OR->HO
 | .eff rd tk [(d',av)]=>if isNil tk&&d'==d then match av2 nb av with
  | some (x,ob)=>.eff rd [] [(d,x)] [] ob
  | none=>.bad
  else .bad
 | _=>.bad
def oldO (P:Program) (σ:List SV) (nb:Nat) (o:Oper):HO:=match o.dst with
 | some d=>if zo8 o.op=true/\d<σ.length then oldR d nb (opA0 P (σ.map vw) o) else .bad
 | none=>.bad
def wxr:SV->SV->Option SV
 | .one (.dat (.raw (.string s))),.one (.dat (.raw (.int _ i)))=>if 0<=i/\i<s.size then some (.one (.dat (.raw (.int .u8 (w7f s i.toNat))))) else none
 | _,_=>none
def intS:SV->Option Int
 | .one (.dat (.raw (.int _ i)))=>some i
 | _=>none
inductive CK where
 | agg
 | ptr
 | other
def ckH:SV->SV->CK
 | .agg _,_=>.agg
 | .one (.ptr _ _),_=>.ptr
 | .one (.pel _ _ _ _),_=>.ptr
 | .elt _,_=>.ptr
 | .one (.dat (.raw (.pointer _))),_=>.ptr
 | _,_=>.other
def xdz:SV->Bool
 | .one (.sl _ _ _ _)=>true
 | _=>false
def y0l:SV->Bool
 | .one (.sl _ _ _ _)=>true
 | .one (.mp _)=>true
 | _=>false
def wst (_o:Oper) (ok:Bool) (rd rh:List Nat):Option (Option SV)->Option SV->HO
 | some r,some z=>.look r z ok rd rh
 | _,_=>.bad
def opP (P:Program) (Γ:List (Nat×List Cell)) (σ:List SV) (η:List SB) (nb:Nat) (o:Oper):HO:=
 match o.op with
 | .move x=>vO o (orr x) [] (some (opdS Γ σ x))
 | .assign x=>vO o (orr x) [] (some (opdS Γ σ x))
 | .pick c x y=>match wby (opdS Γ σ c) (opdS Γ σ x) (opdS Γ σ y) with
  | some v=>vO o (orr c++orr x++orr y) [] (some v)
  | none=>oldO P σ nb o
 | .load T x=>v0y P T fun ti=>match seeH η (opdS Γ σ x) with
  | some (rh,hs)=>vO o (orr x) rh (xou ti hs)
  | none=>.bad
 | .store T x y=>match o.dst with
  | none=>v0y P T fun ti=>match zxw (opdS Γ σ y) with
   | some us=>if us.length=ti.size then match xqe η ti.size (opdS Γ σ x) us with
    | some (b,z)=>.eff (orr x++orr y) [b] [] [(b,z)] none
    | none=>.bad
    else .bad
   | none=>.bad
  | some _=>.bad
 | .fieldAddr S x f=>v0y P S fun ti=>match ti.sh with
  | .struct fs=>match fs[f]? with
   | some (off,_,_)=>vO o (orr x) [] (xxe (opdS Γ σ x) off)
   | none=>.bad
  | _=>.bad
 | .indexAddr T x y=>v0y P T fun ti=>match zep ti.sh (opdS Γ σ x) (opdS Γ σ y) with
  | some v=>vO o (orr x++orr y) [] (some v)
  | none=>oldO P σ nb o
 | .extract x n=>vO o (orr x) [] (yxy (opdS Γ σ x) n)
 | .nilCheck x=>if ptrH (opdS Γ σ x)=true then vO o (orr x) [] (some (opdS Γ σ x)) else .bad
 | .binOp op T x y _=>match ckH (opdS Γ σ x) (opdS Γ σ y) with
  | .agg=>vO o (orr x++orr y) [] (xga P T op (opdS Γ σ x) (opdS Γ σ y))
  | .ptr=>match wu7 P T with
   | some t=>match P.info? t with
    | some _=>vO o (orr x++orr y) [] (yml op (opdS Γ σ x) (opdS Γ σ y))
    | none=>.bad
   | none=>.bad
  | .other=>oldO P σ nb o
 | .unOp _ _ _=>oldO P σ nb o
 | .makeSlice _ _ _=>oldO P σ nb o
 | .slice T x lo hi mx=>match xdz (opdS Γ σ x) with
  | true=>match mx with
   | none=>v0y P T fun ti=>vO o (orr x++orrO lo++orrO hi) [] (xmo Γ σ ti.sh (opdS Γ σ x) lo hi)
   | some _=>.bad
  | false=>oldO P σ nb o
 | .build T ps=>v0y P T fun ti=>if zdb ti=true/\ti.sh.agg=true then vO o (orrs ps.toList) [] ((zjl (placeOf ti.sh) (ti.zc.map .dat) (zka Γ σ ps.toList)).map .agg) else .bad
 | .field T x f=>v0y P T fun ti=>match ti.sh with
  | .struct fs=>match fs[f]? with
   | some (off,_,ft)=>v0y P ft fun tf=>vO o (orr x) [] (yem off tf (opdS Γ σ x))
   | none=>.bad
  | _=>.bad
 | .index T x y=>v0y P T fun ti=>match ti.sh with
  | .array n e es=>v0y P e fun te=>match intS (opdS Γ σ y) with
   | some ix=>if (0<=ix/\ix<n)/\es=te.size then vO o (orr x++orr y) [] (yem (ix.toNat*es) te (opdS Γ σ x)) else .bad
   | none=>.bad
  | .string=>vO o (orr x++orr y) [] (wxr (opdS Γ σ x) (opdS Γ σ y))
  | _=>.bad
 | .lookup T x y ok=>v0y P T fun ti=>match ti.sh with
  | .map kt et=>v0y P kt fun tk=>match ve1 η (opdS Γ σ x),keyX (opdS Γ σ y) with
   | some (b,es),some k=>if zw0 P kt tk.sh k=true then wst o ok (zny o++(orr x++orr y)) [b] (y1p es k) (yz9 P et) else .bad
   | _,_=>.bad
  | _=>.bad
 | .mapUpdate T x y z=>match o.dst with
  | none=>v0y P T fun ti=>match ti.sh with
   | .map kt _=>v0y P kt fun tk=>match ve1 η (opdS Γ σ x),keyX (opdS Γ σ y) with
    | some (b,es),some k=>if zw0 P kt tk.sh k=true/\wnb (opdS Γ σ z)=true then match updM es k (opdS Γ σ z) with
     | some es'=>.eff (orr x++orr y++orr z) [b] [] [(b,.map es')] none
     | none=>.bad
     else .bad
    | _,_=>.bad
   | _=>.bad
  | some _=>.bad
 | _=>.bad
def zwu (P:Program) (Γ:List (Nat×List Cell)) (σ:List SV) (η:List SB) (nb:Nat) (o:Oper) (S D:TypeId) (x:Operand):HO:=match P.underlying S,P.underlying D with
 | some (.slice e),some .string=>match P.underlying e with
  | some (.int .u8)=>match x8k η (opdS Γ σ x) with
   | some (l,bs)=>match o.dst with
    | some d=>.eff (d::orr x) bs [(d,.one (.dat (.raw (.string (strOfNums l)))))] (frzE η bs) none
    | none=>.bad
   | none=>.bad
  | _=>.bad
 | some (.pointer t),some .unsafePointer=>match P.info? t,z5u η (opdS Γ σ x) with
  | some j,some (b,off,_,_)=>if j.size != 0 then vO o (orr x) [b] (some (.one (.ptr b off))) else .bad
  | _,_=>.bad
 | some .unsafePointer,some (.pointer u)=>match P.info? u,z5u η (opdS Γ σ x) with
  | some _,some (b,off,T,n)=>if liesAt P P.depth T (n / P.cellsOf T) off u 1 then vO o (orr x) [b] (some (.one (.ptr b off))) else .bad
  | _,_=>.bad
 | _,_=>oldO P σ nb o
def z7i:Bool->Bool->Bool
 | false,false=>true
 | _,_=>false
def yw6 (own:Bool) (η:List SB) (l:List SV):Option (List AV×List Nat):=match own with
 | true=>none
 | false=>znb η l
theorem whr {own:Bool} {η:List SB} {l:List SV} {r:List AV×List Nat} (h:yw6 own η l=some r):znb η l=some r:=by
 cases own with
 | true=>cases h
 | false=>exact h
def y2d (P:Program) (Γ:List (Nat×List Cell)) (own:Bool) (σ:List SV) (η:List SB) (o:Oper) (x:Operand) (xs:List Operand):HO:=match x with
 | .func f=>if yb4 P f=true then match xs with
  | [y]=>vO o (orr y) [] (some (opdS Γ σ y))
  | _=>.bad
  else callG f [] [] []
 | .tmp t=>match gtS σ t with
  | .one (.dat (.fnp p))=>match znb η (yvs Γ σ xs) with
   | some (l,bs)=>.callF p l (zny o++t::orrL xs) bs
   | none=>.bad
  | _=>match zw9 Γ σ η (.tmp t) with
   | some (f,caps,rd,rh)=>callG f caps rd rh
   | none=>.bad
 | _=>.bad
where callG (f:FuncId) (caps:List SV) (rd rh:List Nat):HO:=match yw6 own η (yvs Γ σ xs++caps) with
 | some (l,bs)=>.callD f l (zny o++rd++orrL xs) rh bs
 | none=>match w8c (yvs Γ σ xs) with
  | true=>.callH f (yvs Γ σ xs++caps) (zny o++rd++orrL xs)
  | false=>.bad
def opH (P:Program) (Γ:List (Nat×List Cell)) (lit fn:Bool) (σ:List SV) (η:List SB) (nb:Nat) (o:Oper):HO:=
 match o.op with
 | .alloc T=>v0y P T fun ti=>nO o [] [] (.one (.ptr nb 0)) [] (.box (ti.zc.map .dat) (some T))
 | .box T x=>match zxw (opdS Γ σ x) with
  | some hs=>nO o (orr x) [] (.one (.ptr nb 0)) [] (.box hs (some T))
  | none=>.bad
 | .buildSlice T n ps=>match n with
  | 0=>oldO P σ nb o
  | n + 1 => v0y P T fun ti => match ti.sh with
   | .slice e es _ ik=>v0y P e fun te=>match litH Γ σ η es ik te.zc (n+1) ps.toList with
    | some (c,bs)=>match lit with
     | true=>match o.dst with
      | some d=>.eff (d::orrs ps.toList) bs [(d,.one (.dat c))] (frzE η bs) none
      | none=>.bad
     | false=>nO o (orrs ps.toList) bs (.one (.sl nb es 0 (n+1))) (frzE η bs) (.arr c 0 (some e))
    | none=>.bad
   | _=>.bad
 | .makeMap _ none=>nO o [] [] (.one (.mp nb)) [] (.map [])
 | .makeFunc (.func f) fs cs=>match fs.toList with
  | []=>match fn with
   | true=>match znb η (yvs Γ σ cs.toList),o.dst with
    | some (l,bs),some d=>.mk f l (d::orrL cs.toList) bs
    | _,_=>.bad
   | false=>match w8c (yvs Γ σ cs.toList) with
    | true=>nO o (orrL cs.toList) [] (.one (.fnr nb)) [] (.clo f (yvs Γ σ cs.toList))
    | false=>.bad
  | _=>.bad
 | .convert S D x=>zwu P Γ σ η nb o S D x
 | .call c => match c.callee with
  | .value x=>y2d P Γ (z7i lit fn) σ η o x c.args.toList
  | .builtin b=>match b with
   | .len=>match c.args.toList,c.argTypes.toList with
    | [x],[T]=>match y0l (opdS Γ σ x) with
     | true=>v0y P T fun ti=>match lenH η ti.sh (opdS Γ σ x) with
      | some (rh,n)=>vO o (orr x) rh (some (.one (.dat (.raw (.int .i64 (n:Int))))))
      | none=>.bad
     | false=>oldO P σ nb o
    | _,_=>.bad
   | .append=>match c.args.toList,c.argTypes.toList with
    | [x,y],[T,U]=>if T=U then v0y P T fun ti=>match ti.sh with
     | .slice e es eb ik=>appO (opdS Γ σ x) (opdS Γ σ y) (orr x++orr y) e es eb ik
     | _=>.bad
     else .bad
    | _,_=>.bad
   | .unsafeSliceData=>match c.args.toList with
    | [x]=>vO o (orr x) [] (usdH (opdS Γ σ x))
    | _=>.bad
   | .unsafeString=>match c.args.toList,c.argTypes.toList,o.dst with
    | [x,y],[pt,_],some d=>match usH P η pt (opdS Γ σ x) (opdS Γ σ y) with
     | some (b,l)=>.eff (d::(orr x++orr y)) [b] [(d,.one (.dat (.raw (.string (strOfNums l)))))] [(b,.dead)] none
     | none=>.bad
    | _,_,_=>.bad
   | .max=>oldO P σ nb o
   | .min=>oldO P σ nb o
   | _=>.bad
  | _=>.bad
 | _=>opP P Γ σ η nb o
where appO (x y:SV) (rd:List Nat) (e:TypeId) (es eb:Nat) (ik:Option IntKind):HO:=match dstH η e es ik x,srcH η y with
 | some (ob,c,k,T),some (cy,bs)=>match wek es eb ik c cy with
  | some c'=>if bs.all (fun i=>ob != some i) then nO o rd (ob.toList++bs) (.one (.sl nb es 0 c'.cnt)) (frzE η bs++zgw ob) (.arr c' k (appT T e)) else .bad
  | none=>.bad
 | _,_=>.bad
theorem zsy {η l:List SB} {b:Nat} (h:b<η.length):gB (η++l) b=gB η b:=by
 unfold gB;rw [List.getElem?_append_left h]
theorem xtx {η:List SB} {b:Nat} (h:y20 (gB η b)=true):b<η.length:=by
 rcases Nat.lt_or_ge b η.length with h1 | h1
 . exact h1
 . unfold gB at h;rw [List.getElem?_eq_none h1] at h;cases h
theorem wgt:∀(heff:List (Nat×SB)) (η:List SB) (x:SB),(∀ p∈heff,p.1<η.length)->appL (heff++[(η.length,x)]) (η++[.fresh])=appL heff η++[x]
 | [],η,x,_=>by simp [appL]
 | (i,y)::r,η,x,h=>by
  have hi:i<η.length:=h (i,y) (by simp);simp only [List.cons_append,appL];rw [List.set_append_left _ _ hi]
  have:=wgt r (η.set i y) x (fun p hp=>by rw [List.length_set];exact h p (by simp [hp]))
  rw [List.length_set] at this;exact this
theorem ylp (η:List SB):v7q (η++[.fresh]) η.length=true:=by simp [v7q]
theorem van.new {o:Oper} {σ:List SV} {η:List SB} {rd rh:List Nat} {eff:List (Nat×SV)} {heff:List (Nat×SB)} {x:SB} (h:xlu Γ P o σ (η++[.fresh]) rd rh eff (heff++[(η.length,x)])) (hl:∀ p∈heff,p.1<η.length) :
 van Γ P o σ η (appL eff σ) (appL heff η++[x]):=by
 have:=h.px
 rw [wgt heff η x hl] at this;exact this
def Sound (Γ:List (Nat×List Cell)) (P:Program) (o:Oper) (σ:List SV) (η:List SB) (nb:Nat) (rd rh:List Nat) (eff:List (Nat×SV)) (heff:List (Nat×SB)):Option SB->Prop
 | none=>xlu Γ P o σ η rd rh eff heff
 | some x=>(v7q η nb=true->xlu Γ P o σ η rd (nb::rh) eff (heff++[(nb,x)]))/\(nb=η.length->van Γ P o σ η (appL eff σ) (appL heff η++[x]))
def vmx (Γ:List (Nat×List Cell)) (P:Program) (o:Oper) (σ:List SV) (η:List SB) (nb:Nat):HO->Prop
 | .eff rd rh eff heff new=>Sound Γ P o σ η nb rd rh eff heff new
 | _=>True
theorem znf {o:Oper} {σ:List SV} {η:List SB} {nb:Nat} {t:TypeId} {k:TI->HO} (h:∀ ti,mkTI P t=some ti->vmx Γ P o σ η nb (k ti)):vmx Γ P o σ η nb (v0y P t k):=by
 unfold v0y
 split
 . rename_i ti hti;exact h ti hti
 . trivial
theorem y54 {o:Oper} {σ:List SV} {η:List SB} {nb:Nat} {rd rh:List Nat} {x:Option SV} (h:∀ v d,x=some v->o.dst=some d->xlu Γ P o σ η (d::rd) rh [(d,v)] []):vmx Γ P o σ η nb (vO o rd rh x):=by
 unfold vO
 split
 . split
   . rename_i d hd;exact h _ d rfl hd
   . trivial
 . trivial
theorem xr2 {o:Oper} {σ:List SV} {η:List SB} {nb:Nat} {rd rh:List Nat} {x:SV} {heff:List (Nat×SB)} {b:SB} (h:∀ d η',o.dst=some d->(η'=η\/η'=η++[.fresh])->v7q η' nb=true->xlu Γ P o σ η' (d::rd) (nb::rh) [(d,x)] (heff++[(nb,b)]))
 (hl:∀ p∈heff,p.1<η.length):vmx Γ P o σ η nb (nO o rd rh x heff b):=by
 unfold nO
 split
 . rename_i d hd;refine ⟨fun hr=>h d η hd (.inl rfl) hr,fun e=>?_⟩;subst e;exact van.new (h d (η++[.fresh]) hd (.inr rfl) (ylp η)) hl
 . trivial
theorem y5q {α:Type} {l:List α} (h:isNil l=true):l=[]:=by cases l<;>first | rfl | cases h
theorem x5j {o:Oper} {σ:List SV} {η:List SB} {nb:Nat}:vmx Γ P o σ η nb (oldO P σ nb o):=by
 unfold oldO
 split
 case h_2=>trivial
 rename_i d hd
 split
 case isFalse=>trivial
 rename_i hc;unfold oldR
 split
 case h_2=>trivial
 rename_i rd tk d' av heq
 split
 case isFalse=>trivial
 rename_i hcc;simp only [Bool.and_eq_true,beq_iff_eq] at hcc;obtain ⟨htk,rfl⟩:=hcc;have htk:=y5q htk;subst htk
 split
 case h_2=>trivial
 rename_i x ob h2;have hst:=(zbe heq).1
 cases ob with
 | none=>exact wzv hc.1 hd hst hc.2 h2 rfl
 | some b=>
  refine ⟨fun hr=>wzv hc.1 hd hst hc.2 h2 hr,fun e=>?_⟩;subst e
  have:=wzv (Γ:=Γ) (η:=η++[.fresh]) (nb:=η.length) hc.1 hd hst hc.2 h2 (show vgw (η++[.fresh]) η.length (some b)=true from ylp η)
  exact van.new (heff:=[]) this (by simp)
theorem vv8 {o:Oper} {σ:List SV} {η:List SB} {T:TypeId} {x y:Operand} {d:Nat} (ho:o.op=.index T x y) (hdst:o.dst=some d) {ti:TI} (hti:mkTI P T=some ti) (hs:ti.sh=.string) {v:SV} (h:wxr (opdS Γ σ x) (opdS Γ σ y)=some v) :
 xlu Γ P o σ η (d::(orr x++orr y)) [] [(d,v)] []:=by
 refine xlu.pure hdst (fun E ρ σ' η' a w hag hah hI=>?_);have hx:=hI.opd x;have hy:=hI.opd y;rw [hag.opd (fun t ht=>by simp [ht])] at hx hy;obtain ⟨dd,i,z,hd,_,_,_,_,_,_,_,hsh⟩:=(xky hti).ex;have hT:=vnq (hsh.symm.trans hs);subst hT;unfold wxr at h;split at h
 . rename_i s k ix ex ey;split at h
   . rename_i hi
     cases h;rw [ex] at hx;rw [ey] at hy;have ex:a.eval x=.string s:=RdC.xcn hx;have ey:a.eval y=.int k ix:=RdC.xcn hy;refine ⟨_,?_,RdC.raw rfl⟩
     have hsz:ix.toNat<s.size:=by omega
     have hg:s[ix.toNat]? = some s[ix.toNat]:=by simp [hsz]
     have hb:w7f s ix.toNat=(s[ix.toNat]).toNat:=by
      unfold w7f
      have:s.data[ix.toNat]? = some s[ix.toNat]:=by
       rw [Array.getElem?_eq_getElem (by simpa using hsz)];rfl
      rw [this];rfl
     rw [hb];simp [execOp,ho,Instr.index,asIntOf,ex,ey,z6x hd,hi.1,hg]
   . cases h
 . cases h
theorem xc1 {x:SV} {i:Int} (h:intS x=some i):∃ k,x=.one (.dat (.raw (.int k i))):=by
 unfold intS at h;split at h
 . cases h;exact ⟨_,rfl⟩
 . cases h
theorem v0g {o:Oper} {σ:List SV} {η:List SB} {nb:Nat}:vmx Γ P o σ η nb (opP P Γ σ η nb o):=by
 unfold opP
 split
 . rename_i x ho;exact y54 (fun v d e hd=>by cases e;exact x9h (.inl ho) hd)
 . rename_i x ho;exact y54 (fun v d e hd=>by cases e;exact x9h (.inr ho) hd)
 . rename_i c x y ho
   split
   . rename_i v hv;exact y54 (fun v' d e hd=>by cases e;exact yz5 ho hd hv)
   . exact x5j
 . rename_i T x ho;refine znf (fun ti hti=>?_)
   split
   . rename_i rh hs hsee;exact y54 (fun v d e hd=>xdc ho hd hti hsee e)
   . trivial
 . rename_i T x y ho
   split
   . rename_i hd;refine znf (fun ti hti=>?_)
     split
     . rename_i us hu
       split
       . rename_i hl
         split
         . rename_i b z hst;exact vbl ho hd hti hu hl hst
         . trivial
       . trivial
     . trivial
   . trivial
 . rename_i S x f ho;refine znf (fun ti hti=>?_)
   split
   . rename_i fs hs
     split
     . rename_i off sz ft hf;exact y54 (fun v d e hd=>wze ho hd hti hs hf e)
     . trivial
   . trivial
 . rename_i T x y ho;refine znf (fun ti hti=>?_)
   split
   . rename_i v hv;exact y54 (fun v' d e hd=>by cases e;exact wr4 ho hd hti hv)
   . exact x5j
 . rename_i x n ho;exact y54 (fun v d e hd=>z8p ho hd e)
 . rename_i x ho
   split
   . rename_i hp;exact y54 (fun v d e hd=>by cases e;exact wri ho hd hp)
   . trivial
 . rename_i op T x y U ho
   split
   . exact y54 (fun v d e hd=>v3u ho hd e)
   . split
     . rename_i t ht
       split
       . rename_i j hj;exact y54 (fun v d e hd=>z5k ho hd (xq3 ht) hj e)
       . trivial
     . trivial
   . exact x5j
 . exact x5j
 . exact x5j
 . rename_i T x lo hi mx ho
   split
   . split
     . exact znf (fun ti hti=>y54 (fun v d e hd=>vp5 ho hd hti e))
     . trivial
   . exact x5j
 . rename_i T ps ho;refine znf (fun ti hti=>?_)
   split
   . rename_i hc;refine y54 (fun v d e hd=>?_);obtain ⟨hs,hf,rfl⟩:=Option.map_eq_some_iff.1 e;exact xy2 (parts:=ps.toList) (by rw [ho]) hd hti hc.1 hc.2 hf
   . trivial
 . rename_i T x f ho;refine znf (fun ti hti=>?_)
   split
   . rename_i fs hs
     split
     . rename_i off sz ft hf;exact znf (fun tf htf=>y54 (fun v d e hd=>vdj ho hd hti hs hf htf e))
     . trivial
   . trivial
 . rename_i T x y ho;refine znf (fun ti hti=>?_)
   split
   . rename_i n e es hs;refine znf (fun te hte=>?_)
     split
     . rename_i ix hix
       split
       . rename_i hc;obtain ⟨k,hk⟩:=xc1 hix;exact y54 (fun v d e hd=>v01 ho hd hti hs hte hk hc.1 hc.2 e)
       . trivial
     . trivial
   . rename_i hs;exact y54 (fun v d e hd=>vv8 ho hd hti hs e)
   . trivial
 . rename_i T x y ok ho;refine znf (fun ti hti=>?_)
   split
   . refine znf (fun tk htk=>?_)
     split
     . split
       . unfold wst
         split<;>trivial
       . trivial
     . trivial
   . trivial
 . rename_i T x y z ho
   split
   . rename_i hd;refine znf (fun ti hti=>?_)
     split
     . rename_i kt et hs;refine znf (fun tk htk=>?_)
       split
       . rename_i b es k hm hk
         split
         . rename_i hc
           split
           . rename_i es' hu;exact vok ho hd hti hs htk hm hk hc.1 hc.2 hu
           . trivial
         . trivial
       . trivial
     . trivial
   . trivial
 . trivial
theorem vne {η:List SB} {bs:List Nat} (h:∀ b∈bs,y20 (gB η b)=true):∀ p∈frzE η bs,p.1<η.length:=fun p hp=>by
 obtain ⟨b,hb,rfl⟩:=List.mem_map.1 hp;exact xtx (h b hb)
theorem xzo {σ : List SV} {η : List SB} {es n : Nat} {ik : Option IntKind} {zc : List Cell} {parts : List (Nat × Operand)} {c : Cell} {bs : List Nat} (h : litH Γ σ η es ik zc n parts = some (c, bs)) : ∀ b ∈ bs, y20 (gB η b) = true := by
 unfold litH at h;split at h
 . split at h
   . split at h
     . rename_i cs bs' hd;obtain ⟨c',_,he⟩:=Option.map_eq_some_iff.1 h
       cases he;exact vq9 hd
     . cases h
   . cases h
 . cases h
theorem zz1 {x:Operand} {xs:Array Operand} (h:xs.toList=[x]):xs=#[x]:=by rw [<-Array.toArray_toList (xs:=xs),h]
theorem z8i {x y:Operand} {xs:Array Operand} (h:xs.toList=[x,y]):xs=#[x,y]:=by rw [<-Array.toArray_toList (xs:=xs),h]
theorem vkw {x:TypeId} {xs:Array TypeId} (h:xs.toList=[x]):xs=#[x]:=by rw [<-Array.toArray_toList (xs:=xs),h]
theorem yh4 {x y:TypeId} {xs:Array TypeId} (h:xs.toList=[x,y]):xs=#[x,y]:=by rw [<-Array.toArray_toList (xs:=xs),h]
theorem zuw {η:List SB} {e:TypeId} {es:Nat} {ik:Option IntKind} {x:SV} {b:Nat} {c:Cell} {k:Nat} {T:Option TypeId} (h:dstH η e es ik x=some (some b,c,k,T)):y20 (gB η b)=true:=by
 unfold dstH at h;split at h
 . split at h
   . rename_i hb;split at h
     . cases h;rw [hb];rfl
     . cases h
   . cases h
 . split at h<;>cases h
 . cases h
theorem v7t {η η' : List SB} {e : TypeId} {es : Nat} {ik : Option IntKind} {x : SV} {ob : Option Nat} {c : Cell} {k : Nat} {T : Option TypeId} (h : dstH η e es ik x = some (ob, c, k, T)) (ha : ∀ b, ob = some b → gB η' b = gB η b) : dstH η' e es ik x = some (ob, c, k, T) := by
 unfold dstH at h ⊢;split at h
 . rename_i b es' n
   have e1:gB η' b=gB η b:=by
    split at h
    . split at h
      . cases h;exact ha b rfl
      . cases h
    . cases h
   simp only [e1];exact h
 . exact h
 . cases h
theorem w4b {η η':List SB} {x:SV} {c:Cell} {bs:List Nat} (h:srcH η x=some (c,bs)) (ha:∀ b∈bs,gB η' b=gB η b):srcH η' x=some (c,bs):=by
 unfold srcH at h ⊢;split at h
 . exact vkg h ha
 . cases h
theorem wr3 {η:List SB} {x:SV} {c:Cell} {bs:List Nat} (h:srcH η x=some (c,bs)):∀ b∈bs,y20 (gB η b)=true:=by
 unfold srcH at h;split at h
 . exact zzt h
 . cases h
theorem y15 {η η':List SB} (he:η'=η\/η'=η++[.fresh]) {b:Nat} (hb:y20 (gB η b)=true):gB η' b=gB η b:=by
 rcases he with rfl | rfl
 . rfl
 . exact zsy (xtx hb)
theorem yvt {lit fn:Bool} {o:Oper} {σ:List SV} {η:List SB} {nb:Nat}:vmx Γ P o σ η nb (opH P Γ lit fn σ η nb o):=by
 unfold opH
 split
 . rename_i T ho;exact znf (fun ti hti=>xr2 (fun d η' hd _ hr=>wyj ho hd hti hr) (by simp))
 . rename_i T x ho
   split
   . rename_i hs hcs;exact xr2 (fun d η' hd _ hr=>xox ho hd hcs hr) (by simp)
   . trivial
 . rename_i T n ps ho
   split
   . exact x5j
   . rename_i n;refine znf (fun ti hti=>?_)
     split
     . rename_i e es eb ik hsh;refine znf (fun te hte=>?_)
       split
       . rename_i c bs hl;have harr:=xzo hl
         split
         . split
           . rename_i d hd;exact wbj (parts:=ps.toList) (by rw [ho]) hd hti hsh hte hl
           . trivial
         . refine xr2 (fun d η' hd he hr=>?_) (vne harr)
           have hg:∀ b∈bs,gB η' b=gB η b:=fun b hb=>y15 he (harr b hb)
           have:=x0m (parts:=ps.toList) (nb:=nb) (by rw [ho]) hd hti hsh hte (x3j (σ':=σ) rfl hl hg) hr
           rw [xuq hg] at this;exact this
       . trivial
     . trivial
 . rename_i T ho;exact xr2 (fun d η' hd _ hr=>xaz ho hd hr) (by simp)
 . rename_i f fs cs ho
   split
   . rename_i hfs
     have hfs':fs=#[]:=by rw [<-Array.toArray_toList (xs:=fs),hfs]
     subst hfs'
     split
     . split<;>trivial
     . split
       . rename_i hnt;exact xr2 (fun d η' hd _ hr=>zdj (xs:=cs.toList) (by rw [ho]) hd hnt hr) (by simp)
       . trivial
   . trivial
 . rename_i S D x ho;unfold zwu
   split
   . rename_i e hS hD
     split
     . rename_i he
       split
       . rename_i l bs hb
         split
         . rename_i d hd;exact vwc ho hd hS he hD hb
         . trivial
       . trivial
     . trivial
   . rename_i t hS hD
     split
     . rename_i j b off T n hj hb
       split
       . rename_i hsz;exact y54 (fun v d e hd=>by cases e;exact v1a ho hd hS hD hj (by simpa using hsz) hb)
       . trivial
     . trivial
   . rename_i u hS hD
     split
     . rename_i j b off T n hj hb
       split
       . rename_i hl;exact y54 (fun v d e hd=>by cases e;exact y7t ho hd hS hD hj hl hb)
       . trivial
     . trivial
   . exact x5j
 . rename_i c ho;obtain ⟨ce,args,ats⟩:=c;dsimp only
   split
   . rename_i x;unfold y2d
     have hG:∀ f caps rd rh,vmx Γ P o σ η nb (y2d.callG Γ (z7i lit fn) σ η o args.toList f caps rd rh):=fun f caps rd rh=>by
      unfold y2d.callG
      split
      . trivial
      . split<;>trivial
     split
     . rename_i f
       split
       . rename_i hne
         split
         . rename_i y hy
           have:=zz1 hy
           subst this;exact y54 (fun v d e hd=>by cases e;exact vcc ho hd hne)
         . trivial
       . exact hG _ _ _ _
     . split
       . split<;>trivial
       . split
         . exact hG _ _ _ _
         . trivial
     . trivial
   . rename_i b
     split
     . split
       . rename_i x T hx hT;have h1:=zz1 hx;have h2:=vkw hT;subst h1;subst h2
         split
         . refine znf (fun ti hti=>?_)
           split
           . rename_i rh n hl;exact y54 (fun v d e hd=>by cases e;exact vd0 ho hd hti hl)
           . trivial
         . exact x5j
       . trivial
     . split
       . rename_i x y T U hx hT;have h1:=z8i hx;have h2:=yh4 hT;subst h1;subst h2
         split
         . rename_i hTU;subst hTU;refine znf (fun ti hti=>?_)
           split
           . rename_i e es eb ik hsh;unfold opH.appO
             split
             . rename_i ob cc k TT cy bs hD hS
               split
               . rename_i c' hj
                 split
                 . rename_i hob;have harr:=wr3 hS
                   have harrD:∀ b,ob=some b->y20 (gB η b)=true:=fun b e1=>by subst e1;exact zuw hD
                   refine xr2 (fun d η' hd he hr=>?_) (fun p hp=>?_)
                   . have hg:∀ b∈bs,gB η' b=gB η b:=fun b hb=>y15 he (harr b hb)
                     have hA:w5n η' nb e es eb ik (opdS Γ σ x) (opdS Γ σ y)=some (ob.toList++bs,frzE η' bs++(zgw ob++[(nb,.arr c' k (appT TT e))]),.one (.sl nb es 0 c'.cnt)):=by
                      unfold w5n;rw [v7t hD (fun b e1=>y15 he (harrD b e1)),w4b hS hg];simp only [hj,hob,if_true]
                     have:=xow ho hd hti hsh hA hr
                     rw [xuq hg,<-List.append_assoc] at this;exact this
                   . rcases List.mem_append.1 hp with hp | hp
                     . exact vne harr p hp
                     . cases ob with
                       | none=>cases hp
                       | some b=>
                        simp only [zgw,List.mem_singleton] at hp;subst hp;exact xtx (harrD b rfl)
                 . trivial
               . trivial
             . trivial
           . trivial
         . trivial
       . trivial
     . split
       . rename_i x hx;have h1:=zz1 hx;subst h1;exact y54 (fun v d e hd=>zqy ho hd e)
       . trivial
     . split
       . rename_i x y pt it d hx hT hd;have h1:=z8i hx;have h2:=yh4 hT;subst h1;subst h2
         split
         . rename_i b l hu;exact s_us ho hd hu
         . trivial
       . trivial
     . exact x5j
     . exact x5j
     . trivial
   . trivial
 . exact v0g
end Go.Hp
