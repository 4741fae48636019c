/- The proof, part Q9: Hl, M0, Hm. -/
import Derived.Test.YtkbkjjahlafhoaaGreatDoorQ8
import Derived.Test.YtkbkjjahlafhoaaGreatDoorQ3
import Derived.Lib.Builder
import Derived.LaidEql
import Derived.Laws.Externs
import Derived.KernelRfl
namespace Go.Hp
open Go Go.RowKit Go.Slot
variable {P:Program} {Γ:List (Nat×List Cell)}
variable {T t S D:TypeId} {j:TypeInfo} {x y:Operand} {b d off:Nat} {o:Oper} {J:List SV} {η:List SB} {v:SV} {f:FuncId} {ts:Array TypeId}
def zvh:SV->Option Bool
 | .one (.dat (.raw (.pointer none)))=>some true
 | .one (.ptr _ _) | .one (.pel _ _ _ _) | .elt _=>some false
 | _=>none
def vat:SV->SV->Bool
 | .one (.ptr b f),.one (.ptr b' f')=>b==b'&&f==f'
 | _,_=>false
def y72 (op:BinOp) (x y:SV):Option SV:=match zvh y with
 | some true=>match zvh x with
  | some r=>(eqOf op r).map fun b=>.one (.dat (.raw (.bool b)))
  | none=>none
 | _=>match vat x y with
  | true=>(eqOf op true).map fun b=>.one (.dat (.raw (.bool b)))
  | false=>none
theorem vmo (hT:P.underlying T=some (.pointer t)) (v:Value) (r:Bool) (hv:(r=true/\v=.pointer none)\/(r=false/\∃ a,v=.pointer (some a))) (d:Nat) (w:World):(Op.equalIn (d+1) T v (.pointer none)).run P w=.ok r w:=by
 rcases hv with ⟨rfl,rfl⟩ | ⟨rfl,a,rfl⟩<;>simp [Op.equalIn,y9m hT]
theorem zts (hT:P.underlying T=some (.pointer t)) (ht:P.info? t=some j) (a:Addr) (d:Nat) (w:World):(Op.equalIn (d+1) T (.pointer (some a)) (.pointer (some a))).run P w=.ok true w:=by
 simp [Op.equalIn,y9m hT,sizeOf,typeInfo,ht,run_sameAddr_same]
theorem z7q {op:BinOp} {x y:Option Addr} {r b:Bool} (hb:eqOf op r=some b) (h:∀ d w,(Op.equalIn (d+1) T (.pointer x) (.pointer y)).run P w=.ok r w) (w:World):(binOp op T (.pointer x) (.pointer y)).run P w=.ok (.bool b) w:=by
 unfold eqOf at hb
 split at hb<;>first | (cases hb;done) | skip
 . cases hb;simp only [binOp];simp [Op.equal,Op.maxDepth,h 9999]
 . cases hb;simp only [binOp];simp [Op.equal,Op.maxDepth,h 9999]
theorem zzh {op:BinOp} {U:TypeId} (ho:o.op=.binOp op T x y U) (hdst:o.dst=some d) (hT:P.underlying T=some (.pointer t)) (ht:P.info? t=some j)
 (h:y72 op (opdS Γ J x) (opdS Γ J y)=some v):x6g Γ P o J η (d::(orr x++orr y)) [] [(d,v)] []:=by
 refine x6g.pure hdst (fun E ρ J' η' a w hag hah hI=>?_);have hx:=hI.opd x;have hy:=hI.opd y;rw [hag.opd (fun t ht=>by simp [ht])] at hx hy
 have nilv:∀{v:Value} {s:SV} {r:Bool},SVR η' ρ (MX E.Mo ρ η') w v s->zvh s=some r->(r=true/\v=.pointer none)\/(r=false/\∃ a,v=.pointer (some a)):=fun {v s r} hv hr=>by
  unfold zvh at hr
  split at hr<;>first | (cases hr;done) | (cases hr;skip)
  . exact .inl ⟨rfl,RdC.v7q hv⟩
  . exact .inr ⟨rfl,_,hv.2⟩
  . exact .inr ⟨rfl,_,hv.2⟩
  . obtain ⟨b,oo,vs,e,_⟩:=hv;exact .inr ⟨rfl,_,e⟩
 have hexec:∀(ax ay:Option Addr) (b:Bool),a.eval x=.pointer ax->a.eval y=.pointer ay->(binOp op T (.pointer ax) (.pointer ay)).run P w=.ok (.bool b) w->(execOp a.eval o).run P w=.ok (.value (.bool b)) w:=fun ax ay b e1 e2 hr=>by
  have hg:∀ ox oy,(eqGuard op T ox oy (.pointer ax) (.pointer ay)).run P w=.ok () w:=fun ox oy=>by cases op<;>simp [eqGuard]
  unfold execOp;rw [ho];simp only [e1,e2,Sem.run_bind,hg,Result.andThen_ok,hr,Sem.run_pure]
 unfold y72 at h;split at h
 . rename_i hny;split at h
   . rename_i r hnx;obtain ⟨b,hb,rfl⟩:=Option.map_eq_some_iff.1 h
     rcases nilv hy hny with ⟨_,e2⟩ | ⟨e,_⟩
     . have hv:=nilv hx hnx
       have hv':∃ ax,a.eval x=.pointer ax:=by rcases hv with ⟨_,e⟩ | ⟨_,ad,e⟩<;>exact ⟨_,e⟩
       obtain ⟨ax,ex⟩:=hv';refine ⟨.bool b,hexec ax none b ex e2 (z7q hb (fun d w=>vmo hT _ r (by rw [<-ex];exact hv) d w) w),RdC.raw rfl⟩
     . cases e
   . cases h
 . split at h
   . rename_i hs;obtain ⟨b,hb,rfl⟩:=Option.map_eq_some_iff.1 h
     have hsv:∃ bb f,opdS Γ J x=.one (.ptr bb f)/\opdS Γ J y=.one (.ptr bb f):=by
      generalize opdS Γ J x=sx at hs;generalize opdS Γ J y=sy at hs;unfold vat at hs;split at hs
      . simp only [Bool.and_eq_true,beq_iff_eq] at hs;obtain ⟨rfl,rfl⟩:=hs;exact ⟨_,_,rfl,rfl⟩
      . cases hs
     obtain ⟨bb,f,e1,e2⟩:=hsv;rw [e1] at hx;rw [e2] at hy;exact ⟨.bool b,hexec _ _ b hx.2 hy.2 (z7q hb (fun d w=>zts hT ht _ d w) w),RdC.raw rfl⟩
   . cases h
def z0o (η:List SB):SV->Option (Nat×Nat×TypeId×Nat)
 | .one (.ptr b off)=>match gB η b with
  | .box hs (some T)=>if off<hs.length then some (b,off,T,hs.length) else none
  | _=>none
 | _=>none
theorem vv9 {E : HEnv} {ρ : Nat → Value} {J' : List SV} {η':List SB} {a : Act} {w : World} (hI : RI Γ E ρ J' η' a w) {v : Value} {x : SV} {n:Nat} (h : z0o η x = some (b, off, T, n)) (hb : gB η' b = gB η b) (hx : SVR η' ρ (MX E.Mo ρ η') w v x) :
 x=.one (.ptr b off)/\∃ ad:Addr,v=.pointer (some ad)/\ad.off=off/\off<n/\w.shape? ad.block=some (T,n):=by
 unfold z0o at h;split at h
 . rename_i b' off';split at h
   . rename_i hs T' hg;split at h
     . rename_i hlt
       cases h
       have hg':gB η' b=.box hs (some T):=by rw [hb];exact hg
       obtain ⟨bb,vs,T2,e,hh,hr,hT⟩:=hI.sbr hg' (by simp)
       have hbk:bk (ρ b)=bb:=by rw [e];rfl
       refine ⟨rfl,_,hx.2,rfl,hlt,?_⟩;simp only [hbk];unfold World.shape?;rw [hh,hT T rfl];simp [hr.length]
     . cases h
   . cases h
 . cases h
theorem xen {n:Nat} (ho:o.op=.convert S D x) (hdst:o.dst=some d) (hS:P.underlying S=some (.pointer t)) (hD:P.underlying D=some .unsafePointer) (ht:P.info? t=some j) (hj:j.size≠0)
 (hb:z0o η (opdS Γ J x)=some (b,off,T,n)):x6g Γ P o J η (d::orr x) [b] [(d,.one (.ptr b off))] []:=by
 refine x6g.pure hdst (fun E ρ J' η' a w hag hah hI=>?_);have hx:=hI.opd x;rw [hag.opd (fun t ht=>by simp [ht])] at hx;obtain ⟨e0,ad,e1,e2,e3,e4⟩:=vv9 hI hb (hah.gB (by simp)) hx;rw [e0] at hx;have hrun:=Go.Lib.run_to_unsafe (P:=P) w ad hS hD ht hj e4 (by omega);refine ⟨a.eval x,?_,hx⟩;unfold execOp;rw [ho];simp only [e1,Sem.run_bind,hrun,Result.andThen_ok,Sem.run_pure]
theorem wck {u:TypeId} {n:Nat} (ho:o.op=.convert S D x) (hdst:o.dst=some d) (hS:P.underlying S=some .unsafePointer) (hD:P.underlying D=some (.pointer u)) (hu:P.info? u=some j)
 (hlies:liesAt P P.depth T (n / P.cellsOf T) off u 1=true) (hb:z0o η (opdS Γ J x)=some (b,off,T,n)):x6g Γ P o J η (d::orr x) [b] [(d,.one (.ptr b off))] []:=by
 refine x6g.pure hdst (fun E ρ J' η' a w hag hah hI=>?_);have hx:=hI.opd x;rw [hag.opd (fun t ht=>by simp [ht])] at hx;obtain ⟨e0,ad,e1,e2,e3,e4⟩:=vv9 hI hb (hah.gB (by simp)) hx;rw [e0] at hx;have hrun:=Go.Lib.run_from_unsafe (P:=P) w ad hS hD hu e4 (by rw [e2];exact hlies);refine ⟨a.eval x,?_,hx⟩;unfold execOp;rw [ho];simp only [e1,Sem.run_bind,hrun,Result.andThen_ok,Sem.run_pure]
def ygu (P:Program) (f:FuncId):Bool:=match P.funcs[f]? with
 | some fn=>fn.body.isNone&&fn.name == "internal/abi.NoEscape" &&fn.origin == ""
 | none=>false
theorem wx2:Extern.allNextRows.lookup "internal/abi.NoEscape" = none/\Extern.allNextRows.lookup "" = none/\Extern.allGenericRows.lookup "internal/abi.NoEscape" = none/\Extern.allTypedRows.lookup "internal/abi.NoEscape" = none:=by
 refine ⟨?_,?_,?_,?_⟩<;>kernel_rfl
theorem ygd:Extern.allRows.lookup "internal/abi.NoEscape" = some Extern.AbiNoEscape.same:=by kernel_rfl
theorem zt7 (h:ygu P f=true) (v:Value) (w:World):(callFunc f #[v]).run P w=.ok (.value v) w:=by
 unfold ygu at h;split at h
 . rename_i fn hf;simp only [Bool.and_eq_true,beq_iff_eq] at h;obtain ⟨⟨hb,hn⟩,ho⟩:=h;obtain ⟨r1,r2,r3,r4⟩:=wx2
   have h1:Extern.findNext fn=none:=by
    unfold Extern.findNext;simp only [hn,ho,r1,r2,Option.map_none];rfl
   have h2:Extern.find fn=some Extern.AbiNoEscape.same:=by
    unfold Extern.find;simp only [hn,ho,r3,r4,ygd,Option.map_none];rfl
   rw [run_callFunc_extern hf (by rw [hn];rfl) hb h1 h2,Go.Lib.run_noEscape];rfl
 . cases h
theorem ymp (ho:o.op=.call { callee:=.value (.func f),args:=#[x],argTypes:=ts }) (hdst:o.dst=some d) (hf:ygu P f=true):x6g Γ P o J η (d::orr x) [] [(d,opdS Γ J x)] []:=by
 refine x6g.pure hdst (fun E ρ J' η' a w hag hah hI=>?_);have hx:=hI.opd x;rw [hag.opd (fun t ht=>by simp [ht])] at hx;refine ⟨a.eval x,?_,hx⟩;have hrun:=zt7 hf (a.eval x) w;have he:a.eval (.func f)=.func (.func f) #[] #[]:=rfl;unfold execOp;rw [ho];simp [resolve,Deferred.ofValue,he,invoke,hrun]
def usdH:SV->Option SV
 | .one (.sl b 1 0 n)=>if 0<n then some (.one (.pel b 1 0 0)) else none
 | _=>none
theorem xyi (ho:o.op=.call { callee:=.builtin .unsafeSliceData,args:=#[x],argTypes:=ts }) (hdst:o.dst=some d) (h:usdH (opdS Γ J x)=some v) :
 x6g Γ P o J η (d::orr x) [] [(d,v)] []:=by
 refine x6g.pure hdst (fun E ρ J' η' a w hag hah hI=>?_);have hx:=hI.opd x;rw [hag.opd (fun t ht=>by simp [ht])] at hx;unfold usdH at h;split at h
 . rename_i b n e;split at h
   . rename_i hn
     cases h;rw [e] at hx;obtain ⟨hob,ad,cap,hv,hle,hcap⟩:=hx;obtain ⟨_,had,_⟩:=hcap (by omega);subst had;refine ⟨.pointer (some ⟨bk (ρ b),0*1,none⟩),?_,hob,rfl⟩;rw [vli ho,show (#[x]:Array Operand).map a.eval=#[a.eval x] from by simp,hv];simp only [builtin,Sem.run_bind,Go.Lib.run_unsafeSliceData_row w ts o.type ⟨bk (ρ b),0*1,none⟩ n cap (by omega)];rfl
   . cases h
 . cases h
def w3s (P:Program) (t:TypeId):Option TypeId:=match P.underlying t with
 | some (.pointer e)=>some e
 | _=>none
theorem xah {e:TypeId} (h:w3s P t=some e):P.underlying t=some (.pointer e):=by
 unfold w3s at h;split at h
 . rename_i e' hu;cases h;exact hu
 . cases h
def xrp (n:Int):Bool:=decide (0<=n)&&decide (n<256)
def usH (P:Program) (η:List SB) (pt:TypeId) (x y:SV):Option (Nat×List Int):=match x,y with
 | .one (.pel b 1 0 0),.one (.dat (.raw (.int .i64 n)))=>match gB η b with
  | .arr (.ints .u8 l) _ (some e)=>if w3s P pt=some e/\P.cellsOf e=1/\n=(l.length:Int)/\0<l.length/\l.length<=9223372036854775807/\l.all xrp=true then some (b,l) else none
  | _=>none
 | _,_=>none
theorem World.xq8 (w:World) (a:Addr) (n k:Nat) (h:k≠a.block):(w.freeze a n).heap[k]? = w.heap[k]?:=by
 unfold World.freeze
 split
 . rfl
 . simp only [Array.getElem?_modify];rw [if_neg (Ne.symm h)]
theorem s_us {pt it:TypeId} (ho:o.op=.call { callee:=.builtin .unsafeString,args:=#[x,y],argTypes:=#[pt,it] }) (hdst:o.dst=some d) {l:List Int} (h:usH P η pt (opdS Γ J x) (opdS Γ J y)=some (b,l)) :
 x6g Γ P o J η (d::(orr x++orr y)) [b] [(d,.one (.dat (.raw (.string (strOfNums l)))))] [(b,.dead)]:=by
 refine x6g.val hdst (fun E ρ J' η' a w hag hah hI=>?_);have hx:=hI.opd x;have hy:=hI.opd y;rw [hag.opd (fun t ht=>by simp [ht])] at hx hy;unfold usH at h;split at h
 case h_2=>cases h
 rename_i b' n ex ey;split at h
 case h_2=>cases h
 rename_i l' k e hb;split at h
 case isFalse=>cases h
 rename_i hc
 cases h;obtain ⟨hpt,hce,rfl,hl0,h63,hby⟩:=hc;have hpt:=xah hpt;rw [ex] at hx;rw [ey] at hy
 have hb':gB η' b=.arr (.ints .u8 l) k (some e):=by rw [hah.gB (by simp)];exact hb
 have hbs:=w5n hb' (by simp);obtain ⟨⟨hu,hk⟩,h0 | ⟨bb,vs,q,T2,e1,hh,hr,hT⟩⟩:=hI.sbr hb' (by simp)
 . have h1:=h0.1;simp [Cell.cnt] at h1;rw [h1] at hl0;simp at hl0
 have hbk:bk (ρ b)=bb:=by rw [e1];rfl
 have hT:=hT e rfl;subst hT
 have ev:a.eval x=.pointer (some ⟨bb,0,none⟩):=by rw [hx.2,hbk]
 have ey':a.eval y=.int .i64 (l.length:Int):=RdC.v7q hy
 have hvs:vs=l.map (Value.int .u8):=v7a (k:=.u8) hr (by
  have:∀ l:List Int,v16 .u8 (l.map fun n=>Cell.raw (.int .u8 n))=some l:=by
   intro l
   induction l with
   | nil=>rfl
   | cons n l ih=>simp [v16,ih]
  exact this l)
 have hsh:w.shape? bb=some (T2,(vs++q).length):=by simp [World.shape?,hh]
 have hbyte:∀ n∈l,0<=n/\n<256:=fun n hn=>by
  have:=(List.all_eq_true.1 hby) n hn
  simpa [xrp] using this
 have hcell:∀(j:Nat) (u:UInt8),(l.map fun n=>UInt8.ofNat n.toNat)[j]? = some u->w.cell? ((⟨bb,0,none⟩:Addr).add j)=some (.int .u8 u.toNat):=fun j u hj=>by
  rw [v74,Nat.zero_add];rw [List.getElem?_map] at hj;obtain ⟨n,hn,rfl⟩:=Option.map_eq_some_iff.1 hj;have h2:=hbyte n (List.mem_of_getElem? hn)
  have h3:((UInt8.ofNat n.toNat).toNat:Int)=n:=by
   rw [UInt8.toNat_ofNat']
   have:n.toNat % 2 ^ 8=n.toNat:=Nat.mod_eq_of_lt (by omega)
   rw [this];omega
  rw [h3];exact x55 hh (by rw [hvs,List.getElem?_map,hn];rfl)
 have hrun:=Go.Lib.run_unsafeString_row (P:=P) w pt it o.type T2 hpt hce bb _ hsh (l.map fun n=>UInt8.ofNat n.toNat) (by intro e;simp at e;subst e;simp at hl0) (by simp [hvs]) (by simpa using h63) hcell;simp only [List.length_map] at hrun;have hres:(⟨(l.map fun n=>UInt8.ofNat n.toNat).toArray⟩:ByteArray)=strOfNums l:=rfl;rw [hres] at hrun;have hw1:=Went.kill hI.inv hbs
 have hfz:(w.freeze ⟨bb,0,none⟩ l.length).heap[bb]? = some (.cells (vs++q).toArray T2 (if (0:Nat)==0 then (0,0+l.length) else (min 0 0,max 0 (0+l.length)))):=by
  unfold World.freeze;rw [if_neg (by omega)];simp only [Array.getElem?_modify,if_true];rw [hh];rfl
 have hother:=fun k hk=>World.xq8 w ⟨bb,0,none⟩ l.length k hk
 have hsz:(w.freeze ⟨bb,0,none⟩ l.length).heap.size=w.heap.size:=by
  unfold World.freeze;split<;>simp
 have hos:(w.freeze ⟨bb,0,none⟩ l.length).os=w.os/\(w.freeze ⟨bb,0,none⟩ l.length).tape=w.tape/\(w.freeze ⟨bb,0,none⟩ l.length).output=w.output:=by
  unfold World.freeze;split<;>exact ⟨rfl,rfl,rfl⟩
 have hcells:∀ c oo u,w.cell? ⟨c,oo,none⟩=some u->(w.freeze ⟨bb,0,none⟩ l.length).cell? ⟨c,oo,none⟩=some u:=fun c oo u hc=>by
  by_cases e2:c=bb
  . subst e2;unfold World.cell? at hc ⊢;dsimp only at hc ⊢;rw [hh] at hc;rw [hfz];exact hc
  . unfold World.cell? at hc ⊢;dsimp only at hc ⊢;rw [hother c e2];exact hc
 have hkeep:∀ M,ydx M M w (w.freeze ⟨bb,0,none⟩ l.length):=fun M c oo u h1 h2=>⟨h1,hcells c oo u h2⟩
 have hgrow:Grow w (w.freeze ⟨bb,0,none⟩ l.length):=fun i arr T fz hi=>by
  by_cases e2:i=bb
  . subst e2;rw [hh] at hi;cases hi;exact ⟨_,_,_,hfz,Nat.le_refl _⟩
  . exact ⟨arr,T,fz,by rw [hother i e2];exact hi,Nat.le_refl _⟩
 have hnotown:∀ i z,(η'.set b .dead)[i]? = some z->z.own=true->real (ρ i)->bk (ρ i)≠bb:=fun i z hi hz hri e2=>by
  rcases wn4 hi with ⟨_,rfl⟩ | ⟨hn,hi⟩
  . cases hz
  . exact hn (hI.inv.inj i b z _ hi hbs hz rfl hri (by rw [e1];simp [real]) (by rw [hbk];exact e2))
 have hinv2:HInv Γ E.Mo ρ (η'.set b .dead) (w.freeze ⟨bb,0,none⟩ l.length):=
  ⟨fun c oo hm=>by rw [hsz];exact hw1.inv.bnd c oo hm,fun i z hi=>(hw1.inv.blk i z hi).mv ⟨fun _ h=>h,fun _ _=>rfl,hkeep _,hgrow⟩ (fun ho' hr'=>hother _ (hnotown i z hi ho' hr')),hw1.inv.inj,hw1.inv.sep,hw1.inv.glob.keep (hkeep _)⟩
 have hrb:real (ρ b):=by rw [e1];simp [real]
 refine ⟨_,w.freeze ⟨bb,0,none⟩ l.length,ρ,?_,⟨hw1.ok,hw1.rho,hw1.keep.trans (hkeep _),hgrow,hinv2,by rw [hsz];exact Nat.le_refl _,hos.1,hos.2.1,hos.2.2,fun k _ hk=>hother k (fun e2=>hk ⟨b,_,hbs,rfl,hrb,by rw [hbk];exact e2.symm⟩),fun k hk=>hw1.fresh k hk⟩,RdC.raw rfl⟩;rw [vli ho,show (#[x,y]:Array Operand).map a.eval=#[a.eval x,a.eval y] from by simp,ev,ey'];simp only [builtin,Sem.run_bind,hrun];rfl
end Go.Hp
namespace Go.Slot
open Go Go.RowKit
variable {P:Program}
def opN (P : Program) (J : List AV) (o : Oper) : OR :=
 match o.op with
 | .pick c x y=>vofA J o (orr c++orr x++orr y) (x3u J c x y)
 | .indexAddr T x y=>zj5 P T fun ti=>vofB J o (wee J ti x y)
 | .binOp op T x y _=>match nilO y with
  | true=>zj5 P T fun ti=>vofA J o (orr x) (nilA J ti op x)
  | false=>match eqOp op with
   | true=>match xm3 (opd J x) (opd J y) with
    | true=>zj5 P T fun ti=>vofA J o (orr x++orr y) (bbA ti op (opd J x) (opd J y))
    | false=>vofA J o (orr x++orr y) (binA J op x y)
   | false=>vofA J o (orr x++orr y) (binA J op x y)
 | .unOp op _ x=>vofA J o (orr x) (unA J op x)
 | .convert S D x=>zj5 P S fun ts=>zj5 P D fun td=>vofA J o (orr x) (ybp J ts td x)
 | .slice T x lo hi mx=>zj5 P T fun ti=>if x1g ti (opd J x) then vofA J o (orr x++orrO lo++orrO hi++orrO mx) (vra J ti x lo hi mx) else .bad
 | .makeSlice T x y=>zj5 P T fun ti=>yha P ti fun te=>vofA J o (orr x++orr y) (vkp J ti te x y)
 | .buildSlice T n ps=>match n with
  | 0=>zj5 P T fun ti=>vofA J o [] (wzu ti ps.toList)
  | _+1=>.bad
 | .call c=>match c.callee with
  | .builtin .len=>match c.args.toList,c.argTypes.toList with
   | [x],[T]=>zj5 P T fun ti=>if wd2 J ti x then vofB J o (lenA J x) else .bad
   | _,_=>.bad
  | .builtin .max=>match c.args.toList with
   | [x,y]=>vofA J o (orr x++orr y) (maxV true (opd J x) (opd J y))
   | _=>.bad
  | .builtin .min=>match c.args.toList with
   | [x,y]=>vofA J o (orr x++orr y) (maxV false (opd J x) (opd J y))
   | _=>.bad
  | _=>.bad
 | _=>.bad
theorem vt9 {J:List AV} {o:Oper} {rd tk:List Nat} {eff:List (Nat×AV)} (h:opN P J o=.eff rd tk eff):tk=[]/\z7c P o J rd tk eff:=by
 have nb:OR.eff rd tk eff≠.bad:=by simp
 unfold opN at h;split at h
 . rename_i c x y ho;exact x4m (fun av ha r hr=>yzz ho ha hr) h
 . rename_i T x y ho;obtain ⟨ti,hti,hk⟩:=z5c nb h;exact wao (fun rd0 av ha r hr=>zjv ho hti ha hr) hk
 . rename_i op T x y U ho;split at h
   . rename_i hnil;obtain ⟨ti,hti,hk⟩:=z5c nb h;rw [v7t hnil] at ho;exact x4m (fun av ha r hr=>y3x ho hti ha hr) hk
   . split at h
     . split at h
       . obtain ⟨ti,hti,hk⟩:=z5c nb h;exact x4m (fun av ha r hr=>zge ho hti ha hr) hk
       . exact x4m (fun av ha r hr=>yx1 ho ha hr) h
     . exact x4m (fun av ha r hr=>yx1 ho ha hr) h
 . rename_i op T x ho;exact x4m (fun av ha r hr=>wew ho ha hr) h
 . rename_i S D x ho;obtain ⟨ts,hts,hk⟩:=z5c nb h;obtain ⟨td,htd,hk⟩:=z5c nb hk;exact x4m (fun av ha r hr=>w4o ho hts htd ha hr) hk
 . rename_i T x lo hi mx ho;obtain ⟨ti,hti,hk⟩:=z5c nb h;split at hk
   . rename_i hok;refine x4m (fun av ha r hr=>x7o ho hti (fun e es eb ik hsh c hc=>?_) ha hr) hk;unfold x1g at hok;simp only [hsh,hc] at hok;refine ⟨fun k L e=>?_,fun n rows e=>?_⟩
     . rw [e] at hok;simpa using hok
     . rw [e] at hok;simpa using hok
   . cases hk
 . rename_i T x y ho;obtain ⟨ti,hti,hk⟩:=z5c nb h;obtain ⟨e,es,eb,ik,te,hs,hte,hk⟩:=xn5 nb hk;exact x4m (fun av ha r hr=>zwn ho hti (fun e' es' eb' ik' hs'=>by rw [hs] at hs';cases hs';exact hte) ha hr) hk
 . rename_i T n ps ho;split at h
   . obtain ⟨ti,hti,hk⟩:=z5c nb h;exact x4m (fun av ha r hr=>wnn (by rw [ho]) rfl hti ha hr) hk
   . cases h
 . rename_i c ho;obtain ⟨callee,args,argTypes⟩:=c;simp only at h;split at h
   . split at h
     . rename_i x T ha ht;obtain ⟨ti,hti,hk⟩:=z5c nb h;split at hk
       . rename_i hfit;rw [wmo ha,wmo ht] at ho;exact wao (fun rd0 av hb r hr=>zok ho hti hfit hb hr) hk
       . cases hk
     . cases h
   . split at h
     . rename_i x y ha;rw [wmo ha] at ho;exact x4m (fun av ha r hr=>ycx (b:=true) ho ha hr) h
     . cases h
   . split at h
     . rename_i x y ha;rw [wmo ha] at ho;exact x4m (fun av ha r hr=>ycx (b:=false) ho ha hr) h
     . cases h
   . cases h
 . cases h
attribute [go_sem] opN
end Go.Slot
namespace Go.Hp
open Go Go.RowKit Go.Slot
variable {P:Program} {Γ:List (Nat×List Cell)}
variable {T:TypeId} {tf ti:TI} {η:List SB} {off d:Nat} {x:Operand} {o:Oper} {J:List SV} {v:SV}
def xya (off:Nat) (tf:TI):SV->Option SV
 | .agg hs=>wc3 tf (hs.drop off)
 | _=>none
theorem yv0 (hok:TIok P T tf) {ρ:Nat->Value} {M:Nat->Nat->Prop} {w:World} {vs:List Value} {hs:List HC} (hr:HRL η ρ M w vs hs) {x:SV} (h:wc3 tf (hs.drop off)=some x) :
 ∃ v,(part T vs.toArray off).run P w=.ok v w/\SVR η ρ M w v x:=by
 obtain ⟨_,j,_,_,hj,_,hjs,_,_,_,_,_⟩:=hok.ex;have hr':=hr.drop off;unfold wc3 at h;split at h
 . rename_i hm;split at h
   . rename_i hle
     cases h;refine ⟨.agg ((vs.drop off).take tf.size).toArray,?_,_,rfl,hr'.take _⟩;simp [part,hok.xil hm,ynn hj,hjs,List.extract_eq_take_drop]
   . cases h
 . rename_i hm;split at h
   . rename_i c cs' hcs
     cases h;rw [hcs] at hr'
     cases hv:vs.drop off with
     | nil=>rw [hv] at hr';exact hr'.elim
     | cons v0 vs'=>
      rw [hv] at hr'
      have hg:vs[off]? = some v0:=by
       have:=congrArg (fun l=>l[0]?) hv
       simpa using this
      exact ⟨v0,by simp [part,hok.xil hm,hg],hr'.1⟩
   . cases h
 . cases h
theorem ywn {ft:TypeId} {f sz:Nat} {fs:List (Nat×Nat×TypeId)} (ho:o.op=.field T x f) (hdst:o.dst=some d) (hti:mkTI P T=some ti) (hs:ti.sh=.struct fs) (hf:fs[f]? = some (off,sz,ft)) (htf:mkTI P ft=some tf)
 (h:xya off tf (opdS Γ J x)=some v):x6g Γ P o J η (d::orr x) [] [(d,v)] []:=by
 refine x6g.pure hdst (fun E ρ J' η' a w hag hah hI=>?_);have hx:=hI.opd x;rw [hag.opd (fun t ht=>by simp [ht])] at hx;obtain ⟨dd,i,z,hd,hi',hz,_,_,_,_,_,hsh⟩:=(xat hti).ex;obtain ⟨fl,rfl,rfl,_⟩:=xqa (hsh.symm.trans hs);rw [List.getElem?_map] at hf;obtain ⟨fd,hfd,hfe⟩:=Option.map_eq_some_iff.1 hf
 cases hfe
 have hfa:fl[f]? = some fd:=by simpa using hfd
 unfold xya at h;split at h
 . rename_i hs' e;rw [e] at hx;obtain ⟨vs,hv,hr⟩:=hx;obtain ⟨u,h1,h2⟩:=yv0 (xat htf) hr h;exact ⟨u,by simp [execOp,ho,Instr.field,asAgg,hv,y9m hd,hfa,h1],h2⟩
 . cases h
theorem ys0 {e:TypeId} {y:Operand} {n es:Nat} {k:IntKind} {ix:Int} (ho:o.op=.index T x y) (hdst:o.dst=some d) {te:TI} (hti:mkTI P T=some ti) (hs:ti.sh=.array n e es) (hte:mkTI P e=some te)
 (hy:opdS Γ J y=.one (.dat (.raw (.int k ix)))) (h0:0<=ix/\ix<n) (hes:es=te.size) (h:xya (ix.toNat*es) te (opdS Γ J x)=some v):x6g Γ P o J η (d::(orr x++orr y)) [] [(d,v)] []:=by
 refine x6g.pure hdst (fun E ρ J' η' a w hag hah hI=>?_);have hx:=hI.opd x;have hyr:=hI.opd y;rw [hag.opd (fun t ht=>by simp [ht])] at hx hyr;rw [hy] at hyr;have ey:a.eval y=.int k ix:=RdC.v7q hyr;obtain ⟨dd,i,z,hd,hi',hz,_,_,_,_,_,hsh⟩:=(xat hti).ex;obtain ⟨rfl,_⟩:=wys (hsh.symm.trans hs);have hok:=xat hte;obtain ⟨_,j,_,_,hj,_,hjs,_,_,_,_,_⟩:=hok.ex;unfold xya at h;split at h
 . rename_i hs' ex;rw [ex] at hx;obtain ⟨vs,hv,hr⟩:=hx;obtain ⟨u,h1,h2⟩:=yv0 hok hr h;exact ⟨u,by simp [execOp,ho,Instr.index,asIntOf,hv,ey,y9m hd,h0.1,h0.2,ynn hj,hjs,<-hes,h1],h2⟩
 . cases h
inductive HO where
 | eff (rd rh:List Nat) (eff:List (Nat×SV)) (heff:List (Nat×SB)) (new:Option SB)
 | callD (f:FuncId) (l:List AV) (rd rh bs:List Nat)
 | callF (p:(Nat->Nat->Prop)->World->Value->Prop) (l:List AV) (rd bs:List Nat)
 | callH (f:FuncId) (l:List SV) (rd:List Nat)
 | mk (f:FuncId) (caps:List AV) (rd bs:List Nat)
 | look (r:Option SV) (zero:SV) (ok:Bool) (rd rh:List Nat)
 | bad
def w3q (P:Program) (t:TypeId) (k:TI->HO):HO:=match mkTI P t with
 | some ti=>k ti
 | none=>.bad
def vO (o:Oper) (rd rh:List Nat):Option SV->HO
 | some x=>match o.dst with
  | some d=>.eff (d::rd) rh [(d,x)] [] none
  | none=>.bad
 | none=>.bad
def nO (o:Oper) (rd rh:List Nat) (x:SV) (heff:List (Nat×SB)) (b:SB):HO:=match o.dst with
 | some d=>.eff (d::rd) rh [(d,x)] heff (some b)
 | none=>.bad
def isNil {α:Type}:List α->Bool
 | []=>true
 | _=>false
def oldR (d nb:Nat):OR->HO
 | .eff rd tk [(d',av)]=>if isNil tk&&d'==d then match av2 nb av with
  | some (x,ob)=>.eff rd [] [(d,x)] [] ob
  | none=>.bad
  else .bad
 | _=>.bad
def oldO (P:Program) (J:List SV) (nb:Nat) (o:Oper):HO:=match o.dst with
 | some d=>if xei o.op=true/\d<J.length then oldR d nb (opN P (J.map vw) o) else .bad
 | none=>.bad
def x96:SV->SV->Option SV
 | .one (.dat (.raw (.string s))),.one (.dat (.raw (.int _ i)))=>if 0<=i/\i<s.size then some (.one (.dat (.raw (.int .u8 (vpd s i.toNat))))) else none
 | _,_=>none
def intS:SV->Option Int
 | .one (.dat (.raw (.int _ i)))=>some i
 | _=>none
inductive CK where
 | agg
 | ptr
 | other
def ckH:SV->SV->CK
 | .agg _,_=>.agg
 | .one (.ptr _ _),_=>.ptr
 | .one (.pel _ _ _ _),_=>.ptr
 | .elt _,_=>.ptr
 | .one (.dat (.raw (.pointer _))),_=>.ptr
 | _,_=>.other
def y3k:SV->Bool
 | .one (.sl _ _ _ _)=>true
 | _=>false
def zv7:SV->Bool
 | .one (.sl _ _ _ _)=>true
 | .one (.mp _)=>true
 | _=>false
def wkc (_o:Oper) (ok:Bool) (rd rh:List Nat):Option (Option SV)->Option SV->HO
 | some r,some z=>.look r z ok rd rh
 | _,_=>.bad
def opP (P:Program) (Γ:List (Nat×List Cell)) (J:List SV) (η:List SB) (nb:Nat) (o:Oper):HO:=
 match o.op with
 | .move x=>vO o (orr x) [] (some (opdS Γ J x))
 | .assign x=>vO o (orr x) [] (some (opdS Γ J x))
 | .pick c x y=>match z0q (opdS Γ J c) (opdS Γ J x) (opdS Γ J y) with
  | some v=>vO o (orr c++orr x++orr y) [] (some v)
  | none=>oldO P J nb o
 | .load T x=>w3q P T fun ti=>match seeH η (opdS Γ J x) with
  | some (rh,hs)=>vO o (orr x) rh (wc3 ti hs)
  | none=>.bad
 | .store T x y=>match o.dst with
  | none=>w3q P T fun ti=>match xb6 (opdS Γ J y) with
   | some us=>if us.length=ti.size then match zj0 η ti.size (opdS Γ J x) us with
    | some (b,z)=>.eff (orr x++orr y) [b] [] [(b,z)] none
    | none=>.bad
    else .bad
   | none=>.bad
  | some _=>.bad
 | .fieldAddr S x f=>w3q P S fun ti=>match ti.sh with
  | .struct fs=>match fs[f]? with
   | some (off,_,_)=>vO o (orr x) [] (z9y (opdS Γ J x) off)
   | none=>.bad
  | _=>.bad
 | .indexAddr T x y=>w3q P T fun ti=>match vpm ti.sh (opdS Γ J x) (opdS Γ J y) with
  | some v=>vO o (orr x++orr y) [] (some v)
  | none=>oldO P J nb o
 | .extract x n=>vO o (orr x) [] (wza (opdS Γ J x) n)
 | .nilCheck x=>if ptrH (opdS Γ J x)=true then vO o (orr x) [] (some (opdS Γ J x)) else .bad
 | .binOp op T x y _=>match ckH (opdS Γ J x) (opdS Γ J y) with
  | .agg=>vO o (orr x++orr y) [] (wyv P T op (opdS Γ J x) (opdS Γ J y))
  | .ptr=>match w3s P T with
   | some t=>match P.info? t with
    | some _=>vO o (orr x++orr y) [] (y72 op (opdS Γ J x) (opdS Γ J y))
    | none=>.bad
   | none=>.bad
  | .other=>oldO P J nb o
 | .unOp _ _ _=>oldO P J nb o
 | .makeSlice _ _ _=>oldO P J nb o
 | .slice T x lo hi mx=>match y3k (opdS Γ J x) with
  | true=>match mx with
   | none=>w3q P T fun ti=>vO o (orr x++orrO lo++orrO hi) [] (vaw Γ J ti.sh (opdS Γ J x) lo hi)
   | some _=>.bad
  | false=>oldO P J nb o
 | .build T ps=>w3q P T fun ti=>if z01 ti=true/\ti.sh.agg=true then vO o (orrs ps.toList) [] ((zyg (placeOf ti.sh) (ti.zc.map .dat) (zrj Γ J ps.toList)).map .agg) else .bad
 | .field T x f=>w3q P T fun ti=>match ti.sh with
  | .struct fs=>match fs[f]? with
   | some (off,_,ft)=>w3q P ft fun tf=>vO o (orr x) [] (xya off tf (opdS Γ J x))
   | none=>.bad
  | _=>.bad
 | .index T x y=>w3q P T fun ti=>match ti.sh with
  | .array n e es=>w3q P e fun te=>match intS (opdS Γ J y) with
   | some ix=>if (0<=ix/\ix<n)/\es=te.size then vO o (orr x++orr y) [] (xya (ix.toNat*es) te (opdS Γ J x)) else .bad
   | none=>.bad
  | .string=>vO o (orr x++orr y) [] (x96 (opdS Γ J x) (opdS Γ J y))
  | _=>.bad
 | .lookup T x y ok=>w3q P T fun ti=>match ti.sh with
  | .map kt et=>w3q P kt fun tk=>match wox η (opdS Γ J x),keyX (opdS Γ J y) with
   | some (b,es),some k=>if xg7 P kt tk.sh k=true then wkc o ok (vf6 o++(orr x++orr y)) [b] (y6f es k) (zxg P et) else .bad
   | _,_=>.bad
  | _=>.bad
 | .mapUpdate T x y z=>match o.dst with
  | none=>w3q P T fun ti=>match ti.sh with
   | .map kt _=>w3q P kt fun tk=>match wox η (opdS Γ J x),keyX (opdS Γ J y) with
    | some (b,es),some k=>if xg7 P kt tk.sh k=true/\y5y (opdS Γ J z)=true then match updM es k (opdS Γ J z) with
     | some es'=>.eff (orr x++orr y++orr z) [b] [] [(b,.map es')] none
     | none=>.bad
     else .bad
    | _,_=>.bad
   | _=>.bad
  | some _=>.bad
 | _=>.bad
def yc3 (P:Program) (Γ:List (Nat×List Cell)) (J:List SV) (η:List SB) (nb:Nat) (o:Oper) (S D:TypeId) (x:Operand):HO:=match P.underlying S,P.underlying D with
 | some (.slice e),some .string=>match P.underlying e with
  | some (.int .u8)=>match zpa η (opdS Γ J x) with
   | some (l,bs)=>match o.dst with
    | some d=>.eff (d::orr x) bs [(d,.one (.dat (.raw (.string (strOfNums l)))))] (frzE η bs) none
    | none=>.bad
   | none=>.bad
  | _=>.bad
 | some (.pointer t),some .unsafePointer=>match P.info? t,z0o η (opdS Γ J x) with
  | some j,some (b,off,_,_)=>if j.size != 0 then vO o (orr x) [b] (some (.one (.ptr b off))) else .bad
  | _,_=>.bad
 | some .unsafePointer,some (.pointer u)=>match P.info? u,z0o η (opdS Γ J x) with
  | some _,some (b,off,T,n)=>if liesAt P P.depth T (n / P.cellsOf T) off u 1 then vO o (orr x) [b] (some (.one (.ptr b off))) else .bad
  | _,_=>.bad
 | _,_=>oldO P J nb o
def ys6:Bool->Bool->Bool
 | false,false=>true
 | _,_=>false
def xb0 (own:Bool) (η:List SB) (l:List SV):Option (List AV×List Nat):=match own with
 | true=>none
 | false=>y7w η l
theorem zfb {own:Bool} {l:List SV} {r:List AV×List Nat} (h:xb0 own η l=some r):y7w η l=some r:=by
 cases own with
 | true=>cases h
 | false=>exact h
def wz2 (P:Program) (Γ:List (Nat×List Cell)) (own:Bool) (J:List SV) (η:List SB) (o:Oper) (x:Operand) (xs:List Operand):HO:=match x with
 | .func f=>if ygu P f=true then match xs with
  | [y]=>vO o (orr y) [] (some (opdS Γ J y))
  | _=>.bad
  else callG f [] [] []
 | .tmp t=>match gtS J t with
  | .one (.dat (.fnp p))=>match y7w η (vnq Γ J xs) with
   | some (l,bs)=>.callF p l (vf6 o++t::orrL xs) bs
   | none=>.bad
  | _=>match z8h Γ J η (.tmp t) with
   | some (f,caps,rd,rh)=>callG f caps rd rh
   | none=>.bad
 | _=>.bad
where callG (f:FuncId) (caps:List SV) (rd rh:List Nat):HO:=match xb0 own η (vnq Γ J xs++caps) with
 | some (l,bs)=>.callD f l (vf6 o++rd++orrL xs) rh bs
 | none=>match zt0 (vnq Γ J xs) with
  | true=>.callH f (vnq Γ J xs++caps) (vf6 o++rd++orrL xs)
  | false=>.bad
def opH (P:Program) (Γ:List (Nat×List Cell)) (lit fn:Bool) (J:List SV) (η:List SB) (nb:Nat) (o:Oper):HO:=
 match o.op with
 | .alloc T=>w3q P T fun ti=>nO o [] [] (.one (.ptr nb 0)) [] (.box (ti.zc.map .dat) (some T))
 | .box T x=>match xb6 (opdS Γ J x) with
  | some hs=>nO o (orr x) [] (.one (.ptr nb 0)) [] (.box hs (some T))
  | none=>.bad
 | .buildSlice T n ps=>match n with
  | 0=>oldO P J nb o
  | n + 1 => w3q P T fun ti => match ti.sh with
   | .slice e es _ ik=>w3q P e fun te=>match litH Γ J η es ik te.zc (n+1) ps.toList with
    | some (c,bs)=>match lit with
     | true=>match o.dst with
      | some d=>.eff (d::orrs ps.toList) bs [(d,.one (.dat c))] (frzE η bs) none
      | none=>.bad
     | false=>nO o (orrs ps.toList) bs (.one (.sl nb es 0 (n+1))) (frzE η bs) (.arr c 0 (some e))
    | none=>.bad
   | _=>.bad
 | .makeMap _ none=>nO o [] [] (.one (.mp nb)) [] (.map [])
 | .makeFunc (.func f) fs cs=>match fs.toList with
  | []=>match fn with
   | true=>match y7w η (vnq Γ J cs.toList),o.dst with
    | some (l,bs),some d=>.mk f l (d::orrL cs.toList) bs
    | _,_=>.bad
   | false=>match zt0 (vnq Γ J cs.toList) with
    | true=>nO o (orrL cs.toList) [] (.one (.fnr nb)) [] (.clo f (vnq Γ J cs.toList))
    | false=>.bad
  | _=>.bad
 | .convert S D x=>yc3 P Γ J η nb o S D x
 | .call c => match c.callee with
  | .value x=>wz2 P Γ (ys6 lit fn) J η o x c.args.toList
  | .builtin b=>match b with
   | .len=>match c.args.toList,c.argTypes.toList with
    | [x],[T]=>match zv7 (opdS Γ J x) with
     | true=>w3q P T fun ti=>match lenH η ti.sh (opdS Γ J x) with
      | some (rh,n)=>vO o (orr x) rh (some (.one (.dat (.raw (.int .i64 (n:Int))))))
      | none=>.bad
     | false=>oldO P J nb o
    | _,_=>.bad
   | .append=>match c.args.toList,c.argTypes.toList with
    | [x,y],[T,U]=>if T=U then w3q P T fun ti=>match ti.sh with
     | .slice e es eb ik=>appO (opdS Γ J x) (opdS Γ J y) (orr x++orr y) e es eb ik
     | _=>.bad
     else .bad
    | _,_=>.bad
   | .unsafeSliceData=>match c.args.toList with
    | [x]=>vO o (orr x) [] (usdH (opdS Γ J x))
    | _=>.bad
   | .unsafeString=>match c.args.toList,c.argTypes.toList,o.dst with
    | [x,y],[pt,_],some d=>match usH P η pt (opdS Γ J x) (opdS Γ J y) with
     | some (b,l)=>.eff (d::(orr x++orr y)) [b] [(d,.one (.dat (.raw (.string (strOfNums l)))))] [(b,.dead)] none
     | none=>.bad
    | _,_,_=>.bad
   | .max=>oldO P J nb o
   | .min=>oldO P J nb o
   | _=>.bad
  | _=>.bad
 | _=>opP P Γ J η nb o
where appO (x y:SV) (rd:List Nat) (e:TypeId) (es eb:Nat) (ik:Option IntKind):HO:=match dstH η e es ik x,srcH η y with
 | some (ob,c,k,T),some (cy,bs)=>match vd3 es eb ik c cy with
  | some c'=>if bs.all (fun i=>ob != some i) then nO o rd (ob.toList++bs) (.one (.sl nb es 0 c'.cnt)) (frzE η bs++v0r ob) (.arr c' k (appT T e)) else .bad
  | none=>.bad
 | _,_=>.bad
end Go.Hp
