/- The proof, part Z33: A4, A0, Am, An, A5. -/
import Derived.Test.YtpkininnjhbeaaaGreatDoorZ32
import Derived.Test.YtpkininnjhbeaaaGreatDoorZ31
namespace Go.Hp
open Go Go.RowKit Go.Slot
variable {P:Program} {Γ:List (Nat×List Cell)}
variable {f:FuncId} {ηs:List SB} {res:SV}
theorem xpp.roN (φ:List Nat) {J:List SB} {args:List SV} (h:xpp Γ P f ηs args ηs res) (hn:φ.Nodup) (hb:(φ.all fun j=>Nat.blt j J.length)=true) (hp:φ.map (fun j=>J[j]?)=ηs.map (fun x=>some (rnSB (atR φ J.length) x))) :
 xpp Γ P f J (args.map (v3y (atR φ J.length))) J (rnSV (atR φ J.length) res):=by
 have hb':∀ j∈φ,j<J.length:=fun j hj=>by simpa using List.all_eq_true.1 hb j hj
 have hk:=xgt.of hp;have hc:=xpp.frame hn hb' hk (by rw [hk.1];exact Nat.le_refl _) h
 have hput:putR φ J ηs=J:=by
  apply List.ext_getElem?;intro i;by_cases hi2:i<J.length
  . by_cases hi:i∈φ
    . obtain ⟨k,hk2,rfl⟩:=List.getElem_of_mem hi
      have hkl:k<ηs.length:=by rw [hk.1];exact hk2
      have h1:=xje (ηs':=ηs) hn hb' (List.getElem?_eq_getElem hkl);rw [zj8 (List.getElem?_eq_getElem hk2)] at h1;rw [h1];have h2:=congrArg (fun l=>l[k]?) hp;simp only [List.getElem?_map,List.getElem?_eq_getElem hk2,List.getElem?_eq_getElem hkl,Option.map_some] at h2;exact (Option.some.inj h2).symm
    . exact zn3 hi2 hi
  . rw [List.getElem?_eq_none (by rw [wb2,hk.1];omega),List.getElem?_eq_none (by omega)]
 rw [hput] at hc;exact hc
theorem xpp.preN {ξ:List SB} {args:List SV} (h:xpp Γ P f ηs args ηs res) (hs:∀ r:Nat->Nat,(∀ i,i<ηs.length->r i=i)->ηs.map (rnSB r)=ηs) (ha:args.map (v3y (atR (List.range ηs.length) (ηs++ξ).length))=args) (hr:rnSV (atR (List.range ηs.length) (ηs++ξ).length) res=res):xpp Γ P f (ηs++ξ) args (ηs++ξ) res:=by
 have hc:=xpp.roN (List.range ηs.length) (J:=ηs++ξ) h List.nodup_range (List.all_eq_true.2 fun j hj=>by
  rw [List.mem_range] at hj
  simp only [List.length_append,Nat.blt_eq];omega) (by
  apply List.ext_getElem?;intro i;by_cases hi:i<ηs.length
  . have h1:=congrArg (fun l=>l[i]?) (hs _ (fun i hi=>yjm (N:=(ηs++ξ).length) hi));simp only [List.getElem?_map,List.getElem?_eq_getElem hi,Option.map_some,Option.some.injEq] at h1;simp only [List.getElem?_map,List.getElem?_range hi,List.getElem?_eq_getElem hi,Option.map_some,List.getElem?_append_left hi,h1]
  . simp [List.getElem?_eq_none (show ηs.length<=i by omega)];omega)
 rw [ha,hr] at hc;exact hc
end Go.Hp
namespace Go.Hp.T
open Go Go.RowKit Go.Slot Go.Hp Go.Slot.T
open Go.Proofs.Tryz (prog)
set_option maxRecDepth 10000
set_option maxHeartbeats 8000000
variable {Γ:List (Nat×List Cell)}
variable {T:Va} {B:Nat}
def envA (l:Va):List (Value×SV):=envM (fun f=>.agg ((afC f).map .dat)) l
theorem zy7 {s:ByteArray}:yvo (envA T) (.string s)=some ((z2f T s).map fun f=>.agg ((afC f).map .dat)):=x0f
theorem zu9 {s:ByteArray} {k:Rat} {cs:List Rat}:updM (envA T) (.string s) (.agg [.dat (.raw (.int .i64 (qF (some k)).s)),.dat (.ints .i64 (qF (some k)).L),.dat (.raw (.int .i64 (qF (some k)).t)),.dat (.ints .i64 (qF (some k)).M),.dat (.sl 4 (cs.map rowQ))])=some (envA (updF T s (k,cs))):=y5p (C:=fun f:Fm=>.agg ((afC f).map .dat)) (l:=T) (s:=s) (v:=(k,cs))
theorem vir {r:Nat->Nat} {l:Va}:rnSB r (.map (envA l))=.map (envA l):=yp7 (fun _ _=>rfl) r l
theorem vho (i j:Nat) (l:Va):swSB i j (.map (envA l))=.map (envA l):=xgc (fun _ _ _=>rfl) i j l
theorem wbm (l:Va):vb5 (.map (envA l))=[]:=xuj (fun _=>rfl) l
attribute [go_sem] wbm zy7 zu9
attribute [go_sem 20000] vir vho
abbrev mA (l:Va):SB:=.map (envA l)
abbrev rdB (n:Nat):SB:=.box [.dat (cI n),.mp 1,.mp 2] (some 127)
abbrev rdE (n:Nat) (V:Va) (T:Vt):List SB:=[rdB n,mA V,mB T]
theorem zt9 (n:Nat) (V:Va) (T:Vt):∀ r:Nat->Nat,(∀ i,i<(rdE n V T).length->r i=i)->(rdE n V T).map (rnSB r)=rdE n V T:=fun r hr=>by
 show [SB.box [.dat (cI n),.mp (r 1),.mp (r 2)] (some 127),rnSB r (mA V),rnSB r (mB T)]=_;rw [hr 1 (by show 1<3;decide),hr 2 (by show 2<3;decide),vir,zgw]
theorem w1z:CallsD Γ prog 12 [.one (cI 0)] (.agg (qC (some 0))):=oInt 0 (by decide)
theorem row0:rowQ 0=[cI 0,.ints .i64 [],cI 1,.ints .i64 [1]]:=by
 show [Cell.raw (.int .i64 (Fc.of 0).s),.ints .i64 (dig (0:Int).natAbs),.raw (.int .i64 (Fc.of 0).t),.ints .i64 (dig 1)]=_;rw [show (0:Int).natAbs=0 from rfl,y89,xxw (by decide),y89];rfl
theorem vl7 (n:Nat) (hn:n<=6):CallsD Γ prog 200 [.one (.sl 4 [rowQ 0]),.one (cI n)] (.one (.sl 4 (List.replicate n (rowQ 0)))):=by
 rw [row0]
 obtain rfl | rfl | rfl | rfl | rfl | rfl | rfl:n=0\/n=1\/n=2\/n=3\/n=4\/n=5\/n=6:=by omega
 all_goals exact CallsD.fv (N:=1000) (n:=60) OkD.none (by kernel_rfl)
theorem yfa (n:Nat) (V:Va) (T:Vt) (v:Option Rat) (hn:n<=6):xpp Γ prog 145 (rdE n V T) [.one (.ptr 0 0),.agg ((qC v).map .dat)] (rdE n V T) (.agg ((thC (numA n v)).map .dat)):=by
 have hr:CallsD Γ prog 200 [.one (.sl 4 [qC (some 0)]),.one (cI n)] (.one (.sl 4 ((List.replicate n (0:Rat)).map rowQ))):=by rw [List.map_replicate];exact vl7 n hn
 refine xpp.run [] Go.Proofs.Tryz.func145 rfl rfl ?_;simp only [Go.Proofs.Tryz.f145];refine hgR ?_
 repeat' ((first | refine hfk ?_ ?_<;>intros | refine hik ?_ | with_reducible first | refine wml (w1z) ?_ | refine ysj (w1z) ?_ | refine wml (hr) ?_ | refine ysj (hr) ?_)<;>refine hgS ?_)
 exact StH.vzq rfl (by kernel_rfl) rfl
theorem yyg {n:Nat} (V:Va) (T:Vt) (s:ByteArray) (k:Th) (hk:k.G n B) (hn:n<=6) (hB:B<=67108864) (hT:∀ s t,z2f T s=some t->t.Sm/\tbOk t=true) :
 xpp Γ prog 83 (rdE n V T) [.one (.ptr 0 0),.one (.dat (cS s)),.agg ((thC k).map .dat)] (rdE n V T) (thS (xu8 n T s k)):=by
 have hc:=hk.con (Γ:=Γ) (by omega) hB
 cases h:z2f T s with
 | none=>
  have e:xu8 n T s k=(⟨false,false,none,[]⟩,11):=by unfold xu8;rw [h];rfl
  rw [e];refine xpp.run [] Go.Proofs.Tryz.func83 rfl rfl ?_;simp only [Go.Proofs.Tryz.f83];refine hgR ?_;refine hg1 @h ?_
  repeat' ((first | refine hfk ?_ ?_<;>intros | refine hik ?_)<;>refine hgS ?_)
  exact StH.z9p rfl (by kernel_rfl) rfl rfl
 | some t=>
  obtain ⟨h1,h2⟩:=hT s t h
  have hq:qz k.c<=67108864:=by
   rcases hk.cs with ⟨i,rfl⟩ | ⟨m,cs,rfl,_,h2,_⟩
   . exact Nat.zero_le _
   . exact Nat.le_trans h2 hB
  have hL:=vud (Γ:=Γ) t k.c hq h1.n h1.u h1.r
  have e:xu8 n T s k=bif !k.con then (⟨false,false,none,[]⟩,13) else bif decide (¬(xwc t k.c).2=0) then (⟨false,false,none,[]⟩,(xwc t k.c).2) else (numA n (xwc t k.c).1,0):=by unfold xu8;rw [h];rfl
  rw [e];generalize xwc t k.c=r at hL;obtain ⟨rv,re⟩:=r;simp only at hL;generalize k.con=kc at hc;have hnum:=yfa (Γ:=Γ) n V T rv hn;refine xpp.run [] Go.Proofs.Tryz.func83 rfl rfl ?_;simp only [Go.Proofs.Tryz.f83];refine hgR ?_;refine hg1 @h ?_
  repeat' ((first | refine hfk ?_ ?_<;>intros | refine hik ?_ | with_reducible first | refine wml (hc) ?_ | refine ysj (hc) ?_ | refine wml (hL) ?_ | refine ysj (hL) ?_)<;>refine hgS ?_)
  all_goals first
   | exact StH.z9p rfl (by kernel_rfl) rfl (by simp [*])
   | skip
  refine x6x (xpp.preN hnum (zt9 n V T) rfl rfl) ?_;refine hg ?_;exact StH.vzq rfl (by kernel_rfl) (by simp [*])
theorem x7p {n:Nat} (V:Va) (T:Vt) (o:Int) (a b:Th) (ha:a.G n B) (hb:b.G n B) (hn:n<=1048576) (hB:B<=67108864) :
 xpp Γ prog 87 (rdE n V T) [.one (.ptr 0 0),.one (.dat (cI o)),.agg ((thC a).map .dat),.agg ((thC b).map .dat)] (rdE n V T) (thS (cmpA o a b)):=by
 have ca:=ha.con (Γ:=Γ) hn hB;have cb:=hb.con (Γ:=Γ) hn hB;generalize hR:cmpA o a b=R
 rcases ha.cs with ⟨i,rfl⟩ | ⟨k,cs,rfl,h1,h2,h3⟩
 . rw [show Th.con ⟨true,i,none,[]⟩=false from rfl] at ca;simp only [thC,List.map_nil] at ca;refine xpp.run [] Go.Proofs.Tryz.func87 rfl rfl ?_;simp only [Go.Proofs.Tryz.f87];refine hgR ?_
   repeat' ((first | refine hfk ?_ ?_<;>intros | refine hik ?_ | with_reducible first | refine wml (ca) ?_ | refine ysj (ca) ?_)<;>refine hgS ?_)
   exact StH.z9p rfl (by kernel_rfl) rfl hR.symm
 rcases hb.cs with ⟨i,rfl⟩ | ⟨m,ds,rfl,k1,k2,k3⟩
 . rw [show Th.con ⟨true,i,none,[]⟩=false from rfl] at cb;simp only [thC,List.map_nil] at cb
   have e:R=(⟨false,false,none,[]⟩,13):=by rw [<-hR];unfold cmpA;rw [show Th.con ⟨true,i,none,[]⟩=false from rfl,Bool.not_false,Bool.or_true];rfl
   generalize Th.con ⟨false,false,some k,cs⟩=xa at ca;refine xpp.run [] Go.Proofs.Tryz.func87 rfl rfl ?_;simp only [Go.Proofs.Tryz.f87];refine hgR ?_
   repeat' ((first | refine hfk ?_ ?_<;>intros | refine hik ?_ | with_reducible first | refine wml (ca) ?_ | refine ysj (ca) ?_ | refine wml (cb) ?_ | refine ysj (cb) ?_)<;>refine hgS ?_)
   all_goals exact StH.z9p rfl (by kernel_rfl) rfl rfl
 have hc:=oCmp (Γ:=Γ) (some k) (some m) (Nat.le_trans h2 hB) (Nat.le_trans k2 hB)
 have e:R=bif !Th.con ⟨false,false,some k,cs⟩||!Th.con ⟨false,false,some m,ds⟩ then (⟨false,false,none,[]⟩,13) else
  bif decide (o=12) then (⟨true,decide (cmpO (some k) (some m)<0),none,[]⟩,0) else bif decide (o=13) then (⟨true,decide (cmpO (some k) (some m)=0),none,[]⟩,0) else
  bif decide (o=10)==decide (cmpO (some k) (some m)<=0) then (⟨false,false,some k,cs⟩,0) else (⟨false,false,some m,ds⟩,0):=hR.symm
 generalize cmpO (some k) (some m)=c at hc e;generalize Th.con ⟨false,false,some k,cs⟩=xa at ca e;generalize Th.con ⟨false,false,some m,ds⟩=xb at cb e;clear hR ha hb;refine xpp.run [] Go.Proofs.Tryz.func87 rfl rfl ?_;simp only [Go.Proofs.Tryz.f87];refine hgR ?_
 repeat' ((first | refine hfk ?_ ?_<;>intros | refine hik ?_ | with_reducible first | refine wml (ca) ?_ | refine ysj (ca) ?_ | refine wml (cb) ?_ | refine ysj (cb) ?_ | refine wml (hc) ?_ | refine ysj (hc) ?_)<;>refine hgS ?_)
 all_goals first
  | exact StH.z9p rfl (by kernel_rfl) rfl rfl
  | exact StH.vzq rfl (by kernel_rfl) rfl
  | (exfalso;omega)
  | exact StH.z9p rfl (by kernel_rfl) rfl (by simp [*])
  | exact StH.vzq rfl (by kernel_rfl) (by simp [*])
end Go.Hp.T
namespace Go.Hp.T
open Go Go.RowKit Go.Slot Go.Hp Go.Slot.T
open Go.Proofs.Tryz (prog)
set_option maxRecDepth 10000
set_option maxHeartbeats 4000000
variable {Γ:List (Nat×List Cell)}
theorem vrt {p q:Int} (hp:1<=p) (hq:1<=q):0<Rat.divInt p q:=by
 rw [Rat.divInt_eq_div,Rat.div_def];exact Rat.mul_pos (Rat.intCast_pos.2 (by omega)) (Rat.inv_pos.2 (Rat.intCast_pos.2 (by omega)))
theorem yhe {s:ByteArray} {u:Un} (h:symF s=some u):0<u.f:=by
 unfold symF at h
 repeat' first
  | (cases h;exact vrt (by omega) (by omega))
  | (cases hc:seq s _<;>rw [hc] at h<;>simp only [cond_true,cond_false] at h)
 cases h
theorem zua {s:ByteArray} {u:Un} (h:xle s=some u):0<u.f:=by
 unfold xle at h
 cases h1:(symF s).isSome with
 | true=>rw [h1,cond_true] at h;exact yhe h
 | false=>
  rw [h1,cond_false] at h
  cases h2:(!(preF (yuk s 0)).isSome||!(symF (vp5 s 1)).isSome||!v2f (vp5 s 1)) with
  | true=>rw [h2,cond_true] at h;cases h
  | false=>
   rw [h2,cond_false] at h;split at h
   . rename_i p v hp hv
     cases h;obtain ⟨d,e⟩:=y3p hp;exact Rat.mul_pos (yhe hv) (vrt d.1 e.1)
   . cases h
theorem v63 {g:Rat->Rat} (h:∀ x,0<x->0<g x):∀(n:Nat) (a:Rat),0<a->0<iter g n a
 | 0,_,ha=>ha
 | n+1,a,ha=>v63 h n (g a) (h a ha)
theorem wom:∀(l:List It) (u v:Un),xx0 l u=some v->0<u.f->0<v.f
 | [],u,v,h,hu=>by cases h;exact hu
 | x::l,u,v,h,hu=>by
  unfold xx0 at h;split at h
  . cases h
  . rename_i w hw;have hp:=zua hw;refine wom l _ v h ?_;show 0<vhc u.f w.f x.e;unfold vhc
    cases decide (0<x.e) with
    | true=>exact v63 (fun y hy=>Rat.mul_pos hy hp) _ _ hu
    | false=>exact v63 (fun y hy=>by rw [Rat.div_def];exact Rat.mul_pos hy (Rat.inv_pos.2 hp)) _ _ hu
theorem yv0 {s : ByteArray} {u : Un} (h : xx7 s = (some u, 0)) : ytl u.d = true ∧ 0 < u.f := by
 unfold xx7 at h;split at h
 . cases h
 . split at h
   . cases h
   . rename_i l hl w hw
     cases hd:ytl w.d with
     | false=>rw [hd,cond_false] at h;cases h
     | true=>
      rw [hd,cond_true] at h
      cases h;exact ⟨hd,wom _ _ _ hw (show (0:Rat)<((1:Int):Rat) by decide)⟩
theorem zdl (n:Rat) (u:Un) (hd:ytl u.d=true) (hf:0<u.f) (h1:qs n<=67108864) (h2:qs u.f<=67108864):CallsD Γ prog 144 [.agg (qC (some n)),.agg (unQ u)] (qR (some (n*u.f)) 0):=by
 have c1:=wuc (Γ:=Γ) u.d;rw [hd] at c1;have c2:CallsD Γ prog 19 [.agg (qC (some u.f))] (.one (cB true)):=w7o (some u.f) (by show qs u.f<=_;omega);have c3:=xhi (Γ:=Γ) (qF (some u.f)) h2
 have e:Fc.sign (qF (some u.f))=1:=by
  have h:=Fc.w9s u.f
  have h':sg u.f.num=1:=by
   have h:=(Rat.lt_iff _ _).1 hf;simp only [Rat.zero_num,Rat.zero_den] at h
   have:=vvv u.f.num
   omega
  exact h.trans h'
 rw [e] at c3;have c3:CallsD Γ prog 202 [.agg (qC (some u.f))] (.one (cI 1)):=c3
 have cR:CallsD Γ prog 199 [.agg (unQ u)] (.one (cB true)):=by
  refine CallsD.run [] Go.Proofs.Tryz.func199 rfl rfl rfl ?_;simp only [Go.Proofs.Tryz.f199];refine hgR ?_
  repeat' ((first | refine hfk ?_ ?_<;>intros | refine hik ?_ | with_reducible first | refine wml (c1) ?_ | refine ysj (c1) ?_ | refine wml (c2) ?_ | refine ysj (c2) ?_ | refine wml (c3) ?_ | refine ysj (c3) ?_)<;>refine hgS ?_)
  all_goals first
   | exact RLe.ofEq rfl
   | (exfalso;omega)
 have c4:CallsD Γ prog 19 [.agg (qC (some n))] (.one (cB true)):=w7o (some n) (by show qs n<=_;omega);have c5:=oMul (Γ:=Γ) (some n) (some u.f) h1 h2;have c5:CallsD Γ prog 23 [.agg (qC (some n)),.agg (qC (some u.f))] (qR (some (n*u.f)) 0):=c5;clear c1 c2 c3;refine CallsD.run [] Go.Proofs.Tryz.func144 rfl rfl rfl ?_;simp only [Go.Proofs.Tryz.f144];refine hgR ?_
 repeat' ((first | refine hfk ?_ ?_<;>intros | refine hik ?_ | with_reducible first | refine wml (cR) ?_ | refine ysj (cR) ?_ | refine wml (c4) ?_ | refine ysj (c4) ?_ | refine wml (c5) ?_ | refine ysj (c5) ?_)<;>refine hgS ?_)
 all_goals first
  | exact RLe.ofEq rfl
  | (exfalso;omega)
end Go.Hp.T
namespace Go.Hp.T
open Go Go.RowKit Go.Slot Go.Hp Go.Slot.T
set_option maxRecDepth 10000
set_option maxHeartbeats 4000000
variable {ms:List Tb} {V:Va} {T:Vt}
section
variable {α β:Type} (nm:β->ByteArray) (val:β->α) (bad:β->Bool)
def gN (V:List (ByteArray×α)):List β->Option (List (ByteArray×α))
 | []=>some V
 | b::l=>bif bad b then none else gN (updF V (nm b) (val b)) l
end
section
variable {α β:Type} {nm:β->ByteArray} {val:β->α} {bad:β->Bool} {ok:β->Bool} {out:ByteArray->Bool}
theorem vta (d:α) (s:ByteArray):∀ V:List (ByteArray×α),(updF V s d).length=bif (z2f V s).isSome then V.length else V.length+1
 | []=>rfl
 | p::V=>by
  have ih:=vta d s V;rw [updF,z2f]
  cases seq s p.1 with
  | true=>rfl
  | false=>
   simp only [cond_false,List.length_cons,ih]
   cases (z2f V s).isSome<;>rfl
theorem ypk:∀{l:List β} {V W:List (ByteArray×α)},gN nm val bad V l=some W->W.length<=V.length+l.length
 | [],V,W,h=>by rw [gN] at h;cases h;exact Nat.le_refl _
 | b::l,V,W,h=>by
  rw [gN] at h
  cases hb:bad b with
  | true=>rw [hb] at h;cases h
  | false=>
   rw [hb] at h;have h1:=ypk h;rw [vta] at h1;rw [List.length_cons]
   cases hl:(z2f V (nm b)).isSome<;>rw [hl] at h1<;>simp only [cond_true,cond_false] at h1<;>omega
theorem wvo:∀{l:List β} {V:List (ByteArray×α)},(∀ b∈l,bad b=(out (nm b)||!isName (nm b)||isWord (nm b)||!ok b))->gE nm ok val out V l=(match gN nm val bad V l with
 | none=>none
 | some W=>bif decide (W.length=V.length+l.length) then some W else none)
 | [],V,_=>by
  show some V=bif decide (V.length=V.length+0) then some V else none
  rw [Nat.add_zero,decide_eq_true rfl];rfl
 | b::l,V,h=>by
  have hb:=h b (by simp)
  have ih:=fun V=>wvo (V:=V) (fun c hc=>h c (by simp [hc]):∀ c∈l,_)
  rw [gE,gN]
  have e:((z2f V (nm b)).isSome||out (nm b)||!isName (nm b)||isWord (nm b)||!ok b)=((z2f V (nm b)).isSome||bad b):=by
   rw [hb];simp only [Bool.or_assoc]
  rw [e]
  cases bad b with
  | true=>rw [Bool.or_true];rfl
  | false=>
   rw [Bool.or_false];have hs:=vta (val b) (nm b) V
   cases hl:(z2f V (nm b)).isSome with
   | true=>
    rw [hl] at hs;simp only [cond_true,cond_false] at hs ⊢
    cases hg:gN nm val bad (updF V (nm b) (val b)) l with
    | none=>rfl
    | some W=>
     have:=ypk hg
     have hlt:¬W.length=V.length+(b::l).length:=by rw [List.length_cons];omega
     show none=bif decide (W.length=V.length+(b::l).length) then some W else none
     rw [decide_eq_false hlt];rfl
   | false=>
    rw [hl] at hs;simp only [cond_false] at hs ⊢;rw [ih]
    cases hg:gN nm val bad (updF V (nm b) (val b)) l with
    | none=>rfl
    | some W=>
     simp only [hs,List.length_cons,show V.length+1+l.length=V.length+(l.length+1) by omega]
end
theorem vx2 (n:Nat):∀(l:List Sl) (V:Va),gS n V l=gN Sl.name Sl.val (fun s=>!isName s.name||isWord s.name||!decide (s.f.ok n)) V l
 | [],V=>rfl
 | s::l,V=>by rw [gS,gN,vx2 n l]
theorem zct (V:Va):∀(l:List Tb) (T:Vt),gTb V T l=gN Tb.name id (fun t=>(z2f V t.name).isSome||isWord t.name||!tbOk t) T l
 | [],T=>rfl
 | t::l,T=>by rw [gTb,gN,zct V l];rfl
theorem zey (a b:Nat):decide ((a:Int)=b)=decide (a=b):=decide_eq_decide.2 (by omega)
theorem y3j (ss:List Sl) (ms:List Tb):entA ss ms=entG Sl.name (fun s=>decide (s.f.ok (nOf ss))) Sl.val tbOk ss ms:=by
 unfold entA entG;rw [vx2,wvo (bad:=fun s:Sl=>!isName s.name||isWord s.name||!decide (s.f.ok (nOf ss))) (fun b _=>by rw [Bool.false_or])]
 cases gN Sl.name Sl.val (fun s=>!isName s.name||isWord s.name||!decide (s.f.ok (nOf ss))) [] ss with
 | none=>rfl
 | some V=>
  simp only [zct,zey,List.length_nil,Nat.zero_add]
  have hg:=wvo (nm:=Tb.name) (val:=id) (ok:=tbOk) (out:=fun s=>(z2f V s).isSome) (bad:=fun t:Tb=>(z2f V t.name).isSome||isWord t.name||!tbOk t) (l:=ms) (V:=[]) (fun t _=>by
   cases ht:tbOk t with
   | true=>rw [(yg5 ht).2.1];cases (z2f V t.name).isSome<;>cases isWord t.name<;>rfl
   | false=>simp only [Bool.not_false,Bool.or_true])
  simp only [List.length_nil,Nat.zero_add] at hg
  cases hd:decide (V.length=ss.length) with
  | false=>
   cases gN Tb.name id (fun t=>(z2f V t.name).isSome||isWord t.name||!tbOk t) [] ms<;>rfl
  | true=>
   simp only [Bool.true_and,cond_true,hg]
   cases gN Tb.name id (fun t=>(z2f V t.name).isSome||isWord t.name||!tbOk t) [] ms with
   | none=>rfl
   | some T=>
    simp only
    cases decide (T.length=ms.length)<;>rfl
theorem Sl.xd3 {s:Sl} {n:Nat} (h:s.f.ok n):s.f=Af.of s.val.1 s.val.2/\s.val.2.length=n:=by
 obtain ⟨k,cs,e,hl⟩:=Af.vy4 h
 have e2:s.val=(k,cs):=by
  unfold Sl.val;rw [e];show ((Fc.of k).val,(cs.map Fc.of).map Fc.val)=_;rw [List.map_map,Fc.xhg]
  congr 1
  conv=>rhs;rw [<-List.map_id cs]
  exact List.map_congr_left (fun q _=>Fc.xhg q)
 rw [e2];exact ⟨e,hl⟩
def Sl.sm (B:Nat) (s:Sl):Prop:=s.f.c.sz+10<=B/\∀ f∈s.f.l,f.sz+10<=B
theorem zd4 {B:Nat} {ss:List Sl} (h:entA ss ms=some (V,T)) (hs:∀ s∈ss,s.sm B):Asm (nOf ss) B V:=fun s f hf=>by
 rw [y3j] at h;obtain ⟨h1,_,_,h4,_⟩:=vxk h;rw [h4 s] at hf;obtain ⟨x,hx,rfl⟩:=Option.map_eq_some_iff.1 hf;have hm:=(ypj hx).1;obtain ⟨e,hl⟩:=Sl.xd3 (of_decide_eq_true (h1 x hm));obtain ⟨b1,b2⟩:=hs x hm;rw [e] at b1 b2;exact ⟨hl,b1,fun q hq=>b2 (Fc.of q) (List.mem_map_of_mem hq)⟩
theorem yxy {ss:List Sl} (h:entA ss ms=some (V,T)) (hb:∀ t∈ms,t.Sm):∀ s t,z2f T s=some t->t.Sm/\tbOk t=true:=fun s t ht=>by
 rw [y3j] at h;obtain ⟨_,h2,_,_,h5⟩:=vxk h;rw [h5 s] at ht;have hm:=(ypj ht).1;exact ⟨hb t hm,h2 t hm⟩
end Go.Hp.T
namespace Go.Hp.T
open Go Go.RowKit Go.Slot Go.Hp Go.Slot.T
open Go.Proofs.Tryz (prog)
set_option maxRecDepth 10000
set_option maxHeartbeats 8000000
variable {Γ:List (Nat×List Cell)}
theorem v57 (q:Rat) (h:qs q<=67108864):CallsD Γ prog 52 [.agg (qC (some q))] (.agg (qC (some q))):=by
 have:=vrk (Γ:=Γ) (Fc.of q) h
 rw [Af.zvt] at this;exact this
theorem zex (n:Nat) (V:Va) (T:Vt) (x:Ex) (hl:3<=x.args.length) (hl2:x.args.length<=1073741824)
 (h:∀ i,i<3->xpp Γ prog 41 (rdE n V T) [.one (.ptr 0 0),.agg ((exC (x.args.getD i default)).map .dat)] (rdE n V T) (thS ((x.args.getD i default).aff n V T))) :
 xpp Γ prog 82 (rdE n V T) [.one (.ptr 0 0),.agg ((exC x).map .dat)] (rdE n V T) (thS (chA (x.args.map (Ex.aff n V T)))):=by
 have h0:=h 0 (by decide);have h1:=h 1 (by decide);have h2:=h 2 (by decide);clear h
 have e:chA (x.args.map (Ex.aff n V T))=bif decide (¬((x.args.getD 0 default).aff n V T).2=0) then (Th.zero,((x.args.getD 0 default).aff n V T).2) else bif !((x.args.getD 0 default).aff n V T).1.t then (Th.zero,13) else bif ((x.args.getD 0 default).aff n V T).1.i then (x.args.getD 1 default).aff n V T else (x.args.getD 2 default).aff n V T:=by
  unfold chA;rw [getD_map (show 0<x.args.length by omega),getD_map (show 1<x.args.length by omega),getD_map (show 2<x.args.length by omega)]
 rw [e];generalize (x.args.getD 0 default).aff n V T=r0 at h0;generalize (x.args.getD 1 default).aff n V T=r1 at h1;generalize (x.args.getD 2 default).aff n V T=r2 at h2;obtain ⟨⟨t0,i0,v0,l0⟩,e0⟩:=r0;simp only at h0 ⊢;refine xpp.run [] Go.Proofs.Tryz.func82 rfl rfl ?_;simp only [Go.Proofs.Tryz.f82];refine hgR ?_;refine hg ?_;refine x6x (xpp.preN h0 (zt9 n V T) rfl rfl) ?_;clear h0;refine hg ?_
 repeat' ((first | refine hfk ?_ ?_<;>intros | refine hik ?_)<;>refine hgS ?_)
 . exact StH.z9p rfl (by kernel_rfl) rfl rfl
 . exact StH.z9p rfl (by kernel_rfl) rfl rfl
 . refine x6x (xpp.preN h1 (zt9 n V T) rfl rfl) ?_;refine hg ?_
   repeat' ((first | refine hfk ?_ ?_<;>intros | refine hik ?_)<;>refine hgS ?_)
   exact StH.vzq rfl (by kernel_rfl) (by simp [*])
 . refine x6x (xpp.preN h2 (zt9 n V T) rfl rfl) ?_;refine hg ?_
   repeat' ((first | refine hfk ?_ ?_<;>intros | refine hik ?_)<;>refine hgS ?_)
   exact StH.vzq rfl (by kernel_rfl) (by simp [*])
theorem wzo (n:Nat) (V:Va) (T:Vt) (x:Ex) (hx:x.Sm) (hn:inI x.n) (h0:x.op=0) (h6:n<=6):xpp Γ prog 81 (rdE n V T) [.one (.ptr 0 0),.agg ((exC x).map .dat)] (rdE n V T) (thS (wfn n x.n x.unit)):=by
 have hu:=hx.u;have hz:=x10 hn;have ho:=oInt (Γ:=Γ) x.n hn
 rcases veq x.unit with ⟨u,h,hq⟩ | ⟨e,he,h⟩
 . have hr:=xyv (Γ:=Γ) hu h;obtain ⟨r1,r2⟩:=yv0 h;have hf:=zdl (Γ:=Γ) (x.n:Rat) u r1 r2 (Nat.le_trans hz (by decide)) (by omega);have hnum:=yfa (Γ:=Γ) n V T (some ((x.n:Rat)*u.f)) h6
   have e1:wfn n x.n x.unit=(numA n (some ((x.n:Rat)*u.f)),0):=by unfold wfn facO;rw [h];rfl
   rw [e1];refine xpp.run [] Go.Proofs.Tryz.func81 rfl rfl ?_;simp only [Go.Proofs.Tryz.f81];refine hgR ?_
   repeat' ((first | refine hfk ?_ ?_<;>intros | refine hik ?_ | with_reducible first | refine wml (hr) ?_ | refine ysj (hr) ?_ | refine wml (ho) ?_ | refine ysj (ho) ?_ | refine wml (hf) ?_ | refine ysj (hf) ?_)<;>refine hgS ?_)
   all_goals try (exfalso;omega)
   refine x6x (xpp.preN hnum (zt9 n V T) rfl rfl) ?_;refine hg ?_
   repeat' ((first | refine hfk ?_ ?_<;>intros | refine hik ?_)<;>refine hgS ?_)
   exact StH.vzq rfl (by kernel_rfl) rfl
 . have hr:=xmw (Γ:=Γ) x.unit hu;rw [h] at hr
   have e1:wfn n x.n x.unit=(⟨false,false,none,[]⟩,14):=by unfold wfn;rw [h];simp only [decide_eq_true he,cond_true];rfl
   rw [e1];refine xpp.run [] Go.Proofs.Tryz.func81 rfl rfl ?_;simp only [Go.Proofs.Tryz.f81];refine hgR ?_
   repeat' ((first | refine hfk ?_ ?_<;>intros | refine hik ?_ | with_reducible first | refine wml (hr) ?_ | refine ysj (hr) ?_)<;>refine hgS ?_)
   all_goals first
    | (exfalso;omega)
    | exact StH.z9p rfl (by kernel_rfl) rfl rfl
def lfB (n:Nat) (V:Va) (T:Vt) (x:SB) (k:Rat) (cs:List Rat):Nat->List SB
 | 0=>rdE n V T++[x,.box ((thZ false false).map .dat) (some 80),.box ((afC (k,cs)).map .dat) (some 36),.box [.dat (.raw (.int .i64 (qF (some k)).s)),.dat (.ints .i64 (qF (some k)).L),.dat (.raw (.int .i64 (qF (some k)).t)),.dat (.ints .i64 (qF (some k)).M),.dat .zc] (some 36)]
 | i+1=>rdE n V T++[x,.box ((thZ false false).map .dat) (some 80),.box ((afC (k,cs)).map .dat) (some 36),.box [.dat (.raw (.int .i64 (qF (some k)).s)),.dat (.ints .i64 (qF (some k)).L),.dat (.raw (.int .i64 (qF (some k)).t)),.dat (.ints .i64 (qF (some k)).M),.sl 7 4 0 (i+1)] (some 36),.arr (.sl 4 ((cs.take (i+1)).map rowQ)) 0 (some 33)]
theorem xuk (n:Nat) (V:Va) (T:Vt) (x:Ex) (_hx:x.Sm) (h1:x.op=1) (hV:∀ s f,z2f V s=some f->f.2.length<=1048576/\qs f.1<=67108864/\∀ q∈f.2,qs q<=67108864):xpp Γ prog 81 (rdE n V T) [.one (.ptr 0 0),.agg ((exC x).map .dat)] (rdE n V T) (thS (x59 V x.name)):=by
 unfold x59
 cases hlk:z2f V x.name with
 | none=>
  show xpp _ _ _ _ _ _ (thS (⟨false,false,none,[]⟩,11));refine xpp.run [] Go.Proofs.Tryz.func81 rfl rfl ?_;simp only [Go.Proofs.Tryz.f81];refine hgR ?_
  repeat' ((first | refine hfk ?_ ?_<;>intros | refine hik ?_)<;>refine hgS ?_)
  all_goals try (exfalso;omega)
  refine hg1 @hlk ?_
  repeat' ((first | refine hfk ?_ ?_<;>intros | refine hik ?_)<;>refine hgS ?_)
  all_goals first
   | (exfalso;omega)
   | exact StH.z9p rfl (by kernel_rfl) rfl rfl
 | some f=>
  obtain ⟨k,cs⟩:=f;obtain ⟨v1,v2,v3⟩:=hV _ _ hlk;simp only at v1 v2 v3;have c0:=v57 (Γ:=Γ) k v2
  have ci:∀ i,i<cs.length->CallsD Γ prog 52 [.agg (qC (some (cs.getD i default)))] (.agg (qC (some (cs.getD i default)))):=fun i hi=>v57 (Γ:=Γ) _ (v3 _ (by simp [hi]))
  show xpp _ _ _ _ _ _ (thS (⟨false,false,some k,cs⟩,0));refine xpp.run [] Go.Proofs.Tryz.func81 rfl rfl ?_;simp only [Go.Proofs.Tryz.f81];refine hgR ?_
  repeat' ((first | refine hfk ?_ ?_<;>intros | refine hik ?_)<;>refine hgS ?_)
  all_goals try (exfalso;omega)
  refine hg1 @hlk ?_
  repeat' ((first | refine hfk ?_ ?_<;>intros | refine hik ?_ | with_reducible first | refine wml (c0) ?_ | refine ysj (c0) ?_)<;>refine hgS ?_)
  all_goals try (exfalso;omega)
  refine x20 [3,4,6,8,35,36] (fun i:Nat=>[(37,.one (.dat (cI (i))))]) (lfB n V T (.box [.dat (cI 1),.dat (cI x.n),.dat (cS x.unit),.dat (cS x.name),.dat (.sl 5 (x.args.map Ex.cells))] (some 24)) k cs)
   (fun i=>i<=cs.length) (fun i=>cs.length-i) 0 (Nat.zero_le _) ?_ ?_
  . refine hg ?_;exact StH.same svl rfl
  intro i hi
  rcases i with _ | i
  . simp only [lfB];refine hg ?_;refine vt2 (fun h _=>?_) (fun h _=>?_)
    . have hsn:[rowQ (cs.getD 0 default)]=(cs.take (0+1)).map rowQ:=by
       rw [wcz (by omega)];rfl
      have c1:=ci 0 (by omega);refine hg ?_
      repeat' ((first | refine hfk ?_ ?_<;>intros | refine hik ?_ | with_reducible first | refine wml (c1) ?_ | refine ysj (c1) ?_)<;>refine hgS ?_)
      refine ⟨1,by omega,by omega,?_⟩;simp only;rw [<-hsn];exact StH.z04 [3,4,6,8,35,36,37] 7 8 8 rfl rfl rfl rfl rfl rfl rfl (by kernel_rfl) (StH.same svl rfl)
    . have h0:cs=[]:=List.eq_nil_of_length_eq_zero (by omega);subst h0;refine hg ?_
      repeat' ((first | refine hfk ?_ ?_<;>intros | refine hik ?_)<;>refine hgS ?_)
      exact StH.trans (StH.vzq rfl (by kernel_rfl) rfl) (StH.tup1 (.cons (.agg (.cons (.refl _) (.cons (.refl _) (.cons (.refl _) (.cons (.refl _) (.cons (.refl _) (.cons (.refl _) (.cons (.dat (.zcSl _)) .nil)))))))) (.cons (.refl _) .nil)))
  . simp only [lfB]
    have hz:(cs.take (i+1)).length=i+1:=by simp;omega
    refine hg1 @hz ?_;refine vt2 (fun h _=>?_) (fun h _=>?_)
    . have hsn:(cs.take (i+1)).map rowQ++[rowQ (cs.getD (i+1) default)]=(cs.take (i+1+1)).map rowQ:=by
       rw [wcz (l:=cs) (i:=i+1) (by omega),List.map_append];rfl
      have c1:=ci (i+1) (by omega);refine hg1 @hz ?_
      repeat' ((first | refine hfk ?_ ?_<;>intros | refine hik ?_ | with_reducible first | refine wml (c1) ?_ | refine ysj (c1) ?_)<;>refine hgS ?_)
      refine ⟨i+1+1,by omega,by omega,?_⟩;simp only;rw [<-hsn];refine StH.z04 [3,4,6,8,35,36,37] 7 9 8 rfl rfl rfl rfl rfl rfl rfl (by kernel_rfl) (StH.same svl ?_);simp only [List.length_append,List.length_map,List.length_singleton,hz];rfl
    . have e1:cs.take (i+1)=cs:=List.take_of_length_le (by omega);refine hg1 @hz ?_
      repeat' ((first | refine hfk ?_ ?_<;>intros | refine hik ?_)<;>refine hgS ?_)
      rw [e1];refine StH.v0g (avs:=[.agg (thC ⟨false,false,some k,cs⟩),.one (cI 0)]) (bs:=[7]) ?_ rfl rfl (by kernel_rfl) rfl;rw [e1] at hz;simp [zfb,argD,w8n,zyf,gB,Cell.esz,Cell.cnt,Hp.subC,hz]
theorem wto {n B:Nat} (hB:4300<=B) (V:Va) (T:Vt) (hV:Asm n B V) (hT:∀ s t,z2f T s=some t->t.Sm/\tbOk t=true) (h6:n<=6):∀ x:Ex,x.Sm->x.shaped=true->x.wqm=false->B*x.nd<=33554432->xpp Γ prog 41 (rdE n V T) [.one (.ptr 0 0),.agg ((exC x).map .dat)] (rdE n V T) (thS (x.aff n V T)):=by
 refine Ex.ind (fun x ih hx hsh hcl hnd=>?_);have hl:=hx.len;have haff:=Ex.xpb n V T x
 have hnode:xer x=true:=by rw [Ex.ypb,Bool.and_eq_true] at hsh;exact hsh.1
 have hargs:∀ y∈x.args,y.shaped=true:=by rw [Ex.ypb,Bool.and_eq_true,List.all_eq_true] at hsh;exact hsh.2
 have hcalls:x.op≠3/\∀ y∈x.args,y.wqm=false:=by
  rw [Ex.xrx,Bool.or_eq_false_iff,decide_eq_false_iff_not,List.any_eq_false] at hcl;exact ⟨hcl.1,fun y hy=>by simpa using hcl.2 y hy⟩
 have hnds:∀ y∈x.args,B*y.nd<=33554432:=fun y hy=>Nat.le_trans (Nat.mul_le_mul_left _ (by have:=Ex.xka hy;have:=Ex.xk0 x;omega)) hnd
 have hB2:B<=B*x.nd:=Nat.le_mul_of_pos_right _ (by rw [Ex.xk0];omega);by_cases hne:x.args.length=0
 . have hlf:xpp Γ prog 81 (rdE n V T) [.one (.ptr 0 0),.agg ((exC x).map .dat)] (rdE n V T) (thS (x.aff n V T)):=by
    by_cases h0:x.op=0
    . rw [decide_eq_true h0,cond_true] at haff;have hn:=xsm hnode h0;rw [haff];exact wzo n V T x hx (by unfold inI;omega) h0 h6
    . rw [decide_eq_false h0, cond_false] at haff;by_cases h1:x.op=1
      . rw [decide_eq_true h1,cond_true] at haff;rw [haff]
        exact xuk n V T x hx h1 (fun s f hf=>by
         obtain ⟨a1,a2,a3⟩:=hV s f hf
         exact ⟨by omega,by omega,fun q hq=>by have:=a3 q hq;omega⟩)
      . exfalso;unfold xer at hnode;rw [decide_eq_false h0,decide_eq_false h1,hne] at hnode;simp at hnode
   refine xpp.run [] Go.Proofs.Tryz.func41 rfl rfl ?_;simp only [Go.Proofs.Tryz.f41];refine hgR ?_
   repeat' ((first | refine hfk ?_ ?_<;>intros | refine hik ?_)<;>refine hgS ?_)
   all_goals try (exfalso;omega)
   refine x6x (xpp.preN hlf (zt9 n V T) rfl rfl) ?_;refine hg ?_
   repeat' ((first | refine hfk ?_ ?_<;>intros | refine hik ?_)<;>refine hgS ?_)
   exact StH.vzq rfl (by kernel_rfl) rfl
 have h0:x.op≠0:=fun h=>by
  unfold xer at hnode;rw [decide_eq_true h] at hnode;simp only [cond_true,Bool.and_eq_true,decide_eq_true_eq] at hnode;omega
 have h1:x.op≠1:=fun h=>by
  unfold xer at hnode;rw [decide_eq_false h0,cond_false] at hnode
  cases hc:(decide (¬x.n=0)||decide (¬x.unit.size=0)) with
  | true=>rw [hc] at hnode;cases hnode
  | false=>
   rw [hc,decide_eq_true h] at hnode;simp only [cond_true,cond_false,Bool.and_eq_true,decide_eq_true_eq] at hnode;omega
 rw [decide_eq_false h0,cond_false,decide_eq_false h1,cond_false] at haff;obtain ⟨hl2,hl3⟩:=zd3 hnode hcalls.1 hne;by_cases h5:x.op=5
 . rw [decide_eq_true h5,cond_true] at haff;rw [haff];have hl3':=hl3 h5
   have hch:=zex (Γ:=Γ) n V T x hl3' hl (fun i hi=>by
    have hm:=y7p (show i<x.args.length by omega)
    exact ih _ hm (hx.arg _ hm) (hargs _ hm) (hcalls.2 _ hm) (hnds _ hm))
   refine xpp.run [] Go.Proofs.Tryz.func41 rfl rfl ?_;simp only [Go.Proofs.Tryz.f41];refine hgR ?_
   repeat' ((first | refine hfk ?_ ?_<;>intros | refine hik ?_)<;>refine hgS ?_)
   all_goals try (exfalso;omega)
   rw [show cI 5=cI x.op by rw [h5]];refine x6x (xpp.preN hch (zt9 n V T) rfl rfl) ?_;refine hg ?_
   repeat' ((first | refine hfk ?_ ?_<;>intros | refine hik ?_)<;>refine hgS ?_)
   exact StH.vzq rfl (by kernel_rfl) rfl
 rw [decide_eq_false h5,cond_false] at haff
 have hG:∀ y∈x.args,(y.aff n V T).2=0->(y.aff n V T).1.G n 33554432:=fun y hy h=>(xni (T:=T) hB hV y (hargs y hy) (hcalls.2 y hy) h).mono (by have:=hnds y hy;omega)
 rw [haff];clear haff hnd hV hB2;generalize hS:seqA (x.args.map (Ex.aff n V T))=S;refine xpp.run [] Go.Proofs.Tryz.func41 rfl rfl ?_;simp only [Go.Proofs.Tryz.f41];refine hgR ?_
 repeat' ((first | refine hfk ?_ ?_<;>intros | refine hik ?_)<;>refine hgS ?_)
 all_goals try (exfalso;omega)
 refine x20 [0,3,4,29,30] (fun p:Nat×List Th=>[(6,.one (.sl 5 7 0 p.2.length)),(31,.one (.dat (cI p.1)))])
  (fun p=>rdE n V T++[.box ((exC x).map .dat) (some 24),.box ((thZ false false).map .dat) (some 80),.arr (.sl 7 (p.2.map Th.C)) 0 (some 80)])
  (fun p=>p.1<=x.args.length/\p.2.length=p.1/\(∀ r∈p.2,r.G n 33554432)/\S=match seqA ((x.args.drop p.1).map (Ex.aff n V T)) with
    | .inl e=>.inl e
    | .inr r=>.inr (p.2++r)) (fun p=>x.args.length-p.1) (0,[]) ⟨Nat.zero_le _,rfl,fun r hr=>(by cases hr),by simp only [List.drop_zero,List.nil_append];rw [hS];cases S<;>rfl⟩ ?_ ?_
 . refine hg ?_;refine StH.trans (StH.empty (d:=6) (es:=7) (c:=.sl 7 []) (T:=some 80) rfl rfl (fun r hr=>by cases hr) rfl) ?_;refine hg ?_;exact StH.same svl rfl
 clear hS;rintro ⟨i,rs⟩ ⟨q1,q2,q3,q4⟩;simp only at q1 q2 q3 q4;refine hg ?_;refine vt2 (fun hlt _=>?_) (fun hlt _=>?_)
 . have hlt':i<x.args.length:=by omega
   have hy:=y7p hlt';rw [xfc hlt',List.map_cons] at q4;have hGy:=hG _ hy;refine hg ?_;refine x6x (xpp.preN (ih _ hy (hx.arg _ hy) (hargs _ hy) (hcalls.2 _ hy) (hnds _ hy)) (zt9 n V T) rfl rfl) ?_;generalize hr:Ex.aff n V T (x.args.getD i default)=r at q4 hGy ⊢;obtain ⟨t,e⟩:=r;rw [seqA] at q4;simp only at q4 hGy;refine hg ?_;refine vt2 (fun he hd=>?_) (fun he hd=>?_)
   . refine hg ?_
     have q4':S=.inl e:=by rw [q4,show decide (¬e=0)=true from hd];rfl
     rw [q4'];exact StH.z9p rfl (by kernel_rfl) rfl rfl
   . refine hg ?_;rw [show decide (¬e=0)=false from hd,cond_false] at q4;have hGt:=hGy (by omega)
     have q4':S=match seqA ((x.args.drop (i+1)).map (Ex.aff n V T)) with
      | .inl e=>.inl e
      | .inr r=>.inr ((rs++[t])++r):=by
      rw [q4]
      cases seqA ((x.args.drop (i+1)).map (Ex.aff n V T)) with
      | inl e=>rfl
      | inr r=>simp only [List.append_assoc,List.singleton_append]
     have hmap:rs.map Th.C++[thC t]=(rs++[t]).map Th.C:=by simp;rfl
     rw [hmap]
     refine ⟨(i+1,rs++[t]),⟨by dsimp only;omega,by dsimp only;rw [List.length_append,List.length_singleton,q2],fun r hr'=>by
      rcases List.mem_append.1 hr' with h | h
      . exact q3 r h
      . rw [List.mem_singleton.1 h];exact hGt,q4'⟩,by dsimp only;omega,?_⟩
     refine StH.z04 [0,3,4,6,29,30,31] 5 8 6 rfl rfl rfl rfl rfl rfl rfl (by kernel_rfl) ?_;refine hg ?_;exact StH.same svl rfl
 . have q4':S=.inr rs:=by rw [q4,List.drop_eq_nil_of_le (by omega)];show (match seqA [] with | .inl e=>Sum.inl e | .inr r=>Sum.inr (rs++r))=_;rw [seqA];simp only [List.append_nil]
   rw [q4'];clear q4 q4' ih hG
   have hlen:rs.length=x.args.length:=by omega
   have hlen0:0<rs.length:=by omega
   have hr0:=q3 _ (y7p (show 0<rs.length by omega));by_cases h2:x.op=2
   . have hk:=yyg (Γ:=Γ) V T x.name (rs.getD 0 default) hr0 h6 (by decide) hT;rw [show wxq n T x.op x.name (.inr rs)=xu8 n T x.name (rs.getD 0 default) by show opA n T x.op x.name rs=_;unfold opA;rw [decide_eq_true h2];rfl];refine hg ?_
     repeat' ((first | refine hfk ?_ ?_<;>intros | refine hik ?_)<;>refine hgS ?_)
     all_goals try (exfalso;omega)
     refine xhw 3 (fun ξ=>xpp.preN hk (zt9 n V T) rfl rfl) rfl rfl ?_;generalize xu8 n T x.name (rs.getD 0 default)=r;obtain ⟨⟨t,i,v,l⟩,e⟩:=r;refine hg ?_
     repeat' ((first | refine hfk ?_ ?_<;>intros | refine hik ?_)<;>refine hgS ?_)
     exact StH.vzq rfl (by kernel_rfl) rfl
   have hlg:∀ h:x.op=4\/x.op=14\/x.op=15,wxq n T x.op x.name (.inr rs)=logA x.op rs:=fun h4=>by
    show opA n T x.op x.name rs=_;unfold opA;rw [decide_eq_false h2,show (decide (x.op=4)||decide (x.op=14)||decide (x.op=15))=true by rcases h4 with h | h | h<;>simp [h]];rfl
   by_cases h4:x.op=4\/x.op=14\/x.op=15
   . have hk:=y34 (Γ:=Γ) x.op rs hlen0 (by omega) (fun h=>by
      have:=hl2 h2 (fun h4=>by omega)
      omega)
     rw [hlg h4];generalize logA x.op rs=r at hk;obtain ⟨⟨t,i,v,l⟩,e⟩:=r;refine hg ?_
     rcases h4 with h4 | h4 | h4
     all_goals
      rw [h4] at hk
      repeat' ((first | refine hfk ?_ ?_<;>intros | refine hik ?_ | with_reducible first | refine wml (hk) ?_ | refine ysj (hk) ?_)<;>refine hgS ?_)
      all_goals first
       | (exfalso;omega)
       | exact StH.vzq rfl (by kernel_rfl) rfl
   clear hlg;have hl:=hl2 h2 (fun h=>h4 (.inl h))
   have hlen1:1<rs.length:=by omega
   have hr1:=q3 _ (y7p hlen1)
   have hop:wxq n T x.op x.name (.inr rs)=bif decide (x.op=8)||decide (x.op=9) then scaA x.op (rs.getD 0 default) (rs.getD 1 default) else
    bif decide (x.op=6)||decide (x.op=7) then sumA x.op (rs.getD 0 default) (rs.getD 1 default) else cmpA x.op (rs.getD 0 default) (rs.getD 1 default):=by
    show opA n T x.op x.name rs=_;unfold opA;rw [decide_eq_false h2,show (decide (x.op=4)||decide (x.op=14)||decide (x.op=15))=false by simp only [Bool.or_eq_false_iff,decide_eq_false_iff_not];exact ⟨⟨fun h=>h4 (.inl h),fun h=>h4 (.inr (.inl h))⟩,fun h=>h4 (.inr (.inr h))⟩];rfl
   rw [hop];clear hop;by_cases h8:x.op=8\/x.op=9
   . have hk:=zdb (Γ:=Γ) x.op h8 (rs.getD 0 default) (rs.getD 1 default) hr0 hr1 (by omega) (by decide);rw [show (decide (x.op=8)||decide (x.op=9))=true by rcases h8 with h | h<;>simp [h],cond_true];generalize scaA x.op (rs.getD 0 default) (rs.getD 1 default)=r at hk;obtain ⟨⟨t,i,v,l⟩,e⟩:=r;refine hg ?_
     rcases h8 with h8 | h8
     all_goals
      rw [h8] at hk
      repeat' ((first | refine hfk ?_ ?_<;>intros | refine hik ?_ | with_reducible first | refine wml (hk) ?_ | refine ysj (hk) ?_)<;>refine hgS ?_)
      all_goals first
       | (exfalso;omega)
       | exact StH.vzq rfl (by kernel_rfl) rfl
   rw [show (decide (x.op=8)||decide (x.op=9))=false by simp only [Bool.or_eq_false_iff,decide_eq_false_iff_not];exact ⟨fun h=>h8 (.inl h),fun h=>h8 (.inr h)⟩,cond_false];by_cases h7:x.op=6\/x.op=7
   . have hk:=zlw (Γ:=Γ) x.op (rs.getD 0 default) (rs.getD 1 default) hr0 hr1 (by omega) (by decide);rw [show (decide (x.op=6)||decide (x.op=7))=true by rcases h7 with h | h<;>simp [h],cond_true];generalize sumA x.op (rs.getD 0 default) (rs.getD 1 default)=r at hk;obtain ⟨⟨t,i,v,l⟩,e⟩:=r;refine hg ?_
     rcases h7 with h7 | h7
     all_goals
      rw [h7] at hk
      repeat' ((first | refine hfk ?_ ?_<;>intros | refine hik ?_ | with_reducible first | refine wml (hk) ?_ | refine ysj (hk) ?_)<;>refine hgS ?_)
      all_goals first
       | (exfalso;omega)
       | exact StH.vzq rfl (by kernel_rfl) rfl
   . have hk:=x7p (Γ:=Γ) V T x.op (rs.getD 0 default) (rs.getD 1 default) hr0 hr1 (by omega) (by decide);rw [show (decide (x.op=6)||decide (x.op=7))=false by simp only [Bool.or_eq_false_iff,decide_eq_false_iff_not];exact ⟨fun h=>h7 (.inl h),fun h=>h7 (.inr h)⟩,cond_false];refine hg ?_
     repeat' ((first | refine hfk ?_ ?_<;>intros | refine hik ?_)<;>refine hgS ?_)
     all_goals try (exfalso;omega)
     refine xhw 3 (fun ξ=>xpp.preN hk (zt9 n V T) rfl rfl) rfl rfl ?_;generalize cmpA x.op (rs.getD 0 default) (rs.getD 1 default)=r;obtain ⟨⟨t,i,v,l⟩,e⟩:=r;refine hg ?_
     repeat' ((first | refine hfk ?_ ?_<;>intros | refine hik ?_)<;>refine hgS ?_)
     exact StH.vzq rfl (by kernel_rfl) rfl
end Go.Hp.T
