/- The proof, part X33: A4, A0, Am, An. -/
import Derived.Test.YtpkininnjhbeaaaGreatDoorX32
import Derived.Test.YtpkininnjhbeaaaGreatDoorX31
namespace Go.Hp
open Go Go.RowKit Go.Slot
variable {P:Program} {Γ:List (Nat×List Cell)}
variable {f:FuncId} {ηs:List SB} {res:SV}
theorem xpp.roN (φ:List Nat) {J:List SB} {args:List SV} (h:xpp Γ P f ηs args ηs res) (hn:φ.Nodup) (hb:(φ.all fun j=>Nat.blt j J.length)=true) (hp:φ.map (fun j=>J[j]?)=ηs.map (fun x=>some (rnSB (atR φ J.length) x))) :
 xpp Γ P f J (args.map (v3y (atR φ J.length))) J (rnSV (atR φ J.length) res):=by
 have hb':∀ j∈φ,j<J.length:=fun j hj=>by simpa using List.all_eq_true.1 hb j hj
 have hk:=xgt.of hp;have hc:=xpp.frame hn hb' hk (by rw [hk.1];exact Nat.le_refl _) h
 have hput:putR φ J ηs=J:=by
  apply List.ext_getElem?;intro i;by_cases hi2:i<J.length
  . by_cases hi:i∈φ
    . obtain ⟨k,hk2,rfl⟩:=List.getElem_of_mem hi
      have hkl:k<ηs.length:=by rw [hk.1];exact hk2
      have h1:=xje (ηs':=ηs) hn hb' (List.getElem?_eq_getElem hkl);rw [zj8 (List.getElem?_eq_getElem hk2)] at h1;rw [h1];have h2:=congrArg (fun l=>l[k]?) hp;simp only [List.getElem?_map,List.getElem?_eq_getElem hk2,List.getElem?_eq_getElem hkl,Option.map_some] at h2;exact (Option.some.inj h2).symm
    . exact zn3 hi2 hi
  . rw [List.getElem?_eq_none (by rw [wb2,hk.1];omega),List.getElem?_eq_none (by omega)]
 rw [hput] at hc;exact hc
theorem xpp.preN {ξ:List SB} {args:List SV} (h:xpp Γ P f ηs args ηs res) (hs:∀ r:Nat->Nat,(∀ i,i<ηs.length->r i=i)->ηs.map (rnSB r)=ηs) (ha:args.map (v3y (atR (List.range ηs.length) (ηs++ξ).length))=args) (hr:rnSV (atR (List.range ηs.length) (ηs++ξ).length) res=res):xpp Γ P f (ηs++ξ) args (ηs++ξ) res:=by
 have hc:=xpp.roN (List.range ηs.length) (J:=ηs++ξ) h List.nodup_range (List.all_eq_true.2 fun j hj=>by
  rw [List.mem_range] at hj
  simp only [List.length_append,Nat.blt_eq];omega) (by
  apply List.ext_getElem?;intro i;by_cases hi:i<ηs.length
  . have h1:=congrArg (fun l=>l[i]?) (hs _ (fun i hi=>yjm (N:=(ηs++ξ).length) hi));simp only [List.getElem?_map,List.getElem?_eq_getElem hi,Option.map_some,Option.some.injEq] at h1;simp only [List.getElem?_map,List.getElem?_range hi,List.getElem?_eq_getElem hi,Option.map_some,List.getElem?_append_left hi,h1]
  . simp [List.getElem?_eq_none (show ηs.length<=i by omega)];omega)
 rw [ha,hr] at hc;exact hc
end Go.Hp
namespace Go.Hp.T
open Go Go.RowKit Go.Slot Go.Hp Go.Slot.T
open Go.Proofs.Tryz (prog)
set_option maxRecDepth 10000
set_option maxHeartbeats 8000000
variable {Γ:List (Nat×List Cell)}
variable {T:Va} {B:Nat}
def envA (l:Va):List (Value×SV):=envM (fun f=>.agg ((afC f).map .dat)) l
theorem zy7 {s:ByteArray}:yvo (envA T) (.string s)=some ((z2f T s).map fun f=>.agg ((afC f).map .dat)):=x0f
theorem zu9 {s:ByteArray} {k:Rat} {cs:List Rat}:updM (envA T) (.string s) (.agg [.dat (.raw (.int .i64 (qF (some k)).s)),.dat (.ints .i64 (qF (some k)).L),.dat (.raw (.int .i64 (qF (some k)).t)),.dat (.ints .i64 (qF (some k)).M),.dat (.sl 4 (cs.map rowQ))])=some (envA (updF T s (k,cs))):=y5p (C:=fun f:Fm=>.agg ((afC f).map .dat)) (l:=T) (s:=s) (v:=(k,cs))
theorem vis {r:Nat->Nat} {l:Va}:rnSB r (.map (envA l))=.map (envA l):=yp7 (fun _ _=>rfl) r l
theorem vho (i j:Nat) (l:Va):swSB i j (.map (envA l))=.map (envA l):=xgc (fun _ _ _=>rfl) i j l
theorem wbm (l:Va):vb5 (.map (envA l))=[]:=xuj (fun _=>rfl) l
attribute [go_sem] wbm zy7 zu9
attribute [go_sem 20000] vis vho
abbrev mA (l:Va):SB:=.map (envA l)
abbrev rdB (n:Nat):SB:=.box [.dat (cI n),.mp 1,.mp 2] (some 127)
abbrev rdE (n:Nat) (V:Va) (T:Vt):List SB:=[rdB n,mA V,mB T]
theorem zt9 (n:Nat) (V:Va) (T:Vt):∀ r:Nat->Nat,(∀ i,i<(rdE n V T).length->r i=i)->(rdE n V T).map (rnSB r)=rdE n V T:=fun r hr=>by
 show [SB.box [.dat (cI n),.mp (r 1),.mp (r 2)] (some 127),rnSB r (mA V),rnSB r (mB T)]=_;rw [hr 1 (by show 1<3;decide),hr 2 (by show 2<3;decide),vis,zgw]
theorem w1z:CallsD Γ prog 12 [.one (cI 0)] (.agg (qC (some 0))):=oInt 0 (by decide)
theorem row0:rowQ 0=[cI 0,.ints .i64 [],cI 1,.ints .i64 [1]]:=by
 show [Cell.raw (.int .i64 (Fc.of 0).s),.ints .i64 (dig (0:Int).natAbs),.raw (.int .i64 (Fc.of 0).t),.ints .i64 (dig 1)]=_;rw [show (0:Int).natAbs=0 from rfl,y89,xxw (by decide),y89];rfl
theorem vl7 (n:Nat) (hn:n<=6):CallsD Γ prog 200 [.one (.sl 4 [rowQ 0]),.one (cI n)] (.one (.sl 4 (List.replicate n (rowQ 0)))):=by
 rw [row0]
 obtain rfl | rfl | rfl | rfl | rfl | rfl | rfl:n=0\/n=1\/n=2\/n=3\/n=4\/n=5\/n=6:=by omega
 all_goals exact CallsD.fv (N:=1000) (n:=60) OkD.none (by kernel_rfl)
theorem yfa (n:Nat) (V:Va) (T:Vt) (v:Option Rat) (hn:n<=6):xpp Γ prog 145 (rdE n V T) [.one (.ptr 0 0),.agg ((qC v).map .dat)] (rdE n V T) (.agg ((thC (numA n v)).map .dat)):=by
 have hr:CallsD Γ prog 200 [.one (.sl 4 [qC (some 0)]),.one (cI n)] (.one (.sl 4 ((List.replicate n (0:Rat)).map rowQ))):=by rw [List.map_replicate];exact vl7 n hn
 refine xpp.run [] Go.Proofs.Tryz.func145 rfl rfl ?_;simp only [Go.Proofs.Tryz.f145];refine hgR ?_
 repeat' ((first | refine hfk ?_ ?_<;>intros | refine hik ?_ | with_reducible first | refine wml (w1z) ?_ | refine ysj (w1z) ?_ | refine wml (hr) ?_ | refine ysj (hr) ?_)<;>refine hgS ?_)
 exact StH.vzq rfl (by kernel_rfl) rfl
theorem yyg {n:Nat} (V:Va) (T:Vt) (s:ByteArray) (k:Th) (hk:k.G n B) (hn:n<=6) (hB:B<=67108864) (hT:∀ s t,z2f T s=some t->t.Sm/\tbOk t=true) :
 xpp Γ prog 83 (rdE n V T) [.one (.ptr 0 0),.one (.dat (cS s)),.agg ((thC k).map .dat)] (rdE n V T) (thS (xu8 n T s k)):=by
 have hc:=hk.con (Γ:=Γ) (by omega) hB
 cases h:z2f T s with
 | none=>
  have e:xu8 n T s k=(⟨false,false,none,[]⟩,11):=by unfold xu8;rw [h];rfl
  rw [e];refine xpp.run [] Go.Proofs.Tryz.func83 rfl rfl ?_;simp only [Go.Proofs.Tryz.f83];refine hgR ?_;refine hg1 @h ?_
  repeat' ((first | refine hfk ?_ ?_<;>intros | refine hik ?_)<;>refine hgS ?_)
  exact StH.z9p rfl (by kernel_rfl) rfl rfl
 | some t=>
  obtain ⟨h1,h2⟩:=hT s t h
  have hq:qz k.c<=67108864:=by
   rcases hk.cs with ⟨i,rfl⟩ | ⟨m,cs,rfl,_,h2,_⟩
   . exact Nat.zero_le _
   . exact Nat.le_trans h2 hB
  have hL:=vud (Γ:=Γ) t k.c hq h1.n h1.u h1.r
  have e:xu8 n T s k=bif !k.con then (⟨false,false,none,[]⟩,13) else bif decide (¬(xwc t k.c).2=0) then (⟨false,false,none,[]⟩,(xwc t k.c).2) else (numA n (xwc t k.c).1,0):=by unfold xu8;rw [h];rfl
  rw [e];generalize xwc t k.c=r at hL;obtain ⟨rv,re⟩:=r;simp only at hL;generalize k.con=kc at hc;have hnum:=yfa (Γ:=Γ) n V T rv hn;refine xpp.run [] Go.Proofs.Tryz.func83 rfl rfl ?_;simp only [Go.Proofs.Tryz.f83];refine hgR ?_;refine hg1 @h ?_
  repeat' ((first | refine hfk ?_ ?_<;>intros | refine hik ?_ | with_reducible first | refine wml (hc) ?_ | refine ysj (hc) ?_ | refine wml (hL) ?_ | refine ysj (hL) ?_)<;>refine hgS ?_)
  all_goals first
   | exact StH.z9p rfl (by kernel_rfl) rfl (by simp [*])
   | skip
  refine x6x (xpp.preN hnum (zt9 n V T) rfl rfl) ?_;refine hg ?_;exact StH.vzq rfl (by kernel_rfl) (by simp [*])
theorem x7p {n:Nat} (V:Va) (T:Vt) (o:Int) (a b:Th) (ha:a.G n B) (hb:b.G n B) (hn:n<=1048576) (hB:B<=67108864) :
 xpp Γ prog 87 (rdE n V T) [.one (.ptr 0 0),.one (.dat (cI o)),.agg ((thC a).map .dat),.agg ((thC b).map .dat)] (rdE n V T) (thS (cmpA o a b)):=by
 have ca:=ha.con (Γ:=Γ) hn hB;have cb:=hb.con (Γ:=Γ) hn hB;generalize hR:cmpA o a b=R
 rcases ha.cs with ⟨i,rfl⟩ | ⟨k,cs,rfl,h1,h2,h3⟩
 . rw [show Th.con ⟨true,i,none,[]⟩=false from rfl] at ca;simp only [thC,List.map_nil] at ca;refine xpp.run [] Go.Proofs.Tryz.func87 rfl rfl ?_;simp only [Go.Proofs.Tryz.f87];refine hgR ?_
   repeat' ((first | refine hfk ?_ ?_<;>intros | refine hik ?_ | with_reducible first | refine wml (ca) ?_ | refine ysj (ca) ?_)<;>refine hgS ?_)
   exact StH.z9p rfl (by kernel_rfl) rfl hR.symm
 rcases hb.cs with ⟨i,rfl⟩ | ⟨m,ds,rfl,k1,k2,k3⟩
 . rw [show Th.con ⟨true,i,none,[]⟩=false from rfl] at cb;simp only [thC,List.map_nil] at cb
   have e:R=(⟨false,false,none,[]⟩,13):=by rw [<-hR];unfold cmpA;rw [show Th.con ⟨true,i,none,[]⟩=false from rfl,Bool.not_false,Bool.or_true];rfl
   generalize Th.con ⟨false,false,some k,cs⟩=xa at ca;refine xpp.run [] Go.Proofs.Tryz.func87 rfl rfl ?_;simp only [Go.Proofs.Tryz.f87];refine hgR ?_
   repeat' ((first | refine hfk ?_ ?_<;>intros | refine hik ?_ | with_reducible first | refine wml (ca) ?_ | refine ysj (ca) ?_ | refine wml (cb) ?_ | refine ysj (cb) ?_)<;>refine hgS ?_)
   all_goals exact StH.z9p rfl (by kernel_rfl) rfl rfl
 have hc:=oCmp (Γ:=Γ) (some k) (some m) (Nat.le_trans h2 hB) (Nat.le_trans k2 hB)
 have e:R=bif !Th.con ⟨false,false,some k,cs⟩||!Th.con ⟨false,false,some m,ds⟩ then (⟨false,false,none,[]⟩,13) else
  bif decide (o=12) then (⟨true,decide (cmpO (some k) (some m)<0),none,[]⟩,0) else bif decide (o=13) then (⟨true,decide (cmpO (some k) (some m)=0),none,[]⟩,0) else
  bif decide (o=10)==decide (cmpO (some k) (some m)<=0) then (⟨false,false,some k,cs⟩,0) else (⟨false,false,some m,ds⟩,0):=hR.symm
 generalize cmpO (some k) (some m)=c at hc e;generalize Th.con ⟨false,false,some k,cs⟩=xa at ca e;generalize Th.con ⟨false,false,some m,ds⟩=xb at cb e;clear hR ha hb;refine xpp.run [] Go.Proofs.Tryz.func87 rfl rfl ?_;simp only [Go.Proofs.Tryz.f87];refine hgR ?_
 repeat' ((first | refine hfk ?_ ?_<;>intros | refine hik ?_ | with_reducible first | refine wml (ca) ?_ | refine ysj (ca) ?_ | refine wml (cb) ?_ | refine ysj (cb) ?_ | refine wml (hc) ?_ | refine ysj (hc) ?_)<;>refine hgS ?_)
 all_goals first
  | exact StH.z9p rfl (by kernel_rfl) rfl rfl
  | exact StH.vzq rfl (by kernel_rfl) rfl
  | (exfalso;omega)
  | exact StH.z9p rfl (by kernel_rfl) rfl (by simp [*])
  | exact StH.vzq rfl (by kernel_rfl) (by simp [*])
end Go.Hp.T
namespace Go.Hp.T
open Go Go.RowKit Go.Slot Go.Hp Go.Slot.T
open Go.Proofs.Tryz (prog)
set_option maxRecDepth 10000
set_option maxHeartbeats 4000000
variable {Γ:List (Nat×List Cell)}
theorem vrt {p q:Int} (hp:1<=p) (hq:1<=q):0<Rat.divInt p q:=by
 rw [Rat.divInt_eq_div,Rat.div_def];exact Rat.mul_pos (Rat.intCast_pos.2 (by omega)) (Rat.inv_pos.2 (Rat.intCast_pos.2 (by omega)))
theorem yhe {s:ByteArray} {u:Un} (h:symF s=some u):0<u.f:=by
 unfold symF at h
 repeat' first
  | (cases h;exact vrt (by omega) (by omega))
  | (cases hc:seq s _<;>rw [hc] at h<;>simp only [cond_true,cond_false] at h)
 cases h
theorem zua {s:ByteArray} {u:Un} (h:xle s=some u):0<u.f:=by
 unfold xle at h
 cases h1:(symF s).isSome with
 | true=>rw [h1,cond_true] at h;exact yhe h
 | false=>
  rw [h1,cond_false] at h
  cases h2:(!(preF (yuk s 0)).isSome||!(symF (vp5 s 1)).isSome||!v2f (vp5 s 1)) with
  | true=>rw [h2,cond_true] at h;cases h
  | false=>
   rw [h2,cond_false] at h;split at h
   . rename_i p v hp hv
     cases h;obtain ⟨d,e⟩:=y3p hp;exact Rat.mul_pos (yhe hv) (vrt d.1 e.1)
   . cases h
theorem v63 {g:Rat->Rat} (h:∀ x,0<x->0<g x):∀(n:Nat) (a:Rat),0<a->0<iter g n a
 | 0,_,ha=>ha
 | n+1,a,ha=>v63 h n (g a) (h a ha)
theorem wom:∀(l:List It) (u v:Un),xx0 l u=some v->0<u.f->0<v.f
 | [],u,v,h,hu=>by cases h;exact hu
 | x::l,u,v,h,hu=>by
  unfold xx0 at h;split at h
  . cases h
  . rename_i w hw;have hp:=zua hw;refine wom l _ v h ?_;show 0<vhc u.f w.f x.e;unfold vhc
    cases decide (0<x.e) with
    | true=>exact v63 (fun y hy=>Rat.mul_pos hy hp) _ _ hu
    | false=>exact v63 (fun y hy=>by rw [Rat.div_def];exact Rat.mul_pos hy (Rat.inv_pos.2 hp)) _ _ hu
theorem yv0 {s : ByteArray} {u : Un} (h : xx7 s = (some u, 0)) : ytl u.d = true ∧ 0 < u.f := by
 unfold xx7 at h;split at h
 . cases h
 . split at h
   . cases h
   . rename_i l hl w hw
     cases hd:ytl w.d with
     | false=>rw [hd,cond_false] at h;cases h
     | true=>
      rw [hd,cond_true] at h
      cases h;exact ⟨hd,wom _ _ _ hw (show (0:Rat)<((1:Int):Rat) by decide)⟩
theorem zdl (n:Rat) (u:Un) (hd:ytl u.d=true) (hf:0<u.f) (h1:qs n<=67108864) (h2:qs u.f<=67108864):CallsD Γ prog 144 [.agg (qC (some n)),.agg (unQ u)] (qR (some (n*u.f)) 0):=by
 have c1:=wuc (Γ:=Γ) u.d;rw [hd] at c1;have c2:CallsD Γ prog 19 [.agg (qC (some u.f))] (.one (cB true)):=w7o (some u.f) (by show qs u.f<=_;omega);have c3:=xhi (Γ:=Γ) (qF (some u.f)) h2
 have e:Fc.sign (qF (some u.f))=1:=by
  have h:=Fc.w9t u.f
  have h':sg u.f.num=1:=by
   have h:=(Rat.lt_iff _ _).1 hf;simp only [Rat.zero_num,Rat.zero_den] at h
   have:=vvv u.f.num
   omega
  exact h.trans h'
 rw [e] at c3;have c3:CallsD Γ prog 202 [.agg (qC (some u.f))] (.one (cI 1)):=c3
 have cR:CallsD Γ prog 199 [.agg (unQ u)] (.one (cB true)):=by
  refine CallsD.run [] Go.Proofs.Tryz.func199 rfl rfl rfl ?_;simp only [Go.Proofs.Tryz.f199];refine hgR ?_
  repeat' ((first | refine hfk ?_ ?_<;>intros | refine hik ?_ | with_reducible first | refine wml (c1) ?_ | refine ysj (c1) ?_ | refine wml (c2) ?_ | refine ysj (c2) ?_ | refine wml (c3) ?_ | refine ysj (c3) ?_)<;>refine hgS ?_)
  all_goals first
   | exact RLe.ofEq rfl
   | (exfalso;omega)
 have c4:CallsD Γ prog 19 [.agg (qC (some n))] (.one (cB true)):=w7o (some n) (by show qs n<=_;omega);have c5:=oMul (Γ:=Γ) (some n) (some u.f) h1 h2;have c5:CallsD Γ prog 23 [.agg (qC (some n)),.agg (qC (some u.f))] (qR (some (n*u.f)) 0):=c5;clear c1 c2 c3;refine CallsD.run [] Go.Proofs.Tryz.func144 rfl rfl rfl ?_;simp only [Go.Proofs.Tryz.f144];refine hgR ?_
 repeat' ((first | refine hfk ?_ ?_<;>intros | refine hik ?_ | with_reducible first | refine wml (cR) ?_ | refine ysj (cR) ?_ | refine wml (c4) ?_ | refine ysj (c4) ?_ | refine wml (c5) ?_ | refine ysj (c5) ?_)<;>refine hgS ?_)
 all_goals first
  | exact RLe.ofEq rfl
  | (exfalso;omega)
end Go.Hp.T
namespace Go.Hp.T
open Go Go.RowKit Go.Slot Go.Hp Go.Slot.T
set_option maxRecDepth 10000
set_option maxHeartbeats 4000000
variable {B:Nat} {x:Ex} {o:Int} {V:Va} {γ:Type} {ms:List Tb}
def thR (x:Th):Rs:=⟨x.t,x.i,x.c⟩
def thP (p:Th×Int):Rs×Int:=(thR p.1,p.2)
theorem v59 {x:Th} (h:x.G 0 B):(∃ i,x=⟨true,i,none,[]⟩)\/∃ q,x=⟨false,false,some q,[]⟩:=by
 obtain ⟨t,i,c,l⟩:=x
 rcases h with ⟨h1,h2,h3⟩ | ⟨h1,h2,h3,⟨q,h4,_⟩,_⟩
 . simp only at h1 h2 h3;subst h1;subst h2;subst h3;exact .inl ⟨i,rfl⟩
 . simp only at h1 h2 h3 h4;subst h1;subst h2;subst h4;rw [List.eq_nil_of_length_eq_zero h3];exact .inr ⟨q,rfl⟩
theorem ynx (q p:Rat):decide (cmpO (some q) (some p)<=0)=decide (q<=p):=decide_eq_decide.2 (zkr q p)
theorem vyv {C:Nat} {a b:Th} (ha:a.G 0 B) (hb:b.G 0 C) (ho:6<=o/\o<=13):ariV o (thR a) (thR b)=thP (bif decide (o=8)||decide (o=9) then scaA o a b else bif decide (o=6)||decide (o=7) then sumA o a b else cmpA o a b):=by
 have h:o=6\/o=7\/o=8\/o=9\/o=10\/o=11\/o=12\/o=13:=by omega
 rcases v59 ha with ⟨i,rfl⟩ | ⟨q,rfl⟩
 . rcases v59 hb with ⟨j,rfl⟩ | ⟨p,rfl⟩<;>rcases h with rfl | rfl | rfl | rfl | rfl | rfl | rfl | rfl<;>rfl
 . rcases v59 hb with ⟨j,rfl⟩ | ⟨p,rfl⟩
   . rcases h with rfl | rfl | rfl | rfl | rfl | rfl | rfl | rfl<;>rfl
   . rcases h with rfl | rfl | rfl | rfl | rfl | rfl | rfl | rfl
     . rfl
     . rfl
     . rfl
     . show numV (divO (some q) (some p)) (divE (some q) (some p))=thP (bif decide (¬divE (some ((1:Int):Rat)) (some p)=0) then (Th.zero,15) else (timA ⟨false,false,some q,[]⟩ (divO (some ((1:Int):Rat)) (some p)),0));by_cases hp:p=0
       . subst hp;rfl
       . simp only [divO,divE,hp,decide_false,cond_false];show (Rs.mk false false (some (q / p)),(0:Int))=(Rs.mk false false (some (q*(((1:Int):Rat) / p))),0)
         have e:q / p=q*(((1:Int):Rat) / p):=by
          rw [Rat.div_def,Rat.div_def,show ((1:Int):Rat)=1 from rfl,Rat.one_mul]
         rw [e]
     . show numV (some (min q p)) 0=thP (bif decide ((10:Int)=10)==decide (cmpO (some q) (some p)<=0) then (⟨false,false,some q,[]⟩,0) else (⟨false,false,some p,[]⟩,0));rw [ynx,Rat.min_def];by_cases h:q<=p
       . rw [decide_eq_true h,if_pos h];rfl
       . rw [decide_eq_false h,if_neg h];rfl
     . show numV (some (max q p)) 0=thP (bif decide ((11:Int)=10)==decide (cmpO (some q) (some p)<=0) then (⟨false,false,some q,[]⟩,0) else (⟨false,false,some p,[]⟩,0));rw [ynx,Rat.max_def];by_cases h:q<=p
       . rw [decide_eq_true h,if_pos h];rfl
       . rw [decide_eq_false h,if_neg h];rfl
     . rfl
     . rfl
theorem zm2 {l:List Th} (h:(o=4/\l.length=1)\/((o=14\/o=15)/\l.length=2)):logV o (l.map thR)=thP (logA o l):=by
 rcases h with ⟨rfl,h⟩ | ⟨h,hl⟩
 . match l,h with
   | [⟨t,i,c,m⟩],_=>cases t<;>cases i<;>rfl
 . match l,hl with
   | [⟨t,i,c,m⟩,⟨u,j,d,k⟩],_=>rcases h with rfl | rfl<;>cases t<;>cases u<;>cases i<;>cases j<;>rfl
theorem vx1 {T:Vt} {s:ByteArray} {k:Th} (h:k.G 0 B):vi3 T s (thR k)=thP (xu8 0 T s k):=by
 unfold vi3 xu8
 cases z2f T s with
 | none=>rfl
 | some t=>
  rcases v59 h with ⟨i,rfl⟩ | ⟨q,rfl⟩
  . rfl
  . show numV (xwc t (some q)).1 (xwc t (some q)).2=thP (bif decide (¬(xwc t (some q)).2=0) then (Th.zero,(xwc t (some q)).2) else (numA 0 (xwc t (some q)).1,0));unfold numV
    cases decide (¬(xwc t (some q)).2=0)<;>rfl
theorem v97 (z:Int) (u:ByteArray):xoq z u=thP (wfn 0 z u):=by
 unfold xoq wfn;by_cases h:¬(xx7 u).2=0
 . rw [decide_eq_true h];rfl
 . rw [decide_eq_false h]
   rcases veq u with ⟨v,h1,_⟩ | ⟨e,he,h1⟩
   . have e1:facO u=some v.f:=by unfold facO;rw [h1];rfl
     rw [e1];rfl
   . rw [h1] at h;exact absurd he h
theorem zr4 {α:Type} {f:α->Th×Int} {f':α->Rs×Int}:∀{l:List α},(∀ y∈l,f' y=thP (f y))->seqV (l.map f')=(match seqA (l.map f) with
 | .inl e=>.inl e
 | .inr rs=>.inr (rs.map thR))
 | [],_=>rfl
 | y::l,h=>by
  rw [List.map_cons,List.map_cons,h y (by simp)];generalize f y=p;obtain ⟨r,e⟩:=p
  show seqV ((thR r,e)::l.map f')=match seqA ((r,e)::l.map f) with
   | .inl e=>.inl e
   | .inr rs=>.inr (rs.map thR)
  rw [seqV,seqA,zr4 (fun z hz=>h z (by simp [hz]))]
  cases decide (¬e=0) with
  | true=>rfl
  | false=>cases seqA (l.map f)<;>rfl
theorem y4y {W:Vq} {T:Vt} (hB:4300<=B) (hV:Asm 0 B V) (hW:∀ s,z2f W s=(z2f V s).map (·.1)):∀ x:Ex,x.shaped=true->x.wqm=false->x.cal W T=thP (x.aff 0 V T):=by
 refine Ex.ind (fun x ih hsh hcl=>?_);have hG:=xni (T:=T) hB hV;rw [Ex.ypb,Bool.and_eq_true,List.all_eq_true] at hsh;rw [Ex.xrx,Bool.or_eq_false_iff,decide_eq_false_iff_not,List.any_eq_false] at hcl;obtain ⟨hnode,hargs⟩:=hsh
 have ih':∀ y∈x.args,y.cal W T=thP (y.aff 0 V T):=fun y hy=>ih y hy (hargs y hy) (by simpa using hcl.2 y hy)
 rw [Ex.xpb,Ex.yre];by_cases h0:x.op=0
 . rw [decide_eq_true h0,cond_true,cond_true];exact v97 _ _
 rw [decide_eq_false h0,cond_false,cond_false];by_cases h01:x.op=1
 . rw [decide_eq_true h01,cond_true,cond_true];unfold x5b y21;rw [hW x.name]
   cases z2f V x.name with
   | none=>rfl
   | some f=>
    show (Rs.mk false false (some (f.1+((0:Int):Rat))),(0:Int))=_;rw [show ((0:Int):Rat)=0 from rfl,Rat.add_zero];rfl
 rw [decide_eq_false h01,cond_false,cond_false]
 have hne:x.args.length≠0:=fun h=>by
  unfold xer at hnode;rw [decide_eq_false h0,decide_eq_false h01,h] at hnode;simp at hnode
 obtain ⟨hl2,hl3⟩:=zd3 hnode hcl.1 hne;by_cases h5:x.op=5
 . rw [decide_eq_true h5,cond_true,cond_true];have hl:=hl3 h5;unfold chA chV;rw [getD_map (show 0<x.args.length by omega),getD_map (show 1<x.args.length by omega),getD_map (show 2<x.args.length by omega),getD_map (show 0<x.args.length by omega),getD_map (show 1<x.args.length by omega),getD_map (show 2<x.args.length by omega)];rw [ih' _ (y7p (show 0<x.args.length by omega)),ih' _ (y7p (show 1<x.args.length by omega)),ih' _ (y7p (show 2<x.args.length by omega))];generalize (x.args.getD 0 default).aff 0 V T=p;obtain ⟨⟨t,i,c,l⟩,e⟩:=p;show (bif decide (¬e=0) then _ else bif !t then _ else bif i then _ else _)=thP (bif decide (¬e=0) then _ else bif !t then _ else bif i then _ else _)
   cases decide (¬e=0)<;>cases t<;>cases i<;>rfl
 rw [decide_eq_false h5,cond_false,cond_false,zr4 ih']
 cases hs:seqA (x.args.map (Ex.aff 0 V T)) with
 | inl e=>rfl
 | inr rs=>
  obtain ⟨hlen,hget⟩:=z8d hs;rw [List.length_map] at hlen hget;show opV T x.op x.name (rs.map thR)=thP (opA 0 T x.op x.name rs)
  have g:∀ i,i<x.args.length->(rs.getD i default).G 0 (B*(x.args.getD i default).nd-5):=fun i hi=>by
   have h1:=hget i hi;rw [getD_map hi] at h1;have hm:=y7p hi
   have:=hG _ (hargs _ hm) (by simpa using hcl.2 _ hm) (by rw [h1])
   rwa [h1] at this
  unfold opV opA;have r0:(rs.map thR).getD 0 default=thR (rs.getD 0 default):=getD_map (by omega);rw [r0];by_cases h2:x.op=2
  . rw [decide_eq_true h2,cond_true,cond_true];exact vx1 (g 0 (by omega))
  rw [decide_eq_false h2,cond_false,cond_false];have har:=wav hnode hne h2 hcl.1 h5
  cases hlg:decide (x.op=4)||decide (x.op=14)||decide (x.op=15) with
  | true=>
   rw [cond_true,cond_true];simp only [Bool.or_eq_true,decide_eq_true_eq] at hlg;exact zm2 (by omega)
  | false=>
   rw [cond_false,cond_false];simp only [Bool.or_eq_false_iff,decide_eq_false_iff_not] at hlg;have r1:(rs.map thR).getD 1 default=thR (rs.getD 1 default):=getD_map (by omega);rw [r1];exact vyv (g 0 (by omega)) (g 1 (by omega)) (by omega)
section
variable {α β:Type} (nm:β->ByteArray) (val:β->α) (bad:β->Bool)
def gN (V:List (ByteArray×α)):List β->Option (List (ByteArray×α))
 | []=>some V
 | b::l=>bif bad b then none else gN (updF V (nm b) (val b)) l
end
section
variable {α β:Type} {nm:β->ByteArray} {val:β->α} {bad:β->Bool} {ok:β->Bool} {out:ByteArray->Bool}
theorem vta (d:α) (s:ByteArray):∀ V:List (ByteArray×α),(updF V s d).length=bif (z2f V s).isSome then V.length else V.length+1
 | []=>rfl
 | p::V=>by
  have ih:=vta d s V;rw [updF,z2f]
  cases seq s p.1 with
  | true=>rfl
  | false=>
   simp only [cond_false,List.length_cons,ih]
   cases (z2f V s).isSome<;>rfl
theorem ypk:∀{l:List β} {V W:List (ByteArray×α)},gN nm val bad V l=some W->W.length<=V.length+l.length
 | [],V,W,h=>by rw [gN] at h;cases h;exact Nat.le_refl _
 | b::l,V,W,h=>by
  rw [gN] at h
  cases hb:bad b with
  | true=>rw [hb] at h;cases h
  | false=>
   rw [hb] at h;have h1:=ypk h;rw [vta] at h1;rw [List.length_cons]
   cases hl:(z2f V (nm b)).isSome<;>rw [hl] at h1<;>simp only [cond_true,cond_false] at h1<;>omega
theorem wvo:∀{l:List β} {V:List (ByteArray×α)},(∀ b∈l,bad b=(out (nm b)||!isName (nm b)||isWord (nm b)||!ok b))->gE nm ok val out V l=(match gN nm val bad V l with
 | none=>none
 | some W=>bif decide (W.length=V.length+l.length) then some W else none)
 | [],V,_=>by
  show some V=bif decide (V.length=V.length+0) then some V else none
  rw [Nat.add_zero,decide_eq_true rfl];rfl
 | b::l,V,h=>by
  have hb:=h b (by simp)
  have ih:=fun V=>wvo (V:=V) (fun c hc=>h c (by simp [hc]):∀ c∈l,_)
  rw [gE,gN]
  have e:((z2f V (nm b)).isSome||out (nm b)||!isName (nm b)||isWord (nm b)||!ok b)=((z2f V (nm b)).isSome||bad b):=by
   rw [hb];simp only [Bool.or_assoc]
  rw [e]
  cases bad b with
  | true=>rw [Bool.or_true];rfl
  | false=>
   rw [Bool.or_false];have hs:=vta (val b) (nm b) V
   cases hl:(z2f V (nm b)).isSome with
   | true=>
    rw [hl] at hs;simp only [cond_true,cond_false] at hs ⊢
    cases hg:gN nm val bad (updF V (nm b) (val b)) l with
    | none=>rfl
    | some W=>
     have:=ypk hg
     have hlt:¬W.length=V.length+(b::l).length:=by rw [List.length_cons];omega
     show none=bif decide (W.length=V.length+(b::l).length) then some W else none
     rw [decide_eq_false hlt];rfl
   | false=>
    rw [hl] at hs;simp only [cond_false] at hs ⊢;rw [ih]
    cases hg:gN nm val bad (updF V (nm b) (val b)) l with
    | none=>rfl
    | some W=>
     simp only [hs,List.length_cons,show V.length+1+l.length=V.length+(l.length+1) by omega]
theorem wp1 {out' : ByteArray → Bool} : ∀ {l : List β} {V W W' : List (ByteArray × α)}, gE nm ok val out V l = some W → gE nm ok val out' V l = some W' → W = W'
 | [],V,W,W',h,h'=>by rw [gE] at h h';cases h;cases h';rfl
 | b::l,V,W,W',h,h'=>by
  rw [gE] at h h'
  cases h1:((z2f V (nm b)).isSome||out (nm b)||!isName (nm b)||isWord (nm b)||!ok b) with
  | true=>rw [h1] at h;cases h
  | false=>cases h2:((z2f V (nm b)).isSome||out' (nm b)||!isName (nm b)||isWord (nm b)||!ok b) with
   | true=>rw [h2] at h';cases h'
   | false=>
    rw [h1] at h;rw [h2] at h';exact wp1 h h'
theorem zkk {α':Type} {nm':γ->ByteArray} {ok':γ->Bool} {val':γ->α'} {tok:Tb->Bool} {bs:List β} {cs:List γ} {V:List (ByteArray×α)} {V':List (ByteArray×α')} {T T':List (ByteArray×Tb)} (h:entG nm ok val tok bs ms=some (V,T)) (h':entG nm' ok' val' tok cs ms=some (V',T')):T=T':=by
 unfold entG at h h'
 cases h1:gE nm ok val (fun _=>false) [] bs with
 | none=>rw [h1] at h;cases h
 | some W=>cases h2:gE nm' ok' val' (fun _=>false) [] cs with
  | none=>rw [h2] at h';cases h'
  | some W'=>
   rw [h1] at h;rw [h2] at h';simp only at h h';obtain ⟨X,hX,e⟩:=Option.map_eq_some_iff.1 h;obtain ⟨X',hX',e'⟩:=Option.map_eq_some_iff.1 h'
   cases e;cases e';exact wp1 hX hX'
theorem zju {nm':γ->ByteArray} {F:β->γ} (h:∀ b,nm' (F b)=nm b) (l:List β) (s:ByteArray):fnd nm' (l.map F) s=(fnd nm l s).map F:=by
 induction l with
 | nil=>rfl
 | cons b l ih=>
  rw [List.map_cons,vvu,vvu,ih,h]
  cases seq s (nm b)<;>rfl
end
theorem vx2 (n:Nat):∀(l:List Sl) (V:Va),gS n V l=gN Sl.name Sl.val (fun s=>!isName s.name||isWord s.name||!decide (s.f.ok n)) V l
 | [],V=>rfl
 | s::l,V=>by rw [gS,gN,vx2 n l]
theorem zct (V:Va):∀(l:List Tb) (T:Vt),gTb V T l=gN Tb.name id (fun t=>(z2f V t.name).isSome||isWord t.name||!tbOk t) T l
 | [],T=>rfl
 | t::l,T=>by rw [gTb,gN,zct V l];rfl
theorem zey (a b:Nat):decide ((a:Int)=b)=decide (a=b):=decide_eq_decide.2 (by omega)
theorem y3j (ss:List Sl) (ms:List Tb):entA ss ms=entG Sl.name (fun s=>decide (s.f.ok (nOf ss))) Sl.val tbOk ss ms:=by
 unfold entA entG;rw [vx2,wvo (bad:=fun s:Sl=>!isName s.name||isWord s.name||!decide (s.f.ok (nOf ss))) (fun b _=>by rw [Bool.false_or])]
 cases gN Sl.name Sl.val (fun s=>!isName s.name||isWord s.name||!decide (s.f.ok (nOf ss))) [] ss with
 | none=>rfl
 | some V=>
  simp only [zct,zey,List.length_nil,Nat.zero_add]
  have hg:=wvo (nm:=Tb.name) (val:=id) (ok:=tbOk) (out:=fun s=>(z2f V s).isSome) (bad:=fun t:Tb=>(z2f V t.name).isSome||isWord t.name||!tbOk t) (l:=ms) (V:=[]) (fun t _=>by
   cases ht:tbOk t with
   | true=>rw [(yg5 ht).2.1];cases (z2f V t.name).isSome<;>cases isWord t.name<;>rfl
   | false=>simp only [Bool.not_false,Bool.or_true])
  simp only [List.length_nil,Nat.zero_add] at hg
  cases hd:decide (V.length=ss.length) with
  | false=>
   cases gN Tb.name id (fun t=>(z2f V t.name).isSome||isWord t.name||!tbOk t) [] ms<;>rfl
  | true=>
   simp only [Bool.true_and,cond_true,hg]
   cases gN Tb.name id (fun t=>(z2f V t.name).isSome||isWord t.name||!tbOk t) [] ms with
   | none=>rfl
   | some T=>
    simp only
    cases decide (T.length=ms.length)<;>rfl
theorem Sl.xd3 {s:Sl} {n:Nat} (h:s.f.ok n):s.f=Af.of s.val.1 s.val.2/\s.val.2.length=n:=by
 obtain ⟨k,cs,e,hl⟩:=Af.vy4 h
 have e2:s.val=(k,cs):=by
  unfold Sl.val;rw [e];show ((Fc.of k).val,(cs.map Fc.of).map Fc.val)=_;rw [List.map_map,Fc.xhg]
  congr 1
  conv=>rhs;rw [<-List.map_id cs]
  exact List.map_congr_left (fun q _=>Fc.xhg q)
 rw [e2];exact ⟨e,hl⟩
variable {ss:List Sl}
def Sl.sm (B:Nat) (s:Sl):Prop:=s.f.c.sz+10<=B/\∀ f∈s.f.l,f.sz+10<=B
theorem zd4 {T:Vt} (h:entA ss ms=some (V,T)) (hs:∀ s∈ss,s.sm B):Asm (nOf ss) B V:=fun s f hf=>by
 rw [y3j] at h;obtain ⟨h1,_,_,h4,_⟩:=vxk h;rw [h4 s] at hf;obtain ⟨x,hx,rfl⟩:=Option.map_eq_some_iff.1 hf;have hm:=(ypj hx).1;obtain ⟨e,hl⟩:=Sl.xd3 (of_decide_eq_true (h1 x hm));obtain ⟨b1,b2⟩:=hs x hm;rw [e] at b1 b2;exact ⟨hl,b1,fun q hq=>b2 (Fc.of q) (List.mem_map_of_mem hq)⟩
theorem yxy {T:Vt} (h:entA ss ms=some (V,T)) (hb:∀ t∈ms,t.Sm):∀ s t,z2f T s=some t->t.Sm/\tbOk t=true:=fun s t ht=>by
 rw [y3j] at h;obtain ⟨_,h2,_,_,h5⟩:=vxk h;rw [h5 s] at ht;have hm:=(ypj ht).1;exact ⟨hb t hm,h2 t hm⟩
theorem v57 {r:Th} (h:affF x ss ms=(r,0)):zqs x=true/\x.wqm=false/\∃ V T,entA ss ms=some (V,T)/\x.aff (nOf ss) V T=(r,0)/\r.t=false:=by
 unfold affF at h
 cases h1:!zqs x||x.wqm with
 | true=>rw [h1] at h;cases h
 | false=>
  rw [h1] at h;rw [Bool.or_eq_false_iff] at h1;refine ⟨by simpa using h1.1,h1.2,?_⟩
  cases he:entA ss ms with
  | none=>rw [he] at h;cases h
  | some p=>
   obtain ⟨V,T⟩:=p;rw [he] at h;refine ⟨V,T,rfl,?_⟩;simp only [cond_false] at h;generalize x.aff (nOf ss) V T=p at h;obtain ⟨t,e⟩:=p;by_cases hd:¬e=0
   . simp only [decide_eq_true hd,cond_true] at h;exact absurd (congrArg Prod.snd h) hd
   . have hd':=Classical.not_not.1 hd;subst hd';simp only [not_true_eq_false,decide_false,cond_false] at h
     cases ht:t.t with
     | true=>rw [ht] at h;cases h
     | false=>
      rw [ht] at h;simp only [cond_false] at h
      cases h;exact ⟨rfl,ht⟩
theorem yvx (h:zqs x=true):x.shaped=true:=by unfold zqs at h;rw [Bool.and_eq_true] at h;exact h.2
theorem vle (hB:4300<=B) (hs:∀ s∈ss,s.sm B) :
 (∃ v,affF x (ss.map fun s=>⟨s.name,⟨s.f.c,[]⟩⟩) ms=(⟨false,false,v,[]⟩,0)/\valF x (ss.map fun s=>⟨s.name,s.f.c⟩) ms=(⟨false,false,v⟩,0))\/
 (∃ b,affF x (ss.map fun s=>⟨s.name,⟨s.f.c,[]⟩⟩) ms=(Th.zero,13)/\valF x (ss.map fun s=>⟨s.name,s.f.c⟩) ms=(⟨true,b,none⟩,0))\/
 ∃ e r,e≠0/\affF x (ss.map fun s=>⟨s.name,⟨s.f.c,[]⟩⟩) ms=(Th.zero,e)/\valF x (ss.map fun s=>⟨s.name,s.f.c⟩) ms=(r,e):=by
 have hn:nOf (ss.map fun s=>⟨s.name,⟨s.f.c,[]⟩⟩)=0:=by cases ss<;>rfl
 unfold affF valF
 cases h1:!zqs x||x.wqm with
 | true=>exact .inr (.inr ⟨2,_,by decide,rfl,rfl⟩)
 | false=>
  rw [Bool.or_eq_false_iff] at h1
  have h2:zqs x=true:=by simpa using h1.1
  simp only [cond_false]
  have hi:(entA (ss.map fun s=>⟨s.name,⟨s.f.c,[]⟩⟩) ms).isSome=(entF (ss.map fun s=>⟨s.name,s.f.c⟩) ms).isSome:=by
   rw [y3j,hn,yee,yee,List.all_map,List.all_map,List.map_map,List.map_map]
   congr 2
   congr 1
   funext s
   exact decide_eq_decide.2 ⟨fun h=>h.2.1,fun h=>⟨rfl,h,fun f hf=>by cases hf⟩⟩
  cases he:entA (ss.map fun s=>⟨s.name,⟨s.f.c,[]⟩⟩) ms with
  | none=>
   rw [he] at hi
   cases hf:entF (ss.map fun s=>⟨s.name,s.f.c⟩) ms with
   | none=>exact .inr (.inr ⟨1,_,by decide,rfl,rfl⟩)
   | some p=>rw [hf] at hi;cases hi
  | some p=>
   obtain ⟨V,T⟩:=p;rw [he] at hi
   cases hf:entF (ss.map fun s=>⟨s.name,s.f.c⟩) ms with
   | none=>rw [hf] at hi;cases hi
   | some p=>
    obtain ⟨W,T'⟩:=p
    have hV:=zd4 he (fun s hm=>by
     obtain ⟨y,hy,rfl⟩:=List.mem_map.1 hm
     exact ⟨(hs y hy).1,fun f hf=>by cases hf⟩)
    rw [hn] at hV;have he':=he;rw [y3j] at he';have hT:=zkk he' hf;subst hT;obtain ⟨_,_,_,a4,_⟩:=vxk he';obtain ⟨_,_,_,b4,_⟩:=vxk hf
    have hcal:=y4y (T:=T) hB hV (W:=W) (fun s=>by
     rw [b4 s,a4 s,zju (nm:=Sl.name) (F:=fun s:Sl=>(⟨s.name,s.f.c⟩:Bd)) (fun _=>rfl),zju (nm:=Sl.name) (F:=fun s:Sl=>(⟨s.name,⟨s.f.c,[]⟩⟩:Sl)) (fun _=>rfl)]
     cases fnd Sl.name ss s<;>rfl) x (yvx h2) h1.2
    have hG:=xni (T:=T) hB hV x (yvx h2) h1.2;simp only [hn,hcal];generalize x.aff 0 V T=p at hG;obtain ⟨t,e⟩:=p;by_cases hd:¬e=0
    . exact .inr (.inr ⟨e,thR t,hd,by simp only [decide_eq_true hd,cond_true],rfl⟩)
    . have hd':=Classical.not_not.1 hd;subst hd';simp only [not_true_eq_false,decide_false,cond_false]
      rcases v59 (hG rfl) with ⟨b,e1⟩ | ⟨q,e1⟩
      . simp only at e1;subst e1;exact .inr (.inl ⟨b,rfl,rfl⟩)
      . simp only at e1;subst e1;exact .inl ⟨some q,rfl,rfl⟩
end Go.Hp.T
