/- The proof, part B34: A4, A5, A6. -/
import Derived.Test.YtglblfkobflpmaaGreatB33
import Derived.Test.YtglblfkobflpmaaGreatB31
namespace Go.Hp
open Go Go.RowKit Go.Slot
variable {P:Program} {Γ:List (Nat×List Cell)}
theorem xpp.roN (φ:List Nat) {f:FuncId} {J ηs:List SB} {args:List SV} {res:SV} (h:xpp Γ P f ηs args ηs res) (hn:φ.Nodup) (hb:(φ.all fun j=>Nat.blt j J.length)=true) (hp:φ.map (fun j=>J[j]?)=ηs.map (fun x=>some (rnSB (atR φ J.length) x))) :
 xpp Γ P f J (args.map (v3y (atR φ J.length))) J (rnSV (atR φ J.length) res):=by
 have hb':∀ j∈φ,j<J.length:=fun j hj=>by simpa using List.all_eq_true.1 hb j hj
 have hk:=xgt.of hp;have hc:=xpp.frame hn hb' hk (by rw [hk.1];exact Nat.le_refl _) h
 have hput:putR φ J ηs=J:=by
  apply List.ext_getElem?;intro i;by_cases hi2:i<J.length
  . by_cases hi:i∈φ
    . obtain ⟨k,hk2,rfl⟩:=List.getElem_of_mem hi
      have hkl:k<ηs.length:=by rw [hk.1];exact hk2
      have h1:=xje (ηs':=ηs) hn hb' (List.getElem?_eq_getElem hkl);rw [zj8 (List.getElem?_eq_getElem hk2)] at h1;rw [h1];have h2:=congrArg (fun l=>l[k]?) hp;simp only [List.getElem?_map,List.getElem?_eq_getElem hk2,List.getElem?_eq_getElem hkl,Option.map_some] at h2;exact (Option.some.inj h2).symm
    . exact zn3 hi2 hi
  . rw [List.getElem?_eq_none (by rw [wb2,hk.1];omega),List.getElem?_eq_none (by omega)]
 rw [hput] at hc;exact hc
theorem xpp.preN {f:FuncId} {ηs ξ:List SB} {args:List SV} {res:SV} (h:xpp Γ P f ηs args ηs res) (hs:∀ r:Nat->Nat,(∀ i,i<ηs.length->r i=i)->ηs.map (rnSB r)=ηs) (ha:args.map (v3y (atR (List.range ηs.length) (ηs++ξ).length))=args) (hr:rnSV (atR (List.range ηs.length) (ηs++ξ).length) res=res):xpp Γ P f (ηs++ξ) args (ηs++ξ) res:=by
 have hc:=xpp.roN (List.range ηs.length) (J:=ηs++ξ) h List.nodup_range (List.all_eq_true.2 fun j hj=>by
  rw [List.mem_range] at hj
  simp only [List.length_append,Nat.blt_eq];omega) (by
  apply List.ext_getElem?;intro i;by_cases hi:i<ηs.length
  . have h1:=congrArg (fun l=>l[i]?) (hs _ (fun i hi=>yjm (N:=(ηs++ξ).length) hi));simp only [List.getElem?_map,List.getElem?_eq_getElem hi,Option.map_some,Option.some.injEq] at h1;simp only [List.getElem?_map,List.getElem?_range hi,List.getElem?_eq_getElem hi,Option.map_some,List.getElem?_append_left hi,h1]
  . simp [List.getElem?_eq_none (show ηs.length<=i by omega)];omega)
 rw [ha,hr] at hc;exact hc
end Go.Hp
namespace Go.Hp.T
open Go Go.RowKit Go.Slot Go.Hp Go.Slot.T
open Go.Proofs.Tryz (prog)
attribute [local irreducible] hide RH
set_option maxRecDepth 10000
set_option maxHeartbeats 8000000
variable {Γ:List (Nat×List Cell)}
def envA (l:Va):List (Value×SV):=envM (fun f=>.agg ((afC f).map .dat)) l
theorem zy7 {T:Va} {s:ByteArray}:yvo (envA T) (.string s)=some ((z2f T s).map fun f=>.agg ((afC f).map .dat)):=x0f
theorem zu9 {T:Va} {s:ByteArray} {k:Rat} {cs:List Rat}:updM (envA T) (.string s) (.agg [.dat (.raw (.int .i64 (qF (some k)).s)),.dat (.ints .i64 (qF (some k)).L),.dat (.raw (.int .i64 (qF (some k)).t)),.dat (.ints .i64 (qF (some k)).M),.dat (.sl 4 (cs.map rowQ))])=some (envA (updF T s (k,cs))):=y5p (C:=fun f:Fm=>.agg ((afC f).map .dat)) (l:=T) (s:=s) (v:=(k,cs))
theorem vis {r:Nat->Nat} {l:Va}:rnSB r (.map (envA l))=.map (envA l):=yp7 (fun _ _=>rfl) r l
theorem vho (i j:Nat) (l:Va):swSB i j (.map (envA l))=.map (envA l):=xgc (fun _ _ _=>rfl) i j l
theorem wbm (l:Va):vb5 (.map (envA l))=[]:=xuj (fun _=>rfl) l
attribute [go_sem] wbm zy7 zu9
attribute [go_sem 20000] vis vho
abbrev mA (l:Va):SB:=.map (envA l)
abbrev rdB (n:Nat):SB:=.box [.dat (cI n),.mp 1,.mp 2] (some 109)
abbrev rdE (n:Nat) (V:Va) (T:Vt):List SB:=[rdB n,mA V,mB T]
theorem zt9 (n:Nat) (V:Va) (T:Vt):∀ r:Nat->Nat,(∀ i,i<(rdE n V T).length->r i=i)->(rdE n V T).map (rnSB r)=rdE n V T:=fun r hr=>by
 show [SB.box [.dat (cI n),.mp (r 1),.mp (r 2)] (some 109),rnSB r (mA V),rnSB r (mB T)]=_;rw [hr 1 (by show 1<3;decide),hr 2 (by show 2<3;decide),vis,zgw]
theorem w1z:CallsD Γ prog 37 [.one (cI 0)] (.agg (qC (some 0))):=oInt 0 (by decide)
theorem yfa (n:Nat) (V:Va) (T:Vt) (v:Option Rat) (hn:n<=6):xpp Γ prog 101 (rdE n V T) [.one (.ptr 0 0),.agg ((qC v).map .dat)] (rdE n V T) (.agg ((thC (numA n v)).map .dat)):=by
 have hr:CallsD Γ prog 142 [.one (.sl 4 [qC (some 0)]),.one (cI n)] (.one (.sl 4 ((List.replicate n (0:Rat)).map rowQ))):=by rw [List.map_replicate];exact vl7 n hn
 refine xpp.run [] Go.Proofs.Tryz.func101 rfl rfl ?_;simp only [Go.Proofs.Tryz.f101];refine hgR ?_
 repeat' ((first | refine hfk ?_ ?_<;>intros | refine hik ?_ | with_reducible first | refine wml (w1z) ?_ | refine ysi (w1z) ?_ | refine wml (hr) ?_ | refine ysi (hr) ?_)<;>refine hgS ?_)
 exact StH.vzq rfl (by kernel_rfl) rfl
theorem yyg {n B:Nat} (V:Va) (T:Vt) (s:ByteArray) (k:Th) (hk:k.G n B) (hn:n<=6) (hB:B<=67108864) (hT:∀ s t,z2f T s=some t->t.Sm/\tbOk t=true) :
 xpp Γ prog 61 (rdE n V T) [.one (.ptr 0 0),.one (.dat (cS s)),.agg ((thC k).map .dat)] (rdE n V T) (thS (xu8 n T s k)):=by
 have hc:=hk.con (Γ:=Γ) (by omega) hB
 cases h:z2f T s with
 | none=>
  have e:xu8 n T s k=(⟨false,false,none,[]⟩,11):=by unfold xu8;rw [h];rfl
  rw [e];refine xpp.run [] Go.Proofs.Tryz.func61 rfl rfl ?_;simp only [Go.Proofs.Tryz.f61];refine hgR ?_;refine hg1 @h ?_
  repeat' ((first | refine hfk ?_ ?_<;>intros | refine hik ?_)<;>refine hgS ?_)
  exact StH.z9p rfl (by kernel_rfl) rfl rfl
 | some t=>
  obtain ⟨h1,h2⟩:=hT s t h
  have hq:qz k.c<=67108864:=by
   rcases hk.cs with ⟨i,rfl⟩ | ⟨m,cs,rfl,_,h2,_⟩
   . exact Nat.zero_le _
   . exact Nat.le_trans h2 hB
  have hL:=vud (Γ:=Γ) t k.c hq h1.n h1.u h1.r
  have e:xu8 n T s k=bif !k.con then (⟨false,false,none,[]⟩,13) else bif decide (¬(xwc t k.c).2=0) then (⟨false,false,none,[]⟩,(xwc t k.c).2) else (numA n (xwc t k.c).1,0):=by unfold xu8;rw [h];rfl
  rw [e];generalize xwc t k.c=r at hL;obtain ⟨rv,re⟩:=r;simp only at hL;generalize k.con=kc at hc;have hnum:=yfa (Γ:=Γ) n V T rv hn;refine xpp.run [] Go.Proofs.Tryz.func61 rfl rfl ?_;simp only [Go.Proofs.Tryz.f61];refine hgR ?_;refine hg1 @h ?_
  repeat' ((first | refine hfk ?_ ?_<;>intros | refine hik ?_ | with_reducible first | refine wml (hc) ?_ | refine ysi (hc) ?_ | refine wml (hL) ?_ | refine ysi (hL) ?_)<;>refine hgS ?_)
  all_goals first
   | exact StH.z9p rfl (by kernel_rfl) rfl (by simp [*])
   | skip
  refine x6x (xpp.preN hnum (zt9 n V T) rfl rfl) ?_;refine hg ?_;exact StH.vzq rfl (by kernel_rfl) (by simp [*])
theorem x7p {n B:Nat} (V:Va) (T:Vt) (o:Int) (a b:Th) (ha:a.G n B) (hb:b.G n B) (hn:n<=1048576) (hB:B<=67108864) :
 xpp Γ prog 65 (rdE n V T) [.one (.ptr 0 0),.one (.dat (cI o)),.agg ((thC a).map .dat),.agg ((thC b).map .dat)] (rdE n V T) (thS (cmpA o a b)):=by
 have ca:=ha.con (Γ:=Γ) hn hB;have cb:=hb.con (Γ:=Γ) hn hB;generalize hR:cmpA o a b=R
 rcases ha.cs with ⟨i,rfl⟩ | ⟨k,cs,rfl,h1,h2,h3⟩
 . rw [show Th.con ⟨true,i,none,[]⟩=false from rfl] at ca;simp only [thC,List.map_nil] at ca;refine xpp.run [] Go.Proofs.Tryz.func65 rfl rfl ?_;simp only [Go.Proofs.Tryz.f65];refine hgR ?_
   repeat' ((first | refine hfk ?_ ?_<;>intros | refine hik ?_ | with_reducible first | refine wml (ca) ?_ | refine ysi (ca) ?_)<;>refine hgS ?_)
   exact StH.z9p rfl (by kernel_rfl) rfl hR.symm
 rcases hb.cs with ⟨i,rfl⟩ | ⟨m,ds,rfl,k1,k2,k3⟩
 . rw [show Th.con ⟨true,i,none,[]⟩=false from rfl] at cb;simp only [thC,List.map_nil] at cb
   have e:R=(⟨false,false,none,[]⟩,13):=by rw [<-hR];unfold cmpA;rw [show Th.con ⟨true,i,none,[]⟩=false from rfl,Bool.not_false,Bool.or_true];rfl
   generalize Th.con ⟨false,false,some k,cs⟩=xa at ca;refine xpp.run [] Go.Proofs.Tryz.func65 rfl rfl ?_;simp only [Go.Proofs.Tryz.f65];refine hgR ?_
   repeat' ((first | refine hfk ?_ ?_<;>intros | refine hik ?_ | with_reducible first | refine wml (ca) ?_ | refine ysi (ca) ?_ | refine wml (cb) ?_ | refine ysi (cb) ?_)<;>refine hgS ?_)
   all_goals exact StH.z9p rfl (by kernel_rfl) rfl rfl
 have hc:=oCmp (Γ:=Γ) (some k) (some m) (Nat.le_trans h2 hB) (Nat.le_trans k2 hB)
 have e:R=bif !Th.con ⟨false,false,some k,cs⟩||!Th.con ⟨false,false,some m,ds⟩ then (⟨false,false,none,[]⟩,13) else
  bif decide (o=12) then (⟨true,decide (cmpO (some k) (some m)<0),none,[]⟩,0) else bif decide (o=13) then (⟨true,decide (cmpO (some k) (some m)=0),none,[]⟩,0) else
  bif decide (o=10)==decide (cmpO (some k) (some m)<=0) then (⟨false,false,some k,cs⟩,0) else (⟨false,false,some m,ds⟩,0):=hR.symm
 generalize cmpO (some k) (some m)=c at hc e;generalize Th.con ⟨false,false,some k,cs⟩=xa at ca e;generalize Th.con ⟨false,false,some m,ds⟩=xb at cb e;clear hR ha hb;refine xpp.run [] Go.Proofs.Tryz.func65 rfl rfl ?_;simp only [Go.Proofs.Tryz.f65];refine hgR ?_
 repeat' ((first | refine hfk ?_ ?_<;>intros | refine hik ?_ | with_reducible first | refine wml (ca) ?_ | refine ysi (ca) ?_ | refine wml (cb) ?_ | refine ysi (cb) ?_ | refine wml (hc) ?_ | refine ysi (hc) ?_)<;>refine hgS ?_)
 all_goals first
  | exact StH.z9p rfl (by kernel_rfl) rfl rfl
  | exact StH.vzq rfl (by kernel_rfl) rfl
  | (exfalso;omega)
  | exact StH.z9p rfl (by kernel_rfl) rfl (by simp [*])
  | exact StH.vzq rfl (by kernel_rfl) (by simp [*])
end Go.Hp.T
namespace Go.Hp.T
open Go Go.RowKit Go.Slot Go.Hp Go.Slot.T
open Go.Proofs.Tryz (prog)
attribute [local irreducible] hide RH
set_option maxRecDepth 10000
set_option maxHeartbeats 8000000
variable {Γ:List (Nat×List Cell)}
theorem v58 (q:Rat) (h:qs q<=67108864):CallsD Γ prog 73 [.agg (qC (some q))] (.agg (qC (some q))):=by
 have:=vrk (Γ:=Γ) (Fc.of q) h
 rw [Af.zvt] at this;exact this
theorem zex (n:Nat) (V:Va) (T:Vt) (x:Ex) (hl:3<=x.args.length) (hl2:x.args.length<=1073741824)
 (h:∀ i,i<3->xpp Γ prog 29 (rdE n V T) [.one (.ptr 0 0),.agg ((exC (x.args.getD i default)).map .dat)] (rdE n V T) (thS ((x.args.getD i default).aff n V T))) :
 xpp Γ prog 60 (rdE n V T) [.one (.ptr 0 0),.agg ((exC x).map .dat)] (rdE n V T) (thS (chA (x.args.map (Ex.aff n V T)))):=by
 have h0:=h 0 (by decide);have h1:=h 1 (by decide);have h2:=h 2 (by decide);clear h
 have e:chA (x.args.map (Ex.aff n V T))=bif decide (¬((x.args.getD 0 default).aff n V T).2=0) then (Th.zero,((x.args.getD 0 default).aff n V T).2) else bif !((x.args.getD 0 default).aff n V T).1.t then (Th.zero,13) else bif ((x.args.getD 0 default).aff n V T).1.i then (x.args.getD 1 default).aff n V T else (x.args.getD 2 default).aff n V T:=by
  unfold chA;rw [getD_map (show 0<x.args.length by omega),getD_map (show 1<x.args.length by omega),getD_map (show 2<x.args.length by omega)]
 rw [e];generalize (x.args.getD 0 default).aff n V T=r0 at h0;generalize (x.args.getD 1 default).aff n V T=r1 at h1;generalize (x.args.getD 2 default).aff n V T=r2 at h2;obtain ⟨⟨t0,i0,v0,l0⟩,e0⟩:=r0;simp only at h0 ⊢;refine xpp.run [] Go.Proofs.Tryz.func60 rfl rfl ?_;simp only [Go.Proofs.Tryz.f60];refine hgR ?_;refine hg ?_;refine x6x (xpp.preN h0 (zt9 n V T) rfl rfl) ?_;clear h0;refine hg ?_
 repeat' ((first | refine hfk ?_ ?_<;>intros | refine hik ?_)<;>refine hgS ?_)
 . exact StH.z9p rfl (by kernel_rfl) rfl rfl
 . exact StH.z9p rfl (by kernel_rfl) rfl rfl
 . refine x6x (xpp.preN h1 (zt9 n V T) rfl rfl) ?_;refine hg ?_
   repeat' ((first | refine hfk ?_ ?_<;>intros | refine hik ?_)<;>refine hgS ?_)
   exact StH.vzq rfl (by kernel_rfl) (by simp [*])
 . refine x6x (xpp.preN h2 (zt9 n V T) rfl rfl) ?_;refine hg ?_
   repeat' ((first | refine hfk ?_ ?_<;>intros | refine hik ?_)<;>refine hgS ?_)
   exact StH.vzq rfl (by kernel_rfl) (by simp [*])
theorem wzo (n:Nat) (V:Va) (T:Vt) (x:Ex) (hx:x.Sm) (hn:inI x.n) (h0:x.op=0) (h6:n<=6):xpp Γ prog 59 (rdE n V T) [.one (.ptr 0 0),.agg ((exC x).map .dat)] (rdE n V T) (thS (wfn n x.n x.unit)):=by
 have hu:=hx.u;have hz:=x11 hn;have ho:=oInt (Γ:=Γ) x.n hn
 rcases ver x.unit with ⟨u,h,hq⟩ | ⟨e,he,h⟩
 . have hr:=xyv (Γ:=Γ) hu h;obtain ⟨r1,r2⟩:=yv0 h;have hf:=zdl (Γ:=Γ) (x.n:Rat) u r1 r2 (Nat.le_trans hz (by decide)) (by omega);have hnum:=yfa (Γ:=Γ) n V T (some ((x.n:Rat)*u.f)) h6
   have e1:wfn n x.n x.unit=(numA n (some ((x.n:Rat)*u.f)),0):=by unfold wfn facO;rw [h];rfl
   rw [e1];refine xpp.run [] Go.Proofs.Tryz.func59 rfl rfl ?_;simp only [Go.Proofs.Tryz.f59];refine hgR ?_
   repeat' ((first | refine hfk ?_ ?_<;>intros | refine hik ?_ | with_reducible first | refine wml (hr) ?_ | refine ysi (hr) ?_ | refine wml (ho) ?_ | refine ysi (ho) ?_ | refine wml (hf) ?_ | refine ysi (hf) ?_)<;>refine hgS ?_)
   all_goals try (exfalso;omega)
   refine x6x (xpp.preN hnum (zt9 n V T) rfl rfl) ?_;refine hg ?_
   repeat' ((first | refine hfk ?_ ?_<;>intros | refine hik ?_)<;>refine hgS ?_)
   exact StH.vzq rfl (by kernel_rfl) rfl
 . have hr:=xmw (Γ:=Γ) x.unit hu;rw [h] at hr
   have e1:wfn n x.n x.unit=(⟨false,false,none,[]⟩,14):=by unfold wfn;rw [h];simp only [decide_eq_true he,cond_true];rfl
   rw [e1];refine xpp.run [] Go.Proofs.Tryz.func59 rfl rfl ?_;simp only [Go.Proofs.Tryz.f59];refine hgR ?_
   repeat' ((first | refine hfk ?_ ?_<;>intros | refine hik ?_ | with_reducible first | refine wml (hr) ?_ | refine ysi (hr) ?_)<;>refine hgS ?_)
   all_goals first
    | (exfalso;omega)
    | exact StH.z9p rfl (by kernel_rfl) rfl rfl
def lfB (n:Nat) (V:Va) (T:Vt) (x:SB) (k:Rat) (cs:List Rat):Nat->List SB
 | 0=>rdE n V T++[x,.box ((thZ false false).map .dat) (some 80),.box ((afC (k,cs)).map .dat) (some 37),.box [.dat (.raw (.int .i64 (qF (some k)).s)),.dat (.ints .i64 (qF (some k)).L),.dat (.raw (.int .i64 (qF (some k)).t)),.dat (.ints .i64 (qF (some k)).M),.dat .zc] (some 37)]
 | i+1=>rdE n V T++[x,.box ((thZ false false).map .dat) (some 80),.box ((afC (k,cs)).map .dat) (some 37),.box [.dat (.raw (.int .i64 (qF (some k)).s)),.dat (.ints .i64 (qF (some k)).L),.dat (.raw (.int .i64 (qF (some k)).t)),.dat (.ints .i64 (qF (some k)).M),.sl 7 4 0 (i+1)] (some 37),.arr (.sl 4 ((cs.take (i+1)).map rowQ)) 0 (some 34)]
theorem xuk (n:Nat) (V:Va) (T:Vt) (x:Ex) (_hx:x.Sm) (h1:x.op=1) (hV:∀ s f,z2f V s=some f->f.2.length<=1048576/\qs f.1<=67108864/\∀ q∈f.2,qs q<=67108864):xpp Γ prog 59 (rdE n V T) [.one (.ptr 0 0),.agg ((exC x).map .dat)] (rdE n V T) (thS (x5a V x.name)):=by
 unfold x5a
 cases hlk:z2f V x.name with
 | none=>
  show xpp _ _ _ _ _ _ (thS (⟨false,false,none,[]⟩,11));refine xpp.run [] Go.Proofs.Tryz.func59 rfl rfl ?_;simp only [Go.Proofs.Tryz.f59];refine hgR ?_
  repeat' ((first | refine hfk ?_ ?_<;>intros | refine hik ?_)<;>refine hgS ?_)
  all_goals try (exfalso;omega)
  refine hg1 @hlk ?_
  repeat' ((first | refine hfk ?_ ?_<;>intros | refine hik ?_)<;>refine hgS ?_)
  all_goals first
   | (exfalso;omega)
   | exact StH.z9p rfl (by kernel_rfl) rfl rfl
 | some f=>
  obtain ⟨k,cs⟩:=f;obtain ⟨v1,v2,v3⟩:=hV _ _ hlk;simp only at v1 v2 v3;have c0:=v58 (Γ:=Γ) k v2
  have ci:∀ i,i<cs.length->CallsD Γ prog 73 [.agg (qC (some (cs.getD i default)))] (.agg (qC (some (cs.getD i default)))):=fun i hi=>v58 (Γ:=Γ) _ (v3 _ (by simp [hi]))
  show xpp _ _ _ _ _ _ (thS (⟨false,false,some k,cs⟩,0));refine xpp.run [] Go.Proofs.Tryz.func59 rfl rfl ?_;simp only [Go.Proofs.Tryz.f59];refine hgR ?_
  repeat' ((first | refine hfk ?_ ?_<;>intros | refine hik ?_)<;>refine hgS ?_)
  all_goals try (exfalso;omega)
  refine hg1 @hlk ?_
  repeat' ((first | refine hfk ?_ ?_<;>intros | refine hik ?_ | with_reducible first | refine wml (c0) ?_ | refine ysi (c0) ?_)<;>refine hgS ?_)
  all_goals try (exfalso;omega)
  refine x20 [3,4,6,8,35,36] (fun i:Nat=>[(37,.one (.dat (cI (i))))]) (lfB n V T (.box [.dat (cI 1),.dat (cI x.n),.dat (cS x.unit),.dat (cS x.name),.dat (.sl 5 (x.args.map Ex.cells))] (some 24)) k cs)
   (fun i=>i<=cs.length) (fun i=>cs.length-i) 0 (Nat.zero_le _) ?_ ?_
  . refine hg ?_;exact StH.same svl rfl
  intro i hi
  rcases i with _ | i
  . simp only [lfB];refine hg ?_;refine vt2 (fun h _=>?_) (fun h _=>?_)
    . have hsn:[rowQ (cs.getD 0 default)]=(cs.take (0+1)).map rowQ:=by
       rw [wcz (by omega)];rfl
      have c1:=ci 0 (by omega);refine hg ?_
      repeat' ((first | refine hfk ?_ ?_<;>intros | refine hik ?_ | with_reducible first | refine wml (c1) ?_ | refine ysi (c1) ?_)<;>refine hgS ?_)
      refine ⟨1,by omega,by omega,?_⟩;simp only;rw [<-hsn];exact StH.z04 [3,4,6,8,35,36,37] 7 8 8 rfl rfl rfl rfl rfl rfl rfl (by kernel_rfl) (StH.same svl rfl)
    . have h0:cs=[]:=List.eq_nil_of_length_eq_zero (by omega);subst h0;refine hg ?_
      repeat' ((first | refine hfk ?_ ?_<;>intros | refine hik ?_)<;>refine hgS ?_)
      exact StH.trans (StH.vzq rfl (by kernel_rfl) rfl) (StH.tup1 (.cons (.agg (.cons (.refl _) (.cons (.refl _) (.cons (.refl _) (.cons (.refl _) (.cons (.refl _) (.cons (.refl _) (.cons (.dat (.zcSl _)) .nil)))))))) (.cons (.refl _) .nil)))
  . simp only [lfB]
    have hz:(cs.take (i+1)).length=i+1:=by simp;omega
    refine hg1 @hz ?_;refine vt2 (fun h _=>?_) (fun h _=>?_)
    . have hsn:(cs.take (i+1)).map rowQ++[rowQ (cs.getD (i+1) default)]=(cs.take (i+1+1)).map rowQ:=by
       rw [wcz (l:=cs) (i:=i+1) (by omega),List.map_append];rfl
      have c1:=ci (i+1) (by omega);refine hg1 @hz ?_
      repeat' ((first | refine hfk ?_ ?_<;>intros | refine hik ?_ | with_reducible first | refine wml (c1) ?_ | refine ysi (c1) ?_)<;>refine hgS ?_)
      refine ⟨i+1+1,by omega,by omega,?_⟩;simp only;rw [<-hsn];refine StH.z04 [3,4,6,8,35,36,37] 7 9 8 rfl rfl rfl rfl rfl rfl rfl (by kernel_rfl) (StH.same svl ?_);simp only [List.length_append,List.length_map,List.length_singleton,hz];rfl
    . have e1:cs.take (i+1)=cs:=List.take_of_length_le (by omega);refine hg1 @hz ?_
      repeat' ((first | refine hfk ?_ ?_<;>intros | refine hik ?_)<;>refine hgS ?_)
      rw [e1];refine StH.v0g (avs:=[.agg (thC ⟨false,false,some k,cs⟩),.one (cI 0)]) (bs:=[7]) ?_ rfl rfl (by kernel_rfl) rfl;rw [e1] at hz;simp [zfb,argD,w8n,zyf,gB,Cell.esz,Cell.cnt,Hp.subC,hz]
theorem wto {n B:Nat} (hB:4300<=B) (V:Va) (T:Vt) (hV:Asm n B V) (hT:∀ s t,z2f T s=some t->t.Sm/\tbOk t=true) (h6:n<=6):∀ x:Ex,x.Sm->x.shaped=true->x.wqm=false->B*x.nd<=33554432->xpp Γ prog 29 (rdE n V T) [.one (.ptr 0 0),.agg ((exC x).map .dat)] (rdE n V T) (thS (x.aff n V T)):=by
 refine Ex.ind (fun x ih hx hsh hcl hnd=>?_);have hl:=hx.len;have haff:=Ex.xpb n V T x
 have hnode:xes x=true:=by rw [Ex.ypb,Bool.and_eq_true] at hsh;exact hsh.1
 have hargs:∀ y∈x.args,y.shaped=true:=by rw [Ex.ypb,Bool.and_eq_true,List.all_eq_true] at hsh;exact hsh.2
 have hcalls:x.op≠3/\∀ y∈x.args,y.wqm=false:=by
  rw [Ex.xrx,Bool.or_eq_false_iff,decide_eq_false_iff_not,List.any_eq_false] at hcl;exact ⟨hcl.1,fun y hy=>by simpa using hcl.2 y hy⟩
 have hnds:∀ y∈x.args,B*y.nd<=33554432:=fun y hy=>Nat.le_trans (Nat.mul_le_mul_left _ (by have:=Ex.xka hy;have:=Ex.xk0 x;omega)) hnd
 have hB2:B<=B*x.nd:=Nat.le_mul_of_pos_right _ (by rw [Ex.xk0];omega);by_cases hne:x.args.length=0
 . have hlf:xpp Γ prog 59 (rdE n V T) [.one (.ptr 0 0),.agg ((exC x).map .dat)] (rdE n V T) (thS (x.aff n V T)):=by
    by_cases h0:x.op=0
    . rw [decide_eq_true h0,cond_true] at haff;have hn:=xsm hnode h0;rw [haff];exact wzo n V T x hx (by unfold inI;omega) h0 h6
    . rw [decide_eq_false h0, cond_false] at haff;by_cases h1:x.op=1
      . rw [decide_eq_true h1,cond_true] at haff;rw [haff]
        exact xuk n V T x hx h1 (fun s f hf=>by
         obtain ⟨a1,a2,a3⟩:=hV s f hf
         exact ⟨by omega,by omega,fun q hq=>by have:=a3 q hq;omega⟩)
      . exfalso;unfold xes at hnode;rw [decide_eq_false h0,decide_eq_false h1,hne] at hnode;simp at hnode
   refine xpp.run [] Go.Proofs.Tryz.func29 rfl rfl ?_;simp only [Go.Proofs.Tryz.f29];refine hgR ?_
   repeat' ((first | refine hfk ?_ ?_<;>intros | refine hik ?_)<;>refine hgS ?_)
   all_goals try (exfalso;omega)
   refine x6x (xpp.preN hlf (zt9 n V T) rfl rfl) ?_;refine hg ?_
   repeat' ((first | refine hfk ?_ ?_<;>intros | refine hik ?_)<;>refine hgS ?_)
   exact StH.vzq rfl (by kernel_rfl) rfl
 have h0:x.op≠0:=fun h=>by
  unfold xes at hnode;rw [decide_eq_true h] at hnode;simp only [cond_true,Bool.and_eq_true,decide_eq_true_eq] at hnode;omega
 have h1:x.op≠1:=fun h=>by
  unfold xes at hnode;rw [decide_eq_false h0,cond_false] at hnode
  cases hc:(decide (¬x.n=0)||decide (¬x.unit.size=0)) with
  | true=>rw [hc] at hnode;cases hnode
  | false=>
   rw [hc,decide_eq_true h] at hnode;simp only [cond_true,cond_false,Bool.and_eq_true,decide_eq_true_eq] at hnode;omega
 rw [decide_eq_false h0,cond_false,decide_eq_false h1,cond_false] at haff;obtain ⟨hl2,hl3⟩:=zd3 hnode hcalls.1 hne;by_cases h5:x.op=5
 . rw [decide_eq_true h5,cond_true] at haff;rw [haff];have hl3':=hl3 h5
   have hch:=zex (Γ:=Γ) n V T x hl3' hl (fun i hi=>by
    have hm:=y7p (show i<x.args.length by omega)
    exact ih _ hm (hx.arg _ hm) (hargs _ hm) (hcalls.2 _ hm) (hnds _ hm))
   refine xpp.run [] Go.Proofs.Tryz.func29 rfl rfl ?_;simp only [Go.Proofs.Tryz.f29];refine hgR ?_
   repeat' ((first | refine hfk ?_ ?_<;>intros | refine hik ?_)<;>refine hgS ?_)
   all_goals try (exfalso;omega)
   rw [show cI 5=cI x.op by rw [h5]];refine x6x (xpp.preN hch (zt9 n V T) rfl rfl) ?_;refine hg ?_
   repeat' ((first | refine hfk ?_ ?_<;>intros | refine hik ?_)<;>refine hgS ?_)
   exact StH.vzq rfl (by kernel_rfl) rfl
 rw [decide_eq_false h5,cond_false] at haff
 have hG:∀ y∈x.args,(y.aff n V T).2=0->(y.aff n V T).1.G n 33554432:=fun y hy h=>(xni (T:=T) hB hV y (hargs y hy) (hcalls.2 y hy) h).mono (by have:=hnds y hy;omega)
 rw [haff];clear haff hnd hV hB2;generalize hS:seqA (x.args.map (Ex.aff n V T))=S;refine xpp.run [] Go.Proofs.Tryz.func29 rfl rfl ?_;simp only [Go.Proofs.Tryz.f29];refine hgR ?_
 repeat' ((first | refine hfk ?_ ?_<;>intros | refine hik ?_)<;>refine hgS ?_)
 all_goals try (exfalso;omega)
 refine x20 [0,3,4,29,30] (fun p:Nat×List Th=>[(6,.one (.sl 5 7 0 p.2.length)),(31,.one (.dat (cI p.1)))])
  (fun p=>rdE n V T++[.box ((exC x).map .dat) (some 24),.box ((thZ false false).map .dat) (some 80),.arr (.sl 7 (p.2.map Th.C)) 0 (some 80)])
  (fun p=>p.1<=x.args.length/\p.2.length=p.1/\(∀ r∈p.2,r.G n 33554432)/\S=match seqA ((x.args.drop p.1).map (Ex.aff n V T)) with
    | .inl e=>.inl e
    | .inr r=>.inr (p.2++r)) (fun p=>x.args.length-p.1) (0,[]) ⟨Nat.zero_le _,rfl,fun r hr=>(by cases hr),by simp only [List.drop_zero,List.nil_append];rw [hS];cases S<;>rfl⟩ ?_ ?_
 . refine hg ?_;refine StH.trans (StH.empty (d:=6) (es:=7) (c:=.sl 7 []) (T:=some 80) rfl rfl (fun r hr=>by cases hr) rfl) ?_;refine hg ?_;exact StH.same svl rfl
 clear hS;rintro ⟨i,rs⟩ ⟨q1,q2,q3,q4⟩;simp only at q1 q2 q3 q4;refine hg ?_;refine vt2 (fun hlt _=>?_) (fun hlt _=>?_)
 . have hlt':i<x.args.length:=by omega
   have hy:=y7p hlt';rw [xfc hlt',List.map_cons] at q4;have hGy:=hG _ hy;refine hg ?_;refine x6x (xpp.preN (ih _ hy (hx.arg _ hy) (hargs _ hy) (hcalls.2 _ hy) (hnds _ hy)) (zt9 n V T) rfl rfl) ?_;generalize hr:Ex.aff n V T (x.args.getD i default)=r at q4 hGy ⊢;obtain ⟨t,e⟩:=r;rw [seqA] at q4;simp only at q4 hGy;refine hg ?_;refine vt2 (fun he hd=>?_) (fun he hd=>?_)
   . refine hg ?_
     have q4':S=.inl e:=by rw [q4,show decide (¬e=0)=true from hd];rfl
     rw [q4'];exact StH.z9p rfl (by kernel_rfl) rfl rfl
   . refine hg ?_;rw [show decide (¬e=0)=false from hd,cond_false] at q4;have hGt:=hGy (by omega)
     have q4':S=match seqA ((x.args.drop (i+1)).map (Ex.aff n V T)) with
      | .inl e=>.inl e
      | .inr r=>.inr ((rs++[t])++r):=by
      rw [q4]
      cases seqA ((x.args.drop (i+1)).map (Ex.aff n V T)) with
      | inl e=>rfl
      | inr r=>simp only [List.append_assoc,List.singleton_append]
     have hmap:rs.map Th.C++[thC t]=(rs++[t]).map Th.C:=by simp;rfl
     rw [hmap]
     refine ⟨(i+1,rs++[t]),⟨by dsimp only;omega,by dsimp only;rw [List.length_append,List.length_singleton,q2],fun r hr'=>by
      rcases List.mem_append.1 hr' with h | h
      . exact q3 r h
      . rw [List.mem_singleton.1 h];exact hGt,q4'⟩,by dsimp only;omega,?_⟩
     refine StH.z04 [0,3,4,6,29,30,31] 5 8 6 rfl rfl rfl rfl rfl rfl rfl (by kernel_rfl) ?_;refine hg ?_;exact StH.same svl rfl
 . have q4':S=.inr rs:=by rw [q4,List.drop_eq_nil_of_le (by omega)];show (match seqA [] with | .inl e=>Sum.inl e | .inr r=>Sum.inr (rs++r))=_;rw [seqA];simp only [List.append_nil]
   rw [q4'];clear q4 q4' ih hG
   have hlen:rs.length=x.args.length:=by omega
   have hlen0:0<rs.length:=by omega
   have hr0:=q3 _ (y7p (show 0<rs.length by omega));by_cases h2:x.op=2
   . have hk:=yyg (Γ:=Γ) V T x.name (rs.getD 0 default) hr0 h6 (by decide) hT;rw [show wxq n T x.op x.name (.inr rs)=xu8 n T x.name (rs.getD 0 default) by show opA n T x.op x.name rs=_;unfold opA;rw [decide_eq_true h2];rfl];refine hg ?_
     repeat' ((first | refine hfk ?_ ?_<;>intros | refine hik ?_)<;>refine hgS ?_)
     all_goals try (exfalso;omega)
     refine xhw 3 (fun ξ=>xpp.preN hk (zt9 n V T) rfl rfl) rfl rfl ?_;generalize xu8 n T x.name (rs.getD 0 default)=r;obtain ⟨⟨t,i,v,l⟩,e⟩:=r;refine hg ?_
     repeat' ((first | refine hfk ?_ ?_<;>intros | refine hik ?_)<;>refine hgS ?_)
     exact StH.vzq rfl (by kernel_rfl) rfl
   have hlg:∀ h:x.op=4\/x.op=14\/x.op=15,wxq n T x.op x.name (.inr rs)=logA x.op rs:=fun h4=>by
    show opA n T x.op x.name rs=_;unfold opA;rw [decide_eq_false h2,show (decide (x.op=4)||decide (x.op=14)||decide (x.op=15))=true by rcases h4 with h | h | h<;>simp [h]];rfl
   by_cases h4:x.op=4\/x.op=14\/x.op=15
   . have hk:=y34 (Γ:=Γ) x.op rs hlen0 (by omega) (fun h=>by
      have:=hl2 h2 (fun h4=>by omega)
      omega)
     rw [hlg h4];generalize logA x.op rs=r at hk;obtain ⟨⟨t,i,v,l⟩,e⟩:=r;refine hg ?_
     rcases h4 with h4 | h4 | h4
     all_goals
      rw [h4] at hk
      repeat' ((first | refine hfk ?_ ?_<;>intros | refine hik ?_ | with_reducible first | refine wml (hk) ?_ | refine ysi (hk) ?_)<;>refine hgS ?_)
      all_goals first
       | (exfalso;omega)
       | exact StH.vzq rfl (by kernel_rfl) rfl
   clear hlg;have hl:=hl2 h2 (fun h=>h4 (.inl h))
   have hlen1:1<rs.length:=by omega
   have hr1:=q3 _ (y7p hlen1)
   have hop:wxq n T x.op x.name (.inr rs)=bif decide (x.op=8)||decide (x.op=9) then scaA x.op (rs.getD 0 default) (rs.getD 1 default) else
    bif decide (x.op=6)||decide (x.op=7) then sumA x.op (rs.getD 0 default) (rs.getD 1 default) else cmpA x.op (rs.getD 0 default) (rs.getD 1 default):=by
    show opA n T x.op x.name rs=_;unfold opA;rw [decide_eq_false h2,show (decide (x.op=4)||decide (x.op=14)||decide (x.op=15))=false by simp only [Bool.or_eq_false_iff,decide_eq_false_iff_not];exact ⟨⟨fun h=>h4 (.inl h),fun h=>h4 (.inr (.inl h))⟩,fun h=>h4 (.inr (.inr h))⟩];rfl
   rw [hop];clear hop;by_cases h8:x.op=8\/x.op=9
   . have hk:=zda (Γ:=Γ) x.op h8 (rs.getD 0 default) (rs.getD 1 default) hr0 hr1 (by omega) (by decide);rw [show (decide (x.op=8)||decide (x.op=9))=true by rcases h8 with h | h<;>simp [h],cond_true];generalize scaA x.op (rs.getD 0 default) (rs.getD 1 default)=r at hk;obtain ⟨⟨t,i,v,l⟩,e⟩:=r;refine hg ?_
     rcases h8 with h8 | h8
     all_goals
      rw [h8] at hk
      repeat' ((first | refine hfk ?_ ?_<;>intros | refine hik ?_ | with_reducible first | refine wml (hk) ?_ | refine ysi (hk) ?_)<;>refine hgS ?_)
      all_goals first
       | (exfalso;omega)
       | exact StH.vzq rfl (by kernel_rfl) rfl
   rw [show (decide (x.op=8)||decide (x.op=9))=false by simp only [Bool.or_eq_false_iff,decide_eq_false_iff_not];exact ⟨fun h=>h8 (.inl h),fun h=>h8 (.inr h)⟩,cond_false];by_cases h7:x.op=6\/x.op=7
   . have hk:=zlw (Γ:=Γ) x.op (rs.getD 0 default) (rs.getD 1 default) hr0 hr1 (by omega) (by decide);rw [show (decide (x.op=6)||decide (x.op=7))=true by rcases h7 with h | h<;>simp [h],cond_true];generalize sumA x.op (rs.getD 0 default) (rs.getD 1 default)=r at hk;obtain ⟨⟨t,i,v,l⟩,e⟩:=r;refine hg ?_
     rcases h7 with h7 | h7
     all_goals
      rw [h7] at hk
      repeat' ((first | refine hfk ?_ ?_<;>intros | refine hik ?_ | with_reducible first | refine wml (hk) ?_ | refine ysi (hk) ?_)<;>refine hgS ?_)
      all_goals first
       | (exfalso;omega)
       | exact StH.vzq rfl (by kernel_rfl) rfl
   . have hk:=x7p (Γ:=Γ) V T x.op (rs.getD 0 default) (rs.getD 1 default) hr0 hr1 (by omega) (by decide);rw [show (decide (x.op=6)||decide (x.op=7))=false by simp only [Bool.or_eq_false_iff,decide_eq_false_iff_not];exact ⟨fun h=>h7 (.inl h),fun h=>h7 (.inr h)⟩,cond_false];refine hg ?_
     repeat' ((first | refine hfk ?_ ?_<;>intros | refine hik ?_)<;>refine hgS ?_)
     all_goals try (exfalso;omega)
     refine xhw 3 (fun ξ=>xpp.preN hk (zt9 n V T) rfl rfl) rfl rfl ?_;generalize cmpA x.op (rs.getD 0 default) (rs.getD 1 default)=r;obtain ⟨⟨t,i,v,l⟩,e⟩:=r;refine hg ?_
     repeat' ((first | refine hfk ?_ ?_<;>intros | refine hik ?_)<;>refine hgS ?_)
     exact StH.vzq rfl (by kernel_rfl) rfl
theorem xyf (V:Va):(envA V).length=V.length:=yzs _ V
theorem wxu (T:Vt):(envB T).length=T.length:=yzs _ T
attribute [go_sem] xyf wxu
def rdO (n:Nat):Option (Va×Vt)->List SB
 | none=>[]
 | some p=>rdE n p.1 p.2
def rdR:Option (Va×Vt)->SV
 | none=>.tup [.one .any,.one (.dat (cB false))]
 | some _=>.tup [.one (.ptr 0 0),.one (.dat (cB true))]
theorem wdm {J:List SB} {h1:HC}:StH Γ [] [SV.tup [.one h1,.one (.dat (cB false))]] J [SV.tup [.one .any,.one (.dat (cB false))]] []:=
 StH.trans (StH.tup1 (l':=[.one .any,.one (.dat (cB false))]) (.cons (.one (.any _)) (.cons (.refl _) .nil))) (by
  have:=StH.cutB (Γ:=Γ) (e:=[]) (I:=[SV.tup [.one .any,.one (.dat (cB false))]]) (J:=J) 0 (Nat.le_refl _) (by unfold yyj;rfl)
  exact this)
theorem zar (n:Nat) (V:Va) (T:Vt) (b:Bool):StH Γ [] [SV.tup [.one (.ptr 2 0),.one (.dat (cB b))]] [mA V,mB T,.box [.dat (cI n),.mp 0,.mp 1] (some 109)] [SV.tup [.one (.ptr 0 0),.one (.dat (cB b))]] (rdE n V T):=by
 have e1:swL 1 2 [mA V,mB T,.box [.dat (cI n),.mp 0,.mp 1] (some 109)]=[mA V,.box [.dat (cI n),.mp 0,.mp 2] (some 109),mB T]:=by
  show [swSB 1 2 (mA V),.box [.dat (cI n),.mp 0,.mp 2] (some 109),swSB 1 2 (mB T)]=_;rw [vho,vcy]
 have e2:swL 0 1 [mA V,.box [.dat (cI n),.mp 0,.mp 2] (some 109),mB T]=rdE n V T:=by
  show [.box [.dat (cI n),.mp 1,.mp 2] (some 109),swSB 0 1 (mA V),swSB 0 1 (mB T)]=_;rw [vho,vcy]
 have h1:=StH.vim (Γ:=Γ) (e:=[]) (I:=[SV.tup [.one (.ptr 2 0),.one (.dat (cB b))]]) (J:=[mA V,mB T,.box [.dat (cI n),.mp 0,.mp 1] (some 109)]) (i:=1) (j:=2) (by decide) (by decide) (by simp) (by simp);have h2:=StH.vim (Γ:=Γ) (e:=[]) (I:=[SV.tup [.one (.ptr 1 0),.one (.dat (cB b))]]) (J:=[mA V,.box [.dat (cI n),.mp 0,.mp 2] (some 109),mB T]) (i:=0) (j:=1) (by decide) (by decide) (by simp) (by simp);rw [e1] at h1;rw [e2] at h2;exact h1.trans h2
theorem v12 (k:Rat) (cs:List Rat):(Af.of k cs).c=qF (some k):=rfl
theorem v0e (k:Rat) (cs:List Rat):(Af.of k cs).l.map Fc.C=cs.map rowQ:=vql cs
theorem zxz (nm:ByteArray) (k:Rat) (cs:List Rat):Sl.val ⟨nm,Af.of k cs⟩=(k,cs):=by
 show ((Fc.of k).val,(cs.map Fc.of).map Fc.val)=_;rw [List.map_map,Fc.xhg]
 congr 1
 conv=>rhs;rw [<-List.map_id cs]
 exact List.map_congr_left (fun q _=>Fc.xhg q)
theorem zw1 (ss:List Sl) (ms:List Tb) (hl:ss.length<=1073741824) (hm:ms.length<=1073741824) (hs:∀ s∈ss,s.name.size<=1073741824/\s.f.l.length<=1048576/\s.f.le 67108864) (hms:∀ t∈ms,t.Sm) :
 xpp Γ prog 28 [] [.one (.dat (.sl 6 (ss.map Sl.C))),.one (.dat (.sl 3 (ms.map Tb.C)))] (rdO (nOf ss) (entA ss ms)) (rdR (entA ss ms)):=by
 have hbad:∀ n,nOf ss=n->gS n [] ss=none->entA ss ms=none:=fun n hn h=>by unfold entA;rw [hn,h]
 have hbad2:∀ n V,nOf ss=n->gS n [] ss=some V->gTb V [] ms=none->entA ss ms=none:=fun n V hn h k=>by unfold entA;rw [hn,h];simp only [k]
 have hgood:∀ n V T,nOf ss=n->gS n [] ss=some V->gTb V [] ms=some T->entA ss ms=bif decide ((V.length:Int)=ss.length)&&decide ((T.length:Int)=ms.length) then some (V,T) else none:=fun n V T hn h k=>by unfold entA;rw [hn,h];simp only [k]
 generalize hn:nOf ss=n;have hbad:=hbad n hn
 have hbad2:=fun V=>hbad2 n V hn
 have hgood:=fun V T=>hgood n V T hn
 have e1:ss.length≠0->(ss.getD 0 default).f.l.length=n:=fun h=>by
  cases ss with
  | nil=>exact absurd rfl h
  | cons s l=>exact hn
 have e0:ss.length=0->n=0:=fun h=>by rw [<-hn,List.eq_nil_of_length_eq_zero h];rfl
 generalize entA ss ms=E at *;clear hn;refine xpp.run [] Go.Proofs.Tryz.func28 rfl rfl ?_;simp only [Go.Proofs.Tryz.f28];refine hgR ?_
 repeat' ((first | refine hfk ?_ ?_<;>intros | refine hik ?_)<;>refine hgS ?_)
 all_goals
  refine x20 [0,1,6,29,30] (fun p:Nat×Va=>[(31,.one (.dat (cI p.1)))]) (fun p=>[mA p.2,mB [],.box [.dat (cI n),.mp 0,.mp 1] (some 109)])
   (fun p=>p.1<=ss.length/\gS n [] ss=gS n p.2 (ss.drop p.1)) (fun p=>ss.length-p.1) (0,[]) ⟨Nat.zero_le _,rfl⟩ ?_ ?_
  . refine hg ?_;exact StH.same svl (by first | rfl | (rw [e1 (by omega)];done) | (rw [e1 (by omega)];rfl) | (rw [e0 (by omega)];done) | (rw [e0 (by omega)];rfl))
  rintro ⟨i,V⟩ ⟨h1,h2⟩;simp only at h1 h2;clear e1 e0;refine hg ?_;refine vt2 (fun hlt _=>?_) (fun hlt _=>?_)
  . have hlt':i<ss.length:=by omega
    have hy:=hs _ (y7p hlt');rw [xfc hlt',gS] at h2;refine hg ?_;have hr:=v1n (Γ:=Γ) (ss.getD i default).f n hy.2.1 hy.2.2;have hnm:=vfk (Γ:=Γ) (ss.getD i default).name (by have:=hy.1;omega);have hwd:=yko (Γ:=Γ) (ss.getD i default).name;clear hgood hbad2;generalize ss.getD i default=s at *;obtain ⟨nm,f⟩:=s;simp only at hy h2 hr hnm hwd ⊢;generalize isName nm=b1 at *;generalize isWord nm=b2 at *;by_cases hok:f.ok n
    . obtain ⟨k,cs,rfl,hcs⟩:=Af.vy4 hok;rw [decide_eq_true hok] at hr h2;rw [zxz] at h2;rw [y6w] at hr;rw [v0e];simp only [v12];clear hok
      repeat' ((first | refine hfk ?_ ?_<;>intros | refine hik ?_ | with_reducible first | refine wml (hnm) ?_ | refine ysi (hnm) ?_ | refine wml (hwd) ?_ | refine ysi (hwd) ?_ | refine wml (hr) ?_ | refine ysi (hr) ?_)<;>refine hgS ?_)
      all_goals first
       | exact wdm
       | (rw [hbad (by rw [h2];simp [*])];exact wdm)
       | (refine ⟨(i+1,updF V nm (k,cs)),⟨by dsimp only;omega,by first | rfl | (rw [h2];simp [*];done) | (simp [*];done)⟩,by dsimp only;omega,?_⟩
          refine StH.cutN [0,1,6,29,30,31] 3 rfl ?_ ?_
          . refine hg ?_;exact trivial
          exact StH.same svl rfl)
    . rw [decide_eq_false hok] at hr h2;rw [Af.C_eq] at hr
      repeat' ((first | refine hfk ?_ ?_<;>intros | refine hik ?_ | with_reducible first | refine wml (hnm) ?_ | refine ysi (hnm) ?_ | refine wml (hwd) ?_ | refine ysi (hwd) ?_ | refine wml (hr) ?_ | refine ysi (hr) ?_)<;>refine hgS ?_)
      all_goals first
       | exact wdm
       | (rw [hbad (by rw [h2];simp [*])];exact wdm)
  . have hV:gS n [] ss=some V:=by rw [h2,List.drop_eq_nil_of_le (by omega)];rfl
    have hbad2:=hbad2 V hV
    have hgood:=fun T=>hgood V T hV
    clear h2 h1 hlt hbad hV;refine hg ?_;refine x20 [0,1,6,63,64] (fun p:Nat×Vt=>[(65,.one (.dat (cI p.1)))]) (fun p=>[mA V,mB p.2,.box [.dat (cI n),.mp 0,.mp 1] (some 109)])
     (fun p=>p.1<=ms.length/\gTb V [] ms=gTb V p.2 (ms.drop p.1)) (fun p=>ms.length-p.1) (0,[]) ⟨Nat.zero_le _,rfl⟩ ?_ ?_
    . refine hg ?_;exact StH.same svl rfl
    rintro ⟨j,T⟩ ⟨h1,h2⟩;simp only at h1 h2;refine hg ?_;refine vt2 (fun hlt _=>?_) (fun hlt _=>?_)
    . have hlt':j<ms.length:=by omega
      have hy:=hms _ (y7p hlt');rw [xfc hlt',gTb] at h2;have hr:=w8d (Γ:=Γ) _ hy.n hy.u hy.r;have hwd:=yko (Γ:=Γ) (ms.getD j default).name
      replace h2:gTb V [] ms=bif (z2f V (ms.getD j default).name).isSome||isWord (ms.getD j default).name||!vgr (fun s=>(xx7 s).2) (ms.getD j default) then none else gTb V (updF T (ms.getD j default).name (ms.getD j default)) (ms.drop (j+1)):=h2
      generalize isWord (ms.getD j default).name=b2 at *;generalize vgr (fun s=>(xx7 s).2) (ms.getD j default)=b3 at *;clear hgood hms;refine hg ?_
      cases hl:z2f V (ms.getD j default).name with
      | none =>
       rw [hl] at h2;refine hg1 @hl ?_
       repeat' ((first | refine hfk ?_ ?_<;>intros | refine hik ?_ | with_reducible first | refine wml (hr) ?_ | refine ysi (hr) ?_ | refine wml (hwd) ?_ | refine ysi (hwd) ?_)<;>refine hgS ?_)
       all_goals first
        | exact wdm
        | (rw [hbad2 (by rw [h2];simp [*])];exact wdm)
        | (refine ⟨(j+1,updF T (ms.getD j default).name (ms.getD j default)),⟨by dsimp only;omega,by first | rfl | (rw [h2];simp [*];done) | (simp [*];done)⟩,by dsimp only;omega,?_⟩
           refine StH.cutN [0,1,6,63,64,65] 3 rfl ?_ ?_
           . refine hg ?_;exact trivial
           exact StH.same svl rfl)
      | some d=>
       rw [hl] at h2;refine hg1 @hl ?_
       repeat' ((first | refine hfk ?_ ?_<;>intros | refine hik ?_ | with_reducible first | refine wml (hr) ?_ | refine ysi (hr) ?_ | refine wml (hwd) ?_ | refine ysi (hwd) ?_)<;>refine hgS ?_)
       all_goals first
        | exact wdm
        | (rw [hbad2 (by rw [h2];simp [*])];exact wdm)
    . have hT : gTb V [] ms = some T := by rw [h2, List.drop_eq_nil_of_le (by omega)]; rfl
      rw [hgood T hT];clear h2 h1 hlt hbad2 hgood hT;refine hg ?_
      repeat' ((first | refine hfk ?_ ?_<;>intros | refine hik ?_)<;>refine hgS ?_)
      all_goals first
       | exact wdm
       | (generalize decide ((T.length:Int)=ms.length)=q
          cases q
          . exact wdm
          . exact zar n V T true)
theorem xf9:∀ x:Ex,x.Sm->CallsD Γ prog 27 [.agg (exC x)] (.one (cB x.wqm)):=by
 refine Ex.ind (fun x ih hx=>?_);have hl:=hx.len;have hc:CallsD Γ prog 54 [.one (.sl 5 (x.args.map Ex.cells)),fN 27] (.one (cB (x.args.any Ex.wqm))):=vps x.args _ _ hl (fun y hy=>ih y hy (hx.arg y hy));refine CallsD.run [] Go.Proofs.Tryz.func27 rfl rfl rfl ?_;simp only [Go.Proofs.Tryz.f27];refine hgR ?_
 repeat' ((first | refine hfk ?_ ?_<;>intros | refine hik ?_ | with_reducible first | refine wml (hc) ?_ | refine ysi (hc) ?_)<;>refine hgS ?_)
 all_goals refine RLe.ofEq ?_
 all_goals rw [Ex.xrx]
 all_goals (refine bsE ?_;try exact trivial)
abbrev afR (r:Th×Int):AV:=.tup [.agg [.raw (.int .i64 (qF r.1.c).s),.ints .i64 (qF r.1.c).L,.raw (.int .i64 (qF r.1.c).t),.ints .i64 (qF r.1.c).M,.sl 4 (r.1.l.map rowQ)],.one (cI r.2)]
theorem afEq {e:Int} {r:Th×Int} (h:r=(Th.zero,e)):RLe (.tup [.agg [cI 0,.zc,cI 0,.zc,.zc],.one (cI e)]) (afR r):=by
 subst h;exact .tup (.cons (.agg (.cons (.refl _) (.cons (.zud _) (.cons (.refl _) (.cons (.zud _) (.cons (.zcSl _) .nil)))))) (.cons (.refl _) .nil))
theorem v0f {B:Nat} (hB:4300<=B) (hB2:B*200<=33554432) (x:Ex) (ss:List Sl) (ms:List Tb) (hx:x.Sm) (hn:nOf ss<=6) (hl:ss.length<=1073741824) (hm:ms.length<=1073741824) (hs:∀ s∈ss,s.name.size<=1073741824/\s.f.l.length<=1048576/\s.f.le 67108864) (hsm:∀ s∈ss,s.sm B) (hms:∀ t∈ms,t.Sm) :
 CallsD Γ prog 9 [.agg (exC x),.one (.sl 6 (ss.map Sl.C)),.one (.sl 3 (ms.map Tb.C))] (afR (affF x ss ms)):=by
 have hr:=zw1 (Γ:=Γ) ss ms hl hm hs hms;have c1:=zfy (Γ:=Γ) x hx;have c2:=xf9 (Γ:=Γ) x hx
 cases hr1:zqs x with
 | false=>
  rw [hr1] at c1
  have e:affF x ss ms=(Th.zero,2):=by unfold affF;rw [hr1];rfl
  rw [e];refine CallsD.run [] Go.Proofs.Tryz.func9 rfl rfl rfl ?_;simp only [Go.Proofs.Tryz.f9];refine hgR ?_
  repeat' ((first | refine hfk ?_ ?_<;>intros | refine hik ?_ | with_reducible first | refine wml (c1) ?_ | refine ysi (c1) ?_)<;>refine hgS ?_)
  exact afEq rfl
 | true=>cases hc1:x.wqm with
  | true=>
   rw [hr1] at c1;rw [hc1] at c2;rw [show affF x ss ms=(Th.zero,2) by unfold affF;rw [hr1,hc1];rfl];refine CallsD.run [] Go.Proofs.Tryz.func9 rfl rfl rfl ?_;simp only [Go.Proofs.Tryz.f9];refine hgR ?_
   repeat' ((first | refine hfk ?_ ?_<;>intros | refine hik ?_ | with_reducible first | refine wml (c1) ?_ | refine ysi (c1) ?_ | refine wml (c2) ?_ | refine ysi (c2) ?_)<;>refine hgS ?_)
   exact afEq rfl
  | false=>
   rw [hr1] at c1;rw [hc1] at c2
   have hsh:x.shaped=true:=by unfold zqs at hr1;rw [Bool.and_eq_true] at hr1;exact hr1.2
   cases hrd:entA ss ms with
   | none=>
    rw [hrd] at hr;rw [show affF x ss ms=(Th.zero,1) by unfold affF;rw [hr1,hc1,hrd];rfl]
    have hr2:∀ a b:SB,xpp Γ prog 28 [a,b] [.one (.dat (.sl 6 (ss.map Sl.C))),.one (.dat (.sl 3 (ms.map Tb.C)))] [a,b] (.tup [.one .any,.one (.dat (cB false))]):=fun a b=>xpp.at [] (J:=[a,b]) hr (by decide) rfl rfl rfl
    refine CallsD.run [] Go.Proofs.Tryz.func9 rfl rfl rfl ?_;simp only [Go.Proofs.Tryz.f9];refine hgR ?_
    repeat' ((first | refine hfk ?_ ?_<;>intros | refine hik ?_ | with_reducible first | refine wml (c1) ?_ | refine ysi (c1) ?_ | refine wml (c2) ?_ | refine ysi (c2) ?_)<;>refine hgS ?_)
    refine zqa (hr2 _ _) rfl ?_;refine hg ?_
    repeat' ((first | refine hfk ?_ ?_<;>intros | refine hik ?_)<;>refine hgS ?_)
    exact afEq rfl
   | some p=>
    obtain ⟨V,T⟩:=p;rw [hrd] at hr
    have hr2:∀ a b:SB,xpp Γ prog 28 [a,b] [.one (.dat (.sl 6 (ss.map Sl.C))),.one (.dat (.sl 3 (ms.map Tb.C)))] [a,b,.box [.dat (cI (nOf ss)),.mp 3,.mp 4] (some 109),mA V,mB T] (.tup [.one (.ptr 2 0),.one (.dat (cB true))]):=fun a b=>by
     have h:=xpp.at [] (J:=[a,b]) hr (by decide) rfl rfl rfl
     have e:putR [] [a,b] (rdO (nOf ss) (some (V,T)))=[a,b,.box [.dat (cI (nOf ss)),.mp 3,.mp 4] (some 109),mA V,mB T]:=by
      show [a,b,.box [.dat (cI (nOf ss)),.mp 3,.mp 4] (some 109),rnSB _ (mA V),rnSB _ (mB T)]=_;rw [vis,zgw]
     rw [e] at h;exact h
    have hnd:=zvr hr1;have hB3:B*x.nd<=33554432:=Nat.le_trans (Nat.mul_le_mul_left _ hnd) hB2;have hV:=zd5 hrd hsm;have hc:=wto (Γ:=Γ) hB V T hV (yxy hrd hms) hn x hx hsh hc1 hB3
    have hc2:∀ a b:SB,xpp Γ prog 29 [a,b,.box [.dat (cI (nOf ss)),.mp 3,.mp 4] (some 109),mA V,mB T] [.one (.ptr 2 0),.agg ((exC x).map .dat)] [a,b,.box [.dat (cI (nOf ss)),.mp 3,.mp 4] (some 109),mA V,mB T] (thS (x.aff (nOf ss) V T)):=fun a b=>
     xpp.roN [2,3,4] (J:=[a,b,.box [.dat (cI (nOf ss)),.mp 3,.mp 4] (some 109),mA V,mB T]) hc (by decide) rfl (by
      show [some _,some (mA V),some (mB T)]=[some _,some (rnSB _ (mA V)),some (rnSB _ (mB T))]
      rw [vis,zgw];rfl)
    have e:affF x ss ms=bif decide (¬(x.aff (nOf ss) V T).2=0) then (Th.zero,(x.aff (nOf ss) V T).2) else bif (x.aff (nOf ss) V T).1.t then (Th.zero,13) else ((x.aff (nOf ss) V T).1,0):=by unfold affF;rw [hr1,hc1,hrd];rfl
    rw [e];clear hc hr hV e;generalize x.aff (nOf ss) V T=r at hc2 ⊢;obtain ⟨⟨t,i,v,l⟩,e⟩:=r;refine CallsD.run [] Go.Proofs.Tryz.func9 rfl rfl rfl ?_;simp only [Go.Proofs.Tryz.f9];refine hgR ?_
    repeat' ((first | refine hfk ?_ ?_<;>intros | refine hik ?_ | with_reducible first | refine wml (c1) ?_ | refine ysi (c1) ?_ | refine wml (c2) ?_ | refine ysi (c2) ?_)<;>refine hgS ?_)
    refine zqa (hr2 _ _) rfl ?_;refine hg ?_
    repeat' ((first | refine hfk ?_ ?_<;>intros | refine hik ?_)<;>refine hgS ?_)
    refine x6x (hc2 _ _) ?_;refine hg ?_
    repeat' ((first | refine hfk ?_ ?_<;>intros | refine hik ?_)<;>refine hgS ?_)
    all_goals first
     | exact afEq (by simp [*])
     | exact RLe.ofEq (by simp [*])
end Go.Hp.T
