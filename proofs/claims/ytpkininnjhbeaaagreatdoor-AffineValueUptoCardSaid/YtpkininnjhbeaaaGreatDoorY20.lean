import Derived.Test.YtpkininnjhbeaaaGreatDoorY19
import Derived.Scope
namespace Go.Hp
open Go Go.RowKit Go.Slot
variable {P:Program} {Γ:List (Nat×List Cell)}
variable {α:Type} {x:SV} {lit fn:Bool} {o:Oper} {ops:Array Oper} {t:HR} {c:Code} {w:World} {v:Value} {av:AV} {f:FuncId}
def Fr (J J':List SB) (wl:List Nat):Prop:=J.length<=J'.length/\∀ i,i<J.length->i∉wl->J'[i]? = J[i]?
theorem Fr.refl {J:List SB} {wl:List Nat}:Fr J J wl:=⟨Nat.le_refl _,fun _ _ _=>rfl⟩
theorem Fr.mono {J J':List SB} {wl wl':List Nat} (h:Fr J J' wl) (hs:∀ i∈wl,i∈wl'):Fr J J' wl':=⟨h.1,fun i hi hn=>h.2 i hi (fun hm=>hn (hs i hm))⟩
theorem Fr.trans {a b c:List SB} {ws wl:List Nat} (h:Fr a b wl) (h':Fr b c ws):Fr a c (ws++wl):=
 ⟨Nat.le_trans h.1 h'.1,fun i hi hn=>by
  rw [List.mem_append,not_or] at hn
  exact (h'.2 i (Nat.lt_of_lt_of_le hi h.1) hn.1).trans (h.2 i hi hn.2)⟩
theorem wit {e:List (Nat×α)} {l:List α} {i:Nat} (hi:i<l.length) (h:i∉e.map (·.1)):(appL e l)[i]? = l[i]?:=by
 rw [yct e l i hi,zzi h];rfl
theorem Fr.app {J:List SB} {e:List (Nat×SB)}:Fr J (appL e J) (e.map (·.1)):=⟨by rw [wh0];exact Nat.le_refl _,fun i hi hn=>wit hi hn⟩
theorem Fr.push {J:List SB} {e:List (Nat×SB)} {x:SB}:Fr J (appL e J++[x]) (e.map (·.1)):=⟨by rw [List.length_append,wh0];omega,fun i hi hn=>by
 rw [List.getElem?_append_left (by rw [wh0];exact hi)];exact wit hi hn⟩
theorem w7x {J:List SB} {bs:List Nat}:(frzE J bs).map (·.1)=bs:=by simp [frzE,Function.comp_def]
theorem vn1 {g:Nat->α} {ch:List Nat} {i:Nat} (h:i∈ch):evL (ch.map fun i=>(i,g i)) i=some (g i):=by
 obtain ⟨v,hv⟩:=zmb (eff:=ch.map fun i=>(i,g i)) (r:=i) (by simpa using h);rw [hv];unfold evL at hv;obtain ⟨p,hp,e⟩:=Option.map_eq_some_iff.1 hv;have hm:=List.mem_of_find?_eq_some hp;have hq:=List.find?_some hp;simp only [List.mem_reverse,List.mem_map] at hm;obtain ⟨j,_,rfl⟩:=hm;simp only [beq_iff_eq] at hq;subst hq;exact congrArg some e.symm
theorem Fr.eff {J J':List SB} {ch:List Nat} (h:Fr J J' ch) (hl:J'.length=J.length):J'=appL (ch.map fun i=>(i,gB J' i)) J:=by
 refine List.ext_getElem? (fun i=>?_);by_cases hi:i<J.length
 . rw [yct _ _ _ hi];by_cases hc:i∈ch
   . rw [vn1 (g:=gB J') hc];have hi':i<J'.length:=hl.symm▸hi;unfold gB;rw [List.getElem?_eq_getElem hi'];rfl
   . rw [zzi (by simpa using hc),h.2 i hi hc];rfl
 . rw [List.getElem?_eq_none (by omega),List.getElem?_eq_none (by rw [wh0];omega)]
def OkD (Γ:List (Nat×List Cell)) (P:Program) (cD:FuncId->List AV->Option AV):Prop:=∀ f l r,cD f l=some r->CallsD Γ P f l r
def OkH (Γ:List (Nat×List Cell)) (P:Program) (cH:FuncId->List SB->List SV->Option (List SB×SV×List Nat)):Prop:=∀ f J l J' r ch,cH f J l=some (J',r,ch)->xpp Γ P f J l J' r/\Fr J J' ch
section
variable {cD:FuncId->List AV->Option AV} {cH:FuncId->List SB->List SV->Option (List SB×SV×List Nat)}
theorem xeh {I:List SV} {J:List SB} {nb:Nat} {rd rh:List Nat} {e:List (Nat×SV)} {h:List (Nat×SB)} {new:Option SB} (hr:opF P Γ lit fn I J nb o=.eff rd rh e h new):Sound Γ P o I J nb rd rh e h new:=by
 rcases va4 (P:=P) (Γ:=Γ) (lit:=lit) (fn:=fn) (o:=o) (I:=I) (J:=J) (nb:=nb) with he | ⟨_,_,_,_,_,he,hs⟩
 . have hs:=zj0 (P:=P) (Γ:=Γ) (lit:=lit) (fn:=fn) (o:=o) (I:=I) (J:=J) (nb:=nb);rw [<-he,hr] at hs;exact hs
 . rw [hr] at he
   cases he;exact hs
theorem vtc {I:List SV} {J:List SB} {nb:Nat} {r:HO} (hr:opF P Γ lit fn I J nb o=r) (hn:∀ rd rh e h new,r≠.eff rd rh e h new):opH P Γ lit fn I J nb o=r:=by
 rcases va4 (P:=P) (Γ:=Γ) (lit:=lit) (fn:=fn) (o:=o) (I:=I) (J:=J) (nb:=nb) with he | ⟨_,_,_,_,_,he,_⟩
 . exact he.symm.trans hr
 . exact absurd (hr.symm.trans he) (hn _ _ _ _ _)
theorem zuz (hD:OkD Γ P cD) (hH:OkH Γ P cH) {I I':List SV} {J J':List SB} {ws:List Nat} (h:evDo cD cH o I J (opF P Γ lit fn I J J.length o)=some (I',J',ws)):vjm Γ P o I J I' J'/\Fr J J' ws:=by
 cases hr:opF P Γ lit fn I J J.length o with
 | eff rd rh e hf new=>
  have hs:=xeh hr;rw [hr] at h
  cases new with
  | none=>simp only [evDo,wpe,xvv,Option.some.injEq,Prod.mk.injEq] at h;obtain ⟨rfl,rfl,rfl⟩:=h;exact ⟨vbd.p hs,Fr.app⟩
  | some x=>simp only [evDo,wpe,yqs,xvv,Option.some.injEq,Prod.mk.injEq] at h;obtain ⟨rfl,rfl,rfl⟩:=h;exact ⟨hs.2 rfl,Fr.push⟩
 | callD f l rd rh bs=>
  have hr':=vtc hr (by simp);rw [hr] at h;simp only [evDo,wbt,yqs,wwf] at h;split at h
  . rename_i res hres;split at h
    . rename_i y hy;simp only [Option.some.injEq,Prod.mk.injEq] at h;obtain ⟨rfl,rfl,rfl⟩:=h;exact ⟨vbd.p (wyj hr' (hD _ _ _ hres) hy),(Fr.app (e:=frzE J bs)).mono (fun i hi=>by rwa [w7x] at hi)⟩
    . rename_i y x hy;simp only [Option.some.injEq,Prod.mk.injEq] at h;obtain ⟨rfl,rfl,rfl⟩:=h;exact ⟨(wyj hr' (hD _ _ _ hres) hy).2 rfl,(Fr.push (e:=frzE J bs)).mono (fun i hi=>by rwa [w7x] at hi)⟩
    . cases h
  . split at h
    . rename_i sl hsl;split at h
      . rename_i η1 res ch hc;simp only [Option.some.injEq,Prod.mk.injEq] at h;obtain ⟨rfl,rfl,rfl⟩:=h;obtain ⟨h1,h2⟩:=hH _ _ _ _ _ _ hc
        exact ⟨xga hr' hsl h1,((Fr.app (e:=frzE J bs)).trans h2).mono (fun i hi=>by
         rw [w7x] at hi;simp only [List.mem_append] at hi ⊢;exact hi.symm)⟩
      . cases h
    . cases h
 | callF p l rd bs=>rw [hr] at h;cases h
 | callH f l rd=>
  have hr':=vtc hr (by simp);rw [hr] at h;simp only [evDo,wbt,wwf] at h;split at h
  . rename_i η1 res ch hc;simp only [Option.some.injEq,Prod.mk.injEq] at h;obtain ⟨rfl,rfl,rfl⟩:=h;obtain ⟨h1,h2⟩:=hH _ _ _ _ _ _ hc;exact ⟨(y9a hr' h1).1,h2⟩
  . cases h
 | mk f caps rd bs=>rw [hr] at h;cases h
 | look r z ok rd rh=>
  have hr':=vtc hr (by simp);rw [hr] at h;simp only [evDo,wbt] at h;split at h
  . rename_i d hd;simp only [Option.some.injEq,Prod.mk.injEq] at h;obtain ⟨rfl,rfl,rfl⟩:=h
    rcases vbw hr' with h1 | h1
    . exact ⟨h1.p,Fr.refl⟩
    . rw [hd] at h1;cases h1
  . cases h
 | bad=>rw [hr] at h;cases h
theorem xxf (hD:OkD Γ P cD) (hH:OkH Γ P cH) {I I':List SV} {J J':List SB} {ws:List Nat} (h:evGd cD cH P Γ ops.toList o I J (xsn ops.toList I o)=some (I',J',ws)):GP Γ P ops o I J I' J'/\Fr J J' ws:=by
 have hs:=zla (ops:=ops) (I:=I) (o:=o)
 cases hg:xsn ops.toList I o with
 | plain=>rw [hg] at h;exact (zuz hD hH h).imp_left (GP.plain (hs.1 hg))
 | when d c b=>
  obtain ⟨j,h1,h2,h3⟩:=hs.2.1 d c b hg;rw [hg] at h;simp only [evGd] at h;split at h
  . rename_i hc;subst hc;exact (zuz hD hH h).imp_left (GP.taken h1 h2 h3)
  . rename_i hc;simp only [Option.some.injEq,Prod.mk.injEq] at h;obtain ⟨rfl,rfl,rfl⟩:=h;exact ⟨GP.vyy h1 h2 (.inl (by rw [h3];cases c<;>cases b<;>simp at hc ⊢)),Fr.refl⟩
 | skip d=>
  obtain ⟨j,b,h1,h2,h3⟩:=hs.2.2 d hg;rw [hg] at h;simp only [evGd,Option.some.injEq,Prod.mk.injEq] at h;obtain ⟨rfl,rfl,rfl⟩:=h;exact ⟨GP.vyy h1 h2 (.inr h3),Fr.refl⟩
 | bad=>rw [hg] at h;cases h
theorem xjg (hD:OkD Γ P cD) (hH:OkH Γ P cH) {ops:Array Oper} {e:List SB}:∀(l:List Oper) (I:List SV) (J:List SB) (wl:List Nat) (I':List SV) (J':List SB) (wl':List Nat),vnr cD cH P Γ ops.toList l I J wl=some (I',J',wl')->Fr e J wl->
 RunP Γ P ops l I J (fun s h=>s=I'/\h=J')/\Fr e J' wl'
 | [],I,J,wl,I',J',wl',h,hf=>by
  simp only [vnr,Option.some.injEq,Prod.mk.injEq] at h;obtain ⟨rfl,rfl,rfl⟩:=h;exact ⟨⟨rfl,rfl⟩,hf⟩
 | o::r,I,J,wl,I',J',wl',h,hf=>by
  simp only [vnr,wwf] at h;split at h
  . rename_i σ1 η1 ws h1;obtain ⟨a,b⟩:=xxf hD hH h1;obtain ⟨c,d⟩:=xjg hD hH r _ _ _ _ _ _ h (hf.trans b);exact ⟨⟨_,_,a,c⟩,d⟩
  . cases h
theorem xs7 (hD:OkD Γ P cD) (hH:OkH Γ P cH) {I:List SV} {J:List SB} {nb:Nat} {s:HR} (h:v41 cD cH o nb J (opF P Γ lit fn I J nb o)=some s):vbd Γ P o I J s.rd s.rh s.eff s.heff:=by
 cases hr:opF P Γ lit fn I J nb o with
 | eff rd rh e hf new=>
  have hs:=xeh hr;rw [hr] at h
  cases new with
  | none=>simp only [v41,Option.some.injEq] at h;subst h;exact hs
  | some x=>
   simp only [v41] at h;split at h
   . rename_i hroom;simp only [Option.some.injEq] at h;subst h;exact hs.1 hroom
   . cases h
 | callD f l rd rh bs=>
  have hr':=vtc hr (by simp);rw [hr] at h;simp only [v41] at h;split at h
  . rename_i res hres;split at h
    . rename_i y hy;simp only [Option.some.injEq] at h;subst h;exact wyj hr' (hD _ _ _ hres) hy
    . rename_i y x hy;split at h
      . rename_i hroom;simp only [Option.some.injEq] at h;subst h;exact (wyj hr' (hD _ _ _ hres) hy).1 hroom
      . cases h
    . cases h
  . cases h
 | callF p l rd bs=>rw [hr] at h;cases h
 | callH f l rd=>
  have hr':=vtc hr (by simp);rw [hr] at h;simp only [v41] at h;split at h
  . rename_i η1 res ch hc;obtain ⟨h1,h2⟩:=hH _ _ _ _ _ _ hc;split at h
    . rename_i hl;simp only [Option.some.injEq] at h;subst h;exact (y9a hr' h1).2 _ (h2.eff hl)
    . cases h
  . cases h
 | mk f caps rd bs=>rw [hr] at h;cases h
 | look r z ok rd rh=>
  have hr':=vtc hr (by simp);rw [hr] at h;simp only [v41] at h;split at h
  . rename_i d hd;simp only [Option.some.injEq] at h;subst h
    rcases vbw hr' with h1 | h1
    . exact h1
    . rw [hd] at h1;cases h1
  . cases h
 | bad=>rw [hr] at h;cases h
theorem wpq (hD:OkD Γ P cD) (hH:OkH Γ P cH) {I:List SV} {J:List SB} {nb:Nat} {s:HR} (h:ycz cD cH P Γ ops.toList nb o I J (xsn ops.toList I o)=some s):GH Γ P ops o I J s.rd s.rh s.eff s.heff:=by
 have hs:=zla (ops:=ops) (I:=I) (o:=o)
 cases hg:xsn ops.toList I o with
 | plain=>rw [hg] at h;exact GH.plain (hs.1 hg) (xs7 hD hH h)
 | when d c b=>
  obtain ⟨j,h1,h2,h3⟩:=hs.2.1 d c b hg;rw [hg] at h;simp only [ycz] at h;split at h
  . rename_i hc;subst hc;obtain ⟨s',hs',e⟩:=Option.map_eq_some_iff.1 h;subst e;exact GH.taken h1 h2 h3 (xs7 hD hH hs')
  . rename_i hc;simp only [Option.some.injEq] at h;subst h;exact GH.vyy h1 h2 (.inl (by rw [h3];cases c<;>cases b<;>simp at hc ⊢))
 | skip d=>
  obtain ⟨j,b,h1,h2,h3⟩:=hs.2.2 d hg;rw [hg] at h;simp only [ycz,Option.some.injEq] at h;subst h;exact GH.vyy h1 h2 (.inr h3)
 | bad=>rw [hg] at h;cases h
theorem wtb (hD:OkD Γ P cD) (hH:OkH Γ P cH) {ops:Array Oper} {nb:Nat} {e:List SB}:∀(l:List Oper) (acc:List HR) (I:List SV) (J:List SB) (wl:List Nat) (I':List SV) (J':List SB) (wl':List Nat),zce cD cH P Γ ops.toList nb l acc I J wl=some (I',J',wl')->Fr e J wl->
 y0p Γ P ops ops.toList l acc I J (fun s h=>s=I'/\h=J')/\Fr e J' wl'/\J'.length=J.length
 | [],acc,I,J,wl,I',J',wl',h,hf=>by
  simp only [zce] at h;split at h
  . rename_i hi;simp only [Option.some.injEq,Prod.mk.injEq] at h;obtain ⟨rfl,rfl,rfl⟩:=h;exact ⟨⟨hi,rfl,rfl⟩,hf,rfl⟩
  . cases h
 | o::r,acc,I,J,wl,I',J',wl',h,hf=>by
  simp only [zce,wwf,wpe,xvv] at h;split at h
  . rename_i s h1;have a:=wpq hD hH h1;obtain ⟨c,d,hl⟩:=wtb hD hH r _ _ _ _ _ _ _ h (hf.trans Fr.app);exact ⟨⟨_,_,_,_,a,c⟩,d,by rw [hl,wh0]⟩
  . cases h
theorem vbd.sub {o:Oper} {I:List SV} {J:List SB} {rd rd' rh:List Nat} {eff:List (Nat×SV)} {heff:List (Nat×SB)} (h:vbd Γ P o I J rd rh eff heff) (hs:∀ r∈rd,r∈rd'):vbd Γ P o I J rd' rh eff heff:=fun E ρ I' J' a w h1 h2 hI K Q hK=>h E ρ I' J' a w (h1.sub hs) h2 hI K Q hK
theorem GH.sub {ops:Array Oper} {o:Oper} {I:List SV} {J:List SB} {rd rd' rh:List Nat} {eff:List (Nat×SV)} {heff:List (Nat×SB)} (h:GH Γ P ops o I J rd rh eff heff) (hs:∀ r∈rd,r∈rd'):GH Γ P ops o I J rd' rh eff heff:=fun E ρ I' J' a w h1 h2 hI K Q hK=>h E ρ I' J' a w (h1.sub hs) h2 hI K Q hK
theorem y0y {l r:List Nat} (h:inRd l r=true):∀ x∈l,x∈r:=fun x hx=>by
 have:=List.all_eq_true.1 h x hx
 simpa using this
theorem ws3 (hD:OkD Γ P cD) {I I':List SV} {J J':List SB} {ws:List Nat} (h:vv0 cD o I J (opF P Γ lit fn I J J.length o)=some (I',J',ws)) :
 ∃ d x rh,o.dst=some d/\I'=I.set d x/\J'=J/\ws=[]/\vbd Γ P o I J (sRd o) rh [(d,x)] []:=by
 generalize hr:opF P Γ lit fn I J J.length o=r at h;unfold vv0 at h;split at h
 . split at h
   . rename_i hc;rw [wbt] at h;simp only [Option.some.injEq,Prod.mk.injEq] at h;obtain ⟨rfl,rfl,rfl⟩:=h;have hs:vbd Γ P o I J _ _ _ _:=xeh hr;exact ⟨_,_,_,hc.2,rfl,rfl,rfl,hs.sub (y0y hc.1)⟩
   . cases h
 . split at h
   . rename_i res d hres hd;split at h
     . rename_i hc;split at h
       . rename_i y hy;rw [wbt] at h;simp only [Option.some.injEq,Prod.mk.injEq] at h;obtain ⟨rfl,rfl,rfl⟩:=h;have hs:vbd Γ P o I J _ _ _ _:=wyj (vtc hr (by simp)) (hD _ _ _ hres) hy
         have he:v9n o y=[(d,y)]:=by unfold v9n;rw [hd]
         rw [he] at hs;exact ⟨_,_,_,hd,rfl,rfl,rfl,hs.sub (y0y hc)⟩
       . cases h
     . cases h
   . cases h
 . cases h
theorem w03 {j d:Nat} {b:Bool} (hg:o.guard=some (j,b)) (hd:(ops[j]?).bind (·.dst)=some d):gRd ops.toList o=[d]:=by
 unfold gRd;rw [hg];simp only [Array.getElem?_toList,hd]
theorem zjo (hD:OkD Γ P cD) {I I':List SV} {J J':List SB} {ws:List Nat} (h:vdj cD P Γ ops.toList o I J (xsn ops.toList I o)=some (I',J',ws)) :
 ∃ x rh,I'=appL (v9n o x) I/\J'=J/\ws=[]/\GH Γ P ops o I J (gRd ops.toList o++sRd o) rh (v9n o x) []:=by
 have hs:=zla (ops:=ops) (I:=I) (o:=o)
 cases hg:xsn ops.toList I o with
 | plain=>
  rw [hg] at h;obtain ⟨d,x,rh,h1,rfl,rfl,rfl,h2⟩:=ws3 hD h
  have he:v9n o x=[(d,x)]:=by unfold v9n;rw [h1]
  have hg0:gRd ops.toList o=[]:=by unfold gRd;rw [hs.1 hg]
  refine ⟨x,rh,by rw [he];rfl,rfl,rfl,?_⟩;rw [he,hg0];exact GH.plain (hs.1 hg) h2
 | when d c b=>
  obtain ⟨j,h1,h2,h3⟩:=hs.2.1 d c b hg;rw [hg] at h;simp only [vdj] at h;rw [w03 h1 h2];split at h
  . rename_i hc;subst hc;obtain ⟨d',x,rh,h4,rfl,rfl,rfl,h5⟩:=ws3 hD h
    have he:v9n o x=[(d',x)]:=by unfold v9n;rw [h4]
    refine ⟨x,rh,by rw [he];rfl,rfl,rfl,?_⟩;rw [he];exact GH.taken h1 h2 h3 h5
  . rename_i hc;simp only [Option.some.injEq,Prod.mk.injEq] at h;obtain ⟨rfl,rfl,rfl⟩:=h;exact ⟨_,[],rfl,rfl,rfl,(GH.vyy h1 h2 (.inl (by rw [h3];cases c<;>cases b<;>simp at hc ⊢))).sub (fun r hr=>by unfold sRd;simp only [List.mem_append,List.mem_cons] at hr ⊢;rcases hr with hr | hr<;>simp [hr])⟩
 | skip d=>
  obtain ⟨j,b,h1,h2,h3⟩:=hs.2.2 d hg;rw [hg] at h;rw [w03 h1 h2];simp only [vdj,Option.some.injEq,Prod.mk.injEq] at h;obtain ⟨rfl,rfl,rfl⟩:=h;exact ⟨_,[],rfl,rfl,rfl,(GH.vyy h1 h2 (.inr h3)).sub (fun r hr=>by unfold sRd;simp only [List.mem_append,List.mem_cons] at hr ⊢;rcases hr with hr | hr<;>simp [hr])⟩
 | bad=>rw [hg] at h;cases h
def shHR (s:HR):HR:=⟨s.rd,[],s.eff.map fun p=>(p.1,.any),[]⟩
theorem zjb {α:Type} {p q:α->Bool}:∀{l:List α},(∀ a∈l,p a=q a)->l.all p=l.all q
 | [],_=>rfl
 | a::l,h=>by
  simp only [List.all_cons];rw [h a (by simp),zjb (fun b hb=>h b (by simp [hb]))]
theorem zox {s:HR} (hs:s.heff=[]) (ht:t.heff=[]):y28 (shHR s) (shHR t)=y28 s t:=by
 have hw:∀ r:HR,(shHR r).ws=r.ws:=fun r=>by unfold HR.ws shHR;simp only [List.map_map];rfl
 unfold y28;rw [hw,hw];unfold HR.wh;rw [hs,ht];rfl
theorem vz5 (bs:List (List Nat)):∀(l before:List HR) (j:Nat),(∀ s∈before,s.heff=[])->(∀ s∈l,s.heff=[])->y36 bs j (before.map shHR) (l.map shHR)=y36 bs j before l
 | [],_,_,_,_=>rfl
 | x::r,before,j,hb,hl=>by
  simp only [List.map_cons,y36]
  have h1:before.map shHR++[shHR x]=(before++[x]).map shHR:=by simp
  rw [h1,vz5 bs r (before++[x]) (j+1) (fun s hs=>by
   rw [List.mem_append] at hs
   rcases hs with hs | hs
   . exact hb s hs
   . simp at hs;subst hs;exact hl _ (by simp)) (fun s hs=>hl s (by simp [hs]))]
  congr 1
  rw [List.zipIdx_map,List.all_map];refine zjb (fun p hp=>?_);obtain ⟨y,i⟩:=p;show ((bs.getD j []).contains i||y28 (shHR y) (shHR x))=_;rw [zox (hb y (List.fst_mem_of_mem_zipIdx hp)) (hl x (by simp))]
theorem zxw {l:List Oper} {recs:List HR} (h:∀ s∈recs,s.heff=[]):wcl l (recs.map shHR)=wcl l recs:=by
 unfold wcl;have h1:=vz5 (befs l []) recs [] 0 (fun s hs=>by cases hs) h;rw [List.map_nil] at h1;rw [h1,List.all_map]
 congr 2
 refine zjb (fun s hs=>?_)
 have hw:(shHR s).ws=s.ws:=by unfold HR.ws shHR;simp only [List.map_map];rfl
 show ((shHR s).ws.all _&&_)=_;rw [hw];unfold HR.wh;rw [h s hs];rfl
theorem zzr (hD:OkD Γ P cD) {ops:Array Oper}:∀(r:List Oper) (acc:List HR) (I:List SV) (J:List SB) (wl:List Nat) (I':List SV) (J':List SB) (wl':List Nat),wcl ops.toList (acc.map shHR++r.map (sHR ops.toList))=true->(∀ s∈acc,s.heff=[])->
 x5a cD P Γ ops.toList r I J wl=some (I',J',wl')->y0p Γ P ops ops.toList r acc I J (fun s h=>s=I'/\h=J')/\J'=J/\wl'=wl
 | [],acc,I,J,wl,I',J',wl',hi,ha,h=>by
  simp only [x5a,Option.some.injEq,Prod.mk.injEq] at h;obtain ⟨rfl,rfl,rfl⟩:=h;rw [List.map_nil,List.append_nil,zxw ha] at hi;exact ⟨⟨hi,rfl,rfl⟩,rfl,rfl⟩
 | o::r,acc,I,J,wl,I',J',wl',hi,ha,h=>by
  simp only [x5a] at h;split at h
  . rename_i σ1 η1 ws h1;obtain ⟨x,rh,rfl,rfl,rfl,hg⟩:=zjo hD h1
    have hsh:shHR ⟨gRd ops.toList o++sRd o,rh,v9n o x,[]⟩=sHR ops.toList o:=by
     unfold shHR sHR v9n
     cases o.dst<;>rfl
    obtain ⟨a,b,c⟩:=zzr hD r (acc++[⟨gRd ops.toList o++sRd o,rh,v9n o x,[]⟩]) _ _ _ _ _ _ (by
     rw [List.map_append,List.map_cons,List.map_nil,hsh,List.append_assoc];exact hi) (fun s hs=>by
     rw [List.mem_append] at hs
     rcases hs with hs | hs
     . exact ha s hs
     . simp at hs;subst hs;rfl) h
    exact ⟨⟨_,_,_,_,hg,a⟩,b,c⟩
  . cases h
theorem yk8 {l:List Nat} {i:Nat}:(mkM l).testBit i=true↔i∈l:=by
 induction l with
 | nil=>simp [mkM]
 | cons x l ih=>
  show (2 ^ x |||mkM l).testBit i=true↔_;rw [Nat.testBit_or,Bool.or_eq_true,ih,Nat.testBit_two_pow,List.mem_cons];simp [eq_comm]
theorem w6s:∀(l:List Nat) (i:Nat),getM l i=l.getD i 0
 | [],_=>rfl
 | _::_,0=>rfl
 | _::l,i+1=>by
  show getM l i=_;rw [w6s l i];simp [List.getD]
theorem v6q {acc:List Nat} {l:List Nat} {i:Nat} (h:(vo3 acc l).testBit i=true):i∈l\/∃ d∈l,(acc.getD d 0).testBit i=true:=by
 induction l with
 | nil=>simp [vo3] at h
 | cons x l ih=>
  have h':((2 ^ x |||getM acc x) |||vo3 acc l).testBit i=true:=h;rw [Nat.testBit_or,Nat.testBit_or,Bool.or_eq_true,Bool.or_eq_true,Nat.testBit_two_pow,w6s] at h'
  rcases h' with (h' | h') | h'
  . exact .inl (by simp at h';simp [h'])
  . exact .inr ⟨x,by simp,h'⟩
  . rcases ih h' with h | ⟨d,hd,h⟩
    . exact .inl (by simp [h])
    . exact .inr ⟨d,by simp [hd],h⟩
def SubM (ms:List Nat) (ls:List (List Nat)):Prop:=ms.length=ls.length/\∀ j i,(ms.getD j 0).testBit i=true->i∈ls.getD j []
theorem SubM.push {ms:List Nat} {ls:List (List Nat)} (h:SubM ms ls) {m:Nat} {l:List Nat} (hm:∀ i,m.testBit i=true->i∈l):SubM (ms++[m]) (ls++[l]):=by
 refine ⟨by simp [h.1],fun j i hj=>?_⟩;simp only [List.getD,List.getElem?_append,h.1] at hj ⊢
 split
 . rename_i hlt;simp only [hlt,if_true] at hj;exact h.2 j i hj
 . rename_i hlt;simp only [hlt,if_false] at hj
   cases hk:j-ls.length with
   | zero=>rw [hk] at hj;exact hm i (by simpa using hj)
   | succ n=>rw [hk] at hj;simp at hj
theorem x2b:∀(r:List Oper) (ms:List Nat) (ls:List (List Nat)),SubM ms ls->SubM (befM r ms) (befs r ls)
 | [],_,_,h=>h
 | o::r,ms,ls,h=>by
  unfold befM befs;rw [y9b];refine x2b r _ _ (h.push fun i hi=>?_);rw [List.mem_eraseDups,List.mem_append,List.mem_flatMap]
  rcases v6q hi with hi | ⟨d,hd,hi⟩
  . exact .inl hi
  . exact .inr ⟨d,hd,h.2 d i hi⟩
theorem v1q {a b:Nat} (h:Nat.beq (Nat.land a b) 0=true) {i:Nat} (ha:a.testBit i=true):b.testBit i=false:=by
 have h':a &&&b=0:=Nat.eq_of_beq_eq_true h
 have:=congrArg (fun n=>n.testBit i) h'
 simpa [Nat.testBit_and,ha] using this
theorem vd7 {b i:Nat} (h:Nat.beq (Nat.land (Nat.shiftRight b i) 1) 1=true):b.testBit i=true:=by
 have h':(b >>> i) &&&1=1:=Nat.eq_of_beq_eq_true h;unfold Nat.testBit;rw [Nat.and_comm,h'];rfl
def v7z (s:HR):Nat×Nat:=(mkM s.rd,mkM s.ws)
theorem wy5 {s:HR} (hs:s.heff=[]) (ht:t.heff=[]) (h1:Nat.beq (Nat.land (mkM s.ws) (mkM t.rd)) 0=true) (h2:Nat.beq (Nat.land (mkM t.ws) (mkM s.rd)) 0=true):y28 s t=true:=by
 have k:∀{a b:List Nat},Nat.beq (Nat.land (mkM a) (mkM b)) 0=true->(a.all fun x=>!b.contains x)=true:=fun {a b} h=>by
  rw [List.all_eq_true];intro x hx
  have:=v1q h (yk8.2 hx)
  have hn:x∉b:=fun hb=>by rw [yk8.2 hb] at this;cases this
  simpa using hn
 unfold y28 HR.wh;rw [k h1,k h2,hs,ht];rfl
theorem ws9 {b:Nat} {l:List Nat} (hb:∀ i,b.testBit i=true->i∈l) {x:HR} (hx:x.heff=[]):∀(ys:List HR) (i:Nat),(∀ s∈ys,s.heff=[])->apM b (mkM x.rd) (mkM x.ws) i (ys.map v7z)=true->((ys.zipIdx i).all fun (y,i)=>l.contains i||y28 y x)=true
 | [],_,_,_=>rfl
 | y::ys,i,hh,h=>by
  simp only [List.map_cons,v7z,apM,Bool.and_eq_true,Bool.or_eq_true] at h;rw [List.zipIdx_cons,List.all_cons,Bool.and_eq_true];refine ⟨?_,ws9 hb hx ys (i+1) (fun s hs=>hh s (by simp [hs])) h.2⟩;rw [Bool.or_eq_true]
  rcases h.1 with h1 | h1
  . exact .inl (by simpa using hb i (vd7 h1))
  . exact .inr (wy5 (hh y (by simp)) hx h1.1 h1.2)
theorem wvq {ls:List (List Nat)} {ms:List Nat} (hm:SubM ms ls):∀(bs:List Nat) (before l:List HR),(∀ s∈before,s.heff=[])->(∀ s∈l,s.heff=[])->ms.drop before.length=bs->indM bs (before.map v7z) (l.map v7z)=true->y36 ls before.length before l=true
 | _,_,[],_,_,_,_=>rfl
 | [],before,x::l,_,_,_,h=>by simp [indM] at h
 | b::bs,before,x::l,hb,hl,hd,h=>by
  have hx:x.heff=[]:=hl x (by simp);simp only [List.map_cons,v7z,indM,Bool.and_eq_true] at h;unfold y36;rw [Bool.and_eq_true]
  have hbit:ms.getD before.length 0=b:=by
   have:=congrArg (fun l=>l[0]?) hd
   simp only [List.getElem?_drop,Nat.add_zero,List.getElem?_cons_zero] at this;simp [List.getD,this]
  refine ⟨ws9 (fun i hi=>hm.2 before.length i (by rw [hbit];exact hi)) hx before 0 hb h.1,?_⟩
  have:=wvq hm bs (before++[x]) l (fun s hs=>by
   rw [List.mem_append] at hs
   rcases hs with hs | hs
   . exact hb s hs
   . simp at hs;subst hs;exact hx) (fun s hs=>hl s (by simp [hs])) (by
   have:=congrArg (fun l=>l.drop 1) hd
   simpa using this) (by rw [List.map_append];exact h.2)
  simpa using this
theorem wi3:∀(l:List HR) (k:List (Nat×Nat)->Bool),frcM l k=k (l.map v7z)
 | [],_=>rfl
 | s::l,k=>by
  unfold frcM;rw [y9b,y9b,wi3 l];rfl
theorem y9i {l:List Oper} {recs:List HR} (h:w4a l recs=true):wcl l recs=true:=by
 unfold w4a at h;rw [wi3,Bool.and_eq_true,Bool.and_eq_true] at h;obtain ⟨⟨h1,h2⟩,h3⟩:=h
 have hh:∀ s∈recs,s.heff=[]:=fun s hs=>by
  have:=List.all_eq_true.1 h2 s hs
  rw [Bool.and_eq_true] at this;exact xmb this.2
 unfold wcl;rw [Bool.and_eq_true,Bool.and_eq_true];refine ⟨⟨h1,?_⟩,?_⟩
 . rw [List.all_eq_true] at h2 ⊢;intro s hs
   have:=h2 s hs
   rw [Bool.and_eq_true] at this ⊢;refine ⟨this.1,?_⟩;unfold HR.wh;rw [hh s hs];rfl
 . exact wvq (x2b l [] [] ⟨rfl,fun j i h=>by simp [List.getD] at h⟩) _ [] recs (fun s hs=>by cases hs) hh rfl h3
theorem wtl (hD:OkD Γ P cD) {I I':List SV} {J J':List SB} {wl wl':List Nat} (h:wki cD P Γ ops.toList I J wl=some (I',J',wl')):y0p Γ P ops ops.toList ops.toList [] I J (fun s h=>s=I'/\h=J')/\J'=J/\wl'=wl:=by
 unfold wki at h;split at h
 . rename_i hi;exact zzr hD ops.toList [] I J wl I' J' wl' (by unfold stOk at hi;rw [Bool.and_eq_true] at hi;exact y9i hi.2) (fun s hs=>by cases hs) h
 . cases h
theorem x1x.post {e:List SB} {Q Q':Exit->List SV->List SB->Prop} {I:List SV} {J:List SB} (h:x1x Γ P e c Q I J) (hq:∀ x s t,Q x s t->∃ s' t',StH Γ e s t s' t'/\Q' x s' t'):x1x Γ P e c Q' I J:=fun E ρ a w hE hR=>
 wp_mono (h E ρ a w hE hR) (fun x a w ⟨s,t,ρ,h1,h2⟩=>by
  obtain ⟨s',t',h3,h4⟩:=hq x s t h1;obtain ⟨ρ',h5⟩:=h3 E ρ a w hE h2
  exact ⟨s',t',ρ',h4,h5⟩)
theorem StH.extend {e:List SB} {I:List SV} {J:List SB}:StH Γ e I J I (J++[.fresh]):=fun _ ρ _ _ _ h=>⟨ρ,h.go (Went.extend h.inv 1)⟩
theorem vxm {e:List SB} {I:List SV} {J h:List SB} (_hl:h.length=J.length+1):StH Γ e I h I (xyn J.length h):=by
 unfold xyn
 split
 . rename_i hd
   have he:h=h.take J.length++[.fresh]:=by rw [<-hd,List.take_append_drop]
   intro E ρ a w hE hI;rw [he] at hI;exact StH.zlp E ρ a w hE hI
 . exact StH.refl
theorem xd7 {e h:List SB} {n:Nat} {wl:List Nat} (hn:e.length<=n) (hf:Fr e h wl) (hl:n<=h.length):Fr e (xyn n h) wl:=by
 unfold xyn
 split
 . refine ⟨by rw [List.length_take];omega,fun i hi hw=>?_⟩;rw [List.getElem?_take_of_lt (by omega)];exact hf.2 i hi hw
 . exact hf
def wbi (Γ:List (Nat×List Cell)) (P:Program) (e:List SB) (c:Code) (Q:Exit->List SV->List SB->Prop) (I:List SV) (J:List SB):Prop:=
 ∀(E:HEnv) (ρ:Nat->Value) (a:Act) (w:World),At Γ e E->RI Γ E ρ I J a w->∀(b:Frame) (k:List Item) (cs:List Frame),∃ x a' w',yui Γ E Q x a' w'/\Arrives P (lone (b.at a (.code c::.inLoop c::k)) cs w) b k cs x a' w'
theorem wbi.loop {e:List SB} {c:Code} {Q:Exit->List SV->List SB->Prop} {I:List SV} {J:List SB} (h:wbi Γ P e c Q I J):x1x Γ P e (.loop c) Q I J:=fun E ρ a w hE hR b k cs=>by
 obtain ⟨x,a',w',hq,harr⟩:=h E ρ a w hE hR b k cs;exact ⟨x,a',w',hq,.of_steps (.one step_loop) harr⟩
theorem wbi.round {e:List SB} {Q:Exit->List SV->List SB->Prop} {I:List SV} {J:List SB} (h:x1x Γ P e c (vtg (fun I J=>wbi Γ P e c Q I J) Q) I J):wbi Γ P e c Q I J:=fun E ρ a w hE hR b k cs=>by
 obtain ⟨ex,a1,w1,⟨I',J',ρ',hq,hR'⟩,harr⟩:=h E ρ a w hE hR b (.inLoop c::k) cs
 cases ex with
 | normal=>
  obtain ⟨e2,a2,w2,hq2,harr2⟩:=hq E ρ' a1 w1 hE hR' b k cs;exact ⟨e2,a2,w2,hq2,.of_steps (Steps.trans harr (.one step_inLoop)) harr2⟩
 | exit id=>exact ⟨_,a1,w1,⟨I',J',ρ',hq,hR'⟩,.pass (x:=.inLoop c) rfl (fun _ _=>.inl (by simp)) harr⟩
 | goto l=>exact ⟨_,a1,w1,⟨I',J',ρ',hq,hR'⟩,.pass (x:=.inLoop c) rfl (fun _ _=>.inl (by simp)) harr⟩
 | ret=>exact ⟨_,a1,w1,⟨I',J',ρ',hq,hR'⟩,.pass (x:=.inLoop c) rfl (fun _ _=>.inl (by simp)) harr⟩
 | panic ch=>exact ⟨_,a1,w1,⟨I',J',ρ',hq,hR'⟩,.pass (x:=.inLoop c) rfl (fun _ _=>.inl (by simp)) harr⟩
 | outgrown=>exact ⟨_,a1,w1,⟨I',J',ρ',hq,hR'⟩,.pass (x:=.inLoop c) rfl (fun _ _=>.inl (by simp)) harr⟩
def isX (x:Exit) (I:List SV) (J:List SB):Exit->List SV->List SB->Prop:=fun y s h=>y=x/\s=I/\h=J
theorem zu0 (hD:OkD Γ P cD) (hH:OkH Γ P cH) {N:Nat} {e:List SB}:∀(c:Code) (I:List SV) (J:List SB) (wl:List Nat) (x:Exit) (I':List SV) (J':List SB) (wl':List Nat),x7o cD cH P Γ N c I J wl=some (x,I',J',wl')->Fr e J wl->
 x1x Γ P e c (isX x I' J') I J/\Fr e J' wl':=by
 intro c
 induction c with
 | skip=>
  intro I J wl x I' J' wl' h hf;simp only [x7o,Option.some.injEq,Prod.mk.injEq] at h;obtain ⟨rfl,rfl,rfl,rfl⟩:=h;exact ⟨ws1 ⟨rfl,rfl,rfl⟩,hf⟩
 | region id ops dr=>
  intro I J wl x I' J' wl' h hf
  cases dr with
  | false=>
   simp only [x7o] at h;split at h
   . rename_i s1 h1 w1 hr;simp only [Option.some.injEq,Prod.mk.injEq] at h;obtain ⟨rfl,rfl,rfl,rfl⟩:=h;obtain ⟨a,b⟩:=xjg hD hH _ _ _ _ _ _ _ hr hf;refine ⟨(vfj (Q:=isX .normal s1 h1) ?_),b⟩
     have:(fun s h=>s=s1/\h=h1)=isX (.normal) s1 h1 .normal:=by
      funext s h;simp [isX]
     rw [<-this];exact a
   . cases h
  | true=>
   simp only [x7o] at h;split at h
   . rename_i hm;split at h
     . rename_i s1 h1 w1 hr;simp only [Option.some.injEq,Prod.mk.injEq] at h;obtain ⟨rfl,rfl,rfl,rfl⟩:=h;obtain ⟨a,rfl,rfl⟩:=wtl hD hr;refine ⟨v3n (Q:=isX .normal s1 h1) hm ?_,hf⟩
       have:(fun s h=>s=s1/\h=h1)=isX (.normal) s1 h1 .normal:=by
        funext s h;simp [isX]
       rw [<-this];exact a
     split at h
     . rename_i s1 h1 w1 hr;simp only [Option.some.injEq,Prod.mk.injEq] at h;obtain ⟨rfl,rfl,rfl,rfl⟩:=h
       have hf':Fr e (J++[.fresh]) wl:=⟨by rw [List.length_append];exact Nat.le_trans hf.1 (Nat.le_add_right _ _),fun i hi hw=>by
        rw [List.getElem?_append_left (Nat.lt_of_lt_of_le hi hf.1)];exact hf.2 i hi hw⟩
       obtain ⟨a,b,hl⟩:=wtb hD hH _ _ _ _ _ _ _ _ hr hf';rw [List.length_append] at hl;refine ⟨x1x.le StH.extend (x1x.post (Q:=isX .normal s1 h1) (v3n hm ?_) ?_),xd7 hf.1 b (by rw [hl];exact Nat.le_add_right _ _)⟩
       . have:(fun s h=>s=s1/\h=h1)=isX (.normal) s1 h1 .normal:=by
          funext s h;simp [isX]
         rw [<-this];exact a
       . rintro y s t ⟨rfl,rfl,rfl⟩;exact ⟨_,_,vxm hl,rfl,rfl,rfl⟩
     . cases h
   . cases h
 | seq a b iha ihb=>
  intro I J wl x I' J' wl' h hf;simp only [x7o] at h;split at h
  . rename_i s1 h1 w1 ha;obtain ⟨p,q⟩:=iha _ _ _ _ _ _ _ ha hf;obtain ⟨p2,q2⟩:=ihb _ _ _ _ _ _ _ h q;refine ⟨ynn (p.mono ?_),q2⟩;rintro y s t ⟨rfl,rfl,rfl⟩;exact p2
  . rename_i hne;obtain ⟨p,q⟩:=iha _ _ _ _ _ _ _ h hf;refine ⟨ynn (p.mono ?_),q⟩;rintro y s t ⟨rfl,rfl,rfl⟩
    cases y with
    | normal=>exact absurd h (hne _ _ _)
    | _=>exact ⟨rfl,rfl,rfl⟩
 | cond c a b iha ihb=>
  intro I J wl x I' J' wl' h hf;simp only [x7o] at h;split at h
  . rename_i hc;obtain ⟨p,q⟩:=iha _ _ _ _ _ _ _ h hf;exact ⟨xaa hc (fun _=>p) (fun hb=>by cases hb),q⟩
  . rename_i hc;obtain ⟨p,q⟩:=ihb _ _ _ _ _ _ _ h hf;exact ⟨xaa hc (fun hb=>by cases hb) (fun _=>p),q⟩
  . cases h
 | block id a iha=>
  intro I J wl x I' J' wl' h hf;simp only [x7o] at h;split at h
  . rename_i j s1 h1 w1 ha;obtain ⟨p,q⟩:=iha _ _ _ _ _ _ _ ha hf;refine ⟨zjx (p.mono ?_),?_⟩
    . rintro y s t ⟨rfl,rfl,rfl⟩;unfold xbo;split at h
      . rename_i hj;simp only [Option.some.injEq,Prod.mk.injEq] at h;obtain ⟨rfl,rfl,rfl,rfl⟩:=h;simp only [hj,if_true];exact ⟨rfl,rfl,rfl⟩
      . rename_i hj;simp only [Option.some.injEq,Prod.mk.injEq] at h;obtain ⟨rfl,rfl,rfl,rfl⟩:=h;simp only [hj,if_false];exact ⟨rfl,rfl,rfl⟩
    . split at h<;>(simp only [Option.some.injEq,Prod.mk.injEq] at h;obtain ⟨rfl,rfl,rfl,rfl⟩:=h;exact q)
  . rename_i hne;obtain ⟨p,q⟩:=iha _ _ _ _ _ _ _ h hf;refine ⟨zjx (p.mono ?_),q⟩;rintro y s t ⟨rfl,rfl,rfl⟩
    cases y with
    | exit j=>exact absurd h (hne _ _ _ _)
    | _=>exact ⟨rfl,rfl,rfl⟩
 | loop a iha=>
  intro I J wl x I' J' wl' h hf;simp only [x7o] at h
  suffices hs:∀(n:Nat) (I:List SV) (J:List SB) (wl:List Nat),yw6 (x7o cD cH P Γ N a) n I J wl=some (x,I',J',wl')->Fr e J wl->wbi Γ P e a (isX x I' J') I J/\Fr e J' wl' from (hs N I J wl h hf).imp_left wbi.loop
  intro n
  induction n with
  | zero=>intro I J wl h _;cases h
  | succ n ih=>
   intro I J wl h hf;simp only [yw6] at h;split at h
   . rename_i s1 h1 w1 ha;obtain ⟨p,q⟩:=iha _ _ _ _ _ _ _ ha hf;obtain ⟨p2,q2⟩:=ih _ _ _ h q;refine ⟨?_,q2⟩
     exact wbi.round (p.mono (by
      rintro y s t ⟨rfl,rfl,rfl⟩
      exact p2))
   . rename_i hne;obtain ⟨p,q⟩:=iha _ _ _ _ _ _ _ h hf;refine ⟨wbi.round (p.mono ?_),q⟩;rintro y s t ⟨rfl,rfl,rfl⟩
     cases y with
     | normal=>exact absurd h (hne _ _ _)
     | _=>exact ⟨rfl,rfl,rfl⟩
 | exit id=>
  intro I J wl x I' J' wl' h hf;simp only [x7o,Option.some.injEq,Prod.mk.injEq] at h;obtain ⟨rfl,rfl,rfl,rfl⟩:=h;exact ⟨vzt ⟨rfl,rfl,rfl⟩,hf⟩
 | ret=>
  intro I J wl x I' J' wl' h hf;simp only [x7o,Option.some.injEq,Prod.mk.injEq] at h;obtain ⟨rfl,rfl,rfl,rfl⟩:=h;exact ⟨yg9 ⟨rfl,rfl,rfl⟩,hf⟩
 | label l=>
  intro I J wl x I' J' wl' h hf;simp only [x7o,Option.some.injEq,Prod.mk.injEq] at h;obtain ⟨rfl,rfl,rfl,rfl⟩:=h;exact ⟨fun _ ρ _ _ _ hR=>wp_label ⟨_,_,ρ,⟨rfl,rfl,rfl⟩,hR⟩,hf⟩
 | scope a iha=>
  intro I J wl x I' J' wl' h hf;simp only [x7o] at h;split at h
  . cases h
  . rename_i hne;obtain ⟨p,q⟩:=iha _ _ _ _ _ _ _ h hf;refine ⟨fun E ρ b w hE hR=>wp_scope_straight (wp_mono (p E ρ b w hE hR) ?_),q⟩;rintro y b' w' ⟨s,t,ρ',⟨rfl,rfl,rfl⟩,hR'⟩
    cases y with
    | goto l=>exact absurd h (hne _ _ _ _)
    | _=>exact ⟨_,_,ρ',⟨rfl,rfl,rfl⟩,hR'⟩
 | _=>intro I J wl x I' J' wl' h;simp only [x7o] at h;cases h
theorem x0w {J:List SB} {ρ:Nat->Value} {M:Nat->Nat->Prop} {y:SV} {nb:Nat} (h:resS nb av=some (y,none)) (hv:RdR M w v av):SVR J ρ M w v y:=by
 unfold resS at h;split at h
 . obtain ⟨l',hl,he⟩:=Option.map_eq_some_iff.1 h
   cases he;obtain ⟨vs,rfl,hv⟩:=hv;exact ⟨vs,rfl,ypo hl hv⟩
 . cases h
 . rename_i hn1 hn2;obtain ⟨x,hx,he⟩:=Option.map_eq_some_iff.1 h
   cases he;rename_i z
   have hb:RdB M w v av:=by
    cases av with
    | tup l=>exact absurd rfl (hn1 _)
    | arr _ _ _=>cases hx
    | _=>exact hv
   have:=zkq (J:=J) (ρ:=ρ) hx hb
   exact SVR.of0 this
theorem x7z {J:List SB} {bs:List Nat} (h:xu5 J x=some (av,bs)):∀ b∈bs,y10 (gB J b)=true:=by
 unfold xu5 at h;split at h
 . obtain ⟨p,hp,e⟩:=Option.map_eq_some_iff.1 h;cases e;exact yig hp
 . exact ze2 h
theorem w2f {Mo:Nat->Nat->Prop} {ρ:Nat->Value} {J J':List SB} (hI:HInv Γ Mo ρ J' w) {bs:List Nat} (h2:xu5 J x=some (av,bs)) (hf:∀ b∈bs,gB J' b=frzB (gB J b)) (hv:SVR J' ρ (MX Mo ρ J') w v x):RdR (MX Mo ρ J') w v av:=by
 unfold xu5 at h2;split at h2
 . obtain ⟨p,hp,e⟩:=Option.map_eq_some_iff.1 h2
   cases e;obtain ⟨vs',e,hl⟩:=hv;exact ⟨vs',e,zlh hI hp hf hl⟩
 . rename_i hnt;have hr0:SVR0 J' ρ (MX Mo ρ J') w v x:=hv.to0 (by cases x<;>first | rfl | exact absurd rfl (hnt _))
   have:=xnj hI h2 hf hr0
   cases av with
   | tup l=>exact this.elim
   | arr _ _ _=>exact this.elim
   | _=>exact this
theorem zh3 {e:List SB} {J:List SB} {n:Nat}:StH Γ e [x] J [(vn6 n x J).2] (vn6 n x J).1:=by
 unfold vn6
 split
 . rename_i av bs h
   split
   . rename_i y h1 h2;intro E ρ a w hE hI;obtain ⟨h3,h4⟩:=hI.frz (x7z h);refine ⟨ρ,h3.hd,h3.hs,fun i z hi=>?_,h3.went⟩
     cases i with
     | succ i=>simp at hi
     | zero=>
      simp at hi;subst hi;exact x0w h2 (w2f h3.inv h h4 (h3.slot 0 x rfl))
   . exact StH.refl
 . exact StH.refl
theorem xav {e : List SB} {J : List SB} {n : Nat} {wl : List Nat} (hn : e.length ≤ n) (h : Fr e J wl) : Fr e (vn6 n x J).1 wl := by
 unfold vn6
 split
 . rename_i av bs hd
   split
   . rename_i y h1 h2;refine ⟨by rw [wh0];exact h.1,fun i hi hw=>?_⟩
     rw [wit (Nat.lt_of_lt_of_le hi h.1) (by
      rw [w7x];intro hm
      have:=List.all_eq_true.1 h1 i hm
      simp at this
      omega)]
     exact h.2 i hi hw
   . exact h
 . exact h
theorem vh3 {m:Nat} {l:List Nat}:ltB m l=true↔∀ b∈l,b<m:=by
 unfold ltB;rw [List.all_eq_true];exact ⟨fun h b hb=>by simpa using h b hb,fun h b hb=>by simpa using h b hb⟩
theorem yhd {e:List SB} {r:List SB×SV} {n:Nat} (hn:e.length<=n):StH Γ e [r.2] r.1 [(zo2 n r).2] (zo2 n r).1:=by
 unfold zo2
 split
 . rename_i h;rw [Bool.and_eq_true] at h;refine StH.cut hn (fun i x hi b hb=>?_) (fun i x hi hx=>.inr fun b hb=>?_)
   . cases i with
     | zero=>simp at hi;subst hi;exact vh3.1 h.1 b hb
     | succ i=>simp at hi
   . exact vh3.1 (List.all_eq_true.1 h.2 x (List.mem_of_getElem? (by rw [List.getElem?_take_of_lt hi];exact hx))) b hb
 . exact StH.refl
theorem wtj {e:List SB} {r:List SB×SV} {n:Nat} {wl:List Nat} (hn:e.length=n) (h:Fr e r.1 wl):Fr e (zo2 n r).1 wl:=by
 unfold zo2
 split
 . refine ⟨by rw [List.length_take];have:=h.1;omega,fun i hi hw=>?_⟩;rw [List.getElem?_take_of_lt (by omega)];exact h.2 i hi hw
 . exact h
theorem zvv (hD : OkD Γ P cD) (hH : OkH Γ P cH) {N : Nat} {l : List SV} {J J' : List SB} {wl : List Nat} (h : wb8 cD cH P Γ N f l J = some (x, J', wl)) :
 ∃ fn c,P.funcs[f]? = some fn/\fn.body=some c/\(fn.name == "runtime.NumGoroutine")=false/\Fr J J' wl/\
  x1x Γ P J c (fun y s t=>(y=.ret\/y=.normal)/\wan P s t fn.results.toList=some x/\t=J') (l++List.replicate (fn.ntmps-l.length) .undef) J:=by
 unfold wb8 at h;simp only [x04] at h;split at h
 . rename_i fn hf;split at h
   . rename_i c hc hn;have go:∀(y:Exit) (I:List SV) (h1:List SB) (wl1:List Nat),(y=.ret\/y=.normal)->x7o cD cH P Γ N c (l++List.replicate (fn.ntmps-l.length) .undef) J []=some (y,I,h1,wl1)->
      (wan P I h1 fn.results.toList).map (fun x=>(x,h1,wl1))=some (x,J',wl)->Fr J J' wl/\x1x Γ P J c (fun y s t=>(y=.ret\/y=.normal)/\wan P s t fn.results.toList=some x/\t=J') (l++List.replicate (fn.ntmps-l.length) .undef) J:=by
      intro y I h1 wl1 hy he hm;obtain ⟨x',hx,e⟩:=Option.map_eq_some_iff.1 hm
      cases e;obtain ⟨p,q⟩:=zu0 hD hH c _ _ _ _ _ _ _ he Fr.refl;refine ⟨q,p.mono ?_⟩;rintro y' s t ⟨rfl,rfl,rfl⟩;exact ⟨hy,hx,rfl⟩
     split at h
     . rename_i I h1 wl1 he;obtain ⟨p,q⟩:=go _ _ _ _ (.inl rfl) he h;exact ⟨fn,c,hf,hc,hn,p,q⟩
     . rename_i I h1 wl1 he;obtain ⟨p,q⟩:=go _ _ _ _ (.inr rfl) he h;exact ⟨fn,c,hf,hc,hn,p,q⟩
     . cases h
   . cases h
 . cases h
end
section
variable {known:FuncId->List AV->Option AV}
theorem zkt (hK : OkD Γ P known) {N : Nat} : ∀ n, OkD Γ P (evD P Γ known N n) ∧ OkH Γ P (evH P Γ known N n)
 | 0=>⟨fun f l r h=>by simp [evD] at h,fun f J l J' r ch h=>by simp [evH] at h⟩
 | n + 1 => by
  obtain ⟨hD,hH⟩:=zkt hK (N:=N) n;constructor
  . intro f l r h;unfold evD at h;split at h
    . rename_i r' hr
      cases h;exact hK _ _ _ hr
    . split at h
      . rename_i sl hsl;split at h
        . rename_i x J' wl hb;obtain ⟨p,hp,e⟩:=Option.map_eq_some_iff.1 h;subst e;obtain ⟨fn,c,hf,hc,hn,_,hcode⟩:=zvv hD hH hb;refine CallsD.of hf hc hn hsl (hcode.mono ?_);rintro y s t ⟨hy,hx,rfl⟩
          rcases hy with rfl | rfl<;>exact ⟨x,p.1,p.2,hx,hp,RLe.one (.refl _)⟩
        . cases h
      . cases h
  . intro f J l J' r ch h;unfold evH at h;split at h
    . rename_i x η1 wl hb;obtain ⟨fn,c,hf,hc,hn,hfr,hcode⟩:=zvv hD hH hb;simp only [Option.some.injEq,Prod.mk.injEq] at h;obtain ⟨rfl,rfl,rfl⟩:=h;have hfr2:=wtj (r:=vn6 J.length x η1) rfl (xav (x:=x) (Nat.le_refl _) hfr);refine ⟨xpp.of hf hc hn (hcode.mono ?_),hfr2.1,fun i hi hw=>hfr2.2 i hi (fun hm=>hw ?_)⟩
      . rintro y s t ⟨hy,hx,rfl⟩
        rcases hy with rfl | rfl<;>exact ⟨x,hx,zh3.trans (yhd (Nat.le_refl _))⟩
      . rw [List.mem_filter];exact ⟨hm,by simpa using hi⟩
    . cases h
theorem CallsD.ev (hK:OkD Γ P known) {N n:Nat} {l:List AV} {r:AV} (h:evD P Γ known N n f l=some r):CallsD Γ P f l r:=(zkt hK n).1 f l r h
theorem xpp.ev (hK:OkD Γ P known) {N n:Nat} {J J':List SB} {l:List SV} {r:SV} {ch:List Nat} (h:evH P Γ known N n f J l=some (J',r,ch)):xpp Γ P f J l J' r:=((zkt hK n).2 f J l J' r ch h).1
theorem OkD.none:OkD Γ P (fun _ _=>none):=fun _ _ _ h=>by cases h
end
end Go.Hp
