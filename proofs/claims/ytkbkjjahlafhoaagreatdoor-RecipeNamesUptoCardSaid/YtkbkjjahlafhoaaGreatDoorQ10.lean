/- The proof, part Q10: Hn, Ho. -/
import Derived.Test.YtkbkjjahlafhoaaGreatDoorQ9
namespace Go.Hp
open Go Go.RowKit Go.Slot
variable {P:Program} {Γ:List (Nat×List Cell)}
variable {η η':List SB} {l:List AV} {b nb es:Nat} {o:Oper} {J:List SV} {rd rh bs:List Nat} {eff:List (Nat×SV)} {heff:List (Nat×SB)} {x y:Operand} {t e:TypeId} {T:Option TypeId} {ik:Option IntKind} {c:Cell} {xs:Array Operand} {ob:Option SB} {lit fn:Bool} {f:FuncId} {res:AV}
theorem wqy {l:List SB} (h:b<η.length):gB (η++l) b=gB η b:=by
 unfold gB;rw [List.getElem?_append_left h]
theorem xfd (h:wry (gB η b)=true):b<η.length:=by
 rcases Nat.lt_or_ge b η.length with h1 | h1
 . exact h1
 . unfold gB at h;rw [List.getElem?_eq_none h1] at h;cases h
theorem vjx:∀(heff:List (Nat×SB)) (η:List SB) (x:SB),(∀ p∈heff,p.1<η.length)->appL (heff++[(η.length,x)]) (η++[.fresh])=appL heff η++[x]
 | [],η,x,_=>by simp [appL]
 | (i,y)::r,η,x,h=>by
  have hi:i<η.length:=h (i,y) (by simp);simp only [List.cons_append,appL];rw [List.set_append_left _ _ hi]
  have:=vjx r (η.set i y) x (fun p hp=>by rw [List.length_set];exact h p (by simp [hp]))
  rw [List.length_set] at this;exact this
theorem yxe (η:List SB):y6w (η++[.fresh]) η.length=true:=by simp [y6w]
theorem yao.new {x:SB} (h:x6g Γ P o J (η++[.fresh]) rd rh eff (heff++[(η.length,x)])) (hl:∀ p∈heff,p.1<η.length) :
 yao Γ P o J η (appL eff J) (appL heff η++[x]):=by
 have:=h.px
 rw [vjx heff η x hl] at this;exact this
def Sound (Γ:List (Nat×List Cell)) (P:Program) (o:Oper) (J:List SV) (η:List SB) (nb:Nat) (rd rh:List Nat) (eff:List (Nat×SV)) (heff:List (Nat×SB)):Option SB->Prop
 | none=>x6g Γ P o J η rd rh eff heff
 | some x=>(y6w η nb=true->x6g Γ P o J η rd (nb::rh) eff (heff++[(nb,x)]))/\(nb=η.length->yao Γ P o J η (appL eff J) (appL heff η++[x]))
def zu0 (Γ:List (Nat×List Cell)) (P:Program) (o:Oper) (J:List SV) (η:List SB) (nb:Nat):HO->Prop
 | .eff rd rh eff heff new=>Sound Γ P o J η nb rd rh eff heff new
 | _=>True
theorem yft {k:TI->HO} (h:∀ ti,mkTI P t=some ti->zu0 Γ P o J η nb (k ti)):zu0 Γ P o J η nb (w3q P t k):=by
 unfold w3q
 split
 . rename_i ti hti;exact h ti hti
 . trivial
theorem xvl {x:Option SV} (h:∀ v d,x=some v->o.dst=some d->x6g Γ P o J η (d::rd) rh [(d,v)] []):zu0 Γ P o J η nb (vO o rd rh x):=by
 unfold vO
 split
 . split
   . rename_i d hd;exact h _ d rfl hd
   . trivial
 . trivial
theorem wir {x:SV} {b:SB} (h:∀ d η',o.dst=some d->(η'=η\/η'=η++[.fresh])->y6w η' nb=true->x6g Γ P o J η' (d::rd) (nb::rh) [(d,x)] (heff++[(nb,b)]))
 (hl:∀ p∈heff,p.1<η.length):zu0 Γ P o J η nb (nO o rd rh x heff b):=by
 unfold nO
 split
 . rename_i d hd;refine ⟨fun hr=>h d η hd (.inl rfl) hr,fun e=>?_⟩;subst e;exact yao.new (h d (η++[.fresh]) hd (.inr rfl) (yxe η)) hl
 . trivial
theorem zab {α:Type} {l:List α} (h:isNil l=true):l=[]:=by cases l<;>first | rfl | cases h
theorem wqx:zu0 Γ P o J η nb (oldO P J nb o):=by
 unfold oldO
 split
 case h_2=>trivial
 rename_i d hd
 split
 case isFalse=>trivial
 rename_i hc;unfold oldR
 split
 case h_2=>trivial
 rename_i rd tk d' av heq
 split
 case isFalse=>trivial
 rename_i hcc;simp only [Bool.and_eq_true,beq_iff_eq] at hcc;obtain ⟨htk,rfl⟩:=hcc;have htk:=zab htk;subst htk
 split
 case h_2=>trivial
 rename_i x ob h2;have hst:=(vt9 heq).2
 cases ob with
 | none=>exact vfo hc.1 hd hst hc.2 h2 rfl
 | some b=>
  refine ⟨fun hr=>vfo hc.1 hd hst hc.2 h2 hr,fun e=>?_⟩;subst e
  have:=vfo (Γ:=Γ) (η:=η++[.fresh]) (nb:=η.length) hc.1 hd hst hc.2 h2 (show zrs (η++[.fresh]) η.length (some b)=true from yxe η)
  exact yao.new (heff:=[]) this (by simp)
theorem zd9 {T:TypeId} {d:Nat} (ho:o.op=.index T x y) (hdst:o.dst=some d) {ti:TI} (hti:mkTI P T=some ti) (hs:ti.sh=.string) {v:SV} (h:x96 (opdS Γ J x) (opdS Γ J y)=some v) :
 x6g Γ P o J η (d::(orr x++orr y)) [] [(d,v)] []:=by
 refine x6g.pure hdst (fun E ρ J' η' a w hag hah hI=>?_);have hx:=hI.opd x;have hy:=hI.opd y;rw [hag.opd (fun t ht=>by simp [ht])] at hx hy;obtain ⟨dd,i,z,hd,_,_,_,_,_,_,_,hsh⟩:=(xat hti).ex;have hT:=vgt (hsh.symm.trans hs);subst hT;unfold x96 at h;split at h
 . rename_i s k ix ex ey;split at h
   . rename_i hi
     cases h;rw [ex] at hx;rw [ey] at hy;have ex:a.eval x=.string s:=RdC.v7q hx;have ey:a.eval y=.int k ix:=RdC.v7q hy;refine ⟨_,?_,RdC.raw rfl⟩
     have hsz:ix.toNat<s.size:=by omega
     have hg:s[ix.toNat]? = some s[ix.toNat]:=by simp [hsz]
     have hb:vpd s ix.toNat=(s[ix.toNat]).toNat:=by
      unfold vpd
      have:s.data[ix.toNat]? = some s[ix.toNat]:=by
       rw [Array.getElem?_eq_getElem (by simpa using hsz)];rfl
      rw [this];rfl
     rw [hb];simp [execOp,ho,Instr.index,asIntOf,ex,ey,y9m hd,hi.1,hg]
   . cases h
 . cases h
theorem xxt {x:SV} {i:Int} (h:intS x=some i):∃ k,x=.one (.dat (.raw (.int k i))):=by
 unfold intS at h;split at h
 . cases h;exact ⟨_,rfl⟩
 . cases h
theorem xe9:zu0 Γ P o J η nb (opP P Γ J η nb o):=by
 unfold opP
 split
 . rename_i x ho;exact xvl (fun v d e hd=>by cases e;exact zyi (.inl ho) hd)
 . rename_i x ho;exact xvl (fun v d e hd=>by cases e;exact zyi (.inr ho) hd)
 . rename_i c x y ho
   split
   . rename_i v hv;exact xvl (fun v' d e hd=>by cases e;exact z7t ho hd hv)
   . exact wqx
 . rename_i T x ho;refine yft (fun ti hti=>?_)
   split
   . rename_i rh hs hsee;exact xvl (fun v d e hd=>xa3 ho hd hti hsee e)
   . trivial
 . rename_i T x y ho
   split
   . rename_i hd;refine yft (fun ti hti=>?_)
     split
     . rename_i us hu
       split
       . rename_i hl
         split
         . rename_i b z hst;exact v1m ho hd hti hu hl hst
         . trivial
       . trivial
     . trivial
   . trivial
 . rename_i S x f ho;refine yft (fun ti hti=>?_)
   split
   . rename_i fs hs
     split
     . rename_i off sz ft hf;exact xvl (fun v d e hd=>z8a ho hd hti hs hf e)
     . trivial
   . trivial
 . rename_i T x y ho;refine yft (fun ti hti=>?_)
   split
   . rename_i v hv;exact xvl (fun v' d e hd=>by cases e;exact ykb ho hd hti hv)
   . exact wqx
 . rename_i x n ho;exact xvl (fun v d e hd=>yp8 ho hd e)
 . rename_i x ho
   split
   . rename_i hp;exact xvl (fun v d e hd=>by cases e;exact wvu ho hd hp)
   . trivial
 . rename_i op T x y U ho
   split
   . exact xvl (fun v d e hd=>y13 ho hd e)
   . split
     . rename_i t ht
       split
       . rename_i j hj;exact xvl (fun v d e hd=>zzh ho hd (xah ht) hj e)
       . trivial
     . trivial
   . exact wqx
 . exact wqx
 . exact wqx
 . rename_i T x lo hi mx ho
   split
   . split
     . exact yft (fun ti hti=>xvl (fun v d e hd=>wz4 ho hd hti e))
     . trivial
   . exact wqx
 . rename_i T ps ho;refine yft (fun ti hti=>?_)
   split
   . rename_i hc;refine xvl (fun v d e hd=>?_);obtain ⟨hs,hf,rfl⟩:=Option.map_eq_some_iff.1 e;exact wmb (parts:=ps.toList) (by rw [ho]) hd hti hc.1 hc.2 hf
   . trivial
 . rename_i T x f ho;refine yft (fun ti hti=>?_)
   split
   . rename_i fs hs
     split
     . rename_i off sz ft hf;exact yft (fun tf htf=>xvl (fun v d e hd=>ywn ho hd hti hs hf htf e))
     . trivial
   . trivial
 . rename_i T x y ho;refine yft (fun ti hti=>?_)
   split
   . rename_i n e es hs;refine yft (fun te hte=>?_)
     split
     . rename_i ix hix
       split
       . rename_i hc;obtain ⟨k,hk⟩:=xxt hix;exact xvl (fun v d e hd=>ys0 ho hd hti hs hte hk hc.1 hc.2 e)
       . trivial
     . trivial
   . rename_i hs;exact xvl (fun v d e hd=>zd9 ho hd hti hs e)
   . trivial
 . rename_i T x y ok ho;refine yft (fun ti hti=>?_)
   split
   . refine yft (fun tk htk=>?_)
     split
     . split
       . unfold wkc
         split<;>trivial
       . trivial
     . trivial
   . trivial
 . rename_i T x y z ho
   split
   . rename_i hd;refine yft (fun ti hti=>?_)
     split
     . rename_i kt et hs;refine yft (fun tk htk=>?_)
       split
       . rename_i b es k hm hk
         split
         . rename_i hc
           split
           . rename_i es' hu;exact z1r ho hd hti hs htk hm hk hc.1 hc.2 hu
           . trivial
         . trivial
       . trivial
     . trivial
   . trivial
 . trivial
theorem vf0 (h:∀ b∈bs,wry (gB η b)=true):∀ p∈frzE η bs,p.1<η.length:=fun p hp=>by
 obtain ⟨b,hb,rfl⟩:=List.mem_map.1 hp;exact xfd (h b hb)
theorem wbn {n:Nat} {zc : List Cell} {parts : List (Nat × Operand)} (h : litH Γ J η es ik zc n parts = some (c, bs)) : ∀ b ∈ bs, wry (gB η b) = true := by
 unfold litH at h;split at h
 . split at h
   . split at h
     . rename_i cs bs' hd;obtain ⟨c',_,he⟩:=Option.map_eq_some_iff.1 h
       cases he;exact w4w hd
     . cases h
   . cases h
 . cases h
theorem whg (h:xs.toList=[x]):xs=#[x]:=by rw [<-Array.toArray_toList (xs:=xs),h]
theorem xsj (h:xs.toList=[x,y]):xs=#[x,y]:=by rw [<-Array.toArray_toList (xs:=xs),h]
theorem xhr {x:TypeId} {xs:Array TypeId} (h:xs.toList=[x]):xs=#[x]:=by rw [<-Array.toArray_toList (xs:=xs),h]
theorem wab {x y:TypeId} {xs:Array TypeId} (h:xs.toList=[x,y]):xs=#[x,y]:=by rw [<-Array.toArray_toList (xs:=xs),h]
theorem zeh {x:SV} {k:Nat} (h:dstH η e es ik x=some (some b,c,k,T)):wry (gB η b)=true:=by
 unfold dstH at h;split at h
 . split at h
   . rename_i hb;split at h
     . cases h;rw [hb];rfl
     . cases h
   . cases h
 . split at h<;>cases h
 . cases h
theorem vhq {x : SV} {ob : Option Nat} {k : Nat} (h : dstH η e es ik x = some (ob, c, k, T)) (ha : ∀ b, ob = some b → gB η' b = gB η b) : dstH η' e es ik x = some (ob, c, k, T) := by
 unfold dstH at h ⊢;split at h
 . rename_i b es' n
   have e1:gB η' b=gB η b:=by
    split at h
    . split at h
      . cases h;exact ha b rfl
      . cases h
    . cases h
   simp only [e1];exact h
 . exact h
 . cases h
theorem xu6 {x:SV} (h:srcH η x=some (c,bs)) (ha:∀ b∈bs,gB η' b=gB η b):srcH η' x=some (c,bs):=by
 unfold srcH at h ⊢;split at h
 . exact y5z h ha
 . cases h
theorem zak {x:SV} (h:srcH η x=some (c,bs)):∀ b∈bs,wry (gB η b)=true:=by
 unfold srcH at h;split at h
 . exact v5z h
 . cases h
theorem x4y (he:η'=η\/η'=η++[.fresh]) (hb:wry (gB η b)=true):gB η' b=gB η b:=by
 rcases he with rfl | rfl
 . rfl
 . exact wqy (xfd hb)
theorem vle:zu0 Γ P o J η nb (opH P Γ lit fn J η nb o):=by
 unfold opH
 split
 . rename_i T ho;exact yft (fun ti hti=>wir (fun d η' hd _ hr=>v0u ho hd hti hr) (by simp))
 . rename_i T x ho
   split
   . rename_i hs hcs;exact wir (fun d η' hd _ hr=>yit ho hd hcs hr) (by simp)
   . trivial
 . rename_i T n ps ho
   split
   . exact wqx
   . rename_i n;refine yft (fun ti hti=>?_)
     split
     . rename_i e es eb ik hsh;refine yft (fun te hte=>?_)
       split
       . rename_i c bs hl;have harr:=wbn hl
         split
         . split
           . rename_i d hd;exact voq (parts:=ps.toList) (by rw [ho]) hd hti hsh hte hl
           . trivial
         . refine wir (fun d η' hd he hr=>?_) (vf0 harr)
           have hg:∀ b∈bs,gB η' b=gB η b:=fun b hb=>x4y he (harr b hb)
           have:=ydi (parts:=ps.toList) (nb:=nb) (by rw [ho]) hd hti hsh hte (vgo (J':=J) rfl hl hg) hr
           rw [y2c hg] at this;exact this
       . trivial
     . trivial
 . rename_i T ho;exact wir (fun d η' hd _ hr=>zta ho hd hr) (by simp)
 . rename_i f fs cs ho
   split
   . rename_i hfs
     have hfs':fs=#[]:=by rw [<-Array.toArray_toList (xs:=fs),hfs]
     subst hfs'
     split
     . split<;>trivial
     . split
       . rename_i hnt;exact wir (fun d η' hd _ hr=>vmz (xs:=cs.toList) (by rw [ho]) hd hnt hr) (by simp)
       . trivial
   . trivial
 . rename_i S D x ho;unfold yc3
   split
   . rename_i e hS hD
     split
     . rename_i he
       split
       . rename_i l bs hb
         split
         . rename_i d hd;exact vd7 ho hd hS he hD hb
         . trivial
       . trivial
     . trivial
   . rename_i t hS hD
     split
     . rename_i j b off T n hj hb
       split
       . rename_i hsz;exact xvl (fun v d e hd=>by cases e;exact xen ho hd hS hD hj (by simpa using hsz) hb)
       . trivial
     . trivial
   . rename_i u hS hD
     split
     . rename_i j b off T n hj hb
       split
       . rename_i hl;exact xvl (fun v d e hd=>by cases e;exact wck ho hd hS hD hj hl hb)
       . trivial
     . trivial
   . exact wqx
 . rename_i c ho;obtain ⟨ce,args,ats⟩:=c;dsimp only
   split
   . rename_i x;unfold wz2
     have hG:∀ f caps rd rh,zu0 Γ P o J η nb (wz2.callG Γ (ys6 lit fn) J η o args.toList f caps rd rh):=fun f caps rd rh=>by
      unfold wz2.callG
      split
      . trivial
      . split<;>trivial
     split
     . rename_i f
       split
       . rename_i hne
         split
         . rename_i y hy
           have:=whg hy
           subst this;exact xvl (fun v d e hd=>by cases e;exact ymp ho hd hne)
         . trivial
       . exact hG _ _ _ _
     . split
       . split<;>trivial
       . split
         . exact hG _ _ _ _
         . trivial
     . trivial
   . rename_i b
     split
     . split
       . rename_i x T hx hT;have h1:=whg hx;have h2:=xhr hT;subst h1;subst h2
         split
         . refine yft (fun ti hti=>?_)
           split
           . rename_i rh n hl;exact xvl (fun v d e hd=>by cases e;exact ye5 ho hd hti hl)
           . trivial
         . exact wqx
       . trivial
     . split
       . rename_i x y T U hx hT;have h1:=xsj hx;have h2:=wab hT;subst h1;subst h2
         split
         . rename_i hTU;subst hTU;refine yft (fun ti hti=>?_)
           split
           . rename_i e es eb ik hsh;unfold opH.appO
             split
             . rename_i ob cc k TT cy bs hD hS
               split
               . rename_i c' hj
                 split
                 . rename_i hob;have harr:=zak hS
                   have harrD:∀ b,ob=some b->wry (gB η b)=true:=fun b e1=>by subst e1;exact zeh hD
                   refine wir (fun d η' hd he hr=>?_) (fun p hp=>?_)
                   . have hg:∀ b∈bs,gB η' b=gB η b:=fun b hb=>x4y he (harr b hb)
                     have hA:xvy η' nb e es eb ik (opdS Γ J x) (opdS Γ J y)=some (ob.toList++bs,frzE η' bs++(v0r ob++[(nb,.arr c' k (appT TT e))]),.one (.sl nb es 0 c'.cnt)):=by
                      unfold xvy;rw [vhq hD (fun b e1=>x4y he (harrD b e1)),xu6 hS hg];simp only [hj,hob,if_true]
                     have:=v6m ho hd hti hsh hA hr
                     rw [y2c hg,<-List.append_assoc] at this;exact this
                   . rcases List.mem_append.1 hp with hp | hp
                     . exact vf0 harr p hp
                     . cases ob with
                       | none=>cases hp
                       | some b=>
                        simp only [v0r,List.mem_singleton] at hp;subst hp;exact xfd (harrD b rfl)
                 . trivial
               . trivial
             . trivial
           . trivial
         . trivial
       . trivial
     . split
       . rename_i x hx;have h1:=whg hx;subst h1;exact xvl (fun v d e hd=>xyi ho hd e)
       . trivial
     . split
       . rename_i x y pt it d hx hT hd;have h1:=xsj hx;have h2:=wab hT;subst h1;subst h2
         split
         . rename_i b l hu;exact s_us ho hd hu
         . trivial
       . trivial
     . exact wqx
     . exact wqx
     . trivial
   . trivial
 . exact xe9
def HO.flat:HO->Prop
 | .eff _ _ _ _ _=>True
 | .bad=>True
 | _=>False
variable {k:TI->HO} {r:HO}
theorem yhh (h:∀ ti,(k ti).flat):(w3q P t k).flat:=by
 unfold w3q
 split
 . exact h _
 . trivial
theorem whu {x:Option SV}:(vO o rd rh x).flat:=by
 unfold vO
 repeat' split
 all_goals trivial
theorem xxd {x:SV} {b:SB}:(nO o rd rh x heff b).flat:=by
 unfold nO
 split<;>trivial
theorem x9i:(oldO P J nb o).flat:=by
 unfold oldO oldR
 repeat' split
 all_goals trivial
theorem vap {S D:TypeId}:(yc3 P Γ J η nb o S D x).flat:=by
 unfold yc3
 repeat' split
 all_goals first | trivial | exact whu | exact x9i
theorem wwa {x y:SV} {eb:Nat}:(opH.appO η nb o x y rd e es eb ik).flat:=by
 unfold opH.appO
 repeat' split
 all_goals first | trivial | exact xxd
theorem wi3 (hr:r≠.bad) (h:w3q P t k=r):∃ ti,mkTI P t=some ti/\k ti=r:=by
 unfold w3q at h;split at h
 . rename_i ti hti;exact ⟨ti,hti,h⟩
 . exact absurd h.symm hr
theorem yjx {T:TypeId} {ok:Bool} (ho:o.op=.lookup T x y ok) (h:opP P Γ J η nb o=r) (hr:r≠.bad) :
 ∃ ti kt et tk b es k r0 z,mkTI P T=some ti/\ti.sh=.map kt et/\mkTI P kt=some tk/\wox η (opdS Γ J x)=some (b,es)/\keyX (opdS Γ J y)=some k/\xg7 P kt tk.sh k=true/\y6f es k=some r0/\zxg P et=some z/\r=.look r0 z ok (vf6 o++(orr x++orr y)) [b]:=by
 unfold opP at h;rw [ho] at h;dsimp only at h;obtain ⟨ti,hti,h⟩:=wi3 hr h;split at h
 case h_2=>exact absurd h.symm hr
 rename_i kt et hs;obtain ⟨tk,htk,h⟩:=wi3 hr h;split at h
 case h_2=>exact absurd h.symm hr
 rename_i b es k hm hk;split at h
 case isFalse=>exact absurd h.symm hr
 rename_i hko;unfold wkc at h;split at h
 case h_2=>exact absurd h.symm hr
 rename_i r' z' hf hz;exact ⟨ti,kt,et,tk,b,es,k,r',z',hti,hs,htk,hm,hk,hko,hf,hz,h.symm⟩
theorem zcj (h:∀ T x y ok,o.op≠.lookup T x y ok):(opP P Γ J η nb o).flat:=by
 unfold opP
 split
 all_goals first
  | trivial
  | exact whu
  | exact x9i
  | (rename_i heq;exact absurd heq (h _ _ _ _))
  | skip
 all_goals
  repeat' first
   | trivial
   | exact whu
   | exact x9i
   | refine yhh (fun ti=>?_)
   | split
theorem zr2 (h1:∀ T x y ok,o.op≠.lookup T x y ok) (h2:∀ f fs cs,o.op≠.makeFunc f fs cs) (h3:∀ x xs ts,o.op≠.call { callee:=.value x,args:=xs,argTypes:=ts }):(opH P Γ lit fn J η nb o).flat:=by
 unfold opH
 split
 . exact yhh (fun _=>xxd)
 . split
   . exact xxd
   . trivial
 . split
   . exact x9i
   . refine yhh (fun ti=>?_)
     split
     . refine yhh (fun te=>?_)
       repeat' split
       all_goals first | trivial | exact xxd
     . trivial
 . exact xxd
 . rename_i heq;exact absurd heq (h2 _ _ _)
 . exact vap
 . rename_i c ho;obtain ⟨ce,args,ats⟩:=c;dsimp only
   split
   . exact absurd ho (h3 _ _ _)
   . split
     . split
       . split
         . refine yhh (fun ti=>?_)
           split
           . exact whu
           . trivial
         . exact x9i
       . trivial
     . split
       . split
         . refine yhh (fun ti=>?_)
           split
           . exact wwa
           . trivial
         . trivial
       . trivial
     . split
       . exact whu
       . trivial
     . repeat' split
       all_goals trivial
     . exact x9i
     . exact x9i
     . trivial
   . trivial
 . exact zcj h1
theorem xr8 {ts:Array TypeId} (ho:o.op=.call { callee:=.value x,args:=xs,argTypes:=ts }):opH P Γ lit fn J η nb o=wz2 P Γ (ys6 lit fn) J η o x xs.toList:=by
 unfold opH;rw [ho]
theorem zqt (h:opH P Γ lit fn J η nb o=r) (hr:(∃ f l rd rh bs,r=.callD f l rd rh bs)\/(∃ p l rd bs,r=.callF p l rd bs)\/(∃ f l rd,r=.callH f l rd)) :
 ∃ x xs ts,o.op=.call { callee:=.value x,args:=xs,argTypes:=ts }:=by
 apply Classical.byContradiction;intro hn
 have h3:∀ x xs ts,o.op≠.call { callee:=.value x,args:=xs,argTypes:=ts }:=fun x xs ts e=>hn ⟨x,xs,ts,e⟩
 by_cases h1:∀ T x y ok,o.op≠.lookup T x y ok
 . by_cases h2:∀ f fs cs,o.op≠.makeFunc f fs cs
   . have:=zr2 (P:=P) (Γ:=Γ) (lit:=lit) (fn:=fn) (J:=J) (η:=η) (nb:=nb) h1 h2 h3
     rw [h] at this
     rcases hr with ⟨_,_,_,_,_,rfl⟩ | ⟨_,_,_,_,rfl⟩ | ⟨_,_,_,rfl⟩<;>exact this
   . obtain ⟨f,hf⟩:=Classical.not_forall.1 h2;obtain ⟨fs,hf⟩:=Classical.not_forall.1 hf;obtain ⟨cs,hf⟩:=Classical.not_forall.1 hf;have ho:=Classical.not_not.1 hf
     have hno:∀ r,((∃ f l rd rh bs,r=HO.callD f l rd rh bs)\/(∃ p l rd bs,r=HO.callF p l rd bs)\/(∃ f l rd,r=HO.callH f l rd))->opH P Γ lit fn J η nb o≠r:=fun r hr e=>by
      unfold opH at e;rw [ho] at e
      cases f with
      | func f=>
       dsimp only at e;split at e
       . split at e
         . split at e
           . subst e;rcases hr with ⟨_,_,_,_,_,e⟩ | ⟨_,_,_,_,e⟩ | ⟨_,_,_,e⟩<;>cases e
           . subst e;rcases hr with ⟨_,_,_,_,_,e⟩ | ⟨_,_,_,_,e⟩ | ⟨_,_,_,e⟩<;>cases e
         . split at e
           . have:=xxd (o:=o) (rd:=orrL cs.toList) (rh:=[]) (x:=.one (.fnr nb)) (heff:=[]) (b:=.clo f (vnq Γ J cs.toList))
             rw [e] at this
             rcases hr with ⟨_,_,_,_,_,rfl⟩ | ⟨_,_,_,_,rfl⟩ | ⟨_,_,_,rfl⟩<;>exact this
           . subst e;rcases hr with ⟨_,_,_,_,_,e⟩ | ⟨_,_,_,_,e⟩ | ⟨_,_,_,e⟩<;>cases e
       . subst e;rcases hr with ⟨_,_,_,_,_,e⟩ | ⟨_,_,_,_,e⟩ | ⟨_,_,_,e⟩<;>cases e
      | _=>
       dsimp only at e;unfold opP at e;rw [ho] at e;dsimp only at e;subst e
       rcases hr with ⟨_,_,_,_,_,e⟩ | ⟨_,_,_,_,e⟩ | ⟨_,_,_,e⟩<;>cases e
     exact hno r hr h
 . obtain ⟨T,hf⟩:=Classical.not_forall.1 h1;obtain ⟨x,hf⟩:=Classical.not_forall.1 hf;obtain ⟨y,hf⟩:=Classical.not_forall.1 hf;obtain ⟨ok,hf⟩:=Classical.not_forall.1 hf;have ho:=Classical.not_not.1 hf;unfold opH at h;rw [ho] at h;dsimp only at h
   have hnb:r≠.bad:=fun e=>by
    subst e;rcases hr with ⟨_,_,_,_,_,e⟩ | ⟨_,_,_,_,e⟩ | ⟨_,_,_,e⟩<;>cases e
   obtain ⟨_,_,_,_,_,_,_,_,_,_,_,_,_,_,_,_,_,rfl⟩:=yjx ho h hnb
   rcases hr with ⟨_,_,_,_,_,e⟩ | ⟨_,_,_,_,e⟩ | ⟨_,_,_,e⟩<;>cases e
theorem v9v (hl:∀ p∈heff,p.1<η.length)
 (h:∀ η',(η'=η\/η'=η++[.fresh])->zrs η' nb ob=true->x6g Γ P o J η' rd (oN nb ob++rh) eff (heff++oB nb ob)):Sound Γ P o J η nb rd rh eff heff ob:=by
 cases ob with
 | none=>
  have:=h η (.inl rfl) rfl
  simp only [oN,oB,List.nil_append,List.append_nil] at this;exact this
 | some b=>
  refine ⟨fun hr=>h η (.inl rfl) hr,fun e=>?_⟩;subst e;exact yao.new (h (η++[.fresh]) (.inr rfl) (show zrs (η++[.fresh]) η.length (some b)=true from yxe η)) hl
theorem zig {caps : List SV} (h : z8h Γ J η x = some (f, caps, rd, rh)) : ∀ b ∈ rh, b < η.length := by
 unfold z8h at h;split at h
 . cases h;intro b hb;cases hb
 . split at h
   . obtain ⟨f0,_,e⟩:=Option.map_eq_some_iff.1 h;cases e;intro b hb;cases hb
   . split at h
     . rename_i hgb
       cases h;intro b hb;simp only [List.mem_singleton] at hb;subst hb;exact (List.getElem?_eq_some_iff.1 (w5n hgb (by simp))).1
     . cases h
   . cases h
 . cases h
theorem zfs (h:opH P Γ lit fn J η nb o=.callD f l rd rh bs) (hc:CallsD Γ P f l res) {y:SV} (hr:resS nb res=some (y,ob)) :
 Sound Γ P o J η nb rd (rh++bs) (yoh o y) (frzE η bs) ob:=by
 obtain ⟨x,xs,ts,ho⟩:=zqt h (.inl ⟨_,_,_,_,_,rfl⟩);rw [xr8 ho] at h
 have ho':o.op=.call { callee:=.value x,args:=xs.toList.toArray,argTypes:=ts }:=by rw [ho]
 have hG:∀{f':FuncId} {caps:List SV} {rd' rh':List Nat},z8h Γ J η x=some (f',caps,rd',rh')->(∀ b∈rh',b<η.length)->wz2.callG Γ (ys6 lit fn) J η o xs.toList f' caps rd' rh'=.callD f l rd rh bs->Sound Γ P o J η nb rd (rh++bs) (yoh o y) (frzE η bs) ob:=fun {f' caps rd' rh'} hcal hlt hg=>by
  unfold wz2.callG at hg;split at hg
  . rename_i l' bs' ha;have ha:=zfb ha
    cases hg;have harr:=y8d ha;refine v9v (vf0 harr) (fun η' he hroom=>?_)
    have hgb:∀ b∈bs,gB η' b=gB η b:=fun b hb=>x4y he (harr b hb)
    have hcal':=y76 (J':=J) (η':=η') hcal (fun _ _=>rfl) (fun b hb=>by
     rcases he with rfl | rfl
     . rfl
     . exact wqy (hlt b hb))
    have:=vj7 (η:=η') ho' hcal' (wut ha hgb) hc hr hroom
    rw [y2c hgb,List.append_assoc (oN nb ob)] at this;exact this
  . split at hg<;>cases hg
 unfold wz2 at h;split at h
 . split at h
   . split at h
     . unfold vO at h;repeat' split at h
       all_goals cases h
     . cases h
   . exact hG rfl (by simp) h
 . rename_i t;split at h
   . split at h<;>cases h
   . split at h
     . rename_i f' caps rd' rh' hcal;exact hG hcal (zig hcal) h
     . cases h
 . cases h
theorem woe {F:List AV->AV->Prop} (h:opH P Γ lit fn J η nb o=.callF (v0k Γ P F) l rd bs) (hc:F l res) {y:SV} (hr:resS nb res=some (y,ob)) :
 Sound Γ P o J η nb rd bs (yoh o y) (frzE η bs) ob:=by
 obtain ⟨x,xs,ts,ho⟩:=zqt h (.inr (.inl ⟨_,_,_,_,rfl⟩));rw [xr8 ho] at h
 have ho':o.op=.call { callee:=.value x,args:=xs.toList.toArray,argTypes:=ts }:=by rw [ho]
 have hno:∀{f':FuncId} {caps:List SV} {rd' rh':List Nat},wz2.callG Γ (ys6 lit fn) J η o xs.toList f' caps rd' rh'≠.callF (v0k Γ P F) l rd bs:=fun {f' caps rd' rh'} hg=>by
  unfold wz2.callG at hg;split at hg
  . cases hg
  . split at hg<;>cases hg
 unfold wz2 at h;split at h
 . split at h
   . split at h
     . unfold vO at h;repeat' split at h
       all_goals cases h
     . cases h
   . exact absurd h hno
 . rename_i t;split at h
   . rename_i p ht;split at h
     . rename_i l' bs' ha
       cases h;have harr:=y8d ha;refine v9v (vf0 harr) (fun η' he hroom=>?_)
       have hgb:∀ b∈bs,gB η' b=gB η b:=fun b hb=>x4y he (harr b hb)
       have:=vkx (η:=η') ho' ht (wut ha hgb) hc hr hroom
       rw [y2c hgb] at this;exact this
     . cases h
   . split at h
     . exact absurd h hno
     . cases h
 . cases h
theorem zv0 {l:List SV} (h:opH P Γ lit fn J η nb o=.callH f l rd) {res:SV} (hc:xbh Γ P f η l η' res) :
 yao Γ P o J η (appL (yoh o res) J) η'/\(∀ heff,η'=appL heff η->x6g Γ P o J η rd (List.range η.length) (yoh o res) heff):=by
 obtain ⟨x,xs,ts,ho⟩:=zqt h (.inr (.inr ⟨_,_,_,rfl⟩));rw [xr8 ho] at h
 have ho':o.op=.call { callee:=.value x,args:=xs.toList.toArray,argTypes:=ts }:=by rw [ho]
 have hG:∀{f':FuncId} {caps:List SV} {rd' rh':List Nat},z8h Γ J η x=some (f',caps,rd',rh')->wz2.callG Γ (ys6 lit fn) J η o xs.toList f' caps rd' rh'=.callH f l rd->yao Γ P o J η (appL (yoh o res) J) η'/\(∀ heff,η'=appL heff η->x6g Γ P o J η rd (List.range η.length) (yoh o res) heff):=fun {f' caps rd' rh'} hcal hg=>by
  unfold wz2.callG at hg;split at hg
  . cases hg
  . split at hg
    . rename_i hnt
      cases hg;exact ⟨wtx ho' hcal hnt hc,fun heff e=>by subst e;exact wkv ho' hcal hnt hc⟩
    . cases hg
 unfold wz2 at h;split at h
 . split at h
   . split at h
     . unfold vO at h;repeat' split at h
       all_goals cases h
     . cases h
   . exact hG rfl h
 . rename_i t;split at h
   . split at h<;>cases h
   . split at h
     . rename_i f' caps rd' rh' hcal;exact hG hcal h
     . cases h
 . cases h
theorem yye {caps : List AV} (h : opH P Γ lit fn J η nb o = .mk f caps rd bs) {F : List AV → AV → Prop} (wdy : ybv P f) (hF : ∀ args res, F args res → CallsD Γ P f (args ++ caps) res) :
 x6g Γ P o J η rd bs (yoh o (.one (.dat (.fnp (v0k Γ P F))))) (frzE η bs):=by
 by_cases hm:∃ g cs,o.op=.makeFunc (.func g) #[] cs
 . obtain ⟨g,cs,ho⟩:=hm;unfold opH at h;rw [ho] at h;dsimp only at h;split at h
   . split at h
     . rename_i l' bs' d ha hd
       cases h
       have:=w4i (η:=η) (J:=J) (o:=o) (xs:=cs.toList) (by rw [ho]) hd ha wdy hF
       unfold yoh;rw [hd];exact this
     . cases h
   . split at h
     . exfalso
       have:=xxd (o:=o) (rd:=orrL cs.toList) (rh:=[]) (x:=.one (.fnr nb)) (heff:=[]) (b:=.clo g (vnq Γ J cs.toList))
       rw [h] at this;exact this
     . cases h
 . exfalso;by_cases hl:∃ T x y ok,o.op=.lookup T x y ok
   . obtain ⟨T,x,y,ok,ho⟩:=hl;unfold opH at h;rw [ho] at h;dsimp only at h;obtain ⟨_,_,_,_,_,_,_,_,_,_,_,_,_,_,_,_,_,e⟩:=yjx ho h (by simp)
     cases e
   . by_cases hc:∃ x xs ts,o.op=.call { callee:=.value x,args:=xs,argTypes:=ts }
     . obtain ⟨x,xs,ts,ho⟩:=hc;rw [xr8 ho] at h;unfold wz2 wz2.callG vO at h
       repeat' split at h
       all_goals cases h
     . by_cases hmf:∃ f fs cs,o.op=.makeFunc f fs cs
       . obtain ⟨g,fs,cs,ho⟩:=hmf;unfold opH at h;rw [ho] at h
         cases g with
         | func g=>
          dsimp only at h;split at h
          . rename_i hfs;exact hm ⟨g,cs,by rw [ho,show fs=#[] by rw [<-Array.toArray_toList (xs:=fs),hfs]]⟩
          . cases h
         | _=>
          dsimp only at h;unfold opP at h;rw [ho] at h
          cases h
       . have:=zr2 (P:=P) (Γ:=Γ) (lit:=lit) (fn:=fn) (J:=J) (η:=η) (nb:=nb) (o:=o) (fun T x y ok e=>hl ⟨T,x,y,ok,e⟩) (fun f fs cs e=>hmf ⟨f,fs,cs,e⟩) (fun x xs ts e=>hc ⟨x,xs,ts,e⟩)
         rw [h] at this;exact this
theorem vb6 {r:Option SV} {zero:SV} {ok:Bool} (h:opH P Γ lit fn J η nb o=.look r zero ok rd rh):x6g Γ P o J η rd rh (yoh o (wnl ok r zero)) []\/o.dst=none:=by
 by_cases hl:∃ T x y ok,o.op=.lookup T x y ok
 . obtain ⟨T,x,y,ok',ho⟩:=hl;unfold opH at h;rw [ho] at h;dsimp only at h;obtain ⟨ti,kt,et,tk,b,es,k,r',z',hti,hs,htk,hm,hk,hko,hf,hz,e⟩:=yjx ho h (by simp)
   cases e
   cases hd:o.dst with
   | none=>exact .inr rfl
   | some d=>
    left
    have:=ymw (η:=η) (J:=J) ho hd hti hs htk hm hk hko hf hz
    unfold yoh vf6;rw [hd];exact this
 . exfalso;by_cases hc:∃ x xs ts,o.op=.call { callee:=.value x,args:=xs,argTypes:=ts }
   . obtain ⟨x,xs,ts,ho⟩:=hc;rw [xr8 ho] at h;unfold wz2 wz2.callG vO at h
     repeat' split at h
     all_goals cases h
   . by_cases hmf:∃ f fs cs,o.op=.makeFunc f fs cs
     . obtain ⟨g,fs,cs,ho⟩:=hmf;unfold opH at h;rw [ho] at h
       cases g with
       | func g=>
        dsimp only at h;unfold nO at h
        repeat' split at h
        all_goals cases h
       | _=>
        dsimp only at h;unfold opP at h;rw [ho] at h
        cases h
     . have:=zr2 (P:=P) (Γ:=Γ) (lit:=lit) (fn:=fn) (J:=J) (η:=η) (nb:=nb) (o:=o) (fun T x y ok e=>hl ⟨T,x,y,ok,e⟩) (fun f fs cs e=>hmf ⟨f,fs,cs,e⟩) (fun x xs ts e=>hc ⟨x,xs,ts,e⟩)
       rw [h] at this;exact this
end Go.Hp
