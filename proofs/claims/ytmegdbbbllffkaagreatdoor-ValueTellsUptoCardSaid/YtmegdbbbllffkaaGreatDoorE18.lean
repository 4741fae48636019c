/- The proof, part E18: Hn, Ho. -/
import Derived.Test.YtmegdbbbllffkaaGreatDoorE17
namespace Go.Hp
open Go Go.RowKit Go.Slot
variable {P:Program} {Γ:List (Nat×List Cell)}
variable {J J':List SB} {l:List AV} {b nb es:Nat} {o:Oper} {I:List SV} {rd rh bs:List Nat} {heff:List (Nat×SB)} {x y:Operand} {t e:TypeId} {T:Option TypeId} {ik:Option IntKind} {c:Cell} {xs:Array Operand} {ob:Option SB} {lit fn:Bool} {f:FuncId} {res:AV}
theorem zxp {l:List SB} (h:b<J.length):gB (J++l) b=gB J b:=by
 unfold gB;rw [List.getElem?_append_left h]
theorem y8n (h:vfv (gB J b)=true):b<J.length:=by
 rcases Nat.lt_or_ge b J.length with h1 | h1
 . exact h1
 . unfold gB at h;rw [List.getElem?_eq_none h1] at h;cases h
theorem y8i:∀(heff:List (Nat×SB)) (J:List SB) (x:SB),(∀ p∈heff,p.1<J.length)->appL (heff++[(J.length,x)]) (J++[.fresh])=appL heff J++[x]
 | [],J,x,_=>by simp [appL]
 | (i,y)::r,J,x,h=>by
  have hi:i<J.length:=h (i,y) (by simp);simp only [List.cons_append,appL];rw [List.set_append_left _ _ hi]
  have:=y8i r (J.set i y) x (fun p hp=>by rw [List.length_set];exact h p (by simp [hp]))
  rw [List.length_set] at this;exact this
theorem zwm (J:List SB):xvh (J++[.fresh]) J.length=true:=by simp [xvh]
theorem wfn.new {eff:List (Nat×SV)} {x:SB} (h:yvu Γ P o I (J++[.fresh]) rd rh eff (heff++[(J.length,x)])) (hl:∀ p∈heff,p.1<J.length) :
 wfn Γ P o I J (appL eff I) (appL heff J++[x]):=by
 have:=h.px
 rw [y8i heff J x hl] at this;exact this
def Sound (Γ:List (Nat×List Cell)) (P:Program) (o:Oper) (I:List SV) (J:List SB) (nb:Nat) (rd rh:List Nat) (eff:List (Nat×SV)) (heff:List (Nat×SB)):Option SB->Prop
 | none=>yvu Γ P o I J rd rh eff heff
 | some x=>(xvh J nb=true->yvu Γ P o I J rd (nb::rh) eff (heff++[(nb,x)]))/\(nb=J.length->wfn Γ P o I J (appL eff I) (appL heff J++[x]))
def zo5 (Γ:List (Nat×List Cell)) (P:Program) (o:Oper) (I:List SV) (J:List SB) (nb:Nat):HO->Prop
 | .eff rd rh eff heff new=>Sound Γ P o I J nb rd rh eff heff new
 | _=>True
theorem vdb {k:TI->HO} (h:∀ ti,mkTI P t=some ti->zo5 Γ P o I J nb (k ti)):zo5 Γ P o I J nb (x40 P t k):=by
 unfold x40
 split
 . rename_i ti hti;exact h ti hti
 . trivial
theorem v1i {x:Option SV} (h:∀ v d,x=some v->o.dst=some d->yvu Γ P o I J (d::rd) rh [(d,v)] []):zo5 Γ P o I J nb (vO o rd rh x):=by
 unfold vO
 split
 . split
   . rename_i d hd;exact h _ d rfl hd
   . trivial
 . trivial
theorem wx8 {x:SV} {b:SB} (h:∀ d J',o.dst=some d->(J'=J\/J'=J++[.fresh])->xvh J' nb=true->yvu Γ P o I J' (d::rd) (nb::rh) [(d,x)] (heff++[(nb,b)]))
 (hl:∀ p∈heff,p.1<J.length):zo5 Γ P o I J nb (nO o rd rh x heff b):=by
 unfold nO
 split
 . rename_i d hd;refine ⟨fun hr=>h d J hd (.inl rfl) hr,fun e=>?_⟩;subst e;exact wfn.new (h d (J++[.fresh]) hd (.inr rfl) (zwm J)) hl
 . trivial
theorem w4r {α:Type} {l:List α} (h:isNil l=true):l=[]:=by cases l<;>first | rfl | cases h
theorem z6e:zo5 Γ P o I J nb (oldO P I nb o):=by
 unfold oldO
 split
 case h_2=>trivial
 rename_i d hd
 split
 case isFalse=>trivial
 rename_i hc;unfold oldR
 split
 case h_2=>trivial
 rename_i rd tk d' av heq
 split
 case isFalse=>trivial
 rename_i hcc;simp only [Bool.and_eq_true,beq_iff_eq] at hcc;obtain ⟨htk,rfl⟩:=hcc;have htk:=w4r htk;subst htk
 split
 case h_2=>trivial
 rename_i x ob h2;have hst:=(za3 heq).1
 cases ob with
 | none=>exact ytu hc.1 hd hst hc.2 h2 rfl
 | some b=>
  refine ⟨fun hr=>ytu hc.1 hd hst hc.2 h2 hr,fun e=>?_⟩;subst e
  have:=ytu (Γ:=Γ) (J:=J++[.fresh]) (nb:=J.length) hc.1 hd hst hc.2 h2 (show wmm (J++[.fresh]) J.length (some b)=true from zwm J)
  exact wfn.new (heff:=[]) this (by simp)
theorem wnt {T:TypeId} {d:Nat} (ho:o.op=.index T x y) (hdst:o.dst=some d) {ti:TI} (hti:mkTI P T=some ti) (hs:ti.sh=.string) {v:SV} (h:zrb (opdS Γ I x) (opdS Γ I y)=some v) :
 yvu Γ P o I J (d::(orr x++orr y)) [] [(d,v)] []:=by
 refine yvu.pure hdst (fun E ρ I' J' a w hag hah hI=>?_);have hx:=hI.opd x;have hy:=hI.opd y;rw [hag.opd (fun t ht=>by simp [ht])] at hx hy;obtain ⟨dd,i,z,hd,_,_,_,_,_,_,_,hsh⟩:=(vnz hti).ex;have hT:=zms (hsh.symm.trans hs);subst hT;unfold zrb at h;split at h
 . rename_i s k ix ex ey;split at h
   . rename_i hi
     cases h;rw [ex] at hx;rw [ey] at hy;have ex:a.eval x=.string s:=RdC.zb5 hx;have ey:a.eval y=.int k ix:=RdC.zb5 hy;refine ⟨_,?_,RdC.raw rfl⟩
     have hsz:ix.toNat<s.size:=by omega
     have hg:s[ix.toNat]? = some s[ix.toNat]:=by simp [hsz]
     have hb:x41 s ix.toNat=(s[ix.toNat]).toNat:=by
      unfold x41
      have:s.data[ix.toNat]? = some s[ix.toNat]:=by
       rw [Array.getElem?_eq_getElem (by simpa using hsz)];rfl
      rw [this];rfl
     rw [hb];simp [execOp,ho,Instr.index,asIntOf,ex,ey,voj hd,hi.1,hg]
   . cases h
 . cases h
theorem y4o {x:SV} {i:Int} (h:intS x=some i):∃ k,x=.one (.dat (.raw (.int k i))):=by
 unfold intS at h;split at h
 . cases h;exact ⟨_,rfl⟩
 . cases h
theorem vhc:zo5 Γ P o I J nb (opP P Γ I J nb o):=by
 unfold opP
 split
 . rename_i x ho;exact v1i (fun v d e hd=>by cases e;exact z4l (.inl ho) hd)
 . rename_i x ho;exact v1i (fun v d e hd=>by cases e;exact z4l (.inr ho) hd)
 . rename_i c x y ho
   split
   . rename_i v hv;exact v1i (fun v' d e hd=>by cases e;exact yjd ho hd hv)
   . exact z6e
 . rename_i T x ho;refine vdb (fun ti hti=>?_)
   split
   . rename_i rh hs hsee;exact v1i (fun v d e hd=>zls ho hd hti hsee e)
   . trivial
 . rename_i T x y ho
   split
   . rename_i hd;refine vdb (fun ti hti=>?_)
     split
     . rename_i us hu
       split
       . rename_i hl
         split
         . rename_i b z hst;exact vxy ho hd hti hu hl hst
         . trivial
       . trivial
     . trivial
   . trivial
 . rename_i S x f ho;refine vdb (fun ti hti=>?_)
   split
   . rename_i fs hs
     split
     . rename_i off sz ft hf;exact v1i (fun v d e hd=>z6f ho hd hti hs hf e)
     . trivial
   . trivial
 . rename_i T x y ho;refine vdb (fun ti hti=>?_)
   split
   . rename_i v hv;exact v1i (fun v' d e hd=>by cases e;exact zh2 ho hd hti hv)
   . exact z6e
 . rename_i x n ho;exact v1i (fun v d e hd=>zyi ho hd e)
 . rename_i x ho
   split
   . rename_i hp;exact v1i (fun v d e hd=>by cases e;exact v0d ho hd hp)
   . trivial
 . rename_i op T x y U ho
   split
   . exact v1i (fun v d e hd=>zza ho hd e)
   . split
     . rename_i t ht
       split
       . rename_i j hj;exact v1i (fun v d e hd=>xko ho hd (xl2 ht) hj e)
       . trivial
     . trivial
   . exact z6e
 . exact z6e
 . exact z6e
 . rename_i T x lo hi mx ho
   split
   . split
     . exact vdb (fun ti hti=>v1i (fun v d e hd=>ztf ho hd hti e))
     . trivial
   . exact z6e
 . rename_i T ps ho;refine vdb (fun ti hti=>?_)
   split
   . rename_i hc;refine v1i (fun v d e hd=>?_);obtain ⟨hs,hf,rfl⟩:=Option.map_eq_some_iff.1 e;exact w05 (parts:=ps.toList) (by rw [ho]) hd hti hc.1 hc.2 hf
   . trivial
 . rename_i T x f ho;refine vdb (fun ti hti=>?_)
   split
   . rename_i fs hs
     split
     . rename_i off sz ft hf;exact vdb (fun tf htf=>v1i (fun v d e hd=>ytg ho hd hti hs hf htf e))
     . trivial
   . trivial
 . rename_i T x y ho;refine vdb (fun ti hti=>?_)
   split
   . rename_i n e es hs;refine vdb (fun te hte=>?_)
     split
     . rename_i ix hix
       split
       . rename_i hc;obtain ⟨k,hk⟩:=y4o hix;exact v1i (fun v d e hd=>vog ho hd hti hs hte hk hc.1 hc.2 e)
       . trivial
     . trivial
   . rename_i hs;exact v1i (fun v d e hd=>wnt ho hd hti hs e)
   . trivial
 . rename_i T x y ok ho;refine vdb (fun ti hti=>?_)
   split
   . refine vdb (fun tk htk=>?_)
     split
     . split
       . unfold zm8
         split<;>trivial
       . trivial
     . trivial
   . trivial
 . rename_i T x y z ho
   split
   . rename_i hd;refine vdb (fun ti hti=>?_)
     split
     . rename_i kt et hs;refine vdb (fun tk htk=>?_)
       split
       . rename_i b es k hm hk
         split
         . rename_i hc
           split
           . rename_i es' hu;exact zhl (.inl ho) hd hti hs htk hm hk hc.1 hc.2 hu
           . trivial
         . trivial
       . trivial
     . trivial
   . trivial
 . trivial
theorem va9 (h:∀ b∈bs,vfv (gB J b)=true):∀ p∈frzE J bs,p.1<J.length:=fun p hp=>by
 obtain ⟨b,hb,rfl⟩:=List.mem_map.1 hp;exact y8n (h b hb)
theorem w7g {n:Nat} {zc : List Cell} {parts : List (Nat × Operand)} (h : litH Γ I J es ik zc n parts = some (c, bs)) : ∀ b ∈ bs, vfv (gB J b) = true := by
 unfold litH at h;split at h
 . split at h
   . split at h
     . rename_i cs bs' hd;obtain ⟨c',_,he⟩:=Option.map_eq_some_iff.1 h
       cases he;exact x5z hd
     . cases h
   . cases h
 . cases h
theorem yw4 (h:xs.toList=[x]):xs=#[x]:=by rw [<-Array.toArray_toList (xs:=xs),h]
theorem z1f (h:xs.toList=[x,y]):xs=#[x,y]:=by rw [<-Array.toArray_toList (xs:=xs),h]
theorem ww6 {x:TypeId} {xs:Array TypeId} (h:xs.toList=[x]):xs=#[x]:=by rw [<-Array.toArray_toList (xs:=xs),h]
theorem zrd {x y:TypeId} {xs:Array TypeId} (h:xs.toList=[x,y]):xs=#[x,y]:=by rw [<-Array.toArray_toList (xs:=xs),h]
theorem xum {x:SV} {k:Nat} (h:dstH J e es ik x=some (some b,c,k,T)):vfv (gB J b)=true:=by
 unfold dstH at h;split at h
 . split at h
   . rename_i hb;split at h
     . cases h;rw [hb];rfl
     . cases h
   . cases h
 . split at h<;>cases h
 . cases h
theorem yfq {x : SV} {ob : Option Nat} {k : Nat} (h : dstH J e es ik x = some (ob, c, k, T)) (ha : ∀ b, ob = some b → gB J' b = gB J b) : dstH J' e es ik x = some (ob, c, k, T) := by
 unfold dstH at h ⊢;split at h
 . rename_i b es' n
   have e1:gB J' b=gB J b:=by
    split at h
    . split at h
      . cases h;exact ha b rfl
      . cases h
    . cases h
   simp only [e1];exact h
 . exact h
 . cases h
theorem v8w {x:SV} (h:srcH J x=some (c,bs)) (ha:∀ b∈bs,gB J' b=gB J b):srcH J' x=some (c,bs):=by
 unfold srcH at h ⊢;split at h
 . exact zci h ha
 . cases h
theorem v41 {x:SV} (h:srcH J x=some (c,bs)):∀ b∈bs,vfv (gB J b)=true:=by
 unfold srcH at h;split at h
 . exact xee h
 . cases h
theorem vzb (he:J'=J\/J'=J++[.fresh]) (hb:vfv (gB J b)=true):gB J' b=gB J b:=by
 rcases he with rfl | rfl
 . rfl
 . exact zxp (y8n hb)
theorem yku:zo5 Γ P o I J nb (opH P Γ lit fn I J nb o):=by
 unfold opH
 split
 . rename_i T ho;exact vdb (fun ti hti=>wx8 (fun d J' hd _ hr=>vvs ho hd hti hr) (by simp))
 . rename_i T x ho
   split
   . rename_i hs hcs;exact wx8 (fun d J' hd _ hr=>ww1 ho hd hcs hr) (by simp)
   . trivial
 . rename_i T n ps ho
   split
   . exact z6e
   . rename_i n;refine vdb (fun ti hti=>?_)
     split
     . rename_i e es eb ik hsh;refine vdb (fun te hte=>?_)
       split
       . rename_i c bs hl;have harr:=w7g hl
         split
         . split
           . rename_i d hd;exact xoo (parts:=ps.toList) (by rw [ho]) hd hti hsh hte hl
           . trivial
         . refine wx8 (fun d J' hd he hr=>?_) (va9 harr)
           have hg:∀ b∈bs,gB J' b=gB J b:=fun b hb=>vzb he (harr b hb)
           have:=yt9 (parts:=ps.toList) (nb:=nb) (by rw [ho]) hd hti hsh hte (z0j (I':=I) rfl hl hg) hr
           rw [xei hg] at this;exact this
       . trivial
     . trivial
 . rename_i T ho;exact wx8 (fun d J' hd _ hr=>v8e ho hd hr) (by simp)
 . rename_i f fs cs ho
   split
   . rename_i hfs
     have hfs':fs=#[]:=by rw [<-Array.toArray_toList (xs:=fs),hfs]
     subst hfs'
     split
     . split<;>trivial
     . split
       . rename_i hnt;exact wx8 (fun d J' hd _ hr=>wg7 (xs:=cs.toList) (by rw [ho]) hd hnt hr) (by simp)
       . trivial
   . trivial
 . rename_i S D x ho;unfold zm7
   split
   . rename_i e hS hD
     split
     . rename_i he
       split
       . rename_i l bs hb
         split
         . rename_i d hd;exact wea ho hd hS he hD hb
         . trivial
       . trivial
     . trivial
   . rename_i t hS hD
     split
     . rename_i j b off T n hj hb
       split
       . rename_i hsz;exact v1i (fun v d e hd=>by cases e;exact xnl ho hd hS hD hj (by simpa using hsz) hb)
       . trivial
     . trivial
   . rename_i u hS hD
     split
     . rename_i j b off T n hj hb
       split
       . rename_i hl;exact v1i (fun v d e hd=>by cases e;exact y52 ho hd hS hD hj hl hb)
       . trivial
     . trivial
   . exact z6e
 . rename_i c ho;obtain ⟨ce,args,ats⟩:=c;dsimp only
   split
   . rename_i x;unfold zbg
     have hG:∀ f caps rd rh,zo5 Γ P o I J nb (zbg.callG Γ I J o args.toList f caps rd rh):=fun f caps rd rh=>by
      unfold zbg.callG
      split
      . trivial
      . split<;>trivial
     split
     . rename_i f
       split
       . rename_i hne
         split
         . rename_i y hy
           have:=yw4 hy
           subst this;exact v1i (fun v d e hd=>by cases e;exact vxb ho hd hne)
         . trivial
       . exact hG _ _ _ _
     . split
       . split<;>trivial
       . split
         . exact hG _ _ _ _
         . trivial
     . trivial
   . rename_i b
     split
     . split
       . rename_i x T hx hT;have h1:=yw4 hx;have h2:=ww6 hT;subst h1;subst h2
         split
         . refine vdb (fun ti hti=>?_)
           split
           . rename_i rh n hl;exact v1i (fun v d e hd=>by cases e;exact yg4 ho hd hti hl)
           . trivial
         . exact z6e
       . trivial
     . split
       . rename_i x y T U hx hT;have h1:=z1f hx;have h2:=zrd hT;subst h1;subst h2
         split
         . rename_i hTU;subst hTU;refine vdb (fun ti hti=>?_)
           split
           . rename_i e es eb ik hsh;unfold opH.appO
             split
             . rename_i ob cc k TT cy bs hD hS
               split
               . rename_i c' hj
                 split
                 . rename_i hob;have harr:=v41 hS
                   have harrD:∀ b,ob=some b->vfv (gB J b)=true:=fun b e1=>by subst e1;exact xum hD
                   refine wx8 (fun d J' hd he hr=>?_) (fun p hp=>?_)
                   . have hg:∀ b∈bs,gB J' b=gB J b:=fun b hb=>vzb he (harr b hb)
                     have hA:yhf J' nb e es eb ik (opdS Γ I x) (opdS Γ I y)=some (ob.toList++bs,frzE J' bs++(ykn ob++[(nb,.arr c' k (appT TT e))]),.one (.sl nb es 0 c'.cnt)):=by
                      unfold yhf;rw [yfq hD (fun b e1=>vzb he (harrD b e1)),v8w hS hg];simp only [hj,hob,if_true]
                     have:=yaw ho hd hti hsh hA hr
                     rw [xei hg,<-List.append_assoc] at this;exact this
                   . rcases List.mem_append.1 hp with hp | hp
                     . exact va9 harr p hp
                     . cases ob with
                       | none=>cases hp
                       | some b=>
                        simp only [ykn,List.mem_singleton] at hp;subst hp;exact y8n (harrD b rfl)
                 . trivial
               . trivial
             . trivial
           . trivial
         . trivial
       . trivial
     . split
       . rename_i x hx;have h1:=yw4 hx;subst h1;exact v1i (fun v d e hd=>xbw ho hd e)
       . trivial
     . split
       . rename_i x y pt it d hx hT hd;have h1:=z1f hx;have h2:=zrd hT;subst h1;subst h2
         split
         . rename_i b l hu;exact s_us ho hd hu
         . trivial
       . trivial
     . exact z6e
     . exact z6e
     . trivial
   . trivial
 . exact vhc
def HO.flat:HO->Prop
 | .eff _ _ _ _ _=>True
 | .bad=>True
 | _=>False
variable {k:TI->HO} {r:HO}
theorem w8v (h:∀ ti,(k ti).flat):(x40 P t k).flat:=by
 unfold x40
 split
 . exact h _
 . trivial
theorem wru {x:Option SV}:(vO o rd rh x).flat:=by
 unfold vO
 repeat' split
 all_goals trivial
theorem zic {x:SV} {b:SB}:(nO o rd rh x heff b).flat:=by
 unfold nO
 split<;>trivial
theorem xoc:(oldO P I nb o).flat:=by
 unfold oldO oldR
 repeat' split
 all_goals trivial
theorem xj6 {S D:TypeId}:(zm7 P Γ I J nb o S D x).flat:=by
 unfold zm7
 repeat' split
 all_goals first | trivial | exact wru | exact xoc
theorem yu0 {x y:SV} {eb:Nat}:(opH.appO J nb o x y rd e es eb ik).flat:=by
 unfold opH.appO
 repeat' split
 all_goals first | trivial | exact zic
theorem y8r (hr:r≠.bad) (h:x40 P t k=r):∃ ti,mkTI P t=some ti/\k ti=r:=by
 unfold x40 at h;split at h
 . rename_i ti hti;exact ⟨ti,hti,h⟩
 . exact absurd h.symm hr
theorem w5r {T:TypeId} {ok:Bool} (ho:o.op=.lookup T x y ok) (h:opP P Γ I J nb o=r) (hr:r≠.bad) :
 ∃ ti kt et tk b es k r0 z,mkTI P T=some ti/\ti.sh=.map kt et/\mkTI P kt=some tk/\xkx J (opdS Γ I x)=some (b,es)/\keyV (opdS Γ I y)=some k/\z7b tk.sh k=true/\zgw es k=some r0/\w2m P et=some z/\r=.look r0 z ok (v9o o++(orr x++orr y)) [b]:=by
 unfold opP at h;rw [ho] at h;dsimp only at h;obtain ⟨ti,hti,h⟩:=y8r hr h;split at h
 case h_2=>exact absurd h.symm hr
 rename_i kt et hs;obtain ⟨tk,htk,h⟩:=y8r hr h;split at h
 case h_2=>exact absurd h.symm hr
 rename_i b es k hm hk;split at h
 case isFalse=>exact absurd h.symm hr
 rename_i hko;unfold zm8 at h;split at h
 case h_2=>exact absurd h.symm hr
 rename_i r' z' hf hz;exact ⟨ti,kt,et,tk,b,es,k,r',z',hti,hs,htk,hm,hk,hko,hf,hz,h.symm⟩
theorem wx5 (h:∀ T x y ok,o.op≠.lookup T x y ok):(opP P Γ I J nb o).flat:=by
 unfold opP
 split
 all_goals first
  | trivial
  | exact wru
  | exact xoc
  | (rename_i heq;exact absurd heq (h _ _ _ _))
  | skip
 all_goals
  repeat' first
   | trivial
   | exact wru
   | exact xoc
   | refine w8v (fun ti=>?_)
   | split
theorem zm2 (h1:∀ T x y ok,o.op≠.lookup T x y ok) (h2:∀ f fs cs,o.op≠.makeFunc f fs cs) (h3:∀ x xs ts,o.op≠.call { callee:=.value x,args:=xs,argTypes:=ts }):(opH P Γ lit fn I J nb o).flat:=by
 unfold opH
 split
 . exact w8v (fun _=>zic)
 . split
   . exact zic
   . trivial
 . split
   . exact xoc
   . refine w8v (fun ti=>?_)
     split
     . refine w8v (fun te=>?_)
       repeat' split
       all_goals first | trivial | exact zic
     . trivial
 . exact zic
 . rename_i heq;exact absurd heq (h2 _ _ _)
 . exact xj6
 . rename_i c ho;obtain ⟨ce,args,ats⟩:=c;dsimp only
   split
   . exact absurd ho (h3 _ _ _)
   . split
     . split
       . split
         . refine w8v (fun ti=>?_)
           split
           . exact wru
           . trivial
         . exact xoc
       . trivial
     . split
       . split
         . refine w8v (fun ti=>?_)
           split
           . exact yu0
           . trivial
         . trivial
       . trivial
     . split
       . exact wru
       . trivial
     . repeat' split
       all_goals trivial
     . exact xoc
     . exact xoc
     . trivial
   . trivial
 . exact wx5 h1
theorem x5a {ts:Array TypeId} (ho:o.op=.call { callee:=.value x,args:=xs,argTypes:=ts }):opH P Γ lit fn I J nb o=zbg P Γ I J o x xs.toList:=by
 unfold opH;rw [ho]
theorem vz0 (h:opH P Γ lit fn I J nb o=r) (hr:(∃ f l rd rh bs,r=.callD f l rd rh bs)\/(∃ p l rd bs,r=.callF p l rd bs)\/(∃ f l rd,r=.callH f l rd)) :
 ∃ x xs ts,o.op=.call { callee:=.value x,args:=xs,argTypes:=ts }:=by
 apply Classical.byContradiction;intro hn
 have h3:∀ x xs ts,o.op≠.call { callee:=.value x,args:=xs,argTypes:=ts }:=fun x xs ts e=>hn ⟨x,xs,ts,e⟩
 by_cases h1:∀ T x y ok,o.op≠.lookup T x y ok
 . by_cases h2:∀ f fs cs,o.op≠.makeFunc f fs cs
   . have:=zm2 (P:=P) (Γ:=Γ) (lit:=lit) (fn:=fn) (I:=I) (J:=J) (nb:=nb) h1 h2 h3
     rw [h] at this
     rcases hr with ⟨_,_,_,_,_,rfl⟩ | ⟨_,_,_,_,rfl⟩ | ⟨_,_,_,rfl⟩<;>exact this
   . obtain ⟨f,hf⟩:=Classical.not_forall.1 h2;obtain ⟨fs,hf⟩:=Classical.not_forall.1 hf;obtain ⟨cs,hf⟩:=Classical.not_forall.1 hf;have ho:=Classical.not_not.1 hf
     have hno:∀ r,((∃ f l rd rh bs,r=HO.callD f l rd rh bs)\/(∃ p l rd bs,r=HO.callF p l rd bs)\/(∃ f l rd,r=HO.callH f l rd))->opH P Γ lit fn I J nb o≠r:=fun r hr e=>by
      unfold opH at e;rw [ho] at e
      cases f with
      | func f=>
       dsimp only at e;split at e
       . split at e
         . split at e
           . subst e;rcases hr with ⟨_,_,_,_,_,e⟩ | ⟨_,_,_,_,e⟩ | ⟨_,_,_,e⟩<;>cases e
           . subst e;rcases hr with ⟨_,_,_,_,_,e⟩ | ⟨_,_,_,_,e⟩ | ⟨_,_,_,e⟩<;>cases e
         . split at e
           . have:=zic (o:=o) (rd:=orrL cs.toList) (rh:=[]) (x:=.one (.fnr nb)) (heff:=[]) (b:=.clo f (wb2 Γ I cs.toList))
             rw [e] at this
             rcases hr with ⟨_,_,_,_,_,rfl⟩ | ⟨_,_,_,_,rfl⟩ | ⟨_,_,_,rfl⟩<;>exact this
           . subst e;rcases hr with ⟨_,_,_,_,_,e⟩ | ⟨_,_,_,_,e⟩ | ⟨_,_,_,e⟩<;>cases e
       . subst e;rcases hr with ⟨_,_,_,_,_,e⟩ | ⟨_,_,_,_,e⟩ | ⟨_,_,_,e⟩<;>cases e
      | _=>
       dsimp only at e;unfold opP at e;rw [ho] at e;dsimp only at e;subst e
       rcases hr with ⟨_,_,_,_,_,e⟩ | ⟨_,_,_,_,e⟩ | ⟨_,_,_,e⟩<;>cases e
     exact hno r hr h
 . obtain ⟨T,hf⟩:=Classical.not_forall.1 h1;obtain ⟨x,hf⟩:=Classical.not_forall.1 hf;obtain ⟨y,hf⟩:=Classical.not_forall.1 hf;obtain ⟨ok,hf⟩:=Classical.not_forall.1 hf;have ho:=Classical.not_not.1 hf;unfold opH at h;rw [ho] at h;dsimp only at h
   have hnb:r≠.bad:=fun e=>by
    subst e;rcases hr with ⟨_,_,_,_,_,e⟩ | ⟨_,_,_,_,e⟩ | ⟨_,_,_,e⟩<;>cases e
   obtain ⟨_,_,_,_,_,_,_,_,_,_,_,_,_,_,_,_,_,rfl⟩:=w5r ho h hnb
   rcases hr with ⟨_,_,_,_,_,e⟩ | ⟨_,_,_,_,e⟩ | ⟨_,_,_,e⟩<;>cases e
theorem xoy {eff:List (Nat×SV)} (hl:∀ p∈heff,p.1<J.length)
 (h:∀ J',(J'=J\/J'=J++[.fresh])->wmm J' nb ob=true->yvu Γ P o I J' rd (oN nb ob++rh) eff (heff++oB nb ob)):Sound Γ P o I J nb rd rh eff heff ob:=by
 cases ob with
 | none=>
  have:=h J (.inl rfl) rfl
  simp only [oN,oB,List.nil_append,List.append_nil] at this;exact this
 | some b=>
  refine ⟨fun hr=>h J (.inl rfl) hr,fun e=>?_⟩;subst e;exact wfn.new (h (J++[.fresh]) (.inr rfl) (show wmm (J++[.fresh]) J.length (some b)=true from zwm J)) hl
theorem y02 {caps : List SV} (h : wq8 Γ I J x = some (f, caps, rd, rh)) : ∀ b ∈ rh, b < J.length := by
 unfold wq8 at h;split at h
 . cases h;intro b hb;cases hb
 . split at h
   . obtain ⟨f0,_,e⟩:=Option.map_eq_some_iff.1 h;cases e;intro b hb;cases hb
   . split at h
     . rename_i hgb
       cases h;intro b hb;simp only [List.mem_singleton] at hb;subst hb;exact (List.getElem?_eq_some_iff.1 (vil hgb (by simp))).1
     . cases h
   . cases h
 . cases h
theorem yr2 (h:opH P Γ lit fn I J nb o=.callD f l rd rh bs) (hc:CallsD Γ P f l res) {y:SV} (hr:resS nb res=some (y,ob)) :
 Sound Γ P o I J nb rd (rh++bs) (ylm o y) (frzE J bs) ob:=by
 obtain ⟨x,xs,ts,ho⟩:=vz0 h (.inl ⟨_,_,_,_,_,rfl⟩);rw [x5a ho] at h
 have ho':o.op=.call { callee:=.value x,args:=xs.toList.toArray,argTypes:=ts }:=by rw [ho]
 have hG:∀{f':FuncId} {caps:List SV} {rd' rh':List Nat},wq8 Γ I J x=some (f',caps,rd',rh')->(∀ b∈rh',b<J.length)->zbg.callG Γ I J o xs.toList f' caps rd' rh'=.callD f l rd rh bs->Sound Γ P o I J nb rd (rh++bs) (ylm o y) (frzE J bs) ob:=fun {f' caps rd' rh'} hcal hlt hg=>by
  unfold zbg.callG at hg;split at hg
  . rename_i l' bs' ha
    cases hg;have harr:=vw0 ha;refine xoy (va9 harr) (fun J' he hroom=>?_)
    have hgb:∀ b∈bs,gB J' b=gB J b:=fun b hb=>vzb he (harr b hb)
    have hcal':=wro (I':=I) (J':=J') hcal (fun _ _=>rfl) (fun b hb=>by
     rcases he with rfl | rfl
     . rfl
     . exact zxp (hlt b hb))
    have:=w00 (J:=J') ho' hcal' (xkj ha hgb) hc hr hroom
    rw [xei hgb,List.append_assoc (oN nb ob)] at this;exact this
  . split at hg<;>cases hg
 unfold zbg at h;split at h
 . split at h
   . split at h
     . unfold vO at h;repeat' split at h
       all_goals cases h
     . cases h
   . exact hG rfl (by simp) h
 . rename_i t;split at h
   . split at h<;>cases h
   . split at h
     . rename_i f' caps rd' rh' hcal;exact hG hcal (y02 hcal) h
     . cases h
 . cases h
theorem xbd {F:List AV->AV->Prop} (h:opH P Γ lit fn I J nb o=.callF (wrb Γ P F) l rd bs) (hc:F l res) {y:SV} (hr:resS nb res=some (y,ob)) :
 Sound Γ P o I J nb rd bs (ylm o y) (frzE J bs) ob:=by
 obtain ⟨x,xs,ts,ho⟩:=vz0 h (.inr (.inl ⟨_,_,_,_,rfl⟩));rw [x5a ho] at h
 have ho':o.op=.call { callee:=.value x,args:=xs.toList.toArray,argTypes:=ts }:=by rw [ho]
 have hno:∀{f':FuncId} {caps:List SV} {rd' rh':List Nat},zbg.callG Γ I J o xs.toList f' caps rd' rh'≠.callF (wrb Γ P F) l rd bs:=fun {f' caps rd' rh'} hg=>by
  unfold zbg.callG at hg;split at hg
  . cases hg
  . split at hg<;>cases hg
 unfold zbg at h;split at h
 . split at h
   . split at h
     . unfold vO at h;repeat' split at h
       all_goals cases h
     . cases h
   . exact absurd h hno
 . rename_i t;split at h
   . rename_i p ht;split at h
     . rename_i l' bs' ha
       cases h;have harr:=vw0 ha;refine xoy (va9 harr) (fun J' he hroom=>?_)
       have hgb:∀ b∈bs,gB J' b=gB J b:=fun b hb=>vzb he (harr b hb)
       have:=xj2 (J:=J') ho' ht (xkj ha hgb) hc hr hroom
       rw [xei hgb] at this;exact this
     . cases h
   . split at h
     . exact absurd h hno
     . cases h
 . cases h
theorem xod {l:List SV} (h:opH P Γ lit fn I J nb o=.callH f l rd) {res:SV} (hc:vfe Γ P f J l J' res) :
 wfn Γ P o I J (appL (ylm o res) I) J'/\(∀ heff,J'=appL heff J->yvu Γ P o I J rd (List.range J.length) (ylm o res) heff):=by
 obtain ⟨x,xs,ts,ho⟩:=vz0 h (.inr (.inr ⟨_,_,_,rfl⟩));rw [x5a ho] at h
 have ho':o.op=.call { callee:=.value x,args:=xs.toList.toArray,argTypes:=ts }:=by rw [ho]
 have hG:∀{f':FuncId} {caps:List SV} {rd' rh':List Nat},wq8 Γ I J x=some (f',caps,rd',rh')->zbg.callG Γ I J o xs.toList f' caps rd' rh'=.callH f l rd->wfn Γ P o I J (appL (ylm o res) I) J'/\(∀ heff,J'=appL heff J->yvu Γ P o I J rd (List.range J.length) (ylm o res) heff):=fun {f' caps rd' rh'} hcal hg=>by
  unfold zbg.callG at hg;split at hg
  . cases hg
  . split at hg
    . rename_i hnt
      cases hg;exact ⟨wtf ho' hcal hnt hc,fun heff e=>by subst e;exact w4n ho' hcal hnt hc⟩
    . cases hg
 unfold zbg at h;split at h
 . split at h
   . split at h
     . unfold vO at h;repeat' split at h
       all_goals cases h
     . cases h
   . exact hG rfl h
 . rename_i t;split at h
   . split at h<;>cases h
   . split at h
     . rename_i f' caps rd' rh' hcal;exact hG hcal h
     . cases h
 . cases h
theorem ya0 {caps : List AV} (h : opH P Γ lit fn I J nb o = .mk f caps rd bs) {F : List AV → AV → Prop} (v6l : wuj P f) (hF : ∀ args res, F args res → CallsD Γ P f (args ++ caps) res) :
 yvu Γ P o I J rd bs (ylm o (.one (.dat (.fnp (wrb Γ P F))))) (frzE J bs):=by
 by_cases hm:∃ g cs,o.op=.makeFunc (.func g) #[] cs
 . obtain ⟨g,cs,ho⟩:=hm;unfold opH at h;rw [ho] at h;dsimp only at h;split at h
   . split at h
     . rename_i l' bs' d ha hd
       cases h
       have:=vse (J:=J) (I:=I) (o:=o) (xs:=cs.toList) (by rw [ho]) hd ha v6l hF
       unfold ylm;rw [hd];exact this
     . cases h
   . split at h
     . exfalso
       have:=zic (o:=o) (rd:=orrL cs.toList) (rh:=[]) (x:=.one (.fnr nb)) (heff:=[]) (b:=.clo g (wb2 Γ I cs.toList))
       rw [h] at this;exact this
     . cases h
 . exfalso;by_cases hl:∃ T x y ok,o.op=.lookup T x y ok
   . obtain ⟨T,x,y,ok,ho⟩:=hl;unfold opH at h;rw [ho] at h;dsimp only at h;obtain ⟨_,_,_,_,_,_,_,_,_,_,_,_,_,_,_,_,_,e⟩:=w5r ho h (by simp)
     cases e
   . by_cases hc:∃ x xs ts,o.op=.call { callee:=.value x,args:=xs,argTypes:=ts }
     . obtain ⟨x,xs,ts,ho⟩:=hc;rw [x5a ho] at h;unfold zbg zbg.callG vO at h
       repeat' split at h
       all_goals cases h
     . by_cases hmf:∃ f fs cs,o.op=.makeFunc f fs cs
       . obtain ⟨g,fs,cs,ho⟩:=hmf;unfold opH at h;rw [ho] at h
         cases g with
         | func g=>
          dsimp only at h;split at h
          . rename_i hfs;exact hm ⟨g,cs,by rw [ho,show fs=#[] by rw [<-Array.toArray_toList (xs:=fs),hfs]]⟩
          . cases h
         | _=>
          dsimp only at h;unfold opP at h;rw [ho] at h
          cases h
       . have:=zm2 (P:=P) (Γ:=Γ) (lit:=lit) (fn:=fn) (I:=I) (J:=J) (nb:=nb) (o:=o) (fun T x y ok e=>hl ⟨T,x,y,ok,e⟩) (fun f fs cs e=>hmf ⟨f,fs,cs,e⟩) (fun x xs ts e=>hc ⟨x,xs,ts,e⟩)
         rw [h] at this;exact this
theorem vin {r:Option SV} {zero:SV} {ok:Bool} (h:opH P Γ lit fn I J nb o=.look r zero ok rd rh):yvu Γ P o I J rd rh (ylm o (woh ok r zero)) []\/o.dst=none:=by
 by_cases hl:∃ T x y ok,o.op=.lookup T x y ok
 . obtain ⟨T,x,y,ok',ho⟩:=hl;unfold opH at h;rw [ho] at h;dsimp only at h;obtain ⟨ti,kt,et,tk,b,es,k,r',z',hti,hs,htk,hm,hk,hko,hf,hz,e⟩:=w5r ho h (by simp)
   cases e
   cases hd:o.dst with
   | none=>exact .inr rfl
   | some d=>
    left
    have:=wi0 (J:=J) (I:=I) ho hd hti hs htk hm hk hko hf hz
    unfold ylm v9o;rw [hd];exact this
 . exfalso;by_cases hc:∃ x xs ts,o.op=.call { callee:=.value x,args:=xs,argTypes:=ts }
   . obtain ⟨x,xs,ts,ho⟩:=hc;rw [x5a ho] at h;unfold zbg zbg.callG vO at h
     repeat' split at h
     all_goals cases h
   . by_cases hmf:∃ f fs cs,o.op=.makeFunc f fs cs
     . obtain ⟨g,fs,cs,ho⟩:=hmf;unfold opH at h;rw [ho] at h
       cases g with
       | func g=>
        dsimp only at h;unfold nO at h
        repeat' split at h
        all_goals cases h
       | _=>
        dsimp only at h;unfold opP at h;rw [ho] at h
        cases h
     . have:=zm2 (P:=P) (Γ:=Γ) (lit:=lit) (fn:=fn) (I:=I) (J:=J) (nb:=nb) (o:=o) (fun T x y ok e=>hl ⟨T,x,y,ok,e⟩) (fun f fs cs e=>hmf ⟨f,fs,cs,e⟩) (fun x xs ts e=>hc ⟨x,xs,ts,e⟩)
       rw [h] at this;exact this
end Go.Hp
