/- The proof, part B13: Hn, Ho. -/
import Derived.Test.YtglblfkobflpmaaGreatB12
namespace Go.Hp
open Go Go.RowKit Go.Slot
variable {P:Program} {Γ:List (Nat×List Cell)}
theorem v6d {J l:List SB} {b:Nat} (h:b<J.length):gB (J++l) b=gB J b:=by
 unfold gB;rw [List.getElem?_append_left h]
theorem xei {J:List SB} {b:Nat} (h:y10 (gB J b)=true):b<J.length:=by
 rcases Nat.lt_or_ge b J.length with h1 | h1
 . exact h1
 . unfold gB at h;rw [List.getElem?_eq_none h1] at h;cases h
theorem zj7:∀(heff:List (Nat×SB)) (J:List SB) (x:SB),(∀ p∈heff,p.1<J.length)->appL (heff++[(J.length,x)]) (J++[.fresh])=appL heff J++[x]
 | [],J,x,_=>by simp [appL]
 | (i,y)::r,J,x,h=>by
  have hi:i<J.length:=h (i,y) (by simp);simp only [List.cons_append,appL];rw [List.set_append_left _ _ hi]
  have:=zj7 r (J.set i y) x (fun p hp=>by rw [List.length_set];exact h p (by simp [hp]))
  rw [List.length_set] at this;exact this
theorem xnc (J:List SB):y4f (J++[.fresh]) J.length=true:=by simp [y4f]
theorem vjm.new {o:Oper} {I:List SV} {J:List SB} {rd rh:List Nat} {eff:List (Nat×SV)} {heff:List (Nat×SB)} {x:SB} (h:vbd Γ P o I (J++[.fresh]) rd rh eff (heff++[(J.length,x)])) (hl:∀ p∈heff,p.1<J.length) :
 vjm Γ P o I J (appL eff I) (appL heff J++[x]):=by
 have:=h.px
 rw [zj7 heff J x hl] at this;exact this
def Sound (Γ:List (Nat×List Cell)) (P:Program) (o:Oper) (I:List SV) (J:List SB) (nb:Nat) (rd rh:List Nat) (eff:List (Nat×SV)) (heff:List (Nat×SB)):Option SB->Prop
 | none=>vbd Γ P o I J rd rh eff heff
 | some x=>(y4f J nb=true->vbd Γ P o I J rd (nb::rh) eff (heff++[(nb,x)]))/\(nb=J.length->vjm Γ P o I J (appL eff I) (appL heff J++[x]))
def vlf (Γ:List (Nat×List Cell)) (P:Program) (o:Oper) (I:List SV) (J:List SB) (nb:Nat):HO->Prop
 | .eff rd rh eff heff new=>Sound Γ P o I J nb rd rh eff heff new
 | _=>True
theorem vz5 {o:Oper} {I:List SV} {J:List SB} {nb:Nat} {t:TypeId} {k:TI->HO} (h:∀ ti,mkTI P t=some ti->vlf Γ P o I J nb (k ti)):vlf Γ P o I J nb (vem P t k):=by
 unfold vem
 split
 . rename_i ti hti;exact h ti hti
 . trivial
theorem zgs {o:Oper} {I:List SV} {J:List SB} {nb:Nat} {rd rh:List Nat} {x:Option SV} (h:∀ v d,x=some v->o.dst=some d->vbd Γ P o I J (d::rd) rh [(d,v)] []):vlf Γ P o I J nb (vO o rd rh x):=by
 unfold vO
 split
 . split
   . rename_i d hd;exact h _ d rfl hd
   . trivial
 . trivial
theorem wlb {o:Oper} {I:List SV} {J:List SB} {nb:Nat} {rd rh:List Nat} {x:SV} {heff:List (Nat×SB)} {b:SB} (h:∀ d J',o.dst=some d->(J'=J\/J'=J++[.fresh])->y4f J' nb=true->vbd Γ P o I J' (d::rd) (nb::rh) [(d,x)] (heff++[(nb,b)]))
 (hl:∀ p∈heff,p.1<J.length):vlf Γ P o I J nb (nO o rd rh x heff b):=by
 unfold nO
 split
 . rename_i d hd;refine ⟨fun hr=>h d J hd (.inl rfl) hr,fun e=>?_⟩;subst e;exact vjm.new (h d (J++[.fresh]) hd (.inr rfl) (xnc J)) hl
 . trivial
theorem xmb {α:Type} {l:List α} (h:isNil l=true):l=[]:=by cases l<;>first | rfl | cases h
theorem xbj {o:Oper} {I:List SV} {J:List SB} {nb:Nat}:vlf Γ P o I J nb (oldO P I nb o):=by
 unfold oldO
 split
 case h_2=>trivial
 rename_i d hd
 split
 case isFalse=>trivial
 rename_i hc;unfold oldR
 split
 case h_2=>trivial
 rename_i rd tk d' av heq
 split
 case isFalse=>trivial
 rename_i hcc;simp only [Bool.and_eq_true,beq_iff_eq] at hcc;obtain ⟨htk,rfl⟩:=hcc;have htk:=xmb htk;subst htk
 split
 case h_2=>trivial
 rename_i x ob h2;have hst:=(ymz heq).1
 cases ob with
 | none=>exact w1x hc.1 hd hst hc.2 h2 rfl
 | some b=>
  refine ⟨fun hr=>w1x hc.1 hd hst hc.2 h2 hr,fun e=>?_⟩;subst e
  have:=w1x (Γ:=Γ) (J:=J++[.fresh]) (nb:=J.length) hc.1 hd hst hc.2 h2 (show wla (J++[.fresh]) J.length (some b)=true from xnc J)
  exact vjm.new (heff:=[]) this (by simp)
theorem wdu {o:Oper} {I:List SV} {J:List SB} {T:TypeId} {x y:Operand} {d:Nat} (ho:o.op=.index T x y) (hdst:o.dst=some d) {ti:TI} (hti:mkTI P T=some ti) (hs:ti.sh=.string) {v:SV} (h:x72 (opdS Γ I x) (opdS Γ I y)=some v) :
 vbd Γ P o I J (d::(orr x++orr y)) [] [(d,v)] []:=by
 refine vbd.pure hdst (fun E ρ I' J' a w hag hah hI=>?_);have hx:=hI.opd x;have hy:=hI.opd y;rw [hag.opd (fun t ht=>by simp [ht])] at hx hy;obtain ⟨dd,i,z,hd,_,_,_,_,_,_,_,hsh⟩:=(wgk hti).ex;have hT:=wbh (hsh.symm.trans hs);subst hT;unfold x72 at h;split at h
 . rename_i s k ix ex ey;split at h
   . rename_i hi
     cases h;rw [ex] at hx;rw [ey] at hy;have ex:a.eval x=.string s:=RdC.x18 hx;have ey:a.eval y=.int k ix:=RdC.x18 hy;refine ⟨_,?_,RdC.raw rfl⟩
     have hsz:ix.toNat<s.size:=by omega
     have hg:s[ix.toNat]? = some s[ix.toNat]:=by simp [hsz]
     have hb:yuk s ix.toNat=(s[ix.toNat]).toNat:=by
      unfold yuk
      have:s.data[ix.toNat]? = some s[ix.toNat]:=by
       rw [Array.getElem?_eq_getElem (by simpa using hsz)];rfl
      rw [this];rfl
     rw [hb];simp [execOp,ho,Instr.index,asIntOf,ex,ey,w9c hd,hi.1,hg]
   . cases h
 . cases h
theorem xjh {x:SV} {i:Int} (h:intS x=some i):∃ k,x=.one (.dat (.raw (.int k i))):=by
 unfold intS at h;split at h
 . cases h;exact ⟨_,rfl⟩
 . cases h
theorem ynj {o:Oper} {I:List SV} {J:List SB} {nb:Nat}:vlf Γ P o I J nb (opP P Γ I J nb o):=by
 unfold opP
 split
 . rename_i x ho;exact zgs (fun v d e hd=>by cases e;exact zce (.inl ho) hd)
 . rename_i x ho;exact zgs (fun v d e hd=>by cases e;exact zce (.inr ho) hd)
 . rename_i c x y ho
   split
   . rename_i v hv;exact zgs (fun v' d e hd=>by cases e;exact yux ho hd hv)
   . exact xbj
 . rename_i T x ho;refine vz5 (fun ti hti=>?_)
   split
   . rename_i rh hs hsee;exact zgs (fun v d e hd=>w7w ho hd hti hsee e)
   . trivial
 . rename_i T x y ho
   split
   . rename_i hd;refine vz5 (fun ti hti=>?_)
     split
     . rename_i us hu
       split
       . rename_i hl
         split
         . rename_i b z hst;exact xbl ho hd hti hu hl hst
         . trivial
       . trivial
     . trivial
   . trivial
 . rename_i S x f ho;refine vz5 (fun ti hti=>?_)
   split
   . rename_i fs hs
     split
     . rename_i off sz ft hf;exact zgs (fun v d e hd=>x8o ho hd hti hs hf e)
     . trivial
   . trivial
 . rename_i T x y ho;refine vz5 (fun ti hti=>?_)
   split
   . rename_i v hv;exact zgs (fun v' d e hd=>by cases e;exact yaf ho hd hti hv)
   . exact xbj
 . rename_i x n ho;exact zgs (fun v d e hd=>xqb ho hd e)
 . rename_i x ho
   split
   . rename_i hp;exact zgs (fun v d e hd=>by cases e;exact zk8 ho hd hp)
   . trivial
 . rename_i op T x y U ho
   split
   . exact zgs (fun v d e hd=>z9c ho hd e)
   . split
     . rename_i t ht
       split
       . rename_i j hj;exact zgs (fun v d e hd=>vrx ho hd (ylq ht) hj e)
       . trivial
     . trivial
   . exact xbj
 . exact xbj
 . exact xbj
 . rename_i T x lo hi mx ho
   split
   . split
     . exact vz5 (fun ti hti=>zgs (fun v d e hd=>z1i ho hd hti e))
     . trivial
   . exact xbj
 . rename_i T ps ho;refine vz5 (fun ti hti=>?_)
   split
   . rename_i hc;refine zgs (fun v d e hd=>?_);obtain ⟨hs,hf,rfl⟩:=Option.map_eq_some_iff.1 e;exact y49 (parts:=ps.toList) (by rw [ho]) hd hti hc.1 hc.2 hf
   . trivial
 . rename_i T x f ho;refine vz5 (fun ti hti=>?_)
   split
   . rename_i fs hs
     split
     . rename_i off sz ft hf;exact vz5 (fun tf htf=>zgs (fun v d e hd=>w5l ho hd hti hs hf htf e))
     . trivial
   . trivial
 . rename_i T x y ho;refine vz5 (fun ti hti=>?_)
   split
   . rename_i n e es hs;refine vz5 (fun te hte=>?_)
     split
     . rename_i ix hix
       split
       . rename_i hc;obtain ⟨k,hk⟩:=xjh hix;exact zgs (fun v d e hd=>zdr ho hd hti hs hte hk hc.1 hc.2 e)
       . trivial
     . trivial
   . rename_i hs;exact zgs (fun v d e hd=>wdu ho hd hti hs e)
   . trivial
 . rename_i T x y ok ho;refine vz5 (fun ti hti=>?_)
   split
   . refine vz5 (fun tk htk=>?_)
     split
     . split
       . unfold wsi
         split<;>trivial
       . trivial
     . trivial
   . trivial
 . rename_i T x y z ho
   split
   . rename_i hd;refine vz5 (fun ti hti=>?_)
     split
     . rename_i kt et hs;refine vz5 (fun tk htk=>?_)
       split
       . rename_i b es k hm hk
         split
         . rename_i hc
           split
           . rename_i es' hu;exact vjc (.inl ho) hd hti hs htk hm hk hc.1 hc.2 hu
           . trivial
         . trivial
       . trivial
     . trivial
   . trivial
 . trivial
theorem vej {J:List SB} {bs:List Nat} (h:∀ b∈bs,y10 (gB J b)=true):∀ p∈frzE J bs,p.1<J.length:=fun p hp=>by
 obtain ⟨b,hb,rfl⟩:=List.mem_map.1 hp;exact xei (h b hb)
theorem xna {I : List SV} {J : List SB} {es n : Nat} {ik : Option IntKind} {zc : List Cell} {parts : List (Nat × Operand)} {c : Cell} {bs : List Nat} (h : litH Γ I J es ik zc n parts = some (c, bs)) : ∀ b ∈ bs, y10 (gB J b) = true := by
 unfold litH at h;split at h
 . split at h
   . split at h
     . rename_i cs bs' hd;obtain ⟨c',_,he⟩:=Option.map_eq_some_iff.1 h
       cases he;exact y93 hd
     . cases h
   . cases h
 . cases h
theorem vbv {x:Operand} {xs:Array Operand} (h:xs.toList=[x]):xs=#[x]:=by rw [<-Array.toArray_toList (xs:=xs),h]
theorem xmc {x y:Operand} {xs:Array Operand} (h:xs.toList=[x,y]):xs=#[x,y]:=by rw [<-Array.toArray_toList (xs:=xs),h]
theorem v02 {x:TypeId} {xs:Array TypeId} (h:xs.toList=[x]):xs=#[x]:=by rw [<-Array.toArray_toList (xs:=xs),h]
theorem vh8 {x y:TypeId} {xs:Array TypeId} (h:xs.toList=[x,y]):xs=#[x,y]:=by rw [<-Array.toArray_toList (xs:=xs),h]
theorem wh2 {J:List SB} {e:TypeId} {es:Nat} {ik:Option IntKind} {x:SV} {b:Nat} {c:Cell} {k:Nat} {T:Option TypeId} (h:dstH J e es ik x=some (some b,c,k,T)):y10 (gB J b)=true:=by
 unfold dstH at h;split at h
 . split at h
   . rename_i hb;split at h
     . cases h;rw [hb];rfl
     . cases h
   . cases h
 . split at h<;>cases h
 . cases h
theorem v0c {J J' : List SB} {e : TypeId} {es : Nat} {ik : Option IntKind} {x : SV} {ob : Option Nat} {c : Cell} {k : Nat} {T : Option TypeId} (h : dstH J e es ik x = some (ob, c, k, T)) (ha : ∀ b, ob = some b → gB J' b = gB J b) : dstH J' e es ik x = some (ob, c, k, T) := by
 unfold dstH at h ⊢;split at h
 . rename_i b es' n
   have e1:gB J' b=gB J b:=by
    split at h
    . split at h
      . cases h;exact ha b rfl
      . cases h
    . cases h
   simp only [e1];exact h
 . exact h
 . cases h
theorem x45 {J J':List SB} {x:SV} {c:Cell} {bs:List Nat} (h:srcH J x=some (c,bs)) (ha:∀ b∈bs,gB J' b=gB J b):srcH J' x=some (c,bs):=by
 unfold srcH at h ⊢;split at h
 . exact xm5 h ha
 . cases h
theorem v61 {J:List SB} {x:SV} {c:Cell} {bs:List Nat} (h:srcH J x=some (c,bs)):∀ b∈bs,y10 (gB J b)=true:=by
 unfold srcH at h;split at h
 . exact wtp h
 . cases h
theorem x40 {J J':List SB} (he:J'=J\/J'=J++[.fresh]) {b:Nat} (hb:y10 (gB J b)=true):gB J' b=gB J b:=by
 rcases he with rfl | rfl
 . rfl
 . exact v6d (xei hb)
theorem zj0 {lit fn:Bool} {o:Oper} {I:List SV} {J:List SB} {nb:Nat}:vlf Γ P o I J nb (opH P Γ lit fn I J nb o):=by
 unfold opH
 split
 . rename_i T ho;exact vz5 (fun ti hti=>wlb (fun d J' hd _ hr=>z6h ho hd hti hr) (by simp))
 . rename_i T x ho
   split
   . rename_i hs hcs;exact wlb (fun d J' hd _ hr=>zej ho hd hcs hr) (by simp)
   . trivial
 . rename_i T n ps ho
   split
   . exact xbj
   . rename_i n;refine vz5 (fun ti hti=>?_)
     split
     . rename_i e es eb ik hsh;refine vz5 (fun te hte=>?_)
       split
       . rename_i c bs hl;have harr:=xna hl
         split
         . split
           . rename_i d hd;exact vnn (parts:=ps.toList) (by rw [ho]) hd hti hsh hte hl
           . trivial
         . refine wlb (fun d J' hd he hr=>?_) (vej harr)
           have hg:∀ b∈bs,gB J' b=gB J b:=fun b hb=>x40 he (harr b hb)
           have:=zru (parts:=ps.toList) (nb:=nb) (by rw [ho]) hd hti hsh hte (yqw (I':=I) rfl hl hg) hr
           rw [zii hg] at this;exact this
       . trivial
     . trivial
 . rename_i T ho;exact wlb (fun d J' hd _ hr=>y69 ho hd hr) (by simp)
 . rename_i f fs cs ho
   split
   . rename_i hfs
     have hfs':fs=#[]:=by rw [<-Array.toArray_toList (xs:=fs),hfs]
     subst hfs'
     split
     . split<;>trivial
     . split
       . rename_i hnt;exact wlb (fun d J' hd _ hr=>ys4 (xs:=cs.toList) (by rw [ho]) hd hnt hr) (by simp)
       . trivial
   . trivial
 . rename_i S D x ho;unfold vj1
   split
   . rename_i e hS hD
     split
     . rename_i he
       split
       . rename_i l bs hb
         split
         . rename_i d hd;exact zcf ho hd hS he hD hb
         . trivial
       . trivial
     . trivial
   . rename_i t hS hD
     split
     . rename_i j b off T n hj hb
       split
       . rename_i hsz;exact zgs (fun v d e hd=>by cases e;exact zw8 ho hd hS hD hj (by simpa using hsz) hb)
       . trivial
     . trivial
   . rename_i u hS hD
     split
     . rename_i j b off T n hj hb
       split
       . rename_i hl;exact zgs (fun v d e hd=>by cases e;exact xyx ho hd hS hD hj hl hb)
       . trivial
     . trivial
   . exact xbj
 . rename_i c ho;obtain ⟨ce,args,ats⟩:=c;dsimp only
   split
   . rename_i x;unfold wds
     have hG:∀ f caps rd rh,vlf Γ P o I J nb (wds.callG Γ (wew lit fn) I J o args.toList f caps rd rh):=fun f caps rd rh=>by
      unfold wds.callG
      split
      . trivial
      . split<;>trivial
     split
     . rename_i f
       split
       . rename_i hne
         split
         . rename_i y hy
           have:=vbv hy
           subst this;exact zgs (fun v d e hd=>by cases e;exact zdf ho hd hne)
         . trivial
       . exact hG _ _ _ _
     . split
       . split<;>trivial
       . split
         . exact hG _ _ _ _
         . trivial
     . trivial
   . rename_i b
     split
     . split
       . rename_i x T hx hT;have h1:=vbv hx;have h2:=v02 hT;subst h1;subst h2
         split
         . refine vz5 (fun ti hti=>?_)
           split
           . rename_i rh n hl;exact zgs (fun v d e hd=>by cases e;exact xlk ho hd hti hl)
           . trivial
         . exact xbj
       . trivial
     . split
       . rename_i x y T U hx hT;have h1:=xmc hx;have h2:=vh8 hT;subst h1;subst h2
         split
         . rename_i hTU;subst hTU;refine vz5 (fun ti hti=>?_)
           split
           . rename_i e es eb ik hsh;unfold opH.appO
             split
             . rename_i ob cc k TT cy bs hD hS
               split
               . rename_i c' hj
                 split
                 . rename_i hob;have harr:=v61 hS
                   have harrD:∀ b,ob=some b->y10 (gB J b)=true:=fun b e1=>by subst e1;exact wh2 hD
                   refine wlb (fun d J' hd he hr=>?_) (fun p hp=>?_)
                   . have hg:∀ b∈bs,gB J' b=gB J b:=fun b hb=>x40 he (harr b hb)
                     have hA:wd0 J' nb e es eb ik (opdS Γ I x) (opdS Γ I y)=some (ob.toList++bs,frzE J' bs++(x03 ob++[(nb,.arr c' k (appT TT e))]),.one (.sl nb es 0 c'.cnt)):=by
                      unfold wd0;rw [v0c hD (fun b e1=>x40 he (harrD b e1)),x45 hS hg];simp only [hj,hob,if_true]
                     have:=w0n ho hd hti hsh hA hr
                     rw [zii hg,<-List.append_assoc] at this;exact this
                   . rcases List.mem_append.1 hp with hp | hp
                     . exact vej harr p hp
                     . cases ob with
                       | none=>cases hp
                       | some b=>
                        simp only [x03,List.mem_singleton] at hp;subst hp;exact xei (harrD b rfl)
                 . trivial
               . trivial
             . trivial
           . trivial
         . trivial
       . trivial
     . split
       . rename_i x hx;have h1:=vbv hx;subst h1;exact zgs (fun v d e hd=>z4z ho hd e)
       . trivial
     . split
       . rename_i x y pt it d hx hT hd;have h1:=xmc hx;have h2:=vh8 hT;subst h1;subst h2
         split
         . rename_i b l hu;exact s_us ho hd hu
         . trivial
       . trivial
     . split
       . rename_i x y T U d hx hT hd;have h1:=xmc hx;have h2:=vh8 hT;subst h1;subst h2
         split
         . rename_i hTU;subst hTU;refine vz5 (fun ti hti=>?_)
           split
           . rename_i e es eb ik hsh
             split
             . rename_i b z m rb hc;exact x1h ho hd hti hsh hc
             . trivial
           . trivial
         . trivial
       . trivial
     . exact xbj
     . exact xbj
     . trivial
   . trivial
 . exact ynj
def HO.flat:HO->Prop
 | .eff _ _ _ _ _=>True
 | .bad=>True
 | _=>False
theorem w2h {t:TypeId} {k:TI->HO} (h:∀ ti,(k ti).flat):(vem P t k).flat:=by
 unfold vem
 split
 . exact h _
 . trivial
theorem y4u {o:Oper} {rd rh:List Nat} {x:Option SV}:(vO o rd rh x).flat:=by
 unfold vO
 repeat' split
 all_goals trivial
theorem viu {o:Oper} {rd rh:List Nat} {x:SV} {heff:List (Nat×SB)} {b:SB}:(nO o rd rh x heff b).flat:=by
 unfold nO
 split<;>trivial
theorem zg3 {I:List SV} {nb:Nat} {o:Oper}:(oldO P I nb o).flat:=by
 unfold oldO oldR
 repeat' split
 all_goals trivial
theorem v2e {I:List SV} {J:List SB} {nb:Nat} {o:Oper} {S D:TypeId} {x:Operand}:(vj1 P Γ I J nb o S D x).flat:=by
 unfold vj1
 repeat' split
 all_goals first | trivial | exact y4u | exact zg3
theorem v8t {J:List SB} {nb:Nat} {o:Oper} {x y:SV} {rd:List Nat} {e:TypeId} {es eb:Nat} {ik:Option IntKind}:(opH.appO J nb o x y rd e es eb ik).flat:=by
 unfold opH.appO
 repeat' split
 all_goals first | trivial | exact viu
theorem zv4 {t:TypeId} {k:TI->HO} {r:HO} (hr:r≠.bad) (h:vem P t k=r):∃ ti,mkTI P t=some ti/\k ti=r:=by
 unfold vem at h;split at h
 . rename_i ti hti;exact ⟨ti,hti,h⟩
 . exact absurd h.symm hr
theorem y24 {I:List SV} {J:List SB} {nb:Nat} {o:Oper} {T:TypeId} {x y:Operand} {ok:Bool} (ho:o.op=.lookup T x y ok) {r:HO} (h:opP P Γ I J nb o=r) (hr:r≠.bad) :
 ∃ ti kt et tk b es k r0 z,mkTI P T=some ti/\ti.sh=.map kt et/\mkTI P kt=some tk/\wii J (opdS Γ I x)=some (b,es)/\keyV (opdS Γ I y)=some k/\wdo tk.sh k=true/\yvo es k=some r0/\zya P et=some z/\r=.look r0 z ok (xl0 o++(orr x++orr y)) [b]:=by
 unfold opP at h;rw [ho] at h;dsimp only at h;obtain ⟨ti,hti,h⟩:=zv4 hr h;split at h
 case h_2=>exact absurd h.symm hr
 rename_i kt et hs;obtain ⟨tk,htk,h⟩:=zv4 hr h;split at h
 case h_2=>exact absurd h.symm hr
 rename_i b es k hm hk;split at h
 case isFalse=>exact absurd h.symm hr
 rename_i hko;unfold wsi at h;split at h
 case h_2=>exact absurd h.symm hr
 rename_i r' z' hf hz;exact ⟨ti,kt,et,tk,b,es,k,r',z',hti,hs,htk,hm,hk,hko,hf,hz,h.symm⟩
theorem zww {I:List SV} {J:List SB} {nb:Nat} {o:Oper} (h:∀ T x y ok,o.op≠.lookup T x y ok):(opP P Γ I J nb o).flat:=by
 unfold opP
 split
 all_goals first
  | trivial
  | exact y4u
  | exact zg3
  | (rename_i heq;exact absurd heq (h _ _ _ _))
  | skip
 all_goals
  repeat' first
   | trivial
   | exact y4u
   | exact zg3
   | refine w2h (fun ti=>?_)
   | split
theorem vyx {lit fn:Bool} {I:List SV} {J:List SB} {nb:Nat} {o:Oper} (h1:∀ T x y ok,o.op≠.lookup T x y ok) (h2:∀ f fs cs,o.op≠.makeFunc f fs cs) (h3:∀ x xs ts,o.op≠.call { callee:=.value x,args:=xs,argTypes:=ts }):(opH P Γ lit fn I J nb o).flat:=by
 unfold opH
 split
 . exact w2h (fun _=>viu)
 . split
   . exact viu
   . trivial
 . split
   . exact zg3
   . refine w2h (fun ti=>?_)
     split
     . refine w2h (fun te=>?_)
       repeat' split
       all_goals first | trivial | exact viu
     . trivial
 . exact viu
 . rename_i heq;exact absurd heq (h2 _ _ _)
 . exact v2e
 . rename_i c ho;obtain ⟨ce,args,ats⟩:=c;dsimp only
   split
   . exact absurd ho (h3 _ _ _)
   . split
     . split
       . split
         . refine w2h (fun ti=>?_)
           split
           . exact y4u
           . trivial
         . exact zg3
       . trivial
     . split
       . split
         . refine w2h (fun ti=>?_)
           split
           . exact v8t
           . trivial
         . trivial
       . trivial
     . split
       . exact y4u
       . trivial
     . repeat' split
       all_goals trivial
     . split
       . split
         . refine w2h (fun ti=>?_)
           repeat' split
           all_goals trivial
         . trivial
       . trivial
     . exact zg3
     . exact zg3
     . trivial
   . trivial
 . exact zww h1
theorem vyw {lit fn:Bool} {I:List SV} {J:List SB} {nb:Nat} {o:Oper} {x:Operand} {xs:Array Operand} {ts:Array TypeId} (ho:o.op=.call { callee:=.value x,args:=xs,argTypes:=ts }):opH P Γ lit fn I J nb o=wds P Γ (wew lit fn) I J o x xs.toList:=by
 unfold opH;rw [ho]
theorem ypv {lit fn:Bool} {I:List SV} {J:List SB} {nb:Nat} {o:Oper} {r:HO} (h:opH P Γ lit fn I J nb o=r) (hr:(∃ f l rd rh bs,r=.callD f l rd rh bs)\/(∃ p l rd bs,r=.callF p l rd bs)\/(∃ f l rd,r=.callH f l rd)) :
 ∃ x xs ts,o.op=.call { callee:=.value x,args:=xs,argTypes:=ts }:=by
 apply Classical.byContradiction;intro hn
 have h3:∀ x xs ts,o.op≠.call { callee:=.value x,args:=xs,argTypes:=ts }:=fun x xs ts e=>hn ⟨x,xs,ts,e⟩
 by_cases h1:∀ T x y ok,o.op≠.lookup T x y ok
 . by_cases h2:∀ f fs cs,o.op≠.makeFunc f fs cs
   . have:=vyx (P:=P) (Γ:=Γ) (lit:=lit) (fn:=fn) (I:=I) (J:=J) (nb:=nb) h1 h2 h3
     rw [h] at this
     rcases hr with ⟨_,_,_,_,_,rfl⟩ | ⟨_,_,_,_,rfl⟩ | ⟨_,_,_,rfl⟩<;>exact this
   . obtain ⟨f,hf⟩:=Classical.not_forall.1 h2;obtain ⟨fs,hf⟩:=Classical.not_forall.1 hf;obtain ⟨cs,hf⟩:=Classical.not_forall.1 hf;have ho:=Classical.not_not.1 hf
     have hno:∀ r,((∃ f l rd rh bs,r=HO.callD f l rd rh bs)\/(∃ p l rd bs,r=HO.callF p l rd bs)\/(∃ f l rd,r=HO.callH f l rd))->opH P Γ lit fn I J nb o≠r:=fun r hr e=>by
      unfold opH at e;rw [ho] at e
      cases f with
      | func f=>
       dsimp only at e;split at e
       . split at e
         . split at e
           . subst e;rcases hr with ⟨_,_,_,_,_,e⟩ | ⟨_,_,_,_,e⟩ | ⟨_,_,_,e⟩<;>cases e
           . subst e;rcases hr with ⟨_,_,_,_,_,e⟩ | ⟨_,_,_,_,e⟩ | ⟨_,_,_,e⟩<;>cases e
         . split at e
           . have:=viu (o:=o) (rd:=orrL cs.toList) (rh:=[]) (x:=.one (.fnr nb)) (heff:=[]) (b:=.clo f (wy5 Γ I cs.toList))
             rw [e] at this
             rcases hr with ⟨_,_,_,_,_,rfl⟩ | ⟨_,_,_,_,rfl⟩ | ⟨_,_,_,rfl⟩<;>exact this
           . subst e;rcases hr with ⟨_,_,_,_,_,e⟩ | ⟨_,_,_,_,e⟩ | ⟨_,_,_,e⟩<;>cases e
       . subst e;rcases hr with ⟨_,_,_,_,_,e⟩ | ⟨_,_,_,_,e⟩ | ⟨_,_,_,e⟩<;>cases e
      | _=>
       dsimp only at e;unfold opP at e;rw [ho] at e;dsimp only at e;subst e
       rcases hr with ⟨_,_,_,_,_,e⟩ | ⟨_,_,_,_,e⟩ | ⟨_,_,_,e⟩<;>cases e
     exact hno r hr h
 . obtain ⟨T,hf⟩:=Classical.not_forall.1 h1;obtain ⟨x,hf⟩:=Classical.not_forall.1 hf;obtain ⟨y,hf⟩:=Classical.not_forall.1 hf;obtain ⟨ok,hf⟩:=Classical.not_forall.1 hf;have ho:=Classical.not_not.1 hf;unfold opH at h;rw [ho] at h;dsimp only at h
   have hnb:r≠.bad:=fun e=>by
    subst e;rcases hr with ⟨_,_,_,_,_,e⟩ | ⟨_,_,_,_,e⟩ | ⟨_,_,_,e⟩<;>cases e
   obtain ⟨_,_,_,_,_,_,_,_,_,_,_,_,_,_,_,_,_,rfl⟩:=y24 ho h hnb
   rcases hr with ⟨_,_,_,_,_,e⟩ | ⟨_,_,_,_,e⟩ | ⟨_,_,_,e⟩<;>cases e
theorem xzv {o:Oper} {I:List SV} {J:List SB} {nb:Nat} {rd rh:List Nat} {eff:List (Nat×SV)} {heff:List (Nat×SB)} {ob:Option SB} (hl:∀ p∈heff,p.1<J.length)
 (h:∀ J',(J'=J\/J'=J++[.fresh])->wla J' nb ob=true->vbd Γ P o I J' rd (oN nb ob++rh) eff (heff++oB nb ob)):Sound Γ P o I J nb rd rh eff heff ob:=by
 cases ob with
 | none=>
  have:=h J (.inl rfl) rfl
  simp only [oN,oB,List.nil_append,List.append_nil] at this;exact this
 | some b=>
  refine ⟨fun hr=>h J (.inl rfl) hr,fun e=>?_⟩;subst e;exact vjm.new (h (J++[.fresh]) (.inr rfl) (show wla (J++[.fresh]) J.length (some b)=true from xnc J)) hl
theorem wv9 {I : List SV} {J : List SB} {x : Operand} {f : FuncId} {caps : List SV} {rd rh : List Nat} (h : zxi Γ I J x = some (f, caps, rd, rh)) : ∀ b ∈ rh, b < J.length := by
 unfold zxi at h;split at h
 . cases h;intro b hb;cases hb
 . split at h
   . obtain ⟨f0,_,e⟩:=Option.map_eq_some_iff.1 h;cases e;intro b hb;cases hb
   . split at h
     . rename_i hgb
       cases h;intro b hb;simp only [List.mem_singleton] at hb;subst hb;exact (List.getElem?_eq_some_iff.1 (xuw hgb (by simp))).1
     . cases h
   . cases h
 . cases h
theorem wyj {lit fn:Bool} {I:List SV} {J:List SB} {nb:Nat} {o:Oper} {f:FuncId} {l:List AV} {rd rh bs:List Nat} (h:opH P Γ lit fn I J nb o=.callD f l rd rh bs) {res:AV} (hc:CallsD Γ P f l res) {y:SV} {ob:Option SB} (hr:resS nb res=some (y,ob)) :
 Sound Γ P o I J nb rd (rh++bs) (v9n o y) (frzE J bs) ob:=by
 obtain ⟨x,xs,ts,ho⟩:=ypv h (.inl ⟨_,_,_,_,_,rfl⟩);rw [vyw ho] at h
 have ho':o.op=.call { callee:=.value x,args:=xs.toList.toArray,argTypes:=ts }:=by rw [ho]
 have hG:∀{f':FuncId} {caps:List SV} {rd' rh':List Nat},zxi Γ I J x=some (f',caps,rd',rh')->(∀ b∈rh',b<J.length)->wds.callG Γ (wew lit fn) I J o xs.toList f' caps rd' rh'=.callD f l rd rh bs->Sound Γ P o I J nb rd (rh++bs) (v9n o y) (frzE J bs) ob:=fun {f' caps rd' rh'} hcal hlt hg=>by
  unfold wds.callG at hg;split at hg
  . rename_i l' bs' ha;have ha:=vjw ha
    cases hg;have harr:=yig ha;refine xzv (vej harr) (fun J' he hroom=>?_)
    have hgb:∀ b∈bs,gB J' b=gB J b:=fun b hb=>x40 he (harr b hb)
    have hcal':=voz (I':=I) (J':=J') hcal (fun _ _=>rfl) (fun b hb=>by
     rcases he with rfl | rfl
     . rfl
     . exact v6d (hlt b hb))
    have:=ypf (J:=J') ho' hcal' (zei ha hgb) hc hr hroom
    rw [zii hgb,List.append_assoc (oN nb ob)] at this;exact this
  . split at hg<;>cases hg
 unfold wds at h;split at h
 . split at h
   . split at h
     . unfold vO at h;repeat' split at h
       all_goals cases h
     . cases h
   . exact hG rfl (by simp) h
 . rename_i t;split at h
   . split at h<;>cases h
   . split at h
     . rename_i f' caps rd' rh' hcal;exact hG hcal (wv9 hcal) h
     . cases h
 . cases h
theorem zjv {lit fn:Bool} {I:List SV} {J:List SB} {nb:Nat} {o:Oper} {F:List AV->AV->Prop} {l:List AV} {rd bs:List Nat} (h:opH P Γ lit fn I J nb o=.callF (zw4 Γ P F) l rd bs) {res:AV} (hc:F l res) {y:SV} {ob:Option SB} (hr:resS nb res=some (y,ob)) :
 Sound Γ P o I J nb rd bs (v9n o y) (frzE J bs) ob:=by
 obtain ⟨x,xs,ts,ho⟩:=ypv h (.inr (.inl ⟨_,_,_,_,rfl⟩));rw [vyw ho] at h
 have ho':o.op=.call { callee:=.value x,args:=xs.toList.toArray,argTypes:=ts }:=by rw [ho]
 have hno:∀{f':FuncId} {caps:List SV} {rd' rh':List Nat},wds.callG Γ (wew lit fn) I J o xs.toList f' caps rd' rh'≠.callF (zw4 Γ P F) l rd bs:=fun {f' caps rd' rh'} hg=>by
  unfold wds.callG at hg;split at hg
  . cases hg
  . split at hg<;>cases hg
 unfold wds at h;split at h
 . split at h
   . split at h
     . unfold vO at h;repeat' split at h
       all_goals cases h
     . cases h
   . exact absurd h hno
 . rename_i t;split at h
   . rename_i p ht;split at h
     . rename_i l' bs' ha
       cases h;have harr:=yig ha;refine xzv (vej harr) (fun J' he hroom=>?_)
       have hgb:∀ b∈bs,gB J' b=gB J b:=fun b hb=>x40 he (harr b hb)
       have:=wtr (J:=J') ho' ht (zei ha hgb) hc hr hroom
       rw [zii hgb] at this;exact this
     . cases h
   . split at h
     . exact absurd h hno
     . cases h
 . cases h
theorem y9a {lit fn:Bool} {I:List SV} {J:List SB} {nb:Nat} {o:Oper} {f:FuncId} {l:List SV} {rd:List Nat} (h:opH P Γ lit fn I J nb o=.callH f l rd) {J':List SB} {res:SV} (hc:xpp Γ P f J l J' res) :
 vjm Γ P o I J (appL (v9n o res) I) J'/\(∀ heff,J'=appL heff J->vbd Γ P o I J rd (List.range J.length) (v9n o res) heff):=by
 obtain ⟨x,xs,ts,ho⟩:=ypv h (.inr (.inr ⟨_,_,_,rfl⟩));rw [vyw ho] at h
 have ho':o.op=.call { callee:=.value x,args:=xs.toList.toArray,argTypes:=ts }:=by rw [ho]
 have hG:∀{f':FuncId} {caps:List SV} {rd' rh':List Nat},zxi Γ I J x=some (f',caps,rd',rh')->wds.callG Γ (wew lit fn) I J o xs.toList f' caps rd' rh'=.callH f l rd->vjm Γ P o I J (appL (v9n o res) I) J'/\(∀ heff,J'=appL heff J->vbd Γ P o I J rd (List.range J.length) (v9n o res) heff):=fun {f' caps rd' rh'} hcal hg=>by
  unfold wds.callG at hg;split at hg
  . cases hg
  . split at hg
    . rename_i hnt
      cases hg;exact ⟨vya ho' hcal hnt hc,fun heff e=>by subst e;exact zed ho' hcal hnt hc⟩
    . cases hg
 unfold wds at h;split at h
 . split at h
   . split at h
     . unfold vO at h;repeat' split at h
       all_goals cases h
     . cases h
   . exact hG rfl h
 . rename_i t;split at h
   . split at h<;>cases h
   . split at h
     . rename_i f' caps rd' rh' hcal;exact hG hcal h
     . cases h
 . cases h
theorem vc0 {lit fn : Bool} {I : List SV} {J : List SB} {nb : Nat} {o : Oper} {f : FuncId} {caps : List AV} {rd bs : List Nat} (h : opH P Γ lit fn I J nb o = .mk f caps rd bs) {F : List AV → AV → Prop} (wml : yss P f) (hF : ∀ args res, F args res → CallsD Γ P f (args ++ caps) res) :
 vbd Γ P o I J rd bs (v9n o (.one (.dat (.fnp (zw4 Γ P F))))) (frzE J bs):=by
 by_cases hm:∃ g cs,o.op=.makeFunc (.func g) #[] cs
 . obtain ⟨g,cs,ho⟩:=hm;unfold opH at h;rw [ho] at h;dsimp only at h;split at h
   . split at h
     . rename_i l' bs' d ha hd
       cases h
       have:=zqz (J:=J) (I:=I) (o:=o) (xs:=cs.toList) (by rw [ho]) hd ha wml hF
       unfold v9n;rw [hd];exact this
     . cases h
   . split at h
     . exfalso
       have:=viu (o:=o) (rd:=orrL cs.toList) (rh:=[]) (x:=.one (.fnr nb)) (heff:=[]) (b:=.clo g (wy5 Γ I cs.toList))
       rw [h] at this;exact this
     . cases h
 . exfalso;by_cases hl:∃ T x y ok,o.op=.lookup T x y ok
   . obtain ⟨T,x,y,ok,ho⟩:=hl;unfold opH at h;rw [ho] at h;dsimp only at h;obtain ⟨_,_,_,_,_,_,_,_,_,_,_,_,_,_,_,_,_,e⟩:=y24 ho h (by simp)
     cases e
   . by_cases hc:∃ x xs ts,o.op=.call { callee:=.value x,args:=xs,argTypes:=ts }
     . obtain ⟨x,xs,ts,ho⟩:=hc;rw [vyw ho] at h;unfold wds wds.callG vO at h
       repeat' split at h
       all_goals cases h
     . by_cases hmf:∃ f fs cs,o.op=.makeFunc f fs cs
       . obtain ⟨g,fs,cs,ho⟩:=hmf;unfold opH at h;rw [ho] at h
         cases g with
         | func g=>
          dsimp only at h;split at h
          . rename_i hfs;exact hm ⟨g,cs,by rw [ho,show fs=#[] by rw [<-Array.toArray_toList (xs:=fs),hfs]]⟩
          . cases h
         | _=>
          dsimp only at h;unfold opP at h;rw [ho] at h
          cases h
       . have:=vyx (P:=P) (Γ:=Γ) (lit:=lit) (fn:=fn) (I:=I) (J:=J) (nb:=nb) (o:=o) (fun T x y ok e=>hl ⟨T,x,y,ok,e⟩) (fun f fs cs e=>hmf ⟨f,fs,cs,e⟩) (fun x xs ts e=>hc ⟨x,xs,ts,e⟩)
         rw [h] at this;exact this
theorem vbw {lit fn:Bool} {I:List SV} {J:List SB} {nb:Nat} {o:Oper} {r:Option SV} {zero:SV} {ok:Bool} {rd rh:List Nat} (h:opH P Γ lit fn I J nb o=.look r zero ok rd rh):vbd Γ P o I J rd rh (v9n o (vi3 ok r zero)) []\/o.dst=none:=by
 by_cases hl:∃ T x y ok,o.op=.lookup T x y ok
 . obtain ⟨T,x,y,ok',ho⟩:=hl;unfold opH at h;rw [ho] at h;dsimp only at h;obtain ⟨ti,kt,et,tk,b,es,k,r',z',hti,hs,htk,hm,hk,hko,hf,hz,e⟩:=y24 ho h (by simp)
   cases e
   cases hd:o.dst with
   | none=>exact .inr rfl
   | some d=>
    left
    have:=zb8 (J:=J) (I:=I) ho hd hti hs htk hm hk hko hf hz
    unfold v9n xl0;rw [hd];exact this
 . exfalso;by_cases hc:∃ x xs ts,o.op=.call { callee:=.value x,args:=xs,argTypes:=ts }
   . obtain ⟨x,xs,ts,ho⟩:=hc;rw [vyw ho] at h;unfold wds wds.callG vO at h
     repeat' split at h
     all_goals cases h
   . by_cases hmf:∃ f fs cs,o.op=.makeFunc f fs cs
     . obtain ⟨g,fs,cs,ho⟩:=hmf;unfold opH at h;rw [ho] at h
       cases g with
       | func g=>
        dsimp only at h;unfold nO at h
        repeat' split at h
        all_goals cases h
       | _=>
        dsimp only at h;unfold opP at h;rw [ho] at h
        cases h
     . have:=vyx (P:=P) (Γ:=Γ) (lit:=lit) (fn:=fn) (I:=I) (J:=J) (nb:=nb) (o:=o) (fun T x y ok e=>hl ⟨T,x,y,ok,e⟩) (fun f fs cs e=>hmf ⟨f,fs,cs,e⟩) (fun x xs ts e=>hc ⟨x,xs,ts,e⟩)
       rw [h] at this;exact this
end Go.Hp
