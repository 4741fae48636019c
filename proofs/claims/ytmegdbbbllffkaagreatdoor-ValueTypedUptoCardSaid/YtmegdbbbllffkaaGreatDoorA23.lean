/- The proof, part A23: Hu, Hv, Hw. -/
import Derived.Test.YtmegdbbbllffkaaGreatDoorA22
namespace Go.Hp
open Go Go.RowKit Go.Slot
variable {x:Option SV} {o:Oper} {f:FuncId}
structure Bx (α:Type) where
 f:α
abbrev CD:=FuncId->List AV->Option AV
variable {cD:CD}
abbrev CH:=FuncId->List SB->List SV->Option (List SB×SV×List Nat)
variable {cH:CH}
abbrev Kr:=CD->CH->List SV->List SB->List Nat->Option (List SV×List SB×List Nat)
variable {k:Kr}
abbrev Kc:=CD->CH->List SV->List SB->List Nat->Option (Exit×List SV×List SB×List Nat)
noncomputable section
def gtF (σ:List SV):Nat->SV:=List.rec (motive:=fun _=>Nat->SV) (fun _=>.any) (fun x _ ih i=>Nat.rec (motive:=fun _=>SV) x (fun n _=>ih n) i) σ
theorem wtt:∀(σ:List SV) (i:Nat),gtF σ i=gtS σ i
 | [],_=>rfl
 | _::_,0=>rfl
 | x::l,i+1=>by
  show gtF l i=_;rw [wtt l i];simp [gtS]
def setF (σ:List SV) (x:SV):Nat->List SV:=List.rec (motive:=fun _=>Nat->List SV) (fun _=>[]) (fun y l ih i=>Nat.rec (motive:=fun _=>List SV) (x::l) (fun n _=>y::ih n) i) σ
theorem wf0:∀(σ:List SV) (x:SV) (i:Nat),setF σ x i=σ.set i x
 | [],_,_=>rfl
 | _::_,_,0=>rfl
 | y::l,x,i+1=>by
  show y::setF l x i=_;rw [wf0 l x i];rfl
def frcW {β:Type}:SV->(SV->β)->β
 | .one h,k=>k (.one h)
 | .agg l,k=>k (.agg l)
 | .undef,k=>k .undef
 | .tup l,k=>k (.tup l)
 | .elt l,k=>k (.elt l)
 | .any,k=>k .any
theorem wc5 {β:Type} (x:SV) (k:SV->β):frcW x k=k x:=by cases x<;>rfl
variable (P:Program) (Γ:List (Nat×List Cell))
def copd:Operand->Bx (List SV->SV)
 | .tmp t=>⟨fun σ=>gtF σ t⟩
 | .const v=>frcS (zim v) fun x=>⟨fun _=>x⟩
 | .func f=>⟨fun _=>.one (.dat (.raw (.func (.func f) #[] #[])))⟩
 | .global g=>⟨fun _=>yvl Γ g⟩
theorem y5x {x:Operand} {σ:List SV}:(copd Γ x).f σ=opdS Γ σ x:=by
 cases x with
 | tmp t=>exact wtt _ _
 | const v=>show (frcS (zim v) fun x=>(⟨fun _=>x⟩:Bx (List SV->SV))).f σ=_;rw [yb8];rfl
 | func f=>rfl
 | global g=>rfl
def thn (k:Kr) (cD:CD) (cH:CH) (wl:List Nat):Option (List SV×List SB×List Nat)->Option (List SV×List SB×List Nat)
 | some (s,h,ws)=>k cD cH s h (ws++wl)
 | none=>none
def binB (op:BinOp) (k:Value->Option (List SV×List SB×List Nat)) (bad:Option (List SV×List SB×List Nat)):SV->SV->Option (List SV×List SB×List Nat)
 | .one (.dat (.raw a)),.one (.dat (.raw b))=>match abin op a b with
  | some v=>frcV v k
  | none=>bad
 | _,_=>bad
def unB (op:UnOp) (k:Value->Option (List SV×List SB×List Nat)) (bad:Option (List SV×List SB×List Nat)):SV->Option (List SV×List SB×List Nat)
 | .one (.dat (.raw a))=>match aun op a with
  | some v=>frcV v k
  | none=>bad
 | _=>bad
def zt2 (k:SV->Option (List SV×List SB×List Nat)) (bad:Option (List SV×List SB×List Nat)) (x y:SV):SV->Option (List SV×List SB×List Nat)
 | .one (.dat (.raw (.bool true)))=>frcW x k
 | .one (.dat (.raw (.bool false)))=>frcW y k
 | _=>bad
def xvr (k:Value->Option (List SV×List SB×List Nat)) (bad:Option (List SV×List SB×List Nat)):SV->SV->Option (List SV×List SB×List Nat)
 | .one (.dat (.raw (.string s))),.one (.dat (.raw (.int _ i)))=>if 0<=i/\i<s.size then frcV (.int .u8 (x41 s i.toNat)) k else bad
 | _,_=>bad
abbrev Rk:=Option (List SV×List SB×List Nat)
def ovB (k:SV->Rk):Option SV->Rk
 | some v=>frcS v k
 | none=>none
def owB (k:SV->Rk):Option SV->Rk
 | some v=>frcW v k
 | none=>none
def ovB' (k:SV->Rk) (bad:Rk):Option SV->Rk
 | some v=>frcS v k
 | none=>bad
def gbF (η:List SB):Nat->SB:=List.rec (motive:=fun _=>Nat->SB) (fun _=>.dead) (fun x _ ih i=>Nat.rec (motive:=fun _=>SB) x (fun n _=>ih n) i) η
theorem wew:∀(η:List SB) (i:Nat),gbF η i=gB η i
 | [],_=>rfl
 | _::_,0=>rfl
 | x::l,i+1=>by
  show gbF l i=_;rw [wew l i];simp [gB]
def drF (l:List HC):Nat->List HC:=List.rec (motive:=fun _=>Nat->List HC) (fun _=>[]) (fun x l ih i=>Nat.rec (motive:=fun _=>List HC) (x::l) (fun n _=>ih n) i) l
theorem xeb:∀(l:List HC) (i:Nat),drF l i=l.drop i
 | [],i=>by cases i<;>rfl
 | _::_,0=>rfl
 | x::l,i+1=>by
  show drF l i=_;rw [xeb l i];rfl
def ldB (ti:TI) (η:List SB) (k:SV->Rk):SV->Rk
 | .one (.ptr b off)=>match gbF η b with
  | .box hs _=>owB k (y05 ti (drF hs off))
  | _=>none
 | x=>match seeH η x with
  | some (_,hs)=>owB k (y05 ti hs)
  | none=>none
theorem x6i {ti:TI} {η:List SB} {k:SV->Rk} (x:SV):ldB ti η k x=match seeH η x with
 | some (_,hs)=>owB k (y05 ti hs)
 | none=>none:=by
 unfold ldB
 split
 . rename_i b off;unfold seeH;rw [wew]
   split
   . rename_i hs T hb;simp only [hb,xeb]
   . rename_i hne
     cases hb:gB η b with
     | box hs T=>exact absurd hb (hne _ _)
     | _=>simp only [hb]
 . rfl
def nilB (k:SV->Rk) (x:SV):Rk:=match ptrH x with
 | true=>frcW x k
 | false=>none
def lenB (ti:TI) (k:Value->Rk) (bad:Rk):SV->Rk
 | .one (.dat c)=>match y3p ti c,lenC c with
  | true,some n=>frcV (.int .i64 (n:Int)) k
  | _,_=>bad
 | _=>bad
def idxB (n es:Nat) (te:TI) (k:SV->Rk) (x y:SV):Rk:=match intS y with
 | some ix=>if (0<=ix/\ix<n)/\es=te.size then owB k (yk3 (ix.toNat*es) te x) else none
 | none=>none
def cFs (P:Program) (S:TypeId) (f:Nat):Option (Nat×TypeId):=match mkTI P S with
 | some ti=>match ti.sh with
  | .struct fs=>match fs[f]? with
   | some (off,_,ft)=>some (off,ft)
   | none=>none
  | _=>none
 | none=>none
def cAr (P:Program) (T:TypeId):Option (Nat×Nat×TI):=match mkTI P T with
 | some ti=>match ti.sh with
  | .array n e es=>match mkTI P e with
   | some te=>some (n,es,te)
   | none=>none
  | _=>none
 | none=>none
def genE (o:Oper) (k:Kr) (g:List SV->List SB->HO):Kr:=fun cD cH σ η wl=>thn k cD cH wl (evDo cD cH o σ η (g σ η))
def genP (o:Oper) (k:Kr) (g:List SV->List SB->HO):Kr:=fun cD cH σ η wl=>thn k cD cH wl (wh3 cD o σ η (g σ η))
variable (gen:Oper->Kr->(List SV->List SB->HO)->Kr)
def cdo (lit:Bool) (o:Oper) (k:Kr):Bx Kr:=match o.op with
 | .move x=>match o.dst,copd Γ x with
  | some d,⟨g⟩=>⟨fun cD cH σ η wl=>frcW (g σ) fun x=>k cD cH (setF σ x d) η wl⟩
  | none,_=>⟨fun _ _ _ _ _=>none⟩
 | .assign x=>match o.dst,copd Γ x with
  | some d,⟨g⟩=>⟨fun cD cH σ η wl=>frcW (g σ) fun x=>k cD cH (setF σ x d) η wl⟩
  | none,_=>⟨fun _ _ _ _ _=>none⟩
 | .pick c x y=>match o.dst,copd Γ c,copd Γ x,copd Γ y with
  | some d,⟨gc⟩,⟨gx⟩,⟨gy⟩=>⟨fun cD cH σ η wl=>zt2 (fun v=>k cD cH (setF σ v d) η wl) (gen o k (fun σ η=>y9n P Γ σ η.length o c x y) cD cH σ η wl) (gx σ) (gy σ) (gc σ)⟩
  | none,_,_,_=>⟨gen o k fun σ η=>y9n P Γ σ η.length o c x y⟩
 | .binOp op _ x y _=>match o.dst,copd Γ x,copd Γ y with
  | some d,⟨gx⟩,⟨gy⟩=>⟨fun cD cH σ η wl=>binB op (fun v=>k cD cH (setF σ (.one (.dat (.raw v))) d) η wl) (gen o k (fun σ η=>fBin P Γ σ η η.length o op x y) cD cH σ η wl) (gx σ) (gy σ)⟩
  | none,_,_=>⟨gen o k fun σ η=>fBin P Γ σ η η.length o op x y⟩
 | .unOp op _ x=>match o.dst,copd Γ x with
  | some d,⟨gx⟩=>⟨fun cD cH σ η wl=>unB op (fun v=>k cD cH (setF σ (.one (.dat (.raw v))) d) η wl) (gen o k (fun σ η=>fUn P Γ σ η η.length o op x) cD cH σ η wl) (gx σ)⟩
  | none,_=>⟨gen o k fun σ η=>fUn P Γ σ η η.length o op x⟩
 | .load T x=>match o.dst,mkTI P T,copd Γ x with
  | some d,some ti,⟨gx⟩=>⟨fun cD cH σ η wl=>ldB ti η (fun v=>k cD cH (setF σ v d) η wl) (gx σ)⟩
  | _,_,_=>⟨gen o k fun σ η=>vza P Γ σ η o T x⟩
 | .store T x y=>⟨gen o k fun σ η=>wgc P Γ σ η o T x y⟩
 | .fieldAddr S x f=>match o.dst,cFs P S f,copd Γ x with
  | some d,some (off,_),⟨gx⟩=>⟨fun cD cH σ η wl=>ovB (fun v=>k cD cH (setF σ v d) η wl) (ywi (gx σ) off)⟩
  | _,_,_=>⟨gen o k fun σ _=>yg6 P Γ σ o S x f⟩
 | .indexAddr T x y=>match o.dst,mkTI P T,copd Γ x,copd Γ y with
  | some d,some ti,⟨gx⟩,⟨gy⟩=>⟨fun cD cH σ η wl=>ovB' (fun v=>k cD cH (setF σ v d) η wl) (gen o k (fun σ η=>v04 P Γ σ η.length o T x y) cD cH σ η wl) (z9d ti.sh (gx σ) (gy σ))⟩
  | _,_,_,_=>⟨gen o k fun σ η=>v04 P Γ σ η.length o T x y⟩
 | .field T x f=>match o.dst,cFs P T f,copd Γ x with
  | some d,some (off,ft),⟨gx⟩=>match mkTI P ft with
   | some tf=>⟨fun cD cH σ η wl=>owB (fun v=>k cD cH (setF σ v d) η wl) (yk3 off tf (gx σ))⟩
   | none=>⟨gen o k fun σ _=>vms P Γ σ o T x f⟩
  | _,_,_=>⟨gen o k fun σ _=>vms P Γ σ o T x f⟩
 | .index T x y=>match o.dst,(mkTI P T).map TI.sh,copd Γ x,copd Γ y with
  | some d,some .string,⟨gx⟩,⟨gy⟩=>⟨fun cD cH σ η wl=>xvr (fun v=>k cD cH (setF σ (.one (.dat (.raw v))) d) η wl) (gen o k (fun σ _=>zr9 P Γ σ o T x y) cD cH σ η wl) (gx σ) (gy σ)⟩
  | some d,_,⟨gx⟩,⟨gy⟩=>match cAr P T with
   | some (n,es,te)=>⟨fun cD cH σ η wl=>idxB n es te (fun v=>k cD cH (setF σ v d) η wl) (gx σ) (gy σ)⟩
   | none=>⟨gen o k fun σ _=>zr9 P Γ σ o T x y⟩
  | _,_,_,_=>⟨gen o k fun σ _=>zr9 P Γ σ o T x y⟩
 | .extract x n=>match o.dst,copd Γ x with
  | some d,⟨gx⟩=>⟨fun cD cH σ η wl=>owB (fun v=>k cD cH (setF σ v d) η wl) (w9o (gx σ) n)⟩
  | _,_=>⟨gen o k fun σ _=>wwh Γ σ o x n⟩
 | .nilCheck x=>match o.dst,copd Γ x with
  | some d,⟨gx⟩=>⟨fun cD cH σ η wl=>nilB (fun v=>k cD cH (setF σ v d) η wl) (gx σ)⟩
  | _,_=>⟨gen o k fun σ _=>fNil Γ σ o x⟩
 | .build T ps=>⟨gen o k fun σ _=>vw7 P Γ σ o T ps⟩
 | .alloc T=>⟨gen o k fun _ η=>www P η.length o T⟩
 | .box T x=>⟨gen o k fun σ η=>fBox Γ σ η.length o T x⟩
 | .call c=>match c.callee with
  | .value x=>match c.args.toList with
   | xs=>⟨gen o k fun σ η=>zbg P Γ σ η o x xs⟩
  | .builtin .len=>match c.args.toList,c.argTypes.toList with
   | [x],[T]=>match o.dst,mkTI P T,copd Γ x with
    | some d,some ti,⟨gx⟩=>⟨fun cD cH σ η wl=>lenB ti (fun v=>k cD cH (setF σ (.one (.dat (.raw v))) d) η wl) (gen o k (fun σ η=>fLen P Γ lit false σ η η.length o x T) cD cH σ η wl) (gx σ)⟩
    | _,_,_=>⟨gen o k fun σ η=>fLen P Γ lit false σ η η.length o x T⟩
   | _,_=>⟨gen o k fun σ η=>opH P Γ lit false σ η η.length o⟩
  | _=>⟨gen o k fun σ η=>opH P Γ lit false σ η η.length o⟩
 | _=>⟨gen o k fun σ η=>opH P Γ lit false σ η η.length o⟩
variable {P Γ}
theorem zw6 {wl:List Nat} {σ:List SV} {η:List SB} {rd rh:List Nat} {x:SV} {d:Nat} (hd:o.dst=some d):thn k cD cH wl (evDo cD cH o σ η (vO o rd rh (some x)))=k cD cH (σ.set d x) η wl:=by
 unfold vO;rw [hd];simp only [evDo,vid,we7,thn,appL,List.map_nil,List.nil_append]
theorem w1r {wl:List Nat} {σ:List SV} {η:List SB} {rd rh:List Nat} (hd:o.dst=none):thn k cD cH wl (evDo cD cH o σ η (vO o rd rh x))=none:=by
 unfold vO
 cases x<;>simp only [hd,evDo,thn]
theorem zy5 {gen:Oper->Kr->(List SV->List SB->HO)->Kr} {lit:Bool} {σ:List SV} {η:List SB} {wl:List Nat} (spec:HO->Option (List SV×List SB×List Nat)) (h1:∀ g,gen o k g cD cH σ η wl=spec (g σ η))
 (zw6:∀{rd rh:List Nat} {d:Nat} {x:SV},(∀ r∈rd,r∈opRd o.op)->o.dst=some d->spec (vO o rd rh (some x))=k cD cH (σ.set d x) η wl) (w1r:∀{rd rh:List Nat} {x:Option SV},o.dst=none->spec (vO o rd rh x)=none) (hbad:spec .bad=none) :
 (cdo P Γ gen lit o k).f cD cH σ η wl=spec (opF P Γ lit false σ η η.length o):=by
 unfold cdo
 split
 . rename_i x ho;unfold opF;rw [ho];dsimp only;unfold yiv
   split
   . rename_i d g hd hg;rw [zw6 (by rw [ho];exact fun r h=>h) hd];show frcW (g σ) _=_;rw [wc5,wf0,<-y5x,hg]
   . rename_i hd;rw [w1r hd]
 . rename_i x ho;unfold opF;rw [ho];dsimp only;unfold yiv
   split
   . rename_i d g hd hg;rw [zw6 (by rw [ho];exact fun r h=>h) hd];show frcW (g σ) _=_;rw [wc5,wf0,<-y5x,hg]
   . rename_i hd;rw [w1r hd]
 . rename_i c x y ho;unfold opF;rw [ho];dsimp only
   split
   . rename_i d gc gx gy hd hc hx hy
     have ec:gc σ=opdS Γ σ c:=by rw [<-y5x,hc]
     have ex:gx σ=opdS Γ σ x:=by rw [<-y5x,hx]
     have ey:gy σ=opdS Γ σ y:=by rw [<-y5x,hy]
     show zt2 _ _ (gx σ) (gy σ) (gc σ)=_;rw [ec,ex,ey];unfold zt2
     split
     . rename_i hb;unfold y9n y8q;rw [hb,wc5,wf0];exact (zw6 (by rw [ho];exact fun r h=>h) hd).symm
     . rename_i hb;unfold y9n y8q;rw [hb,wc5,wf0];exact (zw6 (by rw [ho];exact fun r h=>h) hd).symm
     . exact h1 _
   . exact h1 _
 . rename_i op T x y U ho;unfold opF;rw [ho];dsimp only
   split
   . rename_i d gx gy hd hx hy
     have ex:gx σ=opdS Γ σ x:=by rw [<-y5x,hx]
     have ey:gy σ=opdS Γ σ y:=by rw [<-y5x,hy]
     show binB _ _ _ (gx σ) (gy σ)=_;rw [ex,ey];unfold binB
     split
     . rename_i a b ha hb
       split
       . rename_i v hv;unfold fBin w4j;rw [ha,hb,yye,wf0];simp only [hv];exact (zw6 (by rw [ho];exact fun r h=>h) hd).symm
       . exact h1 _
     . exact h1 _
   . exact h1 _
 . rename_i op T x ho;unfold opF;rw [ho];dsimp only
   split
   . rename_i d gx hd hx
     have ex:gx σ=opdS Γ σ x:=by rw [<-y5x,hx]
     show unB _ _ _ (gx σ)=_;rw [ex];unfold unB
     split
     . rename_i a ha
       split
       . rename_i v hv;unfold fUn rawS;rw [ha,yye,wf0];simp only [hv];exact (zw6 (by rw [ho];exact fun r h=>h) hd).symm
       . exact h1 _
     . exact h1 _
   . exact h1 _
 case h_6 T x ho=>
  unfold opF;rw [ho];dsimp only
  split
  . rename_i d ti gx hd hti hx
    have ex:gx σ=opdS Γ σ x:=by rw [<-y5x,hx]
    show ldB _ _ _ (gx σ)=_;rw [ex,x6i];unfold vza x40;simp only [hti]
    cases seeH η (opdS Γ σ x) with
    | none=>exact hbad.symm
    | some p=>
     obtain ⟨rh,hs⟩:=p;simp only []
     cases y05 ti hs with
     | none=>exact (by unfold vO;exact hbad.symm)
     | some v=>unfold owB;simp only [wc5,wf0];exact (zw6 (by rw [ho];exact fun r h=>h) hd).symm
  . exact h1 _
 case h_8 S x f ho=>
  unfold opF;rw [ho];dsimp only
  split
  . rename_i d off ft gx hd hfs hx
    have ex:gx σ=opdS Γ σ x:=by rw [<-y5x,hx]
    show ovB _ (ywi (gx σ) off)=_;rw [ex];unfold cFs at hfs;split at hfs
    . rename_i ti hti;split at hfs
      . rename_i fs hsh;split at hfs
        . rename_i off' sz ft' hf
          cases hfs;unfold yg6 x40;simp only [hti,hsh,hf]
          cases ywi (opdS Γ σ x) off with
          | none=>exact (by unfold vO;exact hbad.symm)
          | some v=>unfold ovB;simp only [yb8,wf0];exact (zw6 (by rw [ho];exact fun r h=>h) hd).symm
        . cases hfs
      . cases hfs
    . cases hfs
  . exact h1 _
 case h_9 T x y ho=>
  unfold opF;rw [ho];dsimp only
  split
  . rename_i d ti gx gy hd hti hx hy
    have ex:gx σ=opdS Γ σ x:=by rw [<-y5x,hx]
    have ey:gy σ=opdS Γ σ y:=by rw [<-y5x,hy]
    show ovB' _ _ (z9d ti.sh (gx σ) (gy σ))=_;rw [ex,ey,h1]
    cases hv:z9d ti.sh (opdS Γ σ x) (opdS Γ σ y) with
    | none=>rfl
    | some v=>
     unfold v04 x40 ovB';simp only [hti,hv,yb8,wf0];exact (zw6 (by rw [ho];exact fun r h=>h) hd).symm
  . exact h1 _
 case h_10 T x f ho=>
  unfold opF;rw [ho];dsimp only
  split
  . rename_i d off ft gx hd hfs hx
    have ex:gx σ=opdS Γ σ x:=by rw [<-y5x,hx]
    split
    . rename_i tf htf;show owB _ (yk3 off tf (gx σ))=_;rw [ex];unfold cFs at hfs;split at hfs
      . rename_i ti hti;split at hfs
        . rename_i fs hsh;split at hfs
          . rename_i off' sz ft' hf
            cases hfs;unfold vms x40;simp only [hti,hsh,hf,htf]
            cases yk3 off tf (opdS Γ σ x) with
            | none=>exact (by unfold vO;exact hbad.symm)
            | some v=>unfold owB;simp only [wc5,wf0];exact (zw6 (by rw [ho];exact fun r h=>h) hd).symm
          . cases hfs
        . cases hfs
      . cases hfs
    . exact h1 _
  . exact h1 _
 case h_12 x n ho=>
  unfold opF;rw [ho];dsimp only
  split
  . rename_i d gx hd hx
    have ex:gx σ=opdS Γ σ x:=by rw [<-y5x,hx]
    show owB _ (w9o (gx σ) n)=_;rw [ex];unfold wwh
    cases w9o (opdS Γ σ x) n with
    | none=>exact (by unfold vO;exact hbad.symm)
    | some v=>unfold owB;simp only [wc5,wf0];exact (zw6 (by rw [ho];exact fun r h=>h) hd).symm
  . exact h1 _
 case h_13 x ho=>
  unfold opF;rw [ho];dsimp only
  split
  . rename_i d gx hd hx
    have ex:gx σ=opdS Γ σ x:=by rw [<-y5x,hx]
    show nilB _ (gx σ)=_;rw [ex];unfold fNil nilB
    cases ptrH (opdS Γ σ x) with
    | false=>exact hbad.symm
    | true=>simp only [wc5,wf0,if_true];exact (zw6 (by rw [ho];exact fun r h=>h) hd).symm
  . exact h1 _
 case h_11 T x y ho=>
  unfold opF;rw [ho];dsimp only
  split
  . rename_i d gx gy hd hT hx hy
    have ex:gx σ=opdS Γ σ x:=by rw [<-y5x,hx]
    have ey:gy σ=opdS Γ σ y:=by rw [<-y5x,hy]
    show xvr _ _ (gx σ) (gy σ)=_;rw [ex,ey];unfold xvr
    split
    . rename_i s kd i ha hb
      split
      . rename_i hi;obtain ⟨ti,hti,hs⟩:=Option.map_eq_some_iff.1 hT;unfold zr9 x40;simp only [hti,hs,ha,hb,zrb,if_pos hi];rw [yye,wf0];exact (zw6 (by rw [ho];exact fun r h=>h) hd).symm
      . exact h1 _
    . exact h1 _
  . rename_i d gx gy hd hx hy hne
    have ex:gx σ=opdS Γ σ x:=by rw [<-y5x,hx]
    have ey:gy σ=opdS Γ σ y:=by rw [<-y5x,hy]
    split
    . rename_i n es te hca;show idxB n es te _ (gx σ) (gy σ)=_;rw [ex,ey];unfold cAr at hca;split at hca
      . rename_i ti hti;split at hca
        . rename_i n' e' es' hsh;split at hca
          . rename_i te' hte
            cases hca;unfold zr9 x40 idxB;simp only [hti,hsh,hte]
            cases intS (opdS Γ σ y) with
            | none=>exact hbad.symm
            | some ix=>
             simp only []
             split
             . cases yk3 (ix.toNat*es) te (opdS Γ σ x) with
               | none=>exact (by unfold vO;exact hbad.symm)
               | some v=>unfold owB;simp only [wc5,wf0];exact (zw6 (by rw [ho];exact fun r h=>h) hd).symm
             . exact hbad.symm
          . cases hca
        . cases hca
      . cases hca
    . exact h1 _
  . exact h1 _
 case h_17 c ho=>
  unfold opF;rw [ho];dsimp only;unfold zw2
  split
  . rename_i x hc;simp only [hc];exact h1 _
  . rename_i hc;simp only [hc]
    split
    . rename_i x T ha ht;simp only [ha,ht]
      split
      . rename_i d ti gx hd hti hx
        have ex:gx σ=opdS Γ σ x:=by rw [<-y5x,hx]
        show lenB ti _ _ (gx σ)=_;rw [ex,h1];unfold lenB
        split
        . rename_i cc hcc
          split
          . rename_i n hok hl;unfold fLen;simp only [hcc,hti,hok,hl,yye,wf0];exact (zw6 (by rw [ho];exact fun r hr=>List.mem_append_right _ (by rw [ha];simpa [orrL] using hr)) hd).symm
          . rfl
        . rfl
      . exact h1 _
    . rename_i hne;refine (h1 _).trans ?_
      split
      . rename_i x T ha ht;exact absurd ht (hne x T ha)
      . rfl
  . rename_i hc1 hc2
    cases hcc:c.callee with
    | value x=>exact absurd hcc (hc1 x)
    | builtin b=>cases b<;>first | exact h1 _ | exact absurd hcc hc2
    | _=>
     simp only [];refine (h1 _).trans ?_
     have:opH P Γ lit false σ η η.length o=.bad:=by unfold opH;rw [ho];simp only [hcc]
     rw [this]
 all_goals (first | (rename_i ho;unfold opF;rw [ho];exact h1 _) | (refine (h1 _).trans ?_;unfold opF;split<;>first | rfl | (exfalso;solve_by_elim)))
end
noncomputable section
abbrev Rr:=Option (List SV×List SB×List Nat)
abbrev Rc:=Option (Exit×List SV×List SB×List Nat)
def gdT (y n:Rr):SV->Rr
 | .one (.dat (.raw (.bool true)))=>y
 | .one (.dat (.raw (.bool false)))=>n
 | .undef=>n
 | _=>none
def gdF (y n:Rr):SV->Rr
 | .one (.dat (.raw (.bool true)))=>n
 | .one (.dat (.raw (.bool false)))=>y
 | .undef=>n
 | _=>none
def skp:Option Nat->List SV->List SV
 | some d,σ=>setF σ .undef d
 | none,σ=>σ
def nrm:Rr->Rc
 | some (s,h,wl)=>some (.normal,s,h,wl)
 | none=>none
def sqB (g:List SV->List SB->List Nat->Rc):Rc->Rc
 | some (.normal,s,h,w)=>g s h w
 | r=>r
def cnB (x y:Rc):SV->Rc
 | .one (.dat (.raw (.bool true)))=>x
 | .one (.dat (.raw (.bool false)))=>y
 | _=>none
def blB (id:Nat):Rc->Rc
 | some (.exit j,s,h,w)=>if j=id then some (.normal,s,h,w) else some (.exit j,s,h,w)
 | r=>r
def scB:Rc->Rc
 | some (.goto _,_,_,_)=>none
 | r=>r
def rgB:Rr->Rc->Rc
 | some (s,h,wl),_=>some (.normal,s,h,wl)
 | none,r=>r
variable (P:Program) (Γ:List (Nat×List Cell)) (gen:Oper->Kr->(List SV->List SB->HO)->Kr)
def cgd (ops:List Oper) (o:Oper) (k:Kr):Bx Kr:=match o.guard with
 | none=>cdo P Γ gen (y3w ops o.dst) o k
 | some (j,b)=>match (ops[j]?).bind (·.dst),cdo P Γ gen (y3w ops o.dst) o k,o.dst,b with
  | some d,⟨f⟩,od,true=>⟨fun cD cH σ η wl=>gdT (f cD cH σ η wl) (k cD cH (skp od σ) η wl) (gtF σ d)⟩
  | some d,⟨f⟩,od,false=>⟨fun cD cH σ η wl=>gdF (f cD cH σ η wl) (k cD cH (skp od σ) η wl) (gtF σ d)⟩
  | none,_,_,_=>⟨fun _ _ _ _ _=>none⟩
def crun (ops:List Oper):List Oper->Bx Kr
 | []=>⟨fun _ _ σ η wl=>some (σ,η,wl)⟩
 | o::r=>match crun ops r with
  | ⟨k⟩=>cgd P Γ gen ops o k
def dRg (ops:Array Oper):Kc:=fun cD cH σ η wl=>match xkb cD cH P Γ ops.toList η.length ops.toList [] σ (η++[.fresh]) wl with
 | some (s,h,wl)=>some (.normal,s,vo2 η.length h,wl)
 | none=>none
def xmg (N:Nat):Code->Bx Kc
 | .skip=>⟨fun _ _ σ η wl=>some (.normal,σ,η,wl)⟩
 | .region _ ops false=>match crun P Γ genE ops.toList ops.toList with
  | ⟨f⟩=>⟨fun cD cH σ η wl=>nrm (f cD cH σ η wl)⟩
 | .region _ ops true=>match P.follows .mixedOrders,stOk ops.toList,crun P Γ genP ops.toList ops.toList with
  | true,true,⟨f⟩=>⟨fun cD cH σ η wl=>rgB (f cD cH σ η wl) (dRg P Γ ops cD cH σ η wl)⟩
  | true,false,_=>⟨fun cD cH σ η wl=>dRg P Γ ops cD cH σ η wl⟩
  | false,_,_=>⟨fun _ _ _ _ _=>none⟩
 | .seq a b=>match xmg N a,xmg N b with
  | ⟨f⟩,⟨g⟩=>⟨fun cD cH σ η wl=>sqB (g cD cH) (f cD cH σ η wl)⟩
 | .cond c a b=>match copd Γ c,xmg N a,xmg N b with
  | ⟨gc⟩,⟨f⟩,⟨g⟩=>⟨fun cD cH σ η wl=>cnB (f cD cH σ η wl) (g cD cH σ η wl) (gc σ)⟩
 | .block id a=>match xmg N a with
  | ⟨f⟩=>⟨fun cD cH σ η wl=>blB id (f cD cH σ η wl)⟩
 | .loop a=>match xmg N a with
  | ⟨f⟩=>⟨fun cD cH σ η wl=>y7c (f cD cH) N σ η wl⟩
 | .scope a=>match xmg N a with
  | ⟨f⟩=>⟨fun cD cH σ η wl=>scB (f cD cH σ η wl)⟩
 | .exit id=>⟨fun _ _ σ η wl=>some (.exit id,σ,η,wl)⟩
 | .ret=>⟨fun _ _ σ η wl=>some (.ret,σ,η,wl)⟩
 | .label _=>⟨fun _ _ σ η wl=>some (.normal,σ,η,wl)⟩
 | _=>⟨fun _ _ _ _ _=>none⟩
def appF (l r:List SV):List SV:=List.rec (motive:=fun _=>List SV) r (fun x _ ih=>x::ih) l
theorem yfl (l r:List SV):appF l r=l++r:=by
 induction l with
 | nil=>rfl
 | cons x l ih=>show x::appF l r=_;rw [ih];rfl
def xby (rs:List ResultVar):Rc->Option (SV×List SB×List Nat)
 | some (.ret,σ,h,wl)=>(zf4 P σ h rs).map fun x=>(x,h,wl)
 | some (.normal,σ,h,wl)=>(zf4 P σ h rs).map fun x=>(x,h,wl)
 | _=>none
abbrev Kf:=CD->CH->List SV->List SB->Option (SV×List SB×List Nat)
def cfun (N:Nat) (f:FuncId):Bx Kf:=match P.funcs[f]? with
 | some fn=>match fn.body,fn.name == "runtime.NumGoroutine" with
  | some c,false=>match xmg P Γ N c,fn.results.toList,fn.ntmps with
   | ⟨g⟩,rs,nt=>frcN fn.params.size fun np=>frcL (List.replicate (nt-np) SV.undef) fun pad=>⟨fun cD cH l η=>vvy l fun l=>match l.length==np with
    | true=>xby P rs (g cD cH (appF l pad) η [])
    | false=>xby P rs (g cD cH (l++List.replicate (nt-l.length) .undef) η [])⟩
  | _,_=>⟨fun _ _ _ _=>none⟩
 | none=>⟨fun _ _ _ _=>none⟩
variable {P Γ}
theorem ycm {σ:List SV}:skp o.dst σ=appL (ylm o .undef) σ:=by
 unfold skp ylm
 cases o.dst with
 | none=>rfl
 | some d=>exact wf0 _ _ _
theorem v19 {gen:Oper->Kr->(List SV->List SB->HO)->Kr} {ops:List Oper} {σ:List SV} {η:List SB} {wl:List Nat} {A:Rr} (hdo:(cdo P Γ gen (y3w ops o.dst) o k).f cD cH σ η wl=A) :
 (cgd P Γ gen ops o k).f cD cH σ η wl=match znr ops σ o with
   | .plain=>A
   | .when _ c b=>if c=b then A else k cD cH (appL (ylm o .undef) σ) η wl
   | .skip _=>k cD cH (appL (ylm o .undef) σ) η wl
   | .bad=>none:=by
 unfold cgd znr
 cases hg:o.guard with
 | none=>exact hdo
 | some p=>
  obtain ⟨j,b⟩:=p;simp only []
  cases hc:cdo P Γ gen (y3w ops o.dst) o k with
  | mk f=>
   rw [hc] at hdo
   cases hd:(ops[j]?).bind (·.dst) with
   | none=>cases b<;>rfl
   | some d=>
    cases b with
    | true=>
     show gdT (f cD cH σ η wl) (k cD cH (skp o.dst σ) η wl) (gtF σ d)=_;rw [wtt,ycm];unfold gdT
     split
     . rename_i e;simp only [e];exact hdo
     . rename_i e;simp only [e];rfl
     . rename_i e;simp only [e]
     . rename_i h1 h2 h3;dsimp only
       split
       . rename_i heq;split at heq
         . cases heq
         . cases heq
         . cases heq
       . rename_i heq;split at heq
         . rename_i c e;cases c
           . exact absurd e h2
           . exact absurd e h1
         . cases heq
         . cases heq
       . rename_i heq;split at heq
         . cases heq
         . rename_i e;exact absurd e h3
         . cases heq
       . rfl
    | false=>
     show gdF (f cD cH σ η wl) (k cD cH (skp o.dst σ) η wl) (gtF σ d)=_;rw [wtt,ycm];unfold gdF
     split
     . rename_i e;simp only [e];rfl
     . rename_i e;simp only [e];exact hdo
     . rename_i e;simp only [e]
     . rename_i h1 h2 h3;dsimp only
       split
       . rename_i heq;split at heq
         . cases heq
         . cases heq
         . cases heq
       . rename_i heq;split at heq
         . rename_i c e;cases c
           . exact absurd e h2
           . exact absurd e h1
         . cases heq
         . cases heq
       . rename_i heq;split at heq
         . cases heq
         . rename_i e;exact absurd e h3
         . cases heq
       . rfl
theorem vuu {ops:List Oper} {cD:CD} {cH:CH}:∀(l:List Oper) (σ:List SV) (η:List SB) (wl:List Nat),(crun P Γ genE ops l).f cD cH σ η wl=wik cD cH P Γ ops l σ η wl
 | [],σ,η,wl=>rfl
 | o::r,σ,η,wl=>by
  show (match crun P Γ genE ops r with | ⟨k⟩=>cgd P Γ genE ops o k:Bx Kr).f cD cH σ η wl=_;have ih:=vuu (ops:=ops) (cD:=cD) (cH:=cH) r
  cases hc:crun P Γ genE ops r with
  | mk k=>
   rw [hc] at ih;have ih':∀ σ η wl,k cD cH σ η wl=wik cD cH P Γ ops r σ η wl:=ih;show (cgd P Γ genE ops o k).f cD cH σ η wl=_;rw [v19 (zy5 (fun r=>thn k cD cH wl (evDo cD cH o σ η r)) (fun g=>rfl) (fun _ hd=>zw6 hd) (fun hd=>w1r hd) rfl)];unfold wik evGd
   cases znr ops σ o with
   | plain=>
    dsimp only
    cases evDo cD cH o σ η (opF P Γ (y3w ops o.dst) false σ η η.length o) with
    | none=>rfl
    | some p=>obtain ⟨s,h,ws⟩:=p;simp only [zsp];exact ih' _ _ _
   | when d c b=>
    dsimp only;by_cases hcb:c=b
    . simp only [if_pos hcb]
      cases evDo cD cH o σ η (opF P Γ (y3w ops o.dst) false σ η η.length o) with
      | none=>rfl
      | some p=>obtain ⟨s,h,ws⟩:=p;simp only [zsp];exact ih' _ _ _
    . simp only [if_neg hcb,zsp];exact ih' _ _ _
   | skip d=>simp only [zsp];exact ih' _ _ _
   | bad=>rfl
theorem wq0 {wl:List Nat} {σ:List SV} {η:List SB} {rd rh:List Nat} {x:SV} {d:Nat} (hr:∀ r∈rd,r∈opRd o.op) (hd:o.dst=some d):thn k cD cH wl (wh3 cD o σ η (vO o rd rh (some x)))=k cD cH (σ.set d x) η wl:=by
 unfold vO;rw [hd]
 have h1:inRd (d::rd) (sRd o)=true:=by
  unfold inRd;rw [List.all_eq_true];intro y hy
  have:y∈sRd o:=by
   unfold sRd v9o;rw [hd];simp only [List.mem_append,List.mem_cons] at hy ⊢
   rcases hy with rfl | hy
   . exact .inl (.inl rfl)
   . exact .inr (hr y hy)
  simpa using this
 simp only [wh3,h1,hd,yb8,and_self,if_true];rfl
theorem w5s {wl:List Nat} {σ:List SV} {η:List SB} {rd rh:List Nat} (hd:o.dst=none):thn k cD cH wl (wh3 cD o σ η (vO o rd rh x))=none:=by
 unfold vO
 cases x<;>simp only [hd,wh3,thn]
theorem ygt {ops:List Oper} {cD:CD} {cH:CH}:∀(l:List Oper) (σ:List SV) (η:List SB) (wl:List Nat),(crun P Γ genP ops l).f cD cH σ η wl=vsd cD P Γ ops l σ η wl
 | [],σ,η,wl=>rfl
 | o::r,σ,η,wl=>by
  show (match crun P Γ genP ops r with | ⟨k⟩=>cgd P Γ genP ops o k:Bx Kr).f cD cH σ η wl=_;have ih:=ygt (ops:=ops) (cD:=cD) (cH:=cH) r
  cases hc:crun P Γ genP ops r with
  | mk k=>
   rw [hc] at ih;have ih':∀ σ η wl,k cD cH σ η wl=vsd cD P Γ ops r σ η wl:=ih;show (cgd P Γ genP ops o k).f cD cH σ η wl=_;rw [v19 (zy5 (fun r=>thn k cD cH wl (wh3 cD o σ η r)) (fun g=>rfl) (fun hr hd=>wq0 hr hd) (fun hd=>w5s hd) rfl)];unfold vsd vhm
   cases znr ops σ o with
   | plain=>
    dsimp only
    cases wh3 cD o σ η (opF P Γ (y3w ops o.dst) false σ η η.length o) with
    | none=>rfl
    | some p=>obtain ⟨s,h,ws⟩:=p;exact ih' _ _ _
   | when d c b=>
    dsimp only;by_cases hcb:c=b
    . simp only [if_pos hcb]
      cases wh3 cD o σ η (opF P Γ (y3w ops o.dst) false σ η η.length o) with
      | none=>rfl
      | some p=>obtain ⟨s,h,ws⟩:=p;exact ih' _ _ _
    . simp only [if_neg hcb];exact ih' _ _ _
   | skip d=>exact ih' _ _ _
   | bad=>rfl
theorem xyr {N : Nat} : ∀ (c : Code) (σ : List SV) (η : List SB) (wl : List Nat), (xmg P Γ N c).f cD cH σ η wl = wgq cD cH P Γ N c σ η wl := by
 intro c
 induction c with
 | region id ops dr=>
  intro σ η wl
  cases dr with
  | true=>
   show (match P.follows .mixedOrders,stOk ops.toList,crun P Γ genP ops.toList ops.toList with
    | true,true,⟨f⟩=>⟨fun cD cH σ η wl=>rgB (f cD cH σ η wl) (dRg P Γ ops cD cH σ η wl)⟩
    | true,false,_=>⟨fun cD cH σ η wl=>dRg P Γ ops cD cH σ η wl⟩
    | false,_,_=>⟨fun _ _ _ _ _=>none⟩:Bx Kc).f cD cH σ η wl=_
   have hp:=ygt (P:=P) (Γ:=Γ) (ops:=ops.toList) (cD:=cD) (cH:=cH) ops.toList σ η wl;unfold wgq vzu
   cases hm:P.follows .mixedOrders with
   | false=>rfl
   | true=>
    cases hs:stOk ops.toList with
    | false=>rfl
    | true=>
     cases hc:crun P Γ genP ops.toList ops.toList with
     | mk f=>
      rw [hc] at hp;show rgB (f cD cH σ η wl) (dRg P Γ ops cD cH σ η wl)=_;have hp':f cD cH σ η wl=vsd cD P Γ ops.toList ops.toList σ η wl:=hp;rw [hp']
      cases vsd cD P Γ ops.toList ops.toList σ η wl with
      | none=>rfl
      | some p=>rfl
  | false=>
   show (match crun P Γ genE ops.toList ops.toList with | ⟨f⟩=>⟨fun cD cH σ η wl=>nrm (f cD cH σ η wl)⟩:Bx Kc).f cD cH σ η wl=_
   have:=vuu (P:=P) (Γ:=Γ) (ops:=ops.toList) (cD:=cD) (cH:=cH) ops.toList σ η wl
   cases hc:crun P Γ genE ops.toList ops.toList with
   | mk f=>
    rw [hc] at this;show nrm (f cD cH σ η wl)=_;unfold wgq nrm;rw [<-this];rfl
 | seq a b iha ihb =>
  intro σ η wl;show (match xmg P Γ N a,xmg P Γ N b with | ⟨f⟩,⟨g⟩=>⟨fun cD cH σ η wl=>sqB (g cD cH) (f cD cH σ η wl)⟩:Bx Kc).f cD cH σ η wl=_
  cases ha:xmg P Γ N a with
  | mk f=>
   cases hb:xmg P Γ N b with
   | mk g=>
    rw [ha] at iha;rw [hb] at ihb;show sqB (g cD cH) (f cD cH σ η wl)=_;unfold wgq;rw [<-iha σ η wl];unfold sqB
    split
    . rename_i e;simp only [e];exact ihb _ _ _
    . rename_i hne
      split
      . rename_i e;exact absurd e (hne _ _ _)
      . rfl
 | cond c a b iha ihb=>
  intro σ η wl;show (match copd Γ c,xmg P Γ N a,xmg P Γ N b with | ⟨gc⟩,⟨f⟩,⟨g⟩=>⟨fun cD cH σ η wl=>cnB (f cD cH σ η wl) (g cD cH σ η wl) (gc σ)⟩:Bx Kc).f cD cH σ η wl=_;have hc:=y5x (Γ:=Γ) (x:=c) (σ:=σ)
  cases h0:copd Γ c with
  | mk gc=>
   cases ha:xmg P Γ N a with
   | mk f=>
    cases hb:xmg P Γ N b with
    | mk g=>
     rw [ha] at iha;rw [hb] at ihb;rw [h0] at hc;show cnB (f cD cH σ η wl) (g cD cH σ η wl) (gc σ)=_;have hc':gc σ=opdS Γ σ c:=hc;rw [hc'];unfold wgq;rw [<-iha σ η wl,<-ihb σ η wl];rfl
 | block id a iha=>
  intro σ η wl;show (match xmg P Γ N a with | ⟨f⟩=>⟨fun cD cH σ η wl=>blB id (f cD cH σ η wl)⟩:Bx Kc).f cD cH σ η wl=_
  cases ha:xmg P Γ N a with
  | mk f=>
   rw [ha] at iha;show blB id (f cD cH σ η wl)=_;unfold wgq;rw [<-iha σ η wl];rfl
 | loop a iha=>
  intro σ η wl;show (match xmg P Γ N a with | ⟨f⟩=>⟨fun cD cH σ η wl=>y7c (f cD cH) N σ η wl⟩:Bx Kc).f cD cH σ η wl=_
  cases ha:xmg P Γ N a with
  | mk f=>
   rw [ha] at iha;show y7c (f cD cH) N σ η wl=_;unfold wgq
   have:f cD cH=wgq cD cH P Γ N a:=by
    funext σ η wl;exact iha σ η wl
   rw [this]
 | scope a iha=>
  intro σ η wl;show (match xmg P Γ N a with | ⟨f⟩=>⟨fun cD cH σ η wl=>scB (f cD cH σ η wl)⟩:Bx Kc).f cD cH σ η wl=_
  cases ha:xmg P Γ N a with
  | mk f=>
   rw [ha] at iha;show scB (f cD cH σ η wl)=_;unfold wgq;rw [<-iha σ η wl];rfl
 | _=>intro σ η wl;rfl
theorem zu9 {N:Nat} {l:List SV} {η:List SB}:(cfun P Γ N f).f cD cH l η=yiz cD cH P Γ N f l η:=by
 unfold cfun yiz
 cases hf:P.funcs[f]? with
 | none=>rfl
 | some fn=>
  dsimp only
  cases hb:fn.body with
  | none=>rfl
  | some c=>
   cases hn:fn.name == "runtime.NumGoroutine" with
   | true=>rfl
   | false=>
    have hcode:=xyr (P:=P) (Γ:=Γ) (N:=N) (cD:=cD) (cH:=cH) c
    show (frcN fn.params.size fun np=>frcL (List.replicate (fn.ntmps-np) SV.undef) fun pad=>(⟨fun cD cH l η=>vvy l fun l=>match l.length==np with
     | true=>xby P fn.results.toList ((xmg P Γ N c).f cD cH (appF l pad) η [])
     | false=>xby P fn.results.toList ((xmg P Γ N c).f cD cH (l++List.replicate (fn.ntmps-l.length) SV.undef) η [])⟩:Bx Kf)).f cD cH l η=_
    rw [xbt,zsp]
    show (vvy l fun l=>match l.length==fn.params.size with
     | true=>xby P fn.results.toList ((xmg P Γ N c).f cD cH (appF l (List.replicate (fn.ntmps-fn.params.size) SV.undef)) η [])
     | false=>xby P fn.results.toList ((xmg P Γ N c).f cD cH (l++List.replicate (fn.ntmps-l.length) SV.undef) η []))=_
    rw [x65];dsimp only;rw [x65];have key:xby P fn.results.toList ((xmg P Γ N c).f cD cH (l++List.replicate (fn.ntmps-l.length) SV.undef) η [])=_:=congrArg (xby P fn.results.toList) (hcode (l++List.replicate (fn.ntmps-l.length) SV.undef) η [])
    split
    . rename_i hl;rw [yfl,<-(beq_iff_eq.1 hl),key];rfl
    . rw [key];rfl
variable (P Γ)
mutual
def fvD (known:FuncId->List AV->Option AV) (N:Nat):Nat->FuncId->List AV->Option AV
 | 0,_,_=>none
 | n+1,f,l=>match known f l with
  | some r=>some r
  | none=>match zsa l with
   | some sl=>match cfun P Γ N f with
    | ⟨g⟩=>match g (fvD known N n) (fvH known N n) sl [] with
     | some (x,η,_)=>(wle η x).map (·.1)
     | none=>none
   | none=>none
def fvH (known:FuncId->List AV->Option AV) (N:Nat):Nat->FuncId->List SB->List SV->Option (List SB×SV×List Nat)
 | 0,_,_,_=>none
 | n+1,f,η,l=>match cfun P Γ N f with
  | ⟨g⟩=>match g (fvD known N n) (fvH known N n) l η with
   | some (x,h,wl)=>match y6o η.length (wje η.length x h) with
    | (h',y)=>some (h',y,wl.filter (fun i=>decide (i<η.length)))
   | none=>none
end
variable {P Γ}
theorem vcu {known:FuncId->List AV->Option AV} {N:Nat}:∀ n,fvD P Γ known N n=evD P Γ known N n/\fvH P Γ known N n=evH P Γ known N n
 | 0=>⟨by funext f l;simp [fvD,evD],by funext f η l;simp [fvH,evH]⟩
 | n + 1 => by
  obtain ⟨h1,h2⟩:=vcu (known:=known) (N:=N) n;constructor
  . funext f l
    unfold fvD evD;rw [h1,h2]
    split
    . rename_i r hr;simp only [hr]
    . rename_i hr;simp only [hr]
      cases zsa l with
      | none=>rfl
      | some sl=>
       have:=zu9 (P:=P) (Γ:=Γ) (N:=N) (f:=f) (cD:=evD P Γ known N n) (cH:=evH P Γ known N n) (l:=sl) (η:=[])
       cases hc:cfun P Γ N f with
       | mk g=>
        rw [hc] at this;simp only [];rw [<-this];rfl
  . funext f η l
    unfold fvH evH;rw [h1,h2]
    have:=zu9 (P:=P) (Γ:=Γ) (N:=N) (f:=f) (cD:=evD P Γ known N n) (cH:=evH P Γ known N n) (l:=l) (η:=η)
    cases hc:cfun P Γ N f with
    | mk g=>
     rw [hc] at this;simp only [];rw [<-this];rfl
theorem CallsD.fv {known:FuncId->List AV->Option AV} (hK:OkD Γ P known) {N n:Nat} {l:List AV} {r:AV} (h:fvD P Γ known N n f l=some r):CallsD Γ P f l r:=CallsD.ev hK (by rw [<-(vcu _).1];exact h)
end
end Go.Hp
namespace Go.Hp
open Go Go.RowKit Go.Slot
variable {P:Program} {Γ:List (Nat×List Cell)}
def wa2 (l:List UInt8):AV:=.one (.raw (.string ⟨⟨l⟩⟩))
theorem OkD.or {k k':FuncId->List AV->Option AV} (h:OkD Γ P k) (h':OkD Γ P k'):OkD Γ P (fun f l=>match k f l with
 | .some r=>.some r
 | .none=>k' f l):=fun f l r e=>by
 simp only at e;split at e
 . rename_i x hx;cases e;exact h _ _ _ hx
 . exact h' _ _ _ e
end Go.Hp
