import Derived.Test.YtpkininnjhbeaaaGreatDoorY20
namespace Go.Hp
open Go Go.RowKit Go.Slot
variable {x:Option SV} {o:Oper} {f:FuncId}
structure Bx (α:Type) where
 f:α
abbrev CD:=FuncId->List AV->Option AV
variable {cD:CD}
abbrev CH:=FuncId->List SB->List SV->Option (List SB×SV×List Nat)
variable {cH:CH}
abbrev Kr:=CD->CH->List SV->List SB->List Nat->Option (List SV×List SB×List Nat)
variable {k:Kr}
abbrev Kc:=CD->CH->List SV->List SB->List Nat->Option (Exit×List SV×List SB×List Nat)
noncomputable section
def gtF (I:List SV):Nat->SV:=List.rec (motive:=fun _=>Nat->SV) (fun _=>.any) (fun x _ ih i=>Nat.rec (motive:=fun _=>SV) x (fun n _=>ih n) i) I
theorem vpr:∀(I:List SV) (i:Nat),gtF I i=gtS I i
 | [],_=>rfl
 | _::_,0=>rfl
 | x::l,i+1=>by
  show gtF l i=_;rw [vpr l i];simp [gtS]
def setF (I:List SV) (x:SV):Nat->List SV:=List.rec (motive:=fun _=>Nat->List SV) (fun _=>[]) (fun y l ih i=>Nat.rec (motive:=fun _=>List SV) (x::l) (fun n _=>y::ih n) i) I
theorem wlb:∀(I:List SV) (x:SV) (i:Nat),setF I x i=I.set i x
 | [],_,_=>rfl
 | _::_,_,0=>rfl
 | y::l,x,i+1=>by
  show y::setF l x i=_;rw [wlb l x i];rfl
def frcW {β:Type}:SV->(SV->β)->β
 | .one h,k=>k (.one h)
 | .agg l,k=>k (.agg l)
 | .undef,k=>k .undef
 | .tup l,k=>k (.tup l)
 | .elt l,k=>k (.elt l)
 | .any,k=>k .any
theorem wa5 {β:Type} (x:SV) (k:SV->β):frcW x k=k x:=by cases x<;>rfl
variable (P:Program) (Γ:List (Nat×List Cell))
def copd:Operand->Bx (List SV->SV)
 | .tmp t=>⟨fun I=>gtF I t⟩
 | .const v=>frcS (xa8 v) fun x=>⟨fun _=>x⟩
 | .func f=>⟨fun _=>.one (.dat (.raw (.func (.func f) #[] #[])))⟩
 | .global g=>⟨fun _=>w8c Γ g⟩
theorem wkn {x:Operand} {I:List SV}:(copd Γ x).f I=opdS Γ I x:=by
 cases x with
 | tmp t=>exact vpr _ _
 | const v=>show (frcS (xa8 v) fun x=>(⟨fun _=>x⟩:Bx (List SV->SV))).f I=_;rw [wbt];rfl
 | func f=>rfl
 | global g=>rfl
def thn (k:Kr) (cD:CD) (cH:CH) (wl:List Nat):Option (List SV×List SB×List Nat)->Option (List SV×List SB×List Nat)
 | some (s,h,ws)=>k cD cH s h (ws++wl)
 | none=>none
def binB (op:BinOp) (k:Value->Option (List SV×List SB×List Nat)) (bad:Option (List SV×List SB×List Nat)):SV->SV->Option (List SV×List SB×List Nat)
 | .one (.dat (.raw a)),.one (.dat (.raw b))=>match abin op a b with
  | some v=>frcV v k
  | none=>bad
 | _,_=>bad
def unB (op:UnOp) (k:Value->Option (List SV×List SB×List Nat)) (bad:Option (List SV×List SB×List Nat)):SV->Option (List SV×List SB×List Nat)
 | .one (.dat (.raw a))=>match aun op a with
  | some v=>frcV v k
  | none=>bad
 | _=>bad
def xui (k:SV->Option (List SV×List SB×List Nat)) (bad:Option (List SV×List SB×List Nat)) (x y:SV):SV->Option (List SV×List SB×List Nat)
 | .one (.dat (.raw (.bool true)))=>frcW x k
 | .one (.dat (.raw (.bool false)))=>frcW y k
 | _=>bad
def xid (k:Value->Option (List SV×List SB×List Nat)) (bad:Option (List SV×List SB×List Nat)):SV->SV->Option (List SV×List SB×List Nat)
 | .one (.dat (.raw (.string s))),.one (.dat (.raw (.int _ i)))=>if 0<=i/\i<s.size then frcV (.int .u8 (yuk s i.toNat)) k else bad
 | _,_=>bad
abbrev Rk:=Option (List SV×List SB×List Nat)
def ovB (k:SV->Rk):Option SV->Rk
 | some v=>frcS v k
 | none=>none
def owB (k:SV->Rk):Option SV->Rk
 | some v=>frcW v k
 | none=>none
def ovB' (k:SV->Rk) (bad:Rk):Option SV->Rk
 | some v=>frcS v k
 | none=>bad
def gbF (J:List SB):Nat->SB:=List.rec (motive:=fun _=>Nat->SB) (fun _=>.dead) (fun x _ ih i=>Nat.rec (motive:=fun _=>SB) x (fun n _=>ih n) i) J
theorem x3u:∀(J:List SB) (i:Nat),gbF J i=gB J i
 | [],_=>rfl
 | _::_,0=>rfl
 | x::l,i+1=>by
  show gbF l i=_;rw [x3u l i];simp [gB]
def drF (l:List HC):Nat->List HC:=List.rec (motive:=fun _=>Nat->List HC) (fun _=>[]) (fun x l ih i=>Nat.rec (motive:=fun _=>List HC) (x::l) (fun n _=>ih n) i) l
theorem ydg:∀(l:List HC) (i:Nat),drF l i=l.drop i
 | [],i=>by cases i<;>rfl
 | _::_,0=>rfl
 | x::l,i+1=>by
  show drF l i=_;rw [ydg l i];rfl
def ldB (ti:TI) (J:List SB) (k:SV->Rk):SV->Rk
 | .one (.ptr b off)=>match gbF J b with
  | .box hs _=>owB k (yi8 ti (drF hs off))
  | _=>none
 | x=>match seeH J x with
  | some (_,hs)=>owB k (yi8 ti hs)
  | none=>none
theorem wq7 {ti:TI} {J:List SB} {k:SV->Rk} (x:SV):ldB ti J k x=match seeH J x with
 | some (_,hs)=>owB k (yi8 ti hs)
 | none=>none:=by
 unfold ldB
 split
 . rename_i b off;unfold seeH;rw [x3u]
   split
   . rename_i hs T hb;simp only [hb,ydg]
   . rename_i hne
     cases hb:gB J b with
     | box hs T=>exact absurd hb (hne _ _)
     | _=>simp only [hb]
 . rfl
def nilB (k:SV->Rk) (x:SV):Rk:=match ptrH x with
 | true=>frcW x k
 | false=>none
def lenB (ti:TI) (k:Value->Rk) (bad:Rk):SV->Rk
 | .one (.dat c)=>match zps ti c,lenC c with
  | true,some n=>frcV (.int .i64 (n:Int)) k
  | _,_=>bad
 | _=>bad
def idxB (n es:Nat) (te:TI) (k:SV->Rk) (x y:SV):Rk:=match intS y with
 | some ix=>if (0<=ix/\ix<n)/\es=te.size then owB k (wco (ix.toNat*es) te x) else none
 | none=>none
def cFs (P:Program) (S:TypeId) (f:Nat):Option (Nat×TypeId):=match mkTI P S with
 | some ti=>match ti.sh with
  | .struct fs=>match fs[f]? with
   | some (off,_,ft)=>some (off,ft)
   | none=>none
  | _=>none
 | none=>none
def cAr (P:Program) (T:TypeId):Option (Nat×Nat×TI):=match mkTI P T with
 | some ti=>match ti.sh with
  | .array n e es=>match mkTI P e with
   | some te=>some (n,es,te)
   | none=>none
  | _=>none
 | none=>none
def genE (o:Oper) (k:Kr) (g:List SV->List SB->HO):Kr:=fun cD cH I J wl=>thn k cD cH wl (evDo cD cH o I J (g I J))
def genP (o:Oper) (k:Kr) (g:List SV->List SB->HO):Kr:=fun cD cH I J wl=>thn k cD cH wl (vv0 cD o I J (g I J))
variable (gen:Oper->Kr->(List SV->List SB->HO)->Kr)
def cdo (lit:Bool) (o:Oper) (k:Kr):Bx Kr:=match o.op with
 | .move x=>match o.dst,copd Γ x with
  | some d,⟨g⟩=>⟨fun cD cH I J wl=>frcW (g I) fun x=>k cD cH (setF I x d) J wl⟩
  | none,_=>⟨fun _ _ _ _ _=>none⟩
 | .assign x=>match o.dst,copd Γ x with
  | some d,⟨g⟩=>⟨fun cD cH I J wl=>frcW (g I) fun x=>k cD cH (setF I x d) J wl⟩
  | none,_=>⟨fun _ _ _ _ _=>none⟩
 | .pick c x y=>match o.dst,copd Γ c,copd Γ x,copd Γ y with
  | some d,⟨gc⟩,⟨gx⟩,⟨gy⟩=>⟨fun cD cH I J wl=>xui (fun v=>k cD cH (setF I v d) J wl) (gen o k (fun I J=>xzg P Γ I J.length o c x y) cD cH I J wl) (gx I) (gy I) (gc I)⟩
  | none,_,_,_=>⟨gen o k fun I J=>xzg P Γ I J.length o c x y⟩
 | .binOp op _ x y _=>match o.dst,copd Γ x,copd Γ y with
  | some d,⟨gx⟩,⟨gy⟩=>⟨fun cD cH I J wl=>binB op (fun v=>k cD cH (setF I (.one (.dat (.raw v))) d) J wl) (gen o k (fun I J=>fBin P Γ I J J.length o op x y) cD cH I J wl) (gx I) (gy I)⟩
  | none,_,_=>⟨gen o k fun I J=>fBin P Γ I J J.length o op x y⟩
 | .unOp op _ x=>match o.dst,copd Γ x with
  | some d,⟨gx⟩=>⟨fun cD cH I J wl=>unB op (fun v=>k cD cH (setF I (.one (.dat (.raw v))) d) J wl) (gen o k (fun I J=>fUn P Γ I J J.length o op x) cD cH I J wl) (gx I)⟩
  | none,_=>⟨gen o k fun I J=>fUn P Γ I J J.length o op x⟩
 | .load T x=>match o.dst,mkTI P T,copd Γ x with
  | some d,some ti,⟨gx⟩=>⟨fun cD cH I J wl=>ldB ti J (fun v=>k cD cH (setF I v d) J wl) (gx I)⟩
  | _,_,_=>⟨gen o k fun I J=>wfd P Γ I J o T x⟩
 | .store T x y=>⟨gen o k fun I J=>v47 P Γ I J o T x y⟩
 | .fieldAddr S x f=>match o.dst,cFs P S f,copd Γ x with
  | some d,some (off,_),⟨gx⟩=>⟨fun cD cH I J wl=>ovB (fun v=>k cD cH (setF I v d) J wl) (vlp (gx I) off)⟩
  | _,_,_=>⟨gen o k fun I _=>xws P Γ I o S x f⟩
 | .indexAddr T x y=>match o.dst,mkTI P T,copd Γ x,copd Γ y with
  | some d,some ti,⟨gx⟩,⟨gy⟩=>⟨fun cD cH I J wl=>ovB' (fun v=>k cD cH (setF I v d) J wl) (gen o k (fun I J=>wr0 P Γ I J.length o T x y) cD cH I J wl) (vui ti.sh (gx I) (gy I))⟩
  | _,_,_,_=>⟨gen o k fun I J=>wr0 P Γ I J.length o T x y⟩
 | .field T x f=>match o.dst,cFs P T f,copd Γ x with
  | some d,some (off,ft),⟨gx⟩=>match mkTI P ft with
   | some tf=>⟨fun cD cH I J wl=>owB (fun v=>k cD cH (setF I v d) J wl) (wco off tf (gx I))⟩
   | none=>⟨gen o k fun I _=>zl3 P Γ I o T x f⟩
  | _,_,_=>⟨gen o k fun I _=>zl3 P Γ I o T x f⟩
 | .index T x y=>match o.dst,(mkTI P T).map TI.sh,copd Γ x,copd Γ y with
  | some d,some .string,⟨gx⟩,⟨gy⟩=>⟨fun cD cH I J wl=>xid (fun v=>k cD cH (setF I (.one (.dat (.raw v))) d) J wl) (gen o k (fun I _=>vj7 P Γ I o T x y) cD cH I J wl) (gx I) (gy I)⟩
  | some d,_,⟨gx⟩,⟨gy⟩=>match cAr P T with
   | some (n,es,te)=>⟨fun cD cH I J wl=>idxB n es te (fun v=>k cD cH (setF I v d) J wl) (gx I) (gy I)⟩
   | none=>⟨gen o k fun I _=>vj7 P Γ I o T x y⟩
  | _,_,_,_=>⟨gen o k fun I _=>vj7 P Γ I o T x y⟩
 | .extract x n=>match o.dst,copd Γ x with
  | some d,⟨gx⟩=>⟨fun cD cH I J wl=>owB (fun v=>k cD cH (setF I v d) J wl) (ydz (gx I) n)⟩
  | _,_=>⟨gen o k fun I _=>zth Γ I o x n⟩
 | .nilCheck x=>match o.dst,copd Γ x with
  | some d,⟨gx⟩=>⟨fun cD cH I J wl=>nilB (fun v=>k cD cH (setF I v d) J wl) (gx I)⟩
  | _,_=>⟨gen o k fun I _=>fNil Γ I o x⟩
 | .build T ps=>⟨gen o k fun I _=>vf9 P Γ I o T ps⟩
 | .alloc T=>⟨gen o k fun _ J=>vte P J.length o T⟩
 | .box T x=>⟨gen o k fun I J=>fBox Γ I J.length o T x⟩
 | .call c=>match c.callee with
  | .value x=>match c.args.toList with
   | xs=>⟨gen o k fun I J=>wds P Γ (wew lit false) I J o x xs⟩
  | .builtin .len=>match c.args.toList,c.argTypes.toList with
   | [x],[T]=>match o.dst,mkTI P T,copd Γ x with
    | some d,some ti,⟨gx⟩=>⟨fun cD cH I J wl=>lenB ti (fun v=>k cD cH (setF I (.one (.dat (.raw v))) d) J wl) (gen o k (fun I J=>fLen P Γ lit false I J J.length o x T) cD cH I J wl) (gx I)⟩
    | _,_,_=>⟨gen o k fun I J=>fLen P Γ lit false I J J.length o x T⟩
   | _,_=>⟨gen o k fun I J=>opH P Γ lit false I J J.length o⟩
  | _=>⟨gen o k fun I J=>opH P Γ lit false I J J.length o⟩
 | _=>⟨gen o k fun I J=>opH P Γ lit false I J J.length o⟩
variable {P Γ}
theorem xjq {wl:List Nat} {I:List SV} {J:List SB} {rd rh:List Nat} {x:SV} {d:Nat} (hd:o.dst=some d):thn k cD cH wl (evDo cD cH o I J (vO o rd rh (some x)))=k cD cH (I.set d x) J wl:=by
 unfold vO;rw [hd];simp only [evDo,wpe,xvv,thn,appL,List.map_nil,List.nil_append]
theorem woi {wl:List Nat} {I:List SV} {J:List SB} {rd rh:List Nat} (hd:o.dst=none):thn k cD cH wl (evDo cD cH o I J (vO o rd rh x))=none:=by
 unfold vO
 cases x<;>simp only [hd,evDo,thn]
theorem vuw {gen:Oper->Kr->(List SV->List SB->HO)->Kr} {lit:Bool} {I:List SV} {J:List SB} {wl:List Nat} (spec:HO->Option (List SV×List SB×List Nat)) (h1:∀ g,gen o k g cD cH I J wl=spec (g I J))
 (xjq:∀{rd rh:List Nat} {d:Nat} {x:SV},(∀ r∈rd,r∈opRd o.op)->o.dst=some d->spec (vO o rd rh (some x))=k cD cH (I.set d x) J wl) (woi:∀{rd rh:List Nat} {x:Option SV},o.dst=none->spec (vO o rd rh x)=none) (hbad:spec .bad=none) :
 (cdo P Γ gen lit o k).f cD cH I J wl=spec (opF P Γ lit false I J J.length o):=by
 unfold cdo
 split
 . rename_i x ho;unfold opF;rw [ho];dsimp only;unfold zqg
   split
   . rename_i d g hd hg;rw [xjq (by rw [ho];exact fun r h=>h) hd];show frcW (g I) _=_;rw [wa5,wlb,<-wkn,hg]
   . rename_i hd;rw [woi hd]
 . rename_i x ho;unfold opF;rw [ho];dsimp only;unfold zqg
   split
   . rename_i d g hd hg;rw [xjq (by rw [ho];exact fun r h=>h) hd];show frcW (g I) _=_;rw [wa5,wlb,<-wkn,hg]
   . rename_i hd;rw [woi hd]
 . rename_i c x y ho;unfold opF;rw [ho];dsimp only
   split
   . rename_i d gc gx gy hd hc hx hy
     have ec:gc I=opdS Γ I c:=by rw [<-wkn,hc]
     have ex:gx I=opdS Γ I x:=by rw [<-wkn,hx]
     have ey:gy I=opdS Γ I y:=by rw [<-wkn,hy]
     show xui _ _ (gx I) (gy I) (gc I)=_;rw [ec,ex,ey];unfold xui
     split
     . rename_i hb;unfold xzg vby;rw [hb,wa5,wlb];exact (xjq (by rw [ho];exact fun r h=>h) hd).symm
     . rename_i hb;unfold xzg vby;rw [hb,wa5,wlb];exact (xjq (by rw [ho];exact fun r h=>h) hd).symm
     . exact h1 _
   . exact h1 _
 . rename_i op T x y U ho;unfold opF;rw [ho];dsimp only
   split
   . rename_i d gx gy hd hx hy
     have ex:gx I=opdS Γ I x:=by rw [<-wkn,hx]
     have ey:gy I=opdS Γ I y:=by rw [<-wkn,hy]
     show binB _ _ _ (gx I) (gy I)=_;rw [ex,ey];unfold binB
     split
     . rename_i a b ha hb
       split
       . rename_i v hv;unfold fBin v6u;rw [ha,hb,ypl,wlb];simp only [hv];exact (xjq (by rw [ho];exact fun r h=>h) hd).symm
       . exact h1 _
     . exact h1 _
   . exact h1 _
 . rename_i op T x ho;unfold opF;rw [ho];dsimp only
   split
   . rename_i d gx hd hx
     have ex:gx I=opdS Γ I x:=by rw [<-wkn,hx]
     show unB _ _ _ (gx I)=_;rw [ex];unfold unB
     split
     . rename_i a ha
       split
       . rename_i v hv;unfold fUn rawS;rw [ha,ypl,wlb];simp only [hv];exact (xjq (by rw [ho];exact fun r h=>h) hd).symm
       . exact h1 _
     . exact h1 _
   . exact h1 _
 case h_6 T x ho=>
  unfold opF;rw [ho];dsimp only
  split
  . rename_i d ti gx hd hti hx
    have ex:gx I=opdS Γ I x:=by rw [<-wkn,hx]
    show ldB _ _ _ (gx I)=_;rw [ex,wq7];unfold wfd vem;simp only [hti]
    cases seeH J (opdS Γ I x) with
    | none=>exact hbad.symm
    | some p=>
     obtain ⟨rh,hs⟩:=p;simp only []
     cases yi8 ti hs with
     | none=>exact (by unfold vO;exact hbad.symm)
     | some v=>unfold owB;simp only [wa5,wlb];exact (xjq (by rw [ho];exact fun r h=>h) hd).symm
  . exact h1 _
 case h_8 S x f ho=>
  unfold opF;rw [ho];dsimp only
  split
  . rename_i d off ft gx hd hfs hx
    have ex:gx I=opdS Γ I x:=by rw [<-wkn,hx]
    show ovB _ (vlp (gx I) off)=_;rw [ex];unfold cFs at hfs;split at hfs
    . rename_i ti hti;split at hfs
      . rename_i fs hsh;split at hfs
        . rename_i off' sz ft' hf
          cases hfs;unfold xws vem;simp only [hti,hsh,hf]
          cases vlp (opdS Γ I x) off with
          | none=>exact (by unfold vO;exact hbad.symm)
          | some v=>unfold ovB;simp only [wbt,wlb];exact (xjq (by rw [ho];exact fun r h=>h) hd).symm
        . cases hfs
      . cases hfs
    . cases hfs
  . exact h1 _
 case h_9 T x y ho=>
  unfold opF;rw [ho];dsimp only
  split
  . rename_i d ti gx gy hd hti hx hy
    have ex:gx I=opdS Γ I x:=by rw [<-wkn,hx]
    have ey:gy I=opdS Γ I y:=by rw [<-wkn,hy]
    show ovB' _ _ (vui ti.sh (gx I) (gy I))=_;rw [ex,ey,h1]
    cases hv:vui ti.sh (opdS Γ I x) (opdS Γ I y) with
    | none=>rfl
    | some v=>
     unfold wr0 vem ovB';simp only [hti,hv,wbt,wlb];exact (xjq (by rw [ho];exact fun r h=>h) hd).symm
  . exact h1 _
 case h_10 T x f ho=>
  unfold opF;rw [ho];dsimp only
  split
  . rename_i d off ft gx hd hfs hx
    have ex:gx I=opdS Γ I x:=by rw [<-wkn,hx]
    split
    . rename_i tf htf;show owB _ (wco off tf (gx I))=_;rw [ex];unfold cFs at hfs;split at hfs
      . rename_i ti hti;split at hfs
        . rename_i fs hsh;split at hfs
          . rename_i off' sz ft' hf
            cases hfs;unfold zl3 vem;simp only [hti,hsh,hf,htf]
            cases wco off tf (opdS Γ I x) with
            | none=>exact (by unfold vO;exact hbad.symm)
            | some v=>unfold owB;simp only [wa5,wlb];exact (xjq (by rw [ho];exact fun r h=>h) hd).symm
          . cases hfs
        . cases hfs
      . cases hfs
    . exact h1 _
  . exact h1 _
 case h_12 x n ho=>
  unfold opF;rw [ho];dsimp only
  split
  . rename_i d gx hd hx
    have ex:gx I=opdS Γ I x:=by rw [<-wkn,hx]
    show owB _ (ydz (gx I) n)=_;rw [ex];unfold zth
    cases ydz (opdS Γ I x) n with
    | none=>exact (by unfold vO;exact hbad.symm)
    | some v=>unfold owB;simp only [wa5,wlb];exact (xjq (by rw [ho];exact fun r h=>h) hd).symm
  . exact h1 _
 case h_13 x ho=>
  unfold opF;rw [ho];dsimp only
  split
  . rename_i d gx hd hx
    have ex:gx I=opdS Γ I x:=by rw [<-wkn,hx]
    show nilB _ (gx I)=_;rw [ex];unfold fNil nilB
    cases ptrH (opdS Γ I x) with
    | false=>exact hbad.symm
    | true=>simp only [wa5,wlb,if_true];exact (xjq (by rw [ho];exact fun r h=>h) hd).symm
  . exact h1 _
 case h_11 T x y ho=>
  unfold opF;rw [ho];dsimp only
  split
  . rename_i d gx gy hd hT hx hy
    have ex:gx I=opdS Γ I x:=by rw [<-wkn,hx]
    have ey:gy I=opdS Γ I y:=by rw [<-wkn,hy]
    show xid _ _ (gx I) (gy I)=_;rw [ex,ey];unfold xid
    split
    . rename_i s kd i ha hb
      split
      . rename_i hi;obtain ⟨ti,hti,hs⟩:=Option.map_eq_some_iff.1 hT;unfold vj7 vem;simp only [hti,hs,ha,hb,x72,if_pos hi];rw [ypl,wlb];exact (xjq (by rw [ho];exact fun r h=>h) hd).symm
      . exact h1 _
    . exact h1 _
  . rename_i d gx gy hd hx hy hne
    have ex:gx I=opdS Γ I x:=by rw [<-wkn,hx]
    have ey:gy I=opdS Γ I y:=by rw [<-wkn,hy]
    split
    . rename_i n es te hca;show idxB n es te _ (gx I) (gy I)=_;rw [ex,ey];unfold cAr at hca;split at hca
      . rename_i ti hti;split at hca
        . rename_i n' e' es' hsh;split at hca
          . rename_i te' hte
            cases hca;unfold vj7 vem idxB;simp only [hti,hsh,hte]
            cases intS (opdS Γ I y) with
            | none=>exact hbad.symm
            | some ix=>
             simp only []
             split
             . cases wco (ix.toNat*es) te (opdS Γ I x) with
               | none=>exact (by unfold vO;exact hbad.symm)
               | some v=>unfold owB;simp only [wa5,wlb];exact (xjq (by rw [ho];exact fun r h=>h) hd).symm
             . exact hbad.symm
          . cases hca
        . cases hca
      . cases hca
    . exact h1 _
  . exact h1 _
 case h_17 c ho=>
  unfold opF;rw [ho];dsimp only;unfold y57
  split
  . rename_i x hc;simp only [hc];exact h1 _
  . rename_i hc;simp only [hc]
    split
    . rename_i x T ha ht;simp only [ha,ht]
      split
      . rename_i d ti gx hd hti hx
        have ex:gx I=opdS Γ I x:=by rw [<-wkn,hx]
        show lenB ti _ _ (gx I)=_;rw [ex,h1];unfold lenB
        split
        . rename_i cc hcc
          split
          . rename_i n hok hl;unfold fLen;simp only [hcc,hti,hok,hl,ypl,wlb];exact (xjq (by rw [ho];exact fun r hr=>List.mem_append_right _ (by rw [ha];simpa [orrL] using hr)) hd).symm
          . rfl
        . rfl
      . exact h1 _
    . rename_i hne;refine (h1 _).trans ?_
      split
      . rename_i x T ha ht;exact absurd ht (hne x T ha)
      . rfl
  . rename_i hc1 hc2
    cases hcc:c.callee with
    | value x=>exact absurd hcc (hc1 x)
    | builtin b=>cases b<;>first | exact h1 _ | exact absurd hcc hc2
    | _=>
     simp only [];refine (h1 _).trans ?_
     have:opH P Γ lit false I J J.length o=.bad:=by unfold opH;rw [ho];simp only [hcc]
     rw [this]
 all_goals (first | (rename_i ho;unfold opF;rw [ho];exact h1 _) | (refine (h1 _).trans ?_;unfold opF;split<;>first | rfl | (exfalso;solve_by_elim)))
end
noncomputable section
abbrev Rr:=Option (List SV×List SB×List Nat)
abbrev Rc:=Option (Exit×List SV×List SB×List Nat)
def gdT (y n:Rr):SV->Rr
 | .one (.dat (.raw (.bool true)))=>y
 | .one (.dat (.raw (.bool false)))=>n
 | .undef=>n
 | _=>none
def gdF (y n:Rr):SV->Rr
 | .one (.dat (.raw (.bool true)))=>n
 | .one (.dat (.raw (.bool false)))=>y
 | .undef=>n
 | _=>none
def skp:Option Nat->List SV->List SV
 | some d,I=>setF I .undef d
 | none,I=>I
def nrm:Rr->Rc
 | some (s,h,wl)=>some (.normal,s,h,wl)
 | none=>none
def sqB (g:List SV->List SB->List Nat->Rc):Rc->Rc
 | some (.normal,s,h,w)=>g s h w
 | r=>r
def cnB (x y:Rc):SV->Rc
 | .one (.dat (.raw (.bool true)))=>x
 | .one (.dat (.raw (.bool false)))=>y
 | _=>none
def blB (id:Nat):Rc->Rc
 | some (.exit j,s,h,w)=>if j=id then some (.normal,s,h,w) else some (.exit j,s,h,w)
 | r=>r
def scB:Rc->Rc
 | some (.goto _,_,_,_)=>none
 | r=>r
def rgB:Rr->Rc->Rc
 | some (s,h,wl),_=>some (.normal,s,h,wl)
 | none,r=>r
variable (P:Program) (Γ:List (Nat×List Cell)) (gen:Oper->Kr->(List SV->List SB->HO)->Kr)
def cgd (ops:List Oper) (o:Oper) (k:Kr):Bx Kr:=match o.guard with
 | none=>cdo P Γ gen (yil ops o.dst) o k
 | some (j,b)=>match (ops[j]?).bind (·.dst),cdo P Γ gen (yil ops o.dst) o k,o.dst,b with
  | some d,⟨f⟩,od,true=>⟨fun cD cH I J wl=>gdT (f cD cH I J wl) (k cD cH (skp od I) J wl) (gtF I d)⟩
  | some d,⟨f⟩,od,false=>⟨fun cD cH I J wl=>gdF (f cD cH I J wl) (k cD cH (skp od I) J wl) (gtF I d)⟩
  | none,_,_,_=>⟨fun _ _ _ _ _=>none⟩
def crun (ops:List Oper):List Oper->Bx Kr
 | []=>⟨fun _ _ I J wl=>some (I,J,wl)⟩
 | o::r=>match crun ops r with
  | ⟨k⟩=>cgd P Γ gen ops o k
def dRg (ops:Array Oper):Kc:=fun cD cH I J wl=>match zce cD cH P Γ ops.toList J.length ops.toList [] I (J++[.fresh]) wl with
 | some (s,h,wl)=>some (.normal,s,xyn J.length h,wl)
 | none=>none
def vf3 (N:Nat):Code->Bx Kc
 | .skip=>⟨fun _ _ I J wl=>some (.normal,I,J,wl)⟩
 | .region _ ops false=>match crun P Γ genE ops.toList ops.toList with
  | ⟨f⟩=>⟨fun cD cH I J wl=>nrm (f cD cH I J wl)⟩
 | .region _ ops true=>match P.follows .mixedOrders,stOk ops.toList,crun P Γ genP ops.toList ops.toList with
  | true,true,⟨f⟩=>⟨fun cD cH I J wl=>rgB (f cD cH I J wl) (dRg P Γ ops cD cH I J wl)⟩
  | true,false,_=>⟨fun cD cH I J wl=>dRg P Γ ops cD cH I J wl⟩
  | false,_,_=>⟨fun _ _ _ _ _=>none⟩
 | .seq a b=>match vf3 N a,vf3 N b with
  | ⟨f⟩,⟨g⟩=>⟨fun cD cH I J wl=>sqB (g cD cH) (f cD cH I J wl)⟩
 | .cond c a b=>match copd Γ c,vf3 N a,vf3 N b with
  | ⟨gc⟩,⟨f⟩,⟨g⟩=>⟨fun cD cH I J wl=>cnB (f cD cH I J wl) (g cD cH I J wl) (gc I)⟩
 | .block id a=>match vf3 N a with
  | ⟨f⟩=>⟨fun cD cH I J wl=>blB id (f cD cH I J wl)⟩
 | .loop a=>match vf3 N a with
  | ⟨f⟩=>⟨fun cD cH I J wl=>yw6 (f cD cH) N I J wl⟩
 | .scope a=>match vf3 N a with
  | ⟨f⟩=>⟨fun cD cH I J wl=>scB (f cD cH I J wl)⟩
 | .exit id=>⟨fun _ _ I J wl=>some (.exit id,I,J,wl)⟩
 | .ret=>⟨fun _ _ I J wl=>some (.ret,I,J,wl)⟩
 | .label _=>⟨fun _ _ I J wl=>some (.normal,I,J,wl)⟩
 | _=>⟨fun _ _ _ _ _=>none⟩
def appF (l r:List SV):List SV:=List.rec (motive:=fun _=>List SV) r (fun x _ ih=>x::ih) l
theorem ysr (l r:List SV):appF l r=l++r:=by
 induction l with
 | nil=>rfl
 | cons x l ih=>show x::appF l r=_;rw [ih];rfl
def yg3 (rs:List ResultVar):Rc->Option (SV×List SB×List Nat)
 | some (.ret,I,h,wl)=>(wan P I h rs).map fun x=>(x,h,wl)
 | some (.normal,I,h,wl)=>(wan P I h rs).map fun x=>(x,h,wl)
 | _=>none
abbrev Kf:=CD->CH->List SV->List SB->Option (SV×List SB×List Nat)
def cfun (N:Nat) (f:FuncId):Bx Kf:=match P.funcs[f]? with
 | some fn=>match fn.body,fn.name == "runtime.NumGoroutine" with
  | some c,false=>match vf3 P Γ N c,fn.results.toList,fn.ntmps with
   | ⟨g⟩,rs,nt=>frcN fn.params.size fun np=>frcL (List.replicate (nt-np) SV.undef) fun pad=>⟨fun cD cH l J=>weo l fun l=>match l.length==np with
    | true=>yg3 P rs (g cD cH (appF l pad) J [])
    | false=>yg3 P rs (g cD cH (l++List.replicate (nt-l.length) .undef) J [])⟩
  | _,_=>⟨fun _ _ _ _=>none⟩
 | none=>⟨fun _ _ _ _=>none⟩
variable {P Γ}
theorem v3s {I:List SV}:skp o.dst I=appL (v9n o .undef) I:=by
 unfold skp v9n
 cases o.dst with
 | none=>rfl
 | some d=>exact wlb _ _ _
theorem wul {gen:Oper->Kr->(List SV->List SB->HO)->Kr} {ops:List Oper} {I:List SV} {J:List SB} {wl:List Nat} {A:Rr} (hdo:(cdo P Γ gen (yil ops o.dst) o k).f cD cH I J wl=A) :
 (cgd P Γ gen ops o k).f cD cH I J wl=match xsn ops I o with
   | .plain=>A
   | .when _ c b=>if c=b then A else k cD cH (appL (v9n o .undef) I) J wl
   | .skip _=>k cD cH (appL (v9n o .undef) I) J wl
   | .bad=>none:=by
 unfold cgd xsn
 cases hg:o.guard with
 | none=>exact hdo
 | some p=>
  obtain ⟨j,b⟩:=p;simp only []
  cases hc:cdo P Γ gen (yil ops o.dst) o k with
  | mk f=>
   rw [hc] at hdo
   cases hd:(ops[j]?).bind (·.dst) with
   | none=>cases b<;>rfl
   | some d=>
    cases b with
    | true=>
     show gdT (f cD cH I J wl) (k cD cH (skp o.dst I) J wl) (gtF I d)=_;rw [vpr,v3s];unfold gdT
     split
     . rename_i e;simp only [e];exact hdo
     . rename_i e;simp only [e];rfl
     . rename_i e;simp only [e]
     . rename_i h1 h2 h3;dsimp only
       split
       . rename_i heq;split at heq
         . cases heq
         . cases heq
         . cases heq
       . rename_i heq;split at heq
         . rename_i c e;cases c
           . exact absurd e h2
           . exact absurd e h1
         . cases heq
         . cases heq
       . rename_i heq;split at heq
         . cases heq
         . rename_i e;exact absurd e h3
         . cases heq
       . rfl
    | false=>
     show gdF (f cD cH I J wl) (k cD cH (skp o.dst I) J wl) (gtF I d)=_;rw [vpr,v3s];unfold gdF
     split
     . rename_i e;simp only [e];rfl
     . rename_i e;simp only [e];exact hdo
     . rename_i e;simp only [e]
     . rename_i h1 h2 h3;dsimp only
       split
       . rename_i heq;split at heq
         . cases heq
         . cases heq
         . cases heq
       . rename_i heq;split at heq
         . rename_i c e;cases c
           . exact absurd e h2
           . exact absurd e h1
         . cases heq
         . cases heq
       . rename_i heq;split at heq
         . cases heq
         . rename_i e;exact absurd e h3
         . cases heq
       . rfl
theorem zn8 {ops:List Oper} {cD:CD} {cH:CH}:∀(l:List Oper) (I:List SV) (J:List SB) (wl:List Nat),(crun P Γ genE ops l).f cD cH I J wl=vnr cD cH P Γ ops l I J wl
 | [],I,J,wl=>rfl
 | o::r,I,J,wl=>by
  show (match crun P Γ genE ops r with | ⟨k⟩=>cgd P Γ genE ops o k:Bx Kr).f cD cH I J wl=_;have ih:=zn8 (ops:=ops) (cD:=cD) (cH:=cH) r
  cases hc:crun P Γ genE ops r with
  | mk k=>
   rw [hc] at ih;have ih':∀ I J wl,k cD cH I J wl=vnr cD cH P Γ ops r I J wl:=ih;show (cgd P Γ genE ops o k).f cD cH I J wl=_;rw [wul (vuw (fun r=>thn k cD cH wl (evDo cD cH o I J r)) (fun g=>rfl) (fun _ hd=>xjq hd) (fun hd=>woi hd) rfl)];unfold vnr evGd
   cases xsn ops I o with
   | plain=>
    dsimp only
    cases evDo cD cH o I J (opF P Γ (yil ops o.dst) false I J J.length o) with
    | none=>rfl
    | some p=>obtain ⟨s,h,ws⟩:=p;simp only [wwf];exact ih' _ _ _
   | when d c b=>
    dsimp only;by_cases hcb:c=b
    . simp only [if_pos hcb]
      cases evDo cD cH o I J (opF P Γ (yil ops o.dst) false I J J.length o) with
      | none=>rfl
      | some p=>obtain ⟨s,h,ws⟩:=p;simp only [wwf];exact ih' _ _ _
    . simp only [if_neg hcb,wwf];exact ih' _ _ _
   | skip d=>simp only [wwf];exact ih' _ _ _
   | bad=>rfl
theorem vip {wl:List Nat} {I:List SV} {J:List SB} {rd rh:List Nat} {x:SV} {d:Nat} (hr:∀ r∈rd,r∈opRd o.op) (hd:o.dst=some d):thn k cD cH wl (vv0 cD o I J (vO o rd rh (some x)))=k cD cH (I.set d x) J wl:=by
 unfold vO;rw [hd]
 have h1:inRd (d::rd) (sRd o)=true:=by
  unfold inRd;rw [List.all_eq_true];intro y hy
  have:y∈sRd o:=by
   unfold sRd xl0;rw [hd];simp only [List.mem_append,List.mem_cons] at hy ⊢
   rcases hy with rfl | hy
   . exact .inl (.inl rfl)
   . exact .inr (hr y hy)
  simpa using this
 simp only [vv0,h1,hd,wbt,and_self,if_true];rfl
theorem wt2 {wl:List Nat} {I:List SV} {J:List SB} {rd rh:List Nat} (hd:o.dst=none):thn k cD cH wl (vv0 cD o I J (vO o rd rh x))=none:=by
 unfold vO
 cases x<;>simp only [hd,vv0,thn]
theorem xl4 {ops:List Oper} {cD:CD} {cH:CH}:∀(l:List Oper) (I:List SV) (J:List SB) (wl:List Nat),(crun P Γ genP ops l).f cD cH I J wl=x5a cD P Γ ops l I J wl
 | [],I,J,wl=>rfl
 | o::r,I,J,wl=>by
  show (match crun P Γ genP ops r with | ⟨k⟩=>cgd P Γ genP ops o k:Bx Kr).f cD cH I J wl=_;have ih:=xl4 (ops:=ops) (cD:=cD) (cH:=cH) r
  cases hc:crun P Γ genP ops r with
  | mk k=>
   rw [hc] at ih;have ih':∀ I J wl,k cD cH I J wl=x5a cD P Γ ops r I J wl:=ih;show (cgd P Γ genP ops o k).f cD cH I J wl=_;rw [wul (vuw (fun r=>thn k cD cH wl (vv0 cD o I J r)) (fun g=>rfl) (fun hr hd=>vip hr hd) (fun hd=>wt2 hd) rfl)];unfold x5a vdj
   cases xsn ops I o with
   | plain=>
    dsimp only
    cases vv0 cD o I J (opF P Γ (yil ops o.dst) false I J J.length o) with
    | none=>rfl
    | some p=>obtain ⟨s,h,ws⟩:=p;exact ih' _ _ _
   | when d c b=>
    dsimp only;by_cases hcb:c=b
    . simp only [if_pos hcb]
      cases vv0 cD o I J (opF P Γ (yil ops o.dst) false I J J.length o) with
      | none=>rfl
      | some p=>obtain ⟨s,h,ws⟩:=p;exact ih' _ _ _
    . simp only [if_neg hcb];exact ih' _ _ _
   | skip d=>exact ih' _ _ _
   | bad=>rfl
theorem vmx {N : Nat} : ∀ (c : Code) (I : List SV) (J : List SB) (wl : List Nat), (vf3 P Γ N c).f cD cH I J wl = x7o cD cH P Γ N c I J wl := by
 intro c
 induction c with
 | region id ops dr=>
  intro I J wl
  cases dr with
  | true=>
   show (match P.follows .mixedOrders,stOk ops.toList,crun P Γ genP ops.toList ops.toList with
    | true,true,⟨f⟩=>⟨fun cD cH I J wl=>rgB (f cD cH I J wl) (dRg P Γ ops cD cH I J wl)⟩
    | true,false,_=>⟨fun cD cH I J wl=>dRg P Γ ops cD cH I J wl⟩
    | false,_,_=>⟨fun _ _ _ _ _=>none⟩:Bx Kc).f cD cH I J wl=_
   have hp:=xl4 (P:=P) (Γ:=Γ) (ops:=ops.toList) (cD:=cD) (cH:=cH) ops.toList I J wl;unfold x7o wki
   cases hm:P.follows .mixedOrders with
   | false=>rfl
   | true=>
    cases hs:stOk ops.toList with
    | false=>rfl
    | true=>
     cases hc:crun P Γ genP ops.toList ops.toList with
     | mk f=>
      rw [hc] at hp;show rgB (f cD cH I J wl) (dRg P Γ ops cD cH I J wl)=_;have hp':f cD cH I J wl=x5a cD P Γ ops.toList ops.toList I J wl:=hp;rw [hp']
      cases x5a cD P Γ ops.toList ops.toList I J wl with
      | none=>rfl
      | some p=>rfl
  | false=>
   show (match crun P Γ genE ops.toList ops.toList with | ⟨f⟩=>⟨fun cD cH I J wl=>nrm (f cD cH I J wl)⟩:Bx Kc).f cD cH I J wl=_
   have:=zn8 (P:=P) (Γ:=Γ) (ops:=ops.toList) (cD:=cD) (cH:=cH) ops.toList I J wl
   cases hc:crun P Γ genE ops.toList ops.toList with
   | mk f=>
    rw [hc] at this;show nrm (f cD cH I J wl)=_;unfold x7o nrm;rw [<-this];rfl
 | seq a b iha ihb =>
  intro I J wl;show (match vf3 P Γ N a,vf3 P Γ N b with | ⟨f⟩,⟨g⟩=>⟨fun cD cH I J wl=>sqB (g cD cH) (f cD cH I J wl)⟩:Bx Kc).f cD cH I J wl=_
  cases ha:vf3 P Γ N a with
  | mk f=>
   cases hb:vf3 P Γ N b with
   | mk g=>
    rw [ha] at iha;rw [hb] at ihb;show sqB (g cD cH) (f cD cH I J wl)=_;unfold x7o;rw [<-iha I J wl];unfold sqB
    split
    . rename_i e;simp only [e];exact ihb _ _ _
    . rename_i hne
      split
      . rename_i e;exact absurd e (hne _ _ _)
      . rfl
 | cond c a b iha ihb=>
  intro I J wl;show (match copd Γ c,vf3 P Γ N a,vf3 P Γ N b with | ⟨gc⟩,⟨f⟩,⟨g⟩=>⟨fun cD cH I J wl=>cnB (f cD cH I J wl) (g cD cH I J wl) (gc I)⟩:Bx Kc).f cD cH I J wl=_;have hc:=wkn (Γ:=Γ) (x:=c) (I:=I)
  cases h0:copd Γ c with
  | mk gc=>
   cases ha:vf3 P Γ N a with
   | mk f=>
    cases hb:vf3 P Γ N b with
    | mk g=>
     rw [ha] at iha;rw [hb] at ihb;rw [h0] at hc;show cnB (f cD cH I J wl) (g cD cH I J wl) (gc I)=_;have hc':gc I=opdS Γ I c:=hc;rw [hc'];unfold x7o;rw [<-iha I J wl,<-ihb I J wl];rfl
 | block id a iha=>
  intro I J wl;show (match vf3 P Γ N a with | ⟨f⟩=>⟨fun cD cH I J wl=>blB id (f cD cH I J wl)⟩:Bx Kc).f cD cH I J wl=_
  cases ha:vf3 P Γ N a with
  | mk f=>
   rw [ha] at iha;show blB id (f cD cH I J wl)=_;unfold x7o;rw [<-iha I J wl];rfl
 | loop a iha=>
  intro I J wl;show (match vf3 P Γ N a with | ⟨f⟩=>⟨fun cD cH I J wl=>yw6 (f cD cH) N I J wl⟩:Bx Kc).f cD cH I J wl=_
  cases ha:vf3 P Γ N a with
  | mk f=>
   rw [ha] at iha;show yw6 (f cD cH) N I J wl=_;unfold x7o
   have:f cD cH=x7o cD cH P Γ N a:=by
    funext I J wl;exact iha I J wl
   rw [this]
 | scope a iha=>
  intro I J wl;show (match vf3 P Γ N a with | ⟨f⟩=>⟨fun cD cH I J wl=>scB (f cD cH I J wl)⟩:Bx Kc).f cD cH I J wl=_
  cases ha:vf3 P Γ N a with
  | mk f=>
   rw [ha] at iha;show scB (f cD cH I J wl)=_;unfold x7o;rw [<-iha I J wl];rfl
 | _=>intro I J wl;rfl
theorem v89 {N:Nat} {l:List SV} {J:List SB}:(cfun P Γ N f).f cD cH l J=wb8 cD cH P Γ N f l J:=by
 unfold cfun wb8
 cases hf:P.funcs[f]? with
 | none=>rfl
 | some fn=>
  dsimp only
  cases hb:fn.body with
  | none=>rfl
  | some c=>
   cases hn:fn.name == "runtime.NumGoroutine" with
   | true=>rfl
   | false=>
    have hcode:=vmx (P:=P) (Γ:=Γ) (N:=N) (cD:=cD) (cH:=cH) c
    show (frcN fn.params.size fun np=>frcL (List.replicate (fn.ntmps-np) SV.undef) fun pad=>(⟨fun cD cH l J=>weo l fun l=>match l.length==np with
     | true=>yg3 P fn.results.toList ((vf3 P Γ N c).f cD cH (appF l pad) J [])
     | false=>yg3 P fn.results.toList ((vf3 P Γ N c).f cD cH (l++List.replicate (fn.ntmps-l.length) SV.undef) J [])⟩:Bx Kf)).f cD cH l J=_
    rw [y9b,wwf]
    show (weo l fun l=>match l.length==fn.params.size with
     | true=>yg3 P fn.results.toList ((vf3 P Γ N c).f cD cH (appF l (List.replicate (fn.ntmps-fn.params.size) SV.undef)) J [])
     | false=>yg3 P fn.results.toList ((vf3 P Γ N c).f cD cH (l++List.replicate (fn.ntmps-l.length) SV.undef) J []))=_
    rw [x04];dsimp only;rw [x04];have key:yg3 P fn.results.toList ((vf3 P Γ N c).f cD cH (l++List.replicate (fn.ntmps-l.length) SV.undef) J [])=_:=congrArg (yg3 P fn.results.toList) (hcode (l++List.replicate (fn.ntmps-l.length) SV.undef) J [])
    split
    . rename_i hl;rw [ysr,<-(beq_iff_eq.1 hl),key];rfl
    . rw [key];rfl
variable (P Γ)
mutual
def fvD (known:FuncId->List AV->Option AV) (N:Nat):Nat->FuncId->List AV->Option AV
 | 0,_,_=>none
 | n+1,f,l=>match known f l with
  | some r=>some r
  | none=>match vug l with
   | some sl=>match cfun P Γ N f with
    | ⟨g⟩=>match g (fvD known N n) (fvH known N n) sl [] with
     | some (x,J,_)=>(xu5 J x).map (·.1)
     | none=>none
   | none=>none
def fvH (known:FuncId->List AV->Option AV) (N:Nat):Nat->FuncId->List SB->List SV->Option (List SB×SV×List Nat)
 | 0,_,_,_=>none
 | n+1,f,J,l=>match cfun P Γ N f with
  | ⟨g⟩=>match g (fvD known N n) (fvH known N n) l J with
   | some (x,h,wl)=>match zo2 J.length (vn6 J.length x h) with
    | (h',y)=>some (h',y,wl.filter (fun i=>decide (i<J.length)))
   | none=>none
end
variable {P Γ}
theorem vqc {known:FuncId->List AV->Option AV} {N:Nat}:∀ n,fvD P Γ known N n=evD P Γ known N n/\fvH P Γ known N n=evH P Γ known N n
 | 0=>⟨by funext f l;simp [fvD,evD],by funext f J l;simp [fvH,evH]⟩
 | n + 1 => by
  obtain ⟨h1,h2⟩:=vqc (known:=known) (N:=N) n;constructor
  . funext f l
    unfold fvD evD;rw [h1,h2]
    split
    . rename_i r hr;simp only [hr]
    . rename_i hr;simp only [hr]
      cases vug l with
      | none=>rfl
      | some sl=>
       have:=v89 (P:=P) (Γ:=Γ) (N:=N) (f:=f) (cD:=evD P Γ known N n) (cH:=evH P Γ known N n) (l:=sl) (J:=[])
       cases hc:cfun P Γ N f with
       | mk g=>
        rw [hc] at this;simp only [];rw [<-this];rfl
  . funext f J l
    unfold fvH evH;rw [h1,h2]
    have:=v89 (P:=P) (Γ:=Γ) (N:=N) (f:=f) (cD:=evD P Γ known N n) (cH:=evH P Γ known N n) (l:=l) (J:=J)
    cases hc:cfun P Γ N f with
    | mk g=>
     rw [hc] at this;simp only [];rw [<-this];rfl
theorem CallsD.fv {known:FuncId->List AV->Option AV} (hK:OkD Γ P known) {N n:Nat} {l:List AV} {r:AV} (h:fvD P Γ known N n f l=some r):CallsD Γ P f l r:=CallsD.ev hK (by rw [<-(vqc _).1];exact h)
end
end Go.Hp
namespace Go.Hp
open Go Go.RowKit Go.Slot
variable {P:Program} {Γ:List (Nat×List Cell)}
def xv3 (l:List UInt8):AV:=.one (.raw (.string ⟨⟨l⟩⟩))
theorem OkD.or {k k':FuncId->List AV->Option AV} (h:OkD Γ P k) (h':OkD Γ P k'):OkD Γ P (fun f l=>match k f l with
 | .some r=>.some r
 | .none=>k' f l):=fun f l r e=>by
 simp only at e;split at e
 . rename_i x hx;cases e;exact h _ _ _ hx
 . exact h' _ _ _ e
end Go.Hp
