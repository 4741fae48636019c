/- The proof, part Q40: 4i, 4j. -/
import Derived.Test.YtkbkjjahlafhoaaGreatDoorQ39
import Derived.Test.YtkbkjjahlafhoaaGreatDoorQ17
namespace Go.Hp.T
open Go Go.RowKit Go.Slot Go.Hp Go.Slot.T
open Go.Proofs.Tryz (prog)
set_option maxRecDepth 10000
variable {a b c:Fc} {H:Mb} {y:Stp} {k r:Int} {l:List ByteArray} {w:Wk} {x z:Rat} {v:Sc} {i:Nat}
def pfq:ByteArray:=⟨#[113]⟩
def calq (l:List ByteArray):List ByteArray:=l.map fun s=>pfq++s
def calT (y:Stp):Stp:=⟨y.kind,calq y.inn,calq y.out,y.name,y.cells,y.amount⟩
def rqT (t:Tg):Tg:=bif decide (t.1=0)||decide (t.1=1) then (t.1,pfq++t.2) else t
theorem ydt {a b:ByteArray}:seq (pfq++a) (pfq++b)=seq a b:=by
 rw [z8u,z8u];refine decide_eq_decide.2 ⟨fun h=>?_,fun h=>by rw [h]⟩;have h1:=congrArg (fun z:ByteArray=>z.data.toList) h;simp only [ByteArray.data_append,Array.toList_append,List.append_cancel_left_eq] at h1;exact ByteArray.ext (Array.ext' h1)
theorem x0c (a b:Tg):tgE (rqT a) (rqT b)=tgE a b:=by
 obtain ⟨a1,a2⟩:=a;obtain ⟨b1,b2⟩:=b;unfold rqT;dsimp only;by_cases h1:a1=0\/a1=1
 . have e1:(decide (a1=0)||decide (a1=1))=true:=by simpa using h1
   rw [e1,cond_true];by_cases h2:b1=0\/b1=1
   . have e2:(decide (b1=0)||decide (b1=1))=true:=by simpa using h2
     rw [e2,cond_true];show (decide (a1=b1)&&seq (pfq++a2) (pfq++b2))=(decide (a1=b1)&&seq a2 b2);rw [ydt]
   . have e2:(decide (b1=0)||decide (b1=1))=false:=by simpa using h2
     rw [e2,cond_false];show (decide (a1=b1)&&_)=(decide (a1=b1)&&_);rw [decide_eq_false (by omega)];rfl
 . have e1:(decide (a1=0)||decide (a1=1))=false:=by simpa using h1
   rw [e1,cond_false];by_cases h2:b1=0\/b1=1
   . have e2:(decide (b1=0)||decide (b1=1))=true:=by simpa using h2
     rw [e2,cond_true];show (decide (a1=b1)&&_)=(decide (a1=b1)&&_);rw [decide_eq_false (by omega)];rfl
   . have e2:(decide (b1=0)||decide (b1=1))=false:=by simpa using h2
     rw [e2,cond_false]
def rqB {α:Type} (H:List (Tg×α)):List (Tg×α):=H.map fun p=>(rqT p.1,p.2)
theorem y82 {α:Type} {t:Tg}:∀{H:List (Tg×α)},ypi tgE (rqB H) (rqT t)=ypi tgE H t
 | []=>rfl
 | p::H=>by
  show (bif tgE (rqT t) (rqT p.1) then some p.2 else ypi tgE (rqB H) (rqT t))=bif tgE t p.1 then some p.2 else ypi tgE H t
  rw [x0c,y82]
theorem vrm {α:Type} {t:Tg} {v:α}:∀{H:List (Tg×α)},updG tgE (rqB H) (rqT t) v=rqB (updG tgE H t v)
 | []=>rfl
 | p::H=>by
  show (bif tgE (rqT t) (rqT p.1) then (rqT t,v)::rqB H else (rqT p.1,p.2)::updG tgE (rqB H) (rqT t) v)=rqB (bif tgE t p.1 then (t,v)::H else p::updG tgE H t v);rw [x0c,vrm]
  cases tgE t p.1<;>rfl
theorem yuu {k:Int}:∀{T:List Tg} {H:Mb},addT (rqB H) k (T.map rqT)=rqB (addT H k T)
 | [],_=>rfl
 | y::T,H=>by
  show addT (updG tgE (rqB H) (rqT y) k) k (T.map rqT)=rqB (addT (updG tgE H y k) k T);rw [vrm,yuu]
theorem v0f:∀{T:List Tg} {m:Mb},cntM (T.map rqT) (rqB m)=rqB (cntM T m)
 | [],_=>rfl
 | y::T,m=>by
  show cntM (T.map rqT) (updG tgE (rqB m) (rqT y) ((ypi tgE (rqB m) (rqT y)).getD 0+1))=rqB (cntM T (updG tgE m y ((ypi tgE m y).getD 0+1)));rw [y82,vrm,v0f]
theorem vnp {H:Mb}:∀{T:List Tg} {m:Mn},dupT (rqB H) (T.map rqT) (rqB m)=dupT H T m
 | [],_=>rfl
 | y::T,m=>by
  rw [List.map_cons,dupT,dupT,y82,y82,vrm,vnp]
theorem zmg {e a:Int} {H K:Mb}:∀{T:List Tg},vmc e a (rqB H) (rqB K) (T.map rqT)=vmc e a H K T
 | []=>rfl
 | y::T=>by
  rw [List.map_cons,vmc,vmc,y82,y82,zmg]
theorem wdz (y:Stp):yr8 (calT y)=(yr8 y).map rqT:=by
 unfold yr8 calT calq;dsimp only;rw [List.map_append,List.map_append,List.map_map,List.map_map,List.map_map,List.map_map]
 congr 1
 cases hb:(decide (y.kind=0)||(decide (y.kind=1)||decide (y.kind=5))) with
 | false=>rfl
 | true=>
  have hk:y.kind=0\/y.kind=1\/y.kind=5:=by simpa using hb
  rw [cond_true,List.map_cons,List.map_nil];unfold rqT;dsimp only;rw [decide_eq_false (show ¬2+y.kind=0 by omega),decide_eq_false (show ¬2+y.kind=1 by omega)];rfl
theorem wyi {e a:Int}:vq1 e a (rqB H) (calT y)=vq1 e a H y:=by
 unfold vq1;rw [wdz]
 have:=v0f (T:=yr8 y) (m:=[])
 rw [show cntM ((yr8 y).map rqT) []=rqB (cntM (yr8 y) []) from this,zmg]
theorem w2q (hk:k=0\/k=1):(calq l).any (fun p=>(ypi tgE (rqB H) (k,p)).isNone)=l.any (fun p=>(ypi tgE H (k,p)).isNone):=by
 unfold calq;rw [List.any_map]
 congr 1
 funext p
 have e:rqT (k,p)=(k,pfq++p):=by
  unfold rqT
  rcases hk with rfl | rfl<;>rfl
 show (ypi tgE (rqB H) (k,pfq++p)).isNone=_;rw [<-e,y82]
theorem zkf (hk:2<=k) (w:ByteArray):rqT (k,w)=(k,w):=by
 unfold rqT;dsimp only;rw [decide_eq_false (by omega),decide_eq_false (show ¬k=1 by omega)];rfl
theorem zyt {α:Type} {p q:α->Bool}:∀{l:List α},(∀ x∈l,p x=q x)->l.any p=l.any q
 | [],_=>rfl
 | x::l,h=>by rw [List.any_cons,List.any_cons,h x List.mem_cons_self,zyt (fun y hy=>h y (List.mem_cons_of_mem _ hy))]
theorem wj2 {p q:Nat->Bool}:∀{l:List Nat},(∀ x∈l,p x=q x)->l.find? p=l.find? q
 | [],_=>rfl
 | x::l,h=>by rw [List.find?_cons,List.find?_cons,h x List.mem_cons_self,wj2 (fun y hy=>h y (List.mem_cons_of_mem _ hy))]
theorem wh6 {l:List Stp}:wsq (rqB H) (l.map calT)=wsq H l:=by
 unfold wsq;rw [List.length_map]
 refine wj2 fun i hi=>?_
 have hi:=List.mem_range.1 hi;rw [getD_map hi];exact w2q (.inl rfl)
theorem zid (hk:0<=k) {w:ByteArray}:zfl (rqB H) k w=zfl H k w:=by
 unfold zfl
 have:=y82 (t:=(2+k,w)) (H:=H)
 rw [zkf (by omega)] at this;rw [this]
theorem vug {C I:Ms} {N:Mn} {kind:ByteArray}:z2w C I N (rqB H) kind (calT y)=z2w C I N H kind y:=by
 unfold z2w;rw [wdz];have e1:(calT y).inn.any (noMk (rqB H))=y.inn.any (noMk H):=w2q (.inr rfl);have e5:dupT (rqB H) ((yr8 y).map rqT) []=dupT H (yr8 y) []:=vnp (m:=[]);rw [e1,e5];rfl
theorem yw2 {C I:Ms} {N:Mn} {kind:ByteArray}:∀{l:List Stp} {i:Nat} {H:Mb},zds C I N kind (l.map calT) i (rqB H)=(match zds C I N kind l i H with | .inl k=>.inl k | .inr H=>.inr (rqB H))
 | [],i,H=>rfl
 | y::l,i,H=>by
  rw [List.map_cons,zds,zds,vug,wyi,wdz,yuu,yw2]
  cases decide (¬z2w C I N H kind y=0)<;>rfl
def renX (x:Rcp):Rcp:=⟨x.kind,x.steps.map calT⟩
def renS (s:Sht) (r:Int):Sht:=⟨s.name,s.imports,s.inputs,s.tables,s.funcs,s.cells,s.ports,s.stores,s.recipes.set r.toNat (renX (s.recipes.getD r.toNat default))⟩
theorem wlk (s:Sht) (r:Int):(renS s r).recipes.length=s.recipes.length:=List.length_set
theorem z6j {s:Sht} (h:r.toNat<s.recipes.length):(renS s r).recipes.getD r.toNat default=renX (s.recipes.getD r.toNat default):=by
 show (s.recipes.set r.toNat _).getD r.toNat default=_;rw [List.getD_eq_getElem?_getD,List.getElem?_set_self h];rfl
theorem wgv {s:Sht} {x:Rcp}:endL (renS s r) (renX x) (rqB H)=endL s x H:=by
 have hg:gapR (renS s r) (renX x) (rqB H)=gapR s x H:=by
  unfold gapR renX;dsimp only;rw [wh6]
  cases wsq H x.steps with
  | some i=>rfl
  | none=>
   dsimp only
   have e1:(renS s r).inputs.any (gapI (rqB H) x.kind)=s.inputs.any (gapI H x.kind):=zyt fun y _=>by unfold gapI;rw [zid (by decide)]
   have e2:(renS s r).imports.any (gapM (rqB H))=s.imports.any (gapM H):=zyt fun y _=>by unfold gapM;rw [zid (by decide)]
   have e3:(renS s r).ports.any (gapP (rqB H))=s.ports.any (gapP H):=zyt fun y _=>by unfold gapP;rw [zid (by decide)]
   rw [e1,e2,e3]
 unfold endL;rw [hg,show (renX x).steps.length=x.steps.length from List.length_map _]
theorem v8k {s:Sht} (hR:vtb s=true) (hR':vtb (renS s r)=true) (h0:0<=r) (h1:r<s.recipes.length):vt5 (renS s r) r=vt5 s r:=by
 unfold vt5;rw [hR,hR',wlk,decide_eq_false (show ¬r<0 by omega),decide_eq_false (show ¬(s.recipes.length:Int)<=r by omega),z6j (by omega)];generalize s.recipes.getD r.toNat default=x
 show (match zds (vp1 s) (wnc s) (ve8 s) x.kind (x.steps.map calT) 0 (rqB []) with
  | .inl k=>k
  | .inr H=>endL (renS s r) (renX x) H)=(match zds (vp1 s) (wnc s) (ve8 s) x.kind x.steps 0 [] with
  | .inl k=>k
  | .inr H=>endL s x H)
 rw [yw2]
 cases zds (vp1 s) (wnc s) (ve8 s) x.kind x.steps 0 [] with
 | inl k=>rfl
 | inr H=>exact wgv
def mulV (b:Fc) (v:Sc):Sc:=⟨Fc.mul v.low b,Fc.mul v.high b⟩
structure Pos (b:Fc):Prop where
 ok:b.ok
 pos:0<b.val
theorem Pos.ex (h:Pos b):∃ z:Rat,b=Fc.of z/\0<z/\¬z=0:=⟨b.val,Fc.z2l h.ok,h.pos,fun e=>absurd h.pos (by rw [e];decide)⟩
theorem yca (h:¬a.ok):Fc.mul a b=Fc.zero:=Fc.x0i fun h'=>h h'.1
theorem vga (b:Fc):mulV b Sc.zero=Sc.zero:=by
 unfold mulV Sc.zero;rw [yca Fc.y0w]
theorem za4 {y:Rat} (hz:0<z):Fc.ordQ (x*z) (y*z)=Fc.ordQ x y:=by
 unfold Fc.ordQ;simp only [Rat.mul_lt_mul_right hz]
theorem v7d (h:Pos b):Fc.cmp (Fc.mul a b) (Fc.mul c b)=Fc.cmp a c:=by
 obtain ⟨z,rfl,hz,_⟩:=h.ex;by_cases hac:a.ok/\c.ok
 . obtain ⟨x,rfl⟩:=Fc.xzx hac.1;obtain ⟨y,rfl⟩:=Fc.xzx hac.2;rw [Fc.vk5,Fc.vk5,Fc.yzc,Fc.yzc,za4 hz]
 . unfold Fc.cmp;rw [if_neg hac,if_neg (fun h'=>hac ⟨(Fc.v2r.1 h'.1).1,(Fc.v2r.1 h'.2).1⟩)]
theorem yap (x:Rat):sg x.num=Fc.ordQ x 0:=by
 have h1:x.num<0↔x<0:=by
  rw [<-Rat.not_le,<-Rat.num_nonneg];omega
 have h2:x.num=0↔x=0:=Rat.num_eq_zero
 rcases Fc.x99 x 0 with ⟨h,e⟩ | ⟨h,e⟩ | ⟨h,e⟩
 . rw [e,zrk (h1.2 h)]
 . rw [e,h2.2 h];rfl
 . have a1:¬x.num<0:=fun h'=>Rat.not_lt.2 (Rat.le_of_lt h) (h1.1 h')
   have a2:¬x.num=0:=fun h'=>absurd h (by rw [h2.1 h'];decide)
   rw [e,vge (by omega)]
theorem sign_mul (h:Pos b):Fc.sign (Fc.mul a b)=Fc.sign a:=by
 obtain ⟨z,rfl,hz,_⟩:=h.ex;by_cases ha:a.ok
 . obtain ⟨x,rfl⟩:=Fc.xzx ha;rw [Fc.vk5,Fc.x7c,Fc.x7c,yap,yap]
   have:=za4 (x:=x) (y:=0) hz
   rwa [Rat.zero_mul] at this
 . rw [yca ha];unfold Fc.sign;rw [if_neg ha,if_neg Fc.y0w]
theorem add_mul {a c b:Fc} (h:Pos b):Fc.add (Fc.mul a b) (Fc.mul c b)=Fc.mul (Fc.add a c) b:=by
 obtain ⟨z,rfl,hz,_⟩:=h.ex;by_cases hac:a.ok/\c.ok
 . obtain ⟨x,rfl⟩:=Fc.xzx hac.1;obtain ⟨y,rfl⟩:=Fc.xzx hac.2;rw [Fc.vk5,Fc.vk5,Fc.vmb,Fc.vmb,Fc.vk5,Rat.add_mul]
 . rw [yca (fun h'=>hac (Fc.vgy.1 h'))];exact Fc.x0i (fun h'=>hac ⟨(Fc.v2r.1 h'.1).1,(Fc.v2r.1 h'.2).1⟩)
theorem zgl {u v w:Rat} (hw:¬w=0) (h:u*w=v*w):u=v:=by
 have e:u*w*w⁻¹=v*w*w⁻¹:=by rw [h]
 rwa [Rat.mul_assoc,Rat.mul_assoc,Rat.mul_inv_cancel _ hw,Rat.mul_one,Rat.mul_one] at e
theorem vpb {y:Rat} (hy:¬y=0) (hz:¬z=0):x*z / (y*z)=x / y:=by
 have h1:¬y*z=0:=fun e=>(Rat.mul_eq_zero.1 e).elim hy hz
 refine zgl h1 ?_;rw [Rat.div_mul_cancel h1,<-Rat.mul_assoc,Rat.div_mul_cancel hy]
theorem div_mul (h:Pos b):divF (Fc.mul a b) (Fc.mul c b)=divF a c:=by
 obtain ⟨z,rfl,hz,hz0⟩:=h.ex;by_cases hac:a.ok/\c.ok
 . obtain ⟨x,rfl⟩:=Fc.xzx hac.1;obtain ⟨y,rfl⟩:=Fc.xzx hac.2;rw [Fc.vk5,Fc.vk5];by_cases hy:y=0
   . subst hy;rw [Rat.zero_mul];unfold divF;rw [if_neg (fun h'=>h'.2.2 zoy),if_neg (fun h'=>h'.2.2 zoy)]
   . rw [v8u hy,v8u (fun e=>(Rat.mul_eq_zero.1 e).elim hy hz0),vpb hy hz0]
 . unfold divF;rw [if_neg (fun h'=>hac ⟨(Fc.v2r.1 h'.1).1,(Fc.v2r.1 h'.2.1).1⟩),if_neg (fun h'=>hac ⟨h'.1,h'.2.1⟩)]
theorem xuf (h:Pos b):(mulV b v).ok↔v.ok:=by
 show (Fc.mul v.low b).ok/\(Fc.mul v.high b).ok/\Fc.cmp (Fc.mul v.low b) (Fc.mul v.high b)<=0↔_;rw [v7d h,Fc.v2r,Fc.v2r];exact ⟨fun h'=>⟨h'.1.1,h'.2.1.1,h'.2.2⟩,fun h'=>⟨⟨h'.1,h.ok⟩,⟨h'.2.1,h.ok⟩,h'.2.2⟩⟩
theorem xtb (h:Pos b) (hv:v.ok\/v=Sc.zero):badV (mulV b v)=badV v:=by
 rcases hv with hv | rfl
 . unfold badV;show (!decide (Fc.mul v.low b=Fc.mul v.high b)||decide (Fc.sign (Fc.mul v.low b)<0))=_;rw [sign_mul h]
   have e:(Fc.mul v.low b=Fc.mul v.high b)↔v.low=v.high:=by
    obtain ⟨z,rfl,hz,hz0⟩:=h.ex;obtain ⟨x,ex⟩:=Fc.xzx hv.1;obtain ⟨y,ey⟩:=Fc.xzx hv.2.1;rw [ex,ey,Fc.vk5,Fc.vk5];constructor
    . intro e;rw [zgl hz0 (Fc.y7o e)]
    . intro e;rw [Fc.y7o e]
   rw [decide_eq_decide.2 e]
 . rw [vga]
section
variable {s:Sht} {r:Int} {cs:List Sc} {b:Fc}
abbrev more (b:Fc) (cs:List Sc):List Sc:=cs.map (mulV b)
theorem xdq (w:ByteArray):valF (renS s r) (more b cs) w=mulV b (valF s cs w):=by
 show (cs.map (mulV b)).getD (idxC s w).toNat Sc.zero=mulV b (cs.getD (idxC s w).toNat Sc.zero);by_cases h:(idxC s w).toNat<cs.length
 . rw [ldE (by rw [List.length_map];exact h),ldE h,List.getElem_map]
 . rw [ldN (by rw [List.length_map];omega),ldN (by omega),vga]
theorem wwr (h:∀ v∈cs,v.ok) (w:ByteArray):(valF s cs w).ok\/valF s cs w=Sc.zero:=by
 unfold valF;by_cases h':(idxC s w).toNat<cs.length
 . exact .inl (h _ (ldM h'))
 . exact .inr (ldN (by omega))
theorem yjo (hb:Pos b) (l:List ByteArray):sumV (renS s r) (more b cs) l=Fc.mul (sumV s cs l) b:=by
 have go:∀(l:List ByteArray) (a:Fc),l.foldl (fun a w=>Fc.add a (valF (renS s r) (more b cs) w).low) (Fc.mul a b)=Fc.mul (l.foldl (fun a w=>Fc.add a (valF s cs w).low) a) b:=fun l=>by
  induction l with
  | nil=>intro a;rfl
  | cons w l ih=>
   intro a;rw [List.foldl_cons,List.foldl_cons,<-ih,xdq];show List.foldl _ (Fc.add (Fc.mul a b) (Fc.mul (valF s cs w).low b)) l=_;rw [add_mul hb]
 have e:Fc.mul (Fc.of 0) b=Fc.of 0:=by
  obtain ⟨z,rfl,_⟩:=hb.ex;rw [Fc.vk5,Rat.zero_mul]
 have:=go l (Fc.of 0)
 rw [e] at this;exact this
theorem xny (hb:Pos b) (h:∀ v∈cs,v.ok) (l:List ByteArray):wtE (renS s r) (more b cs) l=wtE s cs l:=by
 unfold wtE;rw [yjo hb,sign_mul hb,zyt (q:=fun w=>badV (valF s cs w)) (fun w _=>by rw [xdq,xtb hb (wwr h w)])]
theorem x27 (hb:Pos b) (h:∀ v∈cs,v.ok) (l:List ByteArray):wtF (renS s r) (more b cs) l=wtF s cs l:=by
 unfold wtF wtL
 rw [xny hb h,yjo hb,List.map_congr_left (g:=fun w=>divF (valF s cs w).low (sumV s cs l)) (fun w _=>by
  rw [xdq]
  exact div_mul hb)]
theorem xue (hb:Pos b) (h:∀ v∈cs,v.ok) (y:Stp):errW (renS s r) (more b cs) (calT y)=errW s cs y:=by
 unfold errW;show (bif decide (y.kind=3) then wtE (renS s r) (more b cs) y.cells else 0)=_;rw [xny hb h]
theorem wli (hb:Pos b) (h:∀ v∈cs,v.ok):∀(l:List Stp) (i:Nat),zwk (renS s r) (more b cs) (l.map calT) i=zwk s cs l i
 | [],_=>rfl
 | y::l,i=>by rw [List.map_cons,zwk,zwk,xue hb h,wli hb h l]
def renM (m:Mf):Mf:=m.map fun p=>(pfq++p.1,p.2)
def renW (w:Wk):Wk:=⟨renM w.m,w.srcs,w.outs,w.shares⟩
theorem vpy {p:ByteArray}:∀{m:Mf},v7b (renM m) (pfq++p)=v7b m p
 | []=>rfl
 | q::m=>by
  show (bif seq (pfq++p) (pfq++q.1) then some q.2 else v7b (renM m) (pfq++p))=bif seq p q.1 then some q.2 else v7b m p
  rw [ydt,vpy]
theorem yii {p:ByteArray} {v:List Fc}:∀{m:Mf},updF (renM m) (pfq++p) v=renM (updF m p v)
 | []=>rfl
 | q::m=>by
  show (bif seq (pfq++p) (pfq++q.1) then (pfq++p,v)::renM m else (pfq++q.1,q.2)::updF (renM m) (pfq++p) v)=renM (bif seq p q.1 then (p,v)::m else q::updF m p v);rw [ydt,yii]
  cases seq p q.1<;>rfl
theorem wiv {m:Mf}:zkw (renM m) (calq l) i=zkw m l i:=by
 unfold zkw calq;rw [List.foldl_map]
 congr 1
 funext a w
 unfold wrt;rw [vpy]
theorem yr9 {m:Mf} {n:Nat}:mixF (renM m) n (calq l) c=mixF m n l c:=by
 unfold mixF
 congr 1
 funext i
 rw [wiv]
theorem zu6 (h:i<l.length):(calq l).getD i default=pfq++l.getD i default:=by
 unfold calq;rw [ldE (by rw [List.length_map];exact h),ldE h,List.getElem_map]
theorem zic {n:Nat} {inn o:List ByteArray} {wt:List Fc} {m:Mf}:∀ k,k<=o.length->zlv n (calq inn) wt (calq o) (renM m) k=renM (zlv n inn wt o m k)
 | 0,_=>rfl
 | k+1,hk=>by
  rw [wgf,wgf,zic k (by omega),yr9,zu6 (by omega),yii]
theorem x71 {x:Src} {p:ByteArray}:srcW (renW w) x (pfq++p)=renW (srcW w x p):=by
 show (⟨updF (renM w.m) (pfq++p) _,_,_,_⟩:Wk)=⟨renM (updF w.m p _),_,_,_⟩;rw [yii];rfl
theorem wgg {x:Ot} {p:ByteArray}:outW (renW w) x (pfq++p)=renW (outW w x p):=by
 show (⟨renM w.m,w.srcs,w.outs++[x],w.shares++[(v7b (renM w.m) (pfq++p)).getD []]⟩:Wk)=_;rw [vpy];rfl
theorem x8p (hb:Pos b) (h:∀ v∈cs,v.ok) (hs:xn0 y=true):vlo (renS s r) (more b cs) (renW w) (calT y)=renW (vlo s cs w y):=by
 have hkk:=xiq hs
 have hk:y.kind=0\/y.kind=1\/y.kind=2\/y.kind=3\/y.kind=4\/y.kind=5\/y.kind=6\/y.kind=7\/y.kind=8:=by omega
 have ek:(calT y).kind=y.kind:=rfl
 rcases hk with hk | hk | hk | hk | hk | hk | hk | hk | hk
 . have e:=zu6 (l:=y.out) (i:=0) (by rw [(yzt hs (by omega)).2];decide);unfold vlo;rw [ek,hk];show srcW (renW w) ⟨0,idxI s y.name,0⟩ ((calq y.out).getD 0 default)=_;rw [e];exact x71
 . have e:=zu6 (l:=y.out) (i:=0) (by rw [(yzt hs (by omega)).2];decide);unfold vlo;rw [ek,hk];show srcW (renW w) ⟨1,idxM s y.name,0⟩ ((calq y.out).getD 0 default)=_;rw [e];exact x71
 . have e:=zu6 (l:=y.out) (i:=0) (by rw [(yzt hs (by omega)).2];decide);unfold vlo;rw [ek,hk];show srcW (renW w) ⟨2,idxS s y.name,y.amount⟩ ((calq y.out).getD 0 default)=_;rw [e];exact x71
 . unfold vlo;rw [ek,hk];show setM (renW w) (zlv w.srcs.length (calq y.inn) (wtF (renS s r) (more b cs) y.cells) (calq y.out) (renM w.m) (calq y.out).length)=renW (setM w (zlv w.srcs.length y.inn (wtF s cs y.cells) y.out w.m y.out.length));rw [x27 hb h,show (calq y.out).length=y.out.length from List.length_map _,zic _ (Nat.le_refl _)];rfl
 . have e:=zu6 (l:=y.out) (i:=0) (by rw [xd9 hs hk];decide);unfold vlo;rw [ek,hk];show setM (renW w) (updF (renM w.m) ((calq y.out).getD 0 default) (mixF (renM w.m) w.srcs.length (calq y.inn) (Fc.of 1)))=renW (setM w (updF w.m (y.out.getD 0 default) (mixF w.m w.srcs.length y.inn (Fc.of 1))));rw [e,yr9,yii];rfl
 . have e:=zu6 (l:=y.inn) (i:=0) (by rw [(xhv hs (by omega)).1];decide);unfold vlo;rw [ek,hk];show outW (renW w) ⟨0,idxP s y.name,0,⟨#[]⟩⟩ ((calq y.inn).getD 0 default)=_;rw [e];exact wgg
 . have e:=zu6 (l:=y.inn) (i:=0) (by rw [(xhv hs (by omega)).1];decide);unfold vlo;rw [ek,hk];show outW (renW w) ⟨1,idxS s y.name,y.amount,⟨#[]⟩⟩ ((calq y.inn).getD 0 default)=_;rw [e];exact wgg
 . have e:=zu6 (l:=y.inn) (i:=0) (by rw [(xhv hs (by omega)).1];decide);unfold vlo;rw [ek,hk];show outW (renW w) ⟨2,0,0,y.name⟩ ((calq y.inn).getD 0 default)=_;rw [e];exact wgg
 . have e:=zu6 (l:=y.inn) (i:=0) (by rw [(xhv hs (by omega)).1];decide);unfold vlo;rw [ek,hk];show outW (renW w) ⟨3,0,0,⟨#[]⟩⟩ ((calq y.inn).getD 0 default)=_;rw [e];exact wgg
theorem vba (hb:Pos b) (h:∀ v∈cs,v.ok) {l:List Stp} (hs:∀ y∈l,xn0 y=true):∀ n,n<=l.length->ytm (renS s r) (more b cs) (l.map calT) nilW n=renW (ytm s cs l nilW n)
 | 0,_=>rfl
 | n+1,hn=>by
  have e:(l.map calT).getD n default=calT (l.getD n default):=by
   rw [ldE (by rw [List.length_map];omega),ldE (by omega),List.getElem_map]
  rw [ytm,ytm,vba hb h hs n (by omega),e,x8p hb h (hs _ (z1y (by omega)))]
theorem zxp (hb:Pos b) (hR:vtb s=true) (hR':vtb (renS s r)=true):badA (renS s r) r (more b cs)=badA s r cs:=by
 unfold badA;rw [hR,hR',wlk,List.length_map,List.any_map]
 congr 4
 exact zyt fun v _=>by
  show (!decide (mulV b v).ok)=_;rw [decide_eq_decide.2 (xuf hb)]
theorem vq9 (hb:Pos b) (hR:vtb s=true) (hR':vtb (renS s r)=true) (h0:0<=r) (h1:r<s.recipes.length):ww1 (renS s r) r (more b cs)=ww1 s r cs:=by
 unfold ww1;rw [zxp hb hR hR',v8k hR hR' h0 h1,z6j (by omega)]
 cases hq:badA s r cs with
 | true=>rfl
 | false=>
  have hst:=y71 hq;obtain ⟨_,_,_,hok⟩:=x2b hq;generalize s.recipes.getD r.toNat default=x at *;rw [show (renX x).steps=x.steps.map calT from rfl,wli hb hok,List.length_map,vba hb hok hst _ (Nat.le_refl _)];rfl
theorem voc (h:v.sz<=4) (hz:b.sz<=2):(mulV b v).low.sz<=8/\(mulV b v).high.sz<=8:=by
 unfold Sc.sz at h;have e1:=Fc.wly v.low b;have e2:=Fc.wly v.high b;show (Fc.mul v.low b).sz<=8/\(Fc.mul v.high b).sz<=8;omega
theorem zdm {Γ:List (Nat×List Cell)} (_hs:s.Sm) (hs':(renS s r).Sm) (hf:fewM s r cs=true) (hb:Pos b) (hz:b.sz<=2) (hR:vtb s=true) (hR':vtb (renS s r)=true) (h0:0<=r) (h1:r<s.recipes.length):CallsD Γ prog 10 [.agg (shtC (renS s r)),.one (cI r),.one (.sl 8 ((more b cs).map Sc.C))] (frR (ww1 s r cs)):=by
 rw [<-vq9 hb hR hR' h0 h1];obtain ⟨hl,h4⟩:=v08 (x9g hf).2
 have hcl:(more b cs).length<=1048576:=by rw [List.length_map];omega
 have hz8:∀ v∈more b cs,v.low.sz<=8/\v.high.sz<=8:=fun v hv=>by
  obtain ⟨u,hu,rfl⟩:=List.mem_map.1 hv;exact voc (h4 u hu) hz
 have hcz:∀ v∈more b cs,v.sz<=100000:=fun v hv=>by
  have:=hz8 v hv
  unfold Sc.sz;omega
 cases hq:badA (renS s r) r (more b cs) with
 | true=>exact xq9 _ r _ hs' hcl hcz hq
 | false=>
  by_cases hk:(vt5 (renS s r) r).1=0
  . refine xxj _ r _ hs' hcl hcz hq hk (v0v hs' (ys5 hk) (y71 hq) ?_)
    have hq':badA s r cs=false:=by rw [<-zxp hb hR hR'];exact hq
    have hk':(vt5 s r).1=0:=by rw [<-v8k hR hR' h0 h1];exact hk
    obtain ⟨f1,f2,f3,f4,f5⟩:=v1j hf hq' (ys5 hk');rw [z6j (by omega)];generalize s.recipes.getD r.toNat default=x at *;refine ⟨by rw [List.length_map];exact f1,fun v hv=>?_,hz8,by show (x.steps.map calT).length<=25;rw [List.length_map];exact f4,fun y hy=>?_⟩
    . obtain ⟨u,hu,rfl⟩:=List.mem_map.1 hv;exact (xuf hb).2 (f2 u hu)
    . obtain ⟨z,hz,rfl⟩:=List.mem_map.1 (show y∈x.steps.map calT from hy)
      have:=f5 z hz
      show (calq z.inn).length<=6/\(calq z.out).length<=6;unfold calq;rw [List.length_map,List.length_map];exact this
  . exact vve _ r _ hs' hcl hcz hq hk
end
end Go.Hp.T
namespace Go.Hp.T
open Go Go.RowKit Go.Slot Go.Hp Go.Slot.T
open Go.Proofs.Tryz
attribute [local irreducible] hide RH
set_option maxRecDepth 10000
set_option maxHeartbeats 8000000
variable {Γ:List (Nat×List Cell)}
theorem yze:({ data:=#[113] }:ByteArray)=pfq:=rfl
theorem vk2 (l:List ByteArray) (hl:l.length<=1073741824) (hs:∀ s∈l,s.size<=1073741824):CallsD Γ prog 21 [.one (zjy l)] (.one (zjy (calq l))):=by
 unfold calq;refine hE [] func21 f21.eq_1 ?_
 repeat' first | refine hF ?_ ?_<;>intros | refine hI ?_
 refine wf5 [0] (fun p:Nat×List ByteArray=>[(3,.one (.sl 0 1 0 p.2.length)),(4,.one (.dat (cI p.1)))]) (fun p=>[.arr (zjy p.2) 0 (some 9)])
  (fun p=>p.1<=l.length/\p.2=(l.take p.1).map fun s=>pfq++s) (fun p=>l.length-p.1) (0,[]) ⟨Nat.zero_le _,by simp⟩ ?_ ?_
 . refine hg ?_;refine StH.trans (StH.empty (d:=3) (es:=1) (c:=.sl 1 []) (T:=some 9) rfl rfl (fun r hr=>by cases hr) rfl) ?_;refine hg ?_;exact sS
 rintro ⟨i,acc⟩ ⟨hi,ha⟩;dsimp only at hi ha
 have hal:acc.length<=1073741824:=by rw [ha];simp;omega
 refine hg ?_;refine y8g (fun hlt _=>?_) (fun hlt _=>?_)
 . have hlt':i<l.length:=by omega
   have hz:=hs _ (z1y hlt');have l1:(pfq.size+(l.getD i default).size<=9223372036854775807)=True:=eq_true (by rw [show pfq.size=1 from rfl];omega);refine hg2 @yze @l1 ?_
   repeat' first | refine hF ?_ ?_<;>intros | refine hI ?_
   refine ⟨(i+1,acc++[pfq++l.getD i default]),⟨by dsimp only;omega,?_⟩,by dsimp only;omega,?_⟩
   . dsimp only;rw [ha,List.take_succ_eq_append_getElem hlt',List.getD_eq_getElem?_getD,List.getElem?_eq_getElem hlt',List.map_append];simp
   refine StH.back [0,3,4] 0 1 1 rfl rfl rfl rfl rfl (by kernel_rfl) ?_;refine hg2 @List.length_append.{0} @List.length_singleton.{0} ?_;exact StH.same svl (by simp only [zjy,List.map_append,List.map_cons,List.map_nil];rfl)
 rw [List.take_of_length_le (show l.length<=i by omega)] at ha;rw [<-ha];clear ha hlt hi hs;refine hg ?_
 repeat' first | refine hF ?_ ?_<;>intros | refine hI ?_
 exact RLe.ofEq rfl
theorem yup {s:Sht} (h:fewS s=true) {x:Rcp} (hx:x∈s.recipes) {y:Stp} (hy:y∈x.steps):(∀ p∈y.inn,p.size<=60)/\∀ p∈y.out,p.size<=60:=by
 unfold fewS at h;simp only [Bool.and_eq_true] at h;have h1:=List.all_eq_true.1 h.2.1 x hx;unfold okR z1c at h1;simp only [Bool.and_eq_true] at h1;have h2:=List.all_eq_true.1 h1.1.2 y hy;unfold v07 vfj at h2;simp only [Bool.and_eq_true] at h2;refine ⟨fun p hp=>?_,fun p hp=>?_⟩
 . have:=List.all_eq_true.1 h2.1.2 p hp
   unfold sz60 at this
   have:=of_decide_eq_true this
   omega
 . have:=List.all_eq_true.1 h2.2.1.2 p hp
   unfold sz60 at this
   have:=of_decide_eq_true this
   omega
theorem ywj {l:List ByteArray} (h:∀ p∈l,p.size<=60):∀ p∈calq l,p.size<=1073741824:=fun p hp=>by
 obtain ⟨q,hq,rfl⟩:=List.mem_map.1 hp
 have:=h q hq
 rw [ByteArray.size_append,show pfq.size=1 from rfl];omega
theorem wih {s:Sht} {r:Int} (hs:s.Sm) (hf:fewS s=true) (hr:r.toNat<s.recipes.length):(renS s r).Sm:=by
 have hx:=z1y hr;have hrr:=hs.r _ hx;obtain ⟨h1,h2,h3,h4,h5,h6,h7,h8,h9,i,n,t,f,c,p,o,rr⟩:=hs;refine ⟨h1,h2,h3,h4,h5,h6,h7,h8,by rw [wlk];exact h9,i,n,t,f,c,p,o,fun y hy=>?_⟩
 rcases List.mem_or_eq_of_mem_set (show y∈s.recipes.set r.toNat (renX (s.recipes.getD r.toNat default)) from hy) with hy | rfl
 . exact rr y hy
 . generalize s.recipes.getD r.toNat default=x at *;refine ⟨hrr.1,by show (x.steps.map calT).length<=_;rw [List.length_map];exact hrr.2.1,fun z hz=>?_⟩;obtain ⟨w,hw,rfl⟩:=List.mem_map.1 (show z∈x.steps.map calT from hz);have a:=hrr.2.2 w hw;have b:=yup hf hx hw;exact ⟨by show (calq w.inn).length<=_;unfold calq;rw [List.length_map];exact a.il,by show (calq w.out).length<=_;unfold calq;rw [List.length_map];exact a.ol,a.cl,ywj b.1,ywj b.2,a.c,a.n⟩
end Go.Hp.T
