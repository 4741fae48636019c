/- The proof, part E1: Mb, Mc. -/
import Derived.Test.YtmegdbbbllffkaaGreatDoorE0
namespace Go.Slot
open Go Go.RowKit
variable {E:Env} {τ:Nat->TV} {M:Nat->Nat->Prop} {I:List AV} {a:Act}
variable {w:World} {ad:Option Addr} {v:Value}
theorem RelI.rewrite (h:RelI E τ M I a w) {s:Nat} {old new:AV} (hs:I[s]? = some old) (ho:old.vy8=true) (hn:new.vy8=true) (hf:∀ b,old.fits b=true->new.fits b=true) (hfr:new.fresh=old.fresh)
 (cur':Array Value) (hok:∀ vs T,w.heap[blk (a.tmps.getD s Go.undef)]? = some (.cells vs T (0,0))->vi6 M (w.setRow (blk (a.tmps.getD s Go.undef)) cur') τ a.tmps (a.tmps.getD s Go.undef) new)
 (htok:∀ t,new.vjg t->live I t):RelI E τ M (I.set s new) a (w.setRow (blk (a.tmps.getD s Go.undef)) cur'):=by
 generalize hb:blk (a.tmps.getD s Go.undef)=b at *;have hM:∀ o,M b o:=hb▸(h.hold s old hs ho).1
 have hcells:∃ vs T,w.heap[b]? = some (.cells vs T (0,0)):=by
  have hsl:=h.slot s old hs
  cases old with
  | box cs=>obtain ⟨b',vs,T,e,hh,_⟩:=hsl;rw [e] at hb;exact ⟨_,T,by rw [<-hb];exact hh⟩
  | obx cs=>obtain ⟨b',vs,T,e,hh,_⟩:=hsl;rw [e] at hb;exact ⟨_,T,by rw [<-hb];exact hh⟩
  | arr pre c post=>obtain ⟨b',T,vs,q,cap,e,hh,_⟩:=hsl;rw [e] at hb;exact ⟨_,T,by rw [<-hb];exact hh⟩
  | _=>cases ho
 obtain ⟨vs0,T0,hheap⟩:=hcells
 have hk:ya3 M M w (w.setRow b cur'):=fun b' o u hm hc=>⟨hm,by
  rw [cell_setRow_other]
  . exact hc
  . exact fun e=>hm (by rw [show b'=b from e];exact hM o)⟩
 have hlive:∀ t,live (I.set s new) t->live I t:=fun t ⟨i,x,hi,hx⟩=>by
  rcases getElem?_set_cases hi with ⟨_,rfl⟩ | ⟨_,hi⟩
  . exact htok t hx
  . exact ⟨i,x,hi,hx⟩
 refine RelI.mk h.hd (by simpa using h.hs) ?_ h.m0 (fun b o hm=>by rw [setRow_size];exact h.mb b o hm) ?_ ?_ ?_ ?_ ?_ ?_ (by rw [setRow_size];exact h.size) h.os h.tape h.output ?_
 . intro i x hi
   rcases getElem?_set_cases hi with ⟨rfl,rfl⟩ | ⟨hne,hi⟩
   . exact hok vs0 T0 hheap
   . refine (h.slot i x hi).keep hk (fun _ _=>rfl) (fun _ _ _=>rfl) (fun hh=>setRow_other w b _ cur' ?_)
     exact fun e=>hne (h.inj i s x old hi hs hh ho (e.trans hb.symm))
 . intro i x hi hh
   rcases getElem?_set_cases hi with ⟨rfl,rfl⟩ | ⟨hne,hi⟩
   . exact hfr▸h.hold i old hs ho
   . exact h.hold i x hi hh
 . intro i j x y hi hj hx hy
   have key:∀(i:Nat) (x:AV),(I.set s new)[i]? = some x->x.vy8=true->∃ x':AV,I[i]? = some x'/\x'.vy8=true:=fun i x hi hx=>by
    rcases getElem?_set_cases hi with ⟨rfl,rfl⟩ | ⟨hne,hi⟩
    . exact ⟨old,hs,ho⟩
    . exact ⟨x,hi,hx⟩
   obtain ⟨x',hi',hx'⟩:=key i x hi hx;obtain ⟨y',hj',hy'⟩:=key j y hj hy;exact h.inj i j x' y' hi' hj' hx' hy'
 . intro i x s' b' hi hr
   have:∃ hv:AV,I[s']? = some hv/\hv.fits b'=true:=by
    rcases getElem?_set_cases hi with ⟨rfl,rfl⟩ | ⟨hne,hi⟩
    . cases x<;>simp [AV.rf,AV.vy8] at hr hn
    . exact h.refs i x s' b' hi hr
   obtain ⟨hv,h1,h2⟩:=this;by_cases e:s'=s
   . subst e;rw [hs] at h1;cases h1;have hl:s'<I.length:=(List.getElem?_eq_some_iff.1 hs).1;exact ⟨new,by simp [hl],hf _ h2⟩
   . exact ⟨hv,by rw [List.getElem?_set_ne (Ne.symm e)];exact h1,h2⟩
 . intro t ht
   rcases h.toks t (hlive t ht) with h' | ⟨e,n,xs,hown,hm⟩
   . exact .inl h'
   . rcases hown.2 with ⟨h1,_⟩ | ⟨g,cap,cur,hv,hg,hh,hnc,r⟩
     . exact .inl ⟨none,h1⟩
     . cases cap with
       | zero=>exact .inl ⟨some ⟨g,0,none⟩,by rw [hv];simp at hnc;rw [hnc]⟩
       | succ cap=>
        refine .inr ⟨e,n,xs,⟨hown.1,.inr ⟨g,cap+1,cur,hv,hg,?_,hnc,r⟩⟩,hm⟩;rw [setRow_other]
        . exact hh
        . rintro rfl;exact h.tbox t s old (hlive t ht) hs ho (by rw [hv,hb];rfl)
 . exact fun t t' g ht ht'=>h.tinj t t' g (hlive t ht) (hlive t' ht')
 . intro t i x ht hi hx
   rcases getElem?_set_cases hi with ⟨rfl,rfl⟩ | ⟨hne,hi⟩
   . exact h.tbox t i old (hlive t ht) hs ho
   . exact h.tbox t i x (hlive t ht) hi hx
 . intro k hk' hx;rw [setRow_other]
   . exact h.frame k hk' hx
   . rintro rfl
     rcases (h.hold s old hs ho).2.1 with h1 | h1
     . rw [hb] at h1;omega
     . rw [hb] at h1;exact hx h1
inductive Cell.Le:Cell->Cell->Prop
 | refl (c:Cell):Cell.Le c c
 | zrt (k:IntKind):Cell.Le (.raw (.slice none 0 0)) (.ints k [])
 | nilSl (n:Nat):Cell.Le (.raw (.slice none 0 0)) (.sl n [])
 | nilZc:Cell.Le (.raw (.slice none 0 0)) .zc
 | ysc (k:IntKind):Cell.Le .zc (.ints k [])
 | zcSl (n:Nat):Cell.Le .zc (.sl n [])
 | nnInts (b:Bool) (k:IntKind):Cell.Le (.nn b) (.ints k [])
 | nnSl (b:Bool) (n:Nat):Cell.Le (.nn b) (.sl n [])
 | untok (d:Nat) (c:Cell):Cell.Le (.tok d c) c
 | trans {a b c:Cell} (h:Cell.Le a b) (h':Cell.Le b c):Cell.Le a c
 | inTok (d:Nat) {c c':Cell} (h:Cell.Le c c') (he:c.esz=c'.esz):Cell.Le (.tok d c) (.tok d c')
variable {c c':Cell}
theorem RdC.ysc (k:IntKind):RdC M w (.slice ad 0 0) (.ints k []):=
 .ints 0 0 rfl (Nat.le_refl _) (fun h=>absurd rfl h) (fun i hi=>absurd hi (Nat.not_lt_zero i))
theorem RdC.zcSl (n:Nat):RdC M w (.slice ad 0 0) (.sl n []):=
 .sl 0 0 (fun _ _=>Go.undef) rfl (Nat.le_refl _) (fun h=>absurd rfl h) (fun r hr=>by cases hr) (fun i hi=>absurd hi (Nat.not_lt_zero i)) (fun i hi=>absurd hi (Nat.not_lt_zero i))
theorem RdC.z3m {d:Nat} (h:RdC M w v (.tok d c)):False:=by cases h
theorem RdC.le (hle:Cell.Le c c') (h:RdC M w v c):RdC M w v c':=by
 induction hle with
 | refl=>exact h
 | zrt k=>cases h;exact RdC.ysc k
 | nilSl n=>cases h;exact RdC.zcSl n
 | nilZc=>cases h;exact RdC.zc
 | ysc k=>cases h;exact RdC.ysc k
 | zcSl n=>cases h;exact RdC.zcSl n
 | nnInts b k=>cases h;exact .ints 0 0 rfl (Nat.zero_le _) (fun h=>absurd rfl h) (fun i hi=>absurd hi (Nat.not_lt_zero i))
 | nnSl b n=>cases h;exact .sl 0 0 (fun _ _=>Go.undef) rfl (Nat.zero_le _) (fun h=>absurd rfl h) (fun r hr=>by cases hr) (fun i hi=>absurd hi (Nat.not_lt_zero i)) (fun i hi=>absurd hi (Nat.not_lt_zero i))
 | untok=>exact h.z3m.elim
 | inTok=>exact h.z3m.elim
 | trans _ _ ih1 ih2=>exact ih2 (ih1 h)
theorem RdT.of (h:RdC M w v c):RdT M w τ v c:=by
 cases c with
 | tok d c=>exact h.z3m.elim
 | _=>exact h
theorem RdT.le {w:World} {v:Value} {c c':Cell} (hle:Cell.Le c c') (h:RdT M w τ v c):RdT M w τ v c':=by
 induction hle with
 | refl=>exact h
 | zrt k=>exact RdC.le (.zrt k) h
 | nilSl n=>exact RdC.le (.nilSl n) h
 | nilZc=>exact RdC.le .nilZc h
 | ysc k=>exact RdC.le (.ysc k) h
 | zcSl n=>exact RdC.le (.zcSl n) h
 | nnInts b k=>exact RdC.le (.nnInts b k) h
 | nnSl b n=>exact RdC.le (.nnSl b n) h
 | untok d=>exact RdT.of h.2
 | inTok d hle he _=>exact ⟨he▸h.1,h.2.le hle⟩
 | trans _ _ ih1 ih2=>exact ih2 (ih1 h)
theorem Cell.Le.tok (h:Cell.Le c c') {d:Nat} (hd:c'.vjg d):c.vjg d:=by
 induction h with
 | refl=>exact hd
 | untok=>exact .inr hd
 | inTok d' _ _ ih=>exact hd.imp id ih
 | trans _ _ ih1 ih2=>exact ih1 (ih2 hd)
 | _=>cases hd
inductive LeL:List Cell->List Cell->Prop
 | nil:LeL [] []
 | cons {c c':Cell} {l l':List Cell} (h:Cell.Le c c') (t:LeL l l'):LeL (c::l) (c'::l')
theorem LeL.refl:∀ l:List Cell,LeL l l
 | []=>.nil
 | c::l=>.cons (.refl c) (LeL.refl l)
theorem RdL.le {w:World}:∀{vs:List Value} {cs cs':List Cell},LeL cs cs'->RdL M w τ vs cs->RdL M w τ vs cs'
 | [],_,_,.nil,_=>trivial
 | _::_,_,_,.cons h t,⟨h1,h2⟩=>⟨h1.le h,RdL.le t h2⟩
 | [],_,_,.cons _ _,h=>h.elim
 | _::_,_,_,.nil,h=>h.elim
theorem LeL.tok:∀{cs cs':List Cell},LeL cs cs'->∀{d:Nat},vxw d cs'->vxw d cs
 | _,_,.nil,_,h=>h
 | _,_,.cons h t,_,hd=>hd.elim (fun x=>.inl (h.tok x)) (fun x=>.inr (LeL.tok t x))
inductive AV.Le:AV->AV->Prop
 | refl (x:AV):AV.Le x x
 | any (x:AV):AV.Le x .any
 | one {c c':Cell} (h:Cell.Le c c'):AV.Le (.one c) (.one c')
 | agg {c c':List Cell} (h:LeL c c'):AV.Le (.agg c) (.agg c')
 | box {c c':List Cell} (h:LeL c c'):AV.Le (.box c) (.box c')
 | obx {c c':List Cell} (h:LeL c c'):AV.Le (.obx c) (.obx c')
theorem AV.Le.tok {x y:AV} (h:AV.Le x y) {d:Nat} (hd:y.vjg d):x.vjg d:=by
 cases h with
 | refl=>exact hd
 | any=>cases x<;>simp [AV.vjg] at hd
 | one h=>simp only [AV.vjg] at hd ⊢;exact h.tok hd
 | agg h=>simp only [AV.vjg] at hd ⊢;exact h.tok hd
 | box h=>simp only [AV.vjg] at hd ⊢;exact h.tok hd
 | obx h=>simp only [AV.vjg] at hd ⊢;exact h.tok hd
theorem vi6.le {w:World} {tm:Array Value} {v:Value} {x y:AV} (h:AV.Le x y) (hs:vi6 M w τ tm v x):vi6 M w τ tm v y:=by
 cases h with
 | refl=>exact hs
 | any=>exact trivial
 | one h=>exact RdT.le h hs
 | agg h=>obtain ⟨vs,rfl,h'⟩:=hs;exact ⟨vs,rfl,h'.le h⟩
 | box h=>obtain ⟨b,vs,T,rfl,hb,h'⟩:=hs;exact ⟨b,vs,T,rfl,hb,h'.le h⟩
 | obx h=>obtain ⟨b,vs,T,rfl,hb,h'⟩:=hs;exact ⟨b,vs,T,rfl,hb,h'.le h⟩
theorem AV.Le.fresh {x y:AV} (h:AV.Le x y) (hy:y.vy8=true):x.fresh=y.fresh:=by
 cases h<;>first | rfl | cases hy
theorem AV.Le.vy8 {x y:AV} (h:AV.Le x y) (hy:y.vy8=true):x.vy8=true:=by
 cases h<;>first | exact hy | rfl | cases hy
inductive LeS:List AV->List AV->Prop
 | nil:LeS [] []
 | cons {c c':AV} {l l':List AV} (h:AV.Le c c') (t:LeS l l'):LeS (c::l) (c'::l')
theorem LeS.refl:∀ l:List AV,LeS l l
 | []=>.nil
 | c::l=>.cons (.refl c) (LeS.refl l)
theorem LeS.length:∀{l l':List AV},LeS l l'->l.length=l'.length
 | _,_,.nil=>rfl
 | _,_,.cons _ t=>by simp [t.length]
theorem LeS.get:∀{l l':List AV},LeS l l'->∀(i:Nat) (y:AV),l'[i]? = some y->∃ x,l[i]? = some x/\AV.Le x y
 | _,_,.nil,i,y,h=>by simp at h
 | _,_,.cons h _,0,y,hy=>by simp at hy;subst hy;exact ⟨_,by simp,h⟩
 | _,_,.cons _ t,i+1,y,hy=>by simpa using t.get i y (by simpa using hy)
def vqw (I:List AV):Bool:=I.all fun av=>match av.rf with
 | none=>true
 | some (s,b)=>match I[s]? with
  | some hv=>hv.fits b
  | none=>false
theorem vqw.spec {I:List AV} (h:vqw I=true) {i:Nat} {av:AV} {s:Nat} {b:Bool} (hi:I[i]? = some av) (hr:av.rf=some (s,b)):∃ hv:AV,I[s]? = some hv/\hv.fits b=true:=by
 have hm:av∈I:=List.mem_of_getElem? hi
 have:=(List.all_eq_true.1 h) av hm
 simp only [hr] at this;split at this
 . rename_i hv hs;exact ⟨hv,hs,this⟩
 . cases this
theorem RelI.weaken (h:RelI E τ M I a w) {I':List AV} (hle:LeS I I') (hr:vqw I'=true):RelI E τ M I' a w:=by
 have hlive:∀ t,live I' t->live I t:=fun t ⟨i,y,hi,hy⟩=>by
  obtain ⟨x,hx,hxy⟩:=hle.get i y hi;exact ⟨i,x,hx,hxy.tok hy⟩
 refine RelI.mk h.hd (by rw [h.hs,hle.length]) ?_ h.m0 h.mb ?_ ?_ ?_ ?_ ?_ ?_ h.size h.os h.tape h.output h.frame
 . intro i y hi;obtain ⟨x,hx,hxy⟩:=hle.get i y hi;exact (h.slot i x hx).le hxy
 . intro i y hi hy;obtain ⟨x,hx,hxy⟩:=hle.get i y hi
   have:=h.hold i x hx (hxy.vy8 hy)
   rw [hxy.fresh hy] at this;exact this
 . intro i j y z hi hj hy hz;obtain ⟨x,hx,hxy⟩:=hle.get i y hi;obtain ⟨x',hx',hxy'⟩:=hle.get j z hj;exact h.inj i j x x' hx hx' (hxy.vy8 hy) (hxy'.vy8 hz)
 . intro i y s b hi hr';exact vqw.spec hr hi hr'
 . exact fun t ht=>h.toks t (hlive t ht)
 . exact fun t t' g ht ht'=>h.tinj t t' g (hlive t ht) (hlive t' ht')
 . intro t i y ht hi hy;obtain ⟨x,hx,hxy⟩:=hle.get i y hi;exact h.tbox t i x (hlive t ht) hx (hxy.vy8 hy)
def Cell.strip (d:Nat):Cell->Cell
 | .tok d' c=>if d'=d then c.strip d else .tok d' (c.strip d)
 | c=>c
def vvn (d:Nat):List Cell->List Cell
 | []=>[]
 | c::cs=>c.strip d::vvn d cs
def AV.strip (d:Nat):AV->AV
 | .one c=>.one (c.strip d)
 | .agg cs=>.agg (vvn d cs)
 | .box cs=>.box (vvn d cs)
 | .obx cs=>.obx (vvn d cs)
 | x=>x
def zay (d:Nat):List AV->List AV
 | []=>[]
 | x::l=>x.strip d::zay d l
def Cell.wo7 (d:Nat):Cell->Bool
 | .tok d' c=>d' != d&&c.wo7 d
 | _=>true
def vpo (d:Nat):List Cell->Bool
 | []=>true
 | c::cs=>c.wo7 d&&vpo d cs
def AV.wo7 (d:Nat):AV->Bool
 | .one c=>c.wo7 d
 | .agg cs | .box cs | .obx cs=>vpo d cs
 | _=>true
def xtr (d:Nat):List AV->Bool
 | []=>true
 | x::l=>x.wo7 d&&xtr d l
theorem Cell.x0v {d:Nat}:∀{c:Cell},c.wo7 d=true->¬c.vjg d
 | .tok d' c,h=>by
  simp only [Cell.wo7,Bool.and_eq_true,bne_iff_ne] at h;rintro (h' | h')
  . exact h.1 h'
  . exact Cell.x0v h.2 h'
 | .raw _,_ | .ints _ _,_ | .sl _ _,_ | .zc,_ | .nn _,_ | .fnp _,_=>fun h=>h
theorem vof {d:Nat}:∀{cs:List Cell},vpo d cs=true->¬vxw d cs
 | [],_=>fun h=>h
 | c::cs,h=>by
  simp only [vpo,Bool.and_eq_true] at h;rintro (h' | h')
  . exact Cell.x0v h.1 h'
  . exact vof h.2 h'
theorem AV.x0v {d:Nat} {x:AV} (h:x.wo7 d=true):¬x.vjg d:=by
 cases x with
 | one c=>exact Cell.x0v h
 | agg cs=>exact vof h
 | box cs=>exact vof h
 | obx cs=>exact vof h
 | _=>exact fun h=>h
theorem xbp {d:Nat}:∀{I:List AV},xtr d I=true->¬live I d
 | [],_=>fun ⟨i,x,hi,hx⟩=>by simp at hi
 | y::l,h=>fun ⟨i,x,hi,hx⟩=>by
  simp only [xtr,Bool.and_eq_true] at h
  cases i with
  | zero=>simp at hi;subst hi;exact AV.x0v h.1 hx
  | succ i=>exact xbp h.2 ⟨i,x,by simpa using hi,hx⟩
theorem Cell.wmv (d:Nat):∀ c:Cell,(c.strip d).wo7 d=true
 | .tok d' c=>by
  unfold Cell.strip
  split
  . exact Cell.wmv d c
  . rename_i hne;simp [Cell.wo7,Cell.wmv d c,hne]
 | .raw _ | .ints _ _ | .sl _ _ | .zc | .nn _ | .fnp _=>rfl
theorem y6q (d:Nat):∀ cs:List Cell,vpo d (vvn d cs)=true
 | []=>rfl
 | c::cs=>by simp [vpo,vvn,Cell.wmv,y6q d cs]
theorem AV.wmv (d:Nat) (x:AV):(x.strip d).wo7 d=true:=by
 cases x with
 | one c=>exact Cell.wmv d c
 | agg cs=>exact y6q d cs
 | box cs=>exact y6q d cs
 | obx cs=>exact y6q d cs
 | _=>rfl
theorem Cell.zkj (d:Nat):∀ c:Cell,(c.strip d).esz=c.esz
 | .tok d' c=>by
  unfold Cell.strip
  split
  . rw [Cell.zkj d c];rfl
  . simp [Cell.esz,Cell.zkj d c]
 | .raw _ | .ints _ _ | .sl _ _ | .zc | .nn _ | .fnp _=>rfl
theorem Cell.Le.strip (d:Nat):∀ c:Cell,Cell.Le c (c.strip d)
 | .tok d' c=>by
  unfold Cell.strip
  split
  . exact .trans (.untok d' c) (Cell.Le.strip d c)
  . exact .inTok d' (Cell.Le.strip d c) (Cell.zkj d c).symm
 | .raw _ | .ints _ _ | .sl _ _ | .zc | .nn _ | .fnp _=>.refl _
theorem LeL.strip (d:Nat):∀ cs:List Cell,LeL cs (vvn d cs)
 | []=>.nil
 | c::cs=>.cons (Cell.Le.strip d c) (LeL.strip d cs)
theorem AV.Le.strip (d:Nat) (x:AV):AV.Le x (x.strip d):=by
 cases x with
 | one c=>exact .one (Cell.Le.strip d c)
 | agg cs=>exact .agg (LeL.strip d cs)
 | box cs=>exact .box (LeL.strip d cs)
 | obx cs=>exact .obx (LeL.strip d cs)
 | _=>exact .refl _
theorem LeS.strip (d:Nat):∀ I:List AV,LeS I (zay d I)
 | []=>.nil
 | x::l=>.cons (AV.Le.strip d x) (LeS.strip d l)
theorem ywh (d:Nat):∀(I:List AV) (i:Nat),(zay d I)[i]? = (I[i]?).map (AV.strip d)
 | [],i=>by simp [zay]
 | x::l,0=>by simp [zay]
 | x::l,i+1=>by simpa [zay] using ywh d l i
theorem AV.xix (d:Nat) (x:AV):(x.strip d).rf=x.rf:=by cases x<;>rfl
theorem AV.ze2 (d:Nat) (x:AV) (b:Bool):(x.strip d).fits b=x.fits b:=by cases x<;>cases b<;>rfl
theorem AV.xhf (d:Nat) (x:AV):(x.strip d).fresh=x.fresh:=by cases x<;>rfl
theorem AV.v9x (d:Nat) (x:AV):(x.strip d).vy8=x.vy8:=by cases x<;>rfl
theorem RelI.strip {w:World} (h:RelI E τ M I a w) (d:Nat):RelI E τ M (zay d I) a w:=by
 have hle:=LeS.strip d I
 have hget:∀(i:Nat) (y:AV),(zay d I)[i]? = some y->∃ x,I[i]? = some x/\y=x.strip d:=fun i y hi=>by
  rw [ywh] at hi
  cases hx:I[i]? with
  | none=>rw [hx] at hi;cases hi
  | some x=>rw [hx] at hi;exact ⟨x,rfl,by simpa using hi.symm⟩
 have hlive:∀ t,live (zay d I) t->live I t:=fun t ⟨i,y,hi,hy⟩=>by
  obtain ⟨x,hx,hxy⟩:=hle.get i y hi;exact ⟨i,x,hx,hxy.tok hy⟩
 refine RelI.mk h.hd (by rw [h.hs,hle.length]) ?_ h.m0 h.mb ?_ ?_ ?_ ?_ ?_ ?_ h.size h.os h.tape h.output h.frame
 . intro i y hi;obtain ⟨x,hx,hxy⟩:=hle.get i y hi;exact (h.slot i x hx).le hxy
 . intro i y hi hy;obtain ⟨x,hx,rfl⟩:=hget i y hi
   have:=h.hold i x hx (by rwa [AV.v9x] at hy)
   rw [AV.xhf];exact this
 . intro i j y z hi hj hy hz;obtain ⟨x,hx,rfl⟩:=hget i y hi;obtain ⟨x',hx',rfl⟩:=hget j z hj;exact h.inj i j x x' hx hx' (by rwa [AV.v9x] at hy) (by rwa [AV.v9x] at hz)
 . intro i y s b hi hr';obtain ⟨x,hx,rfl⟩:=hget i y hi;rw [AV.xix] at hr';obtain ⟨hv,h1,h2⟩:=h.refs i x s b hx hr';exact ⟨hv.strip d,by rw [ywh,h1];rfl,by rwa [AV.ze2]⟩
 . exact fun t ht=>h.toks t (hlive t ht)
 . exact fun t t' g ht ht'=>h.tinj t t' g (hlive t ht) (hlive t' ht')
 . intro t i y ht hi hy;obtain ⟨x,hx,rfl⟩:=hget i y hi;exact h.tbox t i x (hlive t ht) hx (by rwa [AV.v9x] at hy)
theorem RelI.xqa (h:RelI E τ M I a w) {d:Nat} (hd:¬live I d) (v:TV):RelI E (fun t=>if t=d then v else τ t) M I a w:=by
 have hne:∀ t,live I t->(if t=d then v else τ t)=τ t:=fun t ht=>if_neg (fun e=>hd (by rw [<-e];exact ht))
 refine RelI.mk h.hd h.hs ?_ h.m0 h.mb h.hold h.inj h.refs ?_ ?_ ?_ h.size h.os h.tape h.output h.frame
 . exact fun i x hi=>(h.slot i x hi).keep (fun _ _ _ h1 h2=>⟨h1,h2⟩) (fun t ht=>hne t ⟨i,x,hi,ht⟩) (fun _ _ _=>rfl) (fun _=>rfl)
 . intro t ht;rw [hne t ht];exact h.toks t ht
 . intro t t' g ht ht';rw [hne t ht,hne t' ht'];exact h.tinj t t' g ht ht'
 . intro t i x ht hi hx;rw [hne t ht];exact h.tbox t i x ht hi hx
end Go.Slot
namespace Go.Slot
open Go Go.RowKit
variable {P:Program} {t:TypeId} {i:TypeInfo} {M:Nat->Nat->Prop} {w:World} {τ:Nat->TV} {av:AV} {I:List AV} {o:Oper} {rd:List Nat}
inductive Sh where
 | int (k:IntKind)
 | bool
 | string
 | struct (fs:List (Nat×Nat×TypeId))
 | array (n e es:Nat)
 | slice (e es eb:Nat) (ik:Option IntKind)
 | map (k e:TypeId)
 | cell
 | other
structure TI where
 size:Nat
 bytes:Nat
 zc:List Cell
 sh:Sh
def wqc:Value->Cell
 | .slice none 0 0=>.zc
 | v=>.raw v
def shOf (P:Program):TypeDesc->Sh
 | .int k=>.int k
 | .bool=>.bool
 | .string=>.string
 | .struct fs=>if (fs.toList.all fun f=>P.cellsOf f.type != 0) then .struct (fs.toList.map fun f=>(f.offset,P.cellsOf f.type,f.type)) else .other
 | .array n e=>.array n e (P.cellsOf e)
 | .slice e=>match P.info? e with
  | some i=>match i.zero with
   | some z=>if i.size != 0&&z.cells.size==i.size then .slice e i.size i.bytes (match P.underlying e with | some (.int k)=>some k | _=>none) else .other
   | none=>.other
  | none=>.other
 | .map k e=>.map k e
 | .pointer _=>.cell
 | .func _ _ _=>.cell
 | .interface _=>.cell
 | .unsafePointer=>.cell
 | _=>.other
def mkTI (P:Program) (t:TypeId):Option TI:=
 match P.underlying t,P.info? t with
 | some d,some i=>match i.zero with
  | some z=>if z.cells.toList.all (·.oneCell')&&z.cells.size==i.size then some ⟨i.size,i.bytes,z.cells.toList.map wqc,shOf P d⟩ else none
  | none=>none
 | _,_=>none
structure TIok (P:Program) (t:TypeId) (ti:TI):Prop where
 ex:∃(d:TypeDesc) (i:TypeInfo) (z:Value),P.underlying t=some d/\P.info? t=some i/\i.zero=some z/\i.size=ti.size/\i.bytes=ti.bytes/\
  z.cells.size=ti.size/\(∀ v∈z.cells.toList,v.oneCell'=true)/\ti.zc=z.cells.toList.map wqc/\ti.sh=shOf P d
theorem vnz {ti : TI} (h : mkTI P t = some ti) : TIok P t ti := by
 unfold mkTI at h;split at h
 . rename_i d i hd hi;split at h
   . rename_i z hz;split at h
     . rename_i hc;simp only [Bool.and_eq_true,List.all_eq_true,beq_iff_eq] at hc
       cases h;exact ⟨d,i,z,hd,hi,hz,rfl,rfl,hc.2,hc.1,rfl,rfl⟩
     . cases h
   . cases h
 . cases h
def Sh.agg:Sh->Bool
 | .struct _ | .array _ _ _=>true
 | _=>false
def Sh.plain:Sh->Bool
 | .int _ | .bool | .string | .slice _ _ _ _ | .map _ _ | .cell=>true
 | _=>false
def TI.many (ti:TI):Option Bool:=if ti.sh.agg then some true else if ti.sh.plain then some false else none
section
variable {P:Program} {w:World}
theorem voj {d:TypeDesc} (h:P.underlying t=some d):(underlying t).run P w=.ok d w:=run_underlying h w
theorem xvo (h:P.info? t=some i):(sizeOf t).run P w=.ok i.size w:=by simp [sizeOf,typeInfo,h]
theorem xt1 {z:Value} (h:P.info? t=some i) (hz:i.zero=some z):(zeroValue t).run P w=.ok z w:=by simp [zeroValue,typeInfo,h,hz]
theorem wdi {d:TypeDesc} (h:(shOf P d).agg=true):(∃ fs,d=.struct fs)\/∃ n e,d=.array n e:=by
 cases d with
 | struct fs=>exact .inl ⟨fs,rfl⟩
 | array n e=>exact .inr ⟨n,e,rfl⟩
 | slice e=>
  exfalso;revert h;unfold shOf;dsimp only
  split
  . split
    . split<;>simp [Sh.agg]
    . simp [Sh.agg]
  . simp [Sh.agg]
 | _=>simp [shOf,Sh.agg] at h
theorem zmd {d:TypeDesc} (h:(shOf P d).plain=true):(∀ fs,d≠.struct fs)/\∀ n e,d≠.array n e:=by
 cases d with
 | struct fs=>
  exfalso;revert h;unfold shOf;dsimp only
  split<;>simp [Sh.plain]
 | array n e=>simp [shOf,Sh.plain] at h
 | _=>simp
theorem TIok.z1y {ti:TI} (h:TIok P t ti) {b:Bool} (hb:ti.many=some b):(isAgg t).run P w=.ok b w:=by
 obtain ⟨d,i,z,hd,hi,hz,_,_,_,_,_,hsh⟩:=h.ex;unfold TI.many at hb;rw [hsh] at hb;unfold isAgg;simp only [Sem.run_bind,voj hd,Result.andThen_ok];split at hb
 . rename_i ha
   cases hb
   rcases wdi ha with ⟨fs,rfl⟩ | ⟨n,e,rfl⟩<;>rfl
 . split at hb
   . rename_i hp
     cases hb
     have:=zmd hp
     cases d<;>first | rfl | exact absurd rfl (this.1 _) | exact absurd rfl (this.2 _ _)
   . cases hb
end
def wx7:Value->AV
 | .agg vs=>if vs.toList.all (·.oneCell') then .agg (vs.toList.map .raw) else .any
 | .tuple _=>.any
 | v=>.one (.raw v)
def opd (I:List AV):Operand->AV
 | .tmp t=>gt I t
 | .const v=>wx7 v
 | .func f=>.one (.raw (.func (.func f) #[] #[]))
 | .global _=>.any
def orr:Operand->List Nat
 | .tmp t=>[t]
 | _=>[]
def wwy (rd:List Nat) (I I':List AV):Prop:=I'.length=I.length/\∀ r∈rd,gt I' r=gt I r
theorem wwy.opd {rd:List Nat} {I I':List AV} (h:wwy rd I I') {x:Operand} (hx:∀ t∈orr x,t∈rd):opd I' x=opd I x:=by
 cases x with
 | tmp t=>exact h.2 t (hx t (by simp [orr]))
 | _=>rfl
theorem RdL.raws {M:Nat->Nat->Prop} {w:World} {τ:Nat->TV}:∀{vs:List Value},(∀ v∈vs,v.oneCell'=true)->RdL M w τ vs (vs.map .raw)
 | [],_=>trivial
 | v::vs,h=>⟨RdC.raw (h v (by simp)),RdL.raws (fun u hu=>h u (by simp [hu]))⟩
theorem yjc (v:Value):RdA M w τ v (wx7 v):=by
 unfold wx7
 split
 . rename_i vs
   split
   . rename_i h;exact ⟨vs.toList,by simp,RdL.raws (fun v hv=>(List.all_eq_true.1 h) v hv)⟩
   . trivial
 . trivial
 . rename_i h1 h2;exact RdC.raw (by cases v<;>simp_all [Value.oneCell'])
theorem RdA.slot {tm:Array Value} {v:Value} (h:RdA M w τ v av):vi6 M w τ tm v av:=by
 cases av<;>first | exact h | exact h.elim
section
variable {E:Env} {τ:Nat->TV} {M:Nat->Nat->Prop} {I:List AV} {a:Act} {w:World}
theorem RelI.gt (h:RelI E τ M I a w) (t:Nat):vi6 M w τ a.tmps (a.tmps.getD t Go.undef) (gt I t):=by
 unfold Slot.gt
 cases ht:I[t]? with
 | none=>exact trivial
 | some av=>exact h.slot t av ht
theorem RelI.opd (h:RelI E τ M I a w) (x:Operand):vi6 M w τ a.tmps (a.eval x) (opd I x):=by
 cases x with
 | tmp t=>exact h.gt t
 | const v=>exact (yjc v).slot
 | func f=>exact RdC.raw rfl
 | global g=>exact trivial
theorem vxi {t:Nat} (h:gt I t=av) (hne:av≠.any):I[t]? = some av:=by
 unfold gt at h
 cases ht:I[t]? with
 | none=>rw [ht] at h;exact absurd h.symm hne
 | some x=>rw [ht] at h;simp at h;rw [h]
theorem y1e {x:Operand} {t:Nat} (ht:(Slot.opd I x).vjg t):live I t:=by
 cases x with
 | tmp s=>
  refine ⟨s,Slot.gt I s,vxi rfl (fun e=>?_),ht⟩;simp only [Slot.opd] at ht;rw [e] at ht;exact ht
 | const v=>
  simp only [Slot.opd,wx7] at ht;split at ht
  . split at ht
    . exfalso;rename_i vs _;simp only [AV.vjg] at ht;generalize vs.toList=l at ht
      induction l with
      | nil=>exact ht
      | cons c l ih=>exact ht.elim (fun h=>h) ih
    . exact ht.elim
  . exact ht.elim
  . exact ht.elim
 | func f=>exact ht.elim
 | global g=>exact ht.elim
end
def app:List (Nat×AV)->List AV->List AV
 | [],I=>I
 | (s,v)::r,I=>app r (I.set s v)
def yh6 (P:Program) (o:Oper) (I:List AV) (rd tk:List Nat) (eff:List (Nat×AV)):Prop:=
 ∀(E:Env) (I':List AV) (a:Act) (w:World),wwy rd I I'->(∀ t∈tk,∀ i,(gt I' i).vjg t->i∈rd)->Rel E I' a w->∀(K:Act->World->Prop) (Q:Exit->Act->World->Prop),
  (∀ a' w',Rel E (app eff I') a' w'->K a' w')->o.wp P a w K Q
def nh (I:List AV) (d:Nat):Bool:=match I[d]? with
 | some av=>!av.vy8
 | none=>false
theorem yn6 {d:Nat} (h:nh I d=true):∃ old,I[d]? = some old/\old.vy8=false:=by
 unfold nh at h;split at h
 . rename_i av hav;exact ⟨av,hav,by simpa using h⟩
 . cases h
theorem wwy.nh {rd:List Nat} {I I':List AV} (h:wwy rd I I') {d:Nat} (hd:d∈rd) (hn:nh I d=true):nh I' d=true:=by
 obtain ⟨old,h1,h2⟩:=yn6 hn
 have hlt:d<I'.length:=by rw [h.1];exact (List.getElem?_eq_some_iff.1 h1).1
 have:=h.2 d hd
 unfold Slot.gt at this;rw [h1,List.getElem?_eq_getElem hlt] at this;simp at this;unfold Slot.nh;rw [List.getElem?_eq_getElem hlt];simp [this,h2]
theorem yh6.val {d:Nat} (hdst:o.dst=some d) (hd:d∈rd) (hn:nh I d=true) (hav:av.vy8=false)
 (hrun:∀(E:Env) (τ:Nat->TV) (M:Nat->Nat->Prop) (I':List AV) (a:Act) (w:World),wwy rd I I'->RelI E τ M I' a w->
   ∃ v w',(execOp a.eval o).run P w=.ok (.value v) w'/\Below w.heap.size w w'/\vi6 M w' τ a.tmps v av/\(∀ t,av.vjg t->live I' t)/\
    (∀(s:Nat) (b:Bool),av.rf=some (s,b)->∃ hv:AV,I'[s]? = some hv/\hv.fits b=true)):yh6 P o I rd [] [(d,av)]:=by
 intro E I' a w hag _ ⟨τ,M,h⟩ K Q hK;obtain ⟨v,w',hr,hb,hok,htok,hrf⟩:=hrun E τ M I' a w hag h;obtain ⟨old,h1,h2⟩:=yn6 (hag.nh hd hn);unfold Oper.wp;rw [hr];show K (a.put o.dst v) w';rw [hdst];exact hK _ _ ⟨τ,M,(h.below hb).put h1 h2 v av hav hok hrf htok⟩
theorem yh6.new {d:Nat} (hdst:o.dst=some d) (hd:d∈rd) (hn:nh I d=true) (hav:av.vy8=true) (hfrs:av.fresh=true)
 (hrun:∀(E:Env) (τ:Nat->TV) (M:Nat->Nat->Prop) (I':List AV) (a:Act) (w:World),wwy rd I I'->RelI E τ M I' a w->
   ∃ v ob,(execOp a.eval o).run P w=.ok (.value v) (w.alloc ob)/\blk v=w.heap.size/\vi6 (fun b o=>M b o\/b=w.heap.size) (w.alloc ob) τ a.tmps v av/\(∀ t,av.vjg t->live I' t)) :
 yh6 P o I rd [] [(d,av)]:=by
 intro E I' a w hag _ ⟨τ,M,h⟩ K Q hK;obtain ⟨v,ob,hr,hb,hok,htok⟩:=hrun E τ M I' a w hag h;obtain ⟨old,h1,h2⟩:=yn6 (hag.nh hd hn);unfold Oper.wp;rw [hr];show K (a.put o.dst v) _;rw [hdst];exact hK _ _ ⟨τ,_,h.alloc h1 h2 ob v av hav hfrs hb hok htok⟩
end Go.Slot
