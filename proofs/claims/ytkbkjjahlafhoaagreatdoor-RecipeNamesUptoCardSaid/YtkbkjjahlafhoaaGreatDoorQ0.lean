/- The proof, part Q0: Ma, Mb, Mc. -/
import Derived.WalkKit
import Derived.WalkSpells
namespace Go.Slot
open Go Go.RowKit
variable {M M':Nat->Nat->Prop} {w w':World} {v:Value} {i d:Nat} {tm:Array Value}
inductive Cell where
 | raw (v:Value)
 | ints (k:IntKind) (l:List Int)
 | sl (n:Nat) (rows:List (List Cell))
 | zc
 | nn (b:Bool)
 | fnp (p:(Nat->Nat->Prop)->World->Value->Prop)
 | tok (d:Nat) (c:Cell)
def ydx (M M':Nat->Nat->Prop) (w w':World):Prop:=∀ b o u,¬M b o->w.cell? ⟨b,o,none⟩=some u->¬M' b o/\w'.cell? ⟨b,o,none⟩=some u
theorem ydx.trans {M'':Nat->Nat->Prop} {w'':World} (h:ydx M M' w w') (h':ydx M' M'' w' w''):ydx M M'' w w'':=fun b o u hm hc=>h' b o u (h b o u hm hc).1 (h b o u hm hc).2
inductive RdC (M:Nat->Nat->Prop) (w:World):Value->Cell->Prop
 | raw {v:Value} (h:v.oneCell'=true):RdC M w v (.raw v)
 | zc {a:Option Addr}:RdC M w (.slice a 0 0) .zc
 | nn {a:Option Addr} {cap:Nat}:RdC M w (.slice a 0 cap) (.nn a.isNone)
 | fnp {v:Value} {p:(Nat->Nat->Prop)->World->Value->Prop} (h:v.oneCell'=true) (hp:∀ M' w',ydx M M' w w'->p M' w' v):RdC M w v (.fnp p)
 | ints {a:Option Addr} {len cap:Nat} {k:IntKind} {l:List Int} (b off:Nat) (hl:len=l.length) (hc:len<=cap)
  (ha:l≠[]->a=some ⟨b,off,none⟩)
  (h:∀ i (hi:i<l.length),¬M b (off+i)/\w.cell? ⟨b,off+i,none⟩=some (.int k l[i])):RdC M w (.slice a len cap) (.ints k l)
 | sl {a:Option Addr} {len cap n:Nat} {rows:List (List Cell)} (b off:Nat) (u:Nat->Nat->Value) (hl:len=rows.length) (hc:len<=cap)
  (ha:rows≠[]->a=some ⟨b,off,none⟩) (hn:∀ r∈rows,r.length=n)
  (hm:∀ i,i<rows.length->∀ j,j<n->¬M b (off+i*n+j)/\w.cell? ⟨b,off+i*n+j,none⟩=some (u i j))
  (hr:∀ i (hi:i<rows.length) j (hj:j<rows[i].length),RdC M w (u i j) (rows[i][j])):RdC M w (.slice a len cap) (.sl n rows)
theorem RdC.one {c:Cell} (h:RdC M w v c):v.oneCell'=true:=by
 cases h<;>first | rfl | assumption
theorem RdC.keep (hk:ydx M M' w w') {c:Cell} (h:RdC M w v c):RdC M' w' v c:=by
 induction h with
 | raw h=>exact .raw h
 | zc=>exact .zc
 | nn=>exact .nn
 | fnp h hp=>exact .fnp h (fun M'' w'' hk'=>hp M'' w'' (hk.trans hk'))
 | ints b off hl hc ha h=>exact .ints b off hl hc ha (fun i hi=>hk _ _ _ (h i hi).1 (h i hi).2)
 | sl b off u hl hc ha hn hm _ ih=>exact .sl b off u hl hc ha hn (fun i hi j hj=>hk _ _ _ (hm i hi j hj).1 (hm i hi j hj).2) ih
structure TV where
 v:Value
 sz:Nat
def Cell.esz:Cell->Nat
 | .ints _ _=>1
 | .sl n _=>n
 | .tok _ c=>c.esz
 | _=>0
def RdT (M:Nat->Nat->Prop) (w:World) (τ:Nat->TV) (v:Value):Cell->Prop
 | .tok d c=>(v=(τ d).v/\(τ d).sz=c.esz)/\RdC M w v c
 | c=>RdC M w v c
def RdL (M:Nat->Nat->Prop) (w:World) (τ:Nat->TV):List Value->List Cell->Prop
 | [],[]=>True
 | v::vs,c::cs=>RdT M w τ v c/\RdL M w τ vs cs
 | _,_=>False
def RdD (M:Nat->Nat->Prop) (w:World):List Value->List Cell->Prop
 | [],[]=>True
 | v::vs,c::cs=>RdC M w v c/\RdD M w vs cs
 | _,_=>False
def Cell.zkp (d:Nat):Cell->Prop
 | .tok d' c=>d'=d\/c.zkp d
 | _=>False
def zje (d:Nat):List Cell->Prop
 | []=>False
 | c::cs=>c.zkp d\/zje d cs
theorem RdT.keep {M M':Nat->Nat->Prop} {w w':World} {τ τ':Nat->TV} (hk:ydx M M' w w') {v:Value} {c:Cell} (ht:∀ d,c.zkp d->τ' d=τ d)
 (h:RdT M w τ v c):RdT M' w' τ' v c:=by
 cases c with
 | tok d c=>exact ⟨by rw [ht d (.inl rfl)];exact h.1,h.2.keep hk⟩
 | _=>exact RdC.keep hk h
theorem RdL.keep {M M':Nat->Nat->Prop} {w w':World} {τ τ':Nat->TV} (hk:ydx M M' w w'):∀{vs:List Value} {cs:List Cell},(∀ d,zje d cs->τ' d=τ d)->
 RdL M w τ vs cs->RdL M' w' τ' vs cs
 | [],[],_,_=>trivial
 | _::_,_::_,ht,h=>⟨h.1.keep hk (fun d hd=>ht d (.inl hd)),h.2.keep hk (fun d hd=>ht d (.inr hd))⟩
theorem RdD.keep {M M':Nat->Nat->Prop} {w w':World} (hk:ydx M M' w w'):∀{vs:List Value} {cs:List Cell},RdD M w vs cs->RdD M' w' vs cs
 | [],[],_=>trivial
 | _::_,_::_,h=>⟨h.1.keep hk,h.2.keep hk⟩
theorem RdD.length {M:Nat->Nat->Prop} {w:World}:∀{vs:List Value} {cs:List Cell},RdD M w vs cs->vs.length=cs.length
 | [],[],_=>rfl
 | _::_,_::_,h=>by simp [h.2.length]
theorem RdD.drop {M:Nat->Nat->Prop} {w:World}:∀(n:Nat) {vs:List Value} {cs:List Cell},RdD M w vs cs->RdD M w (vs.drop n) (cs.drop n)
 | 0,_,_,h=>by simpa using h
 | n+1,[],[],_=>trivial
 | n+1,_::_,_::_,h=>by simpa using h.2.drop n
theorem RdD.take {M:Nat->Nat->Prop} {w:World}:∀(n:Nat) {vs:List Value} {cs:List Cell},RdD M w vs cs->RdD M w (vs.take n) (cs.take n)
 | 0,_,_,_=>trivial
 | _n+1,[],[],_=>trivial
 | n+1,_::_,_::_,h=>⟨h.1,h.2.take n⟩
theorem RdD.append {M:Nat->Nat->Prop} {w:World}:∀{vs:List Value} {cs:List Cell} {us:List Value} {ds:List Cell},RdD M w vs cs->RdD M w us ds->RdD M w (vs++us) (cs++ds)
 | [],[],_,_,_,h=>h
 | _::_,_::_,_,_,h,h'=>⟨h.1,h.2.append h'⟩
def Cell.bare:Cell->Cell
 | .tok _ c=>c
 | c=>c
theorem RdT.bare {M:Nat->Nat->Prop} {w:World} {τ:Nat->TV} {v:Value} {c:Cell} (h:RdT M w τ v c):RdC M w v c.bare:=by
 cases c<;>first | exact h | exact h.2
def vw7:List Cell->List Cell
 | []=>[]
 | c::cs=>c.bare::vw7 cs
inductive AV where
 | undef
 | any
 | one (c:Cell)
 | agg (cs:List Cell)
 | tup (l:List AV)
 | box (cs:List Cell)
 | ptr (s off:Nat)
 | obx (cs:List Cell)
 | elt (cs:List Cell)
 | arr (pre:List Value) (c:Cell) (post:Option (List Value))
 | asl (s:Nat)
 | awn (s m lo n:Nat)
 | pel (s m i f:Nat)
def gt (J:List AV) (i:Nat):AV:=(J[i]?).getD .any
def blk:Value->Nat
 | .pointer (some a)=>a.block
 | .slice (some a) _ _=>a.block
 | _=>0
def offV:Value->Nat
 | .pointer (some a)=>a.off
 | .slice (some a) _ _=>a.off
 | _=>0
def capV:Value->Nat
 | .slice _ _ c=>c
 | _=>0
def Cell.cnt:Cell->Nat
 | .ints _ l=>l.length
 | .sl _ rows=>rows.length
 | _=>0
def Cell.flat:Cell->List Cell
 | .ints k l=>l.map fun n=>.raw (.int k n)
 | .sl _ rows=>rows.flatten
 | _=>[]
def Cell.uni:Cell->Prop
 | .ints _ _=>True
 | .sl n rows=>∀ r∈rows,r.length=n
 | _=>False
def RdA (M:Nat->Nat->Prop) (w:World) (τ:Nat->TV) (v:Value):AV->Prop
 | .any=>True
 | .undef=>v=Go.undef
 | .one c=>RdT M w τ v c
 | .agg cs=>∃ vs:List Value,v=.agg vs.toArray/\RdL M w τ vs cs
 | _=>False
def RdB (M:Nat->Nat->Prop) (w:World) (v:Value):AV->Prop
 | .any=>True
 | .undef=>v=Go.undef
 | .one c=>RdC M w v c
 | .agg cs=>∃ vs:List Value,v=.agg vs.toArray/\RdD M w vs cs
 | .elt cs=>∃(b off:Nat) (vs:List Value),v=.pointer (some ⟨b,off,none⟩)/\(∀ j u,vs[j]? = some u->¬M b (off+j)/\w.cell? ⟨b,off+j,none⟩=some u)/\RdD M w vs cs
 | _=>False
def RdBL (M:Nat->Nat->Prop) (w:World):List Value->List AV->Prop
 | [],[]=>True
 | v::vs,c::cs=>RdB M w v c/\RdBL M w vs cs
 | _,_=>False
def yos (M:Nat->Nat->Prop) (w:World) (τ:Nat->TV) (tm:Array Value) (v:Value):AV->Prop
 | .tup l=>∃ vs:List Value,v=.tuple vs.toArray/\RdBL M w vs l
 | .box cs=>∃(b:Nat) (vs:List Value) (T:TypeId),v=.pointer (some ⟨b,0,none⟩)/\w.heap[b]? = some (.cells vs.toArray T (0,0))/\RdL M w τ vs cs
 | .ptr s off=>v=.pointer (some ⟨blk (tm.getD s Go.undef),off,none⟩)
 | .elt cs=>∃(b off:Nat) (vs:List Value),v=.pointer (some ⟨b,off,none⟩)/\(∀ j u,vs[j]? = some u->¬M b (off+j)/\w.cell? ⟨b,off+j,none⟩=some u)/\RdD M w vs cs
 | .obx cs=>∃(b:Nat) (vs:List Value) (T:TypeId),v=.pointer (some ⟨b,0,none⟩)/\w.heap[b]? = some (.cells vs.toArray T (0,0))/\RdL M w τ vs cs
 | .arr pre c post=>∃(b:Nat) (T:TypeId) (vs q:List Value) (cap:Nat),v=.slice (some ⟨b,pre.length,none⟩) c.cnt cap/\w.heap[b]? = some (.cells (pre++(vs++q)).toArray T (0,0))/\RdD M w vs c.flat/\
  (∀ p,post=some p->q=p)/\c.uni/\c.cnt<=cap/\cap*c.esz<=vs.length+q.length
 | .asl s=>v=tm.getD s Go.undef
 | .awn s m lo n=>∃ ad cap,v=.slice ad n cap/\(cap≠0\/lo=0->ad=some ⟨blk (tm.getD s Go.undef),offV (tm.getD s Go.undef)+lo*m,none⟩)/\n<=cap/\lo+cap<=capV (tm.getD s Go.undef)
 | .pel s m i f=>v=.pointer (some ⟨blk (tm.getD s Go.undef),offV (tm.getD s Go.undef)+i*m+f,none⟩)
 | av=>RdA M w τ v av
def AV.v43:AV->Bool
 | .box _ | .obx _ | .arr _ _ _=>true
 | _=>false
def AV.xki:AV->Bool
 | .box _ | .obx _=>true
 | _=>false
def AV.wry:AV->Bool
 | .arr _ _ _=>true
 | _=>false
def AV.fresh:AV->Bool
 | .box _=>true
 | .arr _ _ none=>true
 | _=>false
def AV.rf:AV->Option (Nat×Bool)
 | .ptr s _=>some (s,true)
 | .asl s | .awn s _ _ _ | .pel s _ _ _=>some (s,false)
 | _=>none
def AV.fits (b:Bool) (av:AV):Bool:=if b then av.xki else av.wry
def AV.zkp (d:Nat):AV->Prop
 | .one c=>c.zkp d
 | .agg cs | .box cs | .obx cs=>zje d cs
 | _=>False
theorem RdA.keep {M M':Nat->Nat->Prop} {w w':World} {τ τ':Nat->TV} (hk:ydx M M' w w') {v:Value} {av:AV} (ht:∀ d,av.zkp d->τ' d=τ d)
 (h:RdA M w τ v av):RdA M' w' τ' v av:=by
 cases av with
 | one c=>exact RdT.keep hk ht h
 | agg cs=>obtain ⟨vs,rfl,h⟩:=h;exact ⟨vs,rfl,h.keep hk ht⟩
 | _=>exact h
theorem RdB.keep {M M':Nat->Nat->Prop} {w w':World} (hk:ydx M M' w w') {v:Value} {av:AV} (h:RdB M w v av):RdB M' w' v av:=by
 cases av with
 | one c=>exact RdC.keep hk h
 | agg cs=>obtain ⟨vs,rfl,h⟩:=h;exact ⟨vs,rfl,h.keep hk⟩
 | elt cs=>obtain ⟨b,off,vs,rfl,hc,h⟩:=h;exact ⟨b,off,vs,rfl,fun j u hj=>hk _ _ _ (hc j u hj).1 (hc j u hj).2,h.keep hk⟩
 | _=>exact h
theorem RdBL.keep {M M':Nat->Nat->Prop} {w w':World} (hk:ydx M M' w w'):∀{vs:List Value} {l:List AV},RdBL M w vs l->RdBL M' w' vs l
 | [],[],_=>trivial
 | _::_,_::_,h=>⟨h.1.keep hk,h.2.keep hk⟩
structure Env where
 w0:World
 M:Nat->Nat->Prop
 X:Nat->Prop
 args:Array Value
 ds:List Deferred
 hM:∀ b o,M b o->b<w0.heap.size
abbrev Env.N (E:Env):Nat:=E.w0.heap.size
def tokB:Value->Option Nat
 | .slice (some a) _ (_+1)=>some a.block
 | _=>none
def x9x (E:Env) (M:Nat->Nat->Prop) (w:World) (t:TV):Prop:=
 (∃ a,t.v=.slice a 0 0)\/
 ∃(e n:Nat) (xs:List Value),w.ownsRow E.N e t.sz t.v n xs/\∀ g,t.v.ownBlock=some g->∀ o,n*t.sz<=o->M g o
def live (J:List AV) (d:Nat):Prop:=∃(i:Nat) (av:AV),J[i]? = some av/\av.zkp d
structure RelI (E:Env) (τ:Nat->TV) (M:Nat->Nat->Prop) (J:List AV) (a:Act) (w:World):Prop where
 hd:a.defers=E.ds
 hs:a.tmps.size=J.length
 slot:∀(i:Nat) (av:AV),J[i]? = some av->yos M w τ a.tmps (a.tmps.getD i Go.undef) av
 m0:∀ b o,E.M b o->M b o
 mb:∀ b o,M b o->b<w.heap.size
 hold:∀(i:Nat) (av:AV),J[i]? = some av->av.v43=true->(∀ o,M (blk (a.tmps.getD i Go.undef)) o)/\(E.N<=blk (a.tmps.getD i Go.undef)\/E.X (blk (a.tmps.getD i Go.undef)))/\(av.fresh=true->E.N<=blk (a.tmps.getD i Go.undef))/\
  (av.fresh=false->a.tmps.getD i Go.undef=E.args.getD i Go.undef)
 inj:∀(i j:Nat) (avi avj:AV),J[i]? = some avi->J[j]? = some avj->avi.v43=true->avj.v43=true->blk (a.tmps.getD i Go.undef)=blk (a.tmps.getD j Go.undef)->i=j
 refs:∀(i:Nat) (av:AV) (s:Nat) (b:Bool),J[i]? = some av->av.rf=some (s,b)->∃ hv:AV,J[s]? = some hv/\hv.fits b=true
 toks:∀ d:Nat,live J d->x9x E M w (τ d)
 tinj:∀(d d' g:Nat),live J d->live J d'->d≠d'->tokB (τ d).v=some g->tokB (τ d').v≠some g
 tbox:∀(d i:Nat) (av:AV),live J d->J[i]? = some av->av.v43=true->tokB (τ d).v≠some (blk (a.tmps.getD i Go.undef))
 size:E.N<=w.heap.size
 os:w.os=E.w0.os
 tape:w.tape=E.w0.tape
 output:w.output=E.w0.output
 frame:∀ k,k<E.N->¬E.X k->w.heap[k]? = E.w0.heap[k]?
def Rel (E:Env) (J:List AV) (a:Act) (w:World):Prop:=∃ τ M,RelI E τ M J a w
theorem AV.z4y {b:Bool} {av:AV} (h:av.fits b=true):av.v43=true:=by
 cases b<;>cases av<;>simp_all [AV.fits,AV.xki,AV.wry,AV.v43]
variable {E:Env} {τ:Nat->TV} {M:Nat->Nat->Prop} {J:List AV} {a:Act}
theorem RelI.lt (h:RelI E τ M J a w) {av:AV} (hi:J[i]? = some av):i<a.tmps.size:=by
 have:=(List.getElem?_eq_some_iff.1 hi).1
 rw [h.hs];exact this
theorem ydx.below (h:Below w.heap.size w w'):ydx M M w w':=fun b o u hm hc=>by
 refine ⟨hm,?_⟩;rw [h.cell (p:=⟨b,o,none⟩) (World.block_lt_of_cell? w _ hc)];exact hc
theorem getD_set_ne {s:Nat} (h:d≠s) (v:Value):(tm.setIfInBounds d v).getD s Go.undef=tm.getD s Go.undef:=by
 simp [h]
theorem yos.keep {M M':Nat->Nat->Prop} {w w':World} {τ τ':Nat->TV} {tm tm':Array Value} (hk:ydx M M' w w') {v:Value} {av:AV} (ht:∀ d,av.zkp d->τ' d=τ d)
 (hr:∀ s b,av.rf=some (s,b)->tm'.getD s Go.undef=tm.getD s Go.undef)
 (hh:av.v43=true->w'.heap[blk v]? = w.heap[blk v]?)
 (h:yos M w τ tm v av):yos M' w' τ' tm' v av:=by
 cases av with
 | tup l=>obtain ⟨vs,rfl,h⟩:=h;exact ⟨vs,rfl,h.keep hk⟩
 | box cs=>
  obtain ⟨b,vs,T,rfl,hb,h⟩:=h;exact ⟨b,vs,T,rfl,(hh rfl).trans hb,h.keep hk (fun d hd=>ht d (by simpa only [AV.zkp] using hd))⟩
 | ptr s off=>show _=_;rw [hr s _ rfl];exact h
 | elt cs=>
  obtain ⟨b,off,vs,rfl,hc,h⟩:=h;exact ⟨b,off,vs,rfl,fun j u hu=>hk _ _ _ (hc j u hu).1 (hc j u hu).2,h.keep hk⟩
 | obx cs=>obtain ⟨b,vs,T,rfl,hb,h⟩:=h;exact ⟨b,vs,T,rfl,(hh rfl).trans hb,h.keep hk ht⟩
 | arr pre c post=>obtain ⟨b,T,vs,q,cap,rfl,hb,h,hrest⟩:=h;exact ⟨b,T,vs,q,cap,rfl,(hh rfl).trans hb,h.keep hk,hrest⟩
 | asl s=>show _=_;rw [hr s _ rfl];exact h
 | awn s m lo n=>show ∃ _ _,_;rw [hr s _ rfl];exact h
 | pel s m i f=>show _=_;rw [hr s _ rfl];exact h
 | one c=>exact RdA.keep (av:=.one c) hk ht h
 | agg cs=>exact RdA.keep (av:=.agg cs) hk ht h
 | undef=>exact h
 | any=>exact h
theorem yos.znb {τ:Nat->TV} {av:AV} (h:yos M w τ tm v av) (hh:av.v43=true):blk v<w.heap.size:=by
 cases av with
 | box cs=>obtain ⟨b,vs,T,rfl,hb,h⟩:=h;exact (Array.getElem?_eq_some_iff.1 hb).1
 | obx cs=>obtain ⟨b,vs,T,rfl,hb,h⟩:=h;exact (Array.getElem?_eq_some_iff.1 hb).1
 | arr pre c post=>obtain ⟨b,T,vs,q,cap,rfl,hb,_⟩:=h;exact (Array.getElem?_eq_some_iff.1 hb).1
 | _=>cases hh
theorem x9x.below {E:Env} {v:TV} (hb:Below w.heap.size w w') (h:x9x E M w v):x9x E M w' v:=by
 rcases h with h | ⟨e,n,xs,ho,hm⟩
 . exact .inl h
 . refine .inr ⟨e,n,xs,⟨ho.1,?_⟩,hm⟩
   rcases ho.2 with h | ⟨g,cap,cur,hv,hg,hh,r⟩
   . exact .inl h
   . exact .inr ⟨g,cap,cur,hv,hg,(hb.block g (Array.getElem?_eq_some_iff.1 hh).1).trans hh,r⟩
theorem RelI.below {w w':World} (h:RelI E τ M J a w) (hb:Below w.heap.size w w'):RelI E τ M J a w' where
 hd:=h.hd
 hs:=h.hs
 slot:=fun i av hi=>(h.slot i av hi).keep (ydx.below hb) (fun _ _=>rfl) (fun _ _ _=>rfl) (fun hh=>hb.block _ ((h.slot i av hi).znb hh))
 m0:=h.m0
 mb:=fun b o hm=>Nat.lt_of_lt_of_le (h.mb b o hm) hb.size
 hold:=h.hold
 inj:=h.inj
 refs:=h.refs
 toks:=fun d hd=>(h.toks d hd).below hb
 tinj:=h.tinj
 tbox:=h.tbox
 size:=Nat.le_trans h.size hb.size
 os:=hb.os.trans h.os
 tape:=hb.tape.trans h.tape
 output:=hb.output.trans h.output
 frame:=fun k hk hx=>(hb.block k (Nat.lt_of_lt_of_le hk h.size)).trans (h.frame k hk hx)
theorem getElem?_set_cases {α:Type} {l:List α} {x y:α} (h:(l.set d x)[i]? = some y):(i=d/\y=x)\/(i≠d/\l[i]? = some y):=by
 rw [List.getElem?_set] at h;split at h
 . rename_i hdi;split at h
   . simp at h;exact .inl ⟨hdi.symm,h.symm⟩
   . simp at h
 . rename_i hdi;exact .inr ⟨fun e=>hdi e.symm,h⟩
theorem RelI.put {w:World} (h:RelI E τ M J a w) {d:Nat} {old:AV} (hd:J[d]? = some old) (hnh:old.v43=false) (v:Value) (av:AV) (hav:av.v43=false)
 (hok:yos M w τ a.tmps v av) (hrf:∀(s:Nat) (b:Bool),av.rf=some (s,b)->∃ hv:AV,J[s]? = some hv/\hv.fits b=true) (htok:∀ t,av.zkp t->live J t) :
 RelI E τ M (J.set d av) (a.put (some d) v) w:=by
 have hlt:d<a.tmps.size:=h.lt hd
 have hns:∀(s:Nat) (b:Bool) (hv:AV),J[s]? = some hv->hv.fits b=true->d≠s:=fun s b hv hs hf e=>by
  subst e;rw [hd] at hs;cases hs;have:=AV.z4y hf;rw [hnh] at this;cases this
 have hself:(a.tmps.setIfInBounds d v).getD d Go.undef=v:=by simp [hlt]
 have hlive:∀ t,live (J.set d av) t->live J t:=fun t ⟨i,x,hi,hx⟩=>by
  rcases getElem?_set_cases hi with ⟨_,rfl⟩ | ⟨_,hi⟩
  . exact htok t hx
  . exact ⟨i,x,hi,hx⟩
 refine RelI.mk h.hd (by simpa [Act.put] using h.hs) ?_ h.m0 h.mb ?_ ?_ ?_ ?_ ?_ ?_ h.size h.os h.tape h.output h.frame
 . intro i x hi;show yos M w τ (a.tmps.setIfInBounds d v) ((a.tmps.setIfInBounds d v).getD i Go.undef) x
   rcases getElem?_set_cases hi with ⟨rfl,rfl⟩ | ⟨hne,hi⟩
   . rw [hself];exact hok.keep (fun _ _ _ h1 h2=>⟨h1,h2⟩) (fun _ _=>rfl) (fun s b hr=>by obtain ⟨hv,h1,h2⟩:=hrf s b hr;exact getD_set_ne (hns s b hv h1 h2) v) (fun _=>rfl)
   . rw [getD_set_ne (Ne.symm hne)];exact (h.slot i x hi).keep (fun _ _ _ h1 h2=>⟨h1,h2⟩) (fun _ _=>rfl) (fun s b hr=>by obtain ⟨hv,h1,h2⟩:=h.refs i x s b hi hr;exact getD_set_ne (hns s b hv h1 h2) v) (fun _=>rfl)
 . intro i x hi hh;show (∀ o,M (blk ((a.tmps.setIfInBounds d v).getD i Go.undef)) o)/\(_<=blk ((a.tmps.setIfInBounds d v).getD i Go.undef)\/E.X (blk ((a.tmps.setIfInBounds d v).getD i Go.undef)))/\(_->_<=blk ((a.tmps.setIfInBounds d v).getD i Go.undef))/\(_->(a.tmps.setIfInBounds d v).getD i Go.undef=_)
   rcases getElem?_set_cases hi with ⟨rfl,rfl⟩ | ⟨hne,hi⟩
   . rw [hav] at hh;cases hh
   . rw [getD_set_ne (Ne.symm hne)];exact h.hold i x hi hh
 . intro i j x y hi hj hx hy;show blk ((a.tmps.setIfInBounds d v).getD i Go.undef)=blk ((a.tmps.setIfInBounds d v).getD j Go.undef)->_
   rcases getElem?_set_cases hi with ⟨rfl,rfl⟩ | ⟨hne,hi⟩
   . rw [hav] at hx;cases hx
   . rcases getElem?_set_cases hj with ⟨rfl,rfl⟩ | ⟨hne',hj⟩
     . rw [hav] at hy;cases hy
     . rw [getD_set_ne (Ne.symm hne),getD_set_ne (Ne.symm hne')];exact h.inj i j x y hi hj hx hy
 . intro i x s b hi hr
   have:∃ hv:AV,J[s]? = some hv/\hv.fits b=true:=by
    rcases getElem?_set_cases hi with ⟨rfl,rfl⟩ | ⟨hne,hi⟩
    . exact hrf s b hr
    . exact h.refs i x s b hi hr
   obtain ⟨hv,h1,h2⟩:=this;exact ⟨hv,by rw [List.getElem?_set_ne (hns s b hv h1 h2)];exact h1,h2⟩
 . exact fun t ht=>h.toks t (hlive t ht)
 . exact fun t t' g ht ht'=>h.tinj t t' g (hlive t ht) (hlive t' ht')
 . intro t i x ht hi hx;show _≠some (blk ((a.tmps.setIfInBounds d v).getD i Go.undef))
   rcases getElem?_set_cases hi with ⟨rfl,rfl⟩ | ⟨hne,hi⟩
   . rw [hav] at hx;cases hx
   . rw [getD_set_ne (Ne.symm hne)];exact h.tbox t i x (hlive t ht) hi hx
theorem xlc {E:Env} {v:TV} {g:Nat} (h:x9x E M w v) (hg:tokB v.v=some g):E.N<=g/\g<w.heap.size:=by
 rcases h with ⟨a,ha⟩ | ⟨e,n,xs,ho,_⟩
 . rw [ha] at hg;cases a<;>simp [tokB] at hg
 . refine ho.lt g ?_;unfold tokB at hg;split at hg
   . rename_i hv;simp at hg;simp [Value.ownBlock,hg,hv]
   . cases hg
theorem ydx.alloc {M:Nat->Nat->Prop} (w:World) (o:Obj):ydx M (fun b o=>M b o\/b=w.heap.size) w (w.alloc o):=fun b o' u hm hc=>by
 have hl:=World.block_lt_of_cell? w _ hc;exact ⟨fun hh=>hh.elim hm (fun e=>by simp only at hl;omega),(ydx.below ((Below.refl _ _).alloc (Nat.le_refl _) o) b o' u hm hc).2⟩
theorem RelI.alloc {w:World} (h:RelI E τ M J a w) {d:Nat} {old:AV} (hd:J[d]? = some old) (hnh:old.v43=false) (o:Obj) (v:Value) (av:AV) (hav:av.v43=true) (hfrs:av.fresh=true)
 (hv:blk v=w.heap.size)
 (hok:yos (fun b o=>M b o\/b=w.heap.size) (w.alloc o) τ a.tmps v av) (htok:∀ t,av.zkp t->live J t) :
 RelI E τ (fun b o=>M b o\/b=w.heap.size) (J.set d av) (a.put (some d) v) (w.alloc o):=by
 have hlt:d<a.tmps.size:=h.lt hd
 have hns:∀(s:Nat) (b:Bool) (hv:AV),J[s]? = some hv->hv.fits b=true->d≠s:=fun s b hv hs hf e=>by
  subst e;rw [hd] at hs;cases hs;have:=AV.z4y hf;rw [hnh] at this;cases this
 have hself:(a.tmps.setIfInBounds d v).getD d Go.undef=v:=by simp [hlt]
 have hlive:∀ t,live (J.set d av) t->live J t:=fun t ⟨i,x,hi,hx⟩=>by
  rcases getElem?_set_cases hi with ⟨_,rfl⟩ | ⟨_,hi⟩
  . exact htok t hx
  . exact ⟨i,x,hi,hx⟩
 have hb:Below w.heap.size w (w.alloc o):=(Below.refl _ _).alloc (Nat.le_refl _) o;have hk:=ydx.alloc (M:=M) w o
 have hmb:∀ b o',(M b o'\/b=w.heap.size)->b<(w.alloc o).heap.size:=by
  rintro b o' (hm | rfl)
  . exact Nat.lt_of_lt_of_le (h.mb b o' hm) hb.size
  . simp
 refine RelI.mk h.hd (by simpa [Act.put] using h.hs) ?_ (fun b o hm=>.inl (h.m0 b o hm)) hmb ?_ ?_ ?_ ?_ ?_ ?_ (Nat.le_trans h.size hb.size) h.os h.tape h.output
  (fun k hk hx=>(hb.block k (Nat.lt_of_lt_of_le hk h.size)).trans (h.frame k hk hx))
 . intro i x hi;show yos _ (w.alloc o) τ (a.tmps.setIfInBounds d v) ((a.tmps.setIfInBounds d v).getD i Go.undef) x
   rcases getElem?_set_cases hi with ⟨rfl,rfl⟩ | ⟨hne,hi⟩
   . rw [hself];exact hok.keep (fun _ _ _ h1 h2=>⟨h1,h2⟩) (fun _ _=>rfl) (fun s b hr=>by cases x<;>simp [AV.rf,AV.v43] at hr hav) (fun _=>rfl)
   . rw [getD_set_ne (Ne.symm hne)];exact (h.slot i x hi).keep hk (fun _ _=>rfl) (fun s b hr=>by obtain ⟨hv,h1,h2⟩:=h.refs i x s b hi hr;exact getD_set_ne (hns s b hv h1 h2) v) (fun hh=>hb.block _ ((h.slot i x hi).znb hh))
 . intro i x hi hh;show (∀ o',M (blk ((a.tmps.setIfInBounds d v).getD i Go.undef)) o'\/blk ((a.tmps.setIfInBounds d v).getD i Go.undef)=_)/\(_<=blk ((a.tmps.setIfInBounds d v).getD i Go.undef)\/E.X (blk ((a.tmps.setIfInBounds d v).getD i Go.undef)))/\(_->_<=blk ((a.tmps.setIfInBounds d v).getD i Go.undef))/\(_->(a.tmps.setIfInBounds d v).getD i Go.undef=_)
   rcases getElem?_set_cases hi with ⟨rfl,rfl⟩ | ⟨hne,hi⟩
   . rw [hself];exact ⟨fun _=>.inr hv,.inl (by rw [hv];exact h.size),fun _=>by rw [hv];exact h.size,fun e=>by rw [hfrs] at e;cases e⟩
   . rw [getD_set_ne (Ne.symm hne)];exact ⟨fun o=>.inl ((h.hold i x hi hh).1 o),(h.hold i x hi hh).2⟩
 . intro i j x y hi hj hx hy;show blk ((a.tmps.setIfInBounds d v).getD i Go.undef)=blk ((a.tmps.setIfInBounds d v).getD j Go.undef)->_
   rcases getElem?_set_cases hi with ⟨rfl,rfl⟩ | ⟨hne,hi'⟩
   . rcases getElem?_set_cases hj with ⟨rfl,rfl⟩ | ⟨hne',hj⟩
     . exact fun _=>rfl
     . rw [hself,getD_set_ne (Ne.symm hne'),hv];intro e
       have:=(h.slot j y hj).znb hy
       omega
   . rcases getElem?_set_cases hj with ⟨rfl,rfl⟩ | ⟨hne',hj⟩
     . rw [hself,getD_set_ne (Ne.symm hne),hv];intro e
       have:=(h.slot i x hi').znb hx
       omega
     . rw [getD_set_ne (Ne.symm hne),getD_set_ne (Ne.symm hne')];exact h.inj i j x y hi' hj hx hy
 . intro i x s b hi hr
   have:∃ hv:AV,J[s]? = some hv/\hv.fits b=true:=by
    rcases getElem?_set_cases hi with ⟨rfl,rfl⟩ | ⟨hne,hi⟩
    . cases x<;>simp [AV.rf,AV.v43] at hr hav
    . exact h.refs i x s b hi hr
   obtain ⟨hv,h1,h2⟩:=this;exact ⟨hv,by rw [List.getElem?_set_ne (hns s b hv h1 h2)];exact h1,h2⟩
 . intro t ht
   rcases (h.toks t (hlive t ht)).below hb with h' | ⟨e,n,xs,ho,hm⟩
   . exact .inl h'
   . exact .inr ⟨e,n,xs,ho,fun g hg o ho=>.inl (hm g hg o ho)⟩
 . exact fun t t' g ht ht'=>h.tinj t t' g (hlive t ht) (hlive t' ht')
 . intro t i x ht hi hx;show _≠some (blk ((a.tmps.setIfInBounds d v).getD i Go.undef))
   rcases getElem?_set_cases hi with ⟨rfl,rfl⟩ | ⟨hne,hi⟩
   . rw [hself,hv];intro e
     have:=(xlc (h.toks t (hlive t ht)) e).2
     omega
   . rw [getD_set_ne (Ne.symm hne)];exact h.tbox t i x (hlive t ht) hi hx
end Go.Slot
namespace Go.Slot
open Go Go.RowKit
variable {E:Env} {τ:Nat->TV} {M:Nat->Nat->Prop} {J:List AV} {a:Act}
variable {w:World} {ad:Option Addr} {v:Value}
inductive Cell.Le:Cell->Cell->Prop
 | refl (c:Cell):Cell.Le c c
 | zt9 (k:IntKind):Cell.Le (.raw (.slice none 0 0)) (.ints k [])
 | nilSl (n:Nat):Cell.Le (.raw (.slice none 0 0)) (.sl n [])
 | nilZc:Cell.Le (.raw (.slice none 0 0)) .zc
 | v3s (k:IntKind):Cell.Le .zc (.ints k [])
 | zcSl (n:Nat):Cell.Le .zc (.sl n [])
 | nnInts (b:Bool) (k:IntKind):Cell.Le (.nn b) (.ints k [])
 | nnSl (b:Bool) (n:Nat):Cell.Le (.nn b) (.sl n [])
 | untok (d:Nat) (c:Cell):Cell.Le (.tok d c) c
 | trans {a b c:Cell} (h:Cell.Le a b) (h':Cell.Le b c):Cell.Le a c
 | inTok (d:Nat) {c c':Cell} (h:Cell.Le c c') (he:c.esz=c'.esz):Cell.Le (.tok d c) (.tok d c')
theorem RdC.v3s (k:IntKind):RdC M w (.slice ad 0 0) (.ints k []):=
 .ints 0 0 rfl (Nat.le_refl _) (fun h=>absurd rfl h) (fun i hi=>absurd hi (Nat.not_lt_zero i))
theorem RdC.zcSl (n:Nat):RdC M w (.slice ad 0 0) (.sl n []):=
 .sl 0 0 (fun _ _=>Go.undef) rfl (Nat.le_refl _) (fun h=>absurd rfl h) (fun r hr=>by cases hr) (fun i hi=>absurd hi (Nat.not_lt_zero i)) (fun i hi=>absurd hi (Nat.not_lt_zero i))
theorem RdC.zrr {d:Nat} {c:Cell} (h:RdC M w v (.tok d c)):False:=by cases h
theorem RdC.le {c c':Cell} (hle:Cell.Le c c') (h:RdC M w v c):RdC M w v c':=by
 induction hle with
 | refl=>exact h
 | zt9 k=>cases h;exact RdC.v3s k
 | nilSl n=>cases h;exact RdC.zcSl n
 | nilZc=>cases h;exact RdC.zc
 | v3s k=>cases h;exact RdC.v3s k
 | zcSl n=>cases h;exact RdC.zcSl n
 | nnInts b k=>cases h;exact .ints 0 0 rfl (Nat.zero_le _) (fun h=>absurd rfl h) (fun i hi=>absurd hi (Nat.not_lt_zero i))
 | nnSl b n=>cases h;exact .sl 0 0 (fun _ _=>Go.undef) rfl (Nat.zero_le _) (fun h=>absurd rfl h) (fun r hr=>by cases hr) (fun i hi=>absurd hi (Nat.not_lt_zero i)) (fun i hi=>absurd hi (Nat.not_lt_zero i))
 | untok=>exact h.zrr.elim
 | inTok=>exact h.zrr.elim
 | trans _ _ ih1 ih2=>exact ih2 (ih1 h)
theorem RdT.of {c:Cell} (h:RdC M w v c):RdT M w τ v c:=by
 cases c with
 | tok d c=>exact h.zrr.elim
 | _=>exact h
inductive LeL:List Cell->List Cell->Prop
 | nil:LeL [] []
 | cons {c c':Cell} {l l':List Cell} (h:Cell.Le c c') (t:LeL l l'):LeL (c::l) (c'::l')
inductive AV.Le:AV->AV->Prop
 | refl (x:AV):AV.Le x x
 | any (x:AV):AV.Le x .any
 | one {c c':Cell} (h:Cell.Le c c'):AV.Le (.one c) (.one c')
 | agg {c c':List Cell} (h:LeL c c'):AV.Le (.agg c) (.agg c')
 | box {c c':List Cell} (h:LeL c c'):AV.Le (.box c) (.box c')
 | obx {c c':List Cell} (h:LeL c c'):AV.Le (.obx c) (.obx c')
theorem AV.Le.v43 {x y:AV} (h:AV.Le x y) (hy:y.v43=true):x.v43=true:=by
 cases h<;>first | exact hy | rfl | cases hy
inductive LeS:List AV->List AV->Prop
 | nil:LeS [] []
 | cons {c c':AV} {l l':List AV} (h:AV.Le c c') (t:LeS l l'):LeS (c::l) (c'::l')
end Go.Slot
namespace Go.Slot
open Go Go.RowKit
variable {P:Program} {t:TypeId} {d:TypeDesc} {i:TypeInfo} {M:Nat->Nat->Prop} {w:World} {τ:Nat->TV} {av:AV} {J:List AV} {o:Oper} {rd:List Nat}
inductive Sh where
 | int (k:IntKind)
 | bool
 | string
 | struct (fs:List (Nat×Nat×TypeId))
 | array (n e es:Nat)
 | slice (e es eb:Nat) (ik:Option IntKind)
 | map (k e:TypeId)
 | cell
 | other
structure TI where
 size:Nat
 bytes:Nat
 zc:List Cell
 sh:Sh
def zyj:Value->Cell
 | .slice none 0 0=>.zc
 | v=>.raw v
def shOf (P:Program):TypeDesc->Sh
 | .int k=>.int k
 | .bool=>.bool
 | .string=>.string
 | .struct fs=>if (fs.toList.all fun f=>P.cellsOf f.type != 0) then .struct (fs.toList.map fun f=>(f.offset,P.cellsOf f.type,f.type)) else .other
 | .array n e=>.array n e (P.cellsOf e)
 | .slice e=>match P.info? e with
  | some i=>match i.zero with
   | some z=>if i.size != 0&&z.cells.size==i.size then .slice e i.size i.bytes (match P.underlying e with | some (.int k)=>some k | _=>none) else .other
   | none=>.other
  | none=>.other
 | .map k e=>.map k e
 | .pointer _=>.cell
 | .func _ _ _=>.cell
 | .interface _=>.cell
 | .unsafePointer=>.cell
 | _=>.other
def mkTI (P:Program) (t:TypeId):Option TI:=
 match P.underlying t,P.info? t with
 | some d,some i=>match i.zero with
  | some z=>if z.cells.toList.all (·.oneCell')&&z.cells.size==i.size then some ⟨i.size,i.bytes,z.cells.toList.map zyj,shOf P d⟩ else none
  | none=>none
 | _,_=>none
structure TIok (P:Program) (t:TypeId) (ti:TI):Prop where
 ex:∃(d:TypeDesc) (i:TypeInfo) (z:Value),P.underlying t=some d/\P.info? t=some i/\i.zero=some z/\i.size=ti.size/\i.bytes=ti.bytes/\
  z.cells.size=ti.size/\(∀ v∈z.cells.toList,v.oneCell'=true)/\ti.zc=z.cells.toList.map zyj/\ti.sh=shOf P d
theorem xat {ti : TI} (h : mkTI P t = some ti) : TIok P t ti := by
 unfold mkTI at h;split at h
 . rename_i d i hd hi;split at h
   . rename_i z hz;split at h
     . rename_i hc;simp only [Bool.and_eq_true,List.all_eq_true,beq_iff_eq] at hc
       cases h;exact ⟨d,i,z,hd,hi,hz,rfl,rfl,hc.2,hc.1,rfl,rfl⟩
     . cases h
   . cases h
 . cases h
def Sh.agg:Sh->Bool
 | .struct _ | .array _ _ _=>true
 | _=>false
def Sh.plain:Sh->Bool
 | .int _ | .bool | .string | .slice _ _ _ _ | .map _ _ | .cell=>true
 | _=>false
def TI.many (ti:TI):Option Bool:=if ti.sh.agg then some true else if ti.sh.plain then some false else none
section
variable {P:Program} {w:World}
theorem y9m (h:P.underlying t=some d):(underlying t).run P w=.ok d w:=run_underlying h w
theorem ynn (h:P.info? t=some i):(sizeOf t).run P w=.ok i.size w:=by simp [sizeOf,typeInfo,h]
theorem zao {z:Value} (h:P.info? t=some i) (hz:i.zero=some z):(zeroValue t).run P w=.ok z w:=by simp [zeroValue,typeInfo,h,hz]
theorem zfy (h:(shOf P d).agg=true):(∃ fs,d=.struct fs)\/∃ n e,d=.array n e:=by
 cases d with
 | struct fs=>exact .inl ⟨fs,rfl⟩
 | array n e=>exact .inr ⟨n,e,rfl⟩
 | slice e=>
  exfalso;revert h;unfold shOf;dsimp only
  split
  . split
    . split<;>simp [Sh.agg]
    . simp [Sh.agg]
  . simp [Sh.agg]
 | _=>simp [shOf,Sh.agg] at h
theorem w6c (h:(shOf P d).plain=true):(∀ fs,d≠.struct fs)/\∀ n e,d≠.array n e:=by
 cases d with
 | struct fs=>
  exfalso;revert h;unfold shOf;dsimp only
  split<;>simp [Sh.plain]
 | array n e=>simp [shOf,Sh.plain] at h
 | _=>simp
theorem TIok.xil {ti:TI} (h:TIok P t ti) {b:Bool} (hb:ti.many=some b):(isAgg t).run P w=.ok b w:=by
 obtain ⟨d,i,z,hd,hi,hz,_,_,_,_,_,hsh⟩:=h.ex;unfold TI.many at hb;rw [hsh] at hb;unfold isAgg;simp only [Sem.run_bind,y9m hd,Result.andThen_ok];split at hb
 . rename_i ha
   cases hb
   rcases zfy ha with ⟨fs,rfl⟩ | ⟨n,e,rfl⟩<;>rfl
 . split at hb
   . rename_i hp
     cases hb
     have:=w6c hp
     cases d<;>first | rfl | exact absurd rfl (this.1 _) | exact absurd rfl (this.2 _ _)
   . cases hb
end
def zfo:Value->AV
 | .agg vs=>if vs.toList.all (·.oneCell') then .agg (vs.toList.map .raw) else .any
 | .tuple _=>.any
 | v=>.one (.raw v)
def opd (J:List AV):Operand->AV
 | .tmp t=>gt J t
 | .const v=>zfo v
 | .func f=>.one (.raw (.func (.func f) #[] #[]))
 | .global _=>.any
def orr:Operand->List Nat
 | .tmp t=>[t]
 | _=>[]
def zb8 (rd:List Nat) (J J':List AV):Prop:=J'.length=J.length/\∀ r∈rd,gt J' r=gt J r
theorem zb8.opd {rd:List Nat} {J J':List AV} (h:zb8 rd J J') {x:Operand} (hx:∀ t∈orr x,t∈rd):opd J' x=opd J x:=by
 cases x with
 | tmp t=>exact h.2 t (hx t (by simp [orr]))
 | _=>rfl
theorem RdL.raws {M:Nat->Nat->Prop} {w:World} {τ:Nat->TV}:∀{vs:List Value},(∀ v∈vs,v.oneCell'=true)->RdL M w τ vs (vs.map .raw)
 | [],_=>trivial
 | v::vs,h=>⟨RdC.raw (h v (by simp)),RdL.raws (fun u hu=>h u (by simp [hu]))⟩
theorem yhd (v:Value):RdA M w τ v (zfo v):=by
 unfold zfo
 split
 . rename_i vs
   split
   . rename_i h;exact ⟨vs.toList,by simp,RdL.raws (fun v hv=>(List.all_eq_true.1 h) v hv)⟩
   . trivial
 . trivial
 . rename_i h1 h2;exact RdC.raw (by cases v<;>simp_all [Value.oneCell'])
theorem RdA.slot {tm:Array Value} {v:Value} (h:RdA M w τ v av):yos M w τ tm v av:=by
 cases av<;>first | exact h | exact h.elim
section
variable {E:Env} {τ:Nat->TV} {M:Nat->Nat->Prop} {J:List AV} {a:Act} {w:World}
theorem RelI.gt (h:RelI E τ M J a w) (t:Nat):yos M w τ a.tmps (a.tmps.getD t Go.undef) (gt J t):=by
 unfold Slot.gt
 cases ht:J[t]? with
 | none=>exact trivial
 | some av=>exact h.slot t av ht
theorem RelI.opd (h:RelI E τ M J a w) (x:Operand):yos M w τ a.tmps (a.eval x) (opd J x):=by
 cases x with
 | tmp t=>exact h.gt t
 | const v=>exact (yhd v).slot
 | func f=>exact RdC.raw rfl
 | global g=>exact trivial
theorem wx0 {t:Nat} (h:gt J t=av) (hne:av≠.any):J[t]? = some av:=by
 unfold gt at h
 cases ht:J[t]? with
 | none=>rw [ht] at h;exact absurd h.symm hne
 | some x=>rw [ht] at h;simp at h;rw [h]
end
def app:List (Nat×AV)->List AV->List AV
 | [],J=>J
 | (s,v)::r,J=>app r (J.set s v)
def z7c (P:Program) (o:Oper) (J:List AV) (rd tk:List Nat) (eff:List (Nat×AV)):Prop:=
 ∀(E:Env) (J':List AV) (a:Act) (w:World),zb8 rd J J'->(∀ t∈tk,∀ i,(gt J' i).zkp t->i∈rd)->Rel E J' a w->∀(K:Act->World->Prop) (Q:Exit->Act->World->Prop),
  (∀ a' w',Rel E (app eff J') a' w'->K a' w')->o.wp P a w K Q
def nh (J:List AV) (d:Nat):Bool:=match J[d]? with
 | some av=>!av.v43
 | none=>false
theorem wam {d:Nat} (h:nh J d=true):∃ old,J[d]? = some old/\old.v43=false:=by
 unfold nh at h;split at h
 . rename_i av hav;exact ⟨av,hav,by simpa using h⟩
 . cases h
theorem zb8.nh {rd:List Nat} {J J':List AV} (h:zb8 rd J J') {d:Nat} (hd:d∈rd) (hn:nh J d=true):nh J' d=true:=by
 obtain ⟨old,h1,h2⟩:=wam hn
 have hlt:d<J'.length:=by rw [h.1];exact (List.getElem?_eq_some_iff.1 h1).1
 have:=h.2 d hd
 unfold Slot.gt at this;rw [h1,List.getElem?_eq_getElem hlt] at this;simp at this;unfold Slot.nh;rw [List.getElem?_eq_getElem hlt];simp [this,h2]
theorem z7c.val {d:Nat} (hdst:o.dst=some d) (hd:d∈rd) (hn:nh J d=true) (hav:av.v43=false)
 (hrun:∀(E:Env) (τ:Nat->TV) (M:Nat->Nat->Prop) (J':List AV) (a:Act) (w:World),zb8 rd J J'->RelI E τ M J' a w->
   ∃ v w',(execOp a.eval o).run P w=.ok (.value v) w'/\Below w.heap.size w w'/\yos M w' τ a.tmps v av/\(∀ t,av.zkp t->live J' t)/\
    (∀(s:Nat) (b:Bool),av.rf=some (s,b)->∃ hv:AV,J'[s]? = some hv/\hv.fits b=true)):z7c P o J rd [] [(d,av)]:=by
 intro E J' a w hag _ ⟨τ,M,h⟩ K Q hK;obtain ⟨v,w',hr,hb,hok,htok,hrf⟩:=hrun E τ M J' a w hag h;obtain ⟨old,h1,h2⟩:=wam (hag.nh hd hn);unfold Oper.wp;rw [hr];show K (a.put o.dst v) w';rw [hdst];exact hK _ _ ⟨τ,M,(h.below hb).put h1 h2 v av hav hok hrf htok⟩
theorem z7c.new {d:Nat} (hdst:o.dst=some d) (hd:d∈rd) (hn:nh J d=true) (hav:av.v43=true) (hfrs:av.fresh=true)
 (hrun:∀(E:Env) (τ:Nat->TV) (M:Nat->Nat->Prop) (J':List AV) (a:Act) (w:World),zb8 rd J J'->RelI E τ M J' a w->
   ∃ v ob,(execOp a.eval o).run P w=.ok (.value v) (w.alloc ob)/\blk v=w.heap.size/\yos (fun b o=>M b o\/b=w.heap.size) (w.alloc ob) τ a.tmps v av/\(∀ t,av.zkp t->live J' t)) :
 z7c P o J rd [] [(d,av)]:=by
 intro E J' a w hag _ ⟨τ,M,h⟩ K Q hK;obtain ⟨v,ob,hr,hb,hok,htok⟩:=hrun E τ M J' a w hag h;obtain ⟨old,h1,h2⟩:=wam (hag.nh hd hn);unfold Oper.wp;rw [hr];show K (a.put o.dst v) _;rw [hdst];exact hK _ _ ⟨τ,_,h.alloc h1 h2 ob v av hav hfrs hb hok htok⟩
end Go.Slot
