/- The proof, part Z0: Ma, Mb, Mc, Md. -/
import Derived.WalkKit
import Derived.WalkSpells
namespace Go.Slot
open Go Go.RowKit
inductive Cell where
 | raw (v:Value)
 | ints (k:IntKind) (l:List Int)
 | sl (n:Nat) (rows:List (List Cell))
 | zc
 | nn (b:Bool)
 | fnp (p:(Nat→Nat→Prop)→World→Value→Prop)
 | tok (d:Nat) (c:Cell)
def Keeps (M M':Nat→Nat→Prop) (w w':World):Prop:=∀ b o u,¬M b o→w.cell? ⟨b,o,none⟩=some u→¬M' b o∧w'.cell? ⟨b,o,none⟩=some u
theorem Keeps.trans {M M' M'':Nat→Nat→Prop} {w w' w'':World} (h:Keeps M M' w w') (h':Keeps M' M'' w' w''):Keeps M M'' w w'':=fun b o u hm hc=>h' b o u (h b o u hm hc).1 (h b o u hm hc).2
inductive RdC (M:Nat→Nat→Prop) (w:World):Value→Cell→Prop
 | raw {v:Value} (h:v.oneCell'=true):RdC M w v (.raw v)
 | zc {a:Option Addr}:RdC M w (.slice a 0 0) .zc
 | nn {a:Option Addr} {cap:Nat}:RdC M w (.slice a 0 cap) (.nn a.isNone)
 | fnp {v:Value} {p:(Nat→Nat→Prop)→World→Value→Prop} (h:v.oneCell'=true) (hp:∀ M' w',Keeps M M' w w'→p M' w' v):RdC M w v (.fnp p)
 | ints {a:Option Addr} {len cap:Nat} {k:IntKind} {l:List Int} (b off:Nat) (hl:len=l.length) (hc:len≤cap)
  (ha:l≠[]→a=some ⟨b,off,none⟩)
  (h:∀ i (hi:i<l.length),¬M b (off+i)∧w.cell? ⟨b,off+i,none⟩=some (.int k l[i])):RdC M w (.slice a len cap) (.ints k l)
 | sl {a:Option Addr} {len cap n:Nat} {rows:List (List Cell)} (b off:Nat) (u:Nat→Nat→Value) (hl:len=rows.length) (hc:len≤cap)
  (ha:rows≠[]→a=some ⟨b,off,none⟩) (hn:∀ r∈rows,r.length=n)
  (hm:∀ i,i<rows.length→∀ j,j<n→¬M b (off+i*n+j)∧w.cell? ⟨b,off+i*n+j,none⟩=some (u i j))
  (hr:∀ i (hi:i<rows.length) j (hj:j<rows[i].length),RdC M w (u i j) (rows[i][j])):RdC M w (.slice a len cap) (.sl n rows)
theorem RdC.one {M:Nat→Nat→Prop} {w:World} {v:Value} {c:Cell} (h:RdC M w v c):v.oneCell'=true:=by
 cases h<;>first | rfl | assumption
theorem RdC.keep {M M':Nat→Nat→Prop} {w w':World} (hk:Keeps M M' w w') {v:Value} {c:Cell} (h:RdC M w v c):RdC M' w' v c:=by
 induction h with
 | raw h=>exact .raw h
 | zc=>exact .zc
 | nn=>exact .nn
 | fnp h hp=>exact .fnp h (fun M'' w'' hk'=>hp M'' w'' (hk.trans hk'))
 | ints b off hl hc ha h=>exact .ints b off hl hc ha (fun i hi=>hk _ _ _ (h i hi).1 (h i hi).2)
 | sl b off u hl hc ha hn hm _ ih=>exact .sl b off u hl hc ha hn (fun i hi j hj=>hk _ _ _ (hm i hi j hj).1 (hm i hi j hj).2) ih
structure TV where
 v:Value
 sz:Nat
def Cell.esz:Cell→Nat
 | .ints _ _=>1
 | .sl n _=>n
 | .tok _ c=>c.esz
 | _=>0
def RdT (M:Nat→Nat→Prop) (w:World) (τ:Nat→TV) (v:Value):Cell→Prop
 | .tok d c=>(v=(τ d).v∧(τ d).sz=c.esz)∧RdC M w v c
 | c=>RdC M w v c
def RdL (M:Nat→Nat→Prop) (w:World) (τ:Nat→TV):List Value→List Cell→Prop
 | [],[]=>True
 | v::vs,c::cs=>RdT M w τ v c∧RdL M w τ vs cs
 | _,_=>False
def RdD (M:Nat→Nat→Prop) (w:World):List Value→List Cell→Prop
 | [],[]=>True
 | v::vs,c::cs=>RdC M w v c∧RdD M w vs cs
 | _,_=>False
theorem RdT.one {M:Nat→Nat→Prop} {w:World} {τ:Nat→TV} {v:Value} {c:Cell} (h:RdT M w τ v c):v.oneCell'=true:=by
 cases c<;>first | exact RdC.one h | exact h.2.one
def Cell.hasTok (d:Nat):Cell→Prop
 | .tok d' c=>d'=d∨c.hasTok d
 | _=>False
def hasTokL (d:Nat):List Cell→Prop
 | []=>False
 | c::cs=>c.hasTok d∨hasTokL d cs
theorem RdT.keep {M M':Nat→Nat→Prop} {w w':World} {τ τ':Nat→TV} (hk:Keeps M M' w w') {v:Value} {c:Cell} (ht:∀ d,c.hasTok d→τ' d=τ d)
 (h:RdT M w τ v c):RdT M' w' τ' v c:=by
 cases c with
 | tok d c=>exact ⟨by rw [ht d (.inl rfl)];exact h.1,h.2.keep hk⟩
 | _=>exact RdC.keep hk h
theorem RdL.keep {M M':Nat→Nat→Prop} {w w':World} {τ τ':Nat→TV} (hk:Keeps M M' w w'):∀{vs:List Value} {cs:List Cell},(∀ d,hasTokL d cs→τ' d=τ d)→
 RdL M w τ vs cs→RdL M' w' τ' vs cs
 | [],[],_,_=>trivial
 | _::_,_::_,ht,h=>⟨h.1.keep hk (fun d hd=>ht d (.inl hd)),h.2.keep hk (fun d hd=>ht d (.inr hd))⟩
theorem RdD.keep {M M':Nat→Nat→Prop} {w w':World} (hk:Keeps M M' w w'):∀{vs:List Value} {cs:List Cell},RdD M w vs cs→RdD M' w' vs cs
 | [],[],_=>trivial
 | _::_,_::_,h=>⟨h.1.keep hk,h.2.keep hk⟩
theorem RdL.length {M:Nat→Nat→Prop} {w:World} {τ:Nat→TV}:∀{vs:List Value} {cs:List Cell},RdL M w τ vs cs→vs.length=cs.length
 | [],[],_=>rfl
 | _::_,_::_,h=>by simp [h.2.length]
theorem RdD.length {M:Nat→Nat→Prop} {w:World}:∀{vs:List Value} {cs:List Cell},RdD M w vs cs→vs.length=cs.length
 | [],[],_=>rfl
 | _::_,_::_,h=>by simp [h.2.length]
theorem RdL.get {M:Nat→Nat→Prop} {w:World} {τ:Nat→TV}:∀{vs:List Value} {cs:List Cell},RdL M w τ vs cs→∀(j:Nat) (c:Cell),cs[j]? = some c→∃ v,vs[j]? = some v∧RdT M w τ v c
 | [],[],_,j,c,hc=>by simp at hc
 | v::vs,c'::cs,h,0,c,hc=>by simp at hc;subst hc;exact ⟨v,by simp,h.1⟩
 | v::vs,c'::cs,h,j+1,c,hc=>by simpa using h.2.get j c (by simpa using hc)
theorem RdL.drop {M:Nat→Nat→Prop} {w:World} {τ:Nat→TV}:∀(n:Nat) {vs:List Value} {cs:List Cell},RdL M w τ vs cs→RdL M w τ (vs.drop n) (cs.drop n)
 | 0,_,_,h=>by simpa using h
 | n+1,[],[],_=>trivial
 | n+1,_::_,_::_,h=>by simpa using h.2.drop n
theorem RdL.take {M:Nat→Nat→Prop} {w:World} {τ:Nat→TV}:∀(n:Nat) {vs:List Value} {cs:List Cell},RdL M w τ vs cs→RdL M w τ (vs.take n) (cs.take n)
 | 0,_,_,_=>trivial
 | _n+1,[],[],_=>trivial
 | n+1,_::_,_::_,h=>⟨h.1,h.2.take n⟩
theorem RdD.drop {M:Nat→Nat→Prop} {w:World}:∀(n:Nat) {vs:List Value} {cs:List Cell},RdD M w vs cs→RdD M w (vs.drop n) (cs.drop n)
 | 0,_,_,h=>by simpa using h
 | n+1,[],[],_=>trivial
 | n+1,_::_,_::_,h=>by simpa using h.2.drop n
theorem RdD.take {M:Nat→Nat→Prop} {w:World}:∀(n:Nat) {vs:List Value} {cs:List Cell},RdD M w vs cs→RdD M w (vs.take n) (cs.take n)
 | 0,_,_,_=>trivial
 | _n+1,[],[],_=>trivial
 | n+1,_::_,_::_,h=>⟨h.1,h.2.take n⟩
theorem RdL.append {M:Nat→Nat→Prop} {w:World} {τ:Nat→TV}:∀{vs:List Value} {cs:List Cell} {us:List Value} {ds:List Cell},RdL M w τ vs cs→RdL M w τ us ds→RdL M w τ (vs++us) (cs++ds)
 | [],[],_,_,_,h=>h
 | _::_,_::_,_,_,h,h'=>⟨h.1,h.2.append h'⟩
theorem RdD.append {M:Nat→Nat→Prop} {w:World}:∀{vs:List Value} {cs:List Cell} {us:List Value} {ds:List Cell},RdD M w vs cs→RdD M w us ds→RdD M w (vs++us) (cs++ds)
 | [],[],_,_,_,h=>h
 | _::_,_::_,_,_,h,h'=>⟨h.1,h.2.append h'⟩
theorem RdL.ones {M:Nat→Nat→Prop} {w:World} {τ:Nat→TV}:∀{vs:List Value} {cs:List Cell},RdL M w τ vs cs→∀ v∈vs,v.oneCell'=true
 | [],[],_,v,hv=>by simp at hv
 | u::vs,_::_,h,v,hv=>by
  rcases List.mem_cons.1 hv with rfl | hv
  · exact h.1.one
  · exact h.2.ones v hv
def Cell.bare:Cell→Cell
 | .tok _ c=>c
 | c=>c
theorem RdT.bare {M:Nat→Nat→Prop} {w:World} {τ:Nat→TV} {v:Value} {c:Cell} (h:RdT M w τ v c):RdC M w v c.bare:=by
 cases c<;>first | exact h | exact h.2
def bareL:List Cell→List Cell
 | []=>[]
 | c::cs=>c.bare::bareL cs
theorem RdL.bare {M:Nat→Nat→Prop} {w:World} {τ:Nat→TV}:∀{vs:List Value} {cs:List Cell},RdL M w τ vs cs→RdD M w vs (bareL cs)
 | [],[],_=>trivial
 | _::_,_::_,h=>⟨h.1.bare,h.2.bare⟩
inductive AV where
 | undef
 | any
 | one (c:Cell)
 | agg (cs:List Cell)
 | tup (l:List AV)
 | box (cs:List Cell)
 | ptr (s off:Nat)
 | obx (cs:List Cell)
 | elt (cs:List Cell)
 | arr (pre:List Value) (c:Cell) (post:Option (List Value))
 | asl (s:Nat)
 | awn (s m lo n:Nat)
 | pel (s m i f:Nat)
def gt (σ:List AV) (i:Nat):AV:=(σ[i]?).getD .any
def blk:Value→Nat
 | .pointer (some a)=>a.block
 | .slice (some a) _ _=>a.block
 | _=>0
def offV:Value→Nat
 | .pointer (some a)=>a.off
 | .slice (some a) _ _=>a.off
 | _=>0
def capV:Value→Nat
 | .slice _ _ c=>c
 | _=>0
def Cell.cnt:Cell→Nat
 | .ints _ l=>l.length
 | .sl _ rows=>rows.length
 | _=>0
def Cell.flat:Cell→List Cell
 | .ints k l=>l.map fun n=>.raw (.int k n)
 | .sl _ rows=>rows.flatten
 | _=>[]
def Cell.uni:Cell→Prop
 | .ints _ _=>True
 | .sl n rows=>∀ r∈rows,r.length=n
 | _=>False
def RdA (M:Nat→Nat→Prop) (w:World) (τ:Nat→TV) (v:Value):AV→Prop
 | .any=>True
 | .undef=>v=Go.undef
 | .one c=>RdT M w τ v c
 | .agg cs=>∃ vs:List Value,v=.agg vs.toArray∧RdL M w τ vs cs
 | _=>False
def RdB (M:Nat→Nat→Prop) (w:World) (v:Value):AV→Prop
 | .any=>True
 | .undef=>v=Go.undef
 | .one c=>RdC M w v c
 | .agg cs=>∃ vs:List Value,v=.agg vs.toArray∧RdD M w vs cs
 | .elt cs=>∃(b off:Nat) (vs:List Value),v=.pointer (some ⟨b,off,none⟩)∧(∀ j u,vs[j]? = some u→¬M b (off+j)∧w.cell? ⟨b,off+j,none⟩=some u)∧RdD M w vs cs
 | _=>False
def RdBL (M:Nat→Nat→Prop) (w:World):List Value→List AV→Prop
 | [],[]=>True
 | v::vs,c::cs=>RdB M w v c∧RdBL M w vs cs
 | _,_=>False
def SlotOk (M:Nat→Nat→Prop) (w:World) (τ:Nat→TV) (tm:Array Value) (v:Value):AV→Prop
 | .tup l=>∃ vs:List Value,v=.tuple vs.toArray∧RdBL M w vs l
 | .box cs=>∃(b:Nat) (vs:List Value) (T:TypeId),v=.pointer (some ⟨b,0,none⟩)∧w.heap[b]? = some (.cells vs.toArray T (0,0))∧RdL M w τ vs cs
 | .ptr s off=>v=.pointer (some ⟨blk (tm.getD s Go.undef),off,none⟩)
 | .elt cs=>∃(b off:Nat) (vs:List Value),v=.pointer (some ⟨b,off,none⟩)∧(∀ j u,vs[j]? = some u→¬M b (off+j)∧w.cell? ⟨b,off+j,none⟩=some u)∧RdD M w vs cs
 | .obx cs=>∃(b:Nat) (vs:List Value) (T:TypeId),v=.pointer (some ⟨b,0,none⟩)∧w.heap[b]? = some (.cells vs.toArray T (0,0))∧RdL M w τ vs cs
 | .arr pre c post=>∃(b:Nat) (T:TypeId) (vs q:List Value) (cap:Nat),v=.slice (some ⟨b,pre.length,none⟩) c.cnt cap∧w.heap[b]? = some (.cells (pre++(vs++q)).toArray T (0,0))∧RdD M w vs c.flat∧
  (∀ p,post=some p→q=p)∧c.uni∧c.cnt≤cap∧cap*c.esz≤vs.length+q.length
 | .asl s=>v=tm.getD s Go.undef
 | .awn s m lo n=>∃ ad cap,v=.slice ad n cap∧(cap≠0∨lo=0→ad=some ⟨blk (tm.getD s Go.undef),offV (tm.getD s Go.undef)+lo*m,none⟩)∧n≤cap∧lo+cap≤capV (tm.getD s Go.undef)
 | .pel s m i f=>v=.pointer (some ⟨blk (tm.getD s Go.undef),offV (tm.getD s Go.undef)+i*m+f,none⟩)
 | av=>RdA M w τ v av
def AV.holder:AV→Bool
 | .box _ | .obx _ | .arr _ _ _=>true
 | _=>false
def AV.isBox:AV→Bool
 | .box _ | .obx _=>true
 | _=>false
def AV.isArr:AV→Bool
 | .arr _ _ _=>true
 | _=>false
def AV.fresh:AV→Bool
 | .box _=>true
 | .arr _ _ none=>true
 | _=>false
def AV.rf:AV→Option (Nat×Bool)
 | .ptr s _=>some (s,true)
 | .asl s | .awn s _ _ _ | .pel s _ _ _=>some (s,false)
 | _=>none
def AV.fits (b:Bool) (av:AV):Bool:=if b then av.isBox else av.isArr
def AV.hasTok (d:Nat):AV→Prop
 | .one c=>c.hasTok d
 | .agg cs | .box cs | .obx cs=>hasTokL d cs
 | _=>False
theorem RdA.keep {M M':Nat→Nat→Prop} {w w':World} {τ τ':Nat→TV} (hk:Keeps M M' w w') {v:Value} {av:AV} (ht:∀ d,av.hasTok d→τ' d=τ d)
 (h:RdA M w τ v av):RdA M' w' τ' v av:=by
 cases av with
 | one c=>exact RdT.keep hk ht h
 | agg cs=>obtain ⟨vs,rfl,h⟩:=h;exact ⟨vs,rfl,h.keep hk ht⟩
 | _=>exact h
theorem RdB.keep {M M':Nat→Nat→Prop} {w w':World} (hk:Keeps M M' w w') {v:Value} {av:AV} (h:RdB M w v av):RdB M' w' v av:=by
 cases av with
 | one c=>exact RdC.keep hk h
 | agg cs=>obtain ⟨vs,rfl,h⟩:=h;exact ⟨vs,rfl,h.keep hk⟩
 | elt cs=>obtain ⟨b,off,vs,rfl,hc,h⟩:=h;exact ⟨b,off,vs,rfl,fun j u hj=>hk _ _ _ (hc j u hj).1 (hc j u hj).2,h.keep hk⟩
 | _=>exact h
theorem RdBL.keep {M M':Nat→Nat→Prop} {w w':World} (hk:Keeps M M' w w'):∀{vs:List Value} {l:List AV},RdBL M w vs l→RdBL M' w' vs l
 | [],[],_=>trivial
 | _::_,_::_,h=>⟨h.1.keep hk,h.2.keep hk⟩
theorem RdBL.length {M:Nat→Nat→Prop} {w:World}:∀{vs:List Value} {cs:List AV},RdBL M w vs cs→vs.length=cs.length
 | [],[],_=>rfl
 | _::_,_::_,h=>by simp [h.2.length]
theorem RdBL.get {M:Nat→Nat→Prop} {w:World}:∀{vs:List Value} {cs:List AV},RdBL M w vs cs→∀(j:Nat) (c:AV),cs[j]? = some c→∃ v,vs[j]? = some v∧RdB M w v c
 | [],[],_,j,c,hc=>by simp at hc
 | v::vs,c'::cs,h,0,c,hc=>by simp at hc;subst hc;exact ⟨v,by simp,h.1⟩
 | v::vs,c'::cs,h,j+1,c,hc=>by simpa using h.2.get j c (by simpa using hc)
structure Env where
 w0:World
 M:Nat→Nat→Prop
 X:Nat→Prop
 args:Array Value
 hM:∀ b o,M b o→b<w0.heap.size
abbrev Env.N (E:Env):Nat:=E.w0.heap.size
def tokB:Value→Option Nat
 | .slice (some a) _ (_+1)=>some a.block
 | _=>none
def TokOk (E:Env) (M:Nat→Nat→Prop) (w:World) (t:TV):Prop:=
 (∃ a,t.v=.slice a 0 0)∨
 ∃(e n:Nat) (xs:List Value),w.ownsRow E.N e t.sz t.v n xs∧∀ g,t.v.ownBlock=some g→∀ o,n*t.sz≤o→M g o
def live (σ:List AV) (d:Nat):Prop:=∃(i:Nat) (av:AV),σ[i]? = some av∧av.hasTok d
structure RelI (E:Env) (τ:Nat→TV) (M:Nat→Nat→Prop) (σ:List AV) (a:Act) (w:World):Prop where
 hd:a.defers=[]
 hs:a.tmps.size=σ.length
 slot:∀(i:Nat) (av:AV),σ[i]? = some av→SlotOk M w τ a.tmps (a.tmps.getD i Go.undef) av
 m0:∀ b o,E.M b o→M b o
 mb:∀ b o,M b o→b<w.heap.size
 hold:∀(i:Nat) (av:AV),σ[i]? = some av→av.holder=true→(∀ o,M (blk (a.tmps.getD i Go.undef)) o)∧(E.N≤blk (a.tmps.getD i Go.undef)∨E.X (blk (a.tmps.getD i Go.undef)))∧(av.fresh=true→E.N≤blk (a.tmps.getD i Go.undef))∧
  (av.fresh=false→a.tmps.getD i Go.undef=E.args.getD i Go.undef)
 inj:∀(i j:Nat) (avi avj:AV),σ[i]? = some avi→σ[j]? = some avj→avi.holder=true→avj.holder=true→blk (a.tmps.getD i Go.undef)=blk (a.tmps.getD j Go.undef)→i=j
 refs:∀(i:Nat) (av:AV) (s:Nat) (b:Bool),σ[i]? = some av→av.rf=some (s,b)→∃ hv:AV,σ[s]? = some hv∧hv.fits b=true
 toks:∀ d:Nat,live σ d→TokOk E M w (τ d)
 tinj:∀(d d' g:Nat),live σ d→live σ d'→d≠d'→tokB (τ d).v=some g→tokB (τ d').v≠some g
 tbox:∀(d i:Nat) (av:AV),live σ d→σ[i]? = some av→av.holder=true→tokB (τ d).v≠some (blk (a.tmps.getD i Go.undef))
 size:E.N≤w.heap.size
 os:w.os=E.w0.os
 tape:w.tape=E.w0.tape
 output:w.output=E.w0.output
 frame:∀ k,k<E.N→¬E.X k→w.heap[k]? = E.w0.heap[k]?
def Rel (E:Env) (σ:List AV) (a:Act) (w:World):Prop:=∃ τ M,RelI E τ M σ a w
theorem AV.fits_holder {b:Bool} {av:AV} (h:av.fits b=true):av.holder=true:=by
 cases b<;>cases av<;>simp_all [AV.fits,AV.isBox,AV.isArr,AV.holder]
variable {E:Env} {τ:Nat→TV} {M:Nat→Nat→Prop} {σ:List AV} {a:Act}
theorem RelI.lt {w:World} (h:RelI E τ M σ a w) {i:Nat} {av:AV} (hi:σ[i]? = some av):i<a.tmps.size:=by
 have:=(List.getElem?_eq_some_iff.1 hi).1
 rw [h.hs];exact this
theorem Keeps.below {M:Nat→Nat→Prop} {w w':World} (h:Below w.heap.size w w'):Keeps M M w w':=fun b o u hm hc=>by
 refine ⟨hm,?_⟩
 rw [h.cell (p:=⟨b,o,none⟩) (World.block_lt_of_cell? w _ hc)]
 exact hc
theorem getD_set_ne {tm:Array Value} {d s:Nat} (h:d≠s) (v:Value):(tm.setIfInBounds d v).getD s Go.undef=tm.getD s Go.undef:=by
 simp [h]
theorem SlotOk.keep {M M':Nat→Nat→Prop} {w w':World} {τ τ':Nat→TV} {tm tm':Array Value} (hk:Keeps M M' w w') {v:Value} {av:AV} (ht:∀ d,av.hasTok d→τ' d=τ d)
 (hr:∀ s b,av.rf=some (s,b)→tm'.getD s Go.undef=tm.getD s Go.undef)
 (hh:av.holder=true→w'.heap[blk v]? = w.heap[blk v]?)
 (h:SlotOk M w τ tm v av):SlotOk M' w' τ' tm' v av:=by
 cases av with
 | tup l=>obtain ⟨vs,rfl,h⟩:=h;exact ⟨vs,rfl,h.keep hk⟩
 | box cs=>
  obtain ⟨b,vs,T,rfl,hb,h⟩:=h
  exact ⟨b,vs,T,rfl,(hh rfl).trans hb,h.keep hk (fun d hd=>ht d (by simpa only [AV.hasTok] using hd))⟩
 | ptr s off=>show _=_;rw [hr s _ rfl];exact h
 | elt cs=>
  obtain ⟨b,off,vs,rfl,hc,h⟩:=h
  exact ⟨b,off,vs,rfl,fun j u hu=>hk _ _ _ (hc j u hu).1 (hc j u hu).2,h.keep hk⟩
 | obx cs=>obtain ⟨b,vs,T,rfl,hb,h⟩:=h;exact ⟨b,vs,T,rfl,(hh rfl).trans hb,h.keep hk ht⟩
 | arr pre c post=>obtain ⟨b,T,vs,q,cap,rfl,hb,h,hrest⟩:=h;exact ⟨b,T,vs,q,cap,rfl,(hh rfl).trans hb,h.keep hk,hrest⟩
 | asl s=>show _=_;rw [hr s _ rfl];exact h
 | awn s m lo n=>show ∃ _ _,_;rw [hr s _ rfl];exact h
 | pel s m i f=>show _=_;rw [hr s _ rfl];exact h
 | one c=>exact RdA.keep (av:=.one c) hk ht h
 | agg cs=>exact RdA.keep (av:=.agg cs) hk ht h
 | undef=>exact h
 | any=>exact h
theorem SlotOk.blk_lt {M:Nat→Nat→Prop} {w:World} {τ:Nat→TV} {tm:Array Value} {v:Value} {av:AV} (h:SlotOk M w τ tm v av) (hh:av.holder=true):blk v<w.heap.size:=by
 cases av with
 | box cs=>obtain ⟨b,vs,T,rfl,hb,h⟩:=h;exact (Array.getElem?_eq_some_iff.1 hb).1
 | obx cs=>obtain ⟨b,vs,T,rfl,hb,h⟩:=h;exact (Array.getElem?_eq_some_iff.1 hb).1
 | arr pre c post=>obtain ⟨b,T,vs,q,cap,rfl,hb,_⟩:=h;exact (Array.getElem?_eq_some_iff.1 hb).1
 | _=>cases hh
theorem TokOk.below {E:Env} {M:Nat→Nat→Prop} {w w':World} {v:TV} (hb:Below w.heap.size w w') (h:TokOk E M w v):TokOk E M w' v:=by
 rcases h with h | ⟨e,n,xs,ho,hm⟩
 · exact .inl h
 · refine .inr ⟨e,n,xs,⟨ho.1,?_⟩,hm⟩
   rcases ho.2 with h | ⟨g,cap,cur,hv,hg,hh,r⟩
   · exact .inl h
   · exact .inr ⟨g,cap,cur,hv,hg,(hb.block g (Array.getElem?_eq_some_iff.1 hh).1).trans hh,r⟩
theorem RelI.below {w w':World} (h:RelI E τ M σ a w) (hb:Below w.heap.size w w'):RelI E τ M σ a w' where
 hd:=h.hd
 hs:=h.hs
 slot:=fun i av hi=>(h.slot i av hi).keep (Keeps.below hb) (fun _ _=>rfl) (fun _ _ _=>rfl) (fun hh=>hb.block _ ((h.slot i av hi).blk_lt hh))
 m0:=h.m0
 mb:=fun b o hm=>Nat.lt_of_lt_of_le (h.mb b o hm) hb.size
 hold:=h.hold
 inj:=h.inj
 refs:=h.refs
 toks:=fun d hd=>(h.toks d hd).below hb
 tinj:=h.tinj
 tbox:=h.tbox
 size:=Nat.le_trans h.size hb.size
 os:=hb.os.trans h.os
 tape:=hb.tape.trans h.tape
 output:=hb.output.trans h.output
 frame:=fun k hk hx=>(hb.block k (Nat.lt_of_lt_of_le hk h.size)).trans (h.frame k hk hx)
theorem Rel.below {w w':World} (h:Rel E σ a w) (hb:Below w.heap.size w w'):Rel E σ a w':=let ⟨τ,M,h⟩:=h;⟨τ,M,h.below hb⟩
theorem getElem?_set_cases {α:Type} {l:List α} {d i:Nat} {x y:α} (h:(l.set d x)[i]? = some y):(i=d∧y=x)∨(i≠d∧l[i]? = some y):=by
 rw [List.getElem?_set] at h
 split at h
 · rename_i hdi
   split at h
   · simp at h;exact .inl ⟨hdi.symm,h.symm⟩
   · simp at h
 · rename_i hdi;exact .inr ⟨fun e=>hdi e.symm,h⟩
theorem RelI.put {w:World} (h:RelI E τ M σ a w) {d:Nat} {old:AV} (hd:σ[d]? = some old) (hnh:old.holder=false) (v:Value) (av:AV) (hav:av.holder=false)
 (hok:SlotOk M w τ a.tmps v av) (hrf:∀(s:Nat) (b:Bool),av.rf=some (s,b)→∃ hv:AV,σ[s]? = some hv∧hv.fits b=true) (htok:∀ t,av.hasTok t→live σ t) :
 RelI E τ M (σ.set d av) (a.put (some d) v) w:=by
 have hlt:d<a.tmps.size:=h.lt hd
 have hns:∀(s:Nat) (b:Bool) (hv:AV),σ[s]? = some hv→hv.fits b=true→d≠s:=fun s b hv hs hf e=>by
  subst e;rw [hd] at hs;cases hs;have:=AV.fits_holder hf;rw [hnh] at this;cases this
 have hself:(a.tmps.setIfInBounds d v).getD d Go.undef=v:=by simp [hlt]
 have hlive:∀ t,live (σ.set d av) t→live σ t:=fun t ⟨i,x,hi,hx⟩=>by
  rcases getElem?_set_cases hi with ⟨_,rfl⟩ | ⟨_,hi⟩
  · exact htok t hx
  · exact ⟨i,x,hi,hx⟩
 refine RelI.mk h.hd (by simpa [Act.put] using h.hs) ?_ h.m0 h.mb ?_ ?_ ?_ ?_ ?_ ?_ h.size h.os h.tape h.output h.frame
 · intro i x hi
   show SlotOk M w τ (a.tmps.setIfInBounds d v) ((a.tmps.setIfInBounds d v).getD i Go.undef) x
   rcases getElem?_set_cases hi with ⟨rfl,rfl⟩ | ⟨hne,hi⟩
   · rw [hself]
     exact hok.keep (fun _ _ _ h1 h2=>⟨h1,h2⟩) (fun _ _=>rfl) (fun s b hr=>by obtain ⟨hv,h1,h2⟩:=hrf s b hr;exact getD_set_ne (hns s b hv h1 h2) v) (fun _=>rfl)
   · rw [getD_set_ne (Ne.symm hne)]
     exact (h.slot i x hi).keep (fun _ _ _ h1 h2=>⟨h1,h2⟩) (fun _ _=>rfl) (fun s b hr=>by obtain ⟨hv,h1,h2⟩:=h.refs i x s b hi hr;exact getD_set_ne (hns s b hv h1 h2) v) (fun _=>rfl)
 · intro i x hi hh
   show (∀ o,M (blk ((a.tmps.setIfInBounds d v).getD i Go.undef)) o)∧(_≤blk ((a.tmps.setIfInBounds d v).getD i Go.undef)∨E.X (blk ((a.tmps.setIfInBounds d v).getD i Go.undef)))∧(_→_≤blk ((a.tmps.setIfInBounds d v).getD i Go.undef))∧(_→(a.tmps.setIfInBounds d v).getD i Go.undef=_)
   rcases getElem?_set_cases hi with ⟨rfl,rfl⟩ | ⟨hne,hi⟩
   · rw [hav] at hh;cases hh
   · rw [getD_set_ne (Ne.symm hne)];exact h.hold i x hi hh
 · intro i j x y hi hj hx hy
   show blk ((a.tmps.setIfInBounds d v).getD i Go.undef)=blk ((a.tmps.setIfInBounds d v).getD j Go.undef)→_
   rcases getElem?_set_cases hi with ⟨rfl,rfl⟩ | ⟨hne,hi⟩
   · rw [hav] at hx;cases hx
   · rcases getElem?_set_cases hj with ⟨rfl,rfl⟩ | ⟨hne',hj⟩
     · rw [hav] at hy;cases hy
     · rw [getD_set_ne (Ne.symm hne),getD_set_ne (Ne.symm hne')];exact h.inj i j x y hi hj hx hy
 · intro i x s b hi hr
   have:∃ hv:AV,σ[s]? = some hv∧hv.fits b=true:=by
    rcases getElem?_set_cases hi with ⟨rfl,rfl⟩ | ⟨hne,hi⟩
    · exact hrf s b hr
    · exact h.refs i x s b hi hr
   obtain ⟨hv,h1,h2⟩:=this
   exact ⟨hv,by rw [List.getElem?_set_ne (hns s b hv h1 h2)];exact h1,h2⟩
 · exact fun t ht=>h.toks t (hlive t ht)
 · exact fun t t' g ht ht'=>h.tinj t t' g (hlive t ht) (hlive t' ht')
 · intro t i x ht hi hx
   show _≠some (blk ((a.tmps.setIfInBounds d v).getD i Go.undef))
   rcases getElem?_set_cases hi with ⟨rfl,rfl⟩ | ⟨hne,hi⟩
   · rw [hav] at hx;cases hx
   · rw [getD_set_ne (Ne.symm hne)];exact h.tbox t i x (hlive t ht) hi hx
theorem tokOk_blk_lt {E:Env} {M:Nat→Nat→Prop} {w:World} {v:TV} {g:Nat} (h:TokOk E M w v) (hg:tokB v.v=some g):E.N≤g∧g<w.heap.size:=by
 rcases h with ⟨a,ha⟩ | ⟨e,n,xs,ho,_⟩
 · rw [ha] at hg;cases a<;>simp [tokB] at hg
 · refine ho.lt g ?_
   unfold tokB at hg
   split at hg
   · rename_i hv;simp at hg;simp [Value.ownBlock,hg,hv]
   · cases hg
theorem Keeps.alloc {M:Nat→Nat→Prop} (w:World) (o:Obj):Keeps M (fun b o=>M b o∨b=w.heap.size) w (w.alloc o):=fun b o' u hm hc=>by
 have hl:=World.block_lt_of_cell? w _ hc
 exact ⟨fun hh=>hh.elim hm (fun e=>by simp only at hl;omega),(Keeps.below ((Below.refl _ _).alloc (Nat.le_refl _) o) b o' u hm hc).2⟩
theorem RelI.alloc {w:World} (h:RelI E τ M σ a w) {d:Nat} {old:AV} (hd:σ[d]? = some old) (hnh:old.holder=false) (o:Obj) (v:Value) (av:AV) (hav:av.holder=true) (hfrs:av.fresh=true)
 (hv:blk v=w.heap.size)
 (hok:SlotOk (fun b o=>M b o∨b=w.heap.size) (w.alloc o) τ a.tmps v av) (htok:∀ t,av.hasTok t→live σ t) :
 RelI E τ (fun b o=>M b o∨b=w.heap.size) (σ.set d av) (a.put (some d) v) (w.alloc o):=by
 have hlt:d<a.tmps.size:=h.lt hd
 have hns:∀(s:Nat) (b:Bool) (hv:AV),σ[s]? = some hv→hv.fits b=true→d≠s:=fun s b hv hs hf e=>by
  subst e;rw [hd] at hs;cases hs;have:=AV.fits_holder hf;rw [hnh] at this;cases this
 have hself:(a.tmps.setIfInBounds d v).getD d Go.undef=v:=by simp [hlt]
 have hlive:∀ t,live (σ.set d av) t→live σ t:=fun t ⟨i,x,hi,hx⟩=>by
  rcases getElem?_set_cases hi with ⟨_,rfl⟩ | ⟨_,hi⟩
  · exact htok t hx
  · exact ⟨i,x,hi,hx⟩
 have hb:Below w.heap.size w (w.alloc o):=(Below.refl _ _).alloc (Nat.le_refl _) o
 have hk:=Keeps.alloc (M:=M) w o
 have hmb:∀ b o',(M b o'∨b=w.heap.size)→b<(w.alloc o).heap.size:=by
  rintro b o' (hm | rfl)
  · exact Nat.lt_of_lt_of_le (h.mb b o' hm) hb.size
  · simp
 refine RelI.mk h.hd (by simpa [Act.put] using h.hs) ?_ (fun b o hm=>.inl (h.m0 b o hm)) hmb ?_ ?_ ?_ ?_ ?_ ?_ (Nat.le_trans h.size hb.size) h.os h.tape h.output
  (fun k hk hx=>(hb.block k (Nat.lt_of_lt_of_le hk h.size)).trans (h.frame k hk hx))
 · intro i x hi
   show SlotOk _ (w.alloc o) τ (a.tmps.setIfInBounds d v) ((a.tmps.setIfInBounds d v).getD i Go.undef) x
   rcases getElem?_set_cases hi with ⟨rfl,rfl⟩ | ⟨hne,hi⟩
   · rw [hself]
     exact hok.keep (fun _ _ _ h1 h2=>⟨h1,h2⟩) (fun _ _=>rfl) (fun s b hr=>by cases x<;>simp [AV.rf,AV.holder] at hr hav) (fun _=>rfl)
   · rw [getD_set_ne (Ne.symm hne)]
     exact (h.slot i x hi).keep hk (fun _ _=>rfl) (fun s b hr=>by obtain ⟨hv,h1,h2⟩:=h.refs i x s b hi hr;exact getD_set_ne (hns s b hv h1 h2) v) (fun hh=>hb.block _ ((h.slot i x hi).blk_lt hh))
 · intro i x hi hh
   show (∀ o',M (blk ((a.tmps.setIfInBounds d v).getD i Go.undef)) o'∨blk ((a.tmps.setIfInBounds d v).getD i Go.undef)=_)∧(_≤blk ((a.tmps.setIfInBounds d v).getD i Go.undef)∨E.X (blk ((a.tmps.setIfInBounds d v).getD i Go.undef)))∧(_→_≤blk ((a.tmps.setIfInBounds d v).getD i Go.undef))∧(_→(a.tmps.setIfInBounds d v).getD i Go.undef=_)
   rcases getElem?_set_cases hi with ⟨rfl,rfl⟩ | ⟨hne,hi⟩
   · rw [hself];exact ⟨fun _=>.inr hv,.inl (by rw [hv];exact h.size),fun _=>by rw [hv];exact h.size,fun e=>by rw [hfrs] at e;cases e⟩
   · rw [getD_set_ne (Ne.symm hne)];exact ⟨fun o=>.inl ((h.hold i x hi hh).1 o),(h.hold i x hi hh).2⟩
 · intro i j x y hi hj hx hy
   show blk ((a.tmps.setIfInBounds d v).getD i Go.undef)=blk ((a.tmps.setIfInBounds d v).getD j Go.undef)→_
   rcases getElem?_set_cases hi with ⟨rfl,rfl⟩ | ⟨hne,hi'⟩
   · rcases getElem?_set_cases hj with ⟨rfl,rfl⟩ | ⟨hne',hj⟩
     · exact fun _=>rfl
     · rw [hself,getD_set_ne (Ne.symm hne'),hv]
       intro e
       have:=(h.slot j y hj).blk_lt hy
       omega
   · rcases getElem?_set_cases hj with ⟨rfl,rfl⟩ | ⟨hne',hj⟩
     · rw [hself,getD_set_ne (Ne.symm hne),hv]
       intro e
       have:=(h.slot i x hi').blk_lt hx
       omega
     · rw [getD_set_ne (Ne.symm hne),getD_set_ne (Ne.symm hne')];exact h.inj i j x y hi' hj hx hy
 · intro i x s b hi hr
   have:∃ hv:AV,σ[s]? = some hv∧hv.fits b=true:=by
    rcases getElem?_set_cases hi with ⟨rfl,rfl⟩ | ⟨hne,hi⟩
    · cases x<;>simp [AV.rf,AV.holder] at hr hav
    · exact h.refs i x s b hi hr
   obtain ⟨hv,h1,h2⟩:=this
   exact ⟨hv,by rw [List.getElem?_set_ne (hns s b hv h1 h2)];exact h1,h2⟩
 · intro t ht
   rcases (h.toks t (hlive t ht)).below hb with h' | ⟨e,n,xs,ho,hm⟩
   · exact .inl h'
   · exact .inr ⟨e,n,xs,ho,fun g hg o ho=>.inl (hm g hg o ho)⟩
 · exact fun t t' g ht ht'=>h.tinj t t' g (hlive t ht) (hlive t' ht')
 · intro t i x ht hi hx
   show _≠some (blk ((a.tmps.setIfInBounds d v).getD i Go.undef))
   rcases getElem?_set_cases hi with ⟨rfl,rfl⟩ | ⟨hne,hi⟩
   · rw [hself,hv]
     intro e
     have:=(tokOk_blk_lt (h.toks t (hlive t ht)) e).2
     omega
   · rw [getD_set_ne (Ne.symm hne)];exact h.tbox t i x (hlive t ht) hi hx
theorem RelI.adopt {w w':World} (h:RelI E τ M σ a w) (hb:Below w.heap.size w w') {d:Nat} {old:AV} (hd:σ[d]? = some old) (hnh:old.holder=false) (v:Value) (av:AV) (hav:av.holder=true) (hfrs:av.fresh=true)
 (hv:w.heap.size≤blk v) (hvl:blk v<w'.heap.size)
 (hok:SlotOk (fun b o=>M b o∨b=blk v) w' τ a.tmps v av) (htok:∀ t,av.hasTok t→live σ t) :
 RelI E τ (fun b o=>M b o∨b=blk v) (σ.set d av) (a.put (some d) v) w':=by
 have hlt:d<a.tmps.size:=h.lt hd
 have hns:∀(s:Nat) (b:Bool) (hv:AV),σ[s]? = some hv→hv.fits b=true→d≠s:=fun s b hv hs hf e=>by
  subst e;rw [hd] at hs;cases hs;have:=AV.fits_holder hf;rw [hnh] at this;cases this
 have hself:(a.tmps.setIfInBounds d v).getD d Go.undef=v:=by simp [hlt]
 have hlive:∀ t,live (σ.set d av) t→live σ t:=fun t ⟨i,x,hi,hx⟩=>by
  rcases getElem?_set_cases hi with ⟨_,rfl⟩ | ⟨_,hi⟩
  · exact htok t hx
  · exact ⟨i,x,hi,hx⟩
 have hk:Keeps M (fun b o=>M b o∨b=blk v) w w':=fun b o' u hm hc=>by
  have hl:=World.block_lt_of_cell? w _ hc
  exact ⟨fun hh=>hh.elim hm (fun e=>by simp only at hl;omega),(Keeps.below hb b o' u hm hc).2⟩
 have hmb:∀ b o',(M b o'∨b=blk v)→b<w'.heap.size:=by
  rintro b o' (hm | rfl)
  · exact Nat.lt_of_lt_of_le (h.mb b o' hm) hb.size
  · exact hvl
 refine RelI.mk h.hd (by simpa [Act.put] using h.hs) ?_ (fun b o hm=>.inl (h.m0 b o hm)) hmb ?_ ?_ ?_ ?_ ?_ ?_ (Nat.le_trans h.size hb.size) (hb.os.trans h.os) (hb.tape.trans h.tape) (hb.output.trans h.output)
  (fun k hk hx=>(hb.block k (Nat.lt_of_lt_of_le hk h.size)).trans (h.frame k hk hx))
 · intro i x hi
   show SlotOk _ w' τ (a.tmps.setIfInBounds d v) ((a.tmps.setIfInBounds d v).getD i Go.undef) x
   rcases getElem?_set_cases hi with ⟨rfl,rfl⟩ | ⟨hne,hi⟩
   · rw [hself]
     exact hok.keep (fun _ _ _ h1 h2=>⟨h1,h2⟩) (fun _ _=>rfl) (fun s b hr=>by cases x<;>simp [AV.rf,AV.holder] at hr hav) (fun _=>rfl)
   · rw [getD_set_ne (Ne.symm hne)]
     exact (h.slot i x hi).keep hk (fun _ _=>rfl) (fun s b hr=>by obtain ⟨hv,h1,h2⟩:=h.refs i x s b hi hr;exact getD_set_ne (hns s b hv h1 h2) v) (fun hh=>hb.block _ ((h.slot i x hi).blk_lt hh))
 · intro i x hi hh
   show (∀ o',M (blk ((a.tmps.setIfInBounds d v).getD i Go.undef)) o'∨blk ((a.tmps.setIfInBounds d v).getD i Go.undef)=_)∧(_≤blk ((a.tmps.setIfInBounds d v).getD i Go.undef)∨E.X (blk ((a.tmps.setIfInBounds d v).getD i Go.undef)))∧(_→_≤blk ((a.tmps.setIfInBounds d v).getD i Go.undef))∧(_→(a.tmps.setIfInBounds d v).getD i Go.undef=_)
   rcases getElem?_set_cases hi with ⟨rfl,rfl⟩ | ⟨hne,hi⟩
   · rw [hself];exact ⟨fun _=>.inr rfl,.inl (Nat.le_trans h.size hv),fun _=>Nat.le_trans h.size hv,fun e=>by rw [hfrs] at e;cases e⟩
   · rw [getD_set_ne (Ne.symm hne)];exact ⟨fun o=>.inl ((h.hold i x hi hh).1 o),(h.hold i x hi hh).2⟩
 · intro i j x y hi hj hx hy
   show blk ((a.tmps.setIfInBounds d v).getD i Go.undef)=blk ((a.tmps.setIfInBounds d v).getD j Go.undef)→_
   rcases getElem?_set_cases hi with ⟨rfl,rfl⟩ | ⟨hne,hi'⟩
   · rcases getElem?_set_cases hj with ⟨rfl,rfl⟩ | ⟨hne',hj⟩
     · exact fun _=>rfl
     · rw [hself,getD_set_ne (Ne.symm hne')]
       intro e
       have:=(h.slot j y hj).blk_lt hy
       omega
   · rcases getElem?_set_cases hj with ⟨rfl,rfl⟩ | ⟨hne',hj⟩
     · rw [hself,getD_set_ne (Ne.symm hne)]
       intro e
       have:=(h.slot i x hi').blk_lt hx
       omega
     · rw [getD_set_ne (Ne.symm hne),getD_set_ne (Ne.symm hne')];exact h.inj i j x y hi' hj hx hy
 · intro i x s b hi hr
   have:∃ hv:AV,σ[s]? = some hv∧hv.fits b=true:=by
    rcases getElem?_set_cases hi with ⟨rfl,rfl⟩ | ⟨hne,hi⟩
    · cases x<;>simp [AV.rf,AV.holder] at hr hav
    · exact h.refs i x s b hi hr
   obtain ⟨hv,h1,h2⟩:=this
   exact ⟨hv,by rw [List.getElem?_set_ne (hns s b hv h1 h2)];exact h1,h2⟩
 · intro t ht
   rcases (h.toks t (hlive t ht)).below hb with h' | ⟨e,n,xs,ho,hm⟩
   · exact .inl h'
   · exact .inr ⟨e,n,xs,ho,fun g hg o ho=>.inl (hm g hg o ho)⟩
 · exact fun t t' g ht ht'=>h.tinj t t' g (hlive t ht) (hlive t' ht')
 · intro t i x ht hi hx
   show _≠some (blk ((a.tmps.setIfInBounds d v).getD i Go.undef))
   rcases getElem?_set_cases hi with ⟨rfl,rfl⟩ | ⟨hne,hi⟩
   · rw [hself]
     intro e
     have:=(tokOk_blk_lt (h.toks t (hlive t ht)) e).2
     omega
   · rw [getD_set_ne (Ne.symm hne)];exact h.tbox t i x (hlive t ht) hi hx
end Go.Slot

namespace Go.Slot
open Go Go.RowKit
variable {E:Env} {τ:Nat→TV} {M:Nat→Nat→Prop} {σ:List AV} {a:Act}
theorem RelI.rewrite {w:World} (h:RelI E τ M σ a w) {s:Nat} {old new:AV} (hs:σ[s]? = some old) (ho:old.holder=true) (hn:new.holder=true) (hf:∀ b,old.fits b=true→new.fits b=true) (hfr:new.fresh=old.fresh)
 (cur':Array Value) (hok:∀ vs T,w.heap[blk (a.tmps.getD s Go.undef)]? = some (.cells vs T (0,0))→SlotOk M (w.setRow (blk (a.tmps.getD s Go.undef)) cur') τ a.tmps (a.tmps.getD s Go.undef) new)
 (htok:∀ t,new.hasTok t→live σ t):RelI E τ M (σ.set s new) a (w.setRow (blk (a.tmps.getD s Go.undef)) cur'):=by
 generalize hb:blk (a.tmps.getD s Go.undef)=b at *
 have hM:∀ o,M b o:=hb▸(h.hold s old hs ho).1
 have hcells:∃ vs T,w.heap[b]? = some (.cells vs T (0,0)):=by
  have hsl:=h.slot s old hs
  cases old with
  | box cs=>obtain ⟨b',vs,T,e,hh,_⟩:=hsl;rw [e] at hb;exact ⟨_,T,by rw [←hb];exact hh⟩
  | obx cs=>obtain ⟨b',vs,T,e,hh,_⟩:=hsl;rw [e] at hb;exact ⟨_,T,by rw [←hb];exact hh⟩
  | arr pre c post=>obtain ⟨b',T,vs,q,cap,e,hh,_⟩:=hsl;rw [e] at hb;exact ⟨_,T,by rw [←hb];exact hh⟩
  | _=>cases ho
 obtain ⟨vs0,T0,hheap⟩:=hcells
 have hk:Keeps M M w (w.setRow b cur'):=fun b' o u hm hc=>⟨hm,by
  rw [cell_setRow_other]
  · exact hc
  · exact fun e=>hm (by rw [show b'=b from e];exact hM o)⟩
 have hlive:∀ t,live (σ.set s new) t→live σ t:=fun t ⟨i,x,hi,hx⟩=>by
  rcases getElem?_set_cases hi with ⟨_,rfl⟩ | ⟨_,hi⟩
  · exact htok t hx
  · exact ⟨i,x,hi,hx⟩
 refine RelI.mk h.hd (by simpa using h.hs) ?_ h.m0 (fun b o hm=>by rw [setRow_size];exact h.mb b o hm) ?_ ?_ ?_ ?_ ?_ ?_ (by rw [setRow_size];exact h.size) h.os h.tape h.output ?_
 · intro i x hi
   rcases getElem?_set_cases hi with ⟨rfl,rfl⟩ | ⟨hne,hi⟩
   · exact hok vs0 T0 hheap
   · refine (h.slot i x hi).keep hk (fun _ _=>rfl) (fun _ _ _=>rfl) (fun hh=>setRow_other w b _ cur' ?_)
     exact fun e=>hne (h.inj i s x old hi hs hh ho (e.trans hb.symm))
 · intro i x hi hh
   rcases getElem?_set_cases hi with ⟨rfl,rfl⟩ | ⟨hne,hi⟩
   · exact hfr▸h.hold i old hs ho
   · exact h.hold i x hi hh
 · intro i j x y hi hj hx hy
   have key:∀(i:Nat) (x:AV),(σ.set s new)[i]? = some x→x.holder=true→∃ x':AV,σ[i]? = some x'∧x'.holder=true:=fun i x hi hx=>by
    rcases getElem?_set_cases hi with ⟨rfl,rfl⟩ | ⟨hne,hi⟩
    · exact ⟨old,hs,ho⟩
    · exact ⟨x,hi,hx⟩
   obtain ⟨x',hi',hx'⟩:=key i x hi hx
   obtain ⟨y',hj',hy'⟩:=key j y hj hy
   exact h.inj i j x' y' hi' hj' hx' hy'
 · intro i x s' b' hi hr
   have:∃ hv:AV,σ[s']? = some hv∧hv.fits b'=true:=by
    rcases getElem?_set_cases hi with ⟨rfl,rfl⟩ | ⟨hne,hi⟩
    · cases x<;>simp [AV.rf,AV.holder] at hr hn
    · exact h.refs i x s' b' hi hr
   obtain ⟨hv,h1,h2⟩:=this
   by_cases e:s'=s
   · subst e
     rw [hs] at h1;cases h1
     have hl:s'<σ.length:=(List.getElem?_eq_some_iff.1 hs).1
     exact ⟨new,by simp [hl],hf _ h2⟩
   · exact ⟨hv,by rw [List.getElem?_set_ne (Ne.symm e)];exact h1,h2⟩
 · intro t ht
   rcases h.toks t (hlive t ht) with h' | ⟨e,n,xs,hown,hm⟩
   · exact .inl h'
   · rcases hown.2 with ⟨h1,_⟩ | ⟨g,cap,cur,hv,hg,hh,hnc,r⟩
     · exact .inl ⟨none,h1⟩
     · cases cap with
       | zero=>exact .inl ⟨some ⟨g,0,none⟩,by rw [hv];simp at hnc;rw [hnc]⟩
       | succ cap=>
        refine .inr ⟨e,n,xs,⟨hown.1,.inr ⟨g,cap+1,cur,hv,hg,?_,hnc,r⟩⟩,hm⟩
        rw [setRow_other]
        · exact hh
        · rintro rfl
          exact h.tbox t s old (hlive t ht) hs ho (by rw [hv,hb];rfl)
 · exact fun t t' g ht ht'=>h.tinj t t' g (hlive t ht) (hlive t' ht')
 · intro t i x ht hi hx
   rcases getElem?_set_cases hi with ⟨rfl,rfl⟩ | ⟨hne,hi⟩
   · exact h.tbox t i old (hlive t ht) hs ho
   · exact h.tbox t i x (hlive t ht) hi hx
 · intro k hk' hx
   rw [setRow_other]
   · exact h.frame k hk' hx
   · rintro rfl
     rcases (h.hold s old hs ho).2.1 with h1 | h1
     · rw [hb] at h1;omega
     · rw [hb] at h1;exact hx h1
inductive Cell.Le:Cell→Cell→Prop
 | refl (c:Cell):Cell.Le c c
 | nilInts (k:IntKind):Cell.Le (.raw (.slice none 0 0)) (.ints k [])
 | nilSl (n:Nat):Cell.Le (.raw (.slice none 0 0)) (.sl n [])
 | nilZc:Cell.Le (.raw (.slice none 0 0)) .zc
 | zcInts (k:IntKind):Cell.Le .zc (.ints k [])
 | zcSl (n:Nat):Cell.Le .zc (.sl n [])
 | nnInts (b:Bool) (k:IntKind):Cell.Le (.nn b) (.ints k [])
 | nnSl (b:Bool) (n:Nat):Cell.Le (.nn b) (.sl n [])
 | untok (d:Nat) (c:Cell):Cell.Le (.tok d c) c
 | trans {a b c:Cell} (h:Cell.Le a b) (h':Cell.Le b c):Cell.Le a c
 | inTok (d:Nat) {c c':Cell} (h:Cell.Le c c') (he:c.esz=c'.esz):Cell.Le (.tok d c) (.tok d c')
theorem RdC.zcInts {w:World} {ad:Option Addr} (k:IntKind):RdC M w (.slice ad 0 0) (.ints k []):=
 .ints 0 0 rfl (Nat.le_refl _) (fun h=>absurd rfl h) (fun i hi=>absurd hi (Nat.not_lt_zero i))
theorem RdC.zcSl {w:World} {ad:Option Addr} (n:Nat):RdC M w (.slice ad 0 0) (.sl n []):=
 .sl 0 0 (fun _ _=>Go.undef) rfl (Nat.le_refl _) (fun h=>absurd rfl h) (fun r hr=>by cases hr) (fun i hi=>absurd hi (Nat.not_lt_zero i)) (fun i hi=>absurd hi (Nat.not_lt_zero i))
theorem RdC.notTok {w:World} {v:Value} {d:Nat} {c:Cell} (h:RdC M w v (.tok d c)):False:=by cases h
theorem RdC.le {w:World} {v:Value} {c c':Cell} (hle:Cell.Le c c') (h:RdC M w v c):RdC M w v c':=by
 induction hle with
 | refl=>exact h
 | nilInts k=>cases h;exact RdC.zcInts k
 | nilSl n=>cases h;exact RdC.zcSl n
 | nilZc=>cases h;exact RdC.zc
 | zcInts k=>cases h;exact RdC.zcInts k
 | zcSl n=>cases h;exact RdC.zcSl n
 | nnInts b k=>cases h;exact .ints 0 0 rfl (Nat.zero_le _) (fun h=>absurd rfl h) (fun i hi=>absurd hi (Nat.not_lt_zero i))
 | nnSl b n=>cases h;exact .sl 0 0 (fun _ _=>Go.undef) rfl (Nat.zero_le _) (fun h=>absurd rfl h) (fun r hr=>by cases hr) (fun i hi=>absurd hi (Nat.not_lt_zero i)) (fun i hi=>absurd hi (Nat.not_lt_zero i))
 | untok=>exact h.notTok.elim
 | inTok=>exact h.notTok.elim
 | trans _ _ ih1 ih2=>exact ih2 (ih1 h)
theorem RdT.of {w:World} {v:Value} {c:Cell} (h:RdC M w v c):RdT M w τ v c:=by
 cases c with
 | tok d c=>exact h.notTok.elim
 | _=>exact h
theorem RdT.le {w:World} {v:Value} {c c':Cell} (hle:Cell.Le c c') (h:RdT M w τ v c):RdT M w τ v c':=by
 induction hle with
 | refl=>exact h
 | nilInts k=>exact RdC.le (.nilInts k) h
 | nilSl n=>exact RdC.le (.nilSl n) h
 | nilZc=>exact RdC.le .nilZc h
 | zcInts k=>exact RdC.le (.zcInts k) h
 | zcSl n=>exact RdC.le (.zcSl n) h
 | nnInts b k=>exact RdC.le (.nnInts b k) h
 | nnSl b n=>exact RdC.le (.nnSl b n) h
 | untok d=>exact RdT.of h.2
 | inTok d hle he _=>exact ⟨he▸h.1,h.2.le hle⟩
 | trans _ _ ih1 ih2=>exact ih2 (ih1 h)
theorem Cell.Le.tok {c c':Cell} (h:Cell.Le c c') {d:Nat} (hd:c'.hasTok d):c.hasTok d:=by
 induction h with
 | refl=>exact hd
 | untok=>exact .inr hd
 | inTok d' _ _ ih=>exact hd.imp id ih
 | trans _ _ ih1 ih2=>exact ih1 (ih2 hd)
 | _=>cases hd
inductive LeL:List Cell→List Cell→Prop
 | nil:LeL [] []
 | cons {c c':Cell} {l l':List Cell} (h:Cell.Le c c') (t:LeL l l'):LeL (c::l) (c'::l')
theorem LeL.refl:∀ l:List Cell,LeL l l
 | []=>.nil
 | c::l=>.cons (.refl c) (LeL.refl l)
theorem RdL.le {w:World}:∀{vs:List Value} {cs cs':List Cell},LeL cs cs'→RdL M w τ vs cs→RdL M w τ vs cs'
 | [],_,_,.nil,_=>trivial
 | _::_,_,_,.cons h t,⟨h1,h2⟩=>⟨h1.le h,RdL.le t h2⟩
 | [],_,_,.cons _ _,h=>h.elim
 | _::_,_,_,.nil,h=>h.elim
theorem LeL.tok:∀{cs cs':List Cell},LeL cs cs'→∀{d:Nat},hasTokL d cs'→hasTokL d cs
 | _,_,.nil,_,h=>h
 | _,_,.cons h t,_,hd=>hd.elim (fun x=>.inl (h.tok x)) (fun x=>.inr (LeL.tok t x))
inductive AV.Le:AV→AV→Prop
 | refl (x:AV):AV.Le x x
 | any (x:AV):AV.Le x .any
 | one {c c':Cell} (h:Cell.Le c c'):AV.Le (.one c) (.one c')
 | agg {c c':List Cell} (h:LeL c c'):AV.Le (.agg c) (.agg c')
 | box {c c':List Cell} (h:LeL c c'):AV.Le (.box c) (.box c')
 | obx {c c':List Cell} (h:LeL c c'):AV.Le (.obx c) (.obx c')
theorem AV.Le.tok {x y:AV} (h:AV.Le x y) {d:Nat} (hd:y.hasTok d):x.hasTok d:=by
 cases h with
 | refl=>exact hd
 | any=>cases x<;>simp [AV.hasTok] at hd
 | one h=>simp only [AV.hasTok] at hd ⊢;exact h.tok hd
 | agg h=>simp only [AV.hasTok] at hd ⊢;exact h.tok hd
 | box h=>simp only [AV.hasTok] at hd ⊢;exact h.tok hd
 | obx h=>simp only [AV.hasTok] at hd ⊢;exact h.tok hd
theorem SlotOk.le {w:World} {tm:Array Value} {v:Value} {x y:AV} (h:AV.Le x y) (hs:SlotOk M w τ tm v x):SlotOk M w τ tm v y:=by
 cases h with
 | refl=>exact hs
 | any=>exact trivial
 | one h=>exact RdT.le h hs
 | agg h=>obtain ⟨vs,rfl,h'⟩:=hs;exact ⟨vs,rfl,h'.le h⟩
 | box h=>obtain ⟨b,vs,T,rfl,hb,h'⟩:=hs;exact ⟨b,vs,T,rfl,hb,h'.le h⟩
 | obx h=>obtain ⟨b,vs,T,rfl,hb,h'⟩:=hs;exact ⟨b,vs,T,rfl,hb,h'.le h⟩
theorem AV.Le.fresh {x y:AV} (h:AV.Le x y) (hy:y.holder=true):x.fresh=y.fresh:=by
 cases h<;>first | rfl | cases hy
theorem AV.Le.holder {x y:AV} (h:AV.Le x y) (hy:y.holder=true):x.holder=true:=by
 cases h<;>first | exact hy | rfl | cases hy
inductive LeS:List AV→List AV→Prop
 | nil:LeS [] []
 | cons {c c':AV} {l l':List AV} (h:AV.Le c c') (t:LeS l l'):LeS (c::l) (c'::l')
theorem LeS.refl:∀ l:List AV,LeS l l
 | []=>.nil
 | c::l=>.cons (.refl c) (LeS.refl l)
theorem LeS.length:∀{l l':List AV},LeS l l'→l.length=l'.length
 | _,_,.nil=>rfl
 | _,_,.cons _ t=>by simp [t.length]
theorem LeS.get:∀{l l':List AV},LeS l l'→∀(i:Nat) (y:AV),l'[i]? = some y→∃ x,l[i]? = some x∧AV.Le x y
 | _,_,.nil,i,y,h=>by simp at h
 | _,_,.cons h _,0,y,hy=>by simp at hy;subst hy;exact ⟨_,by simp,h⟩
 | _,_,.cons _ t,i+1,y,hy=>by simpa using t.get i y (by simpa using hy)
def refsOk (σ:List AV):Bool:=σ.all fun av=>match av.rf with
 | none=>true
 | some (s,b)=>match σ[s]? with
  | some hv=>hv.fits b
  | none=>false
theorem refsOk.spec {σ:List AV} (h:refsOk σ=true) {i:Nat} {av:AV} {s:Nat} {b:Bool} (hi:σ[i]? = some av) (hr:av.rf=some (s,b)):∃ hv:AV,σ[s]? = some hv∧hv.fits b=true:=by
 have hm:av∈σ:=List.mem_of_getElem? hi
 have:=(List.all_eq_true.1 h) av hm
 simp only [hr] at this
 split at this
 · rename_i hv hs;exact ⟨hv,hs,this⟩
 · cases this
theorem RelI.weaken {w:World} (h:RelI E τ M σ a w) {σ':List AV} (hle:LeS σ σ') (hr:refsOk σ'=true):RelI E τ M σ' a w:=by
 have hlive:∀ t,live σ' t→live σ t:=fun t ⟨i,y,hi,hy⟩=>by
  obtain ⟨x,hx,hxy⟩:=hle.get i y hi
  exact ⟨i,x,hx,hxy.tok hy⟩
 refine RelI.mk h.hd (by rw [h.hs,hle.length]) ?_ h.m0 h.mb ?_ ?_ ?_ ?_ ?_ ?_ h.size h.os h.tape h.output h.frame
 · intro i y hi
   obtain ⟨x,hx,hxy⟩:=hle.get i y hi
   exact (h.slot i x hx).le hxy
 · intro i y hi hy
   obtain ⟨x,hx,hxy⟩:=hle.get i y hi
   have:=h.hold i x hx (hxy.holder hy)
   rw [hxy.fresh hy] at this
   exact this
 · intro i j y z hi hj hy hz
   obtain ⟨x,hx,hxy⟩:=hle.get i y hi
   obtain ⟨x',hx',hxy'⟩:=hle.get j z hj
   exact h.inj i j x x' hx hx' (hxy.holder hy) (hxy'.holder hz)
 · intro i y s b hi hr'
   exact refsOk.spec hr hi hr'
 · exact fun t ht=>h.toks t (hlive t ht)
 · exact fun t t' g ht ht'=>h.tinj t t' g (hlive t ht) (hlive t' ht')
 · intro t i y ht hi hy
   obtain ⟨x,hx,hxy⟩:=hle.get i y hi
   exact h.tbox t i x (hlive t ht) hx (hxy.holder hy)
def Cell.strip (d:Nat):Cell→Cell
 | .tok d' c=>if d'=d then c.strip d else .tok d' (c.strip d)
 | c=>c
def stripL (d:Nat):List Cell→List Cell
 | []=>[]
 | c::cs=>c.strip d::stripL d cs
def AV.strip (d:Nat):AV→AV
 | .one c=>.one (c.strip d)
 | .agg cs=>.agg (stripL d cs)
 | .box cs=>.box (stripL d cs)
 | .obx cs=>.obx (stripL d cs)
 | x=>x
def stripS (d:Nat):List AV→List AV
 | []=>[]
 | x::l=>x.strip d::stripS d l
def Cell.noTok (d:Nat):Cell→Bool
 | .tok d' c=>d' != d&&c.noTok d
 | _=>true
def noTokL (d:Nat):List Cell→Bool
 | []=>true
 | c::cs=>c.noTok d&&noTokL d cs
def AV.noTok (d:Nat):AV→Bool
 | .one c=>c.noTok d
 | .agg cs | .box cs | .obx cs=>noTokL d cs
 | _=>true
def noTokS (d:Nat):List AV→Bool
 | []=>true
 | x::l=>x.noTok d&&noTokS d l
theorem Cell.noTok_spec {d:Nat}:∀{c:Cell},c.noTok d=true→¬c.hasTok d
 | .tok d' c,h=>by
  simp only [Cell.noTok,Bool.and_eq_true,bne_iff_ne] at h
  rintro (h' | h')
  · exact h.1 h'
  · exact Cell.noTok_spec h.2 h'
 | .raw _,_ | .ints _ _,_ | .sl _ _,_ | .zc,_ | .nn _,_ | .fnp _,_=>fun h=>h
theorem noTokL_spec {d:Nat}:∀{cs:List Cell},noTokL d cs=true→¬hasTokL d cs
 | [],_=>fun h=>h
 | c::cs,h=>by
  simp only [noTokL,Bool.and_eq_true] at h
  rintro (h' | h')
  · exact Cell.noTok_spec h.1 h'
  · exact noTokL_spec h.2 h'
theorem AV.noTok_spec {d:Nat} {x:AV} (h:x.noTok d=true):¬x.hasTok d:=by
 cases x with
 | one c=>exact Cell.noTok_spec h
 | agg cs=>exact noTokL_spec h
 | box cs=>exact noTokL_spec h
 | obx cs=>exact noTokL_spec h
 | _=>exact fun h=>h
theorem noTokS_spec {d:Nat}:∀{σ:List AV},noTokS d σ=true→¬live σ d
 | [],_=>fun ⟨i,x,hi,hx⟩=>by simp at hi
 | y::l,h=>fun ⟨i,x,hi,hx⟩=>by
  simp only [noTokS,Bool.and_eq_true] at h
  cases i with
  | zero=>simp at hi;subst hi;exact AV.noTok_spec h.1 hx
  | succ i=>exact noTokS_spec h.2 ⟨i,x,by simpa using hi,hx⟩
theorem Cell.noTok_strip (d:Nat):∀ c:Cell,(c.strip d).noTok d=true
 | .tok d' c=>by
  unfold Cell.strip
  split
  · exact Cell.noTok_strip d c
  · rename_i hne
    simp [Cell.noTok,Cell.noTok_strip d c,hne]
 | .raw _ | .ints _ _ | .sl _ _ | .zc | .nn _ | .fnp _=>rfl
theorem noTokL_strip (d:Nat):∀ cs:List Cell,noTokL d (stripL d cs)=true
 | []=>rfl
 | c::cs=>by simp [noTokL,stripL,Cell.noTok_strip,noTokL_strip d cs]
theorem AV.noTok_strip (d:Nat) (x:AV):(x.strip d).noTok d=true:=by
 cases x with
 | one c=>exact Cell.noTok_strip d c
 | agg cs=>exact noTokL_strip d cs
 | box cs=>exact noTokL_strip d cs
 | obx cs=>exact noTokL_strip d cs
 | _=>rfl
theorem Cell.strip_esz (d:Nat):∀ c:Cell,(c.strip d).esz=c.esz
 | .tok d' c=>by
  unfold Cell.strip
  split
  · rw [Cell.strip_esz d c];rfl
  · simp [Cell.esz,Cell.strip_esz d c]
 | .raw _ | .ints _ _ | .sl _ _ | .zc | .nn _ | .fnp _=>rfl
theorem Cell.Le.strip (d:Nat):∀ c:Cell,Cell.Le c (c.strip d)
 | .tok d' c=>by
  unfold Cell.strip
  split
  · exact .trans (.untok d' c) (Cell.Le.strip d c)
  · exact .inTok d' (Cell.Le.strip d c) (Cell.strip_esz d c).symm
 | .raw _ | .ints _ _ | .sl _ _ | .zc | .nn _ | .fnp _=>.refl _
theorem LeL.strip (d:Nat):∀ cs:List Cell,LeL cs (stripL d cs)
 | []=>.nil
 | c::cs=>.cons (Cell.Le.strip d c) (LeL.strip d cs)
theorem AV.Le.strip (d:Nat) (x:AV):AV.Le x (x.strip d):=by
 cases x with
 | one c=>exact .one (Cell.Le.strip d c)
 | agg cs=>exact .agg (LeL.strip d cs)
 | box cs=>exact .box (LeL.strip d cs)
 | obx cs=>exact .obx (LeL.strip d cs)
 | _=>exact .refl _
theorem LeS.strip (d:Nat):∀ σ:List AV,LeS σ (stripS d σ)
 | []=>.nil
 | x::l=>.cons (AV.Le.strip d x) (LeS.strip d l)
theorem stripS_get (d:Nat):∀(σ:List AV) (i:Nat),(stripS d σ)[i]? = (σ[i]?).map (AV.strip d)
 | [],i=>by simp [stripS]
 | x::l,0=>by simp [stripS]
 | x::l,i+1=>by simpa [stripS] using stripS_get d l i
theorem AV.strip_rf (d:Nat) (x:AV):(x.strip d).rf=x.rf:=by cases x<;>rfl
theorem AV.strip_fits (d:Nat) (x:AV) (b:Bool):(x.strip d).fits b=x.fits b:=by cases x<;>cases b<;>rfl
theorem AV.strip_fresh (d:Nat) (x:AV):(x.strip d).fresh=x.fresh:=by cases x<;>rfl
theorem AV.strip_holder (d:Nat) (x:AV):(x.strip d).holder=x.holder:=by cases x<;>rfl
theorem RelI.strip {w:World} (h:RelI E τ M σ a w) (d:Nat):RelI E τ M (stripS d σ) a w:=by
 have hle:=LeS.strip d σ
 have hget:∀(i:Nat) (y:AV),(stripS d σ)[i]? = some y→∃ x,σ[i]? = some x∧y=x.strip d:=fun i y hi=>by
  rw [stripS_get] at hi
  cases hx:σ[i]? with
  | none=>rw [hx] at hi;cases hi
  | some x=>rw [hx] at hi;exact ⟨x,rfl,by simpa using hi.symm⟩
 have hlive:∀ t,live (stripS d σ) t→live σ t:=fun t ⟨i,y,hi,hy⟩=>by
  obtain ⟨x,hx,hxy⟩:=hle.get i y hi
  exact ⟨i,x,hx,hxy.tok hy⟩
 refine RelI.mk h.hd (by rw [h.hs,hle.length]) ?_ h.m0 h.mb ?_ ?_ ?_ ?_ ?_ ?_ h.size h.os h.tape h.output h.frame
 · intro i y hi
   obtain ⟨x,hx,hxy⟩:=hle.get i y hi
   exact (h.slot i x hx).le hxy
 · intro i y hi hy
   obtain ⟨x,hx,rfl⟩:=hget i y hi
   have:=h.hold i x hx (by rwa [AV.strip_holder] at hy)
   rw [AV.strip_fresh]
   exact this
 · intro i j y z hi hj hy hz
   obtain ⟨x,hx,rfl⟩:=hget i y hi
   obtain ⟨x',hx',rfl⟩:=hget j z hj
   exact h.inj i j x x' hx hx' (by rwa [AV.strip_holder] at hy) (by rwa [AV.strip_holder] at hz)
 · intro i y s b hi hr'
   obtain ⟨x,hx,rfl⟩:=hget i y hi
   rw [AV.strip_rf] at hr'
   obtain ⟨hv,h1,h2⟩:=h.refs i x s b hx hr'
   exact ⟨hv.strip d,by rw [stripS_get,h1];rfl,by rwa [AV.strip_fits]⟩
 · exact fun t ht=>h.toks t (hlive t ht)
 · exact fun t t' g ht ht'=>h.tinj t t' g (hlive t ht) (hlive t' ht')
 · intro t i y ht hi hy
   obtain ⟨x,hx,rfl⟩:=hget i y hi
   exact h.tbox t i x (hlive t ht) hx (by rwa [AV.strip_holder] at hy)
theorem RelI.retok {w:World} (h:RelI E τ M σ a w) {d:Nat} (hd:¬live σ d) (v:TV):RelI E (fun t=>if t=d then v else τ t) M σ a w:=by
 have hne:∀ t,live σ t→(if t=d then v else τ t)=τ t:=fun t ht=>if_neg (fun e=>hd (by rw [←e];exact ht))
 refine RelI.mk h.hd h.hs ?_ h.m0 h.mb h.hold h.inj h.refs ?_ ?_ ?_ h.size h.os h.tape h.output h.frame
 · exact fun i x hi=>(h.slot i x hi).keep (fun _ _ _ h1 h2=>⟨h1,h2⟩) (fun t ht=>hne t ⟨i,x,hi,ht⟩) (fun _ _ _=>rfl) (fun _=>rfl)
 · intro t ht;rw [hne t ht];exact h.toks t ht
 · intro t t' g ht ht';rw [hne t ht,hne t' ht'];exact h.tinj t t' g ht ht'
 · intro t i x ht hi hx;rw [hne t ht];exact h.tbox t i x ht hi hx
end Go.Slot

namespace Go.Slot
open Go Go.RowKit
inductive Sh where
 | int (k:IntKind)
 | bool
 | string
 | struct (fs:List (Nat×Nat×TypeId))
 | array (n e es:Nat)
 | slice (e es eb:Nat) (ik:Option IntKind)
 | map (k e:TypeId)
 | cell
 | other
structure TI where
 size:Nat
 bytes:Nat
 zc:List Cell
 sh:Sh
def zcell:Value→Cell
 | .slice none 0 0=>.zc
 | v=>.raw v
def shOf (P:Program):TypeDesc→Sh
 | .int k=>.int k
 | .bool=>.bool
 | .string=>.string
 | .struct fs=>if (fs.toList.all fun f=>P.cellsOf f.type != 0) then .struct (fs.toList.map fun f=>(f.offset,P.cellsOf f.type,f.type)) else .other
 | .array n e=>.array n e (P.cellsOf e)
 | .slice e=>match P.info? e with
  | some i=>match i.zero with
   | some z=>if i.size != 0&&z.cells.size==i.size then .slice e i.size i.bytes (match P.underlying e with | some (.int k)=>some k | _=>none) else .other
   | none=>.other
  | none=>.other
 | .map k e=>.map k e
 | .pointer _=>.cell
 | .func _ _ _=>.cell
 | .interface _=>.cell
 | .unsafePointer=>.cell
 | _=>.other
def mkTI (P:Program) (t:TypeId):Option TI:=
 match P.underlying t,P.info? t with
 | some d,some i=>match i.zero with
  | some z=>if z.cells.toList.all (·.oneCell')&&z.cells.size==i.size then some ⟨i.size,i.bytes,z.cells.toList.map zcell,shOf P d⟩ else none
  | none=>none
 | _,_=>none
structure TIok (P:Program) (t:TypeId) (ti:TI):Prop where
 ex:∃(d:TypeDesc) (i:TypeInfo) (z:Value),P.underlying t=some d∧P.info? t=some i∧i.zero=some z∧i.size=ti.size∧i.bytes=ti.bytes∧
  z.cells.size=ti.size∧(∀ v∈z.cells.toList,v.oneCell'=true)∧ti.zc=z.cells.toList.map zcell∧ti.sh=shOf P d
theorem mkTI_ok {P : Program} {t : TypeId} {ti : TI} (h : mkTI P t = some ti) : TIok P t ti := by
 unfold mkTI at h
 split at h
 · rename_i d i hd hi
   split at h
   · rename_i z hz
     split at h
     · rename_i hc
       simp only [Bool.and_eq_true,List.all_eq_true,beq_iff_eq] at hc
       cases h
       exact ⟨d,i,z,hd,hi,hz,rfl,rfl,hc.2,hc.1,rfl,rfl⟩
     · cases h
   · cases h
 · cases h
def Sh.agg:Sh→Bool
 | .struct _ | .array _ _ _=>true
 | _=>false
def Sh.plain:Sh→Bool
 | .int _ | .bool | .string | .slice _ _ _ _ | .map _ _ | .cell=>true
 | _=>false
def TI.many (ti:TI):Option Bool:=if ti.sh.agg then some true else if ti.sh.plain then some false else none
section
variable {P:Program} {w:World}
theorem run_underlying' {t:TypeId} {d:TypeDesc} (h:P.underlying t=some d):(underlying t).run P w=.ok d w:=run_underlying h w
theorem run_sizeOf' {t:TypeId} {i:TypeInfo} (h:P.info? t=some i):(sizeOf t).run P w=.ok i.size w:=by simp [sizeOf,typeInfo,h]
theorem run_zeroValue' {t:TypeId} {i:TypeInfo} {z:Value} (h:P.info? t=some i) (hz:i.zero=some z):(zeroValue t).run P w=.ok z w:=by simp [zeroValue,typeInfo,h,hz]
theorem shOf_agg {d:TypeDesc} (h:(shOf P d).agg=true):(∃ fs,d=.struct fs)∨∃ n e,d=.array n e:=by
 cases d with
 | struct fs=>exact .inl ⟨fs,rfl⟩
 | array n e=>exact .inr ⟨n,e,rfl⟩
 | slice e=>
  exfalso
  revert h
  unfold shOf
  dsimp only
  split
  · split
    · split<;>simp [Sh.agg]
    · simp [Sh.agg]
  · simp [Sh.agg]
 | _=>simp [shOf,Sh.agg] at h
theorem shOf_plain {d:TypeDesc} (h:(shOf P d).plain=true):(∀ fs,d≠.struct fs)∧∀ n e,d≠.array n e:=by
 cases d with
 | struct fs=>
  exfalso
  revert h
  unfold shOf
  dsimp only
  split<;>simp [Sh.plain]
 | array n e=>simp [shOf,Sh.plain] at h
 | _=>simp
theorem TIok.run_agg {t:TypeId} {ti:TI} (h:TIok P t ti) {b:Bool} (hb:ti.many=some b):(isAgg t).run P w=.ok b w:=by
 obtain ⟨d,i,z,hd,hi,hz,_,_,_,_,_,hsh⟩:=h.ex
 unfold TI.many at hb
 rw [hsh] at hb
 unfold isAgg
 simp only [Sem.run_bind,run_underlying' hd,Result.andThen_ok]
 split at hb
 · rename_i ha
   cases hb
   rcases shOf_agg ha with ⟨fs,rfl⟩ | ⟨n,e,rfl⟩<;>rfl
 · split at hb
   · rename_i hp
     cases hb
     have:=shOf_plain hp
     cases d<;>first | rfl | exact absurd rfl (this.1 _) | exact absurd rfl (this.2 _ _)
   · cases hb
end
def constAV:Value→AV
 | .agg vs=>if vs.toList.all (·.oneCell') then .agg (vs.toList.map .raw) else .any
 | .tuple _=>.any
 | v=>.one (.raw v)
def opd (σ:List AV):Operand→AV
 | .tmp t=>gt σ t
 | .const v=>constAV v
 | .func f=>.one (.raw (.func (.func f) #[] #[]))
 | .global _=>.any
def orr:Operand→List Nat
 | .tmp t=>[t]
 | _=>[]
def agree (rd:List Nat) (σ σ':List AV):Prop:=σ'.length=σ.length∧∀ r∈rd,gt σ' r=gt σ r
theorem agree.opd {rd:List Nat} {σ σ':List AV} (h:agree rd σ σ') {x:Operand} (hx:∀ t∈orr x,t∈rd):opd σ' x=opd σ x:=by
 cases x with
 | tmp t=>exact h.2 t (hx t (by simp [orr]))
 | _=>rfl
theorem RdL.raws {M:Nat→Nat→Prop} {w:World} {τ:Nat→TV}:∀{vs:List Value},(∀ v∈vs,v.oneCell'=true)→RdL M w τ vs (vs.map .raw)
 | [],_=>trivial
 | v::vs,h=>⟨RdC.raw (h v (by simp)),RdL.raws (fun u hu=>h u (by simp [hu]))⟩
theorem constAV_ok {M:Nat→Nat→Prop} {w:World} {τ:Nat→TV} (v:Value):RdA M w τ v (constAV v):=by
 unfold constAV
 split
 · rename_i vs
   split
   · rename_i h
     exact ⟨vs.toList,by simp,RdL.raws (fun v hv=>(List.all_eq_true.1 h) v hv)⟩
   · trivial
 · trivial
 · rename_i h1 h2
   exact RdC.raw (by cases v<;>simp_all [Value.oneCell'])
theorem RdA.slot {M:Nat→Nat→Prop} {w:World} {τ:Nat→TV} {tm:Array Value} {v:Value} {av:AV} (h:RdA M w τ v av):SlotOk M w τ tm v av:=by
 cases av<;>first | exact h | exact h.elim
section
variable {E:Env} {τ:Nat→TV} {M:Nat→Nat→Prop} {σ:List AV} {a:Act} {w:World}
theorem RelI.gt (h:RelI E τ M σ a w) (t:Nat):SlotOk M w τ a.tmps (a.tmps.getD t Go.undef) (gt σ t):=by
 unfold Slot.gt
 cases ht:σ[t]? with
 | none=>exact trivial
 | some av=>exact h.slot t av ht
theorem RelI.opd (h:RelI E τ M σ a w) (x:Operand):SlotOk M w τ a.tmps (a.eval x) (opd σ x):=by
 cases x with
 | tmp t=>exact h.gt t
 | const v=>exact (constAV_ok v).slot
 | func f=>exact RdC.raw rfl
 | global g=>exact trivial
theorem gt_some {t:Nat} {av:AV} (h:gt σ t=av) (hne:av≠.any):σ[t]? = some av:=by
 unfold gt at h
 cases ht:σ[t]? with
 | none=>rw [ht] at h;exact absurd h.symm hne
 | some x=>rw [ht] at h;simp at h;rw [h]
theorem opd_live {x:Operand} {t:Nat} (ht:(Slot.opd σ x).hasTok t):live σ t:=by
 cases x with
 | tmp s=>
  refine ⟨s,Slot.gt σ s,gt_some rfl (fun e=>?_),ht⟩
  simp only [Slot.opd] at ht
  rw [e] at ht;exact ht
 | const v=>
  simp only [Slot.opd,constAV] at ht
  split at ht
  · split at ht
    · exfalso
      rename_i vs _
      simp only [AV.hasTok] at ht
      generalize vs.toList=l at ht
      induction l with
      | nil=>exact ht
      | cons c l ih=>exact ht.elim (fun h=>h) ih
    · exact ht.elim
  · exact ht.elim
  · exact ht.elim
 | func f=>exact ht.elim
 | global g=>exact ht.elim
end
def app:List (Nat×AV)→List AV→List AV
 | [],σ=>σ
 | (s,v)::r,σ=>app r (σ.set s v)
def AStep (P:Program) (o:Oper) (σ:List AV) (rd tk:List Nat) (eff:List (Nat×AV)):Prop:=
 ∀(E:Env) (σ':List AV) (a:Act) (w:World),agree rd σ σ'→(∀ t∈tk,∀ i,(gt σ' i).hasTok t→i∈rd)→Rel E σ' a w→∀(K:Act→World→Prop) (Q:Exit→Act→World→Prop),
  (∀ a' w',Rel E (app eff σ') a' w'→K a' w')→o.wp P a w K Q
def nh (σ:List AV) (d:Nat):Bool:=match σ[d]? with
 | some av=>!av.holder
 | none=>false
theorem nh_spec {σ:List AV} {d:Nat} (h:nh σ d=true):∃ old,σ[d]? = some old∧old.holder=false:=by
 unfold nh at h
 split at h
 · rename_i av hav;exact ⟨av,hav,by simpa using h⟩
 · cases h
theorem agree.nh {rd:List Nat} {σ σ':List AV} (h:agree rd σ σ') {d:Nat} (hd:d∈rd) (hn:nh σ d=true):nh σ' d=true:=by
 obtain ⟨old,h1,h2⟩:=nh_spec hn
 have hlt:d<σ'.length:=by rw [h.1];exact (List.getElem?_eq_some_iff.1 h1).1
 have:=h.2 d hd
 unfold Slot.gt at this
 rw [h1,List.getElem?_eq_getElem hlt] at this
 simp at this
 unfold Slot.nh
 rw [List.getElem?_eq_getElem hlt]
 simp [this,h2]
theorem AStep.val {P:Program} {o:Oper} {σ:List AV} {rd:List Nat} {d:Nat} {av:AV} (hdst:o.dst=some d) (hd:d∈rd) (hn:nh σ d=true) (hav:av.holder=false)
 (hrun:∀(E:Env) (τ:Nat→TV) (M:Nat→Nat→Prop) (σ':List AV) (a:Act) (w:World),agree rd σ σ'→RelI E τ M σ' a w→
   ∃ v w',(execOp a.eval o).run P w=.ok (.value v) w'∧Below w.heap.size w w'∧SlotOk M w' τ a.tmps v av∧(∀ t,av.hasTok t→live σ' t)∧
    (∀(s:Nat) (b:Bool),av.rf=some (s,b)→∃ hv:AV,σ'[s]? = some hv∧hv.fits b=true)):AStep P o σ rd [] [(d,av)]:=by
 intro E σ' a w hag _ ⟨τ,M,h⟩ K Q hK
 obtain ⟨v,w',hr,hb,hok,htok,hrf⟩:=hrun E τ M σ' a w hag h
 obtain ⟨old,h1,h2⟩:=nh_spec (hag.nh hd hn)
 unfold Oper.wp
 rw [hr]
 show K (a.put o.dst v) w'
 rw [hdst]
 exact hK _ _ ⟨τ,M,(h.below hb).put h1 h2 v av hav hok hrf htok⟩
theorem AStep.new {P:Program} {o:Oper} {σ:List AV} {rd:List Nat} {d:Nat} {av:AV} (hdst:o.dst=some d) (hd:d∈rd) (hn:nh σ d=true) (hav:av.holder=true) (hfrs:av.fresh=true)
 (hrun:∀(E:Env) (τ:Nat→TV) (M:Nat→Nat→Prop) (σ':List AV) (a:Act) (w:World),agree rd σ σ'→RelI E τ M σ' a w→
   ∃ v ob,(execOp a.eval o).run P w=.ok (.value v) (w.alloc ob)∧blk v=w.heap.size∧SlotOk (fun b o=>M b o∨b=w.heap.size) (w.alloc ob) τ a.tmps v av∧(∀ t,av.hasTok t→live σ' t)) :
 AStep P o σ rd [] [(d,av)]:=by
 intro E σ' a w hag _ ⟨τ,M,h⟩ K Q hK
 obtain ⟨v,ob,hr,hb,hok,htok⟩:=hrun E τ M σ' a w hag h
 obtain ⟨old,h1,h2⟩:=nh_spec (hag.nh hd hn)
 unfold Oper.wp
 rw [hr]
 show K (a.put o.dst v) _
 rw [hdst]
 exact hK _ _ ⟨τ,_,h.alloc h1 h2 ob v av hav hfrs hb hok htok⟩
end Go.Slot

namespace Go.Slot
open Go Go.RowKit
variable {P:Program}
def val (σ:List AV) (o:Oper) (rd:List Nat) (av:AV):Option (List Nat×List (Nat×AV)):=
 match o.dst with
 | some d=>if nh σ d then some (d::rd,[(d,av)]) else none
 | none=>none
theorem val_spec {σ:List AV} {o:Oper} {rd:List Nat} {av:AV} {r:List Nat×List (Nat×AV)} (h:val σ o rd av=some r) :
 ∃ d,o.dst=some d∧nh σ d=true∧r=(d::rd,[(d,av)]):=by
 unfold val at h
 split at h
 · rename_i d hd
   split at h
   · rename_i hn;cases h;exact ⟨d,hd,hn,rfl⟩
   · cases h
 · cases h
theorem below_self (w:World):Below w.heap.size w w:=Below.refl _ _
def cpy (x:Operand):AV→AV
 | .box _=>match x with
  | .tmp t=>.ptr t 0
  | _=>.any
 | .obx _=>match x with
  | .tmp t=>.ptr t 0
  | _=>.any
 | .arr _ _ _=>match x with
  | .tmp t=>.asl t
  | _=>.any
 | av=>av
theorem sound_move {σ:List AV} {o:Oper} {x:Operand} (ho:o.op=.move x∨o.op=.assign x) {r:List Nat×List (Nat×AV)}
 (h:val σ o (orr x) (cpy x (opd σ x))=some r):AStep P o σ r.1 [] r.2:=by
 obtain ⟨d,hdst,hn,rfl⟩:=val_spec h
 refine AStep.val hdst (by simp) hn (by cases opd σ x<;>cases x<;>rfl) (fun E τ M σ' a w hag hI=>?_)
 have hop:opd σ' x=opd σ x:=hag.opd (fun t ht=>by simp [ht])
 have hrun:(execOp a.eval o).run P w=.ok (.value (a.eval x)) w:=by
  rcases ho with ho | ho<;>simp [execOp,ho]
 have hs:=hI.opd x
 refine ⟨a.eval x,w,hrun,below_self w,?_,?_,?_⟩
 · rw [← hop]
   cases hx:opd σ' x with
   | box cs=>
    rw [hx] at hs
    cases x with
    | tmp t=>
     obtain ⟨b,vs,T,e,_,_⟩:=hs
     show _=Value.pointer (some ⟨blk (a.eval (.tmp t)),0,none⟩)
     rw [e];rfl
    | _=>exact trivial
   | obx cs=>
    rw [hx] at hs
    cases x with
    | tmp t=>
     obtain ⟨b,vs,T,e,_,_⟩:=hs
     show _=Value.pointer (some ⟨blk (a.eval (.tmp t)),0,none⟩)
     rw [e];rfl
    | _=>exact trivial
   | arr pre c post=>
    cases x with
    | tmp t=>exact rfl
    | _=>exact trivial
   | _=>rw [hx] at hs;exact hs
 · intro t ht
   rw [←hop] at ht
   refine opd_live (x:=x) ?_
   cases hx:opd σ' x<;>rw [hx] at ht<;>first | exact ht | (cases x<;>exact ht.elim)
 · intro s b hr
   rw [←hop] at hr
   cases hx:opd σ' x<;>rw [hx] at hr
   case box cs=>
    cases x with
    | tmp t=>simp [cpy,AV.rf] at hr;obtain ⟨rfl,rfl⟩:=hr;exact ⟨_,gt_some hx (by simp),rfl⟩
    | _=>simp [cpy,AV.rf] at hr
   case obx cs=>
    cases x with
    | tmp t=>simp [cpy,AV.rf] at hr;obtain ⟨rfl,rfl⟩:=hr;exact ⟨_,gt_some hx (by simp),rfl⟩
    | _=>simp [cpy,AV.rf] at hr
   case arr pre c post=>
    cases x with
    | tmp t=>simp [cpy,AV.rf] at hr;obtain ⟨rfl,rfl⟩:=hr;exact ⟨_,gt_some hx (by simp),rfl⟩
    | _=>simp [cpy,AV.rf] at hr
   case any=>exfalso;cases x<;>simp [cpy,AV.rf] at hr
   all_goals
    cases x with
    | tmp t=>
     exact hI.refs t _ s b (gt_some hx (by simp)) hr
    | const v=>
     exfalso
     simp only [opd,constAV] at hx
     split at hx
     · split at hx<;>(cases hx;try simp [cpy,AV.rf] at hr)
     · cases hx;try simp [cpy,AV.rf] at hr
     · cases hx;try simp [cpy,AV.rf] at hr
    | func f=>simp only [opd] at hx;cases hx<;>simp [cpy,AV.rf] at hr
    | global g=>simp only [opd] at hx;cases hx<;>simp [cpy,AV.rf] at hr
theorem RdC.raw_inv {M:Nat→Nat→Prop} {w:World} {v u:Value} (h:RdC M w v (.raw u)):v=u:=by cases h;rfl
def pickA (σ:List AV) (c x y:Operand):Option AV:=
 match opd σ c with
 | .one (.raw (.bool b))=>match opd σ x,opd σ y with
  | .one (.raw (.bool p)),.one (.raw (.bool q))=>some (.one (.raw (.bool (bif b then p else q))))
  | .one (.raw u),.undef=>if b=true then some (.one (.raw u)) else none
  | .undef,.one (.raw v)=>if b=false then some (.one (.raw v)) else none
  | _,_=>none
 | _=>none
theorem sound_pick {σ:List AV} {o:Oper} {c x y:Operand} (ho:o.op=.pick c x y) {av:AV} (hp:pickA σ c x y=some av) {r:List Nat×List (Nat×AV)}
 (h:val σ o (orr c++orr x++orr y) av=some r):AStep P o σ r.1 [] r.2:=by
 obtain ⟨d,hdst,hn,rfl⟩:=val_spec h
 have hraw:∃ u,av=.one (.raw u)∧u.oneCell'=true∨av=.one (.raw u):=by
  unfold pickA at hp
  repeat' split at hp
  all_goals first | (cases hp;exact ⟨_,.inr rfl⟩) | cases hp
 have hnh:av.holder=false:=by obtain ⟨u,h | h⟩:=hraw<;>simp_all [AV.holder]
 have hrf0:av.rf=none:=by obtain ⟨u,h | h⟩:=hraw<;>simp_all [AV.rf]
 have htk:∀ t,¬av.hasTok t:=by obtain ⟨u,h | h⟩:=hraw<;>simp_all [AV.hasTok,Cell.hasTok]
 refine AStep.val hdst (by simp) hn hnh (fun E τ M σ' a w hag hI=>?_)
 have hc:opd σ' c=opd σ c:=hag.opd (fun t ht=>by simp [ht])
 have hx:opd σ' x=opd σ x:=hag.opd (fun t ht=>by simp [ht])
 have hy:opd σ' y=opd σ y:=hag.opd (fun t ht=>by simp [ht])
 have sc:=hI.opd c
 have sx:=hI.opd x
 have sy:=hI.opd y
 rw [hc] at sc;rw [hx] at sx;rw [hy] at sy
 have key:∃ b:Bool,a.eval c=.bool b∧SlotOk M w τ a.tmps (if b then a.eval x else a.eval y) av:=by
  unfold pickA at hp
  split at hp
  · rename_i b hcb
    rw [hcb] at sc
    have hbv:a.eval c=.bool b:=RdC.raw_inv sc
    refine ⟨b,hbv,?_⟩
    split at hp
    · rename_i p q hxp hyq
      rw [hxp] at sx;rw [hyq] at sy
      cases hp
      have e1:a.eval x=.bool p:=RdC.raw_inv sx
      have e2:a.eval y=.bool q:=RdC.raw_inv sy
      rw [e1,e2]
      cases b<;>exact RdC.raw rfl
    · rename_i u hxu hyu
      rw [hxu] at sx
      split at hp
      · rename_i hb;cases hp;simp only [hb,if_true];exact sx
      · cases hp
    · rename_i v hxu hyu
      rw [hyu] at sy
      split at hp
      · rename_i hb;cases hp;simp only [hb];exact sy
      · cases hp
    · cases hp
  · cases hp
 obtain ⟨b,hb,hs⟩:=key
 refine ⟨if b then a.eval x else a.eval y,w,?_,below_self w,hs,fun t ht=>absurd ht (htk t),fun s b' hr=>by rw [hrf0] at hr;cases hr⟩
 simp [execOp,ho,hb,asBool]
theorem zcell_ok {M:Nat→Nat→Prop} {w:World} {v:Value} (h:v.oneCell'=true):RdC M w v (zcell v):=by
 unfold zcell
 split
 · exact RdC.zc
 · exact RdC.raw h
theorem zcells_ok {M:Nat→Nat→Prop} {w:World} {τ:Nat→TV}:∀{l:List Value},(∀ v∈l,v.oneCell'=true)→RdL M w τ l (l.map zcell)
 | [],_=>trivial
 | v::l,h=>⟨RdT.of (zcell_ok (h v (by simp))),zcells_ok (fun u hu=>h u (by simp [hu]))⟩
theorem zcells_noTok {t:Nat}:∀ l:List Value,¬hasTokL t (l.map zcell)
 | []=>fun h=>h
 | v::l=>fun h=>h.elim (fun h=>by unfold zcell at h;split at h<;>exact h) (zcells_noTok l)
theorem heap_new (w:World) (o:Obj):(w.alloc o).heap[w.heap.size]? = some o:=heap_alloc_new w o
theorem sound_alloc {σ:List AV} {o:Oper} {T:TypeId} (ho:o.op=.alloc T) {ti:TI} (hti:mkTI P T=some ti) {r:List Nat×List (Nat×AV)}
 (h:val σ o [] (.box ti.zc)=some r):AStep P o σ r.1 [] r.2:=by
 obtain ⟨d,hdst,hn,rfl⟩:=val_spec h
 refine AStep.new hdst (by simp) hn rfl rfl (fun E τ M σ' a w hag hI=>?_)
 obtain ⟨ds,i,z,hd,hi,hz,hsz,hby,hzs,hone,hzc,hsh⟩:=(mkTI_ok hti).ex
 refine ⟨.pointer (some ⟨w.heap.size,0,none⟩),.cells z.cells T,?_,rfl,⟨w.heap.size,z.cells.toList,T,rfl,by rw [Array.toArray_toList];exact heap_new w _,?_⟩,?_⟩
 · simp [execOp,ho,Instr.alloc,run_zeroValue' hi hz,newVar,newRow]
 · rw [hzc];exact zcells_ok hone
 · intro t ht
   rw [hzc] at ht
   exact absurd ht (zcells_noTok _)
def cellsOfAV:AV→Option (List Cell)
 | .one c=>some [c]
 | .agg cs=>some cs
 | _=>none
theorem cellsOf_ok {M:Nat→Nat→Prop} {w:World} {τ:Nat→TV} {tm:Array Value} {v:Value} {av:AV} {cs:List Cell} (hc:cellsOfAV av=some cs) (h:SlotOk M w τ tm v av) :
 RdL M w τ v.cells.toList cs:=by
 cases av with
 | one c=>
  cases hc
  have h1:v.cells=#[v]:=by
   have:=RdT.one h
   cases v<;>first | rfl | cases this
  rw [h1]
  exact ⟨h,trivial⟩
 | agg cs'=>
  cases hc
  obtain ⟨vs,rfl,h⟩:=h
  simpa [Value.cells] using h
 | _=>cases hc
theorem cellsOf_tok {av:AV} {cs:List Cell} (hc:cellsOfAV av=some cs) {t:Nat} (h:hasTokL t cs):av.hasTok t:=by
 cases av with
 | one c=>cases hc;exact h.elim id (fun h=>h.elim)
 | agg cs'=>cases hc;exact h
 | _=>cases hc
theorem sound_box {σ:List AV} {o:Oper} {T:TypeId} {x:Operand} (ho:o.op=.box T x) {cs:List Cell} (hcs:cellsOfAV (opd σ x)=some cs) {r:List Nat×List (Nat×AV)}
 (h:val σ o (orr x) (.box cs)=some r):AStep P o σ r.1 [] r.2:=by
 obtain ⟨d,hdst,hn,rfl⟩:=val_spec h
 refine AStep.new hdst (by simp) hn rfl rfl (fun E τ M σ' a w hag hI=>?_)
 have hop:opd σ' x=opd σ x:=hag.opd (fun t ht=>by simp [ht])
 have hs:=hI.opd x
 rw [hop] at hs
 have hr:=cellsOf_ok hcs hs
 refine ⟨.pointer (some ⟨w.heap.size,0,none⟩),.cells (a.eval x).cells T,?_,rfl,⟨w.heap.size,(a.eval x).cells.toList,T,rfl,by rw [Array.toArray_toList];exact heap_new w _,hr.keep (Keeps.alloc w _) (fun _ _=>rfl)⟩,?_⟩
 · simp [execOp,ho,Instr.box,newVar,newRow]
 · intro t ht
   have:=cellsOf_tok hcs ht
   rw [←hop] at this
   exact opd_live this
def AV.boxOf:AV→Option (List Cell)
 | .box cs=>some cs
 | .obx cs=>some cs
 | _=>none
def AV.reBox:AV→List Cell→AV
 | .obx _,cs=>.obx cs
 | _,cs=>.box cs
theorem boxOf_ok {M:Nat→Nat→Prop} {w:World} {τ:Nat→TV} {tm:Array Value} {v:Value} {av:AV} {cs:List Cell} (h:SlotOk M w τ tm v av) (hb:av.boxOf=some cs) :
 ∃(b:Nat) (vs:List Value) (T:TypeId),v=.pointer (some ⟨b,0,none⟩)∧w.heap[b]? = some (.cells vs.toArray T (0,0))∧RdL M w τ vs cs:=by
 cases av with
 | box cs'=>cases hb;exact h
 | obx cs'=>cases hb;exact h
 | _=>cases hb
theorem boxOf_holder {av:AV} {cs:List Cell} (hb:av.boxOf=some cs):av.holder=true∧av.fits true=true∧av≠.any:=by
 cases av<;>first | (cases hb;exact ⟨rfl,rfl,by simp⟩) | cases hb
theorem boxOf_tok {av:AV} {cs:List Cell} (hb:av.boxOf=some cs) (t:Nat):av.hasTok t↔hasTokL t cs:=by
 cases av<;>first | (cases hb;exact Iff.rfl) | cases hb
def Cell.at (c:Cell) (i f:Nat):Option (List Cell):=match c with
 | .ints k l=>if i<l.length∧f=0 then some [.raw (.int k (l.getD i 0))] else none
 | .sl _ rows=>if i<rows.length then some ((rows.getD i []).drop f) else none
 | _=>none
def Cell.upd (c:Cell) (i f:Nat) (us:List Cell):Option Cell:=match c with
 | .ints k l=>match us with
  | [.raw (.int k' n)]=>if k=k'∧i<l.length∧f=0 then some (.ints k (l.set i n)) else none
  | _=>none
 | .sl m rows=>if i<rows.length∧f+us.length≤m then some (.sl m (rows.set i ((rows.getD i []).take f++us++(rows.getD i []).drop (f+us.length)))) else none
 | _=>none
theorem flatten_drop {α:Type} {m:Nat}:∀(rows:List (List α)) (i:Nat),(∀ r∈rows,r.length=m)→rows.flatten.drop (i*m)=(rows.drop i).flatten
 | rows,0,_=>by simp
 | [],i+1,_=>by simp
 | r::rows,i+1,h=>by
  have hr:=h r (by simp)
  rw [List.flatten_cons,List.drop_succ_cons,←flatten_drop rows i (fun r hr=>h r (by simp [hr])),Nat.succ_mul,Nat.add_comm,←List.drop_drop,←hr,List.drop_left]
theorem flatten_take {α:Type} {m:Nat}:∀(rows:List (List α)) (i:Nat),(∀ r∈rows,r.length=m)→rows.flatten.take (i*m)=(rows.take i).flatten
 | rows,0,_=>by simp
 | [],i+1,_=>by simp
 | r::rows,i+1,h=>by
  have hr:=h r (by simp)
  rw [List.flatten_cons,List.take_succ_cons,List.flatten_cons,←flatten_take rows i (fun r hr=>h r (by simp [hr])),Nat.succ_mul,Nat.add_comm,←hr,List.take_length_add_append]
theorem flatten_len {α:Type} {m:Nat}:∀(rows:List (List α)),(∀ r∈rows,r.length=m)→rows.flatten.length=rows.length*m
 | [],_=>by simp
 | r::rows,h=>by
  rw [List.flatten_cons,List.length_append,flatten_len rows (fun r hr=>h r (by simp [hr])),h r (by simp),List.length_cons,Nat.succ_mul];omega
theorem Cell.flat_len {c:Cell} (h:c.uni):c.flat.length=c.cnt*c.esz:=by
 cases c with
 | ints k l=>simp [Cell.flat,Cell.cnt,Cell.esz]
 | sl n rows=>exact flatten_len rows h
 | _=>exact h.elim
theorem Cell.at_ok {c:Cell} (hu:c.uni) {i f:Nat} {cs:List Cell} (h:c.at i f=some cs):i<c.cnt∧∃ r,c.flat.drop (i*c.esz+f)=cs++r:=by
 cases c with
 | ints k l=>
  simp only [Cell.at] at h
  split at h
  · rename_i hc
    obtain ⟨hi,rfl⟩:=hc
    cases h
    refine ⟨hi,(l.drop (i+1)).map fun n=>.raw (.int k n),?_⟩
    simp only [Cell.flat,Cell.esz,Nat.mul_one,Nat.add_zero]
    rw [List.drop_eq_getElem_cons (by simpa using hi)]
    simp [hi]
  · cases h
 | sl m rows=>
  simp only [Cell.at] at h
  split at h
  · rename_i hi
    cases h
    refine ⟨hi,((rows.drop (i+1)).flatten.drop (f-m)),?_⟩
    have hu:∀ r∈rows,r.length=m:=hu
    simp only [Cell.flat,Cell.esz]
    rw [←List.drop_drop,flatten_drop rows i hu,List.drop_eq_getElem_cons hi,List.flatten_cons,List.drop_append,hu _ (List.getElem_mem hi)]
    simp [hi]
  · cases h
 | _=>cases h
theorem Cell.upd_ok {c c' : Cell} (hu : c.uni) {i f : Nat} {us : List Cell} (h : c.upd i f us = some c') :
 c'.uni∧c'.cnt=c.cnt∧c'.esz=c.esz∧i*c.esz+f+us.length≤c.flat.length∧c'.flat=c.flat.take (i*c.esz+f)++us++c.flat.drop (i*c.esz+f+us.length):=by
 cases c with
 | ints k l=>
  simp only [Cell.upd] at h
  split at h
  · split at h
    · rename_i hc
      obtain ⟨rfl,hi,rfl⟩:=hc
      cases h
      refine ⟨trivial,by simp [Cell.cnt],rfl,by simp [Cell.esz,Cell.flat];omega,?_⟩
      simp only [Cell.flat,Cell.esz,Nat.mul_one,Nat.add_zero,←List.map_drop,←List.map_take,List.length_cons,List.length_nil]
      rw [List.set_eq_take_append_cons_drop,if_pos hi]
      simp
    · cases h
  · cases h
 | sl m rows=>
  simp only [Cell.upd] at h
  split at h
  · rename_i hc
    obtain ⟨hi,hf⟩:=hc
    cases h
    have hu:∀ r∈rows,r.length=m:=hu
    have hrl:=hu _ (List.getElem_mem hi)
    have hge:rows.getD i []=rows[i]:=by simp [hi]
    rw [hge]
    have hnew:(rows[i].take f++us++rows[i].drop (f+us.length)).length=m:=by simp [hrl];omega
    refine ⟨fun r hr=>?_,by simp [Cell.cnt],rfl,?_,?_⟩
    · rcases List.mem_or_eq_of_mem_set hr with h | h
      · exact hu r h
      · rw [h];exact hnew
    · simp only [Cell.esz,Cell.flat]
      rw [flatten_len rows hu]
      have:(i+1)*m≤rows.length*m:=Nat.mul_le_mul_right _ hi
      rw [Nat.succ_mul] at this
      omega
    · simp only [Cell.esz,Cell.flat]
      rw [List.set_eq_take_append_cons_drop,if_pos hi,List.flatten_append,List.flatten_cons]
      have e1:rows.flatten.take (i*m+f)=(rows.take i).flatten++rows[i].take f:=by
       rw [List.take_add,flatten_take rows i hu,flatten_drop rows i hu,List.drop_eq_getElem_cons hi,List.flatten_cons,List.take_append_of_le_length (by rw [hrl];omega)]
      have e2:rows.flatten.drop (i*m+f+us.length)=rows[i].drop (f+us.length)++(rows.drop (i+1)).flatten:=by
       rw [Nat.add_assoc,←List.drop_drop,flatten_drop rows i hu,List.drop_eq_getElem_cons hi,List.flatten_cons,List.drop_append_of_le_length (by rw [hrl];omega)]
      rw [e1,e2]
      simp
  · cases h
 | _=>cases h
def loadC (ti:TI) (cs:List Cell):Option AV:=
 match ti.many with
 | some true=>if ti.size≤cs.length then some (.agg (cs.take ti.size)) else none
 | some false=>match cs with
  | c::_=>some (.one c)
  | []=>none
 | none=>none
def loadA (σ:List AV) (ti:TI) (x:Operand):Option (List Nat×AV):=
 match opd σ x with
 | .box cs=>(loadC ti cs).map fun v=>(orr x,v)
 | .obx cs=>(loadC ti cs).map fun v=>(orr x,v)
 | .ptr s off=>match (gt σ s).boxOf with
  | some cs=>(loadC ti (cs.drop off)).map fun v=>(s::orr x,v)
  | none=>none
 | .elt cs=>(loadC ti cs).map fun v=>(orr x,v)
 | .pel s m i f=>match gt σ s with
  | .arr _ c _=>if c.esz=m then match c.at i f with
   | some cs=>(loadC ti cs).map fun v=>(s::orr x,v)
   | none=>none
   else none
  | _=>none
 | _=>none
theorem run_loadVar_at {T:TypeId} {ti:TI} (hti:TIok P T ti) {w:World} {b off:Nat} {vs:List Value} {M:Nat→Nat→Prop} {τ:Nat→TV} {cs:List Cell} {av:AV}
 (hc:∀ j u,vs[j]? = some u→w.cell? ⟨b,off+j,none⟩=some u) (hr:RdL M w τ vs cs) (hl:loadC ti cs=some av) :
 ∃ v,(loadVar T ⟨b,off,none⟩).run P w=.ok v w∧RdA M w τ v av:=by
 unfold loadC at hl
 have hadd:∀ j,(⟨b,off,none⟩:Addr).add j=⟨b,off+j,none⟩:=fun j=>by unfold Addr.add;split<;>simp_all
 split at hl
 · rename_i hm
   split at hl
   · rename_i hle
     cases hl
     obtain ⟨d,i,z,hd,hi,hz,hsz,hby,hzs,hone,hzc,hsh⟩:=hti.ex
     have hlen:=hr.length
     refine ⟨.agg (vs.take ti.size).toArray,?_,⟨vs.take ti.size,rfl,hr.take _⟩⟩
     have hld:=run_loadCells_list (P:=P) w ⟨b,off,none⟩ (vs.take ti.size) (fun j u hj=>by
      rw [hadd]
      refine hc j u ?_
      rw [List.getElem?_take] at hj
      split at hj
      · exact hj
      · cases hj)
     have hlt:(vs.take ti.size).length=ti.size:=by rw [List.length_take];omega
     rw [hlt] at hld
     unfold loadVar
     simp only [Sem.run_bind,hti.run_agg hm,Result.andThen_ok,if_true,run_sizeOf' hi,hsz,hld,Sem.run_pure]
   · cases hl
 · rename_i hm
   split at hl
   · rename_i c cs'
     cases hl
     cases vs with
     | nil=>exact hr.elim
     | cons v vs=>
      refine ⟨v,?_,hr.1⟩
      have:=hc 0 v rfl
      unfold loadVar
      simp only [Sem.run_bind,hti.run_agg hm,Result.andThen_ok,Bool.false_eq_true,if_false]
      simp only [Nat.add_zero] at this
      simp [load,Sem.run,this]
   · cases hl
 · cases hl
theorem loadC_noHold {ti:TI} {cs:List Cell} {av:AV} (h:loadC ti cs=some av):av.holder=false∧av.rf=none:=by
 unfold loadC at h
 repeat' split at h
 all_goals first | (cases h;exact ⟨rfl,rfl⟩) | cases h
theorem hasTokL_take {t:Nat}:∀{n:Nat} {cs:List Cell},hasTokL t (cs.take n)→hasTokL t cs
 | 0,cs,h=>by simp [hasTokL] at h
 | n+1,[],h=>h
 | n+1,c::cs,h=>h.imp id hasTokL_take
theorem hasTokL_drop {t:Nat}:∀{n:Nat} {cs:List Cell},hasTokL t (cs.drop n)→hasTokL t cs
 | 0,cs,h=>by simpa using h
 | n+1,[],h=>h
 | n+1,c::cs,h=>.inr (hasTokL_drop (by simpa using h))
theorem hasTokL_append {t:Nat}:∀{cs ds:List Cell},hasTokL t (cs++ds)→hasTokL t cs∨hasTokL t ds
 | [],_,h=>.inr h
 | c::cs,ds,h=>by
  rcases h with h | h
  · exact .inl (.inl h)
  · exact (hasTokL_append h).imp .inr id
theorem loadC_tok {ti:TI} {cs:List Cell} {av:AV} (h:loadC ti cs=some av) {t:Nat} (ht:av.hasTok t):hasTokL t cs:=by
 unfold loadC at h
 repeat' split at h
 all_goals first | (cases h;first | exact hasTokL_take ht | exact .inl ht) | cases h
theorem box_cells {w:World} {b:Nat} {vs:List Value} {T:TypeId} (h:w.heap[b]? = some (.cells vs.toArray T (0,0))) (off:Nat) :
 ∀ j u,(vs.drop off)[j]? = some u→w.cell? ⟨b,off+j,none⟩=some u:=fun j u hj=>by
 rw [List.getElem?_drop] at hj
 simp [World.cell?,h,hj]
theorem RdD.noTokRd {M:Nat→Nat→Prop} {w:World} {τ:Nat→TV}:∀{vs:List Value} {cs:List Cell},RdD M w vs cs→RdL M w τ vs cs
 | [],[],_=>trivial
 | _::_,_::_,h=>⟨RdT.of h.1,h.2.noTokRd⟩
theorem RdD.noTok {M:Nat→Nat→Prop} {w:World} {t:Nat}:∀{vs:List Value} {cs:List Cell},RdD M w vs cs→¬hasTokL t cs
 | [],[],_=>fun h=>h
 | _::_,c::_,h=>fun ht=>ht.elim (fun h'=>by cases c<;>first | exact h'.elim | exact h.1.notTok) h.2.noTok
theorem sound_load {σ:List AV} {o:Oper} {T:TypeId} {x:Operand} (ho:o.op=.load T x) {ti:TI} (hti:mkTI P T=some ti) {rd:List Nat} {av:AV} (hl:loadA σ ti x=some (rd,av))
 {r:List Nat×List (Nat×AV)} (h:val σ o rd av=some r):AStep P o σ r.1 [] r.2:=by
 obtain ⟨d,hdst,hn,rfl⟩:=val_spec h
 have hok:=mkTI_ok hti
 have hprops:av.holder=false∧av.rf=none∧∀ t∈orr x,t∈rd:=by
  unfold loadA at hl
  repeat' split at hl
  all_goals first
   | (simp only [Option.map_eq_some_iff,Prod.mk.injEq] at hl
      obtain ⟨_,h1,rfl,rfl⟩:=hl
      exact ⟨(loadC_noHold h1).1,(loadC_noHold h1).2,fun t ht=>by simp [ht]⟩)
   | cases hl
 refine AStep.val hdst (by simp) hn hprops.1 (fun E τ M σ' a w hag hI=>?_)
 have hop:opd σ' x=opd σ x:=hag.opd (fun t ht=>by simp [hprops.2.2 t ht])
 have hs:=hI.opd x
 rw [hop] at hs
 suffices hkey:∃(ad:Addr) (v:Value),a.eval x=.pointer (some ad)∧(loadVar T ad).run P w=.ok v w∧SlotOk M w τ a.tmps v av∧∀ t,av.hasTok t→live σ' t by
  obtain ⟨ad,v,he,hrun,hsl,htk⟩:=hkey
  refine ⟨v,w,?_,below_self w,hsl,htk,fun s b' hr=>by rw [hprops.2.1] at hr;cases hr⟩
  simp [execOp,ho,Instr.loadAt,he,Instr.sureAddr,hrun]
 unfold loadA at hl
 split at hl
 · rename_i cs hx
   simp only [Option.map_eq_some_iff,Prod.mk.injEq] at hl
   obtain ⟨_,h1,rfl,rfl⟩:=hl
   rw [hx] at hs
   obtain ⟨b,vs,T',e,hb,hr⟩:=hs
   obtain ⟨v,hrun,hrd⟩:=run_loadVar_at hok (b:=b) (off:=0) (vs:=vs) (fun j u hj=>by simpa using box_cells hb 0 j u (by simpa using hj)) hr h1
   exact ⟨_,v,e,hrun,hrd.slot,fun t ht=>opd_live (x:=x) (by rw [hop,hx];exact loadC_tok h1 ht)⟩
 · rename_i cs hx
   simp only [Option.map_eq_some_iff,Prod.mk.injEq] at hl
   obtain ⟨_,h1,rfl,rfl⟩:=hl
   rw [hx] at hs
   obtain ⟨b,vs,T',e,hb,hr⟩:=hs
   obtain ⟨v,hrun,hrd⟩:=run_loadVar_at hok (b:=b) (off:=0) (vs:=vs) (fun j u hj=>by simpa using box_cells hb 0 j u (by simpa using hj)) hr h1
   exact ⟨_,v,e,hrun,hrd.slot,fun t ht=>opd_live (x:=x) (by rw [hop,hx];exact loadC_tok h1 ht)⟩
 · rename_i s off hx
   split at hl
   · rename_i cs hg
     simp only [Option.map_eq_some_iff,Prod.mk.injEq] at hl
     obtain ⟨_,h1,rfl,rfl⟩:=hl
     rw [hx] at hs
     have hg':(gt σ' s).boxOf=some cs:=by rw [hag.2 s (by simp)];exact hg
     obtain ⟨b,vs,T',e,hb,hr⟩:=boxOf_ok (hI.gt s) hg'
     have hs:a.eval x=.pointer (some ⟨blk (a.tmps.getD s Go.undef),off,none⟩):=hs
     rw [e] at hs
     obtain ⟨v,hrun,hrd⟩:=run_loadVar_at hok (b:=b) (off:=off) (vs:=vs.drop off) (fun j u hj=>box_cells hb off j u hj) (hr.drop off) h1
     exact ⟨_,v,hs,hrun,hrd.slot,fun t ht=>⟨s,_,gt_some rfl (boxOf_holder hg').2.2,(boxOf_tok hg' t).2 (hasTokL_drop (loadC_tok h1 ht))⟩⟩
   · cases hl
 · rename_i cs hx
   simp only [Option.map_eq_some_iff,Prod.mk.injEq] at hl
   obtain ⟨_,h1,rfl,rfl⟩:=hl
   rw [hx] at hs
   obtain ⟨b,off,vs,e,hcl,hr⟩:=hs
   obtain ⟨v,hrun,hrd⟩:=run_loadVar_at hok (τ:=τ) (b:=b) (off:=off) (vs:=vs) (fun j u hj=>(hcl j u hj).2) hr.noTokRd h1
   exact ⟨_,v,e,hrun,hrd.slot,fun t ht=>absurd (loadC_tok h1 ht) hr.noTok⟩
 · rename_i s m i f hx
   split at hl
   · rename_i pre c post hg
     split at hl
     · rename_i hm
       split at hl
       · rename_i cs hat
         simp only [Option.map_eq_some_iff,Prod.mk.injEq] at hl
         obtain ⟨_,h1,rfl,rfl⟩:=hl
         rw [hx] at hs
         have hg':gt σ' s=.arr pre c post:=by rw [hag.2 s (by simp)];exact hg
         have hss:=hI.gt s
         rw [hg'] at hss
         obtain ⟨b,T',vs,q,cap,e,hb,hrd,_,hu,_⟩:=hss
         have hs:a.eval x=.pointer (some ⟨blk (a.tmps.getD s Go.undef),offV (a.tmps.getD s Go.undef)+i*m+f,none⟩):=hs
         rw [e] at hs
         obtain ⟨hi,r,hdrop⟩:=Cell.at_ok hu hat
         subst hm
         have hfull:RdD M w (vs.drop (i*c.esz+f)) (cs++r):=hdrop▸hrd.drop _
         have hrd':RdD M w ((vs.drop (i*c.esz+f)).take cs.length) cs:=by
          have:=hfull.take cs.length
          rwa [List.take_left] at this
         obtain ⟨v,hrun,hrdv⟩:=run_loadVar_at hok (τ:=τ) (b:=b) (off:=pre.length+i*c.esz+f) (vs:=(vs.drop (i*c.esz+f)).take cs.length) (fun j u hj=>by
          rw [List.getElem?_take] at hj
          split at hj
          · rw [List.getElem?_drop] at hj
            have hlt:i*c.esz+f+j<vs.length:=(List.getElem?_eq_some_iff.1 hj).1
            simp only [World.cell?,hb]
            simp only [List.getElem?_toArray]
            rw [List.getElem?_append_right (by omega),List.getElem?_append_left (by omega)]
            rw [show pre.length+i*c.esz+f+j-pre.length=i*c.esz+f+j by omega]
            exact hj
          · cases hj) hrd'.noTokRd h1
         exact ⟨_,v,hs,hrun,hrdv.slot,fun t ht=>absurd (loadC_tok h1 ht) hrd'.noTok⟩
       · cases hl
     · cases hl
   · cases hl
 · cases hl
theorem RdD.get {M:Nat→Nat→Prop} {w:World}:∀{vs:List Value} {cs:List Cell},RdD M w vs cs→∀(j:Nat) (c:Cell),cs[j]? = some c→∃ v,vs[j]? = some v∧RdC M w v c
 | [],[],_,j,c,hc=>by simp at hc
 | v::vs,c'::cs,h,0,c,hc=>by simp at hc;subst hc;exact ⟨v,by simp,h.1⟩
 | v::vs,c'::cs,h,j+1,c,hc=>by simpa using h.2.get j c (by simpa using hc)
theorem flatten_get {α:Type} {m:Nat}:∀(rows:List (List α)) (i j:Nat),(∀ r∈rows,r.length=m)→i<rows.length→j<m→rows.flatten[i*m+j]? = (rows.getD i [])[j]?
 | rows,i,j,h,hi,hj=>by
  have hri:=h _ (List.getElem_mem hi)
  rw [←List.getElem?_drop,flatten_drop rows i h,List.drop_eq_getElem_cons hi,List.flatten_cons,List.getElem?_append_left (by omega)]
  simp [hi]
theorem arr_read {M:Nat→Nat→Prop} {w:World} {b cap:Nat} {pre vs q:List Value} {T:TypeId} {c:Cell} (hb:w.heap[b]? = some (.cells (pre++(vs++q)).toArray T (0,0))) (hr:RdD M w vs c.flat) (hu:c.uni)
 (hcap:c.cnt≤cap) (hM:∀ o,¬M b o):RdC M w (.slice (some ⟨b,pre.length,none⟩) c.cnt cap) c:=by
 have hcell:∀ i u,vs[i]? = some u→w.cell? ⟨b,pre.length+i,none⟩=some u:=fun i u hi=>by
  have hlt:i<vs.length:=(List.getElem?_eq_some_iff.1 hi).1
  simp only [World.cell?,hb]
  simp only [List.getElem?_toArray]
  rw [List.getElem?_append_right (by omega),List.getElem?_append_left (by omega)]
  rw [show pre.length+i-pre.length=i by omega]
  exact hi
 cases c with
 | ints k l=>
  refine .ints b pre.length rfl hcap (fun _=>rfl) (fun i hi=>⟨hM _,?_⟩)
  obtain ⟨v,hv,hrv⟩:=hr.get i (.raw (.int k l[i])) (by simp [Cell.flat,hi])
  rw [RdC.raw_inv hrv] at hv
  exact hcell i _ hv
 | sl n rows=>
  have hu:∀ r∈rows,r.length=n:=hu
  have key:∀ i (hi:i<rows.length) j,j<n→∃ v,vs[i*n+j]? = some v∧∀ hj':j<rows[i].length,RdC M w v (rows[i][j]'hj'):=fun i hi j hj=>by
   have hlen:=hu _ (List.getElem_mem hi)
   obtain ⟨v,hv,hrv⟩:=hr.get (i*n+j) (rows[i][j]'(by omega)) (by
    simp only [Cell.flat]
    rw [flatten_get rows i j hu hi hj]
    have:rows.getD i []=rows[i]:=by simp [hi]
    rw [this]
    simp [hlen,hj])
   exact ⟨v,hv,fun _=>hrv⟩
  refine .sl b pre.length (fun i j=>(vs[i*n+j]?).getD Go.undef) rfl hcap (fun _=>rfl) hu (fun i hi j hj=>⟨hM _,?_⟩) (fun i hi j hj=>?_)
  · obtain ⟨v,hv,_⟩:=key i hi j hj
    have:=hcell (i*n+j) v hv
    rw [hv,Nat.add_assoc]
    exact this
  · have hlen:=hu _ (List.getElem_mem hi)
    obtain ⟨v,hv,hrv⟩:=key i hi j (by omega)
    rw [hv]
    exact hrv hj
 | _=>exact hu.elim
def Cell.sub (c:Cell) (lo n:Nat):Cell:=match c with
 | .ints k l=>.ints k ((l.drop lo).take n)
 | .sl m rows=>.sl m ((rows.drop lo).take n)
 | c=>c
theorem RdC.sub {M:Nat→Nat→Prop} {w:World} {b off len cap:Nat} {c:Cell} (hr:RdC M w (.slice (some ⟨b,off,none⟩) len cap) c) (hu:c.uni) {lo n cap':Nat} {ad:Option Addr} (hfit:lo+n≤c.cnt)
 (had:cap'≠0→ad=some ⟨b,off+lo*c.esz,none⟩) (hn:n≤cap'):RdC M w (.slice ad n cap') (c.sub lo n):=by
 cases hr with
 | raw h=>exact hu.elim
 | zc=>exact hu.elim
 | nn=>exact hu.elim
 | fnp=>exact hu.elim
 | @ints _ _ _ k l b' off' hl hc ha h=>
  simp only [Cell.cnt] at hfit
  refine .ints b (off+lo) (by simp;omega) hn (fun hne=>?_) (fun i hi=>?_)
  · have:n≠0:=fun e=>hne (by simp [e])
    rw [had (by omega)];simp [Cell.esz]
  · simp only [List.length_take,List.length_drop] at hi
    have hne:l≠[]:=fun e=>by rw [e] at hfit;simp at hfit;omega
    have hh:=h (lo+i) (by omega)
    have:=ha hne
    simp only [Option.some.injEq,Addr.mk.injEq,and_true] at this
    obtain ⟨rfl,rfl⟩:=this
    rw [Nat.add_assoc]
    simpa using hh
 | @sl _ _ _ m rows b' off' u hl hc ha hn' hm hrr=>
  simp only [Cell.cnt] at hfit
  refine .sl b (off+lo*m) (fun i j=>u (lo+i) j) (by simp;omega) hn (fun hne=>?_) (fun r hr'=>hn' r (List.mem_of_mem_drop (List.mem_of_mem_take hr'))) (fun i hi j hj=>?_) (fun i hi j hj=>?_)
  · have:n≠0:=fun e=>hne (by simp [e])
    rw [had (by omega)];simp [Cell.esz]
  · simp only [List.length_take,List.length_drop] at hi
    have hne:rows≠[]:=fun e=>by rw [e] at hfit;simp at hfit;omega
    have hh:=hm (lo+i) (by omega) j hj
    have:=ha hne
    simp only [Option.some.injEq,Addr.mk.injEq,and_true] at this
    obtain ⟨rfl,rfl⟩:=this
    rw [Nat.add_mul] at hh
    rw [show off+lo*m+i*m+j=off+(lo*m+i*m)+j by omega]
    exact hh
  · simp only [List.length_take,List.length_drop] at hi
    have hlen:lo+i<rows.length:=by omega
    have hj':j<rows[lo+i].length:=by simpa using hj
    have:=hrr (lo+i) hlen j hj'
    simpa using this
theorem RdC.noTok {M:Nat→Nat→Prop} {w:World} {v:Value} {c:Cell} (h:RdC M w v c) (t:Nat):¬c.hasTok t:=fun ht=>by
 cases c with
 | tok d c=>exact h.notTok
 | _=>exact ht
theorem bareL_drop (n:Nat):∀ cs:List Cell,bareL (cs.drop n)=(bareL cs).drop n:=by
 induction n with
 | zero=>intro cs;simp
 | succ n ih=>
  intro cs
  cases cs with
  | nil=>simp [bareL]
  | cons c cs=>simpa [bareL] using ih cs
end Go.Slot
