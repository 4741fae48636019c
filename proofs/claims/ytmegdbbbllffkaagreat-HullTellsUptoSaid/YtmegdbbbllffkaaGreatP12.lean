/- The proof, part P12: Nf, Gc, Gn, Gd, Gt, Se, Sp, Sq, T0, Qa, Qb, Ua, Ra, Rb, Rc. -/
import Derived.Test.YtmegdbbbllffkaaGreatP11
import Derived.Test.YtmegdbbbllffkaaGreatP9
import Derived.Test.YtmegdbbbllffkaaGreatP10
namespace Go.Hp
open Go Go.RowKit Go.Slot
variable {P:Program} {Γ:List (Nat×List Cell)} {e:List SB}
variable {J:List SB}
theorem vfe.ro (φ:List Nat) {f:FuncId} {ηs:List SB} {args:List SV} {res:SV} (h:vfe Γ P f ηs args ηs res) (hs:∀ r,ηs.map (rnSB r)=ηs) (hn:φ.Nodup) (hb:(φ.all fun j=>Nat.blt j J.length)=true) (hp:φ.map (fun j=>J[j]?)=ηs.map some) :
 vfe Γ P f J (args.map (yo9 (atR φ J.length))) J (rnSV (atR φ J.length) res):=by
 have hfix:∀(r:Nat->Nat) (x:SB),x∈ηs->rnSB r x=x:=fun r x hx=>by
  obtain ⟨i,hi,rfl⟩:=List.getElem_of_mem hx
  have:=congrArg (fun l=>l[i]?) (hs r)
  simp only [List.getElem?_map,List.getElem?_eq_getElem hi,Option.map_some] at this;exact Option.some.inj this
 have hb':∀ j∈φ,j<J.length:=fun j hj=>by simpa using List.all_eq_true.1 hb j hj
 have hp':φ.map (fun j=>J[j]?)=ηs.map (fun x=>some (rnSB (atR φ J.length) x)):=by
  rw [hp];exact List.map_congr_left (fun x hx=>by rw [hfix _ x hx])
 have hk:=yp3.of hp';have hc:=vfe.frame hn hb' hk (by rw [hk.1];exact Nat.le_refl _) h
 have hput:putR φ J ηs=J:=by
  apply List.ext_getElem?;intro i;by_cases hi2:i<J.length
  . by_cases hi:i∈φ
    . obtain ⟨k,hk2,rfl⟩:=List.getElem_of_mem hi
      have hkl:k<ηs.length:=by rw [hk.1];exact hk2
      have h1:=y6r (ηs':=ηs) hn hb' (List.getElem?_eq_getElem hkl);rw [v84 (List.getElem?_eq_getElem hk2),hfix _ _ (List.getElem_mem hkl)] at h1;rw [h1];have h2:=congrArg (fun l=>l[k]?) hp;simp only [List.getElem?_map,List.getElem?_eq_getElem hk2,List.getElem?_eq_getElem hkl,Option.map_some] at h2;exact (Option.some.inj h2).symm
    . exact xxa hi2 hi
  . rw [List.getElem?_eq_none (by rw [yvj,hk.1];omega),List.getElem?_eq_none (by omega)]
 rw [hput] at hc;exact hc
theorem StH.cutN {I I':List SV} {J':List SB} (ks:List Nat) (m:Nat) (hm:Nat.ble e.length m=true) (h:x2g m (wue ks 0 I) J=true) (hk:StH Γ e (wue ks 0 I) (J.take m) I' J'):StH Γ e I J I' J':=
 StH.trans (StH.only ks) (StH.trans (StH.cutB m (by simpa using hm) h) hk)
theorem StH.tup1 {l l':List SV} (h:vma l l'):StH Γ e [.tup l] J [.tup l'] J:=fun E ρ a w hE hR=>⟨ρ,hR.hd,hR.hs,fun i x hi=>by
 cases i with
 | zero=>
  simp only [List.getElem?_cons_zero,Option.some.injEq] at hi;subst hi;obtain ⟨vs,hv,hr⟩:=hR.slot 0 (.tup l) rfl;exact ⟨vs,hv,SRL.le h hr⟩
 | succ i=>simp at hi,hR.went⟩
theorem vg7 {a b:Nat}:Nat.blt a b=decide (a<b):=by
 by_cases h:a<b
 . rw [decide_eq_true h];simpa using h
 . rw [decide_eq_false h]
   cases hh:Nat.blt a b with
   | false=>rfl
   | true=>exact absurd (by simpa using hh) h
end Go.Hp
namespace Go.Hp.T
open Go Go.RowKit Go.Slot Go.Hp Go.Slot.T
open Go.Proofs.Tryz (prog)
set_option maxRecDepth 10000
set_option maxHeartbeats 4000000
variable {Γ:List (Nat×List Cell)}
theorem wvc {J:List SB} {h1 h2:HC}:StH Γ [] [SV.tup [.agg [h1,h2],.one (.dat (cB false))]] J [SV.tup [.agg [.any,.any],.one (.dat (cB false))]] []:=
 StH.trans (StH.tup1 (l':=[.agg [.any,.any],.one (.dat (cB false))]) (.cons (.agg (.cons (.any _) (.cons (.any _) .nil))) (.cons (.refl _) .nil))) (by
  have:=StH.cutB (Γ:=Γ) (e:=[]) (I:=[SV.tup [.agg [.any,.any],.one (.dat (cB false))]]) (J:=J) 0 (Nat.le_refl _) (by unfold x2g;rfl)
  exact this)
theorem ysl (l:List HC) (T:Option TypeId):z0y (.box l T)=l.flatMap yj9:=rfl
theorem zsp (c:Cell) (k:Nat) (T:Option TypeId):z0y (.arr c k T)=[]:=rfl
theorem v2a:z0y .dead=[]:=rfl
attribute [go_sem] x2g vp6 yj9 ysl zsp v2a vg7 List.flatMap_cons List.flatMap_nil List.all_append
structure Tb.Sm (t:Tb):Prop where
 n:t.name.size<=1073741824
 u:t.unit.size<=1073741824
 r:t.rows.length<=1073741824
end Go.Hp.T
namespace Go.Hp.T
open Go Go.RowKit Go.Slot Go.Hp Go.Slot.T
open Go.Proofs.Tryz (prog)
set_option maxRecDepth 10000
set_option maxHeartbeats 4000000
variable {Γ:List (Nat×List Cell)}
structure Rs where
 t:Bool
 i:Bool
 v:Option Rat
deriving DecidableEq
def Rs.zero:Rs:=⟨false,false,none⟩
instance:Inhabited Rs:=⟨Rs.zero⟩
def Rs.C (x:Rs):List Cell:=cB x.t::cB x.i::qC x.v
abbrev rsC (x:Rs):List Cell:=[cB x.t,cB x.i,.raw (.int .i64 (qF x.v).s),.ints .i64 (qF x.v).L,.raw (.int .i64 (qF x.v).t),.ints .i64 (qF x.v).M]
theorem Rs.C_eq (x:Rs):x.C=rsC x:=rfl
attribute [go_sem] Rs.C_eq
def numV (v:Option Rat) (e:Int):Rs×Int:=bif decide (¬e=0) then (Rs.zero,e) else (⟨false,false,v⟩,0)
def truV (b:Bool):Rs×Int:=(⟨true,b,none⟩,0)
def logV (o:Int) (l:List Rs):Rs×Int:=bif l.any (fun r=>!r.t) then (Rs.zero,13) else
 bif decide (o=14) then truV (l.all (·.i)) else bif decide (o=15) then truV (l.any (·.i)) else truV (!l.all (·.i))
def ariV (o:Int) (a b:Rs):Rs×Int:=bif a.t||b.t then (Rs.zero,13) else
 bif decide (o=6) then numV (addO a.v b.v) (erO a.v b.v) else
 bif decide (o=7) then numV (subO a.v b.v) (erO a.v b.v) else
 bif decide (o=8) then numV (mulO a.v b.v) (erO a.v b.v) else
 bif decide (o=9) then numV (divO a.v b.v) (divE a.v b.v) else
 bif decide (o=10) then numV (minO a.v b.v) (erO a.v b.v) else
 bif decide (o=11) then numV (maxO a.v b.v) (erO a.v b.v) else
 bif decide (o=12) then truV (decide (cmpO a.v b.v<0)) else truV (decide (cmpO a.v b.v=0))
end Go.Hp.T
namespace Go.Hp.T
open Go Go.RowKit Go.Slot Go.Hp
set_option maxRecDepth 10000
variable {a b:ByteArray} {ms:List Tb}
theorem vw8 (s:ByteArray):seq s s=true:=by rw [z9f];exact decide_eq_true rfl
theorem xjh (h:seq a b=true):a=b:=by rw [z9f] at h;exact of_decide_eq_true h
theorem z6i (h:a≠b):seq a b=false:=by rw [z9f];exact decide_eq_false h
theorem wkt {α:Type} (s:ByteArray) (v:α) (t:ByteArray):∀ l:List (ByteArray×α),ycr (updF l s v) t=bif seq t s then some v else ycr l t
 | []=>rfl
 | p::l=>by
  have ih:=wkt s v t l;rw [updF]
  cases h:seq s p.1 with
  | true=>
   have e:s=p.1:=xjh h;rw [cond_true]
   show (bif seq t s then some v else ycr l t)=bif seq t s then some v else (bif seq t p.1 then some p.2 else ycr l t)
   rw [<-e];cases seq t s<;>rfl
  | false=>
   rw [cond_false]
   show (bif seq t p.1 then some p.2 else ycr (updF l s v) t)=bif seq t s then some v else (bif seq t p.1 then some p.2 else ycr l t)
   rw [ih]
   cases h1:seq t p.1 with
   | false=>rfl
   | true=>cases h2:seq t s with
    | false=>rfl
    | true=>
     have e1:t=p.1:=xjh h1;have e2:t=s:=xjh h2;rw [<-e1,e2,vw8] at h
     cases h
section
variable {α β:Type} (nm:β->ByteArray) (ok:β->Bool) (val:β->α) (out:ByteArray->Bool)
def gE (V:List (ByteArray×α)):List β->Option (List (ByteArray×α))
 | []=>some V
 | b::l=>bif (ycr V (nm b)).isSome||out (nm b)||!isName (nm b)||isWord (nm b)||!ok b then none else gE (updF V (nm b) (val b)) l
def fnd (l:List β) (s:ByteArray):Option β:=l.find? (fun b=>seq s (nm b))
end
section
variable {α β:Type} {nm:β->ByteArray} {ok:β->Bool} {val:β->α} {out:ByteArray->Bool}
theorem vt7 (s:ByteArray):fnd nm [] s=none:=rfl
theorem yik (b:β) (l:List β) (s:ByteArray):fnd nm (b::l) s=bif seq s (nm b) then some b else fnd nm l s:=by
 unfold fnd;rw [List.find?_cons];cases seq s (nm b)<;>rfl
theorem wm9 {l:List β} {s:ByteArray}:fnd nm l s=none↔s∉l.map nm:=by
 induction l with
 | nil=>simp [vt7]
 | cons b l ih=>
  rw [yik,List.map_cons,List.mem_cons,not_or]
  cases h:seq s (nm b) with
  | true=>rw [cond_true];exact ⟨fun h=>(by cases h),fun h2=>absurd (xjh h) h2.1⟩
  | false=>
   rw [cond_false,ih];exact ⟨fun h2=>⟨fun e=>(by rw [e,vw8] at h;cases h),h2⟩,fun h2=>h2.2⟩
theorem wud {l:List β} {s:ByteArray} {b:β} (h:fnd nm l s=some b):b∈l/\s=nm b:=by
 unfold fnd at h;have h1:=List.find?_some h;exact ⟨List.mem_of_find?_eq_some h,xjh h1⟩
theorem vu0 {l:List β} {s:ByteArray}:(fnd nm l s).isSome=true↔s∈l.map nm:=by
 cases h:fnd nm l s with
 | none=>exact ⟨fun h=>(by cases h),fun hm=>absurd hm (wm9.1 h)⟩
 | some b=>
  have:=wud h
  exact ⟨fun _=>(by rw [this.2];exact List.mem_map_of_mem this.1),fun _=>rfl⟩
def zwc (nm:β->ByteArray) (ok:β->Bool) (out:ByteArray->Bool) (V:List (ByteArray×α)) (b:β):Prop:=ok b=true/\isNamed (nm b)=true/\out (nm b)=false/\ycr V (nm b)=none
theorem wab {V:List (ByteArray×α)} {b:β}:((ycr V (nm b)).isSome||out (nm b)||!isName (nm b)||isWord (nm b)||!ok b)=false↔zwc nm ok out V b:=by
 unfold zwc isNamed
 cases ycr V (nm b)<;>cases out (nm b)<;>cases isName (nm b)<;>cases isWord (nm b)<;>cases ok b<;>simp
theorem ypf:∀{l:List β} {V W:List (ByteArray×α)},gE nm ok val out V l=some W->(∀ b∈l,zwc nm ok out V b)/\(l.map nm).Nodup/\∀ s,ycr W s=(match fnd nm l s with
 | some b=>some (val b)
 | none=>ycr V s)
 | [],V,W,h=>by
  rw [gE] at h;cases h;exact ⟨fun b hb=>by (cases hb),List.nodup_nil,fun s=>rfl⟩
 | b::l,V,W,h=>by
  rw [gE] at h
  cases hc:((ycr V (nm b)).isSome||out (nm b)||!isName (nm b)||isWord (nm b)||!ok b) with
  | true=>rw [hc] at h;cases h
  | false=>
   rw [hc,cond_false] at h;have hb:=wab.1 hc;obtain ⟨h1,h2,h3⟩:=ypf h
   have hnot:∀ c∈l,nm c≠nm b:=fun c hc' e=>by
    have:=(h1 c hc').2.2.2
    rw [e,wkt,vw8] at this
    cases this
   refine ⟨fun c hc'=>?_,?_,fun s=>?_⟩
   . rcases List.mem_cons.1 hc' with rfl | hc'
     . exact hb
     . obtain ⟨q1,q2,q3,q4⟩:=h1 c hc';rw [wkt,z6i (hnot c hc')] at q4;exact ⟨q1,q2,q3,q4⟩
   . rw [List.map_cons,List.nodup_cons];refine ⟨fun hm=>?_,h2⟩;obtain ⟨c,hc1,hc2⟩:=List.mem_map.1 hm;exact hnot c hc1 hc2
   . rw [h3 s, yik]
     cases hs:seq s (nm b) with
     | true=>
      have e:=xjh hs
      have:fnd nm l s=none:=wm9.2 (fun hm=>by
       obtain ⟨c,hc1,hc2⟩:=List.mem_map.1 hm
       exact hnot c hc1 (by rw [hc2,e]))
      rw [this];simp only [cond_true];rw [wkt,hs];rfl
     | false=>
      rw [cond_false]
      cases fnd nm l s with
      | some c=>rfl
      | none=>simp only;rw [wkt,hs];rfl
theorem z3y:∀{l:List β} {V:List (ByteArray×α)},(∀ b∈l,zwc nm ok out V b)->(l.map nm).Nodup->∃ W,gE nm ok val out V l=some W
 | [],V,_,_=>⟨V,rfl⟩
 | b::l,V,h,hn=>by
  rw [List.map_cons,List.nodup_cons] at hn;rw [gE,wab.2 (h b (by simp)),cond_false];refine z3y (fun c hc=>?_) hn.2;obtain ⟨q1,q2,q3,q4⟩:=h c (by simp [hc]);refine ⟨q1,q2,q3,?_⟩;rw [wkt,z6i (fun e=>hn.1 (by rw [<-e];exact List.mem_map_of_mem hc))];exact q4
end
section
variable {α β:Type} (nm:β->ByteArray) (ok:β->Bool) (val:β->α) (tok:Tb->Bool)
def entG (bs:List β) (ms:List Tb):Option (List (ByteArray×α)×List (ByteArray×Tb)):=match gE nm ok val (fun _=>false) [] bs with
 | none=>none
 | some V=>(gE Tb.name tok id (fun s=>(ycr V s).isSome) [] ms).map fun T=>(V,T)
def xfk (l:List ByteArray):Prop:=(∀ s∈l,isNamed s=true)/\l.Nodup
instance (l:List ByteArray):Decidable (xfk l):=inferInstanceAs (Decidable (_/\_))
end
section
variable {α β:Type} {nm:β->ByteArray} {ok:β->Bool} {val:β->α} {tok:Tb->Bool}
theorem y36 {bs:List β} {V:List (ByteArray×α)} {T:List (ByteArray×Tb)} (h:entG nm ok val tok bs ms=some (V,T)) :
 (∀ b∈bs,ok b=true)/\(∀ t∈ms,tok t=true)/\xfk (bs.map nm++ms.map Tb.name)/\(∀ s,ycr V s=(fnd nm bs s).map val)/\(∀ s,ycr T s=fnd Tb.name ms s):=by
 unfold entG at h
 cases h1:gE nm ok val (fun _=>false) [] bs with
 | none=>rw [h1] at h;cases h
 | some W=>
  rw [h1] at h;simp only at h
  cases h2:gE Tb.name tok id (fun s=>(ycr W s).isSome) [] ms with
  | none=>rw [h2] at h;cases h
  | some U=>
   rw [h2] at h
   cases h;obtain ⟨a1,a2,a3⟩:=ypf h1;obtain ⟨b1,b2,b3⟩:=ypf h2
   have hV:∀ s,ycr V s=(fnd nm bs s).map val:=fun s=>by rw [a3 s];cases fnd nm bs s<;>rfl
   refine ⟨fun b hb=>(a1 b hb).1,fun t ht=>(b1 t ht).1,⟨fun s hs=>?_,?_⟩,hV,fun s=>by rw [b3 s];cases fnd Tb.name ms s<;>rfl⟩
   . rcases List.mem_append.1 hs with hs | hs
     . obtain ⟨b,hb,rfl⟩:=List.mem_map.1 hs;exact (a1 b hb).2.1
     . obtain ⟨t,ht,rfl⟩:=List.mem_map.1 hs;exact (b1 t ht).2.1
   . rw [List.nodup_append];refine ⟨a2,b2,fun x hx y hy e=>?_⟩;subst e;obtain ⟨t,ht,rfl⟩:=List.mem_map.1 hy
     have:=(b1 t ht).2.2.1
     simp only [hV,Option.isSome_map] at this;rw [vu0.2 hx] at this
     cases this
theorem w1q {bs:List β} (h1:∀ b∈bs,ok b=true) (h2:∀ t∈ms,tok t=true) (h3:xfk (bs.map nm++ms.map Tb.name)):∃ p,entG nm ok val tok bs ms=some p:=by
 obtain ⟨h3,h4⟩:=h3;rw [List.nodup_append] at h4;obtain ⟨n1,n2,n3⟩:=h4;obtain ⟨V,hV⟩:=z3y (val:=val) (V:=([]:List (ByteArray×α))) (out:=fun _=>false) (ok:=ok) (nm:=nm) (fun b hb=>⟨h1 b hb,h3 _ (by simp only [List.mem_append];exact .inl (List.mem_map_of_mem hb)),rfl,rfl⟩) n1
 have hlV:∀ s,ycr V s=(fnd nm bs s).map val:=fun s=>by rw [(ypf hV).2.2 s];cases fnd nm bs s<;>rfl
 obtain ⟨T,hT⟩:=z3y (val:=id) (V:=([]:List (ByteArray×Tb))) (out:=fun s=>(ycr V s).isSome) (ok:=tok) (nm:=Tb.name) (l:=ms) (fun t ht=>⟨h2 t ht,h3 _ (by simp only [List.mem_append];exact .inr (List.mem_map_of_mem ht)),by
  simp only [hlV,Option.isSome_map];rw [Bool.eq_false_iff]
  exact fun hm=>n3 _ (vu0.1 hm) _ (List.mem_map_of_mem ht) rfl,rfl⟩) n2
 exact ⟨(V,T),by unfold entG;rw [hV];simp only [hT];rfl⟩
theorem xbc {bs:List β}:(entG nm ok val tok bs ms).isSome=(bs.all ok&&ms.all tok&&decide (xfk (bs.map nm++ms.map Tb.name))):=by
 cases h:entG nm ok val tok bs ms with
 | some p=>
  obtain ⟨V,T⟩:=p;obtain ⟨h1,h2,h3,_,_⟩:=y36 h;rw [decide_eq_true h3,List.all_eq_true.2 h1,List.all_eq_true.2 h2];rfl
 | none=>
  cases h4:(bs.all ok&&ms.all tok&&decide (xfk (bs.map nm++ms.map Tb.name))) with
  | false=>rfl
  | true=>
   simp only [Bool.and_eq_true,List.all_eq_true,decide_eq_true_eq] at h4;obtain ⟨p,hp⟩:=w1q (val:=val) h4.1.1 h4.1.2 h4.2;rw [h] at hp;cases hp
end
end Go.Hp.T
namespace Go.Hp.T
open Go Go.RowKit Go.Slot Go.Hp Go.Slot.T
set_option maxRecDepth 10000
set_option maxHeartbeats 4000000
structure Bd where
 name:ByteArray
 v:Fc
instance:Inhabited Bd:=⟨⟨⟨#[]⟩,Fc.zero⟩⟩
def Bd.C (x:Bd):List Cell:=[cS x.name,.raw (.int .i64 x.v.s),.ints .i64 x.v.L,.raw (.int .i64 x.v.t),.ints .i64 x.v.M]
abbrev bdC (x:Bd):List Cell:=[cS x.name,.raw (.int .i64 x.v.s),.ints .i64 x.v.L,.raw (.int .i64 x.v.t),.ints .i64 x.v.M]
theorem Bd.C_eq (x:Bd):x.C=bdC x:=rfl
attribute [go_sem] Bd.C_eq
abbrev Vq:=List (ByteArray×Rat)
abbrev Vt:=List (ByteArray×Tb)
def envB (l:Vt):List (Value×SV):=envM (fun t=>.agg ((tbC t).map .dat)) l
theorem x96 {T:Vt} {s:ByteArray}:zgw (envB T) (.string s)=some ((ycr T s).map fun t=>.agg ((tbC t).map .dat)):=vi5
theorem v2x {T:Vt} {s:ByteArray} {t:Tb}:updM (envB T) (.string s) (.agg [.dat (cS t.name),.dat (cS t.unit),.dat (.sl 2 (t.rows.map Rw.C))])=some (envB (updF T s t)):=z6j (C:=fun t=>.agg ((tbC t).map .dat))
attribute [go_sem] x96 v2x
abbrev tbOk (t:Tb):Bool:=zi4 (fun s=>(zte s).2) t
def v43 (n:Int) (u:ByteArray):Rs×Int:=bif decide (¬(zte u).2=0) then (Rs.zero,14) else numV (mulO (some (n:Rat)) (facO u)) (erO (some (n:Rat)) (facO u))
def ztc (V:Vq) (s:ByteArray):Rs×Int:=match ycr V s with
 | none=>(Rs.zero,11)
 | some q=>numV (addO (some q) (some ((0:Int):Rat))) 0
def wog (T:Vt) (s:ByteArray) (k:Rs):Rs×Int:=match ycr T s with
 | none=>(Rs.zero,11)
 | some t=>bif k.t then (Rs.zero,13) else numV (wyo t k.v).1 (wyo t k.v).2
def chV (rs:List (Rs×Int)):Rs×Int:=bif decide (¬(rs.getD 0 default).2=0) then (Rs.zero,(rs.getD 0 default).2) else
 bif !(rs.getD 0 default).1.t then (Rs.zero,13) else bif (rs.getD 0 default).1.i then rs.getD 1 default else rs.getD 2 default
def seqV:List (Rs×Int)->Int ⊕ List Rs
 | []=>.inr []
 | (r,e)::l=>bif decide (¬e=0) then .inl e else match seqV l with
  | .inl e=>.inl e
  | .inr rs=>.inr (r::rs)
def opV (T:Vt) (o:Int) (s:ByteArray) (rs:List Rs):Rs×Int:=bif decide (o=2) then wog T s (rs.getD 0 default) else
 bif decide (o=4)||decide (o=14)||decide (o=15) then logV o rs else ariV o (rs.getD 0 default) (rs.getD 1 default)
def xem (T:Vt) (o:Int) (s:ByteArray) (q:Int ⊕ List Rs):Rs×Int:=match q with
 | .inl e=>(Rs.zero,e)
 | .inr rs=>opV T o s rs
mutual
def Ex.cal (V:Vq) (T:Vt):Ex->Rs×Int
 | .mk o n u s l=>bif decide (o=0) then v43 n u else bif decide (o=1) then ztc V s else
  bif decide (o=5) then chV (Ex.calA V T l) else xem T o s (seqV (Ex.calA V T l))
def Ex.calA (V:Vq) (T:Vt):List Ex->List (Rs×Int)
 | []=>[]
 | y::l=>Ex.cal V T y::Ex.calA V T l
end
mutual
def Ex.nd:Ex->Nat
 | .mk _ _ _ _ l=>Ex.ndL l+1
def Ex.ndL:List Ex->Nat
 | []=>0
 | y::l=>Ex.nd y+Ex.ndL l
end
theorem Ex.yuy (x:Ex):x.nd=Ex.ndL x.args+1:=by cases x;rw [Ex.nd];rfl
theorem Ex.xks:∀{l:List Ex} {y:Ex},y∈l->y.nd<=Ex.ndL l
 | z::l,y,h=>by
  rw [Ex.ndL]
  rcases List.mem_cons.1 h with rfl | h
  . omega
  . have:=Ex.xks h;omega
theorem Ex.nd2 {l:List Ex} (h:2<=l.length):(l.getD 0 default).nd+(l.getD 1 default).nd<=Ex.ndL l:=by
 match l,h with
 | a::b::l,_=>rw [Ex.ndL,Ex.ndL];simp only [List.getD_cons_zero,List.getD_cons_succ];omega
theorem Ex.wfy:∀(x:Ex) (n lv k:Int),x.cnt n lv=(true,k)->k=n+x.nd:=by
 have hL:∀ l:List Ex,(∀ y∈l,∀(n lv k:Int),y.cnt n lv=(true,k)->k=n+y.nd)->∀ n lv k:Int,Ex.cntL l n lv=(true,k)->k=n+Ex.ndL l:=by
  intro l
  induction l with
  | nil=>intro _ n lv k h;rw [Ex.cntL] at h;cases h;rw [Ex.ndL];omega
  | cons y l ih=>
   intro hy n lv k h;rw [Ex.cntL] at h;split at h
   . cases h
   . rename_i m hm;have h1:=hy y (by simp) _ _ _ hm;have h2:=ih (fun z hz=>hy z (by simp [hz])) _ _ _ h;rw [Ex.ndL];omega
 refine Ex.ind (fun x ih n lv k h=>?_);rw [Ex.vrw] at h;by_cases h1:200<n+1
 . simp [h1] at h
 . by_cases h2:20<lv
   . simp [h2] at h
   . simp only [h1,h2,decide_false,Bool.or_self,cond_false] at h
     have:=hL x.args ih _ _ _ h
     rw [Ex.yuy];omega
theorem wl8 {x:Ex} (h:xub x=true):x.nd<=200:=by
 unfold xub at h;rw [Bool.and_eq_true] at h
 have h1:x.cnt 0 1=(true,(x.cnt 0 1).2):=by rw [<-h.1]
 have h2:=Ex.wfy _ _ _ _ h1;have h3:=Ex.v24 _ _ _ _ h1;omega
theorem v9j (t:Tb) {n:Int} (h:inI n):qz (zxb t n)<=4204:=by
 have h1:=ylo (some (n:Rat)) (facO t.unit);have h2:=wtn h;have h3:=yzw t.unit;unfold zxb;omega
theorem xbu (t:Tb) (v:Option Rat):qz (wyo t v).1<=4204:=by
 unfold wyo
 cases ht:zi4 (fun s=>(zte s).2) t with
 | false=>exact Nat.zero_le _
 | true=>
  cases v with
  | none=>exact Nat.zero_le _
  | some q=>
   simp only [Bool.not_true,cond_false];by_cases h0:aft q t.rows=0
   . rw [decide_eq_true h0];exact Nat.zero_le _
   . rw [decide_eq_false h0];obtain ⟨_,_,hl,hrows⟩:=yun ht;have hle:=xds q t.rows;have hn:=wju (hrows (aft q t.rows-1) (by omega)).2.1;exact v9j t (by unfold inI;omega)
theorem zta {x:Ex} (h:yxn x=true) (h0:x.op=0):0<=x.n/\x.n<=1099511627776:=by
 unfold yxn at h;rw [decide_eq_true h0] at h;simp only [cond_true,Bool.and_eq_true,decide_eq_true_eq] at h;omega
end Go.Hp.T
namespace Go.Hp.T
open Go Go.RowKit Go.Slot Go.Hp
set_option maxRecDepth 10000
theorem nc0:((0:Nat):Int)=0:=rfl
theorem nc1:((1:Nat):Int)=1:=rfl
theorem nc2:((2:Nat):Int)=2:=rfl
theorem nc3:((3:Nat):Int)=3:=rfl
attribute [go_sem] decide_true decide_false nc0 nc1 nc2 nc3
theorem z3r {x:Ex} (h:yxn x=true) (hne:x.args.length≠0):2<=x.op/\x.op<=15:=by
 unfold yxn at h;by_cases a0:x.op=0
 . rw [decide_eq_true a0,cond_true] at h;simp only [Bool.and_eq_true,decide_eq_true_eq] at h;omega
 rw [decide_eq_false a0,cond_false] at h
 cases hb:(decide (¬x.n=0)||decide (¬x.unit.size=0)) with
 | true=>rw [hb,cond_true] at h;cases h
 | false=>
 rw [hb,cond_false] at h;by_cases a1:x.op=1
 . rw [decide_eq_true a1,cond_true] at h;simp only [Bool.and_eq_true,decide_eq_true_eq] at h;omega
 rw [decide_eq_false a1,cond_false] at h;by_cases a2:x.op=2
 . omega
 by_cases a3:x.op=3
 . omega
 by_cases a4:x.op=4
 . omega
 by_cases a5:x.op=5
 . omega
 rw [decide_eq_false a2,decide_eq_false a3,decide_eq_false a4,decide_eq_false a5] at h;simp only [cond_false] at h;by_cases a6:x.op=10\/x.op=11
 . omega
 rw [decide_eq_false (fun h=>a6 (.inl h)),decide_eq_false (fun h=>a6 (.inr h))] at h;simp only [Bool.or_self,cond_false,Bool.and_eq_true] at h
 have:=h.1.1
 unfold isOp at this;simp only [Bool.or_eq_true,decide_eq_true_eq] at this;omega
end Go.Hp.T
namespace Go.Hp.T
open Go Go.RowKit Go.Slot Go.Hp Go.Slot.T
set_option maxRecDepth 10000
set_option maxHeartbeats 4000000
variable {e:Int} {T:Vt} {a b:Rat} {B j:Nat} {ms:List Tb}
inductive Kn where
 | tru (c d:Bool)
 | num (v:Iv)
deriving DecidableEq
instance:Inhabited Kn:=⟨.tru false false⟩
def Kn.t:Kn->Bool
 | .tru _ _=>true
 | .num _=>false
def Kn.c:Kn->Bool
 | .tru c _=>c
 | .num _=>false
def Kn.d:Kn->Bool
 | .tru _ d=>d
 | .num _=>false
def Kn.s:Kn->Sc
 | .tru _ _=>Sc.zero
 | .num v=>ivS v
def Kn.v:Kn->Iv
 | .tru _ _=>default
 | .num v=>v
def Kn.C (k:Kn):List Cell:=cB k.t::cB k.c::cB k.d::scC k.s
abbrev knC (k:Kn):List Cell:=[cB k.t,cB k.c,cB k.d,.raw (.int .i64 k.s.low.s),.ints .i64 k.s.low.L,.raw (.int .i64 k.s.low.t),.ints .i64 k.s.low.M,.raw (.int .i64 k.s.high.s),.ints .i64 k.s.high.L,.raw (.int .i64 k.s.high.t),.ints .i64 k.s.high.M]
theorem Kn.C_eq (k:Kn):k.C=knC k:=_root_.id rfl
theorem Kn.yoz {c d:Bool}:(Kn.tru c d).t=true:=_root_.id rfl
theorem Kn.ykm {c d:Bool}:(Kn.tru c d).c=c:=_root_.id rfl
theorem Kn.zqa {c d:Bool}:(Kn.tru c d).d=d:=_root_.id rfl
theorem Kn.v89 {c d:Bool}:(Kn.tru c d).s=Sc.zero:=_root_.id rfl
theorem Kn.xoj {v:Iv}:(Kn.num v).t=false:=_root_.id rfl
theorem Kn.vni {v:Iv}:(Kn.num v).c=false:=_root_.id rfl
theorem Kn.xaf {v:Iv}:(Kn.num v).d=false:=_root_.id rfl
theorem Kn.xdd {v:Iv}:(Kn.num v).s.low=qF (some v.lo):=_root_.id rfl
theorem Kn.xki {v:Iv}:(Kn.num v).s.high=qF (some v.hi):=_root_.id rfl
abbrev Kr:=Int ⊕ Kn
instance:Inhabited Kr:=⟨.inl 0⟩
def krE:Kr->Int
 | .inl e=>e
 | .inr _=>0
def krK:Kr->Kn
 | .inl _=>.tru false false
 | .inr k=>k
def krT:Kr->Bool
 | .inl _=>false
 | .inr k=>k.t
theorem whl:krE (.inl e)=e:=_root_.id rfl
theorem yoi {k:Kn}:krE (.inr k)=0:=_root_.id rfl
theorem yrv:krT (.inl e)=false:=_root_.id rfl
theorem vcf {k:Kn}:krT (.inr k)=k.t:=_root_.id rfl
theorem xgn:krK (.inl e)=.tru false false:=_root_.id rfl
theorem wb4 {k:Kn}:krK (.inr k)=k:=_root_.id rfl
attribute [go_sem] Kn.C_eq Kn.yoz Kn.ykm Kn.zqa Kn.v89 Kn.xoj Kn.vni Kn.xaf Kn.xdd Kn.xki whl yoi yrv vcf xgn wb4
abbrev krC (r:Kr):List Cell:=[cB (krT r),cB (krK r).c,cB (krK r).d,.raw (.int .i64 (krK r).s.low.s),.ints .i64 (krK r).s.low.L,.raw (.int .i64 (krK r).s.low.t),.ints .i64 (krK r).s.low.M,.raw (.int .i64 (krK r).s.high.s),.ints .i64 (krK r).s.high.L,.raw (.int .i64 (krK r).s.high.t),.ints .i64 (krK r).s.high.M]
abbrev krR (r:Kr):AV:=.tup [.agg (krC r),.one (cI (krE r))]
abbrev krV (r:Kr):SV:=.tup [.agg ((krC r).map .dat),.one (.dat (cI (krE r)))]
abbrev Vi:=List (ByteArray×Iv)
def envI (l:Vi):List (Value×SV):=envM (fun v=>.agg ((ivC v).map .dat)) l
theorem v4h {T:Vi} {s:ByteArray}:zgw (envI T) (.string s)=some ((ycr T s).map fun v=>.agg ((ivC v).map .dat)):=vi5
theorem wdx {T:Vi} {s:ByteArray} {v:Iv}:updM (envI T) (.string s) (.agg [.dat (.raw (.int .i64 (qF (some v.lo)).s)),.dat (.ints .i64 (qF (some v.lo)).L),.dat (.raw (.int .i64 (qF (some v.lo)).t)),.dat (.ints .i64 (qF (some v.lo)).M),.dat (.raw (.int .i64 (qF (some v.hi)).s)),.dat (.ints .i64 (qF (some v.hi)).L),.dat (.raw (.int .i64 (qF (some v.hi)).t)),.dat (.ints .i64 (qF (some v.hi)).M)])=some (envI (updF T s v)):=z6j (C:=fun v=>.agg ((ivC v).map .dat))
attribute [go_sem] v4h wdx
structure Zn where
 name:ByteArray
 s:Sc
instance:Inhabited Zn:=⟨⟨⟨#[]⟩,Sc.zero⟩⟩
def Zn.C (x:Zn):List Cell:=cS x.name::scC x.s
abbrev znC (x:Zn):List Cell:=[cS x.name,.raw (.int .i64 x.s.low.s),.ints .i64 x.s.low.L,.raw (.int .i64 x.s.low.t),.ints .i64 x.s.low.M,.raw (.int .i64 x.s.high.s),.ints .i64 x.s.high.L,.raw (.int .i64 x.s.high.t),.ints .i64 x.s.high.M]
theorem Zn.C_eq (x:Zn):x.C=znC x:=_root_.id rfl
attribute [go_sem] Zn.C_eq
def ivOf (s:Sc):Iv:=if h:s.low.val<=s.high.val then ⟨s.low.val,s.high.val,h⟩ else default
theorem xjv (v:Iv):ivOf (ivS v)=v:=by
 unfold ivOf;have e1:(ivS v).low.val=v.lo:=Fc.w2h _;have e2:(ivS v).high.val=v.hi:=Fc.w2h _;rw [dif_pos (by rw [e1,e2];exact v.h)];exact Iv.ext' e1 e2
abbrev rZ (V:Vi) (l:List Zn):Option Vi:=gE Zn.name (fun b=>decide b.s.ok) (fun b=>ivOf b.s) (fun _=>false) V l
abbrev rTi (V:Vi) (T:Vt) (l:List Tb):Option Vt:=gE Tb.name tbOk id (fun s=>(ycr V s).isSome) T l
abbrev entZ (zs:List Zn) (ms:List Tb):Option (Vi×Vt):=entG Zn.name (fun b=>decide b.s.ok) (fun b=>ivOf b.s) tbOk zs ms
def vlw (n:Int) (u:ByteArray):Kr:=bif decide (¬(zte u).2=0) then .inl 14 else match mulO (some (n:Rat)) (facO u) with
 | some q=>.inr (.num (Iv.pt q))
 | none=>.inl 14
def yy3 (V:Vi) (s:ByteArray):Kr:=match ycr V s with
 | none=>.inl 11
 | some v=>.inr (.num v)
def xx9:Kn->Kn->Kr
 | .tru c d,.tru c' d'=>.inr (.tru (c||c') (d||d'))
 | .num a,.num b=>.inr (.num (a.hull b))
 | _,_=>.inl 13
def chH (r0 r1 r2:Kr):Kr:=match r0 with
 | .inl e=>.inl e
 | .inr (.num _)=>.inl 13
 | .inr (.tru c d)=>bif !c then r2 else match r1 with
  | .inl e=>.inl e
  | .inr a=>bif !d then .inr a else match r2 with
   | .inl e=>.inl e
   | .inr b=>xx9 a b
def truH (o:Int) (a b:Kn):Kn:=bif decide (o=4) then .tru a.d a.c else bif decide (o=14) then .tru (a.c&&b.c) (a.d||b.d) else .tru (a.c||b.c) (a.d&&b.d)
def numH (o:Int) (a b:Iv):Kr:=
 bif decide (o=6) then .inr (.num (a.add b)) else
 bif decide (o=7) then .inr (.num (a.sub b)) else
 bif decide (o=8) then .inr (.num (a.mul b)) else
 bif decide (o=9) then (bif b.has 0 then .inl 15 else .inr (.num (a.mul b.inv))) else
 bif decide (o=10) then .inr (.num (a.minI b)) else
 bif decide (o=11) then .inr (.num (a.maxI b)) else
 bif decide (o=12) then .inr (.tru (decide (a.lo<b.hi)) (decide (b.lo<=a.hi))) else
 .inr (.tru (a.meets b) (!(decide (a=b)&&decide (a.lo=a.hi))))
def yk1 (t:Tb) (k:Iv):List Rw->Iv->Iv
 | [],v=>v
 | r::l,v=>yk1 t k l (bif k.has (r.k:Rat) then v.hull (Iv.pt ((wyo t (some (r.k:Rat))).1.getD 0)) else v)
def x7a (t:Tb) (k:Iv):Kr:=bif decide ((wyo t (some k.lo)).2=0) then .inr (.num (yk1 t k t.rows (Iv.pt ((wyo t (some k.lo)).1.getD 0)))) else .inl (wyo t (some k.lo)).2
def ze4 (o:Int):Bool:=decide (o=4)||decide (o=14)||decide (o=15)
def opH (T:Vt) (o:Int) (s:ByteArray) (l:List Kn):Kr:=
 bif decide (o=2)&&!(ycr T s).isSome then .inl 11 else
 bif l.any (fun k=>!(k.t==ze4 o)) then .inl 13 else
 bif ze4 o then .inr (truH o (l.getD 0 default) (l.getD 1 default)) else
 bif decide (o=2) then x7a ((ycr T s).getD default) (l.getD 0 default).v else
 numH o (l.getD 0 default).v (l.getD 1 default).v
def seqH:List Kr->Int ⊕ List Kn
 | []=>.inr []
 | .inl e::_=>.inl e
 | .inr k::l=>match seqH l with
  | .inl e=>.inl e
  | .inr ks=>.inr (k::ks)
def zj9 (T:Vt) (o:Int) (s:ByteArray) (q:Int ⊕ List Kn):Kr:=match q with
 | .inl e=>.inl e
 | .inr ks=>opH T o s ks
mutual
def Ex.hul (V:Vi) (T:Vt):Ex->Kr
 | .mk o n u s l=>bif decide (o=0) then vlw n u else bif decide (o=1) then yy3 V s else
  bif decide (o=5) then chH ((Ex.hulA V T l).getD 0 default) ((Ex.hulA V T l).getD 1 default) ((Ex.hulA V T l).getD 2 default) else zj9 T o s (seqH (Ex.hulA V T l))
def Ex.hulA (V:Vi) (T:Vt):List Ex->List Kr
 | []=>[]
 | y::l=>Ex.hul V T y::Ex.hulA V T l
end
theorem Ex.wos (V:Vi) (T:Vt):∀ l:List Ex,Ex.hulA V T l=l.map (Ex.hul V T)
 | []=>by rw [Ex.hulA];rfl
 | y::l=>by rw [Ex.hulA,Ex.wos V T l];rfl
theorem Ex.y5j (V:Vi) (T:Vt) (x:Ex):x.hul V T=bif decide (x.op=0) then vlw x.n x.unit else bif decide (x.op=1) then yy3 V x.name else
 bif decide (x.op=5) then chH ((x.args.map (Ex.hul V T)).getD 0 default) ((x.args.map (Ex.hul V T)).getD 1 default) ((x.args.map (Ex.hul V T)).getD 2 default) else zj9 T x.op x.name (seqH (x.args.map (Ex.hul V T))):=by
 cases x with
 | mk o n u s l=>rw [Ex.hul,Ex.wos];rfl
def hulF (x:Ex) (zs:List Zn) (ms:List Tb):Kr:=bif !xub x||x.xi4 then .inl 2 else match entZ zs ms with
 | none=>.inl 1
 | some p=>x.hul p.1 p.2
def zq3 (t:Bool):Kr->Kr
 | .inl e=>.inl e
 | .inr k=>bif k.t==t then .inr k else .inl 13
theorem wym:∀{l:List Kr} {ks:List Kn},seqH l=.inr ks->ks.length=l.length/\∀ i,i<l.length->l.getD i default=.inr (ks.getD i default)
 | [],ks,h=>by rw [seqH] at h;cases h;exact ⟨rfl,fun i hi=>by simp at hi⟩
 | .inl e::l,ks,h=>by rw [seqH] at h;cases h
 | .inr k::l,ks,h=>by
  rw [seqH] at h
  cases hs:seqH l with
  | inl e=>rw [hs] at h;cases h
  | inr r2=>
   rw [hs] at h;cases h;obtain ⟨h1,h2⟩:=wym hs;refine ⟨by simp [h1],fun i hi=>?_⟩
   cases i with
   | zero=>rfl
   | succ i=>simpa using h2 i (by simpa using hi)
theorem v56:∀{l:List Kr} {e:Int},seqH l=.inl e->Sum.inl e∈l
 | [],e,h=>by rw [seqH] at h;cases h
 | .inl e'::l,e,h=>by rw [seqH] at h;cases h;exact List.mem_cons_self
 | .inr k::l,e,h=>by
  rw [seqH] at h
  cases hs:seqH l with
  | inl e'=>rw [hs] at h;cases h;exact List.mem_cons_of_mem _ (v56 hs)
  | inr r2=>rw [hs] at h;cases h
def Kok (n:Nat):Kr->Prop
 | .inl e=>e≠0
 | .inr (.tru _ _)=>True
 | .inr (.num v)=>ivZ v<=n
theorem Kok.mono {n m:Nat} (h:n<=m):∀{r:Kr},Kok n r->Kok m r
 | .inl _,q=>q
 | .inr (.tru _ _),_=>trivial
 | .inr (.num _),q=>Nat.le_trans q h
theorem yp5 (q:Rat):ivZ (Iv.pt q)=qs q:=Nat.max_self _
theorem wsl {c d:Rat} {n:Nat} (h1:qs a<=n) (h2:qs b<=n) (h3:qs c<=n) (h4:qs d<=n):qs (mn4 a b c d)<=n/\qs (mx4 a b c d)<=n:=by
 constructor
 . rcases xva a b c d with e | e | e | e<;>rw [e]<;>assumption
 . rcases y66 a b c d with e | e | e | e<;>rw [e]<;>assumption
theorem wtv (v:Iv):qs v.lo<=ivZ v:=Nat.le_max_left _ _
theorem vin (v:Iv):qs v.hi<=ivZ v:=Nat.le_max_right _ _
theorem whn {c d:Rat} {n:Nat} (h1:qs a<=n) (h2:qs b<=n) (h3:qs c<=n) (h4:qs d<=n):ivZ (Iv.round a b c d)<=n:=by
 have:=wsl h1 h2 h3 h4
 exact Nat.max_le.2 this
theorem z0f (a b:Iv):ivZ (a.add b)<=ivZ a+ivZ b+1:=by
 have h1:qs (a.lo+b.lo)<=qs a.lo+qs b.lo+1:=Fc.va3 a.lo b.lo;have h2:qs (a.hi+b.hi)<=qs a.hi+qs b.hi+1:=Fc.va3 a.hi b.hi
 have:=wtv a;have:=wtv b;have:=vin a;have:=vin b
 exact Nat.max_le.2 ⟨by show qs (a.lo+b.lo)<=_;omega,by show qs (a.hi+b.hi)<=_;omega⟩
theorem zro (a b:Iv):ivZ (a.sub b)<=ivZ a+ivZ b+1:=by
 have:=z0f a b.neg
 rw [za4] at this;exact this
theorem vl3 (a b:Iv):ivZ (a.mul b)<=ivZ a+ivZ b:=by
 have:=wtv a;have:=wtv b;have:=vin a;have:=vin b
 have h1:=yfd a.lo b.lo;have h2:=yfd a.lo b.hi;have h3:=yfd a.hi b.lo;have h4:=yfd a.hi b.hi;exact whn (by omega) (by omega) (by omega) (by omega)
theorem ysi {a b:Iv} {n:Nat} (ha:ivZ a<=n) (hb:ivZ b<=n):ivZ (a.hull b)<=n:=by
 have:=wtv a;have:=wtv b;have:=vin a;have:=vin b
 exact whn (by omega) (by omega) (by omega) (by omega)
theorem xwz {a b:Iv} {n:Nat} (ha:ivZ a<=n) (hb:ivZ b<=n):ivZ (a.minI b)<=n:=by
 have:=wtv a;have:=wtv b;have:=vin a;have:=vin b
 refine Nat.max_le.2 ⟨?_,?_⟩
 . show qs (min a.lo b.lo)<=n
   rcases vdp a.lo b.lo with e | e<;>rw [e]<;>omega
 . show qs (min a.hi b.hi)<=n
   rcases vdp a.hi b.hi with e | e<;>rw [e]<;>omega
theorem yqv {a b:Iv} {n:Nat} (ha:ivZ a<=n) (hb:ivZ b<=n):ivZ (a.maxI b)<=n:=by
 have:=wtv a;have:=wtv b;have:=vin a;have:=vin b
 refine Nat.max_le.2 ⟨?_,?_⟩
 . show qs (max a.lo b.lo)<=n
   rcases yqy a.lo b.lo with e | e<;>rw [e]<;>omega
 . show qs (max a.hi b.hi)<=n
   rcases yqy a.hi b.hi with e | e<;>rw [e]<;>omega
theorem xfj (b:Iv):ivZ b.inv<=ivZ b+5:=by
 unfold Iv.inv
 have:=wtv b;have:=vin b
 split
 . have s1:qs (1 / b.hi)<=_:=x3y ((1:Int):Rat) b.hi;have s2:qs (1 / b.lo)<=_:=x3y ((1:Int):Rat) b.lo
   have:=wsd
   exact Nat.max_le.2 ⟨by show qs (1 / b.hi)<=_;omega,by show qs (1 / b.lo)<=_;omega⟩
 . omega
theorem yqt {t:Tb} (ht:tbOk t=true) (q:Rat):((wyo t (some q)).2=0/\∃ w,(wyo t (some q)).1=some w/\qs w<=4204)\/((wyo t (some q)).2=4/\(wyo t (some q)).1=none):=by
 obtain ⟨⟨u,hu,hq⟩,_,_,hr⟩:=yun ht;have hz:=xbu t (some q);unfold wyo at hz ⊢;rw [show zi4 (fun s=>(zte s).2) t=true from ht] at hz ⊢;simp only [Bool.not_true,cond_false] at hz ⊢
 cases h0:decide (aft q t.rows=0) with
 | true=>exact .inr ⟨rfl,rfl⟩
 | false=>
  rw [h0] at hz;refine .inl ⟨rfl,((t.rows.getD (aft q t.rows-1) default).v:Rat)*u.f,?_,?_⟩
  . simp only [cond_false];unfold zxb facO;rw [hu];rfl
  . have:qz (zxb t (t.rows.getD (aft q t.rows-1) default).v)<=4204:=hz
    unfold zxb facO at this;rw [hu] at this;exact this
theorem zy9 {t:Tb} (ht:tbOk t=true) (k:Iv):∀(l:List Rw) (v:Iv),ivZ v<=4204->ivZ (yk1 t k l v)<=4204
 | [],v,h=>h
 | r::l,v,h=>by
  refine zy9 ht k l _ ?_
  cases k.has (r.k:Rat) with
  | false=>exact h
  | true=>
   refine ysi h ?_;rw [yp5]
   rcases yqt ht (r.k:Rat) with ⟨_,w,hw,hq⟩ | ⟨_,hw⟩<;>rw [hw]
   . exact hq
   . have:=wtn (n:=0) (by unfold inI;omega)
     exact Nat.le_trans this (by decide)
theorem xgq {t:Tb} (ht:tbOk t=true) (k:Iv):Kok 4204 (x7a t k):=by
 unfold x7a
 rcases yqt ht k.lo with ⟨h,w,hw,hq⟩ | ⟨h,hw⟩
 . rw [h,decide_eq_true rfl,cond_true,hw];exact zy9 ht k _ _ (by rw [yp5];exact hq)
 . rw [h];exact (by decide:(4:Int)≠0)
theorem xeg (o:Int) (a b:Iv):Kok (ivZ a+ivZ b+5) (numH o a b):=by
 have h1:=z0f a b;have h2:=zro a b;have h3:=vl3 a b;have h4:=vl3 a b.inv;have h5:=xfj b;have h6:=xwz (a:=a) (b:=b) (n:=ivZ a+ivZ b+5) (by omega) (by omega);have h7:=yqv (a:=a) (b:=b) (n:=ivZ a+ivZ b+5) (by omega) (by omega);unfold numH
 repeat' first
  | exact trivial
  | (show ivZ _<=_;omega)
  | (show (15:Int)≠0;decide)
  | (cases decide (o=_)<;>simp only [cond_true,cond_false])
  | (cases b.has 0<;>simp only [cond_true,cond_false])
def Ism (B:Nat) (V:Vi):Prop:=∀ s v,ycr V s=some v->ivZ v+10<=B
theorem zfk {V:Vi} (hB:4300<=B) (hV:Ism B V) (hT:∀ s t,ycr T s=some t->t.Sm/\tbOk t=true):∀ x:Ex,x.shaped=true->x.xi4=false->Kok (B*x.nd) (x.hul V T):=by
 refine Ex.ind (fun x ih hsh hcl=>?_);rw [Ex.xg3,Bool.and_eq_true,List.all_eq_true] at hsh;rw [Ex.wd9,Bool.or_eq_false_iff,decide_eq_false_iff_not,List.any_eq_false] at hcl;obtain ⟨hnode,hargs⟩:=hsh;have hnd:=Ex.yuy x;have h1:B<=B*x.nd:=Nat.le_mul_of_pos_right _ (by omega)
 have hmem:∀ i,i<x.args.length->Kok (B*(x.args.getD i default).nd) ((x.args.map (Ex.hul V T)).getD i default):=fun i hi=>by
  have hm:=w4t hi;rw [getD_map hi];exact ih _ hm (hargs _ hm) (by simpa using hcl.2 _ hm)
 have hle:∀ i,i<x.args.length->B*(x.args.getD i default).nd<=B*x.nd:=fun i hi=>Nat.mul_le_mul_left _ (by have:=Ex.xks (w4t hi);omega)
 rw [Ex.y5j];by_cases h0:x.op=0
 . rw [decide_eq_true h0,cond_true];have hn:=zta hnode h0;unfold vlw
   rcases v4u x.unit with ⟨u,h,hq⟩ | ⟨e,he,h⟩
   . unfold facO;rw [h];show ivZ (Iv.pt ((x.n:Rat)*u.f))<=_;rw [yp5];have h2:=yfd (x.n:Rat) u.f;have h3:qs (x.n:Rat)<=4:=wtn (n:=x.n) (by unfold inI;omega);omega
   . rw [h,show decide (¬e=0)=true from decide_eq_true he];exact (by decide:(14:Int)≠0)
 rw [decide_eq_false h0,cond_false];by_cases h01:x.op=1
 . rw [decide_eq_true h01,cond_true];unfold yy3
   cases hl:ycr V x.name with
   | none=>exact (by decide:(11:Int)≠0)
   | some v=>
    have:=hV _ _ hl
    show ivZ v<=_;omega
 rw [decide_eq_false h01,cond_false]
 have hne:x.args.length≠0:=fun h=>by
  unfold yxn at hnode;rw [decide_eq_false h0,decide_eq_false h01,h] at hnode;simp at hnode
 obtain ⟨hl2,hl3⟩:=x6z hnode hcl.1 hne;by_cases h5:x.op=5
 . rw [decide_eq_true h5,cond_true];have hl:=hl3 h5;have k0:=hmem 0 (by omega);have k1:=(hmem 1 (by omega)).mono (hle 1 (by omega));have k2:=(hmem 2 (by omega)).mono (hle 2 (by omega));generalize (x.args.map (Ex.hul V T)).getD 0 default=r0 at k0;generalize (x.args.map (Ex.hul V T)).getD 1 default=r1 at k1;generalize (x.args.map (Ex.hul V T)).getD 2 default=r2 at k2;unfold chH
   rcases r0 with e | ⟨c,d⟩ | v
   . exact k0
   . cases c
     . exact k2
     . rcases r1 with e | a
       . exact k1
       . cases d
         . exact k1
         . rcases r2 with e | b
           . exact k2
           . rcases a with ⟨c,d⟩ | a<;>rcases b with ⟨c',d'⟩ | b
             . exact trivial
             . exact (by decide:(13:Int)≠0)
             . exact (by decide:(13:Int)≠0)
             . exact ysi k1 k2
   . exact (by decide:(13:Int)≠0)
 rw [decide_eq_false h5,cond_false]
 cases hs:seqH (x.args.map (Ex.hul V T)) with
 | inl e=>
  obtain ⟨i,hi,he⟩:=List.getElem_of_mem (v56 hs);rw [List.length_map] at hi
  have:=hmem i hi
  rw [show (x.args.map (Ex.hul V T)).getD i default=.inl e from by rw [<-he];simp [hi]] at this;exact this
 | inr ks=>
  obtain ⟨hlen,hget⟩:=wym hs;rw [List.length_map] at hlen hget;show Kok _ (opH T x.op x.name ks);unfold opH
  cases hA:decide (x.op=2)&&!(ycr T x.name).isSome with
  | true=>exact (by decide:(11:Int)≠0)
  | false=>
   rw [cond_false]
   cases hany:ks.any (fun k=>!(k.t==ze4 x.op)) with
   | true=>exact (by decide:(13:Int)≠0)
   | false=>
    rw [cond_false]
    cases hlg:ze4 x.op with
    | true=>
     rw [cond_true];unfold truH
     cases decide (x.op=4)<;>cases decide (x.op=14)<;>exact trivial
    | false=>
     rw [cond_false];by_cases h2:x.op=2
     . rw [decide_eq_true h2] at hA ⊢;rw [cond_true]
       cases hl:ycr T x.name with
       | none=>rw [hl] at hA;cases hA
       | some t=>exact (xgq (hT _ _ hl).2 _).mono (by omega)
     . rw [decide_eq_false h2,cond_false]
       have h4:x.op≠4:=fun h=>by unfold ze4 at hlg;rw [decide_eq_true h] at hlg;simp at hlg
       have hl:=hl2 h2 h4;have ha:=xeg x.op (ks.getD 0 default).v (ks.getD 1 default).v;have m0:=hmem 0 (by omega);have m1:=hmem 1 (by omega);rw [hget 0 (by omega)] at m0;rw [hget 1 (by omega)] at m1
       have hv:∀(k:Kn) (n:Nat),Kok n (.inr k)->B<=n->ivZ k.v<=n:=fun k n h hn=>by
        cases k with
        | tru c d=>
         show ivZ (Iv.pt 0)<=n;rw [yp5]
         have:qs (0:Rat)<=4:=wtn (n:=0) (by unfold inI;omega)
         omega
        | num v=>exact h
       have b0:B<=B*(x.args.getD 0 default).nd:=Nat.le_mul_of_pos_right _ (by have:=Ex.yuy (x.args.getD 0 default);omega);have b1:B<=B*(x.args.getD 1 default).nd:=Nat.le_mul_of_pos_right _ (by have:=Ex.yuy (x.args.getD 1 default);omega);have m0:=hv _ _ m0 b0;have m1:=hv _ _ m1 b1;have hn2:=Ex.nd2 hl;have hd:=Nat.mul_add B (x.args.getD 0 default).nd (x.args.getD 1 default).nd;have he:B*((x.args.getD 0 default).nd+(x.args.getD 1 default).nd+1)<=B*x.nd:=Nat.mul_le_mul_left _ (by omega);rw [Nat.mul_add,hd] at he;exact ha.mono (by omega)
theorem vlg {zs:List Zn} {V:Vi} (h:entZ zs ms=some (V,T)) (hb:∀ b∈zs,b.s.sz+10<=B):Ism B V:=fun s v hv=>by
 obtain ⟨h1,_,_,h4,_⟩:=y36 h;rw [h4] at hv;obtain ⟨b,hb1,rfl⟩:=Option.map_eq_some_iff.1 hv;have hm:=(wud hb1).1;obtain ⟨w,hw⟩:=x6c (of_decide_eq_true (h1 b hm))
 have:=hb b hm
 rw [hw] at this ⊢;rw [xjv];exact this
theorem x3w {zs:List Zn} {V:Vi} (h:entZ zs ms=some (V,T)) (hb:∀ t∈ms,t.Sm):∀ s t,ycr T s=some t->t.Sm/\tbOk t=true:=fun s t ht=>by
 obtain ⟨_,h2,_,_,h5⟩:=y36 h;rw [h5] at ht;have hm:=(wud ht).1;exact ⟨hb t hm,h2 t hm⟩
def Iv.In (a:Iv) (q:Rat):Prop:=a.lo<=q/\q<=a.hi
def Iv.Le (a b:Iv):Prop:=b.lo<=a.lo/\a.hi<=b.hi
theorem Iv.Le.in {a b:Iv} {q:Rat} (h:a.Le b) (hq:a.In q):b.In q:=⟨Rat.le_trans h.1 hq.1,Rat.le_trans hq.2 h.2⟩
theorem wap {c d:Rat} (h1:a<=c) (h2:b<=d):min a b<=min c d:=wm6 (Rat.le_trans (zgf _ _) h1) (Rat.le_trans (xvo _ _) h2)
theorem ygf {c d:Rat} (h1:a<=c) (h2:b<=d):max a b<=max c d:=vq9 (Rat.le_trans h1 (wod _ _)) (Rat.le_trans h2 (vbu _ _))
def tw (t:Tb) (i:Nat):Rat:=(zxb t (t.rows.getD i default).v).getD 0
theorem vhj {t:Tb} (ht:tbOk t=true) (i:Nat):zxb t (t.rows.getD i default).v=some (tw t i):=by
 obtain ⟨⟨u,hu,hq⟩,_,_,_⟩:=yun ht;unfold tw zxb facO;rw [hu];rfl
theorem z9a {t:Tb} (ht:tbOk t=true) (q:Rat):wyo t (some q)=bif decide (aft q t.rows=0) then (none,4) else (some (tw t (aft q t.rows-1)),0):=by
 unfold wyo;rw [show zi4 (fun s=>(zte s).2) t=true from ht];simp only [Bool.not_true,cond_false];rw [vhj ht]
theorem vxw {t:Tb} (ht:tbOk t=true) (hj:j<t.rows.length):aft ((t.rows.getD j default).k:Rat) t.rows=j+1:=by
 have hr:=(yun ht).2.2.2;refine z7c (by omega) (fun i hi=>y6s (hr.mono (by omega) hj)) (fun hlt=>?_)
 have:=(hr (j+1) hlt).2.2 (by omega)
 rw [Nat.add_sub_cancel] at this;exact Rat.not_le.2 (Rat.intCast_lt_intCast.2 this)
theorem wyg {t:Tb} (ht:tbOk t=true) (hj:j<t.rows.length):wyo t (some ((t.rows.getD j default).k:Rat))=(some (tw t j),0):=by
 rw [z9a ht,vxw ht hj];rfl
theorem x24 {t:Tb} (ht:tbOk t=true) (k:Iv):(aft k.lo t.rows=0/\x7a t k=.inl 4)\/(aft k.lo t.rows≠0/\x7a t k=.inr (.num (yk1 t k t.rows (Iv.pt (tw t (aft k.lo t.rows-1)))))):=by
 unfold x7a;rw [z9a ht];by_cases h:aft k.lo t.rows=0
 . rw [decide_eq_true h];exact .inl ⟨h,rfl⟩
 . rw [decide_eq_false h];exact .inr ⟨h,rfl⟩
theorem xab {x:Ex} (h:yxn x=true) (h3:x.op≠3) (h0:x.op≠0) (h1:x.op≠1):2<=x.op/\x.op<=15/\(x.op=2\/x.op=4->x.args.length=1)/\(x.op=5->x.args.length=3)/\(x.op≠2->x.op≠4->x.op≠5->x.args.length=2):=by
 have hne:x.args.length≠0:=fun h'=>by
  unfold yxn at h;rw [decide_eq_false h0,decide_eq_false h1,h'] at h;simp at h
 obtain ⟨o1,o2⟩:=z3r h hne;refine ⟨o1,o2,?_⟩;unfold yxn at h;rw [decide_eq_false h0,cond_false] at h
 cases hb:(decide (¬x.n=0)||decide (¬x.unit.size=0)) with
 | true=>rw [hb,cond_true] at h;cases h
 | false=>
 rw [hb,cond_false,decide_eq_false h1,cond_false] at h;by_cases a2:x.op=2
 . rw [decide_eq_true a2,cond_true] at h;simp only [Bool.and_eq_true,decide_eq_true_eq] at h;omega
 rw [decide_eq_false a2,cond_false,decide_eq_false h3,cond_false] at h;by_cases a4:x.op=4
 . rw [decide_eq_true a4,cond_true] at h;simp only [Bool.and_eq_true,decide_eq_true_eq] at h;omega
 rw [decide_eq_false a4,cond_false] at h;by_cases a5:x.op=5
 . rw [decide_eq_true a5,cond_true] at h;simp only [Bool.and_eq_true,decide_eq_true_eq] at h;omega
 rw [decide_eq_false a5,cond_false] at h
 cases hc:(decide (x.op=10)||decide (x.op=11)) with
 | true=>rw [hc,cond_true] at h;simp only [Bool.and_eq_true,decide_eq_true_eq] at h;omega
 | false=>rw [hc,cond_false] at h;simp only [Bool.and_eq_true,decide_eq_true_eq] at h;omega
def SndK:Kn->Rs->Prop
 | .tru c d,r=>r.t=true/\(r.i=true->c=true)/\(r.i=false->d=true)
 | .num v,r=>r.t=false/\∃ q,r.v=some q/\v.In q
theorem SndK.t:∀{k:Kn} {r:Rs},SndK k r->r.t=k.t
 | .tru _ _,_,h=>h.1
 | .num _,_,h=>h.1
theorem anyF {α:Type} [Inhabited α] {p:α->Bool} {l:List α} (h:l.any p=false) {i:Nat} (hi:i<l.length):p (l.getD i default)=false:=by
 rw [List.any_eq_false] at h;simpa using h _ (w4t hi)
theorem v6i {o:Int}:ze4 o=true↔o=4\/o=14\/o=15:=by
 unfold ze4;simp only [Bool.or_eq_true,decide_eq_true_eq,or_assoc]
end Go.Hp.T
namespace Go.Hp.T
open Go Go.RowKit Go.Slot Go.Hp Go.Slot.T
set_option maxRecDepth 10000
variable {a b:Rat} {o:Int}
theorem y5p {c d:Rat} {v:Iv} (h1:v.lo<=a/\v.lo<=b/\v.lo<=c/\v.lo<=d) (h2:a=v.lo\/b=v.lo\/c=v.lo\/d=v.lo) (h3:a<=v.hi/\b<=v.hi/\c<=v.hi/\d<=v.hi) (h4:a=v.hi\/b=v.hi\/c=v.hi\/d=v.hi):Iv.round a b c d=v:=by
 obtain ⟨p1,p2,p3,p4⟩:=x3q a b c d;obtain ⟨q1,q2,q3,q4⟩:=vxc a b c d;refine Iv.ext' (Rat.le_antisymm ?_ (xbl h1.1 h1.2.1 h1.2.2.1 h1.2.2.2)) (Rat.le_antisymm (xvb h3.1 h3.2.1 h3.2.2.1 h3.2.2.2) ?_)
 . rcases h2 with h | h | h | h<;>rw [<-h]<;>assumption
 . rcases h4 with h | h | h | h<;>rw [<-h]<;>assumption
theorem zi3 (a b c d:Rat):Iv.round a c b d=Iv.round a b c d:=by
 obtain ⟨p1,p2,p3,p4⟩:=x3q a b c d;obtain ⟨q1,q2,q3,q4⟩:=vxc a b c d;refine y5p ⟨p1,p3,p2,p4⟩ ?_ ⟨q1,q3,q2,q4⟩ ?_
 . rcases xva a b c d with h | h | h | h
   . exact .inl h.symm
   . exact .inr (.inr (.inl h.symm))
   . exact .inr (.inl h.symm)
   . exact .inr (.inr (.inr h.symm))
 . rcases y66 a b c d with h | h | h | h
   . exact .inl h.symm
   . exact .inr (.inr (.inl h.symm))
   . exact .inr (.inl h.symm)
   . exact .inr (.inr (.inr h.symm))
def ywp (g:Rat->Rat->Rat) (a b:Iv):Iv:=Iv.round (g a.lo b.lo) (g a.hi b.lo) (g a.lo b.hi) (g a.hi b.hi)
theorem zyy (a b:Iv):ywp (· + ·) a b=a.add b:=
 y5p ⟨x1r Rat.le_refl Rat.le_refl,x1r a.h Rat.le_refl,x1r Rat.le_refl b.h,x1r a.h b.h⟩ (.inl rfl) ⟨x1r a.h b.h,x1r Rat.le_refl b.h,x1r a.h Rat.le_refl,Rat.le_refl⟩ (.inr (.inr (.inr rfl)))
theorem x37 {c d:Rat} (h1:a<=c) (h2:d<=b):a-b<=c-d:=by
 rw [Rat.sub_eq_add_neg,Rat.sub_eq_add_neg];exact x1r h1 (Rat.neg_le_neg h2)
theorem vvc (a b:Iv):(a.sub b).lo=a.lo-b.hi:=(Rat.sub_eq_add_neg _ _).symm
theorem zti (a b:Iv):(a.sub b).hi=a.hi-b.lo:=(Rat.sub_eq_add_neg _ _).symm
theorem ybo (a b:Iv):ywp (· - ·) a b=a.sub b:=by
 refine y5p ?_ ?_ ?_ ?_
 . rw [vvc];exact ⟨x37 Rat.le_refl b.h,x37 a.h b.h,Rat.le_refl,x37 a.h Rat.le_refl⟩
 . rw [vvc];exact .inr (.inr (.inl rfl))
 . rw [zti];exact ⟨x37 a.h Rat.le_refl,Rat.le_refl,x37 a.h b.h,x37 Rat.le_refl b.h⟩
 . rw [zti];exact .inr (.inl rfl)
theorem xgt (a b:Iv):ywp (· * ·) a b=a.mul b:=zi3 _ _ _ _
theorem vp2 (a b:Iv) (h:b.has 0=false):ywp (· / ·) a b=a.mul b.inv:=by
 have e:b.inv=⟨1 / b.hi,1 / b.lo,Iv.xap h⟩:=dif_pos h
 have d:∀ x y:Rat,x / y=x*(1 / y):=fun x y=>by rw [Rat.div_def,Rat.div_def,Rat.one_mul]
 rw [e];show Iv.round (a.lo / b.lo) (a.hi / b.lo) (a.lo / b.hi) (a.hi / b.hi)=_;rw [d a.lo b.lo,d a.hi b.lo,d a.lo b.hi,d a.hi b.hi];obtain ⟨p1,p2,p3,p4⟩:=x3q (a.lo*(1 / b.hi)) (a.lo*(1 / b.lo)) (a.hi*(1 / b.hi)) (a.hi*(1 / b.lo));obtain ⟨q1,q2,q3,q4⟩:=vxc (a.lo*(1 / b.hi)) (a.lo*(1 / b.lo)) (a.hi*(1 / b.hi)) (a.hi*(1 / b.lo));refine y5p ⟨p2,p4,p1,p3⟩ ?_ ⟨q2,q4,q1,q3⟩ ?_
 . rcases xva (a.lo*(1 / b.hi)) (a.lo*(1 / b.lo)) (a.hi*(1 / b.hi)) (a.hi*(1 / b.lo)) with h | h | h | h
   . exact .inr (.inr (.inl h.symm))
   . exact .inl h.symm
   . exact .inr (.inr (.inr h.symm))
   . exact .inr (.inl h.symm)
 . rcases y66 (a.lo*(1 / b.hi)) (a.lo*(1 / b.lo)) (a.hi*(1 / b.hi)) (a.hi*(1 / b.lo)) with h | h | h | h
   . exact .inr (.inr (.inl h.symm))
   . exact .inl h.symm
   . exact .inr (.inr (.inr h.symm))
   . exact .inr (.inl h.symm)
theorem x3x (a b:Iv):ywp (fun x y=>min x y) a b=a.minI b:=
 y5p ⟨Rat.le_refl,wap a.h Rat.le_refl,wap Rat.le_refl b.h,wap a.h b.h⟩ (.inl rfl) ⟨wap a.h b.h,wap Rat.le_refl b.h,wap a.h Rat.le_refl,Rat.le_refl⟩ (.inr (.inr (.inr rfl)))
theorem zok (a b:Iv):ywp (fun x y=>max x y) a b=a.maxI b:=
 y5p ⟨Rat.le_refl,ygf a.h Rat.le_refl,ygf Rat.le_refl b.h,ygf a.h b.h⟩ (.inl rfl) ⟨ygf a.h b.h,ygf Rat.le_refl b.h,ygf a.h Rat.le_refl,Rat.le_refl⟩ (.inr (.inr (.inr rfl)))
def Kn.may:Kn->Prop
 | .tru c d=>c=true\/d=true
 | .num _=>True
theorem w4v {a b:Iv} {k:Kn} (h:numH o a b=.inr k):k.may:=by
 unfold numH at h;generalize decide (o=6)=c6,decide (o=7)=c7,decide (o=8)=c8,decide (o=9)=c9,decide (o=10)=c10,decide (o=11)=c11,decide (o=12)=c12,b.has 0=z at h
 cases c6 with
 | true=>cases h;trivial
 | false=>
 cases c7 with
 | true=>cases h;trivial
 | false=>
 cases c8 with
 | true=>cases h;trivial
 | false=>
 cases c9 with
 | true=>cases z<;>cases h;trivial
 | false=>
 cases c10 with
 | true=>cases h;trivial
 | false=>
 cases c11 with
 | true=>cases h;trivial
 | false=>
 cases c12 with
 | true=>
  cases h;show decide (a.lo<b.hi)=true\/decide (b.lo<=a.hi)=true;by_cases hlt:a.lo<b.hi
  . exact .inl (decide_eq_true hlt)
  . exact .inr (decide_eq_true (Rat.le_trans b.h (Rat.le_trans (Rat.not_lt.1 hlt) a.h)))
 | false=>
  cases h;show a.meets b=true\/(!(decide (a=b)&&decide (a.lo=a.hi)))=true;by_cases e:a=b
  . subst e;exact .inl (decide_eq_true (vq9 (wm6 a.h a.h) (wm6 a.h a.h)))
  . exact .inr (by rw [decide_eq_false e];rfl)
theorem xra {a b : Kn} (_ho : ze4 o = true) (ha : a.may) (hb : o ≠ 4 → b.may) (ta : a.t = true) (tb : o ≠ 4 → b.t = true) : (truH o a b).may := by
 rcases a with ⟨c,d⟩ | a
 . unfold truH;by_cases h4:o=4
   . rw [decide_eq_true h4];exact ha.symm
   . have hb:=hb h4;have tb:=tb h4
     rcases b with ⟨c',d'⟩ | b
     . rw [decide_eq_false h4,cond_false];have ha:c=true\/d=true:=ha;have hb:c'=true\/d'=true:=hb
       cases decide (o=14)
       . show (c||c')=true\/(d&&d')=true
         rcases ha with rfl | rfl<;>rcases hb with rfl | rfl<;>simp
       . show (c&&c')=true\/(d||d')=true
         rcases ha with rfl | rfl<;>rcases hb with rfl | rfl<;>simp
     . cases tb
 . cases ta
theorem z6d {n:Int} {u:ByteArray} {k:Kn} (h:vlw n u=.inr k):k.may:=by
 unfold vlw at h;generalize decide (¬(zte u).2=0)=c,mulO (some (n:Rat)) (facO u)=m at h
 cases c with
 | true=>cases h
 | false=>cases m with
  | none=>cases h
  | some q=>cases h;trivial
theorem yxg {a b k:Kn} (h:xx9 a b=.inr k) (ha:a.may):k.may:=by
 rcases a with ⟨c,d⟩ | a<;>rcases b with ⟨c',d'⟩ | b<;>cases h
 . have ha:c=true\/d=true:=ha;show (c||c')=true\/(d||d')=true
   rcases ha with rfl | rfl<;>simp
 . trivial
theorem v4q {V:Vi} {T:Vt}:∀ x:Ex,x.shaped=true->x.xi4=false->∀ k,x.hul V T=.inr k->k.may:=by
 refine Ex.ind (fun x ih hsh hcl k h=>?_)
 have hnode:yxn x=true:=by rw [Ex.xg3,Bool.and_eq_true] at hsh;exact hsh.1
 have hargs:∀ y∈x.args,y.shaped=true:=by rw [Ex.xg3,Bool.and_eq_true,List.all_eq_true] at hsh;exact hsh.2
 have hcalls:x.op≠3/\∀ y∈x.args,y.xi4=false:=by
  rw [Ex.wd9,Bool.or_eq_false_iff,decide_eq_false_iff_not,List.any_eq_false] at hcl;exact ⟨hcl.1,fun y hy=>by simpa using hcl.2 y hy⟩
 have hih:∀ i,i<x.args.length->∀ k,(x.args.map (Ex.hul V T)).getD i default=.inr k->k.may:=fun i hi k h=>by
  rw [getD_map hi] at h;exact ih _ (w4t hi) (hargs _ (w4t hi)) (hcalls.2 _ (w4t hi)) k h
 rw [Ex.y5j] at h;by_cases h0:x.op=0
 . rw [decide_eq_true h0,cond_true] at h;exact z6d h
 rw [decide_eq_false h0,cond_false] at h;by_cases h1:x.op=1
 . rw [decide_eq_true h1,cond_true] at h;unfold yy3 at h
   cases hl:ycr V x.name with
   | none=>rw [hl] at h;cases h
   | some v=>rw [hl] at h;cases h;trivial
 rw [decide_eq_false h1,cond_false] at h;obtain ⟨o1,o2,a1,a2,a3⟩:=xab hnode hcalls.1 h0 h1;by_cases h5:x.op=5
 . rw [decide_eq_true h5, cond_true] at h;have hl3:=a2 h5;have i1:=hih 1 (by omega);have i2:=hih 2 (by omega);generalize (x.args.map (Ex.hul V T)).getD 0 default=r0,(x.args.map (Ex.hul V T)).getD 1 default=r1,(x.args.map (Ex.hul V T)).getD 2 default=r2 at h i1 i2
   rcases r0 with e | ⟨c,d⟩ | v
   . cases h
   . cases c with
     | false=>exact i2 k h
     | true=>
      rcases r1 with e | a
      . cases h
      . cases d with
        | false=>exact i1 k h
        | true=>
         rcases r2 with e | b
         . cases h
         . exact yxg h (i1 a rfl)
   . cases h
 rw [decide_eq_false h5,cond_false] at h
 cases hs:seqH (x.args.map (Ex.hul V T)) with
 | inl e=>rw [hs] at h;cases h
 | inr ks=>
  rw [hs] at h;obtain ⟨hl,hk⟩:=wym hs;rw [List.length_map] at hl hk
  have hm:∀ i,i<ks.length->(ks.getD i default).may:=fun i hi=>hih i (by omega) _ (hk i (by omega))
  change opH T x.op x.name ks=.inr k at h;unfold opH at h
  cases hc:(decide (x.op=2)&&!(ycr T x.name).isSome) with
  | true=>rw [hc] at h;cases h
  | false=>
   rw [hc,cond_false] at h
   cases hany:ks.any (fun k=>!(k.t==ze4 x.op)) with
   | true=>rw [hany] at h;cases h
   | false=>
    rw [hany,cond_false] at h
    cases hlg:ze4 x.op with
    | true=>
     rw [hlg,cond_true] at h
     cases h
     have ht:∀ i,i<ks.length->(ks.getD i default).t=true:=fun i hi=>by
      have:=anyF hany hi
      rw [hlg] at this;simpa using this
     have hlog:=v6i.1 hlg
     have h4:x.op=4->ks.length=1:=fun e=>hl.trans (a1 (.inr e))
     have h5':x.op≠4->ks.length=2:=fun e=>hl.trans (a3 (by omega) e h5)
     by_cases e4:x.op=4
     . have:=h4 e4
       exact xra hlg (hm 0 (by omega)) (fun e=>absurd e4 e) (ht 0 (by omega)) (fun e=>absurd e4 e)
     . have:=h5' e4
       exact xra hlg (hm 0 (by omega)) (fun _=>hm 1 (by omega)) (ht 0 (by omega)) (fun _=>ht 1 (by omega))
    | false=>
     rw [hlg,cond_false] at h;by_cases h2:x.op=2
     . rw [decide_eq_true h2,cond_true] at h;unfold x7a at h;generalize decide ((wyo ((ycr T x.name).getD default) (some (ks.getD 0 default).v.lo)).2=0)=c at h
       cases c with
       | true=>cases h;trivial
       | false=>cases h
     . rw [decide_eq_false h2,cond_false] at h;exact w4v h
end Go.Hp.T
namespace Go.Hp.T
open Go Go.RowKit Go.Slot Go.Hp Go.Slot.T
open Go.Proofs.Tryz (prog)
set_option maxRecDepth 10000
set_option maxHeartbeats 4000000
variable {Γ:List (Nat×List Cell)}
variable {i a b:Nat} {place:Nat->Option (Nat×Nat)} {cs:List HC} {r:List (Nat×SV)}
theorem xf4 {p:Nat->Prop} (h:∀ j,j<i->p j) (hi:p i):∀ j,j<i+1->p j:=fun j hj=>by
 rcases Nat.lt_or_eq_of_le (Nat.le_of_lt_succ hj) with h2 | h2
 . exact h j h2
 . rw [h2];exact hi
theorem xs8 (c:Int):CallsD Γ prog 206 [.one (c8 c)] (.one (cB (yio c))):=by
 refine CallsD.run [] Go.Proofs.Tryz.func206 rfl rfl rfl ?_;simp only [Go.Proofs.Tryz.f206];refine hgR ?_
 repeat' ((first | refine hfk ?_ ?_<;>intros | refine hik ?_)<;>refine hgS ?_)
 all_goals refine lf1 @yio.eq_def ?_;first | exact trivial | rfl
theorem zgb (c:Int):CallsD Γ prog 207 [.one (c8 c)] (.one (cB (isDigit c))):=by
 refine CallsD.run [] Go.Proofs.Tryz.func207 rfl rfl rfl ?_;simp only [Go.Proofs.Tryz.f207];refine hgR ?_
 repeat' ((first | refine hfk ?_ ?_<;>intros | refine hik ?_)<;>refine hgS ?_)
 all_goals refine lf1 @isDigit.eq_def ?_;first | exact trivial | rfl
theorem x79 {c:Int} (h:c<32\/126<c):ztv c=false:=by
 unfold ztv
 rcases h with h | h
 . rw [decide_eq_false (show ¬32<=c by omega)];rfl
 . rw [decide_eq_false (show ¬c<=126 by omega),Bool.and_false]
theorem yyt {c:Int} (h:¬c<32) (h':¬126<c):ztv c=true:=by
 unfold ztv;rw [decide_eq_true (show 32<=c by omega),decide_eq_true (show c<=126 by omega)];rfl
theorem zj7 {s:ByteArray} (hi:i<s.size) (hj:∀ j,j<i->ztv (x41 s j)=true) (h:ztv (x41 s i)=false):wku s=false:=by
 unfold wku;rw [xwo (by omega) hj (.inr h),decide_eq_true (show ¬((i:Int)=s.size) by omega),Bool.or_true];rfl
theorem xgj {s:ByteArray} (hj:∀ j,j<s.size->ztv (x41 s j)=true):wku s=decide ((s.size:Int)<=400):=by
 unfold wku;rw [xwo (Nat.le_refl _) hj (.inl rfl),decide_eq_false (show ¬¬((s.size:Int)=s.size) from fun h=>h rfl),Bool.or_false];by_cases h:(s.size:Int)<=400
 . rw [decide_eq_true h,decide_eq_false (show ¬400<(s.size:Int) by omega)];rfl
 . rw [decide_eq_false h,decide_eq_true (show 400<(s.size:Int) by omega)];rfl
theorem yyi (s:ByteArray) (hs:s.size<=1073741824):CallsD Γ prog 234 [.one (cS s)] (.one (cB (wku s))):=by
 refine CallsD.run [] Go.Proofs.Tryz.func234 rfl rfl rfl ?_;simp only [Go.Proofs.Tryz.f234];refine hgR ?_;refine y55 [0] (fun n:Nat=>[(3,.one (.dat (cI n)))]) (fun _=>[]) (fun n=>n<=s.size/\∀ j,j<n->ztv (x41 s j)=true) (fun n=>s.size-n) 0 ⟨Nat.zero_le _,fun j hj=>by omega⟩ ?_ ?_
 . refine hg ?_;exact StH.same svl rfl
 intro n hn;obtain ⟨hn,hj⟩:=hn;refine hg ?_
 repeat' ((first | refine hfk ?_ ?_<;>intros | refine hik ?_)<;>refine hgS ?_)
 . rw [zj7 (by omega) hj (x79 (.inr (by assumption)))];exact RLe.ofEq rfl
 . refine ⟨n+1,⟨by omega,xf4 hj (yyt (by assumption) (by assumption))⟩,by omega,StH.same svl rfl⟩
 . rw [zj7 (by omega) hj (x79 (.inl (by assumption)))];exact RLe.ofEq rfl
 . have e:n=s.size:=by omega
   subst e;rw [xgj hj];exact RLe.ofEq rfl
theorem zbh {s:ByteArray} (hi:i<s.size) (hj:∀ j,j<i->ycl (x41 s j)=true) (h:ycl (x41 s i)=false):isName s=false:=by
 unfold isName;rw [xwo (by omega) hj (.inr h),decide_eq_false (show ¬((i:Int)=s.size) by omega),Bool.and_false]
theorem y68 {s:ByteArray} (h:¬(s.size:Int)<=20):isName s=false:=by
 unfold isName;rw [decide_eq_false h,Bool.and_false,Bool.false_and]
theorem w6j {c:Int} (h:yio c=true):ycl c=true:=by unfold ycl;rw [h];rfl
theorem z2u (s:ByteArray) (hs:s.size<=1073741824):CallsD Γ prog 161 [.one (cS s)] (.one (cB (isName s))):=by
 refine CallsD.run [] Go.Proofs.Tryz.func161 rfl rfl rfl ?_;simp only [Go.Proofs.Tryz.f161];refine hgR ?_
 repeat' ((first | refine hfk ?_ ?_<;>intros | refine hik ?_ | with_reducible first | refine v6l (xs8 _) ?_ | refine vgi (xs8 _) ?_)<;>refine hgS ?_)
 . exact RLe.ofEq (by unfold isName;simp [*])
 . rename_i h1 _ h2 _ h3;refine y55 [0] (fun n:Nat=>[(3,.one (.dat (cI n)))]) (fun _=>[]) (fun n=>n<=s.size/\0<n/\∀ j,j<n->ycl (x41 s j)=true) (fun n=>s.size-n) 1 ⟨by omega,by omega,fun j hj=>?_⟩ ?_ ?_
   . have e:j=0:=by omega
     subst e;exact w6j h3
   . refine hg ?_;exact StH.same svl rfl
   intro n hn;obtain ⟨hn,hn0,hj⟩:=hn;refine hg ?_
   repeat' ((first | refine hfk ?_ ?_<;>intros | refine hik ?_ | with_reducible first | refine v6l (xs8 _) ?_ | refine vgi (xs8 _) ?_ | refine v6l (zgb _) ?_ | refine vgi (zgb _) ?_)<;>refine hgS ?_)
   . rename_i h4 h5 h6 _;rw [zbh (by omega) hj (by unfold ycl;rw [h4,h5,decide_eq_false h6];rfl)];exact RLe.ofEq rfl
   . rename_i h6 _;exact ⟨n+1,⟨by omega,by omega,xf4 hj (by unfold ycl;rw [decide_eq_true (show x41 s n=95 by omega),Bool.or_true])⟩,by omega,StH.same svl rfl⟩
   . rename_i h5;exact ⟨n+1,⟨by omega,by omega,xf4 hj (by unfold ycl;rw [h5,Bool.or_true,Bool.true_or])⟩,by omega,StH.same svl rfl⟩
   . rename_i h4;exact ⟨n+1,⟨by omega,by omega,xf4 hj (w6j h4)⟩,by omega,StH.same svl rfl⟩
   . have e:n=s.size:=by omega
     subst e
     have e:isName s=true:=by
      unfold isName;rw [xwo (Nat.le_refl _) hj (.inl rfl),h3,decide_eq_true (show ¬s.size=0 by omega),decide_eq_true (show (s.size:Int)<=20 by omega),decide_eq_true rfl];rfl
     rw [e];exact RLe.ofEq rfl
 . rw [y68 (by omega)];exact RLe.ofEq rfl
 . rename_i h _
   have e:s.size=0:=by omega
   exact RLe.ofEq (by unfold isName;rw [e];rfl)
def rEs (s:ByteArray):Nat->ByteArray
 | 0=>⟨#[34]⟩
 | i+1=>(bif decide (x41 s i=34)||decide (x41 s i=92) then rEs s i++⟨#[92]⟩ else rEs s i)++s.extract i (i+1)
theorem vr7 (s:ByteArray) (i:Nat):rEs s (i+1)=(bif decide (x41 s i=34)||decide (x41 s i=92) then rEs s i++⟨#[92]⟩ else rEs s i)++s.extract i (i+1):=by rw [rEs]
theorem zn2 (s:ByteArray):∀ i,(rEs s i).size<=2*i+1
 | 0=>by unfold rEs;decide
 | i+1=>by
  have:=zn2 s i
  have h2:(⟨#[92]⟩:ByteArray).size=1:=rfl
  have h3:(s.extract i (i+1)).size<=1:=by rw [ByteArray.size_extract];omega
  unfold rEs
  cases decide (x41 s i=34)||decide (x41 s i=92)<;>simp only [cond_true,cond_false,ByteArray.size_append]<;>omega
theorem vwh (s:ByteArray) (hs:s.size<=1073741824):CallsD Γ prog 235 [.one (cS s)] (.one (cS (rEs s s.size++⟨#[34]⟩))):=by
 refine CallsD.run [] Go.Proofs.Tryz.func235 rfl rfl rfl ?_;simp only [Go.Proofs.Tryz.f235];refine hgR ?_;refine y55 [0] (fun n:Nat=>[(3,.one (.dat (cS (rEs s n)))),(4,.one (.dat (cI n)))]) (fun _=>[]) (fun n=>n<=s.size) (fun n=>s.size-n) 0 (Nat.zero_le _) ?_ ?_
 . refine hg ?_;exact StH.same svl rfl
 intro n hn;have hl:=zn2 s n
 have h3:(s.extract n (n+1)).size<=1:=by rw [ByteArray.size_extract];omega
 have h4:(rEs s n).size+1+(s.extract n (n+1)).size<=9223372036854775807:=by omega
 have h5:(rEs s n).size+(s.extract n (n+1)).size<=9223372036854775807:=by omega
 clear h3 hl;refine hg ?_
 repeat' ((first | refine hfk ?_ ?_<;>intros | refine hik ?_)<;>refine hgS ?_)
 . rename_i _ _ h6 _
   have e:rEs s n++⟨#[92]⟩++s.extract n (n+1)=rEs s (n+1):=by rw [vr7,decide_eq_true h6,Bool.or_true];rfl
   rw [e];exact ⟨n+1,by omega,by omega,StH.same svl rfl⟩
 . rename_i h7 _ h6 _
   have e:rEs s n++s.extract n (n+1)=rEs s (n+1):=by rw [vr7,decide_eq_false h6,decide_eq_false h7];rfl
   rw [e];exact ⟨n+1,by omega,by omega,StH.same svl rfl⟩
 . rename_i h7 _
   have e:rEs s n++⟨#[92]⟩++s.extract n (n+1)=rEs s (n+1):=by rw [vr7,decide_eq_true h7,Bool.true_or];rfl
   rw [e];exact ⟨n+1,by omega,by omega,StH.same svl rfl⟩
 . have e:n=s.size:=by omega
   subst e;exact RLe.ofEq rfl
theorem yza (s:ByteArray) (hs:s.size<=1073741824):∃ t,CallsD Γ prog 197 [.one (cS s)] (.tup [.one (cS t),.one (cB (wku s))]):=by
 refine ⟨bif wku s then rEs s s.size++⟨#[34]⟩ else ⟨#[]⟩,?_⟩;refine CallsD.run [] Go.Proofs.Tryz.func197 rfl rfl rfl ?_;simp only [Go.Proofs.Tryz.f197];refine hgR ?_
 repeat' ((first | refine hfk ?_ ?_<;>intros | refine hik ?_ | with_reducible first | refine v6l (yyi s hs) ?_ | refine vgi (yyi s hs) ?_ | refine v6l (vwh s hs) ?_ | refine vgi (vwh s hs) ?_)<;>refine hgS ?_)
 all_goals refine lfE ?_;first | exact trivial | rfl
def vvx (place:Nat->Option (Nat×Nat)) (cs:List HC) (ps:List (Nat×SV)):Option (List HC):=xl4 place cs ps
def zoi (place:Nat->Option (Nat×Nat)) (cs:List HC) (r:List (Nat×SV)) (a:Option (Nat×Nat)) (b:Option (List HC)):Option (List HC):=match a,b with
 | some (off,size),some us=>if us.length=size/\off+size<=cs.length then xl4 place (cs.take off++us++cs.drop (off+size)) r else none
 | _,_=>none
def v6k (place:Nat->Option (Nat×Nat)) (cs:List HC) (r:List (Nat×SV)) (b:Bool):Option (List HC):=bif b then xl4 place cs r else none
theorem xic {ps:List (Nat×SV)}:xl4 place cs ps=vvx place cs ps:=rfl
theorem z7y:vvx place cs []=some cs:=rfl
theorem yjj {x:SV}:vvx place cs ((i,x)::r)=zoi place cs r (place i) (ymo x):=by
 unfold vvx;rw [xl4];rfl
theorem xhl:Nat.beq a b=decide (a=b):=by rw [Bool.eq_iff_iff,decide_eq_true_iff,Nat.beq_eq]
theorem wpe:Nat.ble a b=decide (a<=b):=by rw [Bool.eq_iff_iff,decide_eq_true_iff,Nat.ble_eq]
theorem vtb (h:a<=b):Nat.ble a b=true:=Nat.ble_eq_true_of_le h
theorem zsy {us:List HC} {off size:Nat}:zoi place cs r (some (off,size)) (some us)=v6k place (cs.take off++(us++cs.drop (off+size))) r (Nat.beq us.length size&&Nat.ble (off+size) cs.length):=by
 rw [<-List.append_assoc];show (if us.length=size/\off+size<=cs.length then xl4 place (cs.take off++us++cs.drop (off+size)) r else none)=_;rw [xhl,wpe];by_cases h1:us.length=size
 . by_cases h2:off+size<=cs.length
   . rw [if_pos ⟨h1,h2⟩,decide_eq_true h1,decide_eq_true h2];rfl
   . rw [if_neg (fun h=>h2 h.2),decide_eq_false h2,Bool.and_false];rfl
 . rw [if_neg (fun h=>h1 h.1),decide_eq_false h1];rfl
theorem vi4:v6k place cs r true=vvx place cs r:=rfl
attribute [go_sem ↓ 30000] xic
attribute [go_sem] z7y yjj zsy vi4 xhl vtb
theorem n12:((12:Nat):Int)=12:=rfl
attribute [go_sem] n12
theorem yug (s:ByteArray):isWord s=(seq ⟨#[110,111,116]⟩ s||seq ⟨#[105,102]⟩ s||seq ⟨#[116,104,101,110]⟩ s||seq ⟨#[101,108,115,101]⟩ s||seq ⟨#[97,110,100]⟩ s||seq ⟨#[111,114]⟩ s||seq ⟨#[108,111,111,107]⟩ s||seq ⟨#[109,105,110]⟩ s||seq ⟨#[109,97,120]⟩ s||seq ⟨#[105,110,116,111]⟩ s||seq ⟨#[116,111]⟩ s||seq ⟨#[97,115]⟩ s):=by
 unfold isWord;simp only [@wda s]
theorem x1b (s:ByteArray):CallsD Γ prog 162 [.one (cS s)] (.one (cB (isWord s))):=by
 rw [yug];refine CallsD.run [] Go.Proofs.Tryz.func162 rfl rfl rfl ?_;simp only [Go.Proofs.Tryz.f162];refine hgR ?_
 repeat' ((first | refine hfk ?_ ?_<;>intros | refine hik ?_ | with_reducible refine zum ?_ | with_reducible refine v3j ?_)<;>refine hgS ?_)
 all_goals refine lfE ?_;first | exact trivial | rfl
def xyh (o:Int):Int:=bif decide (o=0)||decide (o=1) then 0 else bif decide (o=2)||decide (o=4) then 1 else bif decide (o=5) then 3 else bif decide (o=6)||decide (o=7)||decide (o=8)||decide (o=9)||decide (o=10)||decide (o=11)||decide (o=12)||decide (o=13)||decide (o=14)||decide (o=15) then 2 else -1
theorem yr8 (o:Int):CallsD Γ prog 199 [.one (cI o)] (.one (cI (xyh o))):=by
 refine CallsD.run [] Go.Proofs.Tryz.func199 rfl rfl rfl ?_;simp only [Go.Proofs.Tryz.f199];refine hgR ?_
 repeat' ((first | refine hfk ?_ ?_<;>intros | refine hik ?_)<;>refine hgS ?_)
 all_goals refine lf1 @xyh.eq_def ?_;first | exact trivial | rfl
theorem zx8 (s:ByteArray) (hs:s.size<=1073741824):CallsD Γ prog 198 [.one (cS s)] (.one (cB (isNamed s))):=by
 refine CallsD.run [] Go.Proofs.Tryz.func198 rfl rfl rfl ?_;simp only [Go.Proofs.Tryz.f198];refine hgR ?_
 repeat' ((first | refine hfk ?_ ?_<;>intros | refine hik ?_ | with_reducible first | refine v6l (z2u s hs) ?_ | refine vgi (z2u s hs) ?_ | refine v6l (x1b s) ?_ | refine vgi (x1b s) ?_)<;>refine hgS ?_)
 all_goals refine lf1 @isNamed.eq_def ?_;first | exact trivial | rfl
def xye (x:Ex):Bool:=
 bif decide (x.op=0) then wku x.unit&&decide (0<=x.n)&&decide (x.n<=1099511627776)&&decide (x.name.size=0)&&decide ((x.args.length:Int)=0) else
 bif decide (¬x.n=0)||decide (¬x.unit.size=0) then false else
 bif decide (x.op=3) then isNamed x.name&&decide (1<=(x.args.length:Int))&&decide ((x.args.length:Int)<=6) else
 bif decide (x.op=1)||decide (x.op=2) then isNamed x.name&&decide ((x.args.length:Int)=xyh x.op) else
 decide (x.name.size=0)&&decide (0<(x.args.length:Int))&&decide ((x.args.length:Int)=xyh x.op)
theorem wic (x:Ex) (hx:x.Sm):CallsD Γ prog 157 [.agg (exC x)] (.one (cB (xye x))):=by
 have hu:=hx.u;have hs:=hx.s;have hl:=hx.len;obtain ⟨q,hq⟩:∃ q,CallsD Γ prog 197 [.one (cS x.unit)] (.tup [.one (cS q),.one (cB (wku x.unit))]):=yza x.unit hu;refine CallsD.run [] Go.Proofs.Tryz.func157 rfl rfl rfl ?_;simp only [Go.Proofs.Tryz.f157];refine hgR ?_
 repeat' ((first | refine hfk ?_ ?_<;>intros | refine hik ?_ | with_reducible first | refine hcA ?_ | refine hcB ?_ | refine v6l (zx8 x.name hs) ?_ | refine vgi (zx8 x.name hs) ?_ | refine v6l (yr8 _) ?_ | refine vgi (yr8 _) ?_)<;>refine hgS ?_)
 all_goals refine lf1 @xye.eq_def ?_;first | exact trivial | rfl
mutual
def Ex.rsh:Ex->Bool
 | .mk o n u s l=>xye (.mk o n u s l)&&Ex.rshL l
def Ex.rshL:List Ex->Bool
 | []=>true
 | y::l=>Ex.rsh y&&Ex.rshL l
end
theorem Ex.wam:∀ l:List Ex,Ex.rshL l=l.all Ex.rsh
 | []=>by rw [Ex.rshL];rfl
 | y::l=>by rw [Ex.rshL,Ex.wam l];rfl
theorem Ex.xss (x:Ex):x.rsh=(xye x&&x.args.all Ex.rsh):=by cases x;rw [Ex.rsh,Ex.wam];rfl
theorem all_true {p:Ex->Bool} {l:List Ex} (h:∀ j,j<l.length->p (l.getD j default)=true):l.all p=true:=by
 rw [List.all_eq_true];intro y hy;obtain ⟨j,hj,rfl⟩:=List.getElem_of_mem hy
 have:=h j hj
 rwa [show l.getD j default=l[j] from by simp [hj]] at this
theorem all_false {p:Ex->Bool} {l:List Ex} {j:Nat} (hj:j<l.length) (h:p (l.getD j default)=false):l.all p=false:=by
 cases e:l.all p with
 | false=>rfl
 | true=>rw [List.all_eq_true.1 e _ (w4t hj)] at h;cases h
theorem zzr:∀ x:Ex,x.Sm->CallsD Γ prog 105 [.agg (exC x)] (.one (cB x.rsh)):=by
 refine Ex.ind (fun x ih hx=>?_);have hl:=hx.len;refine CallsD.run [] Go.Proofs.Tryz.func105 rfl rfl rfl ?_;simp only [Go.Proofs.Tryz.f105];refine hgR ?_
 repeat' ((first | refine hfk ?_ ?_<;>intros | refine hik ?_ | with_reducible first | refine v6l (wic x hx) ?_ | refine vgi (wic x hx) ?_)<;>refine hgS ?_)
 . rename_i h0;rw [Ex.xss,h0];exact RLe.ofEq rfl
 . rename_i h0;refine y55 [1] (fun n:Nat=>[(3,.one (.dat (cI n)))]) (fun _=>[.box ((exC x).map .dat) (some 24)]) (fun n=>n<=x.args.length/\∀ j,j<n->(x.args.getD j default).rsh=true) (fun n=>x.args.length-n) 0 ⟨Nat.zero_le _,fun j hj=>by omega⟩ ?_ ?_
   . refine hg ?_;exact StH.same svl rfl
   intro n hn;obtain ⟨hn,hj⟩:=hn;refine hg ?_
   repeat' ((first | refine hfk ?_ ?_<;>intros | refine hik ?_ | with_reducible first | refine v6l (ih _ (w4t (show n<x.args.length by omega)) (hx.arg _ (w4t (show n<x.args.length by omega)))) ?_ | refine vgi (ih _ (w4t (show n<x.args.length by omega)) (hx.arg _ (w4t (show n<x.args.length by omega)))) ?_)<;>refine hgS ?_)
   . rename_i h1;rw [Ex.xss,all_false (by omega) h1,Bool.and_false];exact RLe.ofEq rfl
   . rename_i h1;exact ⟨n+1,⟨by omega,xf4 hj h1⟩,by omega,StH.same svl rfl⟩
   . have e:n=x.args.length:=by omega
     subst e;rw [Ex.xss,h0,all_true hj];exact RLe.ofEq rfl
mutual
def Ex.rsz:Ex->Int->Int->Int
 | .mk _ _ _ _ l,n,lv=>bif decide (n<1)||decide (lv<1) then -1 else Ex.rszL l n lv 1
def Ex.rszL:List Ex->Int->Int->Int->Int
 | [],_,_,k=>k
 | y::l,n,lv,k=>bif decide (Ex.rsz y (n-k) (lv-1)<0) then -1 else Ex.rszL l n lv (k+Ex.rsz y (n-k) (lv-1))
end
theorem Ex.vj1 (x:Ex) (n lv:Int):x.rsz n lv=bif decide (n<1)||decide (lv<1) then -1 else Ex.rszL x.args n lv 1:=by cases x;rw [Ex.rsz];rfl
theorem Ex.wzs:∀(l:List Ex),(∀ y∈l,∀ n lv:Int,-1<=y.rsz n lv/\(0<=y.rsz n lv->y.rsz n lv<=n))->∀ n lv k:Int,1<=k->k<=n->-1<=Ex.rszL l n lv k/\(0<=Ex.rszL l n lv k->Ex.rszL l n lv k<=n)
 | [],_,n,lv,k,h1,h2=>by rw [Ex.rszL];omega
 | y::l,h,n,lv,k,h1,h2=>by
  rw [Ex.rszL];have hy:=h y (by simp) (n-k) (lv-1);generalize y.rsz (n-k) (lv-1)=m at hy;by_cases hm:m<0
  . rw [decide_eq_true hm];simp only [cond_true];omega
  . rw [decide_eq_false hm];exact Ex.wzs l (fun z hz=>h z (by simp [hz])) n lv (k+m) (by omega) (by omega)
theorem Ex.z2n:∀(x:Ex) (n lv:Int),-1<=x.rsz n lv/\(0<=x.rsz n lv->x.rsz n lv<=n):=by
 refine Ex.ind (fun x ih n lv=>?_);rw [Ex.vj1];by_cases h1:n<1
 . rw [decide_eq_true h1];simp only [Bool.true_or,cond_true];omega
 . by_cases h2:lv<1
   . rw [decide_eq_true h2];simp only [Bool.or_true,cond_true];omega
   . rw [decide_eq_false h1,decide_eq_false h2];exact Ex.wzs x.args ih n lv 1 (by omega) (by omega)
theorem xcl:∀ x:Ex,x.Sm->∀ n lv:Int,n<=1000->lv<=1000->0<=n->0<=lv->CallsD Γ prog 96 [.agg (exC x),.one (cI n),.one (cI lv)] (.one (cI (x.rsz n lv))):=by
 refine Ex.ind (fun x ih hx n lv hn hlv hn0 hlv0=>?_);have hl:=hx.len;refine CallsD.run [] Go.Proofs.Tryz.func96 rfl rfl rfl ?_;simp only [Go.Proofs.Tryz.f96];refine hgR ?_
 repeat' ((first | refine hfk ?_ ?_<;>intros | refine hik ?_)<;>refine hgS ?_)
 . rename_i h1 _ h2 _;exact RLe.ofEq (by rw [Ex.vj1,decide_eq_true h2,Bool.or_true];rfl)
 . rename_i h1 _ h2 _
   have e0:x.rsz n lv=Ex.rszL x.args n lv 1:=by rw [Ex.vj1,decide_eq_false h1,decide_eq_false h2];rfl
   refine y55 [1,2,3] (fun p:Nat×Int=>[(7,.one (.dat (cI p.2))),(8,.one (.dat (cI p.1)))]) (fun _=>[.box ((exC x).map .dat) (some 24)]) (fun p=>p.1<=x.args.length/\1<=p.2/\p.2<=n/\Ex.rszL (x.args.drop p.1) n lv p.2=Ex.rszL x.args n lv 1) (fun p=>x.args.length-p.1) (0,1) ⟨Nat.zero_le _,by simp only;omega,by simp only;omega,rfl⟩ ?_ ?_
   . refine hg ?_;exact StH.same svl rfl
   rintro ⟨i,k⟩ ⟨hi,hk1,hk2,hc⟩;simp only at hi hk1 hk2 hc;refine hg ?_;refine vnx (fun hlt hd=>?_) (fun hlt _=>?_)
   . have hlt':i<x.args.length:=by omega
     have hy:=w4t hlt';have hcc:=ih _ hy (hx.arg _ hy) (n-k) (lv-1) (by omega) (by omega) (by omega) (by omega);have hb:=Ex.z2n (x.args.getD i default) (n-k) (lv-1);rw [xqz hlt',Ex.rszL] at hc;generalize (x.args.getD i default).rsz (n-k) (lv-1)=m at hcc hb hc;rw [e0,<-hc];clear e0 hc;refine hg1 @hd ?_
     repeat' ((first | refine hfk ?_ ?_<;>intros | refine hik ?_ | with_reducible first | refine hcA ?_ | refine hcB ?_)<;>refine hgS ?_)
     . exact RLe.ofEq rfl
     . exact ⟨(i+1,k+m),⟨by simp only;omega,by simp only;omega,by simp only;omega,rfl⟩,by simp only;omega,StH.same svl rfl⟩
   . refine hg ?_;rw [e0,<-hc,List.drop_eq_nil_of_le (by omega),Ex.rszL];exact RLe.ofEq rfl
 . rename_i h1 _;exact RLe.ofEq (by rw [Ex.vj1,decide_eq_true h1];rfl)
theorem rFew (x:Ex) (hx:x.Sm) (n lv:Int) (hn:n<=1000) (hlv:lv<=1000) (hn0:0<=n) (hlv0:0<=lv):CallsD Γ prog 57 [.agg (exC x),.one (cI n),.one (cI lv)] (.one (cB (decide (0<=x.rsz n lv)))):=by
 have h:=xcl (Γ:=Γ) x hx n lv hn hlv hn0 hlv0;refine CallsD.run [] Go.Proofs.Tryz.func57 rfl rfl rfl ?_;simp only [Go.Proofs.Tryz.f57];refine hgR ?_
 repeat' ((first | refine hfk ?_ ?_<;>intros | refine hik ?_ | with_reducible first | refine hcA ?_ | refine hcB ?_)<;>refine hgS ?_)
 all_goals exact RLe.ofEq rfl
def ykf (x:Ex):Bool:=decide (0<=x.rsz 200 20)&&x.rsh
theorem zox (x:Ex) (hx:x.Sm):CallsD Γ prog 63 [.agg (exC x)] (.one (cB (ykf x))):=by
 have h:=rFew (Γ:=Γ) x hx 200 20 (by decide) (by decide) (by decide) (by decide);refine CallsD.run [] Go.Proofs.Tryz.func63 rfl rfl rfl ?_;simp only [Go.Proofs.Tryz.f63];refine hgR ?_
 repeat' ((first | refine hfk ?_ ?_<;>intros | refine hik ?_ | with_reducible first | refine hcA ?_ | refine hcB ?_ | refine v6l (zzr x hx) ?_ | refine vgi (zzr x hx) ?_)<;>refine hgS ?_)
 all_goals (refine RLe.ofEq ?_;conv=>simp only [Bool.and_true,Bool.true_and,Bool.and_false,Bool.false_and,Bool.or_true,Bool.true_or,Bool.or_false,Bool.false_or,Bool.not_true,Bool.not_false,decide_true,decide_false,not_true_eq_false,not_false_eq_true,wgp,if_true,if_false,Bool.and_self,Bool.or_self,cond_true,cond_false,List.length_map,ne_eq,Int.reduceEq,Int.reduceLT,Int.reduceLE, *,ykf]);first | exact trivial | rfl
theorem x5b (x:Dm):CallsD Γ prog 211 [.agg (dmC x)] (.one (cB (zmf x))):=by
 refine CallsD.run [] Go.Proofs.Tryz.func211 rfl rfl rfl ?_;simp only [Go.Proofs.Tryz.f211];refine hgR ?_
 repeat' ((first | refine hfk ?_ ?_<;>intros | refine hik ?_ | with_reducible refine zum ?_ | with_reducible refine v3j ?_)<;>refine hgS ?_)
 all_goals refine lf2 @zmf.eq_def @bad9.eq_def ?_;first | exact trivial | rfl
theorem wqk (n:Int):CallsD Γ prog 205 [.one (cI n)] (.one (cB (inT n))):=by
 refine CallsD.run [] Go.Proofs.Tryz.func205 rfl rfl rfl ?_;simp only [Go.Proofs.Tryz.f205];refine hgR ?_
 repeat' ((first | refine hfk ?_ ?_<;>intros | refine hik ?_)<;>refine hgS ?_)
 all_goals refine lf1 @inT.eq_def ?_;first | exact trivial | rfl
end Go.Hp.T
namespace Go.Slot.T
open Go Go.RowKit Go.Slot
open Go.Proofs.Tryz (prog)
set_option maxRecDepth 10000
set_option maxHeartbeats 4000000
theorem zgb (L:List Int) (i:Nat) (_hL:L.length<=1099511627776) (hi:(i:Int)<=1099511627776) :
 yn2 prog 254 [.one (.ints .i64 L),.one (.raw (.int .i64 i))] (.one (.raw (.int .i64 (L.getD i 0)))):=by
 refine yn2.run [] Go.Proofs.Tryz.func254 rfl rfl ?_;simp only [Go.Proofs.Tryz.f254];refine rgR ?_;refine z08 (fun h=>?_) (fun h=>?_)
 . refine rg ?_;exact ⟨_,rfl,.one (.refl _)⟩
 . refine rg ?_;exact ⟨_,rfl,by rw [vv7 (by omega)];exact .one (.refl _)⟩
theorem vg8 (L:List Int) (hL:L.length<=1099511627776):yn2 prog 252 [.one (.ints .i64 L)] (.one (.ints .i64 (xun L))):=by
 refine yn2.run [] Go.Proofs.Tryz.func252 rfl rfl ?_;simp only [Go.Proofs.Tryz.f252];refine rgR ?_;refine vxs [0,2] (fun n:Nat=>[(3,.one (.raw (.int .i64 n)))])
  (fun n=>n<=L.length/\z4o L L.length=z4o L n) (fun n=>n) L.length ⟨Nat.le_refl _,rfl⟩ ?_ ?_
 . refine rg ?_;exact StLe.weaken (by repeat' first | exact .nil | refine .cons (by first | exact .refl _ | exact .any _) ?_) rfl
 rintro n ⟨hn,ht⟩;refine rg ?_
 have fin:z4o L L.length=n->xun L=L.take n:=fun h=>by unfold xun;rw [h]
 refine z4u (fun h=>?_) (fun h=>?_)
 . obtain ⟨m,rfl⟩:∃ m,n=m+1:=⟨n-1,by omega⟩
   have e:((m+1:Nat):Int)-1=(m:Nat):=by omega
   have h':=decide_eq_true h;refine rg2 @h' @e ?_;refine z08 (fun h2=>?_) (fun h2=>?_)
   . refine rg1 @e ?_;exact ⟨m,⟨by omega,by rw [ht];simp only [z4o];rw [if_pos h2]⟩,by omega,StLe.weaken (by repeat' first | exact .nil | refine .cons (by first | exact .refl _ | exact .any _) ?_) rfl⟩
   . have hfin:z4o L L.length=m+1:=by rw [ht];simp only [z4o];rw [if_neg h2]
     rw [fin hfin]
     conv=>simp (maxSteps:=2000000) (disch:=omega) only [go_sem,Nat.reduceAdd,Nat.reduceSub,Nat.reduceMul,Int.reduceToNat,Nat.reduceEqDiff,Nat.reduceBEq,Nat.reduceBneDiff,e,Nat.sub_zero,List.length_take]
     exact ⟨_,rfl,.own⟩
 . have h0:n=0:=by omega
   subst h0;rw [fin (by rw [ht];rfl)]
   conv=>simp (maxSteps:=2000000) (disch:=omega) only [go_sem,Nat.reduceAdd,Nat.reduceSub,Nat.reduceMul,Int.reduceToNat,Nat.reduceEqDiff,Nat.reduceBEq,Nat.reduceBneDiff,h,Nat.sub_zero,List.length_take,Int.reduceLT,decide_false]
   exact ⟨_,rfl,.one (.refl _)⟩
theorem vla (s:Int) (L:List Int) (hL:L.length<=1099511627776) :
 yn2 prog 237 [.one (.raw (.int .i64 s)),.one (.ints .i64 L)] (.agg (bigC (if xun L=[] then 0 else s) (xun L))):=by
 refine yn2.run [] Go.Proofs.Tryz.func237 rfl rfl ?_;simp only [Go.Proofs.Tryz.f237];refine rgR ?_;refine v1h (vg8 L hL) ?_;refine rg ?_;refine z08 (fun h=>?_) (fun h=>?_)
 . have h0:xun L=[]:=by have:(xun L).length=0:=(by omega);simpa using this
   refine rg ?_;refine ⟨_,rfl,?_⟩;rw [h0];exact .one (.agg (.cons (.refl _) (.cons (.ysc _) .nil)))
 . have h0:xun L≠[]:=fun e=>h (by rw [e];rfl)
   refine rg ?_;refine ⟨_,rfl,?_⟩
   try rw [if_neg h0]
   exact .one (.refl _)
theorem z4q (s z:Int) (hz:(dig z.natAbs).length<=1073741824) (h:(s=1/\0<=z)\/(s = -1/\z<=0)\/z=0) :
 yn2 prog 237 [.one (.raw (.int .i64 s)),.one (.ints .i64 (dig z.natAbs))] (.agg [.raw (.int .i64 (sg z)),.ints .i64 (dig z.natAbs)]):=by
 have h':=vla s (dig z.natAbs) (by omega);unfold bigC at h';rw [vam h] at h';exact h'
theorem vk9 (l:List Int) (i:Nat):num l=num (l.take i)+1048576 ^ i*num (l.drop i):=by
 rcases Nat.lt_or_ge l.length i with h | h
 . rw [List.drop_eq_nil_of_le (by omega),zvp (by omega)];simp [num]
 . have:=zlm l i
   rwa [List.length_take,Nat.min_eq_left h] at this
theorem wk6 {l:List Int} (h:digits l) (i:Nat):num (l.take i)<1048576 ^ i:=
 Int.lt_of_lt_of_le (xxq (h.take i)) (wqr (by simp;omega))
theorem yz6 {a b:List Int} (ha:digits a) (hb:digits b) (i:Nat) (h:num (a.drop (i+1))=num (b.drop (i+1))) (hlt:a.getD i 0<b.getD i 0):num a<num b:=by
 rw [vk9 a i,vk9 b i,win a,win b,h];have h1:=wk6 ha i;have h2:=num_nonneg (hb.take i);have hp:=zou i;generalize (1048576:Int) ^ i=P at *;generalize num (b.drop (i+1))=T;have h3:P*(a.getD i 0+1)<=P*b.getD i 0:=Int.mul_le_mul_of_nonneg_left (by omega) (by omega);rw [Int.mul_add,Int.mul_add];rw [Int.mul_add] at h3;omega
theorem wuz (a b:List Int) (ha:digits a) (hb:digits b) (la:a.length<=1099511627776) (lb:b.length<=1099511627776) :
 yn2 prog 239 [.one (.ints .i64 a),.one (.ints .i64 b)] (.one (.raw (.bool (decide (num a<num b))))):=by
 refine yn2.run [] Go.Proofs.Tryz.func239 rfl rfl ?_;simp only [Go.Proofs.Tryz.f239];refine rgR ?_;refine vxs [0,1,4] (fun n:Nat=>[(5,.one (.raw (.int .i64 ((n:Int)-1))))])
  (fun n=>n<=max a.length b.length/\num (a.drop n)=num (b.drop n)) (fun n=>n) (max a.length b.length)
  ⟨Nat.le_refl _,by rw [List.drop_eq_nil_of_le (by omega),List.drop_eq_nil_of_le (by omega)]⟩ ?_ ?_
 . refine rg ?_;rw [show (max (a.length:Int) b.length)=((max a.length b.length:Nat):Int) by omega];exact StLe.weaken (by repeat' first | exact .nil | refine .cons (by first | exact .refl _ | exact .any _) ?_) rfl
 rintro n ⟨hn,he⟩;refine rg ?_;refine z08 (fun h=>?_) (fun h=>?_)
 . obtain ⟨i,rfl⟩:∃ i,n=i+1:=⟨n-1,by omega⟩
   have ei:((i+1:Nat):Int)-1=(i:Nat):=by omega
   refine rg1 @ei ?_;refine v1h (zgb a i la (by omega)) ?_;refine rg1 @ei ?_;refine v1h (zgb b i lb (by omega)) ?_;refine rg1 @ei ?_;refine z08 (fun h2=>?_) (fun h2=>?_)
   . have h2:a.getD i 0≠b.getD i 0:=h2;refine rg1 @ei ?_;refine v1h (zgb a i la (by omega)) ?_;refine rg1 @ei ?_;refine v1h (zgb b i lb (by omega)) ?_;refine rg1 @ei ?_;refine ⟨_,rfl,?_⟩
     have:decide (a.getD i 0<b.getD i 0)=decide (num a<num b):=by
      apply decide_eq_decide.2
      rcases Int.lt_or_gt_of_ne h2 with h3 | h3
      . have:=yz6 ha hb i he h3
        exact ⟨fun _=>this,fun _=>h3⟩
      . have:=yz6 hb ha i he.symm h3
        exact ⟨fun _=>by omega,fun _=>by omega⟩
     rw [this];exact .one (.refl _)
   . have h2:a.getD i 0=b.getD i 0:=by omega
     refine rg1 @ei ?_;exact ⟨i,⟨by omega,by rw [win a,win b,he,h2]⟩,by omega,StLe.weaken (by repeat' first | exact .nil | refine .cons (by first | exact .refl _ | exact .any _) ?_) rfl⟩
 . have h0:n=0:=by omega
   subst h0
   have he:num a=num b:=by simpa using he
   refine rg ?_;exact ⟨_,rfl,by rw [decide_eq_false (by omega)];exact .one (.refl _)⟩
theorem yn9 (l:List Int) (x:Int):num (l++[x])=num l+1048576 ^ l.length*x:=by rw [xtv];simp [num]
theorem y9i (a b:List Int) (ha:digits a) (hb:digits b) (la:a.length<=1073741824) (lb:b.length<=1073741824) :
 yn2 prog 258 [.one (.ints .i64 a),.one (.ints .i64 b)] (.one (.ints .i64 (dig (num a+num b).toNat))):=by
 refine yn2.run [(6,[.join])] Go.Proofs.Tryz.func258 rfl rfl ?_;simp only [Go.Proofs.Tryz.f258];refine rgR ?_;refine vxs [0,1,4] (fun x:Nat×List Int×Int=>[(5,.one (.tok 38 (.ints .i64 x.2.1))),(6,.one (.raw (.int .i64 x.2.2))),(7,.one (.raw (.int .i64 x.1)))])
  (fun x=>x.1<=max a.length b.length+1/\x.2.1.length=x.1/\digits x.2.1/\(0<=x.2.2/\x.2.2<=1)/\(max a.length b.length<x.1->x.2.2=0)/\num x.2.1+1048576 ^ x.1*x.2.2=num (a.take x.1)+num (b.take x.1))
  (fun x=>max a.length b.length+1-x.1) (0,[],0)
  ⟨Nat.zero_le _,rfl,digits.nil,by simp,by simp,by simp [num]⟩ ?_ ?_
 . refine StLe.trans (StLe.tokI 5 38 (.ints .i64 []) rfl rfl rfl) ?_;refine rg ?_;exact StLe.weaken (by repeat' first | exact .nil | refine .cons (by first | exact .refl _ | exact .any _) ?_) rfl
 rintro ⟨k,l,c⟩ ⟨hk,hl,hd,hc,hc0,hn⟩;simp only at hk hl hd hc hc0 hn;refine rg ?_;refine zu4 [0,1,4,5,6,7] (fun _:Unit=>[]) (fun _=>k<a.length\/k<b.length\/0<c) ?_ ?_
 . refine rg ?_;refine xjr (fun h1=>?_) (fun h1=>?_)
   . refine rg1 @h1 ?_;refine xjr (fun h2=>?_) (fun h2=>?_)
     . refine rg1 @h2 ?_;refine z08 (fun h3=>?_) (fun h3=>?_)
       . refine rg ?_;exact ⟨(),.inr (.inr h3),StLe.weaken (by repeat' first | exact .nil | refine .cons (by first | exact .refl _ | exact .any _) ?_) rfl⟩
       . have hc1:c=0:=by omega
         rw [zvp (by omega),zvp (by omega),hc1,Int.mul_zero,Int.add_zero] at hn;refine rg ?_;refine v1h (vg8 l (by omega)) ?_;refine rg ?_;exact ⟨_,rfl,by rw [wai hd hn];exact .one (.refl _)⟩
     . have h2':=decide_eq_true h2;refine rg1 @h2' ?_;exact ⟨(),.inr (.inl (by omega)),StLe.weaken (by repeat' first | exact .nil | refine .cons (by first | exact .refl _ | exact .any _) ?_) rfl⟩
   . have h1':=decide_eq_true h1;refine rg1 @h1' ?_;exact ⟨(),.inl (by omega),StLe.weaken (by repeat' first | exact .nil | refine .cons (by first | exact .refl _ | exact .any _) ?_) rfl⟩
 rintro _ hgo;have hak:=ha.getD k;have hbk:=hb.getD k
 have hkm:k<=max a.length b.length:=by
  rcases Nat.lt_or_ge (max a.length b.length) k with h | h
  . have:=hc0 h;omega
  . exact h
 refine rg ?_;refine v1h (zgb a k (by omega) (by omega)) ?_;refine rg ?_;refine v1h (zgb b k (by omega) (by omega)) ?_;refine rg ?_;generalize hs:a.getD k 0+b.getD k 0+c=s at *;have hm:s.tmod 1048576=s % 1048576:=Int.tmod_eq_emod_of_nonneg (by omega);have hq:s.tdiv 1048576=s / 1048576:=Int.tdiv_eq_ediv_of_nonneg (by omega);refine rg2 @hm @hq ?_;refine ⟨(k+1,l++[s % 1048576],s / 1048576),⟨by dsimp only;omega,by simp [hl],hd.append (digits.cons (by omega) digits.nil),by dsimp only;omega,fun h=>?_,?_⟩,by dsimp only;omega,StLe.weaken (by repeat' first | exact .nil | refine .cons (by first | exact .refl _ | exact .any _) ?_) rfl⟩
 . dsimp only at h ⊢;have e1:=vv7 (l:=a) (i:=k) (by omega);have e2:=vv7 (l:=b) (i:=k) (by omega);omega
 . dsimp only;rw [yn9,hl,w4d,w4d,Int.pow_succ];have h:=Int.emod_add_mul_ediv s 1048576;generalize (1048576:Int) ^ k=P at *;generalize s % 1048576=r at *;generalize s / 1048576=q at *
   grind
theorem yt6 (x y:Nat) (hxy:y<=x) (la:(dig x).length<=1073741824) :
 yn2 prog 253 [.one (.ints .i64 (dig x)),.one (.ints .i64 (dig y))] (.one (.ints .i64 (dig (x-y)))):=by
 have hlb:(dig y).length<=(dig x).length:=wxv hxy;have hnx:=yn8 x;have hny:=yn8 y;have ha:=wo6 x;have hb:=wo6 y
 have hfin:(num (dig x)-num (dig y)).toNat=x-y:=by omega
 rw [<-hfin]
 have hle:num (dig y)<=num (dig x):=by omega
 clear hfin hnx hny hxy;generalize dig x=a at *;generalize dig y=b at *;refine yn2.run [(11,[.join])] Go.Proofs.Tryz.func253 rfl rfl ?_;simp only [Go.Proofs.Tryz.f253];refine rgR ?_;refine vxs [0,1,4] (fun x:Nat×List Int×Int=>[(5,.one (.tok 32 (.ints .i64 x.2.1))),(6,.one (.raw (.int .i64 x.2.2))),(7,.one (.raw (.int .i64 x.1)))])
  (fun x=>x.1<=a.length/\x.2.1.length=x.1/\digits x.2.1/\(0<=x.2.2/\x.2.2<=1)/\num x.2.1-1048576 ^ x.1*x.2.2=num (a.take x.1)-num (b.take x.1))
  (fun x=>a.length-x.1) (0,[],0)
  ⟨Nat.zero_le _,rfl,digits.nil,by simp,by simp [num]⟩ ?_ ?_
 . refine StLe.trans (StLe.tokI 5 32 (.ints .i64 []) rfl rfl rfl) ?_;refine rg ?_;exact StLe.weaken (by repeat' first | exact .nil | refine .cons (by first | exact .refl _ | exact .any _) ?_) rfl
 rintro ⟨k,l,c⟩ ⟨hk,hl,hd,hc,hn⟩;simp only at hk hl hd hc hn;refine rg ?_;refine z08 (fun h=>?_) (fun h=>?_)
 . have hak:=ha.getD k;have hbk:=hb.getD k;refine rg ?_;refine v1h (zgb b k (by omega) (by omega)) ?_;refine rg ?_;refine indk (by kernel_rfl) ?_;refine rg ?_;generalize hs:a.getD k 0-b.getD k 0-c=s at *;refine zu4 [0,1,4,5,7] (fun _:Unit=>[(6,.one (.raw (.int .i64 (if s<0 then 1 else 0)))),(8,.one (.raw (.int .i64 (if s<0 then s+1048576 else s))))]) (fun _=>True) ?_ ?_
   . refine rg ?_;refine z08 (fun h1=>?_) (fun h1=>?_)
     . refine rg ?_;exact ⟨(),StLe.weaken (by repeat' first | exact .nil | refine .cons (by first | exact .refl _ | exact .any _) ?_) rfl⟩
     . refine rg ?_;exact ⟨(),StLe.weaken (by repeat' first | exact .nil | refine .cons (by first | exact .refl _ | exact .any _) ?_) rfl⟩
   rintro _ _;generalize hr:(if s<0 then s+1048576 else s)=r;generalize hq:(if s<0 then (1:Int) else 0)=q
   have hrq:s=r-1048576*q/\0<=r/\r<=1048575/\0<=q/\q<=1:=by
    subst hr hq
    split<;>omega
   clear hr hq;refine rg ?_;refine ⟨(k+1,l++[r],q),⟨by dsimp only;omega,by simp [hl],hd.append (digits.cons (by omega) digits.nil),by dsimp only;omega,?_⟩,by dsimp only;omega,StLe.weaken (by repeat' first | exact .nil | refine .cons (by first | exact .refl _ | exact .any _) ?_) rfl⟩;dsimp only;rw [yn9,hl,w4d,w4d,Int.pow_succ];have h:=hrq.1;generalize (1048576:Int) ^ k=P at *
   grind
 . have hka:k=a.length:=by omega
   rw [hka,zvp (Nat.le_refl _),zvp hlb] at hn;have hd0:=xxq hd;rw [hl,hka] at hd0
   have hc0:c=0:=by
    have:=zou a.length
    rcases (show c=0\/c=1 by omega) with e | e
    . exact e
    . rw [e] at hn;omega
   rw [hc0,Int.mul_zero,Int.sub_zero] at hn;refine rg ?_;refine v1h (vg8 l (by omega)) ?_;refine rg ?_;exact ⟨_,rfl,by rw [wai hd hn];exact .one (.refl _)⟩
theorem v86 (a b:List Int) (ha:digits a) (hb:digits b) (la:a.length<=1073741824) (lb:b.length<=1073741824) :
 yn2 prog 240 [.one (.ints .i64 a),.one (.ints .i64 b)] (.one (.ints .i64 (dig (num a*num b).toNat))):=by
 refine yn2.run [(9,[.join]),(12,[.frz 15])] Go.Proofs.Tryz.func240 rfl rfl ?_;simp only [Go.Proofs.Tryz.f240];refine rgR ?_;refine vxs [0,1,4] (fun x:Nat×List Int=>[(5,.asl 15),(6,.one (.raw (.int .i64 x.1))),(15,.arr [] (.ints .i64 x.2) none)])
  (fun x=>x.1<=a.length/\x.2.length=a.length+b.length/\digits x.2/\xl7 x.2 (x.1+b.length)/\num x.2=num (a.take x.1)*num b)
  (fun x=>a.length-x.1) (0,List.replicate ((a.length:Int)+b.length).toNat 0)
  ⟨Nat.zero_le _,by simp;omega,digits.rep _,(xl7.rep _).mono (Nat.zero_le _),by simp [num,ya9]⟩ ?_ ?_
 . refine rg ?_;exact StLe.weaken (by repeat' first | exact .nil | refine .cons (by first | exact .refl _ | exact .any _) ?_) rfl
 rintro ⟨i,o⟩ ⟨hi,ho,hdo,hz,hn⟩;simp only at hi ho hdo hz hn;refine rg ?_;refine z08 (fun h=>?_) (fun h=>?_)
 . refine rg ?_;have hai:=ha.getD i;refine vxs [0,1,4,5,6] (fun x:Nat×List Int×Int=>[(7,.one (.raw (.int .i64 x.2.2))),(8,.one (.raw (.int .i64 x.1))),(15,.arr [] (.ints .i64 x.2.1) none)])
    (fun x=>x.1<=b.length+1/\x.2.1.length=a.length+b.length/\digits x.2.1/\xl7 x.2.1 (i+max x.1 b.length)/\(0<=x.2.2/\x.2.2<=1048575)/\(b.length<x.1->x.2.2=0)/\
      num x.2.1+1048576 ^ (i+x.1)*x.2.2=num (a.take i)*num b+1048576 ^ i*(a.getD i 0*num (b.take x.1)))
    (fun x=>b.length+1-x.1) (0,o,0)
    ⟨Nat.zero_le _,ho,hdo,hz.mono (by simp),by simp,by simp,by simp [num,hn]⟩ ?_ ?_
   . refine rg ?_;exact StLe.weaken (by repeat' first | exact .nil | refine .cons (by first | exact .refl _ | exact .any _) ?_) rfl
   rintro ⟨k,o',c⟩ ⟨hk,ho',hdo',hz',hc,hc0,hn'⟩;simp only at hk ho' hdo' hz' hc hc0 hn';refine rg ?_;refine zu4 [0,1,4,5,6,7,8,15] (fun _:Unit=>[]) (fun _=>k<b.length\/0<c) ?_ ?_
   . refine rg ?_;refine xjr (fun h1=>?_) (fun h1=>?_)
     . refine rg1 @h1 ?_;refine z08 (fun h3=>?_) (fun h3=>?_)
       . refine rg ?_;exact ⟨(),.inr h3,StLe.weaken (by repeat' first | exact .nil | refine .cons (by first | exact .refl _ | exact .any _) ?_) rfl⟩
       . have hc1:c=0:=by omega
         rw [zvp (l:=b) (i:=k) (by omega),hc1,Int.mul_zero,Int.add_zero] at hn';refine rg ?_;refine ⟨(i+1,o'),⟨by dsimp only;omega,ho',hdo',?_,?_⟩,by dsimp only;omega,StLe.weaken (by repeat' first | exact .nil | refine .cons (by first | exact .refl _ | exact .any _) ?_) rfl⟩
         . dsimp only;exact hz'.mono (by omega)
         . dsimp only;rw [hn',w4d]
           grind
     . have h1':=decide_eq_true h1;refine rg1 @h1' ?_;exact ⟨(),.inl (by omega),StLe.weaken (by repeat' first | exact .nil | refine .cons (by first | exact .refl _ | exact .any _) ?_) rfl⟩
   rintro _ hgo
   have hkb:k<=b.length:=by
    rcases Nat.lt_or_ge b.length k with h | h
    . have:=hc0 h;omega
    . exact h
   have hbk:=hb.getD k;have hok:=hdo'.getD (i+k);have hprod:0<=a.getD i 0*b.getD k 0/\a.getD i 0*b.getD k 0<=1048575*1048575:=⟨Int.mul_nonneg hai.1 hbk.1,Int.mul_le_mul hai.2 hbk.2 hbk.1 (by decide)⟩
   have eik:((i:Int)+k).toNat=i+k:=by omega
   have ho0:b.length<=k->o'.getD (i+k) 0=0/\b.getD k 0=0:=fun h=>⟨hz' _ (by omega),vv7 h⟩
   refine rg1 @eik ?_;refine v1h (zgb b k (by omega) (by omega)) ?_;refine rg1 @eik ?_;refine indk (by kernel_rfl) ?_;refine rg1 @eik ?_
   have hc0':b.length<=k->(o'.getD (i+k) 0+a.getD i 0*b.getD k 0+c) / 1048576=0:=fun h=>by
    obtain ⟨e1,e2⟩:=ho0 h;rw [e1,e2];omega
   generalize hs:o'.getD (i+k) 0+a.getD i 0*b.getD k 0+c=s at *;have hm:s.tmod 1048576=s % 1048576:=Int.tmod_eq_emod_of_nonneg (by omega);have hq:s.tdiv 1048576=s / 1048576:=Int.tdiv_eq_ediv_of_nonneg (by omega);have h2:=vks (o:=o') (i:=i+k) (by omega) s;refine rg3 @hm @hq @eik ?_
   refine ⟨(k+1,o'.set (i+k) (s % 1048576),s / 1048576),
    ⟨by dsimp only;omega,by simpa using ho',hdo'.set _ (by omega),?_,by dsimp only;omega,fun h=>hc0' (by dsimp only at h;omega),?_⟩,by dsimp only;omega,?_⟩
   . dsimp only
     rcases Nat.lt_or_ge k b.length with h | h
     . rw [show max (k+1) b.length=max k b.length by omega];exact hz'.wkp _ (by omega)
     . rw [show i+max (k+1) b.length=i+max k b.length+1 by omega,show i+k=i+max k b.length by omega];exact hz'.set _
   . dsimp only;rw [w4d,show i+(k+1)=i+k+1 by omega,h2,<-hs,Int.pow_add];rw [Int.pow_add] at hn'
     grind
   . exact StLe.weaken (by repeat' first | exact .nil | refine .cons (by first | exact .refl _ | exact .any _) ?_) rfl
 . have hia:i=a.length:=by omega
   subst hia;rw [List.take_length] at hn;refine rg ?_;refine v1h (vg8 o (by omega)) ?_;refine rg ?_;exact ⟨_,rfl,by rw [wai hdo hn];exact .one (.refl _)⟩
theorem wim {x:Int} (h:0<=x/\x<=1048575):xun [x]=dig x.toNat:=wai (digits.cons h digits.nil) (by simp [num])
theorem zu0 (x y:Nat) (hy:y≠0) (la:(dig x).length<=536870912) (lb:(dig y).length<=536870912) :
 yn2 prog 236 [.one (.ints .i64 (dig x)),.one (.ints .i64 (dig y))] (.tup [.one (.ints .i64 (dig (x / y))),.one (.ints .i64 (dig (x % y)))]):=by
 have hnx:=yn8 x;have ha:=wo6 x;have hny:=yn8 y;have hb:=wo6 y;generalize dig x=a at *;refine yn2.run [(6,[.lit]),(16,[.frz 14])] Go.Proofs.Tryz.func236 rfl rfl ?_;simp only [Go.Proofs.Tryz.f236];refine rgR ?_;refine vxs [0,1] (fun z:Nat×List Int×Nat=>[(6,.asl 14),(7,.one (.ints .i64 (dig z.2.2))),(8,.one (.raw (.int .i64 ((z.1:Int)-1)))),(14,.arr [] (.ints .i64 z.2.1) none)])
  (fun z=>z.1<=a.length/\z.2.1.length=a.length/\digits z.2.1/\z.2.2<y/\num (a.drop z.1)=y*num (z.2.1.drop z.1)+z.2.2) (fun z=>z.1) (a.length,List.replicate (a.length:Int).toNat 0,0)
  ⟨Nat.le_refl _,by simp,digits.rep _,Nat.pos_of_ne_zero hy,by simp [num]⟩ ?_ ?_
 . refine rg1 @ylp ?_;exact StLe.weaken (by repeat' first | exact .nil | refine .cons (by first | exact .refl _ | exact .any _ | exact .one (.zrt _)) ?_) rfl
 rintro ⟨n,q,R⟩ ⟨hn,hq,hdq,hR,he⟩;simp only at hn hq hdq hR he;have hlR:(dig R).length<=536870912:=Nat.le_trans (wxv (by omega)) lb;refine rg ?_;refine z08 (fun h=>?_) (fun h=>?_)
 . obtain ⟨i,rfl⟩:∃ i,n=i+1:=⟨n-1,by omega⟩
   have ei:((i+1:Nat):Int)-1=(i:Nat):=by omega
   have hai:=ha.getD i;obtain ⟨S,hS⟩:∃ S:Nat,(S:Int)=a.getD i 0+1048576*R:=⟨(a.getD i 0+1048576*R).toNat,by omega⟩
   have hSl:xun (a.getD i 0::dig R)=dig S:=by
    have:=wai (L:=a.getD i 0::dig R) (n:=S) (digits.cons hai (wo6 R)) (by simp only [num,yn8];omega)
    rwa [Int.toNat_natCast] at this
   have hlS:(dig S).length<=536870913:=by
    rw [<-hSl];refine Nat.le_trans (zhu _) ?_;simp only [List.length_cons];omega
   have hSy:(S:Int)<1048576*y:=by omega
   refine rg1 @ei ?_;refine v1h (vg8 (a.getD i 0::dig R) (by simp only [List.length_cons];omega)) ?_;rw [hSl];refine rg1 @ei ?_;refine vxs [0,1,6,7,8] (fun z:Int×Int=>[(9,.one (.raw (.int .i64 z.1))),(10,.one (.raw (.int .i64 z.2)))])
    (fun z=>0<=z.1/\z.1<z.2/\z.2<=1048576/\z.1*y<=S/\S<z.2*y) (fun z=>(z.2-z.1).toNat) (0,1048576) ⟨by simp,by decide,by simp,by simp,by simp;omega⟩ ?_ ?_
   . refine rg ?_;exact StLe.weaken (by repeat' first | exact .nil | refine .cons (by first | exact .refl _ | exact .any _) ?_) rfl
   rintro ⟨lo,hi⟩ ⟨h0,h1,h2,h3,h4⟩;simp only at h0 h1 h2 h3 h4;refine rg ?_;refine z08 (fun h5=>?_) (fun h5=>?_)
   . have hm2:(lo+hi).tdiv 2=(lo+hi) / 2:=Int.tdiv_eq_ediv_of_nonneg (by omega);refine rg1 @hm2 ?_;generalize hmid:(lo+hi) / 2=mid at *;obtain ⟨m,hm⟩:∃ m:Nat,(m:Int)=mid:=⟨mid.toNat,by omega⟩
     have hT:(num (dig y)*num [mid]).toNat=y*m:=by rw [hny];simp only [num];rw [<-hm,Int.mul_zero,Int.add_zero,<-Int.natCast_mul];rfl
     have hlT:(dig (y*m)).length<=1073741824:=by
      have:=ysr y m
      have:(dig m).length<=4:=vun (by omega)
      omega
     refine v1h (v86 (dig y) [mid] hb (digits.cons (by omega) digits.nil) (by omega) (by simp)) ?_;rw [hT];refine rg ?_;refine v1h (wuz (dig S) (dig (y*m)) (wo6 _) (wo6 _) (by omega) (by omega)) ?_;rw [yn8,yn8]
     have hym:((y*m:Nat):Int)=mid*y:=by rw [Int.natCast_mul,hm,Int.mul_comm]
     rw [hym];refine rg ?_;refine z08 (fun h6=>?_) (fun h6=>?_)
     . refine rg ?_;exact ⟨(lo,mid),⟨h0,by dsimp only;omega,by dsimp only;omega,h3,h6⟩,by dsimp only;omega,StLe.weaken (by repeat' first | exact .nil | refine .cons (by first | exact .refl _ | exact .any _) ?_) rfl⟩
     . refine rg ?_;exact ⟨(mid,hi),⟨by dsimp only;omega,by dsimp only;omega,h2,by dsimp only;omega,h4⟩,by dsimp only;omega,StLe.weaken (by repeat' first | exact .nil | refine .cons (by first | exact .refl _ | exact .any _) ?_) rfl⟩
   . have hlo:hi=lo+1:=by omega
     subst hlo;obtain ⟨l,hl⟩:∃ l:Nat,(l:Int)=lo:=⟨lo.toNat,by omega⟩
     have hlo1:lo.toNat=l:=by omega
     have hT:(num (dig y)*num (dig l)).toNat=y*l:=by rw [hny,yn8,<-Int.natCast_mul];rfl
     have hyl:((y*l:Nat):Int)=lo*y:=by rw [Int.natCast_mul,hl,Int.mul_comm]
     have hll:(dig l).length<=4:=vun (by omega);rw [Int.add_mul,Int.one_mul] at h4;refine rg1 @ei ?_;refine v1h (vg8 [lo] (by simp)) ?_;rw [wim (by omega),hlo1];refine rg1 @ei ?_;refine v1h (v86 (dig y) (dig l) hb (wo6 _) (by omega) (by omega)) ?_;rw [hT];refine rg1 @ei ?_;refine v1h (yt6 S (y*l) (by omega) (by omega)) ?_;refine rg1 @ei ?_;refine ⟨(i,q.set i lo,S-y*l),⟨by dsimp only;omega,by simpa using hq,hdq.set _ (by omega),by dsimp only;omega,?_⟩,by dsimp only;omega,StLe.weaken (by repeat' first | exact .nil | refine .cons (by first | exact .refl _ | exact .any _) ?_) rfl⟩;dsimp only;rw [x7k _ (by omega),win,he];simp only [num];rw [Int.natCast_sub (by omega),hyl,hS]
     grind
 . have h0:n=0:=by omega
   subst h0;simp only [List.drop_zero] at he;rw [hnx] at he;have hq0:=num_nonneg hdq;obtain ⟨Q,hQ⟩:∃ Q:Nat,(Q:Int)=num q:=⟨(num q).toNat,by omega⟩;rw [<-hQ] at he
   have hxx:x=y*Q+R:=by rw [<-Int.natCast_mul] at he;omega
   have e1:x / y=Q:=by rw [hxx,Nat.mul_add_div (by omega),Nat.div_eq_of_lt hR];omega
   have e2:x % y=R:=by rw [hxx,Nat.mul_add_mod,Nat.mod_eq_of_lt hR]
   have e3:xun q=dig Q:=by have:=wai hdq hQ.symm;rwa [Int.toNat_natCast] at this
   rw [e1,e2];refine rg ?_;refine v1h (vg8 q (by omega)) ?_;rw [e3];refine rg ?_;exact ⟨_,rfl,.tup (.cons (.refl _) (.cons (.refl _) .nil))⟩
end Go.Slot.T
