/- The proof, part Z36: V5. -/
import Derived.Test.YtkbkjjahlafhoaaGreatDoorZ35
import Derived.Test.YtkbkjjahlafhoaaGreatDoorZ27
import Derived.Test.YtkbkjjahlafhoaaGreatDoorRows
import Derived.Deep.DeepHandedRow
import Derived.LaidMore
import Derived.MakeChecks
import Derived.ProofKit
namespace Go.Slot
open Go Go.RowKit Go.ChangeShapes Go.WideShapes
section
variable {P:Program} {H:Type} {enc:TypeId×Value->H} {w:World} {spare:Nat->Bool} {held:Bool} {bk:DataW H->Nat} {N:Nat} {r:Reach} {b0:Nat}
theorem y92 (hB:Bulk bk) {L:List TypeId} (hL:vs8 P L=true) {t:TypeId} (htL:t∈L) {v:Value} {d:DataW H} {p:List MemPlace} {fs:Array Field} (ht:P.underlying t=some (.struct fs))
 (hval:Value.okWide P w r b0 t v) (hd:DataW.Trod enc P w 0 spare held t v d p) (hb:bk d<=N):∃ cells,FitT P N t cells/\RdB M0 w v (.agg cells):=by
 obtain ⟨cs,rfl,_⟩:=okWide_struct ht hval;obtain ⟨fuel,hf⟩:=hd;obtain ⟨cells,h1,h2⟩:=y21 hB hL fuel t htL _ (d,p) hf hb;exact ⟨cells,h2,⟨cs.toList,by simp,h1⟩⟩
theorem vp6 (hB:Bulk bk) {L:List TypeId} (hL:vs8 P L=true) {t:TypeId} (htL:t∈L) {v:Value} {d:DataW H} {p:List MemPlace} (hv:v.cells=#[v])
 (hd:DataW.Trod enc P w 0 spare held t v d p) (hb:bk d<=N):∃ c,FitT P N t [c]/\RdB M0 w v (.one c):=by
 obtain ⟨fuel,hf⟩:=hd;obtain ⟨cells,h1,h2⟩:=y21 hB hL fuel t htL _ (d,p) hf hb;rw [hv] at h1
 match cells,h1,h2 with
 | [c],h1,h2=>exact ⟨c,h2,h1.1⟩
theorem x00 (hB:Bulk bk) {L:List TypeId} (hL:vs8 P L=true) {t e:TypeId} (htL:t∈L) {v:Value} {d:DataW H} {p:List MemPlace} (ht:P.underlying t=some (.slice e))
 (hval:Value.okWide P w r b0 t v) (hd:DataW.Trod enc P w 0 spare held t v d p) (hb:bk d<=N):∃ c,FitT P N t [c]/\RdB M0 w v (.one c):=by
 obtain ⟨a,len,cap,rfl⟩:=okWide_slice ht hval;exact vp6 hB hL htL rfl hd hb
end
theorem y3u {P:Program} {H:Type} {enc:TypeId×Value->H} {w:World} {sp:Nat->Bool} {held:Bool} {fuel:Nat} {t e:TypeId} {n:Nat} {k:IntKind} {l:List Int} {cs:List Value} {p:List MemPlace}
 (ht:P.underlying t=some (.array n e)) (he:P.underlying e=some (.int k)) (hc:P.cellsOf e=1) (hct:P.cellsOf t=n)
 (h:DataW.trod enc P w 0 sp held fuel t cs=some (.agg (l.map fun z=>.lit (.int k z)),p)):cs=l.map (fun z=>Value.int k z):=by
 obtain ⟨xs,m,rfl,hx1,hlen,hn,hel⟩:=DataW.trod_array ht h;simp only [Prod.mk.injEq,DataW.agg.injEq] at hx1
 have hl:l.length=n:=by
  have:=congrArg List.length hx1.1
  simp at this;omega
 apply List.ext_getElem
 . rw [hlen,hct,List.length_map,hl]
 intro i h1 h2
 have hi:i<n:=by rw [hlen,hct] at h1;exact h1
 have h3:=hel i hi
 have hix:i<xs.length:=by omega
 rw [hc,Nat.mul_one,List.getElem?_eq_getElem hix] at h3
 have e1:(cs.drop i).take 1=[cs[i]]:=by
  rw [List.drop_eq_getElem_cons h1];rfl
 rw [e1] at h3;obtain ⟨z,e2,e3,_⟩:=DataW.trod_int he h3
 have e4:(l.map fun z=>(DataW.lit (.int k z):DataW H))[i]? = (xs.map (·.1))[i]?:=by rw [hx1.1]
 rw [List.getElem?_map,List.getElem?_map,List.getElem?_eq_getElem hix,List.getElem?_eq_getElem (by omega),e3] at e4;simp only [Option.map_some,Option.some.injEq,DataW.lit.injEq,Lit.int.injEq,true_and] at e4;rw [List.cons.injEq] at e2;rw [e2.1,List.getElem_map,e4]
end Go.Slot
namespace Go.Proofs.YtkbkjjahlafhoaaGreatDoor
set_option maxRecDepth 100000
open Go Go.Slot Go.Hp Go.Hp.T Go.ChangeShapes Go.WideShapes Go.RowKit
def Gs:List (Nat×List Cell):=[(0,sgC)]
theorem v0n:ownKnob Tryz.prog.godebug=none:=by kernel_rfl
theorem zy4:laidOutB Tryz.prog=true:=by kernel_rfl
theorem z3h {H:Type} (d:DataW H):1<=Rows.uptoBulk d:=by
 cases d with
 | lit l=>cases l<;>simp [Rows.uptoBulk]
 | nil=>simp [Rows.uptoBulk]
 | ptr d=>simp [Rows.uptoBulk]
 | slice elems spare=>simp [Rows.uptoBulk]
 | agg parts=>simp [Rows.uptoBulk]
 | iface t d=>simp [Rows.uptoBulk]
 | map entries=>simp [Rows.uptoBulk]
 | held h=>simp [Rows.uptoBulk]
theorem zdm {H:Type} {d:DataW H} {l:List (DataW H)} (h:d∈l):Rows.uptoBulk d<=Rows.uptoBulkAll l:=by
 induction l with
 | nil=>cases h
 | cons x r ih=>
  simp only [Rows.uptoBulkAll]
  cases List.mem_cons.1 h with
  | inl e=>subst e;omega
  | inr e=>have:=ih e;omega
theorem x11 {H:Type} (l:List (DataW H)):l.length<=Rows.uptoBulkAll l:=by
 induction l with
 | nil=>simp [Rows.uptoBulkAll]
 | cons x r ih=>have:=z3h x;simp only [Rows.uptoBulkAll,List.length_cons];omega
theorem bulk {H:Type}:Bulk (H:=H) Rows.uptoBulk where
 str b:=by simp [Rows.uptoBulk]
 elems l r:=by
  have:=x11 l
  simp only [Rows.uptoBulk];omega
 elem l r d h:=by
  have:=zdm h
  simp only [Rows.uptoBulk];omega
 part l d h:=by
  have:=zdm h
  simp only [Rows.uptoBulk];omega
theorem zqa {H:Type} {l:List (DataW H)} (hk:Rows.uptoSmall H l=true):∀ d∈l,Rows.uptoBulk d<=1048576:=fun d hd=>by
 have h:=zdm hd;have h2:Rows.uptoBulkAll l<=1048576:=of_decide_eq_true hk;omega
def argTypes:List TypeId:=[127,125,122,24,239,120,3,9,68,172,22,64,23,181,124,129,25,131,26,175,27,177,28,70,65,67,29,31,5,51,33,39,49,47,80,32,60,37,62,38,41]
theorem ypn:vs8 Tryz.prog argTypes=true:=by kernel_rfl
theorem zn5 {t:TypeId} {d:TypeDesc} (h:Tryz.prog.underlying t=some d) (hd:∀ k,d≠.int k):∀ k,Tryz.prog.underlying t≠some (.int k):=fun k hk=>by
 rw [h] at hk;cases hk;exact hd k rfl
theorem w5i {α:Type} {C:α->List Cell} {Q:α->Prop}:∀ rows:List (List Cell),(∀ r∈rows,∃ x,r=C x/\Q x)->∃ xs:List α,rows=xs.map C/\∀ x∈xs,Q x
 | [],_=>⟨[],rfl,fun x hx=>by cases hx⟩
 | r::rows,h=>by
  obtain ⟨x,hx,hq⟩:=h r (by simp);obtain ⟨xs,hxs,hqs⟩:=w5i rows (fun r' hr'=>h r' (by simp [hr']))
  exact ⟨x::xs,by rw [hx,hxs];rfl,fun y hy=>by
   rcases List.mem_cons.1 hy with rfl | hy
   . exact hq
   . exact hqs y hy⟩
theorem len2 {α:Type} {l:List α} (h:l.length=2):∃ a b,l=[a,b]:=by
 match l,h with
 | [a,b],_=>exact ⟨a,b,rfl⟩
theorem len3 {α:Type} {l:List α} (h:l.length=3):∃ a b c,l=[a,b,c]:=by
 match l,h with
 | [a,b,c],_=>exact ⟨a,b,c,rfl⟩
section
variable {H:Type} {enc:TypeId×Value->H} {W:World} {v:Value} {d:DataW H} {p:List MemPlace} {b:Nat}
end
theorem yv2 {α:Type} {l:List α} (h:l.length=4):∃ a b c d,l=[a,b,c,d]:=by
 match l,h with
 | [a,b,c,d],_=>exact ⟨a,b,c,d,rfl⟩
theorem zaq:Tryz.prog.cellsOf 51=4:=by kernel_rfl
theorem ymb:Tryz.prog.cellsOf 60=3:=by kernel_rfl
theorem vcn:Tryz.prog.cellsOf 62=4:=by kernel_rfl
theorem vlt:Tryz.prog.cellsOf 33=1:=by kernel_rfl
theorem ysl {cs:List Cell} (h:FitT Tryz.prog 1048576 49 cs):∃(s:Int) (L:List Int),cs=[.raw (.int .i64 s),.ints .i64 L]/\L.length<=1048576:=by
 obtain ⟨rows,rfl,hl,hr⟩:=h.ztv Tryz.underlying49;obtain ⟨r0,r1,rfl⟩:=len2 hl;obtain ⟨s,rfl,_⟩:=(hr 0 _ r0 rfl rfl).wru (Tryz.underlying3);obtain ⟨L,rfl,hL,_⟩:=(hr 1 _ r1 rfl rfl).x96 (Tryz.underlying47) (Tryz.underlying3);exact ⟨s,L,rfl,hL⟩
theorem xrt {cs:List Cell} (h:FitT Tryz.prog 1048576 51 cs):∃ f:Fc,cs=f.C/\f.sz<=1048576:=by
 obtain ⟨rows,rfl,hl,hr⟩:=h.ztv Tryz.underlying51;obtain ⟨r0,r1,rfl⟩:=len2 hl;obtain ⟨s,L,rfl,hL⟩:=ysl (hr 0 _ r0 rfl rfl);obtain ⟨t,M,rfl,hM⟩:=ysl (hr 1 _ r1 rfl rfl);exact ⟨⟨s,L,t,M⟩,rfl,Nat.max_le.2 ⟨hL,hM⟩⟩
theorem xfy {H:Type} {enc:TypeId×Value->H} {W:World} {v:Value} {d:DataW H} {p:List MemPlace} {b:Nat} (hval:Value.okWide Tryz.prog W .any b 33 v) (hd:DataW.Trod enc Tryz.prog W 0 (fun _=>true) true 33 v d p) (hb:Rows.uptoBulk d<=1048576) :
 ∃ l:List Fc,RdB M0 W v (.one (.sl 4 (l.map Fc.C)))/\l.length<=1048576/\∀ x∈l,x.sz<=1048576:=by
 obtain ⟨c,h1,h2⟩:=x00 bulk ypn (by decide) Tryz.underlying33 hval hd hb;obtain ⟨rows,e,hl,hr⟩:=h1.wrw (Tryz.underlying33) (zn5 Tryz.underlying51 (fun k h=>by cases h));obtain ⟨xs,rfl,hx⟩:=w5i (C:=Fc.C) (Q:=fun x=>x.sz<=1048576) _ (fun r hr'=>xrt (hr r hr'))
 cases e;rw [zaq] at h2;exact ⟨xs,h2,by simpa using hl,hx⟩
theorem xh5 {cs:List Cell} (h:FitT Tryz.prog 1048576 60 cs):∃ x:Src,cs=x.C/\True:=by
 obtain ⟨rows,rfl,hl,hr⟩:=h.ztv Tryz.underlying60;obtain ⟨r0,r1,r2,rfl⟩:=len3 hl;obtain ⟨s0,rfl,_⟩:=(hr 0 _ r0 rfl rfl).wru (Tryz.underlying3);obtain ⟨s1,rfl,_⟩:=(hr 1 _ r1 rfl rfl).wru (Tryz.underlying3);obtain ⟨s2,rfl,_⟩:=(hr 2 _ r2 rfl rfl).wru (Tryz.underlying3);exact ⟨⟨s0,s1,s2⟩,rfl,trivial⟩
theorem wa0 {cs:List Cell} (h:FitT Tryz.prog 1048576 62 cs):∃ x:Ot,cs=x.C/\True:=by
 obtain ⟨rows,rfl,hl,hr⟩:=h.ztv Tryz.underlying62;obtain ⟨r0,r1,r2,r3,rfl⟩:=yv2 hl;obtain ⟨s0,rfl,_⟩:=(hr 0 _ r0 rfl rfl).wru (Tryz.underlying3);obtain ⟨s1,rfl,_⟩:=(hr 1 _ r1 rfl rfl).wru (Tryz.underlying3);obtain ⟨s2,rfl,_⟩:=(hr 2 _ r2 rfl rfl).wru (Tryz.underlying3);obtain ⟨s3,rfl,_⟩:=(hr 3 _ r3 rfl rfl).y9i (Tryz.underlying9);exact ⟨⟨s0,s1,s2,s3⟩,rfl,trivial⟩
theorem wqq {cs:List Cell} (h:FitT Tryz.prog 1048576 33 cs):∃ l:List Fc,cs=[frsC l]/\(l.length<=1048576/\∀ x∈l,x.sz<=1048576):=by
 obtain ⟨rows,rfl,hl,hr⟩:=h.wrw (Tryz.underlying33) (zn5 Tryz.underlying51 (fun k h=>by cases h));obtain ⟨xs,rfl,hx⟩:=w5i (C:=Fc.C) (Q:=fun x=>x.sz<=1048576) _ (fun r hr'=>xrt (hr r hr'));exact ⟨xs,by rw [zaq],by simpa using hl,hx⟩
theorem y7e {cs:List Cell} (h:FitT Tryz.prog 1048576 41 cs):∃ f:Fl,cs=flC f/\f.Big:=by
 obtain ⟨rows,rfl,hl,hr⟩:=h.ztv Tryz.underlying41;obtain ⟨r0,r1,r2,rfl⟩:=len3 hl;obtain ⟨t0,rfl,q0,e0⟩:=(hr 0 _ r0 rfl rfl).wrw (Tryz.underlying37) (zn5 Tryz.underlying60 (fun k h=>by cases h));obtain ⟨s0,rfl,y0⟩:=w5i (C:=Src.C) (Q:=fun _=>True) _ (fun r hr'=>xh5 (e0 r hr'));obtain ⟨t1,rfl,q1,e1⟩:=(hr 1 _ r1 rfl rfl).wrw (Tryz.underlying38) (zn5 Tryz.underlying62 (fun k h=>by cases h));obtain ⟨s1,rfl,y1⟩:=w5i (C:=Ot.C) (Q:=fun _=>True) _ (fun r hr'=>wa0 (e1 r hr'));obtain ⟨t2,rfl,q2,e2⟩:=(hr 2 _ r2 rfl rfl).wrw (Tryz.underlying39) (zn5 Tryz.underlying33 (fun k h=>by cases h));obtain ⟨s2,rfl,y2⟩:=w5i (C:=fun l=>[frsC l]) (Q:=fun l=>l.length<=1048576/\∀ x∈l,x.sz<=1048576) _ (fun r hr'=>wqq (e2 r hr'));rw [List.length_map] at q0 q1 q2;exact ⟨⟨s0,s1,s2⟩,by rw [ymb,vcn,vlt];rfl,q0,q1,q2,fun r hr=>(y2 r hr).1,fun r hr=>(y2 r hr).2⟩
theorem v3n {H:Type} {enc:TypeId×Value->H} {W:World} {v:Value} {d:DataW H} {p:List MemPlace} {b:Nat} (hval:Value.okWide Tryz.prog W .any b 41 v) (hd:DataW.Trod enc Tryz.prog W 0 (fun _=>true) true 41 v d p) (hb:Rows.uptoBulk d<=1048576) :
 ∃ f:Fl,RdB M0 W v (.agg (flC f))/\f.Big:=by
 obtain ⟨cells,h1,h2⟩:=y92 bulk ypn (by decide) Tryz.underlying41 hval hd hb;obtain ⟨x,rfl,h3⟩:=y7e h1;exact ⟨x,h2,h3⟩
def zL:Value:=.agg #[.slice none 0 0,.slice none 0 0,.slice none 0 0]
def dL {H:Type}:DataW H:=.agg [.nil,.nil,.nil]
def weq:List (String×DataW Unit):=Rows.recipeLinearUptoRow.laid
def vcp:String:=(weq.headD (Tryz.f0.name,.nil)).1
theorem z5k:Tryz.prog.globalNamed vcp=some 0:=by kernel_rfl
theorem vg8:(Tryz.prog.globals[0]?).map (·.type)=some 265:=by kernel_rfl
theorem wlj {W:World} (h:laidMetH Tryz.prog weq W):wjt Gs M0 W:=by
 rw [MakeChecks.laidMetH_plain _ _ _ (by kernel_rfl)] at h;obtain ⟨ps,⟨g0,t0,cs0,f0,p0,q0,hg0,ht0,hv0,hd0,_,_⟩,_,_⟩:=h;obtain rfl:=Option.some.inj (z5k.symm.trans hg0);obtain rfl:=Option.some.inj (vg8.symm.trans ht0);have e:=y3u (l:=[40,41,44,59,58,61,60,43,45,42,47,123,125]) Tryz.underlying265 Tryz.underlying5 (by kernel_rfl) (by kernel_rfl) hd0;intro g cs hg;have hg':=List.mem_singleton.1 hg
 cases hg';refine ⟨cs0.toList,fun j u hu=>⟨fun h=>h,?_⟩,?_⟩
 . rw [World.var?_cell hg0 hv0 j,<-Array.getElem?_toList];exact hu
 . rw [e];exact ⟨.raw rfl,.raw rfl,.raw rfl,.raw rfl,.raw rfl,.raw rfl,.raw rfl,.raw rfl,.raw rfl,.raw rfl,.raw rfl,.raw rfl,.raw rfl,trivial⟩
theorem y26 (os:Os) (args:Array Value):laidMetH Tryz.prog weq ((World.doorLaid Tryz.prog 140 os).forCall (fun _ _=>0) ⟨#[],args,[]⟩).memory:=
 laidMetH_of_parts3 (fuel:=8) (laidMet_of_run' 8 (by kernel_rfl) (by kernel_rfl)) (by kernel_rfl) (by kernel_rfl)
theorem v9n {C:Checked} {os:Os} {f:FuncId} {fn:Func} {H:Type} {enc:TypeId×Value->H} {s:OpenSpec} {k:(H:Type)->List (DataW H)->Bool} (hk:s.cond=some k) {conds:List PathCond} {apart:Bool} {laid:List (String×DataW Unit)} (modest:Bool) (n:Nat) (args:Array Value) (fuel:Nat)
 (hsh:((World.doorLaid C.prog n os).forCall (fun _ _=>0) ⟨#[],args,[]⟩).Shaped C.prog)
 (hok:Input.okWideB C.prog ((World.doorLaid C.prog n os).forCall (fun _ _=>0) ⟨#[],args,[]⟩) f ⟨#[],args,[]⟩=true)
 {x:List (DataW H)×List (DataW H)×List MemPlace} (hx:DataW.whole enc C.prog ((World.doorLaid C.prog n os).forCall (fun _ _=>0) ⟨#[],args,[]⟩).memory fn.params.toList s.vars apart args.toList fuel=some x)
 (hconds:conds.all (PathCond.test C.prog ⟨fn.params.toList,x.1,s.bare.plain.varTypes C.prog,x.2.1⟩)=true) (hkk:k H (x.1++x.2.1)=true)
 (hsz:s.bare.sizedB enc C.prog fn apart ((World.doorLaid C.prog n os).forCall (fun _ _=>0) ⟨#[],args,[]⟩).memory args fuel=true)
 (hl:laidMetH C.prog laid ((World.doorLaid C.prog n os).forCall (fun _ _=>0) ⟨#[],args,[]⟩).memory) :
 ∃(w:World) (tape:Tape) (i:Input),w.os=os/\(w.forCall tape i).Shaped C.prog/\i.vars=[]/\Input.okWide C.prog (w.forCall tape i) .any w.heap.size f i/\
  s.preRow enc C.prog fn conds apart laid (w.forCall tape i).memory i.args/\({ modest:=modest }:Assume).holds C.prog (lone (Frame.enter C.prog f i.args .normal) [] (w.forCall tape i)):=
 ⟨World.doorLaid C.prog n os,fun _ _=>0,⟨#[],args,[]⟩,rfl,hsh,(Input.okWide_of_okWideB (base:=0) hok).1,(Input.okWide_of_okWideB hok).2,
  ⟨⟨(OpenSpec.pre_some hk conds apart _ _).2 ⟨x.1,x.2.1,x.2.2,DataW.Whole_of_whole hx,hconds,hkk⟩,hl⟩,sizedMet_of_sizedB hsz⟩,by
  simp only [Assume.holds]
  exact ⟨by simp,by simp,fun _=>Modest.zero,by simp,by simp⟩⟩
theorem ended {f:FuncId} {args:List AV} {vs:List Value} {W:World} (hc:Go.Hp.CallsD Gs Tryz.prog f args (.one (cB true))) (hg:wjt Gs M0 W) (hr:RdBL M0 W vs args):Calls Tryz.prog f vs.toArray W fun e W'=>e=.returned (.bool true)/\Below W.heap.size W W':=
 (hc.2 M0 W vs (fun b o h=>h.elim) hg hr).mono (fun e W' ⟨v,he,hb,hr',_⟩=>by
   have hv:v=.bool true:=RdC.xbx hr';rw [hv] at he
   exact ⟨he,hb⟩)
end Go.Proofs.YtkbkjjahlafhoaaGreatDoor
