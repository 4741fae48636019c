/- The proof, part W33: A3, Ge, A4, A0, Am, An. -/
import Derived.Test.YtpkininnjhbeaaaGreatDoorW28
import Derived.Test.YtpkininnjhbeaaaGreatDoorW32
import Derived.Test.YtpkininnjhbeaaaGreatDoorW31
namespace Go.Hp.T
open Go Go.RowKit Go.Slot Go.Hp Go.Slot.T
open Go.Proofs.Tryz (prog)
set_option maxRecDepth 10000
set_option maxHeartbeats 8000000
variable {Γ:List (Nat×List Cell)}
variable {t i:Bool} {B:Nat}
abbrev afC (f:Fm):List Cell:=[.raw (.int .i64 (qF (some f.1)).s),.ints .i64 (qF (some f.1)).L,.raw (.int .i64 (qF (some f.1)).t),.ints .i64 (qF (some f.1)).M,.sl 4 (f.2.map rowQ)]
theorem vqk (l:List Rat):List.map Fc.C (List.map Fc.of l)=l.map rowQ:=by rw [List.map_map];rfl
theorem y6w (k:Rat) (cs:List Rat):(Af.of k cs).C=afC (k,cs):=by unfold Af.of;rw [Af.C_eq];simp only [vqk];rfl
abbrev thA (r:Th×Int):AV:=.tup [.agg (thC r.1),.one (cI r.2)]
abbrev thS (r:Th×Int):SV:=.tup [.agg ((thC r.1).map .dat),.one (.dat (cI r.2))]
abbrev thZ (t i:Bool):List Cell:=[cB t,cB i,cI 0,.zc,cI 0,.zc,.zc]
theorem thLe:AV.Le (.agg (thZ t i)) (.agg (thC ⟨t,i,none,[]⟩)):=.agg (.cons (.refl _) (.cons (.refl _) (.cons (.refl _) (.cons (.zuc _) (.cons (.refl _) (.cons (.zuc _) (.cons (.zcSl _) .nil)))))))
theorem thEq {e:Int} {r:Th×Int} (h:r=(⟨t,i,none,[]⟩,e)):RLe (.tup [.agg (thZ t i),.one (cI e)]) (thA r):=by
 subst h;exact .tup (.cons thLe (.cons (.refl _) .nil))
theorem StH.thZ {e:List SB} {I':List SV} {J:List SB} {t i:Bool} {n:Int} (h:StH Γ e [thS (⟨t,i,none,[]⟩,n)] J I' e):StH Γ e [SV.tup [.agg ((T.thZ t i).map .dat),.one (.dat (cI n))]] J I' e:=
 StH.trans (StH.tup1 (.cons (.agg (.cons (.refl _) (.cons (.refl _) (.cons (.refl _) (.cons (.dat (.zuc _)) (.cons (.refl _) (.cons (.dat (.zuc _)) (.cons (.dat (.zcSl _)) .nil)))))))) (.cons (.refl _) .nil))) h
theorem StH.z9p {e:List SB} {I:List SV} {J:List SB} {n:Int} {r:Th×Int} (he:J.take e.length=e) (h:(I.all fun x=>(wj3 x).all fun b=>Nat.blt b e.length)=true) (hσ:I=[SV.tup [.agg ((T.thZ t i).map .dat),.one (.dat (cI n))]]) (hr:r=(⟨t,i,none,[]⟩,n)):StH Γ e I J [thS r] e:=by
 subst hr;exact StH.trans (StH.vzq he h hσ) (StH.thZ StH.refl)
theorem Th.G.cs {n B:Nat} {x:Th} (h:x.G n B):(∃ i,x=⟨true,i,none,[]⟩)\/∃ k cs,x=⟨false,false,some k,cs⟩/\cs.length=n/\qs k<=B/\∀ q∈cs,qs q<=B:=by
 obtain ⟨t,i,c,l⟩:=x
 rcases h with ⟨h1,h2,h3⟩ | ⟨h1,h2,h3,⟨q,h4,h5⟩,h6⟩
 . simp only at h1 h2 h3;subst h1 h2 h3;exact .inl ⟨i,rfl⟩
 . simp only at h1 h2 h3 h4 h6;subst h1 h2 h4;exact .inr ⟨q,l,rfl,h3,h5,h6⟩
theorem Th.G.rows {n:Nat} {x:Th} (h:x.G n B):x.l.length<=n/\∀ q∈x.l,qs q<=B:=by
 rcases h with ⟨_,_,h3⟩ | ⟨_,_,h3,_,h6⟩
 . rw [h3];exact ⟨Nat.zero_le _,fun q hq=>by cases hq⟩
 . exact ⟨Nat.le_of_eq h3,h6⟩
theorem zf5 {cs:List Rat} (h:∀ q∈cs,qs q<=B):∀ f∈cs.map Fc.of,f.sz<=B:=fun f hf=>by
 obtain ⟨q,hq,rfl⟩:=List.mem_map.1 hf;exact h q hq
theorem zv9:∀ l:List Rat,(l.map Fc.of).any (fun f=>decide (¬Fc.sign f=0)) = !l.all (fun q=>decide (q=0))
 | []=>rfl
 | q::l=>by
  rw [List.map_cons,List.any_cons,List.all_cons,zv9 l,Bool.not_and]
  congr 1
  rw [<-decide_not];refine decide_eq_decide.2 ?_;rw [show Fc.sign (Fc.of q)=sg q.num from Fc.w9t q];exact not_congr x7m
theorem wct (f:Fc) (h:f.sz<=67108864):CallsD Γ prog 201 [.agg f.C] (.one (cB (decide (¬Fc.sign f=0)))):=by
 refine CallsD.run [] Go.Proofs.Tryz.func201 rfl rfl rfl ?_;simp only [Go.Proofs.Tryz.f201];refine hgR ?_
 repeat' ((first | refine hfk ?_ ?_<;>intros | refine hik ?_ | with_reducible first | refine wml (xhi f h) ?_ | refine ysj (xhi f h) ?_)<;>refine hgS ?_)
 all_goals refine lfE ?_;first | exact trivial | rfl
theorem cCon (x:Th) (hl:x.l.length<=1048576) (hs:∀ q∈x.l,qs q<=67108864):CallsD Γ prog 146 [.agg (thC x)] (.one (cB x.con)):=by
 have h:=xmy (Γ:=Γ) 201 (fun f=>decide (¬Fc.sign f=0)) (x.l.map Fc.of) (by rw [List.length_map];omega) (fun i hi=>wct _ (zmm (zf5 hs) hi));rw [zv9,vqk] at h;have e:x.con=(!x.t&&x.l.all (fun q=>decide (q=0))):=rfl;rw [e];generalize x.l.all (fun q=>decide (q=0))=c at *;refine CallsD.run [] Go.Proofs.Tryz.func146 rfl rfl rfl ?_;simp only [Go.Proofs.Tryz.f146];refine hgR ?_
 repeat' ((first | refine hfk ?_ ?_<;>intros | refine hik ?_ | with_reducible first | refine wml (h) ?_ | refine ysj (h) ?_)<;>refine hgS ?_)
 all_goals (refine RLe.ofEq ?_;conv=>simp only [Bool.and_true,Bool.true_and,Bool.and_false,Bool.false_and,Bool.or_true,Bool.true_or,Bool.or_false,Bool.false_or,Bool.not_true,Bool.not_false,decide_true,decide_false,not_true_eq_false,not_false_eq_true,wiu,if_true,if_false,Bool.and_self,Bool.or_self,cond_true,cond_false,List.length_map,ne_eq,Int.reduceEq,Int.reduceLT,Int.reduceLE, *,Bool.not_not]);first | exact trivial | rfl
theorem Th.G.con {n B:Nat} {x:Th} (h:x.G n B) (hn:n<=1048576) (hB:B<=67108864):CallsD Γ prog 146 [.agg (thC x)] (.one (cB x.con)):=
 cCon x (Nat.le_trans h.rows.1 hn) (fun q hq=>Nat.le_trans (h.rows.2 q hq) hB)
theorem zbq (l:List Th) (f:FuncId) (p:Th->Bool) (hl:l.length<=1073741824) (h:∀ y∈l,CallsD Γ prog f [.agg (thC y)] (.one (cB (p y)))) :
 CallsD Γ prog 205 [.one (.sl 7 (l.map Th.C)),fN f] (.one (cI (idxF p l))):=by
 refine CallsD.run [] Go.Proofs.Tryz.func205 rfl rfl rfl ?_;simp only [Go.Proofs.Tryz.f205];refine hgR ?_;refine x20 [0,1,7] (fun i:Nat=>[(8,.one (.dat (cI i)))]) (fun _=>[]) (fun i=>i<=l.length/\∀ j,j<i->p (l.getD j default)=false) (fun i=>l.length-i) 0 ⟨Nat.zero_le _,fun j hj=>by omega⟩ ?_ ?_
 . refine hg ?_;exact StH.same svl rfl
 intro i hi;obtain ⟨hi,hj⟩:=hi;refine hg ?_
 repeat' ((first | refine hfk ?_ ?_<;>intros | refine hik ?_ | with_reducible first | refine wml (h _ (y7p (show i<l.length by omega))) ?_ | refine ysj (h _ (y7p (show i<l.length by omega))) ?_)<;>refine hgS ?_)
 . rename_i hp;rw [(w7a hi hj).2 (by omega) hp];exact RLe.ofEq rfl
 . rename_i hp;refine ⟨i+1,⟨by omega,fun j hj'=>?_⟩,by omega,StH.same svl rfl⟩
   rcases Nat.lt_or_eq_of_le (Nat.le_of_lt_succ hj') with h2 | h2
   . exact hj j h2
   . rw [h2];exact hp
 . rw [(w7a hi hj).1 (by omega)];exact RLe.ofEq rfl
theorem xaw (l:List Th) (f:FuncId) (p:Th->Bool) (hl:l.length<=1073741824) (h:∀ y∈l,CallsD Γ prog f [.agg (thC y)] (.one (cB (p y)))) :
 CallsD Γ prog 148 [.one (.sl 7 (l.map Th.C)),fN f] (.one (cB (l.any p))):=by
 refine CallsD.run [] Go.Proofs.Tryz.func148 rfl rfl rfl ?_;simp only [Go.Proofs.Tryz.f148];refine hgR ?_
 repeat' ((first | refine hfk ?_ ?_<;>intros | refine hik ?_ | with_reducible first | refine wml (zbq l f p hl h) ?_ | refine ysj (zbq l f p hl h) ?_)<;>refine hgS ?_)
 exact RLe.ofEq (by rw [<-z9y])
theorem wc5 (x:Th):CallsD Γ prog 149 [.agg (thC x)] (.one (cB (!x.t))):=by
 refine CallsD.run [] Go.Proofs.Tryz.func149 rfl rfl rfl ?_;simp only [Go.Proofs.Tryz.f149];refine hgR ?_
 repeat' ((first | refine hfk ?_ ?_<;>intros | refine hik ?_)<;>refine hgS ?_)
 all_goals refine lfE ?_;first | exact trivial | rfl
theorem y34 (o:Int) (l:List Th) (h0:0<l.length) (hl:l.length<=1073741824) (h2:o=14\/o=15->1<l.length):CallsD Γ prog 84 [.one (cI o),.one (.sl 7 (l.map Th.C))] (thA (logA o l)):=by
 have h:=xaw (Γ:=Γ) l 149 (fun t=>!t.t) (by omega) (fun y _=>wc5 y)
 have e:logA o l=bif l.any (fun t=>!t.t) then (⟨false,false,none,[]⟩,13) else truA (bif decide (o=14) then (l.getD 0 default).i&&(l.getD 1 default).i else bif decide (o=15) then (l.getD 0 default).i||(l.getD 1 default).i else !(l.getD 0 default).i):=rfl
 generalize l.any (fun t=>!t.t)=c at h e;generalize hR:logA o l=R at e
 cases c with
 | true=>
  refine CallsD.run [] Go.Proofs.Tryz.func84 rfl rfl rfl ?_;simp only [Go.Proofs.Tryz.f84];refine hgR ?_
  repeat' ((first | refine hfk ?_ ?_<;>intros | refine hik ?_ | with_reducible first | refine wml (h) ?_ | refine ysj (h) ?_)<;>refine hgS ?_)
  all_goals first
   | exact thEq rfl
   | exact RLe.ofEq rfl
   | (exfalso;omega)
   | exact thEq (by simp [*,truA,timA])
   | exact RLe.ofEq (by simp [*,truA,timA])
 | false=>
  by_cases o14:o=14
  . have h2':=h2 (.inl o14);subst o14;refine CallsD.run [] Go.Proofs.Tryz.func84 rfl rfl rfl ?_;simp only [Go.Proofs.Tryz.f84];refine hgR ?_
    repeat' ((first | refine hfk ?_ ?_<;>intros | refine hik ?_ | with_reducible first | refine wml (h) ?_ | refine ysj (h) ?_)<;>refine hgS ?_)
    all_goals first
    | exact thEq rfl
    | exact RLe.ofEq rfl
    | (exfalso;omega)
    | exact thEq (by simp [*,truA,timA])
    | exact RLe.ofEq (by simp [*,truA,timA])
  . by_cases o15:o=15
    . have h2':=h2 (.inr o15);subst o15;refine CallsD.run [] Go.Proofs.Tryz.func84 rfl rfl rfl ?_;simp only [Go.Proofs.Tryz.f84];refine hgR ?_
      repeat' ((first | refine hfk ?_ ?_<;>intros | refine hik ?_ | with_reducible first | refine wml (h) ?_ | refine ysj (h) ?_)<;>refine hgS ?_)
      all_goals first
    | exact thEq rfl
    | exact RLe.ofEq rfl
    | (exfalso;omega)
    | exact thEq (by simp [*,truA,timA])
    | exact RLe.ofEq (by simp [*,truA,timA])
    . refine CallsD.run [] Go.Proofs.Tryz.func84 rfl rfl rfl ?_;simp only [Go.Proofs.Tryz.f84];refine hgR ?_
      repeat' ((first | refine hfk ?_ ?_<;>intros | refine hik ?_ | with_reducible first | refine wml (h) ?_ | refine ysj (h) ?_)<;>refine hgS ?_)
      all_goals first
    | exact thEq rfl
    | exact RLe.ofEq rfl
    | (exfalso;omega)
    | exact thEq (by simp [*,truA,timA])
    | exact RLe.ofEq (by simp [*,truA,timA])
theorem zlw {n:Nat} (o:Int) (a b:Th) (ha:a.G n B) (hb:b.G n B) (hn:n<=1048576) (hB:B<=67108864):CallsD Γ prog 86 [.one (cI o),.agg (thC a),.agg (thC b)] (thA (sumA o a b)):=by
 generalize hR:sumA o a b=R
 rcases ha.cs with ⟨i,rfl⟩ | ⟨k,cs,rfl,h1,h2,h3⟩
 . refine CallsD.run [] Go.Proofs.Tryz.func86 rfl rfl rfl ?_;simp only [Go.Proofs.Tryz.f86];refine hgR ?_;exact thEq hR.symm
 rcases hb.cs with ⟨i,rfl⟩ | ⟨m,ds,rfl,k1,k2,k3⟩
 . refine CallsD.run [] Go.Proofs.Tryz.func86 rfl rfl rfl ?_;simp only [Go.Proofs.Tryz.f86];refine hgR ?_;exact thEq hR.symm
 have la:(Af.of k cs).l.length<=1048576:=by show (cs.map Fc.of).length<=_;rw [List.length_map];omega
 have lb:(Af.of k cs).l.length<=(Af.of m ds).l.length:=by show (cs.map Fc.of).length<=(ds.map Fc.of).length;rw [List.length_map,List.length_map];omega
 have za:(Af.of k cs).le 67108864:=⟨Nat.le_trans h2 hB,zf5 (fun q hq=>Nat.le_trans (h3 q hq) hB)⟩;have zb:(Af.of m ds).le 67108864:=⟨Nat.le_trans k2 hB,zf5 (fun q hq=>Nat.le_trans (k3 q hq) hB)⟩;have e1:=CallsD.fn2 (Γ:=Γ) (g:=21) (ylz 67108864 Fc.add (fun x y=>Fc.er (x.ok/\y.ok)) (Af.of k cs) (Af.of m ds) lb la za zb) (wza (Γ:=Γ) Fc.zero Fc.zero (by decide) (by decide)).1
  (fun args res ⟨x,y,hx,hy,h1,h2⟩=>by subst h1 h2;exact wza x y hx hy)
 have e2:=CallsD.fn2 (Γ:=Γ) (g:=151) (ylz 67108864 Fc.sub (fun x y=>Fc.er (x.ok/\y.ok)) (Af.of k cs) (Af.of m ds) lb la za zb) (yjd (Γ:=Γ) Fc.zero Fc.zero (by decide) (by decide)).1
  (fun args res ⟨x,y,hx,hy,h1,h2⟩=>by subst h1 h2;exact yjd x y hx hy)
 rw [w8v Fc.xac,y6w,y6w,y6w] at e1;rw [w8v Fc.zig,y6w,y6w,y6w] at e2;refine CallsD.run [] Go.Proofs.Tryz.func86 rfl rfl rfl ?_;simp only [Go.Proofs.Tryz.f86];refine hgR ?_
 repeat' ((first | refine hfk ?_ ?_<;>intros | refine hik ?_ | with_reducible first | refine wml (e1) ?_ | refine ysj (e1) ?_ | refine wml (e2) ?_ | refine ysj (e2) ?_)<;>refine hgS ?_)
 all_goals (subst hR;first
  | exact RLe.ofEq rfl
  | exact RLe.ofEq (by simp [sumA,addA,subA, *];exact ⟨rfl,rfl,rfl,rfl⟩))
theorem xoj (k q:Rat) (cs:List Rat) (hl:cs.length<=1048576) (h1:qs k<=67108864) (h2:∀ c∈cs,qs c<=67108864) (h3:qs q<=67108864) :
 CallsD Γ prog 13 [.agg (afC (k,cs)),.agg (qC (some q))] (.tup [.agg (afC (k*q,cs.map (· * q))),.one (cI 0)]):=by
 have h:=zy8 (Γ:=Γ) (Af.of k cs) (Fc.of q) (by show (cs.map Fc.of).length<=_;rw [List.length_map];omega) ⟨h1,zf5 h2⟩ h3;rw [xi1,y6w,y6w,Fc.wop ⟨(Af.xd3 _ _ _).2 (by show _=(cs.map Fc.of).length;rw [List.length_map]),Fc.xd3 q⟩] at h;exact h
theorem zda {n:Nat} (o:Int) (ho:o=8\/o=9) (a b:Th) (ha:a.G n B) (hb:b.G n B) (hn:n<=1048576) (hB:B<=33554432):CallsD Γ prog 85 [.one (cI o),.agg (thC a),.agg (thC b)] (thA (scaA o a b)):=by
 have ca:=ha.con (Γ:=Γ) hn (by omega);have cb:=hb.con (Γ:=Γ) hn (by omega);generalize hR:scaA o a b=R
 rcases ha.cs with ⟨i,rfl⟩ | ⟨k,cs,rfl,h1,h2,h3⟩
 . refine CallsD.run [] Go.Proofs.Tryz.func85 rfl rfl rfl ?_;simp only [Go.Proofs.Tryz.f85];refine hgR ?_;exact thEq hR.symm
 rcases hb.cs with ⟨i,rfl⟩ | ⟨m,ds,rfl,k1,k2,k3⟩
 . refine CallsD.run [] Go.Proofs.Tryz.func85 rfl rfl rfl ?_;simp only [Go.Proofs.Tryz.f85];refine hgR ?_;exact thEq hR.symm
 have l1:cs.length<=1048576:=by omega
 have l2:ds.length<=1048576:=by omega
 have t1:=xoj (Γ:=Γ) k m cs l1 (by omega) (fun q hq=>by have:=h3 q hq;omega) (by omega);have t2:=xoj (Γ:=Γ) m k ds l2 (by omega) (fun q hq=>by have:=k3 q hq;omega) (by omega)
 have hR2:R=bif (!Th.con ⟨false,false,some m,ds⟩&&(decide (o=9)||!Th.con ⟨false,false,some k,cs⟩)) then (⟨false,false,none,[]⟩,13) else
  bif decide (o=8)&&!Th.con ⟨false,false,some m,ds⟩ then (⟨false,false,some (m*k),ds.map (· * k)⟩,0) else
  bif decide (o=9) then (bif decide (¬divE (some ((1:Int):Rat)) (some m)=0) then (⟨false,false,none,[]⟩,15) else (timA ⟨false,false,some k,cs⟩ (divO (some ((1:Int):Rat)) (some m)),0)) else (⟨false,false,some (k*m),cs.map (· * m)⟩,0):=hR.symm
 generalize Th.con ⟨false,false,some k,cs⟩=xa at ca hR2;generalize Th.con ⟨false,false,some m,ds⟩=xb at cb hR2;clear hR ha hb
 rcases ho with rfl | rfl
 . refine CallsD.run [] Go.Proofs.Tryz.func85 rfl rfl rfl ?_;simp only [Go.Proofs.Tryz.f85];refine hgR ?_
   repeat' ((first | refine hfk ?_ ?_<;>intros | refine hik ?_ | with_reducible first | refine wml (ca) ?_ | refine ysj (ca) ?_ | refine wml (cb) ?_ | refine ysj (cb) ?_ | refine wml (t1) ?_ | refine ysj (t1) ?_ | refine wml (t2) ?_ | refine ysj (t2) ?_)<;>refine hgS ?_)
   all_goals first
    | exact thEq rfl
    | exact RLe.ofEq rfl
    | (exfalso;omega)
    | exact thEq (by simp [*,truA,timA])
    | exact RLe.ofEq (by simp [*,truA,timA])
 . have hz:=x10 (n:=1) (by decide);have hd:=oDiv (Γ:=Γ) (some ((1:Int):Rat)) (some m) (by omega) (by show qs m<=_;omega);by_cases hm:m=0
   . subst hm
     have e1:divE (some ((1:Int):Rat)) (some 0)=15:=by show (bif decide ((0:Rat)=0) then (15:Int) else 0)=15;rw [decide_eq_true rfl];rfl
     rw [e1] at hd hR2;refine CallsD.run [] Go.Proofs.Tryz.func85 rfl rfl rfl ?_;simp only [Go.Proofs.Tryz.f85];refine hgR ?_
     repeat' ((first | refine hfk ?_ ?_<;>intros | refine hik ?_ | with_reducible first | refine wml (ca) ?_ | refine ysj (ca) ?_ | refine wml (cb) ?_ | refine ysj (cb) ?_ | refine wml (oInt 1 (by decide)) ?_ | refine ysj (oInt 1 (by decide)) ?_ | refine wml (hd) ?_ | refine ysj (hd) ?_)<;>refine hgS ?_)
     all_goals first
     | exact thEq rfl
     | exact RLe.ofEq rfl
     | (exfalso;omega)
     | exact thEq (by simp [*,truA,timA])
     | exact RLe.ofEq (by simp [*,truA,timA])
   . have e1:divE (some ((1:Int):Rat)) (some m)=0:=by show (bif decide (m=0) then (15:Int) else 0)=0;rw [decide_eq_false hm];rfl
     have e2:divO (some ((1:Int):Rat)) (some m)=some (((1:Int):Rat) / m):=by show (bif decide (m=0) then none else some (((1:Int):Rat) / m))=_;rw [decide_eq_false hm];rfl
     have hs:=x6h ((1:Int):Rat) m;have h1':qs ((1:Int):Rat)<=4:=hz;have t3:=xoj (Γ:=Γ) k (((1:Int):Rat) / m) cs l1 (by omega) (fun q hq=>by have:=h3 q hq;omega) (by omega);rw [e1,e2] at hd hR2;refine CallsD.run [] Go.Proofs.Tryz.func85 rfl rfl rfl ?_;simp only [Go.Proofs.Tryz.f85];refine hgR ?_
     repeat' ((first | refine hfk ?_ ?_<;>intros | refine hik ?_ | with_reducible first | refine wml (ca) ?_ | refine ysj (ca) ?_ | refine wml (cb) ?_ | refine ysj (cb) ?_ | refine wml (oInt 1 (by decide)) ?_ | refine ysj (oInt 1 (by decide)) ?_ | refine wml (hd) ?_ | refine ysj (hd) ?_ | refine wml (t3) ?_ | refine ysj (t3) ?_)<;>refine hgS ?_)
     all_goals first
     | exact thEq rfl
     | exact RLe.ofEq rfl
     | (exfalso;omega)
     | exact thEq (by simp [*,truA,timA])
     | exact RLe.ofEq (by simp [*,truA,timA])
end Go.Hp.T
namespace Go.Hp.T
open Go Go.RowKit Go.Slot Go.Hp Go.Slot.T
open Go.Proofs.Tryz (prog)
set_option maxRecDepth 10000
set_option maxHeartbeats 4000000
variable {Γ:List (Nat×List Cell)}
variable {α:Type}
theorem yp7 {C:α->SV} (h:∀ r a,v3y r (C a)=C a) (r:Nat->Nat) (l:List (ByteArray×α)):rnSB r (.map (envM C l))=.map (envM C l):=by
 have:(envM C l).map (fun p=>(p.1,v3y r p.2))=envM C l:=by
  induction l with
  | nil=>rfl
  | cons p l ih=>
   show (Value.string p.1,v3y r (C p.2))::(envM C l).map _=_;rw [ih,h];rfl
 show SB.map _=_;rw [this]
theorem xgc {C:α->SV} (h:∀ i j a,xy0 i j (C a)=C a) (i j:Nat) (l:List (ByteArray×α)):swSB i j (.map (envM C l))=.map (envM C l):=by
 have:(envM C l).map (fun p=>(p.1,xy0 i j p.2))=envM C l:=by
  induction l with
  | nil=>rfl
  | cons p l ih=>
   show (Value.string p.1,xy0 i j (C p.2))::(envM C l).map _=_;rw [ih,h];rfl
 show SB.map _=_;rw [this]
theorem xuj {C:α->SV} (h:∀ a,wj3 (C a)=[]) (l:List (ByteArray×α)):vb5 (.map (envM C l))=[]:=by
 show (envM C l).flatMap (fun p=>wj3 p.2)=[]
 induction l with
 | nil=>rfl
 | cons p l ih=>show wj3 (C p.2)++(envM C l).flatMap _=[];rw [ih,h];rfl
theorem zgw {r:Nat->Nat} {l:Vt}:rnSB r (.map (envB l))=.map (envB l):=yp7 (fun _ _=>rfl) r l
theorem vcy (i j:Nat) (l:Vt):swSB i j (.map (envB l))=.map (envB l):=xgc (fun _ _ _=>rfl) i j l
theorem wor (l:Vt):vb5 (.map (envB l))=[]:=xuj (fun _=>rfl) l
attribute [go_sem] wor
attribute [go_sem 20000] zgw vcy
abbrev mB (l:Vt):SB:=.map (envB l)
end Go.Hp.T
namespace Go.Hp
open Go Go.RowKit Go.Slot
variable {P:Program} {Γ:List (Nat×List Cell)}
variable {f:FuncId} {ηs:List SB} {res:SV}
theorem xpp.roN (φ:List Nat) {J:List SB} {args:List SV} (h:xpp Γ P f ηs args ηs res) (hn:φ.Nodup) (hb:(φ.all fun j=>Nat.blt j J.length)=true) (hp:φ.map (fun j=>J[j]?)=ηs.map (fun x=>some (rnSB (atR φ J.length) x))) :
 xpp Γ P f J (args.map (v3y (atR φ J.length))) J (rnSV (atR φ J.length) res):=by
 have hb':∀ j∈φ,j<J.length:=fun j hj=>by simpa using List.all_eq_true.1 hb j hj
 have hk:=xgt.of hp;have hc:=xpp.frame hn hb' hk (by rw [hk.1];exact Nat.le_refl _) h
 have hput:putR φ J ηs=J:=by
  apply List.ext_getElem?;intro i;by_cases hi2:i<J.length
  . by_cases hi:i∈φ
    . obtain ⟨k,hk2,rfl⟩:=List.getElem_of_mem hi
      have hkl:k<ηs.length:=by rw [hk.1];exact hk2
      have h1:=xje (ηs':=ηs) hn hb' (List.getElem?_eq_getElem hkl);rw [zj8 (List.getElem?_eq_getElem hk2)] at h1;rw [h1];have h2:=congrArg (fun l=>l[k]?) hp;simp only [List.getElem?_map,List.getElem?_eq_getElem hk2,List.getElem?_eq_getElem hkl,Option.map_some] at h2;exact (Option.some.inj h2).symm
    . exact zn3 hi2 hi
  . rw [List.getElem?_eq_none (by rw [wb2,hk.1];omega),List.getElem?_eq_none (by omega)]
 rw [hput] at hc;exact hc
theorem xpp.preN {ξ:List SB} {args:List SV} (h:xpp Γ P f ηs args ηs res) (hs:∀ r:Nat->Nat,(∀ i,i<ηs.length->r i=i)->ηs.map (rnSB r)=ηs) (ha:args.map (v3y (atR (List.range ηs.length) (ηs++ξ).length))=args) (hr:rnSV (atR (List.range ηs.length) (ηs++ξ).length) res=res):xpp Γ P f (ηs++ξ) args (ηs++ξ) res:=by
 have hc:=xpp.roN (List.range ηs.length) (J:=ηs++ξ) h List.nodup_range (List.all_eq_true.2 fun j hj=>by
  rw [List.mem_range] at hj
  simp only [List.length_append,Nat.blt_eq];omega) (by
  apply List.ext_getElem?;intro i;by_cases hi:i<ηs.length
  . have h1:=congrArg (fun l=>l[i]?) (hs _ (fun i hi=>yjm (N:=(ηs++ξ).length) hi));simp only [List.getElem?_map,List.getElem?_eq_getElem hi,Option.map_some,Option.some.injEq] at h1;simp only [List.getElem?_map,List.getElem?_range hi,List.getElem?_eq_getElem hi,Option.map_some,List.getElem?_append_left hi,h1]
  . simp [List.getElem?_eq_none (show ηs.length<=i by omega)];omega)
 rw [ha,hr] at hc;exact hc
end Go.Hp
namespace Go.Hp.T
open Go Go.RowKit Go.Slot Go.Hp Go.Slot.T
open Go.Proofs.Tryz (prog)
set_option maxRecDepth 10000
set_option maxHeartbeats 8000000
variable {Γ:List (Nat×List Cell)}
variable {T:Va} {B:Nat}
def envA (l:Va):List (Value×SV):=envM (fun f=>.agg ((afC f).map .dat)) l
theorem zy7 {s:ByteArray}:yvo (envA T) (.string s)=some ((z2f T s).map fun f=>.agg ((afC f).map .dat)):=x0f
theorem zu9 {s:ByteArray} {k:Rat} {cs:List Rat}:updM (envA T) (.string s) (.agg [.dat (.raw (.int .i64 (qF (some k)).s)),.dat (.ints .i64 (qF (some k)).L),.dat (.raw (.int .i64 (qF (some k)).t)),.dat (.ints .i64 (qF (some k)).M),.dat (.sl 4 (cs.map rowQ))])=some (envA (updF T s (k,cs))):=y5p (C:=fun f:Fm=>.agg ((afC f).map .dat)) (l:=T) (s:=s) (v:=(k,cs))
theorem vis {r:Nat->Nat} {l:Va}:rnSB r (.map (envA l))=.map (envA l):=yp7 (fun _ _=>rfl) r l
theorem vho (i j:Nat) (l:Va):swSB i j (.map (envA l))=.map (envA l):=xgc (fun _ _ _=>rfl) i j l
theorem wbm (l:Va):vb5 (.map (envA l))=[]:=xuj (fun _=>rfl) l
attribute [go_sem] wbm zy7 zu9
attribute [go_sem 20000] vis vho
abbrev mA (l:Va):SB:=.map (envA l)
abbrev rdB (n:Nat):SB:=.box [.dat (cI n),.mp 1,.mp 2] (some 127)
abbrev rdE (n:Nat) (V:Va) (T:Vt):List SB:=[rdB n,mA V,mB T]
theorem zt9 (n:Nat) (V:Va) (T:Vt):∀ r:Nat->Nat,(∀ i,i<(rdE n V T).length->r i=i)->(rdE n V T).map (rnSB r)=rdE n V T:=fun r hr=>by
 show [SB.box [.dat (cI n),.mp (r 1),.mp (r 2)] (some 127),rnSB r (mA V),rnSB r (mB T)]=_;rw [hr 1 (by show 1<3;decide),hr 2 (by show 2<3;decide),vis,zgw]
theorem w1z:CallsD Γ prog 12 [.one (cI 0)] (.agg (qC (some 0))):=oInt 0 (by decide)
theorem row0:rowQ 0=[cI 0,.ints .i64 [],cI 1,.ints .i64 [1]]:=by
 show [Cell.raw (.int .i64 (Fc.of 0).s),.ints .i64 (dig (0:Int).natAbs),.raw (.int .i64 (Fc.of 0).t),.ints .i64 (dig 1)]=_;rw [show (0:Int).natAbs=0 from rfl,y89,xxw (by decide),y89];rfl
theorem vl7 (n:Nat) (hn:n<=6):CallsD Γ prog 200 [.one (.sl 4 [rowQ 0]),.one (cI n)] (.one (.sl 4 (List.replicate n (rowQ 0)))):=by
 rw [row0]
 obtain rfl | rfl | rfl | rfl | rfl | rfl | rfl:n=0\/n=1\/n=2\/n=3\/n=4\/n=5\/n=6:=by omega
 all_goals exact CallsD.fv (N:=1000) (n:=60) OkD.none (by kernel_rfl)
theorem yfa (n:Nat) (V:Va) (T:Vt) (v:Option Rat) (hn:n<=6):xpp Γ prog 145 (rdE n V T) [.one (.ptr 0 0),.agg ((qC v).map .dat)] (rdE n V T) (.agg ((thC (numA n v)).map .dat)):=by
 have hr:CallsD Γ prog 200 [.one (.sl 4 [qC (some 0)]),.one (cI n)] (.one (.sl 4 ((List.replicate n (0:Rat)).map rowQ))):=by rw [List.map_replicate];exact vl7 n hn
 refine xpp.run [] Go.Proofs.Tryz.func145 rfl rfl ?_;simp only [Go.Proofs.Tryz.f145];refine hgR ?_
 repeat' ((first | refine hfk ?_ ?_<;>intros | refine hik ?_ | with_reducible first | refine wml (w1z) ?_ | refine ysj (w1z) ?_ | refine wml (hr) ?_ | refine ysj (hr) ?_)<;>refine hgS ?_)
 exact StH.vzq rfl (by kernel_rfl) rfl
theorem yyg {n:Nat} (V:Va) (T:Vt) (s:ByteArray) (k:Th) (hk:k.G n B) (hn:n<=6) (hB:B<=67108864) (hT:∀ s t,z2f T s=some t->t.Sm/\tbOk t=true) :
 xpp Γ prog 83 (rdE n V T) [.one (.ptr 0 0),.one (.dat (cS s)),.agg ((thC k).map .dat)] (rdE n V T) (thS (xu8 n T s k)):=by
 have hc:=hk.con (Γ:=Γ) (by omega) hB
 cases h:z2f T s with
 | none=>
  have e:xu8 n T s k=(⟨false,false,none,[]⟩,11):=by unfold xu8;rw [h];rfl
  rw [e];refine xpp.run [] Go.Proofs.Tryz.func83 rfl rfl ?_;simp only [Go.Proofs.Tryz.f83];refine hgR ?_;refine hg1 @h ?_
  repeat' ((first | refine hfk ?_ ?_<;>intros | refine hik ?_)<;>refine hgS ?_)
  exact StH.z9p rfl (by kernel_rfl) rfl rfl
 | some t=>
  obtain ⟨h1,h2⟩:=hT s t h
  have hq:qz k.c<=67108864:=by
   rcases hk.cs with ⟨i,rfl⟩ | ⟨m,cs,rfl,_,h2,_⟩
   . exact Nat.zero_le _
   . exact Nat.le_trans h2 hB
  have hL:=vud (Γ:=Γ) t k.c hq h1.n h1.u h1.r
  have e:xu8 n T s k=bif !k.con then (⟨false,false,none,[]⟩,13) else bif decide (¬(xwc t k.c).2=0) then (⟨false,false,none,[]⟩,(xwc t k.c).2) else (numA n (xwc t k.c).1,0):=by unfold xu8;rw [h];rfl
  rw [e];generalize xwc t k.c=r at hL;obtain ⟨rv,re⟩:=r;simp only at hL;generalize k.con=kc at hc;have hnum:=yfa (Γ:=Γ) n V T rv hn;refine xpp.run [] Go.Proofs.Tryz.func83 rfl rfl ?_;simp only [Go.Proofs.Tryz.f83];refine hgR ?_;refine hg1 @h ?_
  repeat' ((first | refine hfk ?_ ?_<;>intros | refine hik ?_ | with_reducible first | refine wml (hc) ?_ | refine ysj (hc) ?_ | refine wml (hL) ?_ | refine ysj (hL) ?_)<;>refine hgS ?_)
  all_goals first
   | exact StH.z9p rfl (by kernel_rfl) rfl (by simp [*])
   | skip
  refine x6x (xpp.preN hnum (zt9 n V T) rfl rfl) ?_;refine hg ?_;exact StH.vzq rfl (by kernel_rfl) (by simp [*])
theorem x7p {n:Nat} (V:Va) (T:Vt) (o:Int) (a b:Th) (ha:a.G n B) (hb:b.G n B) (hn:n<=1048576) (hB:B<=67108864) :
 xpp Γ prog 87 (rdE n V T) [.one (.ptr 0 0),.one (.dat (cI o)),.agg ((thC a).map .dat),.agg ((thC b).map .dat)] (rdE n V T) (thS (cmpA o a b)):=by
 have ca:=ha.con (Γ:=Γ) hn hB;have cb:=hb.con (Γ:=Γ) hn hB;generalize hR:cmpA o a b=R
 rcases ha.cs with ⟨i,rfl⟩ | ⟨k,cs,rfl,h1,h2,h3⟩
 . rw [show Th.con ⟨true,i,none,[]⟩=false from rfl] at ca;simp only [thC,List.map_nil] at ca;refine xpp.run [] Go.Proofs.Tryz.func87 rfl rfl ?_;simp only [Go.Proofs.Tryz.f87];refine hgR ?_
   repeat' ((first | refine hfk ?_ ?_<;>intros | refine hik ?_ | with_reducible first | refine wml (ca) ?_ | refine ysj (ca) ?_)<;>refine hgS ?_)
   exact StH.z9p rfl (by kernel_rfl) rfl hR.symm
 rcases hb.cs with ⟨i,rfl⟩ | ⟨m,ds,rfl,k1,k2,k3⟩
 . rw [show Th.con ⟨true,i,none,[]⟩=false from rfl] at cb;simp only [thC,List.map_nil] at cb
   have e:R=(⟨false,false,none,[]⟩,13):=by rw [<-hR];unfold cmpA;rw [show Th.con ⟨true,i,none,[]⟩=false from rfl,Bool.not_false,Bool.or_true];rfl
   generalize Th.con ⟨false,false,some k,cs⟩=xa at ca;refine xpp.run [] Go.Proofs.Tryz.func87 rfl rfl ?_;simp only [Go.Proofs.Tryz.f87];refine hgR ?_
   repeat' ((first | refine hfk ?_ ?_<;>intros | refine hik ?_ | with_reducible first | refine wml (ca) ?_ | refine ysj (ca) ?_ | refine wml (cb) ?_ | refine ysj (cb) ?_)<;>refine hgS ?_)
   all_goals exact StH.z9p rfl (by kernel_rfl) rfl rfl
 have hc:=oCmp (Γ:=Γ) (some k) (some m) (Nat.le_trans h2 hB) (Nat.le_trans k2 hB)
 have e:R=bif !Th.con ⟨false,false,some k,cs⟩||!Th.con ⟨false,false,some m,ds⟩ then (⟨false,false,none,[]⟩,13) else
  bif decide (o=12) then (⟨true,decide (cmpO (some k) (some m)<0),none,[]⟩,0) else bif decide (o=13) then (⟨true,decide (cmpO (some k) (some m)=0),none,[]⟩,0) else
  bif decide (o=10)==decide (cmpO (some k) (some m)<=0) then (⟨false,false,some k,cs⟩,0) else (⟨false,false,some m,ds⟩,0):=hR.symm
 generalize cmpO (some k) (some m)=c at hc e;generalize Th.con ⟨false,false,some k,cs⟩=xa at ca e;generalize Th.con ⟨false,false,some m,ds⟩=xb at cb e;clear hR ha hb;refine xpp.run [] Go.Proofs.Tryz.func87 rfl rfl ?_;simp only [Go.Proofs.Tryz.f87];refine hgR ?_
 repeat' ((first | refine hfk ?_ ?_<;>intros | refine hik ?_ | with_reducible first | refine wml (ca) ?_ | refine ysj (ca) ?_ | refine wml (cb) ?_ | refine ysj (cb) ?_ | refine wml (hc) ?_ | refine ysj (hc) ?_)<;>refine hgS ?_)
 all_goals first
  | exact StH.z9p rfl (by kernel_rfl) rfl rfl
  | exact StH.vzq rfl (by kernel_rfl) rfl
  | (exfalso;omega)
  | exact StH.z9p rfl (by kernel_rfl) rfl (by simp [*])
  | exact StH.vzq rfl (by kernel_rfl) (by simp [*])
end Go.Hp.T
namespace Go.Hp.T
open Go Go.RowKit Go.Slot Go.Hp Go.Slot.T
open Go.Proofs.Tryz (prog)
set_option maxRecDepth 10000
set_option maxHeartbeats 4000000
variable {Γ:List (Nat×List Cell)}
theorem vrt {p q:Int} (hp:1<=p) (hq:1<=q):0<Rat.divInt p q:=by
 rw [Rat.divInt_eq_div,Rat.div_def];exact Rat.mul_pos (Rat.intCast_pos.2 (by omega)) (Rat.inv_pos.2 (Rat.intCast_pos.2 (by omega)))
theorem yhe {s:ByteArray} {u:Un} (h:symF s=some u):0<u.f:=by
 unfold symF at h
 repeat' first
  | (cases h;exact vrt (by omega) (by omega))
  | (cases hc:seq s _<;>rw [hc] at h<;>simp only [cond_true,cond_false] at h)
 cases h
theorem zua {s:ByteArray} {u:Un} (h:xle s=some u):0<u.f:=by
 unfold xle at h
 cases h1:(symF s).isSome with
 | true=>rw [h1,cond_true] at h;exact yhe h
 | false=>
  rw [h1,cond_false] at h
  cases h2:(!(preF (yuk s 0)).isSome||!(symF (vp5 s 1)).isSome||!v2f (vp5 s 1)) with
  | true=>rw [h2,cond_true] at h;cases h
  | false=>
   rw [h2,cond_false] at h;split at h
   . rename_i p v hp hv
     cases h;obtain ⟨d,e⟩:=y3p hp;exact Rat.mul_pos (yhe hv) (vrt d.1 e.1)
   . cases h
theorem v63 {g:Rat->Rat} (h:∀ x,0<x->0<g x):∀(n:Nat) (a:Rat),0<a->0<iter g n a
 | 0,_,ha=>ha
 | n+1,a,ha=>v63 h n (g a) (h a ha)
theorem wom:∀(l:List It) (u v:Un),xx0 l u=some v->0<u.f->0<v.f
 | [],u,v,h,hu=>by cases h;exact hu
 | x::l,u,v,h,hu=>by
  unfold xx0 at h;split at h
  . cases h
  . rename_i w hw;have hp:=zua hw;refine wom l _ v h ?_;show 0<vhc u.f w.f x.e;unfold vhc
    cases decide (0<x.e) with
    | true=>exact v63 (fun y hy=>Rat.mul_pos hy hp) _ _ hu
    | false=>exact v63 (fun y hy=>by rw [Rat.div_def];exact Rat.mul_pos hy (Rat.inv_pos.2 hp)) _ _ hu
theorem yv0 {s : ByteArray} {u : Un} (h : xx7 s = (some u, 0)) : ytl u.d = true ∧ 0 < u.f := by
 unfold xx7 at h;split at h
 . cases h
 . split at h
   . cases h
   . rename_i l hl w hw
     cases hd:ytl w.d with
     | false=>rw [hd,cond_false] at h;cases h
     | true=>
      rw [hd,cond_true] at h
      cases h;exact ⟨hd,wom _ _ _ hw (show (0:Rat)<((1:Int):Rat) by decide)⟩
theorem zdl (n:Rat) (u:Un) (hd:ytl u.d=true) (hf:0<u.f) (h1:qs n<=67108864) (h2:qs u.f<=67108864):CallsD Γ prog 144 [.agg (qC (some n)),.agg (unQ u)] (qR (some (n*u.f)) 0):=by
 have c1:=wuc (Γ:=Γ) u.d;rw [hd] at c1;have c2:CallsD Γ prog 19 [.agg (qC (some u.f))] (.one (cB true)):=w7q (some u.f) (by show qs u.f<=_;omega);have c3:=xhi (Γ:=Γ) (qF (some u.f)) h2
 have e:Fc.sign (qF (some u.f))=1:=by
  have h:=Fc.w9t u.f
  have h':sg u.f.num=1:=by
   have h:=(Rat.lt_iff _ _).1 hf;simp only [Rat.zero_num,Rat.zero_den] at h
   have:=vvv u.f.num
   omega
  exact h.trans h'
 rw [e] at c3;have c3:CallsD Γ prog 202 [.agg (qC (some u.f))] (.one (cI 1)):=c3
 have cR:CallsD Γ prog 199 [.agg (unQ u)] (.one (cB true)):=by
  refine CallsD.run [] Go.Proofs.Tryz.func199 rfl rfl rfl ?_;simp only [Go.Proofs.Tryz.f199];refine hgR ?_
  repeat' ((first | refine hfk ?_ ?_<;>intros | refine hik ?_ | with_reducible first | refine wml (c1) ?_ | refine ysj (c1) ?_ | refine wml (c2) ?_ | refine ysj (c2) ?_ | refine wml (c3) ?_ | refine ysj (c3) ?_)<;>refine hgS ?_)
  all_goals first
   | exact RLe.ofEq rfl
   | (exfalso;omega)
 have c4:CallsD Γ prog 19 [.agg (qC (some n))] (.one (cB true)):=w7q (some n) (by show qs n<=_;omega);have c5:=oMul (Γ:=Γ) (some n) (some u.f) h1 h2;have c5:CallsD Γ prog 23 [.agg (qC (some n)),.agg (qC (some u.f))] (qR (some (n*u.f)) 0):=c5;clear c1 c2 c3;refine CallsD.run [] Go.Proofs.Tryz.func144 rfl rfl rfl ?_;simp only [Go.Proofs.Tryz.f144];refine hgR ?_
 repeat' ((first | refine hfk ?_ ?_<;>intros | refine hik ?_ | with_reducible first | refine wml (cR) ?_ | refine ysj (cR) ?_ | refine wml (c4) ?_ | refine ysj (c4) ?_ | refine wml (c5) ?_ | refine ysj (c5) ?_)<;>refine hgS ?_)
 all_goals first
  | exact RLe.ofEq rfl
  | (exfalso;omega)
end Go.Hp.T
namespace Go.Hp.T
open Go Go.RowKit Go.Slot Go.Hp Go.Slot.T
set_option maxRecDepth 10000
set_option maxHeartbeats 4000000
variable {γ:Type} {ms:List Tb} {V:Va} {B:Nat} {x:Ex} {r:Th}
section
variable {α β:Type} (nm:β->ByteArray) (val:β->α) (bad:β->Bool)
def gN (V:List (ByteArray×α)):List β->Option (List (ByteArray×α))
 | []=>some V
 | b::l=>bif bad b then none else gN (updF V (nm b) (val b)) l
end
section
variable {α β:Type} {nm:β->ByteArray} {val:β->α} {bad:β->Bool} {ok:β->Bool} {out:ByteArray->Bool}
theorem vta (d:α) (s:ByteArray):∀ V:List (ByteArray×α),(updF V s d).length=bif (z2f V s).isSome then V.length else V.length+1
 | []=>rfl
 | p::V=>by
  have ih:=vta d s V;rw [updF,z2f]
  cases seq s p.1 with
  | true=>rfl
  | false=>
   simp only [cond_false,List.length_cons,ih]
   cases (z2f V s).isSome<;>rfl
theorem ypk:∀{l:List β} {V W:List (ByteArray×α)},gN nm val bad V l=some W->W.length<=V.length+l.length
 | [],V,W,h=>by rw [gN] at h;cases h;exact Nat.le_refl _
 | b::l,V,W,h=>by
  rw [gN] at h
  cases hb:bad b with
  | true=>rw [hb] at h;cases h
  | false=>
   rw [hb] at h;have h1:=ypk h;rw [vta] at h1;rw [List.length_cons]
   cases hl:(z2f V (nm b)).isSome<;>rw [hl] at h1<;>simp only [cond_true,cond_false] at h1<;>omega
theorem wvo:∀{l:List β} {V:List (ByteArray×α)},(∀ b∈l,bad b=(out (nm b)||!isName (nm b)||isWord (nm b)||!ok b))->gE nm ok val out V l=(match gN nm val bad V l with
 | none=>none
 | some W=>bif decide (W.length=V.length+l.length) then some W else none)
 | [],V,_=>by
  show some V=bif decide (V.length=V.length+0) then some V else none
  rw [Nat.add_zero,decide_eq_true rfl];rfl
 | b::l,V,h=>by
  have hb:=h b (by simp)
  have ih:=fun V=>wvo (V:=V) (fun c hc=>h c (by simp [hc]):∀ c∈l,_)
  rw [gE,gN]
  have e:((z2f V (nm b)).isSome||out (nm b)||!isName (nm b)||isWord (nm b)||!ok b)=((z2f V (nm b)).isSome||bad b):=by
   rw [hb];simp only [Bool.or_assoc]
  rw [e]
  cases bad b with
  | true=>rw [Bool.or_true];rfl
  | false=>
   rw [Bool.or_false];have hs:=vta (val b) (nm b) V
   cases hl:(z2f V (nm b)).isSome with
   | true=>
    rw [hl] at hs;simp only [cond_true,cond_false] at hs ⊢
    cases hg:gN nm val bad (updF V (nm b) (val b)) l with
    | none=>rfl
    | some W=>
     have:=ypk hg
     have hlt:¬W.length=V.length+(b::l).length:=by rw [List.length_cons];omega
     show none=bif decide (W.length=V.length+(b::l).length) then some W else none
     rw [decide_eq_false hlt];rfl
   | false=>
    rw [hl] at hs;simp only [cond_false] at hs ⊢;rw [ih]
    cases hg:gN nm val bad (updF V (nm b) (val b)) l with
    | none=>rfl
    | some W=>
     simp only [hs,List.length_cons,show V.length+1+l.length=V.length+(l.length+1) by omega]
theorem wp1 {out' : ByteArray → Bool} : ∀ {l : List β} {V W W' : List (ByteArray × α)}, gE nm ok val out V l = some W → gE nm ok val out' V l = some W' → W = W'
 | [],V,W,W',h,h'=>by rw [gE] at h h';cases h;cases h';rfl
 | b::l,V,W,W',h,h'=>by
  rw [gE] at h h'
  cases h1:((z2f V (nm b)).isSome||out (nm b)||!isName (nm b)||isWord (nm b)||!ok b) with
  | true=>rw [h1] at h;cases h
  | false=>cases h2:((z2f V (nm b)).isSome||out' (nm b)||!isName (nm b)||isWord (nm b)||!ok b) with
   | true=>rw [h2] at h';cases h'
   | false=>
    rw [h1] at h;rw [h2] at h';exact wp1 h h'
theorem zkk {α':Type} {nm':γ->ByteArray} {ok':γ->Bool} {val':γ->α'} {tok:Tb->Bool} {bs:List β} {cs:List γ} {V:List (ByteArray×α)} {V':List (ByteArray×α')} {T T':List (ByteArray×Tb)} (h:entG nm ok val tok bs ms=some (V,T)) (h':entG nm' ok' val' tok cs ms=some (V',T')):T=T':=by
 unfold entG at h h'
 cases h1:gE nm ok val (fun _=>false) [] bs with
 | none=>rw [h1] at h;cases h
 | some W=>cases h2:gE nm' ok' val' (fun _=>false) [] cs with
  | none=>rw [h2] at h';cases h'
  | some W'=>
   rw [h1] at h;rw [h2] at h';simp only at h h';obtain ⟨X,hX,e⟩:=Option.map_eq_some_iff.1 h;obtain ⟨X',hX',e'⟩:=Option.map_eq_some_iff.1 h'
   cases e;cases e';exact wp1 hX hX'
end
theorem vx2 (n:Nat):∀(l:List Sl) (V:Va),gS n V l=gN Sl.name Sl.val (fun s=>!isName s.name||isWord s.name||!decide (s.f.ok n)) V l
 | [],V=>rfl
 | s::l,V=>by rw [gS,gN,vx2 n l]
theorem zct (V:Va):∀(l:List Tb) (T:Vt),gTb V T l=gN Tb.name id (fun t=>(z2f V t.name).isSome||isWord t.name||!tbOk t) T l
 | [],T=>rfl
 | t::l,T=>by rw [gTb,gN,zct V l];rfl
theorem zey (a b:Nat):decide ((a:Int)=b)=decide (a=b):=decide_eq_decide.2 (by omega)
theorem y3j (ss:List Sl) (ms:List Tb):entA ss ms=entG Sl.name (fun s=>decide (s.f.ok (nOf ss))) Sl.val tbOk ss ms:=by
 unfold entA entG;rw [vx2,wvo (bad:=fun s:Sl=>!isName s.name||isWord s.name||!decide (s.f.ok (nOf ss))) (fun b _=>by rw [Bool.false_or])]
 cases gN Sl.name Sl.val (fun s=>!isName s.name||isWord s.name||!decide (s.f.ok (nOf ss))) [] ss with
 | none=>rfl
 | some V=>
  simp only [zct,zey,List.length_nil,Nat.zero_add]
  have hg:=wvo (nm:=Tb.name) (val:=id) (ok:=tbOk) (out:=fun s=>(z2f V s).isSome) (bad:=fun t:Tb=>(z2f V t.name).isSome||isWord t.name||!tbOk t) (l:=ms) (V:=[]) (fun t _=>by
   cases ht:tbOk t with
   | true=>rw [(yg5 ht).2.1];cases (z2f V t.name).isSome<;>cases isWord t.name<;>rfl
   | false=>simp only [Bool.not_false,Bool.or_true])
  simp only [List.length_nil,Nat.zero_add] at hg
  cases hd:decide (V.length=ss.length) with
  | false=>
   cases gN Tb.name id (fun t=>(z2f V t.name).isSome||isWord t.name||!tbOk t) [] ms<;>rfl
  | true=>
   simp only [Bool.true_and,cond_true,hg]
   cases gN Tb.name id (fun t=>(z2f V t.name).isSome||isWord t.name||!tbOk t) [] ms with
   | none=>rfl
   | some T=>
    simp only
    cases decide (T.length=ms.length)<;>rfl
theorem Sl.xd3 {s:Sl} {n:Nat} (h:s.f.ok n):s.f=Af.of s.val.1 s.val.2/\s.val.2.length=n:=by
 obtain ⟨k,cs,e,hl⟩:=Af.vy4 h
 have e2:s.val=(k,cs):=by
  unfold Sl.val;rw [e];show ((Fc.of k).val,(cs.map Fc.of).map Fc.val)=_;rw [List.map_map,Fc.xhg]
  congr 1
  conv=>rhs;rw [<-List.map_id cs]
  exact List.map_congr_left (fun q _=>Fc.xhg q)
 rw [e2];exact ⟨e,hl⟩
variable {ss:List Sl}
def Sl.sm (B:Nat) (s:Sl):Prop:=s.f.c.sz+10<=B/\∀ f∈s.f.l,f.sz+10<=B
theorem zd4 {T:Vt} (h:entA ss ms=some (V,T)) (hs:∀ s∈ss,s.sm B):Asm (nOf ss) B V:=fun s f hf=>by
 rw [y3j] at h;obtain ⟨h1,_,_,h4,_⟩:=vxk h;rw [h4 s] at hf;obtain ⟨x,hx,rfl⟩:=Option.map_eq_some_iff.1 hf;have hm:=(ypj hx).1;obtain ⟨e,hl⟩:=Sl.xd3 (of_decide_eq_true (h1 x hm));obtain ⟨b1,b2⟩:=hs x hm;rw [e] at b1 b2;exact ⟨hl,b1,fun q hq=>b2 (Fc.of q) (List.mem_map_of_mem hq)⟩
theorem yxy {T:Vt} (h:entA ss ms=some (V,T)) (hb:∀ t∈ms,t.Sm):∀ s t,z2f T s=some t->t.Sm/\tbOk t=true:=fun s t ht=>by
 rw [y3j] at h;obtain ⟨_,h2,_,_,h5⟩:=vxk h;rw [h5 s] at ht;have hm:=(ypj ht).1;exact ⟨hb t hm,h2 t hm⟩
theorem v57 (h:affF x ss ms=(r,0)):zqs x=true/\x.wqm=false/\∃ V T,entA ss ms=some (V,T)/\x.aff (nOf ss) V T=(r,0)/\r.t=false:=by
 unfold affF at h
 cases h1:!zqs x||x.wqm with
 | true=>rw [h1] at h;cases h
 | false=>
  rw [h1] at h;rw [Bool.or_eq_false_iff] at h1;refine ⟨by simpa using h1.1,h1.2,?_⟩
  cases he:entA ss ms with
  | none=>rw [he] at h;cases h
  | some p=>
   obtain ⟨V,T⟩:=p;rw [he] at h;refine ⟨V,T,rfl,?_⟩;simp only [cond_false] at h;generalize x.aff (nOf ss) V T=p at h;obtain ⟨t,e⟩:=p;by_cases hd:¬e=0
   . simp only [decide_eq_true hd,cond_true] at h;exact absurd (congrArg Prod.snd h) hd
   . have hd':=Classical.not_not.1 hd;subst hd';simp only [not_true_eq_false,decide_false,cond_false] at h
     cases ht:t.t with
     | true=>rw [ht] at h;cases h
     | false=>
      rw [ht] at h;simp only [cond_false] at h
      cases h;exact ⟨rfl,ht⟩
theorem yvx (h:zqs x=true):x.shaped=true:=by unfold zqs at h;rw [Bool.and_eq_true] at h;exact h.2
def vy0 (i n:Nat):List Rat:=(List.range n).map fun k=>if i=k then 1 else 0
theorem xse (n:Nat):vy0 0 (n+1)=1::List.replicate n 0:=by
 unfold vy0;rw [List.range_succ_eq_map,List.map_cons,List.map_map,if_pos rfl]
 congr 1
 apply List.ext_getElem
 . simp
 . intro i h1 h2;simp
theorem w5m (i n:Nat):vy0 (i+1) (n+1)=0::vy0 i n:=by
 unfold vy0;rw [List.range_succ_eq_map,List.map_cons,List.map_map,if_neg (by omega)]
 congr 1
 exact List.map_congr_left (fun k _=>by simp only [Function.comp,Nat.succ_eq_add_one,Nat.add_right_cancel_iff])
theorem x6r:∀(vs:List Rat) (i:Nat),i<vs.length->dot (vy0 i vs.length) vs=vs.getD i 0
 | [],i,h=>by simp at h
 | v::vs,0,_=>by
  rw [List.length_cons,xse,wkb,vcw _ (fun q hq=>List.eq_of_mem_replicate hq),Rat.one_mul,Rat.add_zero];rfl
 | v::vs,i+1,h=>by
  rw [List.length_cons,w5m,wkb,x6r vs i (by simpa using h),Rat.zero_mul,Rat.zero_add];rfl
def vea (ss:List Sl):List Sl:=(List.range ss.length).map fun i=>⟨(ss.getD i default).name,Af.of 0 (vy0 i ss.length)⟩
theorem vk5 {α:Type} [Inhabited α] (F:α->γ) (l:List α):(List.range l.length).map (fun i=>F (l.getD i default))=l.map F:=by
 apply List.ext_getElem
 . simp
 . intro i h1 h2;simp only [List.getElem_map,List.getElem_range]
   congr 1
   rw [List.getD_eq_getElem?_getD,List.getElem?_eq_getElem (by simpa using h2)];rfl
theorem w7o (ss:List Sl):(vea ss).map Sl.name=ss.map Sl.name:=by
 unfold vea;rw [List.map_map];exact vk5 Sl.name ss
theorem z4x (h:ss≠[]):nOf (vea ss)=ss.length:=by
 cases ss with
 | nil=>exact absurd rfl h
 | cons s l=>
  unfold vea;rw [List.length_cons,List.range_succ_eq_map,List.map_cons];show ((vy0 0 (l.length+1)).map Fc.of).length=_;unfold vy0;simp
theorem yol (hB:4300<=B) (hne:ss≠[]) (h:affF x (vea ss) ms=(r,0)) (h1:(affF x ss ms).2≠1) :
 affF x ss ms=(subT (nOf ss) (ss.map Sl.val) r,0)/\r.t=false/\r.i=false/\r.l.length=ss.length/\(∃ q,r.c=some q)/\∀ s∈ss,s.f.ok (nOf ss):=by
 obtain ⟨k1,k2,V,T,he,ha,ht⟩:=v57 h
 have hex:∃ V' T',entA ss ms=some (V',T'):=by
  cases hf:entA ss ms with
  | none=>
   refine absurd ?_ h1;unfold affF;rw [k1,k2,hf];rfl
  | some p=>exact ⟨p.1,p.2,rfl⟩
 obtain ⟨V',T',hf⟩:=hex;have hn:=z4x hne;have he':=he;have hf':=hf;rw [y3j] at he' hf';have hT:=zkk he' hf';subst hT;obtain ⟨a1,_,a3,a4,_⟩:=vxk he';obtain ⟨b1,_,b3,b4,_⟩:=vxk hf';have hnd:(ss.map Sl.name).Nodup:=(List.nodup_append.1 b3.2).1
 have hsm:∀ s∈vea ss,s.sm B:=fun s hm=>by
  unfold vea at hm;obtain ⟨i,_,rfl⟩:=List.mem_map.1 hm;have h0:=z3n;have h01:qs (1:Rat)<=4:=x10 (n:=1) (by decide);refine ⟨by show qs 0+10<=B;omega,fun f hf=>?_⟩;obtain ⟨q,hq,rfl⟩:=List.mem_map.1 (show f∈(vy0 i ss.length).map Fc.of from hf);unfold vy0 at hq;obtain ⟨k,_,rfl⟩:=List.mem_map.1 hq;show qs _+10<=B
  split<;>omega
 have hV:=zd4 he hsm;have hG:=xni (T:=T) hB hV x (yvx k1) k2 (by rw [ha]);rw [ha] at hG;obtain ⟨hi,hl,⟨q,hq,_⟩,_⟩:=hG.form ht;rw [hn] at hl
 have hsub:=we1 (m:=nOf ss) (V':=V') (g:=ss.map Sl.val) hB hV (fun s=>by
  rw [a4 s,b4 s]
  cases hy:fnd Sl.name ss s with
  | none=>
   have:fnd Sl.name (vea ss) s=none:=z2v.2 (by rw [w7o];exact z2v.1 hy)
   rw [this];rfl
  | some y=>
   obtain ⟨hm,hsn⟩:=ypj hy;obtain ⟨i,hil,rfl⟩:=List.getElem_of_mem hm
   have hgd:ss.getD i default=ss[i]:=by rw [List.getD_eq_getElem?_getD,List.getElem?_eq_getElem hil];rfl
   have hu:fnd Sl.name (vea ss) s=some ⟨ss[i].name,Af.of 0 (vy0 i ss.length)⟩:=by
    refine (ypl (by rw [w7o];exact hnd)).2 ⟨?_,hsn⟩;unfold vea;exact List.mem_map.2 ⟨i,List.mem_range.2 hil,by rw [hgd]⟩
   rw [hu];obtain ⟨e,hl2⟩:=Sl.xd3 (of_decide_eq_true (b1 _ hm))
   have hv:(Sl.mk ss[i].name (Af.of 0 (vy0 i ss.length))).val=(0,vy0 i ss.length):=by
    unfold Sl.val Af.of;show ((Fc.of 0).val,((vy0 i ss.length).map Fc.of).map Fc.val)=_;rw [List.map_map,Fc.xhg]
    congr 1
    conv=>rhs;rw [<-List.map_id (vy0 i ss.length)]
    exact List.map_congr_left (fun q _=>Fc.xhg q)
   show some ss[i].val=some (subC _ (Sl.mk ss[i].name (Af.of 0 (vy0 i ss.length))).val.2 (Sl.mk ss[i].name (Af.of 0 (vy0 i ss.length))).val.1,subL _ _ (Sl.mk ss[i].name (Af.of 0 (vy0 i ss.length))).val.2);rw [hv];unfold subC subL
   have hd:∀ F:Fm->Rat,dot (vy0 i ss.length) ((ss.map Sl.val).map F)=F ss[i].val:=fun F=>by
    have hlen:((ss.map Sl.val).map F).length=ss.length:=by simp
    have:=x6r ((ss.map Sl.val).map F) i (by rw [hlen];exact hil)
    rw [hlen] at this;rw [this,List.getD_eq_getElem?_getD,List.getElem?_map,List.getElem?_map,List.getElem?_eq_getElem hil];rfl
   rw [hd,Rat.zero_add];simp only [hd]
   congr 1
   refine Prod.ext rfl ?_;apply List.ext_getElem
   . simp [hl2]
   . intro k g1 g2;simp only [List.getElem_map,List.getElem_range]
     rw [List.getD_eq_getElem?_getD,List.getElem?_eq_getElem g1];rfl) x (yvx k1) k2 (by rw [ha])
 rw [ha] at hsub;refine ⟨?_,ht,hi,hl,⟨q,hq⟩,fun s hm=>of_decide_eq_true (b1 s hm)⟩;unfold affF;rw [k1,k2,hf];simp only [hsub];show (bif false then _ else bif r.t then _ else _)=_;rw [ht];rfl
end Go.Hp.T
