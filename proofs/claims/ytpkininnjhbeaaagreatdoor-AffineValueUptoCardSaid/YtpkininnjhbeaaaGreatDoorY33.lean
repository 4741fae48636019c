import Derived.Test.YtpkininnjhbeaaaGreatDoorY29
import Derived.Test.YtpkininnjhbeaaaGreatDoorY32
import Derived.Test.YtpkininnjhbeaaaGreatDoorY31
namespace Go.Hp.T
open Go Go.RowKit Go.Slot Go.Hp Go.Slot.T
open Go.Proofs.Tryz (prog)
set_option maxRecDepth 10000
set_option maxHeartbeats 0
variable {Γ:List (Nat×List Cell)}
variable {t i:Bool} {B:Nat}
abbrev afC (f:Fm):List Cell:=[.raw (.int .i64 (qF (some f.1)).s),.ints .i64 (qF (some f.1)).L,.raw (.int .i64 (qF (some f.1)).t),.ints .i64 (qF (some f.1)).M,.sl 4 (f.2.map rowQ)]
theorem vqk (l:List Rat):List.map Fc.C (List.map Fc.of l)=l.map rowQ:=by rw [List.map_map];rfl
theorem y6w (k:Rat) (cs:List Rat):(Af.of k cs).C=afC (k,cs):=by unfold Af.of;rw [Af.C_eq];simp only [vqk];rfl
abbrev thA (r:Th×Int):AV:=.tup [.agg (thC r.1),.one (cI r.2)]
abbrev thS (r:Th×Int):SV:=.tup [.agg ((thC r.1).map .dat),.one (.dat (cI r.2))]
abbrev thZ (t i:Bool):List Cell:=[cB t,cB i,cI 0,.zc,cI 0,.zc,.zc]
theorem thLe:AV.Le (.agg (thZ t i)) (.agg (thC ⟨t,i,none,[]⟩)):=.agg (.cons (.refl _) (.cons (.refl _) (.cons (.refl _) (.cons (.zuc _) (.cons (.refl _) (.cons (.zuc _) (.cons (.zcSl _) .nil)))))))
theorem thEq {e:Int} {r:Th×Int} (h:r=(⟨t,i,none,[]⟩,e)):RLe (.tup [.agg (thZ t i),.one (cI e)]) (thA r):=by
 subst h;exact .tup (.cons thLe (.cons (.refl _) .nil))
theorem StH.thZ {e:List SB} {I':List SV} {J:List SB} {t i:Bool} {n:Int} (h:StH Γ e [thS (⟨t,i,none,[]⟩,n)] J I' e):StH Γ e [SV.tup [.agg ((T.thZ t i).map .dat),.one (.dat (cI n))]] J I' e:=
 StH.trans (StH.tup1 (.cons (.agg (.cons (.refl _) (.cons (.refl _) (.cons (.refl _) (.cons (.dat (.zuc _)) (.cons (.refl _) (.cons (.dat (.zuc _)) (.cons (.dat (.zcSl _)) .nil)))))))) (.cons (.refl _) .nil))) h
theorem StH.z9p {e:List SB} {I:List SV} {J:List SB} {n:Int} {r:Th×Int} (he:J.take e.length=e) (h:(I.all fun x=>(wj3 x).all fun b=>Nat.blt b e.length)=true) (hσ:I=[SV.tup [.agg ((T.thZ t i).map .dat),.one (.dat (cI n))]]) (hr:r=(⟨t,i,none,[]⟩,n)):StH Γ e I J [thS r] e:=by
 subst hr;exact StH.trans (StH.vzq he h hσ) (StH.thZ StH.refl)
theorem Th.G.cs {n B:Nat} {x:Th} (h:x.G n B):(∃ i,x=⟨true,i,none,[]⟩)\/∃ k cs,x=⟨false,false,some k,cs⟩/\cs.length=n/\qs k<=B/\∀ q∈cs,qs q<=B:=by
 obtain ⟨t,i,c,l⟩:=x
 rcases h with ⟨h1,h2,h3⟩ | ⟨h1,h2,h3,⟨q,h4,h5⟩,h6⟩
 . simp only at h1 h2 h3;subst h1 h2 h3;exact .inl ⟨i,rfl⟩
 . simp only at h1 h2 h3 h4 h6;subst h1 h2 h4;exact .inr ⟨q,l,rfl,h3,h5,h6⟩
theorem Th.G.rows {n:Nat} {x:Th} (h:x.G n B):x.l.length<=n/\∀ q∈x.l,qs q<=B:=by
 rcases h with ⟨_,_,h3⟩ | ⟨_,_,h3,_,h6⟩
 . rw [h3];exact ⟨Nat.zero_le _,fun q hq=>by cases hq⟩
 . exact ⟨Nat.le_of_eq h3,h6⟩
theorem zf5 {cs:List Rat} (h:∀ q∈cs,qs q<=B):∀ f∈cs.map Fc.of,f.sz<=B:=fun f hf=>by
 obtain ⟨q,hq,rfl⟩:=List.mem_map.1 hf;exact h q hq
theorem zv9:∀ l:List Rat,(l.map Fc.of).any (fun f=>decide (¬Fc.sign f=0)) = !l.all (fun q=>decide (q=0))
 | []=>rfl
 | q::l=>by
  rw [List.map_cons,List.any_cons,List.all_cons,zv9 l,Bool.not_and]
  congr 1
  rw [<-decide_not];refine decide_eq_decide.2 ?_;rw [show Fc.sign (Fc.of q)=sg q.num from Fc.w9t q];exact not_congr x7m
theorem wct (f:Fc) (h:f.sz<=67108864):CallsD Γ prog 201 [.agg f.C] (.one (cB (decide (¬Fc.sign f=0)))):=by
 refine CallsD.run [] Go.Proofs.Tryz.func201 rfl rfl rfl ?_;simp only [Go.Proofs.Tryz.f201];refine hgR ?_
 repeat' ((first | refine hfk ?_ ?_<;>intros | refine hik ?_ | with_reducible first | refine wml (xhi f h) ?_ | refine ysj (xhi f h) ?_)<;>refine hgS ?_)
 all_goals refine lfE ?_;first | exact trivial | rfl
theorem cCon (x:Th) (hl:x.l.length<=1048576) (hs:∀ q∈x.l,qs q<=67108864):CallsD Γ prog 146 [.agg (thC x)] (.one (cB x.con)):=by
 have h:=xmy (Γ:=Γ) 201 (fun f=>decide (¬Fc.sign f=0)) (x.l.map Fc.of) (by rw [List.length_map];omega) (fun i hi=>wct _ (zmm (zf5 hs) hi));rw [zv9,vqk] at h;have e:x.con=(!x.t&&x.l.all (fun q=>decide (q=0))):=rfl;rw [e];generalize x.l.all (fun q=>decide (q=0))=c at *;refine CallsD.run [] Go.Proofs.Tryz.func146 rfl rfl rfl ?_;simp only [Go.Proofs.Tryz.f146];refine hgR ?_
 repeat' ((first | refine hfk ?_ ?_<;>intros | refine hik ?_ | with_reducible first | refine hcA ?_ | refine hcB ?_)<;>refine hgS ?_)
 all_goals (refine RLe.ofEq ?_;conv=>simp only [Bool.and_true,Bool.true_and,Bool.and_false,Bool.false_and,Bool.or_true,Bool.true_or,Bool.or_false,Bool.false_or,Bool.not_true,Bool.not_false,decide_true,decide_false,not_true_eq_false,not_false_eq_true,wiu,if_true,if_false,Bool.and_self,Bool.or_self,cond_true,cond_false,List.length_map,ne_eq,Int.reduceEq,Int.reduceLT,Int.reduceLE, *,Bool.not_not]);first | exact trivial | rfl
theorem Th.G.con {n B:Nat} {x:Th} (h:x.G n B) (hn:n<=1048576) (hB:B<=67108864):CallsD Γ prog 146 [.agg (thC x)] (.one (cB x.con)):=
 cCon x (Nat.le_trans h.rows.1 hn) (fun q hq=>Nat.le_trans (h.rows.2 q hq) hB)
theorem zbq (l:List Th) (f:FuncId) (p:Th->Bool) (hl:l.length<=1073741824) (h:∀ y∈l,CallsD Γ prog f [.agg (thC y)] (.one (cB (p y)))) :
 CallsD Γ prog 205 [.one (.sl 7 (l.map Th.C)),fN f] (.one (cI (idxF p l))):=by
 refine CallsD.run [] Go.Proofs.Tryz.func205 rfl rfl rfl ?_;simp only [Go.Proofs.Tryz.f205];refine hgR ?_;refine x20 [0,1,7] (fun i:Nat=>[(8,.one (.dat (cI i)))]) (fun _=>[]) (fun i=>i<=l.length/\∀ j,j<i->p (l.getD j default)=false) (fun i=>l.length-i) 0 ⟨Nat.zero_le _,fun j hj=>by omega⟩ ?_ ?_
 . refine hg ?_;exact StH.same svl rfl
 intro i hi;obtain ⟨hi,hj⟩:=hi;refine hg ?_
 repeat' ((first | refine hfk ?_ ?_<;>intros | refine hik ?_ | with_reducible first | refine wml (h _ (y7p (show i<l.length by omega))) ?_ | refine ysj (h _ (y7p (show i<l.length by omega))) ?_)<;>refine hgS ?_)
 . rename_i hp;rw [(w7a hi hj).2 (by omega) hp];exact RLe.ofEq rfl
 . rename_i hp;refine ⟨i+1,⟨by omega,fun j hj'=>?_⟩,by omega,StH.same svl rfl⟩
   rcases Nat.lt_or_eq_of_le (Nat.le_of_lt_succ hj') with h2 | h2
   . exact hj j h2
   . rw [h2];exact hp
 . rw [(w7a hi hj).1 (by omega)];exact RLe.ofEq rfl
theorem xaw (l:List Th) (f:FuncId) (p:Th->Bool) (hl:l.length<=1073741824) (h:∀ y∈l,CallsD Γ prog f [.agg (thC y)] (.one (cB (p y)))) :
 CallsD Γ prog 148 [.one (.sl 7 (l.map Th.C)),fN f] (.one (cB (l.any p))):=by
 refine CallsD.run [] Go.Proofs.Tryz.func148 rfl rfl rfl ?_;simp only [Go.Proofs.Tryz.f148];refine hgR ?_
 repeat' ((first | refine hfk ?_ ?_<;>intros | refine hik ?_ | with_reducible first | refine wml (zbq l f p hl h) ?_ | refine ysj (zbq l f p hl h) ?_)<;>refine hgS ?_)
 exact RLe.ofEq (by rw [<-z9z])
theorem wc5 (x:Th):CallsD Γ prog 149 [.agg (thC x)] (.one (cB (!x.t))):=by
 refine CallsD.run [] Go.Proofs.Tryz.func149 rfl rfl rfl ?_;simp only [Go.Proofs.Tryz.f149];refine hgR ?_
 repeat' ((first | refine hfk ?_ ?_<;>intros | refine hik ?_)<;>refine hgS ?_)
 all_goals refine lfE ?_;first | exact trivial | rfl
theorem y34 (o:Int) (l:List Th) (h0:0<l.length) (hl:l.length<=1073741824) (h2:o=14\/o=15->1<l.length):CallsD Γ prog 84 [.one (cI o),.one (.sl 7 (l.map Th.C))] (thA (logA o l)):=by
 have h:=xaw (Γ:=Γ) l 149 (fun t=>!t.t) (by omega) (fun y _=>wc5 y)
 have e:logA o l=bif l.any (fun t=>!t.t) then (⟨false,false,none,[]⟩,13) else truA (bif decide (o=14) then (l.getD 0 default).i&&(l.getD 1 default).i else bif decide (o=15) then (l.getD 0 default).i||(l.getD 1 default).i else !(l.getD 0 default).i):=rfl
 generalize l.any (fun t=>!t.t)=c at h e;generalize hR:logA o l=R at e
 cases c with
 | true=>
  refine CallsD.run [] Go.Proofs.Tryz.func84 rfl rfl rfl ?_;simp only [Go.Proofs.Tryz.f84];refine hgR ?_
  repeat' ((first | refine hfk ?_ ?_<;>intros | refine hik ?_ | with_reducible first | refine hcA ?_ | refine hcB ?_)<;>refine hgS ?_)
  all_goals first
   | exact thEq rfl
   | exact RLe.ofEq rfl
   | (exfalso;omega)
   | exact thEq (by simp [*,truA,timA])
   | exact RLe.ofEq (by simp [*,truA,timA])
 | false=>
  by_cases o14:o=14
  . have h2':=h2 (.inl o14);subst o14;refine CallsD.run [] Go.Proofs.Tryz.func84 rfl rfl rfl ?_;simp only [Go.Proofs.Tryz.f84];refine hgR ?_
    repeat' ((first | refine hfk ?_ ?_<;>intros | refine hik ?_ | with_reducible first | refine hcA ?_ | refine hcB ?_)<;>refine hgS ?_)
    all_goals first
    | exact thEq rfl
    | exact RLe.ofEq rfl
    | (exfalso;omega)
    | exact thEq (by simp [*,truA,timA])
    | exact RLe.ofEq (by simp [*,truA,timA])
  . by_cases o15:o=15
    . have h2':=h2 (.inr o15);subst o15;refine CallsD.run [] Go.Proofs.Tryz.func84 rfl rfl rfl ?_;simp only [Go.Proofs.Tryz.f84];refine hgR ?_
      repeat' ((first | refine hfk ?_ ?_<;>intros | refine hik ?_ | with_reducible first | refine hcA ?_ | refine hcB ?_)<;>refine hgS ?_)
      all_goals first
    | exact thEq rfl
    | exact RLe.ofEq rfl
    | (exfalso;omega)
    | exact thEq (by simp [*,truA,timA])
    | exact RLe.ofEq (by simp [*,truA,timA])
    . refine CallsD.run [] Go.Proofs.Tryz.func84 rfl rfl rfl ?_;simp only [Go.Proofs.Tryz.f84];refine hgR ?_
      repeat' ((first | refine hfk ?_ ?_<;>intros | refine hik ?_ | with_reducible first | refine hcA ?_ | refine hcB ?_)<;>refine hgS ?_)
      all_goals first
    | exact thEq rfl
    | exact RLe.ofEq rfl
    | (exfalso;omega)
    | exact thEq (by simp [*,truA,timA])
    | exact RLe.ofEq (by simp [*,truA,timA])
theorem zlw {n:Nat} (o:Int) (a b:Th) (ha:a.G n B) (hb:b.G n B) (hn:n<=1048576) (hB:B<=67108864):CallsD Γ prog 86 [.one (cI o),.agg (thC a),.agg (thC b)] (thA (sumA o a b)):=by
 generalize hR:sumA o a b=R
 rcases ha.cs with ⟨i,rfl⟩ | ⟨k,cs,rfl,h1,h2,h3⟩
 . refine CallsD.run [] Go.Proofs.Tryz.func86 rfl rfl rfl ?_;simp only [Go.Proofs.Tryz.f86];refine hgR ?_;exact thEq hR.symm
 rcases hb.cs with ⟨i,rfl⟩ | ⟨m,ds,rfl,k1,k2,k3⟩
 . refine CallsD.run [] Go.Proofs.Tryz.func86 rfl rfl rfl ?_;simp only [Go.Proofs.Tryz.f86];refine hgR ?_;exact thEq hR.symm
 have la:(Af.of k cs).l.length<=1048576:=by show (cs.map Fc.of).length<=_;rw [List.length_map];omega
 have lb:(Af.of k cs).l.length<=(Af.of m ds).l.length:=by show (cs.map Fc.of).length<=(ds.map Fc.of).length;rw [List.length_map,List.length_map];omega
 have za:(Af.of k cs).le 67108864:=⟨Nat.le_trans h2 hB,zf5 (fun q hq=>Nat.le_trans (h3 q hq) hB)⟩;have zb:(Af.of m ds).le 67108864:=⟨Nat.le_trans k2 hB,zf5 (fun q hq=>Nat.le_trans (k3 q hq) hB)⟩;have e1:=CallsD.fn2 (Γ:=Γ) (g:=21) (ylz 67108864 Fc.add (fun x y=>Fc.er (x.ok/\y.ok)) (Af.of k cs) (Af.of m ds) lb la za zb) (wza (Γ:=Γ) Fc.zero Fc.zero (by decide) (by decide)).1
  (fun args res ⟨x,y,hx,hy,h1,h2⟩=>by subst h1 h2;exact wza x y hx hy)
 have e2:=CallsD.fn2 (Γ:=Γ) (g:=151) (ylz 67108864 Fc.sub (fun x y=>Fc.er (x.ok/\y.ok)) (Af.of k cs) (Af.of m ds) lb la za zb) (yjd (Γ:=Γ) Fc.zero Fc.zero (by decide) (by decide)).1
  (fun args res ⟨x,y,hx,hy,h1,h2⟩=>by subst h1 h2;exact yjd x y hx hy)
 rw [w8v Fc.xac,y6w,y6w,y6w] at e1;rw [w8v Fc.zig,y6w,y6w,y6w] at e2;refine CallsD.run [] Go.Proofs.Tryz.func86 rfl rfl rfl ?_;simp only [Go.Proofs.Tryz.f86];refine hgR ?_
 repeat' ((first | refine hfk ?_ ?_<;>intros | refine hik ?_ | with_reducible first | refine hcA ?_ | refine hcB ?_)<;>refine hgS ?_)
 all_goals (subst hR;first
  | exact RLe.ofEq rfl
  | exact RLe.ofEq (by simp [sumA,addA,subA, *];exact ⟨rfl,rfl,rfl,rfl⟩))
theorem xoj (k q:Rat) (cs:List Rat) (hl:cs.length<=1048576) (h1:qs k<=67108864) (h2:∀ c∈cs,qs c<=67108864) (h3:qs q<=67108864) :
 CallsD Γ prog 13 [.agg (afC (k,cs)),.agg (qC (some q))] (.tup [.agg (afC (k*q,cs.map (· * q))),.one (cI 0)]):=by
 have h:=zy8 (Γ:=Γ) (Af.of k cs) (Fc.of q) (by show (cs.map Fc.of).length<=_;rw [List.length_map];omega) ⟨h1,zf5 h2⟩ h3;rw [xi1,y6w,y6w,Fc.wop ⟨(Af.xd3 _ _ _).2 (by show _=(cs.map Fc.of).length;rw [List.length_map]),Fc.xd3 q⟩] at h;exact h
theorem zda {n:Nat} (o:Int) (ho:o=8\/o=9) (a b:Th) (ha:a.G n B) (hb:b.G n B) (hn:n<=1048576) (hB:B<=33554432):CallsD Γ prog 85 [.one (cI o),.agg (thC a),.agg (thC b)] (thA (scaA o a b)):=by
 have ca:=ha.con (Γ:=Γ) hn (by omega);have cb:=hb.con (Γ:=Γ) hn (by omega);generalize hR:scaA o a b=R
 rcases ha.cs with ⟨i,rfl⟩ | ⟨k,cs,rfl,h1,h2,h3⟩
 . refine CallsD.run [] Go.Proofs.Tryz.func85 rfl rfl rfl ?_;simp only [Go.Proofs.Tryz.f85];refine hgR ?_;exact thEq hR.symm
 rcases hb.cs with ⟨i,rfl⟩ | ⟨m,ds,rfl,k1,k2,k3⟩
 . refine CallsD.run [] Go.Proofs.Tryz.func85 rfl rfl rfl ?_;simp only [Go.Proofs.Tryz.f85];refine hgR ?_;exact thEq hR.symm
 have l1:cs.length<=1048576:=by omega
 have l2:ds.length<=1048576:=by omega
 have t1:=xoj (Γ:=Γ) k m cs l1 (by omega) (fun q hq=>by have:=h3 q hq;omega) (by omega);have t2:=xoj (Γ:=Γ) m k ds l2 (by omega) (fun q hq=>by have:=k3 q hq;omega) (by omega)
 have hR2:R=bif (!Th.con ⟨false,false,some m,ds⟩&&(decide (o=9)||!Th.con ⟨false,false,some k,cs⟩)) then (⟨false,false,none,[]⟩,13) else
  bif decide (o=8)&&!Th.con ⟨false,false,some m,ds⟩ then (⟨false,false,some (m*k),ds.map (· * k)⟩,0) else
  bif decide (o=9) then (bif decide (¬divE (some ((1:Int):Rat)) (some m)=0) then (⟨false,false,none,[]⟩,15) else (timA ⟨false,false,some k,cs⟩ (divO (some ((1:Int):Rat)) (some m)),0)) else (⟨false,false,some (k*m),cs.map (· * m)⟩,0):=hR.symm
 generalize Th.con ⟨false,false,some k,cs⟩=xa at ca hR2;generalize Th.con ⟨false,false,some m,ds⟩=xb at cb hR2;clear hR ha hb
 rcases ho with rfl | rfl
 . refine CallsD.run [] Go.Proofs.Tryz.func85 rfl rfl rfl ?_;simp only [Go.Proofs.Tryz.f85];refine hgR ?_
   repeat' ((first | refine hfk ?_ ?_<;>intros | refine hik ?_ | with_reducible first | refine hcA ?_ | refine hcB ?_)<;>refine hgS ?_)
   all_goals first
    | exact thEq rfl
    | exact RLe.ofEq rfl
    | (exfalso;omega)
    | exact thEq (by simp [*,truA,timA])
    | exact RLe.ofEq (by simp [*,truA,timA])
 . have hz:=x10 (n:=1) (by decide);have hd:=oDiv (Γ:=Γ) (some ((1:Int):Rat)) (some m) (by omega) (by show qs m<=_;omega);by_cases hm:m=0
   . subst hm
     have e1:divE (some ((1:Int):Rat)) (some 0)=15:=by show (bif decide ((0:Rat)=0) then (15:Int) else 0)=15;rw [decide_eq_true rfl];rfl
     rw [e1] at hd hR2;refine CallsD.run [] Go.Proofs.Tryz.func85 rfl rfl rfl ?_;simp only [Go.Proofs.Tryz.f85];refine hgR ?_
     repeat' ((first | refine hfk ?_ ?_<;>intros | refine hik ?_ | with_reducible first | refine hcA ?_ | refine hcB ?_ | refine wml (oInt 1 (by decide)) ?_ | refine ysj (oInt 1 (by decide)) ?_)<;>refine hgS ?_)
     all_goals first
     | exact thEq rfl
     | exact RLe.ofEq rfl
     | (exfalso;omega)
     | exact thEq (by simp [*,truA,timA])
     | exact RLe.ofEq (by simp [*,truA,timA])
   . have e1:divE (some ((1:Int):Rat)) (some m)=0:=by show (bif decide (m=0) then (15:Int) else 0)=0;rw [decide_eq_false hm];rfl
     have e2:divO (some ((1:Int):Rat)) (some m)=some (((1:Int):Rat) / m):=by show (bif decide (m=0) then none else some (((1:Int):Rat) / m))=_;rw [decide_eq_false hm];rfl
     have hs:=x6h ((1:Int):Rat) m;have h1':qs ((1:Int):Rat)<=4:=hz;have t3:=xoj (Γ:=Γ) k (((1:Int):Rat) / m) cs l1 (by omega) (fun q hq=>by have:=h3 q hq;omega) (by omega);rw [e1,e2] at hd hR2;refine CallsD.run [] Go.Proofs.Tryz.func85 rfl rfl rfl ?_;simp only [Go.Proofs.Tryz.f85];refine hgR ?_
     repeat' ((first | refine hfk ?_ ?_<;>intros | refine hik ?_ | with_reducible first | refine hcA ?_ | refine hcB ?_ | refine wml (oInt 1 (by decide)) ?_ | refine ysj (oInt 1 (by decide)) ?_)<;>refine hgS ?_)
     all_goals first
     | exact thEq rfl
     | exact RLe.ofEq rfl
     | (exfalso;omega)
     | exact thEq (by simp [*,truA,timA])
     | exact RLe.ofEq (by simp [*,truA,timA])
end Go.Hp.T
namespace Go.Hp.T
open Go Go.RowKit Go.Slot Go.Hp Go.Slot.T
open Go.Proofs.Tryz (prog)
set_option maxRecDepth 10000
set_option maxHeartbeats 0
variable {Γ:List (Nat×List Cell)}
variable {α:Type} {r:Nat->Nat}
theorem yp7 {C:α->SV} (h:∀ r a,v3y r (C a)=C a) (r:Nat->Nat) (l:List (ByteArray×α)):rnSB r (.map (envM C l))=.map (envM C l):=by
 have:(envM C l).map (fun p=>(p.1,v3y r p.2))=envM C l:=by
  induction l with
  | nil=>rfl
  | cons p l ih=>
   show (Value.string p.1,v3y r (C p.2))::(envM C l).map _=_;rw [ih,h];rfl
 show SB.map _=_;rw [this]
theorem xgc {C:α->SV} (h:∀ i j a,xy0 i j (C a)=C a) (i j:Nat) (l:List (ByteArray×α)):swSB i j (.map (envM C l))=.map (envM C l):=by
 have:(envM C l).map (fun p=>(p.1,xy0 i j p.2))=envM C l:=by
  induction l with
  | nil=>rfl
  | cons p l ih=>
   show (Value.string p.1,xy0 i j (C p.2))::(envM C l).map _=_;rw [ih,h];rfl
 show SB.map _=_;rw [this]
theorem xuj {C:α->SV} (h:∀ a,wj3 (C a)=[]) (l:List (ByteArray×α)):vb5 (.map (envM C l))=[]:=by
 show (envM C l).flatMap (fun p=>wj3 p.2)=[]
 induction l with
 | nil=>rfl
 | cons p l ih=>show wj3 (C p.2)++(envM C l).flatMap _=[];rw [ih,h];rfl
theorem yi4 {l:Vq}:rnSB r (.map (envQ l))=.map (envQ l):=yp7 (fun _ _=>rfl) r l
theorem zgw {l:Vt}:rnSB r (.map (envB l))=.map (envB l):=yp7 (fun _ _=>rfl) r l
theorem vp2 (i j:Nat) (l:Vq):swSB i j (.map (envQ l))=.map (envQ l):=xgc (fun _ _ _=>rfl) i j l
theorem vcy (i j:Nat) (l:Vt):swSB i j (.map (envB l))=.map (envB l):=xgc (fun _ _ _=>rfl) i j l
theorem yce (l:Vq):vb5 (.map (envQ l))=[]:=xuj (fun _=>rfl) l
theorem wor (l:Vt):vb5 (.map (envB l))=[]:=xuj (fun _=>rfl) l
attribute [go_sem] yce wor
attribute [go_sem 20000] yi4 zgw vp2 vcy
abbrev mQ (l:Vq):SB:=.map (envQ l)
abbrev mB (l:Vt):SB:=.map (envB l)
theorem zcx (V:Vq) (T:Vt):∀ r,[mQ V,mB T].map (rnSB r)=[mQ V,mB T]:=fun r=>by
 simp only [List.map_cons,List.map_nil,mQ,mB,yi4,zgw]
theorem wo0 (o:Int) (l:List Rs) (hl:l.length<=1073741824):CallsD Γ prog 108 [.one (cI o),.one (.sl 6 (l.map Rs.C))] (rsR (logV o l)):=by
 generalize hR:logV o l=R;refine CallsD.run [] Go.Proofs.Tryz.func108 rfl rfl rfl ?_;simp only [Go.Proofs.Tryz.f108];refine hgR ?_;refine x20 [0,1,4,10,11] (fun i:Nat=>[(6,.one (.dat (cB ((l.take i).all (·.i))))),(7,.one (.dat (cB ((l.take i).any (·.i))))),(12,.one (.dat (cI i)))]) (fun _=>[.box ((rsZ false false).map .dat) (some 61)])
  (fun i=>i<=l.length/\∀ j,j<i->(l.getD j default).t=true) (fun i=>l.length-i) 0 ⟨Nat.zero_le _,fun j hj=>by omega⟩ ?_ ?_
 . refine hg ?_;exact StH.same svl rfl
 rintro i ⟨hi,hj⟩;refine hg ?_;refine vt2 (fun hlt _=>?_) (fun hlt _=>?_)
 . have hlt':i<l.length:=by omega
   have hbad:(l.getD i default).t=false->R=(⟨false,false,none⟩,13):=fun h=>by
    rw [<-hR];unfold logV;rw [show l.any (fun r=>!r.t)=true from List.any_eq_true.2 ⟨_,y7p hlt',by rw [h];rfl⟩];rfl
   have hA:(l.take (i+1)).all (·.i)=((l.take i).all (·.i)&&(l.getD i default).i):=by rw [wcz hlt',List.all_append];simp
   have hS:(l.take (i+1)).any (·.i)=((l.take i).any (·.i)||(l.getD i default).i):=by rw [wcz hlt',List.any_append];simp
   have hnext:=fun h=>xm4 (p:=fun j=>(l.getD j default).t=true) hj h
   clear hj hR;generalize (l.take i).all (·.i)=A at *;generalize (l.take i).any (·.i)=S at *;refine hg ?_
   repeat' ((first | refine hfk ?_ ?_<;>intros | refine hik ?_)<;>refine hgS ?_)
   all_goals first
    | exact rsEq rfl
    | (rw [hbad (by assumption)];exact rsEq rfl)
    | (refine ⟨i+1,⟨by omega,hnext (by assumption)⟩,by omega,?_⟩
       rw [hA,hS];simp only [*,Bool.true_and,Bool.false_and,Bool.true_or,Bool.false_or]
       exact StH.back [0,1,4,6,7,10,11,12] 0 0 1 rfl rfl rfl rfl rfl (by kernel_rfl) (StH.same svl rfl))
 . have e:i=l.length:=by omega
   have hall:l.any (fun r=>!r.t)=false:=by
    rw [List.any_eq_false];intro r hr;obtain ⟨j,hj',rfl⟩:=List.getElem_of_mem hr
    have:=hj j (by omega)
    rw [show l.getD j default=l[j] from by simp [hj']] at this;simp [this]
   have e2:R=bif decide (o=14) then truV (l.all (·.i)) else bif decide (o=15) then truV (l.any (·.i)) else truV (!l.all (·.i)):=by rw [<-hR];unfold logV;rw [hall];rfl
   rw [e2,e,List.take_length];generalize l.all (·.i)=A;generalize l.any (·.i)=S;refine hg ?_
   repeat' ((first | refine hfk ?_ ?_<;>intros | refine hik ?_ | with_reducible first | refine wml (wl0 _) ?_ | refine ysj (wl0 _) ?_)<;>refine hgS ?_)
   all_goals refine lfE ?_;first | exact trivial | rfl
theorem StH.yaz {e:List SB} {I:List SV} {J:List SB} {t i:Bool} {n:Int} {r:Rs×Int} (he:J.take e.length=e) (h:(I.all fun x=>(wj3 x).all fun b=>Nat.blt b e.length)=true) (hσ:I=[SV.tup [.agg ((T.rsZ t i).map .dat),.one (.dat (cI n))]]) (hr:r=(⟨t,i,none⟩,n)):StH Γ e I J [rsS r] e:=by
 subst hr;exact StH.trans (StH.vzq he h hσ) (StH.rsZ StH.refl)
theorem vp4 (V:Vq) (T:Vt) (s:ByteArray) (k:Rs) (hT:∀ s t,z2f T s=some t->t.Sm/\tbOk t=true) (hk:qz k.v<=67108864):xpp Γ prog 107 [mQ V,mB T] [.agg [.mp 0,.mp 1],.one (.dat (cS s)),.agg ((rsC k).map .dat)] [mQ V,mB T] (rsS (vi3 T s k)):=by
 cases h:z2f T s with
 | none=>
  have e:vi3 T s k=(⟨false,false,none⟩,11):=by unfold vi3;rw [h];rfl
  rw [e];refine xpp.run [] Go.Proofs.Tryz.func107 rfl rfl ?_;simp only [Go.Proofs.Tryz.f107];refine hgR ?_;refine hg1 @h ?_
  repeat' ((first | refine hfk ?_ ?_<;>intros | refine hik ?_)<;>refine hgS ?_)
  exact StH.yaz rfl (by kernel_rfl) rfl rfl
 | some t=>
  obtain ⟨h1,h2⟩:=hT s t h;have hL:=vud (Γ:=Γ) t k.v hk h1.n h1.u h1.r
  have e:vi3 T s k=bif k.t then (Rs.zero,13) else numV (xwc t k.v).1 (xwc t k.v).2:=by unfold vi3;rw [h]
  rw [e];generalize xwc t k.v=r at hL;obtain ⟨rv,re⟩:=r;simp only at hL;refine xpp.run [] Go.Proofs.Tryz.func107 rfl rfl ?_;simp only [Go.Proofs.Tryz.f107];refine hgR ?_;refine hg1 @h ?_
  repeat' ((first | refine hfk ?_ ?_<;>intros | refine hik ?_ | with_reducible first | refine hcA ?_ | refine hcB ?_ | refine wml (x7x rv re) ?_ | refine ysj (x7x rv re) ?_)<;>refine hgS ?_)
  . exact StH.yaz rfl (by kernel_rfl) rfl rfl
  . exact StH.vzq rfl (by kernel_rfl) rfl
end Go.Hp.T
namespace Go.Hp
open Go Go.RowKit Go.Slot
variable {P:Program} {Γ:List (Nat×List Cell)}
variable {f:FuncId} {ηs:List SB} {res:SV}
theorem xpp.roN (φ:List Nat) {J:List SB} {args:List SV} (h:xpp Γ P f ηs args ηs res) (hn:φ.Nodup) (hb:(φ.all fun j=>Nat.blt j J.length)=true) (hp:φ.map (fun j=>J[j]?)=ηs.map (fun x=>some (rnSB (atR φ J.length) x))) :
 xpp Γ P f J (args.map (v3y (atR φ J.length))) J (rnSV (atR φ J.length) res):=by
 have hb':∀ j∈φ,j<J.length:=fun j hj=>by simpa using List.all_eq_true.1 hb j hj
 have hk:=xgt.of hp;have hc:=xpp.frame hn hb' hk (by rw [hk.1];exact Nat.le_refl _) h
 have hput:putR φ J ηs=J:=by
  apply List.ext_getElem?;intro i;by_cases hi2:i<J.length
  . by_cases hi:i∈φ
    . obtain ⟨k,hk2,rfl⟩:=List.getElem_of_mem hi
      have hkl:k<ηs.length:=by rw [hk.1];exact hk2
      have h1:=xje (ηs':=ηs) hn hb' (List.getElem?_eq_getElem hkl);rw [zj8 (List.getElem?_eq_getElem hk2)] at h1;rw [h1];have h2:=congrArg (fun l=>l[k]?) hp;simp only [List.getElem?_map,List.getElem?_eq_getElem hk2,List.getElem?_eq_getElem hkl,Option.map_some] at h2;exact (Option.some.inj h2).symm
    . exact zn3 hi2 hi
  . rw [List.getElem?_eq_none (by rw [wb2,hk.1];omega),List.getElem?_eq_none (by omega)]
 rw [hput] at hc;exact hc
theorem xpp.preN {ξ:List SB} {args:List SV} (h:xpp Γ P f ηs args ηs res) (hs:∀ r:Nat->Nat,(∀ i,i<ηs.length->r i=i)->ηs.map (rnSB r)=ηs) (ha:args.map (v3y (atR (List.range ηs.length) (ηs++ξ).length))=args) (hr:rnSV (atR (List.range ηs.length) (ηs++ξ).length) res=res):xpp Γ P f (ηs++ξ) args (ηs++ξ) res:=by
 have hc:=xpp.roN (List.range ηs.length) (J:=ηs++ξ) h List.nodup_range (List.all_eq_true.2 fun j hj=>by
  rw [List.mem_range] at hj
  simp only [List.length_append,Nat.blt_eq];omega) (by
  apply List.ext_getElem?;intro i;by_cases hi:i<ηs.length
  . have h1:=congrArg (fun l=>l[i]?) (hs _ (fun i hi=>yjm (N:=(ηs++ξ).length) hi));simp only [List.getElem?_map,List.getElem?_eq_getElem hi,Option.map_some,Option.some.injEq] at h1;simp only [List.getElem?_map,List.getElem?_range hi,List.getElem?_eq_getElem hi,Option.map_some,List.getElem?_append_left hi,h1]
  . simp [List.getElem?_eq_none (show ηs.length<=i by omega)];omega)
 rw [ha,hr] at hc;exact hc
end Go.Hp
namespace Go.Hp.T
open Go Go.RowKit Go.Slot Go.Hp Go.Slot.T
open Go.Proofs.Tryz (prog)
set_option maxRecDepth 10000
set_option maxHeartbeats 0
variable {Γ:List (Nat×List Cell)}
variable {T:Va} {B:Nat}
def envA (l:Va):List (Value×SV):=envM (fun f=>.agg ((afC f).map .dat)) l
theorem zy7 {s:ByteArray}:yvo (envA T) (.string s)=some ((z2f T s).map fun f=>.agg ((afC f).map .dat)):=x0f
theorem zu9 {s:ByteArray} {k:Rat} {cs:List Rat}:updM (envA T) (.string s) (.agg [.dat (.raw (.int .i64 (qF (some k)).s)),.dat (.ints .i64 (qF (some k)).L),.dat (.raw (.int .i64 (qF (some k)).t)),.dat (.ints .i64 (qF (some k)).M),.dat (.sl 4 (cs.map rowQ))])=some (envA (updF T s (k,cs))):=y5p (C:=fun f:Fm=>.agg ((afC f).map .dat)) (l:=T) (s:=s) (v:=(k,cs))
theorem vir {r:Nat->Nat} {l:Va}:rnSB r (.map (envA l))=.map (envA l):=yp7 (fun _ _=>rfl) r l
theorem vho (i j:Nat) (l:Va):swSB i j (.map (envA l))=.map (envA l):=xgc (fun _ _ _=>rfl) i j l
theorem wbm (l:Va):vb5 (.map (envA l))=[]:=xuj (fun _=>rfl) l
attribute [go_sem] wbm zy7 zu9
attribute [go_sem 20000] vir vho
abbrev mA (l:Va):SB:=.map (envA l)
abbrev rdB (n:Nat):SB:=.box [.dat (cI n),.mp 1,.mp 2] (some 127)
abbrev rdE (n:Nat) (V:Va) (T:Vt):List SB:=[rdB n,mA V,mB T]
theorem zt9 (n:Nat) (V:Va) (T:Vt):∀ r:Nat->Nat,(∀ i,i<(rdE n V T).length->r i=i)->(rdE n V T).map (rnSB r)=rdE n V T:=fun r hr=>by
 show [SB.box [.dat (cI n),.mp (r 1),.mp (r 2)] (some 127),rnSB r (mA V),rnSB r (mB T)]=_;rw [hr 1 (by show 1<3;decide),hr 2 (by show 2<3;decide),vir,zgw]
theorem w1z:CallsD Γ prog 12 [.one (cI 0)] (.agg (qC (some 0))):=oInt 0 (by decide)
theorem row0:rowQ 0=[cI 0,.ints .i64 [],cI 1,.ints .i64 [1]]:=by
 show [Cell.raw (.int .i64 (Fc.of 0).s),.ints .i64 (dig (0:Int).natAbs),.raw (.int .i64 (Fc.of 0).t),.ints .i64 (dig 1)]=_;rw [show (0:Int).natAbs=0 from rfl,y89,xxw (by decide),y89];rfl
theorem vl7 (n:Nat) (hn:n<=6):CallsD Γ prog 200 [.one (.sl 4 [rowQ 0]),.one (cI n)] (.one (.sl 4 (List.replicate n (rowQ 0)))):=by
 rw [row0]
 obtain rfl | rfl | rfl | rfl | rfl | rfl | rfl:n=0\/n=1\/n=2\/n=3\/n=4\/n=5\/n=6:=by omega
 all_goals exact CallsD.fv (N:=1000) (n:=60) OkD.none (by kernel_rfl)
theorem yfa (n:Nat) (V:Va) (T:Vt) (v:Option Rat) (hn:n<=6):xpp Γ prog 145 (rdE n V T) [.one (.ptr 0 0),.agg ((qC v).map .dat)] (rdE n V T) (.agg ((thC (numA n v)).map .dat)):=by
 have hr:CallsD Γ prog 200 [.one (.sl 4 [qC (some 0)]),.one (cI n)] (.one (.sl 4 ((List.replicate n (0:Rat)).map rowQ))):=by rw [List.map_replicate];exact vl7 n hn
 refine xpp.run [] Go.Proofs.Tryz.func145 rfl rfl ?_;simp only [Go.Proofs.Tryz.f145];refine hgR ?_
 repeat' ((first | refine hfk ?_ ?_<;>intros | refine hik ?_ | with_reducible first | refine hcA ?_ | refine hcB ?_ | refine wml (w1z) ?_ | refine ysj (w1z) ?_)<;>refine hgS ?_)
 exact StH.vzq rfl (by kernel_rfl) rfl
theorem yyg {n:Nat} (V:Va) (T:Vt) (s:ByteArray) (k:Th) (hk:k.G n B) (hn:n<=6) (hB:B<=67108864) (hT:∀ s t,z2f T s=some t->t.Sm/\tbOk t=true) :
 xpp Γ prog 83 (rdE n V T) [.one (.ptr 0 0),.one (.dat (cS s)),.agg ((thC k).map .dat)] (rdE n V T) (thS (xu8 n T s k)):=by
 have hc:=hk.con (Γ:=Γ) (by omega) hB
 cases h:z2f T s with
 | none=>
  have e:xu8 n T s k=(⟨false,false,none,[]⟩,11):=by unfold xu8;rw [h];rfl
  rw [e];refine xpp.run [] Go.Proofs.Tryz.func83 rfl rfl ?_;simp only [Go.Proofs.Tryz.f83];refine hgR ?_;refine hg1 @h ?_
  repeat' ((first | refine hfk ?_ ?_<;>intros | refine hik ?_)<;>refine hgS ?_)
  exact StH.z9p rfl (by kernel_rfl) rfl rfl
 | some t=>
  obtain ⟨h1,h2⟩:=hT s t h
  have hq:qz k.c<=67108864:=by
   rcases hk.cs with ⟨i,rfl⟩ | ⟨m,cs,rfl,_,h2,_⟩
   . exact Nat.zero_le _
   . exact Nat.le_trans h2 hB
  have hL:=vud (Γ:=Γ) t k.c hq h1.n h1.u h1.r
  have e:xu8 n T s k=bif !k.con then (⟨false,false,none,[]⟩,13) else bif decide (¬(xwc t k.c).2=0) then (⟨false,false,none,[]⟩,(xwc t k.c).2) else (numA n (xwc t k.c).1,0):=by unfold xu8;rw [h];rfl
  rw [e];generalize xwc t k.c=r at hL;obtain ⟨rv,re⟩:=r;simp only at hL;generalize k.con=kc at hc;have hnum:=yfa (Γ:=Γ) n V T rv hn;refine xpp.run [] Go.Proofs.Tryz.func83 rfl rfl ?_;simp only [Go.Proofs.Tryz.f83];refine hgR ?_;refine hg1 @h ?_
  repeat' ((first | refine hfk ?_ ?_<;>intros | refine hik ?_ | with_reducible first | refine hcA ?_ | refine hcB ?_)<;>refine hgS ?_)
  all_goals first
   | exact StH.z9p rfl (by kernel_rfl) rfl (by simp [*])
   | skip
  refine x6x (xpp.preN hnum (zt9 n V T) rfl rfl) ?_;refine hg ?_;exact StH.vzq rfl (by kernel_rfl) (by simp [*])
theorem x7p {n:Nat} (V:Va) (T:Vt) (o:Int) (a b:Th) (ha:a.G n B) (hb:b.G n B) (hn:n<=1048576) (hB:B<=67108864) :
 xpp Γ prog 87 (rdE n V T) [.one (.ptr 0 0),.one (.dat (cI o)),.agg ((thC a).map .dat),.agg ((thC b).map .dat)] (rdE n V T) (thS (cmpA o a b)):=by
 have ca:=ha.con (Γ:=Γ) hn hB;have cb:=hb.con (Γ:=Γ) hn hB;generalize hR:cmpA o a b=R
 rcases ha.cs with ⟨i,rfl⟩ | ⟨k,cs,rfl,h1,h2,h3⟩
 . rw [show Th.con ⟨true,i,none,[]⟩=false from rfl] at ca;simp only [thC,List.map_nil] at ca;refine xpp.run [] Go.Proofs.Tryz.func87 rfl rfl ?_;simp only [Go.Proofs.Tryz.f87];refine hgR ?_
   repeat' ((first | refine hfk ?_ ?_<;>intros | refine hik ?_ | with_reducible first | refine hcA ?_ | refine hcB ?_)<;>refine hgS ?_)
   exact StH.z9p rfl (by kernel_rfl) rfl hR.symm
 rcases hb.cs with ⟨i,rfl⟩ | ⟨m,ds,rfl,k1,k2,k3⟩
 . rw [show Th.con ⟨true,i,none,[]⟩=false from rfl] at cb;simp only [thC,List.map_nil] at cb
   have e:R=(⟨false,false,none,[]⟩,13):=by rw [<-hR];unfold cmpA;rw [show Th.con ⟨true,i,none,[]⟩=false from rfl,Bool.not_false,Bool.or_true];rfl
   generalize Th.con ⟨false,false,some k,cs⟩=xa at ca;refine xpp.run [] Go.Proofs.Tryz.func87 rfl rfl ?_;simp only [Go.Proofs.Tryz.f87];refine hgR ?_
   repeat' ((first | refine hfk ?_ ?_<;>intros | refine hik ?_ | with_reducible first | refine hcA ?_ | refine hcB ?_)<;>refine hgS ?_)
   all_goals exact StH.z9p rfl (by kernel_rfl) rfl rfl
 have hc:=oCmp (Γ:=Γ) (some k) (some m) (Nat.le_trans h2 hB) (Nat.le_trans k2 hB)
 have e:R=bif !Th.con ⟨false,false,some k,cs⟩||!Th.con ⟨false,false,some m,ds⟩ then (⟨false,false,none,[]⟩,13) else
  bif decide (o=12) then (⟨true,decide (cmpO (some k) (some m)<0),none,[]⟩,0) else bif decide (o=13) then (⟨true,decide (cmpO (some k) (some m)=0),none,[]⟩,0) else
  bif decide (o=10)==decide (cmpO (some k) (some m)<=0) then (⟨false,false,some k,cs⟩,0) else (⟨false,false,some m,ds⟩,0):=hR.symm
 generalize cmpO (some k) (some m)=c at hc e;generalize Th.con ⟨false,false,some k,cs⟩=xa at ca e;generalize Th.con ⟨false,false,some m,ds⟩=xb at cb e;clear hR ha hb;refine xpp.run [] Go.Proofs.Tryz.func87 rfl rfl ?_;simp only [Go.Proofs.Tryz.f87];refine hgR ?_
 repeat' ((first | refine hfk ?_ ?_<;>intros | refine hik ?_ | with_reducible first | refine hcA ?_ | refine hcB ?_)<;>refine hgS ?_)
 all_goals first
  | exact StH.z9p rfl (by kernel_rfl) rfl rfl
  | exact StH.vzq rfl (by kernel_rfl) rfl
  | (exfalso;omega)
  | exact StH.z9p rfl (by kernel_rfl) rfl (by simp [*])
  | exact StH.vzq rfl (by kernel_rfl) (by simp [*])
end Go.Hp.T
namespace Go.Hp.T
open Go Go.RowKit Go.Slot Go.Hp Go.Slot.T
open Go.Proofs.Tryz (prog)
set_option maxRecDepth 10000
set_option maxHeartbeats 0
variable {Γ:List (Nat×List Cell)}
theorem vrt {p q:Int} (hp:1<=p) (hq:1<=q):0<Rat.divInt p q:=by
 rw [Rat.divInt_eq_div,Rat.div_def];exact Rat.mul_pos (Rat.intCast_pos.2 (by omega)) (Rat.inv_pos.2 (Rat.intCast_pos.2 (by omega)))
theorem yhe {s:ByteArray} {u:Un} (h:symF s=some u):0<u.f:=by
 unfold symF at h
 repeat' first
  | (cases h;exact vrt (by omega) (by omega))
  | (cases hc:seq s _<;>rw [hc] at h<;>simp only [cond_true,cond_false] at h)
 cases h
theorem zua {s:ByteArray} {u:Un} (h:xle s=some u):0<u.f:=by
 unfold xle at h
 cases h1:(symF s).isSome with
 | true=>rw [h1,cond_true] at h;exact yhe h
 | false=>
  rw [h1,cond_false] at h
  cases h2:(!(preF (yuk s 0)).isSome||!(symF (vp6 s 1)).isSome||!v2f (vp6 s 1)) with
  | true=>rw [h2,cond_true] at h;cases h
  | false=>
   rw [h2,cond_false] at h;split at h
   . rename_i p v hp hv
     cases h;obtain ⟨d,e⟩:=y3p hp;exact Rat.mul_pos (yhe hv) (vrt d.1 e.1)
   . cases h
theorem v63 {g:Rat->Rat} (h:∀ x,0<x->0<g x):∀(n:Nat) (a:Rat),0<a->0<iter g n a
 | 0,_,ha=>ha
 | n+1,a,ha=>v63 h n (g a) (h a ha)
theorem wom:∀(l:List It) (u v:Un),xx0 l u=some v->0<u.f->0<v.f
 | [],u,v,h,hu=>by cases h;exact hu
 | x::l,u,v,h,hu=>by
  unfold xx0 at h;split at h
  . cases h
  . rename_i w hw;have hp:=zua hw;refine wom l _ v h ?_;show 0<vhc u.f w.f x.e;unfold vhc
    cases decide (0<x.e) with
    | true=>exact v63 (fun y hy=>Rat.mul_pos hy hp) _ _ hu
    | false=>exact v63 (fun y hy=>by rw [Rat.div_def];exact Rat.mul_pos hy (Rat.inv_pos.2 hp)) _ _ hu
theorem yv0 {s : ByteArray} {u : Un} (h : xx7 s = (some u, 0)) : ytl u.d = true ∧ 0 < u.f := by
 unfold xx7 at h;split at h
 . cases h
 . split at h
   . cases h
   . rename_i l hl w hw
     cases hd:ytl w.d with
     | false=>rw [hd,cond_false] at h;cases h
     | true=>
      rw [hd,cond_true] at h
      cases h;exact ⟨hd,wom _ _ _ hw (show (0:Rat)<((1:Int):Rat) by decide)⟩
theorem zdl (n:Rat) (u:Un) (hd:ytl u.d=true) (hf:0<u.f) (h1:qs n<=67108864) (h2:qs u.f<=67108864):CallsD Γ prog 144 [.agg (qC (some n)),.agg (unQ u)] (qR (some (n*u.f)) 0):=by
 have c1:=wuc (Γ:=Γ) u.d;rw [hd] at c1;have c2:CallsD Γ prog 19 [.agg (qC (some u.f))] (.one (cB true)):=w7o (some u.f) (by show qs u.f<=_;omega);have c3:=xhi (Γ:=Γ) (qF (some u.f)) h2
 have e:Fc.sign (qF (some u.f))=1:=by
  have h:=Fc.w9t u.f
  have h':sg u.f.num=1:=by
   have h:=(Rat.lt_iff _ _).1 hf;simp only [Rat.zero_num,Rat.zero_den] at h
   have:=vvv u.f.num
   omega
  exact h.trans h'
 rw [e] at c3;have c3:CallsD Γ prog 202 [.agg (qC (some u.f))] (.one (cI 1)):=c3
 have cR:CallsD Γ prog 199 [.agg (unQ u)] (.one (cB true)):=by
  refine CallsD.run [] Go.Proofs.Tryz.func199 rfl rfl rfl ?_;simp only [Go.Proofs.Tryz.f199];refine hgR ?_
  repeat' ((first | refine hfk ?_ ?_<;>intros | refine hik ?_ | with_reducible first | refine hcA ?_ | refine hcB ?_)<;>refine hgS ?_)
  all_goals first
   | exact RLe.ofEq rfl
   | (exfalso;omega)
 have c4:CallsD Γ prog 19 [.agg (qC (some n))] (.one (cB true)):=w7o (some n) (by show qs n<=_;omega);have c5:=oMul (Γ:=Γ) (some n) (some u.f) h1 h2;have c5:CallsD Γ prog 23 [.agg (qC (some n)),.agg (qC (some u.f))] (qR (some (n*u.f)) 0):=c5;clear c1 c2 c3;refine CallsD.run [] Go.Proofs.Tryz.func144 rfl rfl rfl ?_;simp only [Go.Proofs.Tryz.f144];refine hgR ?_
 repeat' ((first | refine hfk ?_ ?_<;>intros | refine hik ?_ | with_reducible first | refine hcA ?_ | refine hcB ?_)<;>refine hgS ?_)
 all_goals first
  | exact RLe.ofEq rfl
  | (exfalso;omega)
end Go.Hp.T
namespace Go.Hp.T
open Go Go.RowKit Go.Slot Go.Hp Go.Slot.T
set_option maxRecDepth 10000
set_option maxHeartbeats 0
variable {B:Nat} {o:Int} {T:Vt}
def thR (x:Th):Rs:=⟨x.t,x.i,x.c⟩
def thP (p:Th×Int):Rs×Int:=(thR p.1,p.2)
theorem v59 {x:Th} (h:x.G 0 B):(∃ i,x=⟨true,i,none,[]⟩)\/∃ q,x=⟨false,false,some q,[]⟩:=by
 obtain ⟨t,i,c,l⟩:=x
 rcases h with ⟨h1,h2,h3⟩ | ⟨h1,h2,h3,⟨q,h4,_⟩,_⟩
 . simp only at h1 h2 h3;subst h1;subst h2;subst h3;exact .inl ⟨i,rfl⟩
 . simp only at h1 h2 h3 h4;subst h1;subst h2;subst h4;rw [List.eq_nil_of_length_eq_zero h3];exact .inr ⟨q,rfl⟩
theorem ynx (q p:Rat):decide (cmpO (some q) (some p)<=0)=decide (q<=p):=decide_eq_decide.2 (zkr q p)
theorem vyv {C:Nat} {a b:Th} (ha:a.G 0 B) (hb:b.G 0 C) (ho:6<=o/\o<=13):ariV o (thR a) (thR b)=thP (bif decide (o=8)||decide (o=9) then scaA o a b else bif decide (o=6)||decide (o=7) then sumA o a b else cmpA o a b):=by
 have h:o=6\/o=7\/o=8\/o=9\/o=10\/o=11\/o=12\/o=13:=by omega
 rcases v59 ha with ⟨i,rfl⟩ | ⟨q,rfl⟩
 . rcases v59 hb with ⟨j,rfl⟩ | ⟨p,rfl⟩<;>rcases h with rfl | rfl | rfl | rfl | rfl | rfl | rfl | rfl<;>rfl
 . rcases v59 hb with ⟨j,rfl⟩ | ⟨p,rfl⟩
   . rcases h with rfl | rfl | rfl | rfl | rfl | rfl | rfl | rfl<;>rfl
   . rcases h with rfl | rfl | rfl | rfl | rfl | rfl | rfl | rfl
     . rfl
     . rfl
     . rfl
     . show numV (divO (some q) (some p)) (divE (some q) (some p))=thP (bif decide (¬divE (some ((1:Int):Rat)) (some p)=0) then (Th.zero,15) else (timA ⟨false,false,some q,[]⟩ (divO (some ((1:Int):Rat)) (some p)),0));by_cases hp:p=0
       . subst hp;rfl
       . simp only [divO,divE,hp,decide_false,cond_false];show (Rs.mk false false (some (q / p)),(0:Int))=(Rs.mk false false (some (q*(((1:Int):Rat) / p))),0)
         have e:q / p=q*(((1:Int):Rat) / p):=by
          rw [Rat.div_def,Rat.div_def,show ((1:Int):Rat)=1 from rfl,Rat.one_mul]
         rw [e]
     . show numV (some (min q p)) 0=thP (bif decide ((10:Int)=10)==decide (cmpO (some q) (some p)<=0) then (⟨false,false,some q,[]⟩,0) else (⟨false,false,some p,[]⟩,0));rw [ynx,Rat.min_def];by_cases h:q<=p
       . rw [decide_eq_true h,if_pos h];rfl
       . rw [decide_eq_false h,if_neg h];rfl
     . show numV (some (max q p)) 0=thP (bif decide ((11:Int)=10)==decide (cmpO (some q) (some p)<=0) then (⟨false,false,some q,[]⟩,0) else (⟨false,false,some p,[]⟩,0));rw [ynx,Rat.max_def];by_cases h:q<=p
       . rw [decide_eq_true h,if_pos h];rfl
       . rw [decide_eq_false h,if_neg h];rfl
     . rfl
     . rfl
theorem zm2 {l:List Th} (h:(o=4/\l.length=1)\/((o=14\/o=15)/\l.length=2)):logV o (l.map thR)=thP (logA o l):=by
 rcases h with ⟨rfl,h⟩ | ⟨h,hl⟩
 . match l,h with
   | [⟨t,i,c,m⟩],_=>cases t<;>cases i<;>rfl
 . match l,hl with
   | [⟨t,i,c,m⟩,⟨u,j,d,k⟩],_=>rcases h with rfl | rfl<;>cases t<;>cases u<;>cases i<;>cases j<;>rfl
theorem vx1 {s:ByteArray} {k:Th} (h:k.G 0 B):vi3 T s (thR k)=thP (xu8 0 T s k):=by
 unfold vi3 xu8
 cases z2f T s with
 | none=>rfl
 | some t=>
  rcases v59 h with ⟨i,rfl⟩ | ⟨q,rfl⟩
  . rfl
  . show numV (xwc t (some q)).1 (xwc t (some q)).2=thP (bif decide (¬(xwc t (some q)).2=0) then (Th.zero,(xwc t (some q)).2) else (numA 0 (xwc t (some q)).1,0));unfold numV
    cases decide (¬(xwc t (some q)).2=0)<;>rfl
theorem v97 (z:Int) (u:ByteArray):xoq z u=thP (wfn 0 z u):=by
 unfold xoq wfn;by_cases h:¬(xx7 u).2=0
 . rw [decide_eq_true h];rfl
 . rw [decide_eq_false h]
   rcases veq u with ⟨v,h1,_⟩ | ⟨e,he,h1⟩
   . have e1:facO u=some v.f:=by unfold facO;rw [h1];rfl
     rw [e1];rfl
   . rw [h1] at h;exact absurd he h
theorem zr4 {α:Type} {f:α->Th×Int} {f':α->Rs×Int}:∀{l:List α},(∀ y∈l,f' y=thP (f y))->seqV (l.map f')=(match seqA (l.map f) with
 | .inl e=>.inl e
 | .inr rs=>.inr (rs.map thR))
 | [],_=>rfl
 | y::l,h=>by
  rw [List.map_cons,List.map_cons,h y (by simp)];generalize f y=p;obtain ⟨r,e⟩:=p
  show seqV ((thR r,e)::l.map f')=match seqA ((r,e)::l.map f) with
   | .inl e=>.inl e
   | .inr rs=>.inr (rs.map thR)
  rw [seqV,seqA,zr4 (fun z hz=>h z (by simp [hz]))]
  cases decide (¬e=0) with
  | true=>rfl
  | false=>cases seqA (l.map f)<;>rfl
theorem y4y {V:Va} {W:Vq} (hB:4300<=B) (hV:Asm 0 B V) (hW:∀ s,z2f W s=(z2f V s).map (·.1)):∀ x:Ex,x.shaped=true->x.wqm=false->x.cal W T=thP (x.aff 0 V T):=by
 refine Ex.ind (fun x ih hsh hcl=>?_);have hG:=xni (T:=T) hB hV;rw [Ex.ypb,Bool.and_eq_true,List.all_eq_true] at hsh;rw [Ex.xrx,Bool.or_eq_false_iff,decide_eq_false_iff_not,List.any_eq_false] at hcl;obtain ⟨hnode,hargs⟩:=hsh
 have ih':∀ y∈x.args,y.cal W T=thP (y.aff 0 V T):=fun y hy=>ih y hy (hargs y hy) (by simpa using hcl.2 y hy)
 rw [Ex.xpb,Ex.yre];by_cases h0:x.op=0
 . rw [decide_eq_true h0,cond_true,cond_true];exact v97 _ _
 rw [decide_eq_false h0,cond_false,cond_false];by_cases h01:x.op=1
 . rw [decide_eq_true h01,cond_true,cond_true];unfold x5b y21;rw [hW x.name]
   cases z2f V x.name with
   | none=>rfl
   | some f=>
    show (Rs.mk false false (some (f.1+((0:Int):Rat))),(0:Int))=_;rw [show ((0:Int):Rat)=0 from rfl,Rat.add_zero];rfl
 rw [decide_eq_false h01,cond_false,cond_false]
 have hne:x.args.length≠0:=fun h=>by
  unfold xer at hnode;rw [decide_eq_false h0,decide_eq_false h01,h] at hnode;simp at hnode
 obtain ⟨hl2,hl3⟩:=zd3 hnode hcl.1 hne;by_cases h5:x.op=5
 . rw [decide_eq_true h5,cond_true,cond_true];have hl:=hl3 h5;unfold chA chV;rw [getD_map (show 0<x.args.length by omega),getD_map (show 1<x.args.length by omega),getD_map (show 2<x.args.length by omega),getD_map (show 0<x.args.length by omega),getD_map (show 1<x.args.length by omega),getD_map (show 2<x.args.length by omega)];rw [ih' _ (y7p (show 0<x.args.length by omega)),ih' _ (y7p (show 1<x.args.length by omega)),ih' _ (y7p (show 2<x.args.length by omega))];generalize (x.args.getD 0 default).aff 0 V T=p;obtain ⟨⟨t,i,c,l⟩,e⟩:=p;show (bif decide (¬e=0) then _ else bif !t then _ else bif i then _ else _)=thP (bif decide (¬e=0) then _ else bif !t then _ else bif i then _ else _)
   cases decide (¬e=0)<;>cases t<;>cases i<;>rfl
 rw [decide_eq_false h5,cond_false,cond_false,zr4 ih']
 cases hs:seqA (x.args.map (Ex.aff 0 V T)) with
 | inl e=>rfl
 | inr rs=>
  obtain ⟨hlen,hget⟩:=z8d hs;rw [List.length_map] at hlen hget;show opV T x.op x.name (rs.map thR)=thP (opA 0 T x.op x.name rs)
  have g:∀ i,i<x.args.length->(rs.getD i default).G 0 (B*(x.args.getD i default).nd-5):=fun i hi=>by
   have h1:=hget i hi;rw [getD_map hi] at h1;have hm:=y7p hi
   have:=hG _ (hargs _ hm) (by simpa using hcl.2 _ hm) (by rw [h1])
   rwa [h1] at this
  unfold opV opA;have r0:(rs.map thR).getD 0 default=thR (rs.getD 0 default):=getD_map (by omega);rw [r0];by_cases h2:x.op=2
  . rw [decide_eq_true h2,cond_true,cond_true];exact vx1 (g 0 (by omega))
  rw [decide_eq_false h2,cond_false,cond_false];have har:=wav hnode hne h2 hcl.1 h5
  cases hlg:decide (x.op=4)||decide (x.op=14)||decide (x.op=15) with
  | true=>
   rw [cond_true,cond_true];simp only [Bool.or_eq_true,decide_eq_true_eq] at hlg;exact zm2 (by omega)
  | false=>
   rw [cond_false,cond_false];simp only [Bool.or_eq_false_iff,decide_eq_false_iff_not] at hlg;have r1:(rs.map thR).getD 1 default=thR (rs.getD 1 default):=getD_map (by omega);rw [r1];exact vyv (g 0 (by omega)) (g 1 (by omega)) (by omega)
end Go.Hp.T
