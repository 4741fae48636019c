/- The proof, part W37: 7i, 7j, 7l, 7m, 7n, 7o, 7p, Ii. -/
import Derived.Test.YtbdoipfmafbhoaaGreatDoorW34
import Derived.Test.YtbdoipfmafbhoaaGreatDoorW35
import Derived.Test.YtbdoipfmafbhoaaGreatDoorW31
import Derived.Test.YtbdoipfmafbhoaaGreatDoorW30
import Derived.Test.YtbdoipfmafbhoaaGreatDoorW19
namespace Go.Hp.T
open Go Go.RowKit Go.Slot Go.Hp Go.Slot.T
open Go.Proofs.Tryz (prog)
attribute [local irreducible] hide RH
set_option maxRecDepth 10000
set_option maxHeartbeats 8000000
variable {Γ:List (Nat×List Cell)}
end Go.Hp.T
namespace Go.Hp.T
open Go Go.RowKit Go.Slot Go.Hp Go.Slot.T
set_option maxRecDepth 10000
section
variable {s:Sht} {r:Int} {x:Rcp}
end
section
variable {s:Sht} {r:Int} {k:Nat}
end
end Go.Hp.T
namespace Go.Hp.T
open Go Go.RowKit Go.Slot Go.Hp Go.Slot.T
open Go.Proofs.Tryz (prog)
attribute [local irreducible] hide RH
set_option maxRecDepth 10000
set_option maxHeartbeats 8000000
variable {Γ:List (Nat×List Cell)}
def xwf (l:List Stp) (k:Int) (w:ByteArray):Nat:=(l.filter fun y=>decide (y.kind=k)&&seq y.name w).length
theorem zpr (l:List Stp) (k:Int) (w:ByteArray) (hl:l.length<=1073741824):CallsD Γ prog 24 [.one (.sl 6 (l.map Stp.C)),.one (cI k),.one (cS w)] (.one (cI (xwf l k w))):=by
 unfold xwf;refine CallsD.run [] Go.Proofs.Tryz.func24 rfl rfl rfl ?_;simp only [Go.Proofs.Tryz.f24];refine hgR ?_
 repeat' ((first | refine hfk ?_ ?_<;>intros | refine hik ?_)<;>refine hgS ?_)
 refine wwt [0,1,2] (fun i:Nat=>[(7,.one (.dat (cI (((l.take i).filter fun y=>decide (y.kind=k)&&seq y.name w).length:Nat)))),(8,.one (.dat (cI i)))]) (fun _=>[]) (fun i=>i<=l.length) (fun i=>l.length-i) 0 (Nat.zero_le _) ?_ ?_
 . refine hg ?_;exact StH.same svl rfl
 intro i hi;have hb:((l.take i).filter fun y=>decide (y.kind=k)&&seq y.name w).length<=1073741824:=Nat.le_trans (List.length_filter_le _ _) (by simp;omega);refine hg ?_;refine zcl (fun hlt _=>?_) (fun hlt _=>?_)
 . have hlt':i<l.length:=by omega
   have hf:=wew (p:=fun y:Stp=>decide (y.kind=k)&&seq y.name w) hlt';generalize ((l.take i).filter fun y=>decide (y.kind=k)&&seq y.name w).length=c at *;by_cases hk:(l.getD i default).kind=k
   . cases hq:seq (l.getD i default).name w with
     | true=>
      rw [hq,decide_eq_true hk,Bool.and_true,cond_true] at hf;refine hg1 @hq ?_
      repeat' ((first | refine hfk ?_ ?_<;>intros | refine hik ?_)<;>refine hgS ?_)
      all_goals try (exfalso;omega)
      refine ⟨i+1,by omega,by omega,?_⟩;rw [hf];exact StH.same svl rfl
     | false=>
      rw [hq,Bool.and_false,cond_false,Nat.add_zero] at hf;refine hg1 @hq ?_
      repeat' ((first | refine hfk ?_ ?_<;>intros | refine hik ?_)<;>refine hgS ?_)
      all_goals try (exfalso;omega)
      refine ⟨i+1,by omega,by omega,?_⟩;rw [hf];exact StH.same svl rfl
   . rw [decide_eq_false hk,Bool.false_and,cond_false,Nat.add_zero] at hf;refine hg ?_
     repeat' ((first | refine hfk ?_ ?_<;>intros | refine hik ?_)<;>refine hgS ?_)
     all_goals try (exfalso;omega)
     refine ⟨i+1,by omega,by omega,?_⟩;rw [hf];exact StH.same svl rfl
 . rw [List.take_of_length_le (show l.length<=i by omega)] at hb ⊢;refine hg ?_
   repeat' ((first | refine hfk ?_ ?_<;>intros | refine hik ?_)<;>refine hgS ?_)
   exact RLe.ofEq rfl
end Go.Hp.T
namespace Go.Hp.T
open Go Go.RowKit Go.Slot Go.Hp Go.Slot.T
set_option maxRecDepth 10000
theorem x8l {α:Type} (s:ByteArray) (v:α) (t:ByteArray):∀ l:List (ByteArray×α),yk4 (updF l s v) t=bif seq t s then some v else yk4 l t
 | []=>rfl
 | p::l=>by
  have ih:=x8l s v t l;rw [updF]
  cases h:seq s p.1 with
  | true=>
   have e:s=p.1:=seqt.1 h;rw [cond_true]
   show (bif seq t s then some v else yk4 l t)=bif seq t s then some v else (bif seq t p.1 then some p.2 else yk4 l t)
   rw [<-e];cases seq t s<;>rfl
  | false=>
   rw [cond_false]
   show (bif seq t p.1 then some p.2 else yk4 (updF l s v) t)=bif seq t s then some v else (bif seq t p.1 then some p.2 else yk4 l t)
   rw [ih]
   cases h1:seq t p.1 with
   | false=>rfl
   | true=>cases h2:seq t s with
    | false=>rfl
    | true=>
     have e1:t=p.1:=seqt.1 h1;have e2:t=s:=seqt.1 h2;rw [<-e1,e2,(seqt.2 rfl)] at h
     cases h
def sumN (f:Nat->Nat):Nat->Nat
 | 0=>0
 | n+1=>sumN f n+f n
theorem xup {f:Nat->Nat}:∀{n i:Nat},i<n->f i<=sumN f n
 | 0,_,h=>by omega
 | n+1,i,h=>by
  rw [sumN];by_cases e:i=n
  . subst e;omega
  . have:=xup (f:=f) (n:=n) (i:=i) (by omega);omega
def isN (k:Int) (w:ByteArray) (y:Stp):Bool:=decide (y.kind=k)&&seq y.name w
theorem vhc {l:List Stp} {k:Int} {w:ByteArray}:xwf l k w=sumN (fun j=>bif isN k w (l.getD j default) then 1 else 0) l.length:=by
 have h:∀ n,n<=l.length->((l.take n).filter fun y=>decide (y.kind=k)&&seq y.name w).length=sumN (fun j=>bif isN k w (l.getD j default) then 1 else 0) n:=by
  intro n
  induction n with
  | zero=>intro _;rfl
  | succ n ih=>
   intro hn;rw [wew (by omega),ih (by omega),sumN];rfl
 have:=h l.length (Nat.le_refl _)
 rw [List.take_length] at this;exact this
theorem ziv {k:Int} {w:ByteArray} {y:Stp}:isN k w y=true↔y.kind=k/\y.name=w:=by
 unfold isN;rw [Bool.and_eq_true,decide_eq_true_iff,seqt]
theorem w0y {l:List Stp} {k:Int} {w:ByteArray} {i:Nat} (hi:i<l.length) (h:isN k w (l.getD i default)=true):0<xwf l k w:=by
 rw [vhc]
 have:=xup (f:=fun j=>bif isN k w (l.getD j default) then 1 else 0) hi
 rw [h,cond_true] at this;omega
theorem y2r {α:Type} {k:Int} {nm:α->ByteArray} {t:Tg}:∀{l:List α} {m:Mn},(ynd tgE (l.foldl (fun m x=>updG tgE m (k,nm x) ()) m) t).isSome=(l.any (fun x=>tgE t (k,nm x))||(ynd tgE m t).isSome)
 | [],_=>rfl
 | y::l,m=>by
  show (ynd tgE (l.foldl _ (updG tgE m (k,nm y) ())) t).isSome=_;rw [y2r,wc7 yj4 yyy wse,List.any_cons]
  cases l.any (fun x=>tgE t (k,nm x))<;>cases tgE t (k,nm y)<;>simp
theorem zpc {α:Type} {k k':Int} {nm:α->ByteArray} {t:Tg}:∀{l:List α} {m:Mn},(ynd tgE (l.foldl (fun m x=>updG tgE (updG tgE m (k,nm x) ()) (k',nm x) ()) m) t).isSome=(l.any (fun x=>tgE t (k,nm x)||tgE t (k',nm x))||(ynd tgE m t).isSome)
 | [],_=>rfl
 | y::l,m=>by
  show (ynd tgE (l.foldl _ (updG tgE (updG tgE m (k,nm y) ()) (k',nm y) ())) t).isSome=_;rw [zpc,wc7 yj4 yyy wse,wc7 yj4 yyy wse,List.any_cons]
  cases l.any (fun x=>tgE t (k,nm x)||tgE t (k',nm x))<;>cases tgE t (k,nm y)<;>cases tgE t (k',nm y)<;>simp
theorem xm2 {k j:Int} {w v:ByteArray}:tgE (k,w) (j,v)=(decide (k=j)&&seq v w):=by rw [seqc v w];rfl
theorem whr {s:Sht} {k:Int} {w:ByteArray}:(ynd tgE (vgd s) (k,w)).isSome=(s.ports.any (fun x=>decide (k=5)&&seq x.name w)||(s.stores.any (fun x=>(decide (k=2)&&seq x.name w)||(decide (k=6)&&seq x.name w))||(s.imports.any (fun x=>decide (k=1)&&seq x.name w)||s.inputs.any (fun x=>decide (k=0)&&seq x.name w)))):=by
 unfold vgd nm3 nm2 nm1;rw [y2r,zpc,y2r,y2r];simp only [xm2];simp [ynd]
section
variable {s:Sht} {r:Int} {x:Rcp}
end
theorem at_mem {α:Type} [Inhabited α] {l:List α} {y:α} (hy:y∈l):∃ i,i<l.length/\l.getD i default=y:=by
 obtain ⟨i,hi,e⟩:=List.getElem_of_mem hy;exact ⟨i,hi,by rw [List.getD_eq_getElem?_getD,List.getElem?_eq_getElem hi];exact e⟩
section
variable {s:Sht} {x:Rcp}
end
end Go.Hp.T
namespace Go.Hp
open Go Go.RowKit Go.Slot
variable {P:Program} {Γ:List (Nat×List Cell)}
mutual
def uz (k:Nat):Cell->Cell
 | .zc=>.sl k []
 | .sl n rows=>.sl n (uzLL k rows)
 | c=>c
def uzL (k:Nat):List Cell->List Cell
 | []=>[]
 | c::l=>uz k c::uzL k l
def uzLL (k:Nat):List (List Cell)->List (List Cell)
 | []=>[]
 | r::l=>uzL k r::uzLL k l
end
theorem y7s (k:Nat):∀ l:List Cell,uzL k l=l.map (uz k)
 | []=>by rw [uzL];rfl
 | _::l=>by rw [uzL,y7s k l];rfl
theorem yx3 (k:Nat):∀ l:List (List Cell),uzLL k l=l.map (uzL k)
 | []=>by rw [uzLL];rfl
 | _::l=>by rw [uzLL,yx3 k l];rfl
theorem wic (k:Nat) (l:List Cell):(uzL k l).length=l.length:=by rw [y7s,List.length_map]
theorem vsw (k:Nat) (l:List (List Cell)):(uzLL k l).length=l.length:=by rw [yx3,List.length_map]
theorem zv4 (k:Nat) (l:List (List Cell)) (i:Nat) (h:i<(uzLL k l).length):(uzLL k l)[i]=uzL k (l[i]'(by rw [<-vsw k];exact h)):=by
 simp only [yx3,List.getElem_map]
theorem zja (k:Nat) (l:List Cell) (i:Nat) (h:i<(uzL k l).length):(uzL k l)[i]=uz k (l[i]'(by rw [<-wic k];exact h)):=by
 simp only [y7s,List.getElem_map]
theorem RdC.uz {M:Nat->Nat->Prop} {w:World} {v:Value} {c:Cell} (k:Nat) (h:RdC M w v c):RdC M w v (uz k c):=by
 induction h with
 | raw h=>simp only [Go.Hp.uz];exact .raw h
 | zc=>rw [Go.Hp.uz];exact RdC.zcSl k
 | nn=>simp only [Go.Hp.uz];exact .nn
 | fnp h hp=>simp only [Go.Hp.uz];exact .fnp h hp
 | ints b off hl hc ha h=>simp only [Go.Hp.uz];exact .ints b off hl hc ha h
 | @sl a len cap n rows b off u hl hc ha hn hm hr ih =>
  rw [Go.Hp.uz];refine .sl b off u (by rw [vsw];exact hl) hc (fun hne=>ha (fun he=>hne (by rw [he];simp only [yx3,List.map_nil]))) (fun r hr'=>?_) (fun i hi j hj=>hm i (by rw [<-vsw k];exact hi) j hj) (fun i hi j hj=>?_)
  . rw [yx3] at hr';obtain ⟨r0,h0,rfl⟩:=List.mem_map.1 hr';rw [wic];exact hn _ h0
  . have hi2:i<rows.length:=by rw [<-vsw k];exact hi
    have e1:((uzLL k rows)[i])=uzL k rows[i]:=zv4 k rows i hi
    have hj2:j<rows[i].length:=by rw [<-wic k,<-e1];exact hj
    have e2:((uzLL k rows)[i])[j]=Go.Hp.uz k (rows[i][j]):=by
     have:=zja k rows[i] j (by rw [wic];exact hj2)
     rw [<-this];congr 1
    rw [e2];exact ih i hi2 j hj2
end Go.Hp
