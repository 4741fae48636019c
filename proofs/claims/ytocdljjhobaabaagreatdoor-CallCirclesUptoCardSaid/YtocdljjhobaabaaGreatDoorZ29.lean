/- The proof, part Z29: P1, P5, Ir, P6, P7, P8. -/
import Derived.Test.YtocdljjhobaabaaGreatDoorZ26
import Derived.Test.YtocdljjhobaabaaGreatDoorZ22
namespace Go.Hp
open Go Go.RowKit Go.Slot
section
variable {P:Program} {Γ:List (Nat×List Cell)} {e:List SB} {G:List (Nat×List GhH)} {Q:Exit->Bool->List SV->List SB->Prop} {σ:List SV} {η:List SB}
def v3g (Q:Exit->Bool->List SV->List SB->Prop):Exit->Bool->List SV->List SB->Prop
 | .goto _=>fun _ _ _=>False
 | .normal=>Q .normal
 | .exit id=>Q (.exit id)
 | .ret=>Q .ret
 | .panic c=>Q (.panic c)
 | .outgrown=>Q .outgrown
theorem vix {x:Code}:RH Γ P e G (.scope x) true Q σ η=RH Γ P e G x true (v3g Q) σ η:=by
 show RH Γ P e G x true (fun x=>match x with | .goto _=>fun _ _ _=>False | x=>Q x) σ η=_
 congr 1
 funext x
 cases x<;>rfl
theorem waw:v3g Q .ret=Q .ret:=_root_.id rfl
end
attribute [go_sem ↓] vix waw
end Go.Hp
namespace Go.Hp.T
open Go Go.RowKit Go.Slot Go.Hp
set_option maxRecDepth 10000
structure Tk where
 k:Int
 t:ByteArray
 n:Int
 p:Int
deriving DecidableEq
instance:Inhabited Tk:=⟨⟨0,⟨#[]⟩,0,0⟩⟩
def Tk.C (x:Tk):List Cell:=[cI x.k,cS x.t,cI x.n,cI x.p]
abbrev tkC (x:Tk):List Cell:=[cI x.k,cS x.t,cI x.n,cI x.p]
theorem Tk.C_eq (x:Tk):x.C=tkC x:=_root_.id rfl
attribute [go_sem] Tk.C_eq
def z9d (c:Int):Bool:=decide (c=32)||decide (c=9)||decide (c=10)
def yjn (c:Int):Bool:=[40,41,44,59,58,61,60,43,45,42,47,123,125].contains c
def numV (l:List Int):Int:=l.foldl (fun n c=>10*n+(c-48)) 0
def numO (l:List Int):Bool:=!(decide (l.headD 0=48)&&!decide (l=[48])||decide (13<(l.length:Int))||decide (1099511627776<numV l))
def quoL:List Int->Option (List Int×Nat)
 | []=>none
 | c::l=>bif !yuk c then none else bif decide (c=34) then some ([],1) else bif decide (c=92) then (match l with
  | []=>none
  | d::m=>bif decide (d=34)||decide (d=92) then (quoL m).map (fun r=>(d::r.1,r.2+2)) else none)
  else (quoL l).map (fun r=>(c::r.1,r.2+1))
def w4x (l:List Int):Tk×Nat×Int:=
 bif zlq (l.headD 0) then (bif decide (((l.takeWhile waz).length:Int)<=20) then (⟨0,strOfNums (l.takeWhile waz),0,0⟩,(l.takeWhile waz).length,0) else (default,0,3)) else
 bif isDigit (l.headD 0) then (bif numO (l.takeWhile isDigit) then (⟨1,strOfNums (l.takeWhile isDigit),numV (l.takeWhile isDigit),0⟩,(l.takeWhile isDigit).length,0) else (default,0,3)) else
 bif decide (l.headD 0=34) then (match quoL l.tail with
  | none=>(default,0,2)
  | some (v,n)=>bif decide (400<(v.length:Int)) then (default,0,2) else (⟨2,strOfNums v,0,0⟩,n+1,0)) else
 bif yjn (l.headD 0) then (⟨3,strOfNums (l.take 1),0,0⟩,1,0) else (default,0,10)
def gapL:Nat->List Int->Nat
 | 0,_=>0
 | f+1,l=>bif (l.drop (l.takeWhile z9d).length).headD 0==35 then
  let b:=(l.takeWhile z9d).length+((l.drop (l.takeWhile z9d).length).takeWhile (fun c=>!decide (c=10))).length
  b+gapL f (l.drop b)
  else (l.takeWhile z9d).length
abbrev Sn:=List Tk ⊕ (Nat×Int)
def wgu:Nat->List Int->Nat->Sn
 | 0,_,_=>.inl []
 | f+1,l,at_=>
  let g:=gapL (l.length+1) l
  bif (l.drop g).isEmpty then .inl [] else
  match w4x (l.drop g) with
  | (t,n,e)=>bif decide (¬e=0) then .inr (at_+g,e) else match wgu f (l.drop (g+n)) (at_+g+n) with
   | .inl ts=>.inl ({ t with p:=((at_+g:Nat):Int) }::ts)
   | .inr x=>.inr x
def zna (s:ByteArray):Sn:=bif decide (4000<(s.size:Int)) then .inr (0,6) else wgu (s.size+1) (z1x s) 0
def snR:Sn->AV
 | .inl ts=>.tup [.one (.sl 4 (ts.map Tk.C)),.one (cI 0),.one (cI 0)]
 | .inr (i,e)=>.tup [.one (.sl 4 []),.one (cI i),.one (cI e)]
theorem xhj (s:ByteArray) (i:Nat):w7f s i=((s.data.toList[i]?).getD 0).toNat:=by
 unfold w7f;rw [Array.getElem?_toList]
theorem yw4 (s:ByteArray):z1x s=s.data.toList.map (fun b=>(b.toNat:Int)):=by
 apply List.ext_getElem?;intro i;rw [List.getElem?_map];by_cases h:i<s.size
 . rw [vh2 s i h,xhj]
   have h':i<s.data.toList.length:=by simpa using h
   rw [List.getElem?_eq_getElem h'];rfl
 . have h1:(z1x s).length<=i:=by rw [v54];omega
   have h2:s.data.toList.length<=i:=by
    have:s.data.toList.length=s.size:=by simp
    omega
   rw [List.getElem?_eq_none h1,List.getElem?_eq_none h2];rfl
theorem y3d (s:ByteArray):strOfNums (z1x s)=s:=by
 rw [yw4];show (⟨((s.data.toList.map (fun b=>(b.toNat:Int))).map fun n=>UInt8.ofNat n.toNat).toArray⟩:ByteArray)=s;rw [List.map_map]
 have:(fun n:Int=>UInt8.ofNat n.toNat)∘(fun b:UInt8=>(b.toNat:Int))=id:=by
  funext b;simp
 rw [this,List.map_id]
theorem vgx (s:ByteArray) (i:Nat):z1x (ykb s i)=(z1x s).drop i:=by
 rw [yw4,yw4];show ((s.extract i s.size).data.toList.map _)=_;rw [ByteArray.data_extract,Array.toList_extract,List.extract_eq_take_drop,List.map_take,List.map_drop,List.take_of_length_le];simp
theorem vnf (s:ByteArray) (i:Nat):z1x (zlk s i)=(z1x s).take i:=by
 rw [yw4,yw4];show ((s.extract 0 i).data.toList.map _)=_;rw [ByteArray.data_extract,Array.toList_extract,List.extract_eq_take_drop,List.map_take];simp
theorem zvn (s:ByteArray) (i:Nat):zlk s i=strOfNums ((z1x s).take i):=by rw [<-vnf,y3d]
theorem wbp {α:Type} (p:α->Bool):∀ l:List α,l.takeWhile p=l.take (l.takeWhile p).length
 | []=>rfl
 | a::l=>by
  cases h:p a with
  | true=>rw [List.takeWhile_cons_of_pos h,List.length_cons,List.take_succ_cons,<-wbp p l]
  | false=>rw [List.takeWhile_cons_of_neg (by rw [h];decide)];rfl
theorem wci (p:Int->Bool) (s:ByteArray):zlk s (vhr p s)=strOfNums ((z1x s).takeWhile p):=by
 rw [zvn,wbp p (z1x s)];rfl
theorem vk5 (s:ByteArray) (h:0<s.size):w7f s 0=(z1x s).headD 0:=by
 have:=vh2 s 0 h
 cases hb:z1x s with
 | nil=>rw [hb] at this;cases this
 | cons c l=>rw [hb] at this;cases this;rfl
theorem yme (s:ByteArray) (i:Nat) (h:i<s.size):(z1x s).drop i=w7f s i::(z1x s).drop (i+1):=by
 rw [List.drop_eq_getElem_cons (by rw [v54];exact h)]
 congr 1
 have:=vh2 s i h
 rw [List.getElem?_eq_getElem (by rw [v54];exact h)] at this;exact (Option.some.inj this)
end Go.Hp.T
namespace Go.Hp.T
open Go Go.RowKit Go.Slot Go.Hp Go.Slot.T
open Go.Proofs.Tryz (prog)
attribute [local irreducible] hide RH
set_option maxRecDepth 10000
set_option maxHeartbeats 8000000
variable {Γ:List (Nat×List Cell)}
abbrev rdF (L:List Tk) (a:Nat) (b:Bool):SB:=.box [.dat (.sl 4 (L.map Tk.C)),.dat (cI a),.dat (cB b)] (some 168)
def kdF (L:List Tk) (a:Nat) (b:Bool) (k:Int):Bool:=!b&&(decide ((a:Int)<L.length)&&decide ((L.getD a default).k=k))
def isF (L:List Tk) (a:Nat) (b:Bool) (k:Int) (t:ByteArray):Bool:=!b&&(decide ((a:Int)<L.length)&&(decide ((L.getD a default).k=k)&&seq (L.getD a default).t t))
theorem vgd {L:List Tk} {a:Nat} {b:Bool} {k:Int} {t:ByteArray} (h:isF L a b k t=true):a<L.length/\b=false:=by
 unfold isF at h;simp only [Bool.and_eq_true,decide_eq_true_eq,Bool.not_eq_true'] at h;exact ⟨by omega,h.1⟩
theorem vej {L:List Tk} {a:Nat} {b:Bool} {k:Int} (h:kdF L a b k=true):a<L.length/\b=false:=by
 unfold kdF at h;simp only [Bool.and_eq_true,decide_eq_true_eq,Bool.not_eq_true'] at h;exact ⟨by omega,h.1⟩
theorem cFIs (L:List Tk) (a:Nat) (b:Bool) (k:Int) (t:ByteArray):xgj Γ prog 147 [rdF L a b] [.one (.ptr 0 0),.one (.dat (cI k)),.one (.dat (cS t))] [rdF L a b] (.one (.dat (cB (isF L a b k t)))):=by
 refine xgj.run [] Go.Proofs.Tryz.func147 rfl rfl ?_;simp only [Go.Proofs.Tryz.f147];refine hgR ?_
 repeat' ((first | refine hfk ?_ ?_<;>intros | refine hik ?_)<;>refine hgS ?_)
 all_goals exact StH.yri rfl (by kernel_rfl) (by ((refine bs1 @isF.eq_def ?_;try exact trivial))<;>first | rfl | trivial)
theorem yeq (L:List Tk) (a:Nat) (b:Bool) (k:Int):xgj Γ prog 148 [rdF L a b] [.one (.ptr 0 0),.one (.dat (cI k))] [rdF L a b] (.one (.dat (cB (kdF L a b k)))):=by
 refine xgj.run [] Go.Proofs.Tryz.func148 rfl rfl ?_;simp only [Go.Proofs.Tryz.f148];refine hgR ?_
 repeat' ((first | refine hfk ?_ ?_<;>intros | refine hik ?_)<;>refine hgS ?_)
 all_goals exact StH.yri rfl (by kernel_rfl) (by ((refine bs1 @kdF.eq_def ?_;try exact trivial))<;>first | rfl | trivial)
def skF (L:List Tk) (a:Nat) (b:Bool) (k:Int) (t:ByteArray):Nat:=bif isF L a b k t then a+1 else a
theorem vzj (L:List Tk) (a:Nat) (b:Bool) (k:Int) (t:ByteArray) (hl:L.length<=1073741824):xgj Γ prog 121 [rdF L a b] [.one (.ptr 0 0),.one (.dat (cI k)),.one (.dat (cS t))] [rdF L (skF L a b k t) b] (.one (.dat (cB (isF L a b k t)))):=by
 have c:=cFIs (Γ:=Γ) L a b k t;unfold skF
 cases h:isF L a b k t with
 | true=>
  have hlt:=vgd h;rw [h] at c;refine xgj.run [] Go.Proofs.Tryz.func121 rfl rfl ?_;simp only [Go.Proofs.Tryz.f121];refine hgR ?_
  repeat' ((first | refine hfk ?_ ?_<;>intros | refine hik ?_)<;>refine hgS ?_)
  refine wq6 c ?_;refine hg ?_
  repeat' ((first | refine hfk ?_ ?_<;>intros | refine hik ?_)<;>refine hgS ?_)
  exact StH.same svl rfl
 | false=>
  rw [h] at c;refine xgj.run [] Go.Proofs.Tryz.func121 rfl rfl ?_;simp only [Go.Proofs.Tryz.f121];refine hgR ?_
  repeat' ((first | refine hfk ?_ ?_<;>intros | refine hik ?_)<;>refine hgS ?_)
  refine wq6 c ?_;refine hg ?_
  repeat' ((first | refine hfk ?_ ?_<;>intros | refine hik ?_)<;>refine hgS ?_)
  exact StH.same svl rfl
theorem zho (L:List Tk) (a:Nat) (b:Bool) (k:Int) (t:ByteArray) (hl:L.length<=1073741824):xgj Γ prog 123 [rdF L a b] [.one (.ptr 0 0),.one (.dat (cI k)),.one (.dat (cS t))] [rdF L (skF L a b k t) (!isF L a b k t)] (.tup []):=by
 have c:=vzj (Γ:=Γ) L a b k t hl;unfold skF at c ⊢
 cases h:isF L a b k t with
 | true=>
  obtain ⟨hlt,rfl⟩:=vgd h;rw [h] at c;rw [cond_true] at c ⊢;refine xgj.run [] Go.Proofs.Tryz.func123 rfl rfl ?_;simp only [Go.Proofs.Tryz.f123];refine hgR ?_
  repeat' ((first | refine hfk ?_ ?_<;>intros | refine hik ?_)<;>refine hgS ?_)
  first | refine wq6 c ?_ | refine yjt [(0,rdF L (a+1) false)] c ?_
  refine hg ?_
  repeat' ((first | refine hfk ?_ ?_<;>intros | refine hik ?_)<;>refine hgS ?_)
  exact StH.same svl rfl
 | false=>
  rw [h] at c;rw [cond_false] at c ⊢;refine xgj.run [] Go.Proofs.Tryz.func123 rfl rfl ?_;simp only [Go.Proofs.Tryz.f123];refine hgR ?_
  repeat' ((first | refine hfk ?_ ?_<;>intros | refine hik ?_)<;>refine hgS ?_)
  first | refine wq6 c ?_ | refine yjt [] c ?_
  refine hg ?_
  repeat' ((first | refine hfk ?_ ?_<;>intros | refine hik ?_)<;>refine hgS ?_)
  exact StH.same svl rfl
theorem vvf (L:List Tk) (a:Nat) (b:Bool) (t:ByteArray) (hl:L.length<=1073741824):xgj Γ prog 151 [rdF L a b] [.one (.ptr 0 0),.one (.dat (cS t))] [rdF L (skF L a b 3 t) (!isF L a b 3 t)] (.tup []):=by
 have c:=zho (Γ:=Γ) L a b 3 t hl;refine xgj.run [] Go.Proofs.Tryz.func151 rfl rfl ?_;simp only [Go.Proofs.Tryz.f151];refine hgR ?_
 repeat' ((first | refine hfk ?_ ?_<;>intros | refine hik ?_)<;>refine hgS ?_)
 refine wq6 c ?_;refine hg ?_;exact StH.same svl rfl
theorem xsq (L:List Tk) (a:Nat) (b:Bool) (hl:L.length<=1073741824) (h:a<L.length):xgj Γ prog 164 [rdF L a b] [.one (.ptr 0 0)] [rdF L (a+1) b] (.agg ((tkC (L.getD a default)).map .dat)):=by
 refine xgj.run [] Go.Proofs.Tryz.func164 rfl rfl ?_;simp only [Go.Proofs.Tryz.f164];refine hgR ?_
 repeat' ((first | refine hfk ?_ ?_<;>intros | refine hik ?_)<;>refine hgS ?_)
 rw [show ((a:Int)+1-1).toNat=a by omega];exact StH.done 1 rfl (by kernel_rfl) rfl rfl
def nmOk (L:List Tk) (a:Nat) (b:Bool):Bool:=kdF L a b 0&&!isWord (L.getD a default).t
def nmS (L:List Tk) (a:Nat) (b:Bool):ByteArray:=bif nmOk L a b then (L.getD a default).t else ⟨#[]⟩
theorem zhw (L:List Tk) (a:Nat) (b:Bool) (hl:L.length<=1073741824):xgj Γ prog 152 [rdF L a b] [.one (.ptr 0 0)] [rdF L (bif nmOk L a b then a+1 else a) (bif nmOk L a b then b else true)] (.one (.dat (cS (nmS L a b)))):=by
 have c:=yeq (Γ:=Γ) L a b 0;have w:=xvd (Γ:=Γ) (L.getD a default).t;unfold nmS nmOk
 cases h:kdF L a b 0 with
 | false=>
  rw [h] at c;refine xgj.run [] Go.Proofs.Tryz.func152 rfl rfl ?_;simp only [Go.Proofs.Tryz.f152];refine hgR ?_
  repeat' ((first | refine hfk ?_ ?_<;>intros | refine hik ?_)<;>refine hgS ?_)
  first | refine wq6 c ?_ | refine y4m 1 (fun ξ=>xgj.pre (ξ:=ξ) c (fun r=>rfl) rfl rfl) rfl rfl ?_
  refine hg ?_
  repeat' ((first | refine hfk ?_ ?_<;>intros | refine hik ?_)<;>refine hgS ?_)
  exact StH.same svl rfl
 | true=>
  obtain ⟨hlt,rfl⟩:=vej h;have tk:=xsq (Γ:=Γ) L a false hl hlt;rw [h] at c;clear h
  cases hw:isWord (L.getD a default).t with
  | true=>
   rw [hw] at w;refine xgj.run [] Go.Proofs.Tryz.func152 rfl rfl ?_;simp only [Go.Proofs.Tryz.f152];refine hgR ?_
   repeat' ((first | refine hfk ?_ ?_<;>intros | refine hik ?_)<;>refine hgS ?_)
   first | refine wq6 c ?_ | refine y4m 1 (fun ξ=>xgj.pre (ξ:=ξ) c (fun r=>rfl) rfl rfl) rfl rfl ?_
   refine hg ?_
   repeat' ((first | refine hfk ?_ ?_<;>intros | refine hik ?_ | with_reducible first | refine v47 (w) ?_ | refine vrf (w) ?_)<;>refine hgS ?_)
   exact StH.same svl rfl
  | false=>
   rw [hw] at w;refine xgj.run [] Go.Proofs.Tryz.func152 rfl rfl ?_;simp only [Go.Proofs.Tryz.f152];refine hgR ?_
   repeat' ((first | refine hfk ?_ ?_<;>intros | refine hik ?_)<;>refine hgS ?_)
   first | refine wq6 c ?_ | refine y4m 1 (fun ξ=>xgj.pre (ξ:=ξ) c (fun r=>rfl) rfl rfl) rfl rfl ?_
   refine hg ?_
   repeat' ((first | refine hfk ?_ ?_<;>intros | refine hik ?_ | with_reducible first | refine v47 (w) ?_ | refine vrf (w) ?_)<;>refine hgS ?_)
   refine wq6 tk ?_;refine hg ?_;exact StH.same svl rfl
end Go.Hp.T
namespace Go.Hp
open Go Go.RowKit Go.Slot
variable {P:Program} {Γ:List (Nat×List Cell)} {e:List SB}
theorem StH.frzA {x y:SV} {η:List SB} {av:AV} {bs:List Nat} (h:znb η [x]=some ([av],bs)) (hs:zmk [av]=some [y]) (hx:∀ l,x≠.tup l) (hy:∀ l,y≠.tup l):StH Γ e [x] η [y] (appL (frzE η bs) η):=fun E ρ a w _ hR=>by
 obtain ⟨h1,h2⟩:=hR.frz (v8b h);refine ⟨ρ,h1.hd,h1.hs,fun i z hi=>?_,h1.went⟩
 cases i with
 | zero=>
  simp only [List.getElem?_cons_zero,Option.some.injEq] at hi;subst hi;have hr:=h1.slot 0 x rfl
  have hr:SRL _ ρ _ w [a.tmps.getD 0 Go.undef] [x]:=⟨by
   cases x with
   | tup l=>exact absurd rfl (hx l)
   | _=>exact hr,trivial⟩
  have h3:=(xp4 (η:=appL (frzE η bs) η) (ρ:=ρ) hs (z1s h1.inv h h2 hr)).1
  cases y with
  | tup l=>exact absurd rfl (hy l)
  | _=>exact h3
 | succ i=>simp at hi
theorem StH.agg1 {l l':List HC} {η:List SB} (h:SVle (.agg l) (.agg l')):StH Γ e [.agg l] η [.agg l'] η:=StH.same (.cons h .nil) rfl
end Go.Hp
namespace Go.Hp.T
open Go Go.RowKit Go.Slot Go.Hp Go.Slot.T
open Go.Proofs.Tryz (prog)
attribute [local irreducible] hide RH
set_option maxRecDepth 10000
set_option maxHeartbeats 8000000
variable {Γ:List (Nat×List Cell)}
theorem xsj {e η η':List SB} {o n:Int} {u s:ByteArray} (m:Nat) (hm:Nat.ble e.length m=true) (h:vxf m [SV.agg [.dat (cI o),.dat (cI n),.dat (cS u),.dat (cS s),.dat .zc]] η=true) (hη:η.take m=η') :
 StH Γ e [SV.agg [.dat (cI o),.dat (cI n),.dat (cS u),.dat (cS s),.dat .zc]] η [SV.agg ((exC (.mk o n u s [])).map .dat)] η':=
 StH.trans (StH.done m hm h rfl hη) (StH.agg1 (.agg (.cons (.refl _) (.cons (.refl _) (.cons (.refl _) (.cons (.refl _) (.cons (.dat (.zcSl _)) .nil)))))))
def nbE (L:List Tk) (a:Nat) (b:Bool):Ex:=.mk 0 (L.getD a default).n (bif kdF L (a+1) b 2 then (L.getD (a+1) default).t else ⟨#[]⟩) ⟨#[]⟩ []
def nbA (L:List Tk) (a:Nat) (b:Bool):Nat:=bif kdF L (a+1) b 2 then a+2 else a+1
theorem wcx (L:List Tk) (a:Nat) (b:Bool) (hl:L.length<=1073741824) (h:a<L.length):xgj Γ prog 149 [rdF L a b] [.one (.ptr 0 0)] [rdF L (nbA L a b) b] (.agg ((exC (nbE L a b)).map .dat)):=by
 have t1:=xsq (Γ:=Γ) L a b hl h;have k1:=yeq (Γ:=Γ) L (a+1) b 2;unfold nbA nbE
 cases hk:kdF L (a+1) b 2 with
 | false=>
  rw [hk] at k1;refine xgj.run [] Go.Proofs.Tryz.func149 rfl rfl ?_;simp only [Go.Proofs.Tryz.f149];refine hgR ?_
  repeat' ((first | refine hfk ?_ ?_<;>intros | refine hik ?_)<;>refine hgS ?_)
  refine xmn [0] t1 rfl (by decide) rfl rfl rfl ?_;refine hg ?_
  repeat' ((first | refine hfk ?_ ?_<;>intros | refine hik ?_)<;>refine hgS ?_)
  refine xmn [0] k1 rfl (by decide) rfl rfl rfl ?_;refine hg ?_
  repeat' ((first | refine hfk ?_ ?_<;>intros | refine hik ?_)<;>refine hgS ?_)
  exact xsj 1 rfl (by kernel_rfl) rfl
 | true=>
  obtain ⟨hlt,rfl⟩:=vej hk;have t2:=xsq (Γ:=Γ) L (a+1) false hl hlt;rw [hk] at k1;refine xgj.run [] Go.Proofs.Tryz.func149 rfl rfl ?_;simp only [Go.Proofs.Tryz.f149];refine hgR ?_
  repeat' ((first | refine hfk ?_ ?_<;>intros | refine hik ?_)<;>refine hgS ?_)
  refine xmn [0] t1 rfl (by decide) rfl rfl rfl ?_;refine hg ?_
  repeat' ((first | refine hfk ?_ ?_<;>intros | refine hik ?_)<;>refine hgS ?_)
  refine xmn [0] k1 rfl (by decide) rfl rfl rfl ?_;refine hg ?_
  repeat' ((first | refine hfk ?_ ?_<;>intros | refine hik ?_)<;>refine hgS ?_)
  refine xmn [0] t2 rfl (by decide) rfl rfl rfl ?_;refine hg ?_
  repeat' ((first | refine hfk ?_ ?_<;>intros | refine hik ?_)<;>refine hgS ?_)
  exact xsj 1 rfl (by kernel_rfl) rfl
def opKd (o:Int):Int:=bif decide (o=14)||decide (o=15) then 0 else 3
def opIs (L:List Tk) (a:Nat) (b:Bool) (o:Int):Bool:=isOp o&&isF L a b (opKd o) (xeq o)
def opNx (L:List Tk) (a:Nat) (b:Bool):Option Nat:=(List.range 16).find? fun i=>opIs L a b i
theorem xuf {p:Nat->Bool} {n i:Nat} (hi:i<n) (h:p i=true) (hj:∀ j,j<i->p j=false):(List.range n).find? p=some i:=by
 rw [List.find?_range_eq_some];exact ⟨h,List.mem_range.2 hi,fun j hji=>by rw [hj j hji];rfl⟩
theorem zj5 {p:Nat->Bool} {n:Nat} (hj:∀ j,j<n->p j=false):(List.range n).find? p=none:=by
 rw [List.find?_eq_none];intro x hx;rw [hj x (List.mem_range.1 hx)];decide
def opR:Option Nat->SV
 | none=>.tup [.one (.dat (cI 0)),.one (.dat (cB false))]
 | some i=>.tup [.one (.dat (cI i)),.one (.dat (cB true))]
theorem y57 (L:List Tk) (a:Nat) (b:Bool) (hl:L.length<=1073741824):xgj Γ prog 124 [rdF L a b] [.one (.ptr 0 0)] [rdF L (bif (opNx L a b).isSome then a+1 else a) b] (opR (opNx L a b)):=by
 generalize hR:opNx L a b=R;refine xgj.run [] Go.Proofs.Tryz.func124 rfl rfl ?_;simp only [Go.Proofs.Tryz.f124];refine hgR ?_
 repeat' ((first | refine hfk ?_ ?_<;>intros | refine hik ?_)<;>refine hgS ?_)
 refine yxw [0] (fun i:Nat=>[(8,.one (.dat (cI i)))]) (fun _=>[rdF L a b]) (fun i=>i<=16/\∀ j,j<i->opIs L a b j=false) (fun i=>16-i) 0 ⟨Nat.zero_le _,fun j hj=>by omega⟩ ?_ ?_
 . refine hg ?_;exact StH.same svl rfl
 rintro i ⟨h1,h2⟩;refine hg ?_;refine xw4 (fun hlt _=>?_) (fun hlt _=>?_)
 . have hi:i<16:=by omega
   have co:=y4o (Γ:=Γ) (i:Int)
   have hyes:=fun h=>xuf (p:=fun i:Nat=>opIs L a b i) hi h h2
   have hno:opIs L a b i=false->∀ j,j<i+1->opIs L a b (j:Nat)=false:=fun h j hj=>by
    rcases Nat.lt_or_eq_of_le (Nat.le_of_lt_succ hj) with h3 | h3
    . exact h2 j h3
    . rw [h3];exact h
   clear h2
   have hk:opKd (i:Int)=bif decide ((i:Int)=14)||decide ((i:Int)=15) then 0 else 3:=rfl
   have hkd:∃ p q,decide ((i:Int)=14)=p/\decide ((i:Int)=15)=q:=⟨_,_,rfl,rfl⟩;obtain ⟨p,q,d14,d15⟩:=hkd;rw [d14,d15] at hk
   cases ho:isOp (i:Int) with
   | false=>
    have hno:=hno (by unfold opIs;rw [ho];rfl);rw [ho] at co;clear hyes hR hk
    cases p<;>cases q
    all_goals
     refine hg ?_
     repeat' ((first | refine hfk ?_ ?_<;>intros | refine hik ?_ | with_reducible first | refine v47 (co) ?_ | refine vrf (co) ?_)<;>refine hgS ?_)
     exact ⟨i+1,⟨by omega,hno⟩,by omega,StH.same svl rfl⟩
   | true=>
    rw [ho] at co;have sk:=vzj (Γ:=Γ) L a b (opKd i) (xeq i) hl;unfold skF at sk
    cases hs:isF L a b (opKd i) (xeq i) with
    | true=>
     have hy:R=some i:=by rw [<-hR];exact hyes (by unfold opIs;rw [ho,hs];rfl)
     subst hy;rw [hs,cond_true,hk] at sk;clear hyes hno hR hs hk ho
     cases p<;>cases q
     all_goals
      simp only [Bool.or_false,Bool.or_true,cond_true,cond_false] at sk;refine hg ?_
      repeat' ((first | refine hfk ?_ ?_<;>intros | refine hik ?_ | with_reducible first | refine v47 (co) ?_ | refine vrf (co) ?_)<;>refine hgS ?_)
      refine wq6 sk ?_;refine hg ?_
      repeat' ((first | refine hfk ?_ ?_<;>intros | refine hik ?_)<;>refine hgS ?_)
      exact StH.same svl rfl
    | false=>
     have hno:=hno (by unfold opIs;rw [ho,hs];rfl);rw [hs,cond_false,hk] at sk;clear hyes hR hs hk ho
     cases p<;>cases q
     all_goals
      simp only [Bool.or_false,Bool.or_true,cond_true,cond_false] at sk;refine hg ?_
      repeat' ((first | refine hfk ?_ ?_<;>intros | refine hik ?_ | with_reducible first | refine v47 (co) ?_ | refine vrf (co) ?_)<;>refine hgS ?_)
      refine wq6 sk ?_;refine hg ?_
      repeat' ((first | refine hfk ?_ ?_<;>intros | refine hik ?_)<;>refine hgS ?_)
      exact ⟨i+1,⟨by omega,hno⟩,by omega,StH.same svl rfl⟩
 . have e:=zj5 (p:=fun i:Nat=>opIs L a b i) (n:=16) (fun j hj=>h2 j (by omega))
   have hy:R=none:=by rw [<-hR];exact e
   subst hy;clear hR e h2;refine hg ?_
   repeat' ((first | refine hfk ?_ ?_<;>intros | refine hik ?_)<;>refine hgS ?_)
   exact StH.same svl rfl
def zE:Ex:=.mk 0 0 ⟨#[]⟩ ⟨#[]⟩ []
abbrev Rd:=Ex×Nat×Bool
abbrev Rds:=List Ex×Nat×Bool
abbrev tLp:ByteArray:=⟨#[40]⟩
abbrev tRp:ByteArray:=⟨#[41]⟩
abbrev tCm:ByteArray:=⟨#[44]⟩
def clF (L:List Tk) (l:List Ex) (a:Nat) (b:Bool):Rds:=(l,skF L a b 3 tRp,!isF L a b 3 tRp)
def sm1 (L:List Tk) (rec:Nat->Bool->Rd) (a:Nat) (b:Bool):Rds:=bif b then ([],a,true) else clF L [(rec a false).1] (rec a false).2.1 (rec a false).2.2
def sm2 (L:List Tk) (rec:Nat->Bool->Rd) (a:Nat) (b:Bool):Rds:=bif b then ([],a,true) else
 bif (rec a false).2.2 then ([(rec a false).1],(rec a false).2.1,true) else
 let a1:=skF L (rec a false).2.1 false 3 tCm
 let b1:=!isF L (rec a false).2.1 false 3 tCm
 clF L [(rec a false).1,(rec a1 b1).1] (rec a1 b1).2.1 (rec a1 b1).2.2
theorem wxk {L:List Tk} {a:Nat} {k:Int} {t:ByteArray}:isF L a true k t=false:=rfl
theorem wcc {L:List Tk} {a:Nat} {k:Int} {t:ByteArray}:skF L a true k t=a:=rfl
theorem yvp {e η η':List SB} {x:SV} {c:Cell} {bs:List Nat} (m:Nat) (h:znb η [x]=some ([.one c],bs)) (hx:∀ l,x≠.tup l) (hm:Nat.ble e.length m=true) (hc:vxf m [SV.one (.dat c)] (appL (frzE η bs) η)=true) (hη:(appL (frzE η bs) η).take m=η') :
 StH Γ e [x] η [.one (.dat c)] η':=
 StH.trans (StH.frzA h rfl hx (fun l h=>by cases h)) (StH.done m hm hc rfl hη)
theorem zw8 (L:List Tk) (rec:Nat->Bool->Rd) (a:Nat) (b:Bool) (hl:L.length<=1073741824)
 (H:b=false->xgj Γ prog 101 [rdF L a false] [.one (.ptr 0 0)] [rdF L (rec a false).2.1 (rec a false).2.2] (.agg ((exC (rec a false).1).map .dat))) :
 xgj Γ prog 150 [rdF L a b] [.one (.ptr 0 0),.one (.dat (cI 1))] [rdF L (sm1 L rec a b).2.1 (sm1 L rec a b).2.2] (.one (.dat (.sl 5 ((sm1 L rec a b).1.map Ex.cells)))):=by
 unfold sm1
 cases b with
 | true=>
  have c:=vvf (Γ:=Γ) L a true tRp hl;rw [wcc,wxk] at c;refine xgj.run [] Go.Proofs.Tryz.func150 rfl rfl ?_;simp only [Go.Proofs.Tryz.f150];refine hgR ?_
  repeat' ((first | refine hfk ?_ ?_<;>intros | refine hik ?_ | with_reducible refine z7r ?_ | with_reducible refine wd2 ?_)<;>refine hgS ?_)
  refine wq6 c ?_;refine hg ?_
  repeat' ((first | refine hfk ?_ ?_<;>intros | refine hik ?_)<;>refine hgS ?_)
  exact StH.same (.cons (.one (.dat (.nilSl _))) .nil) rfl
 | false=>
  have H:=H rfl;generalize rec a false=r at *;obtain ⟨x,a1,b1⟩:=r;simp only at H;have c:=vvf (Γ:=Γ) L a1 b1 tRp hl;refine xgj.run [] Go.Proofs.Tryz.func150 rfl rfl ?_;simp only [Go.Proofs.Tryz.f150];refine hgR ?_
  repeat' ((first | refine hfk ?_ ?_<;>intros | refine hik ?_ | with_reducible refine z7r ?_ | with_reducible refine wd2 ?_)<;>refine hgS ?_)
  refine wq6 H ?_;refine hg ?_
  repeat' ((first | refine hfk ?_ ?_<;>intros | refine hik ?_ | with_reducible refine z7r ?_ | with_reducible refine wd2 ?_)<;>refine hgS ?_)
  refine xmn [0] c rfl (by decide) rfl rfl rfl ?_;refine hg ?_
  repeat' ((first | refine hfk ?_ ?_<;>intros | refine hik ?_)<;>refine hgS ?_)
  unfold clF;simp only [List.map_cons,List.map_nil,Ex.wrj];exact yvp (bs:=[1]) 1 rfl (fun l h=>by cases h) rfl (by kernel_rfl) rfl
theorem zbo (L:List Tk) (a:Nat):xgj Γ prog 101 [rdF L a true] [.one (.ptr 0 0)] [rdF L a true] (.agg ((exC zE).map .dat)):=by
 refine xgj.run [] Go.Proofs.Tryz.func101 rfl rfl ?_;simp only [Go.Proofs.Tryz.f101];refine hgR ?_
 repeat' ((first | refine hfk ?_ ?_<;>intros | refine hik ?_)<;>refine hgS ?_)
 exact xsj 1 rfl (by kernel_rfl) rfl
theorem xhb (L:List Tk) (rec:Nat->Bool->Rd) (a:Nat) (b:Bool) (hl:L.length<=1073741824)
 (H:b=false->xgj Γ prog 101 [rdF L a false] [.one (.ptr 0 0)] [rdF L (rec a false).2.1 (rec a false).2.2] (.agg ((exC (rec a false).1).map .dat)))
 (H2:∀ c,c = !isF L (rec a false).2.1 false 3 tCm->xgj Γ prog 101 [rdF L (skF L (rec a false).2.1 false 3 tCm) c] [.one (.ptr 0 0)] [rdF L (rec (skF L (rec a false).2.1 false 3 tCm) c).2.1 (rec (skF L (rec a false).2.1 false 3 tCm) c).2.2] (.agg ((exC (rec (skF L (rec a false).2.1 false 3 tCm) c).1).map .dat))) :
 xgj Γ prog 150 [rdF L a b] [.one (.ptr 0 0),.one (.dat (cI 2))] [rdF L (sm2 L rec a b).2.1 (sm2 L rec a b).2.2] (.one (.dat (.sl 5 ((sm2 L rec a b).1.map Ex.cells)))):=by
 unfold sm2
 cases b with
 | true=>
  have c:=vvf (Γ:=Γ) L a true tRp hl;rw [wcc,wxk] at c;refine xgj.run [] Go.Proofs.Tryz.func150 rfl rfl ?_;simp only [Go.Proofs.Tryz.f150];refine hgR ?_
  repeat' ((first | refine hfk ?_ ?_<;>intros | refine hik ?_ | with_reducible refine z7r ?_ | with_reducible refine wd2 ?_)<;>refine hgS ?_)
  refine wq6 c ?_;refine hg ?_
  repeat' ((first | refine hfk ?_ ?_<;>intros | refine hik ?_)<;>refine hgS ?_)
  exact StH.same (.cons (.one (.dat (.nilSl _))) .nil) rfl
 | false=>
  have H:=H rfl;have H2:=H2 _ rfl;generalize rec a false=r at *;obtain ⟨x,a1,b1⟩:=r;simp only at H H2;rw [cond_false];simp only
  cases b1 with
  | true=>
   have c:=vvf (Γ:=Γ) L a1 true tRp hl;rw [wcc,wxk] at c;rw [cond_true];clear H2;refine xgj.run [] Go.Proofs.Tryz.func150 rfl rfl ?_;simp only [Go.Proofs.Tryz.f150];refine hgR ?_
   repeat' ((first | refine hfk ?_ ?_<;>intros | refine hik ?_ | with_reducible refine z7r ?_ | with_reducible refine wd2 ?_)<;>refine hgS ?_)
   refine wq6 H ?_;refine hg ?_
   repeat' ((first | refine hfk ?_ ?_<;>intros | refine hik ?_ | with_reducible refine z7r ?_ | with_reducible refine wd2 ?_)<;>refine hgS ?_)
   refine xmn [0] c rfl (by decide) rfl rfl rfl ?_;refine hg ?_
   repeat' ((first | refine hfk ?_ ?_<;>intros | refine hik ?_)<;>refine hgS ?_)
   exact yvp (bs:=[1]) 1 rfl (fun l h=>by cases h) rfl (by kernel_rfl) rfl
  | false=>
   rw [cond_false];have s:=vvf (Γ:=Γ) L a1 false tCm hl;generalize skF L a1 false 3 tCm=a2 at *;generalize (!isF L a1 false 3 tCm)=b2 at *;generalize rec a2 b2=r2 at *;obtain ⟨y,a3,b3⟩:=r2;simp only at H2;have c:=vvf (Γ:=Γ) L a3 b3 tRp hl;refine xgj.run [] Go.Proofs.Tryz.func150 rfl rfl ?_;simp only [Go.Proofs.Tryz.f150];refine hgR ?_
   repeat' ((first | refine hfk ?_ ?_<;>intros | refine hik ?_ | with_reducible refine z7r ?_ | with_reducible refine wd2 ?_)<;>refine hgS ?_)
   refine wq6 H ?_;refine hg ?_
   repeat' ((first | refine hfk ?_ ?_<;>intros | refine hik ?_ | with_reducible refine z7r ?_ | with_reducible refine wd2 ?_)<;>refine hgS ?_)
   refine xmn [0] s rfl (by decide) rfl rfl rfl ?_;refine hg ?_
   repeat' ((first | refine hfk ?_ ?_<;>intros | refine hik ?_ | with_reducible refine z7r ?_ | with_reducible refine wd2 ?_)<;>refine hgS ?_)
   refine xmn [0] H2 rfl (by decide) rfl rfl rfl ?_;refine hg ?_
   repeat' ((first | refine hfk ?_ ?_<;>intros | refine hik ?_ | with_reducible refine z7r ?_ | with_reducible refine wd2 ?_)<;>refine hgS ?_)
   refine xmn [0] c rfl (by decide) rfl rfl rfl ?_;refine hg ?_
   repeat' ((first | refine hfk ?_ ?_<;>intros | refine hik ?_)<;>refine hgS ?_)
   unfold clF;simp only [List.map_cons,List.map_nil,Ex.wrj];exact yvp (bs:=[2]) 1 rfl (fun l h=>by cases h) rfl (by kernel_rfl) rfl
def anL (L:List Tk) (rec:Nat->Bool->Rd):Nat->List Ex->Nat->Bool->Rds
 | 0,out,a,b=>clF L out a b
 | n+1,out,a,b=>bif isF L a b 3 tCm then anL L rec n (out++[(rec (a+1) false).1]) (rec (a+1) false).2.1 (rec (a+1) false).2.2 else clF L out a b
def anF (L:List Tk) (rec:Nat->Bool->Rd) (a:Nat):Rds:=anL L rec L.length [(rec a false).1] (rec a false).2.1 (rec a false).2.2
theorem xbx {L:List Tk} {rec:Nat->Bool->Rd} {n:Nat} {out:List Ex} {a:Nat} {b:Bool} (h:isF L a b 3 tCm=false):anL L rec n out a b=clF L out a b:=by
 cases n with
 | zero=>rfl
 | succ n=>rw [anL,h];rfl
theorem xlj {L:List Tk} {rec:Nat->Bool->Rd} {n:Nat} {out:List Ex} {a:Nat} {b:Bool} (h:isF L a b 3 tCm=true):anL L rec (n+1) out a b=anL L rec n (out++[(rec (a+1) false).1]) (rec (a+1) false).2.1 (rec (a+1) false).2.2:=by
 rw [anL,h];rfl
theorem wdd {η:List SB} {b n:Nat} {l:List (List Cell)} {q:Nat} {T:Option TypeId} (hb:gB η b=.arr (.sl 5 l) q T) (hn:n=l.length):znb η [.one (.sl b 5 0 n)]=some ([.one (.sl 5 l)],[b]):=by
 subst hn;simp [znb,argD,xvg,hb,Cell.esz,Cell.cnt,subC]
theorem ze5 (L:List Tk) (rec:Nat->Bool->Rd) (a:Nat) (hl:L.length<=1073741824) (ha:a<=L.length) (hm:∀ i,i<=(rec i false).2.1)
 (H:∀ i,a<=i->i<=L.length->xgj Γ prog 101 [rdF L i false] [.one (.ptr 0 0)] [rdF L (rec i false).2.1 (rec i false).2.2] (.agg ((exC (rec i false).1).map .dat))) :
 xgj Γ prog 153 [rdF L a false] [.one (.ptr 0 0)] [rdF L (anF L rec a).2.1 (anF L rec a).2.2] (.one (.dat (.sl 5 ((anF L rec a).1.map Ex.cells)))):=by
 generalize hR:anF L rec a=R;unfold anF at hR;have H0:=H a (Nat.le_refl _) ha;have m0:=hm a;generalize rec a false=r at *;obtain ⟨x0,a0,b0⟩:=r;simp only at H0 m0 hR;refine xgj.run [(1,[.own])] Go.Proofs.Tryz.func153 rfl rfl ?_;simp only [Go.Proofs.Tryz.f153];refine hgR ?_
 repeat' ((first | refine hfk ?_ ?_<;>intros | refine hik ?_ | with_reducible refine z7r ?_ | with_reducible refine wd2 ?_)<;>refine hgS ?_)
 refine wq6 H0 ?_;clear H0;refine hg ?_
 repeat' ((first | refine hfk ?_ ?_<;>intros | refine hik ?_)<;>refine hgS ?_)
 refine yxw [0] (fun x:List Ex×Nat×Bool=>[(3,.one (.sl 1 5 0 x.1.length))]) (fun x=>[rdF L x.2.1 x.2.2,.arr (.sl 5 (x.1.map Ex.cells)) 0 (some 25)])
  (fun x=>a<=x.2.1/\x.1.length+a<=x.2.1+1/\∃ n,L.length-x.2.1<=n/\anL L rec n x.1 x.2.1 x.2.2=R) (fun x=>L.length-x.2.1) ([x0],a0,b0) ⟨m0,by simp only [List.length_singleton];omega,L.length,by omega,hR⟩ ?_ ?_
 . refine hg ?_;exact StH.same svl rfl
 rintro ⟨out,i,b⟩ ⟨i1,i2,n,n1,hn⟩;simp only at i1 i2 n1 hn;clear hR;have sk:=vzj (Γ:=Γ) L i b 3 tCm hl;unfold skF at sk
 cases hi:isF L i b 3 tCm with
 | true=>
  obtain ⟨hlt,rfl⟩:=vgd hi;obtain ⟨n,rfl⟩:∃ k,n=k+1:=⟨n-1,by omega⟩;have H1:=H (i+1) (by omega) (by omega);have m1:=hm (i+1);rw [xlj hi] at hn;rw [hi] at sk;clear hi H hm;generalize rec (i+1) false=r at *;obtain ⟨y,i',b'⟩:=r;simp only [cond_true] at H1 m1 hn sk;refine hg ?_
  repeat' ((first | refine hfk ?_ ?_<;>intros | refine hik ?_ | with_reducible refine z7r ?_ | with_reducible refine wd2 ?_)<;>refine hgS ?_)
  refine xmn [0] sk rfl (by decide) rfl rfl rfl ?_;refine hg ?_
  repeat' ((first | refine hfk ?_ ?_<;>intros | refine hik ?_ | with_reducible refine z7r ?_ | with_reducible refine wd2 ?_)<;>refine hgS ?_)
  refine xmn [0] H1 rfl (by decide) rfl rfl rfl ?_;clear H1 sk;refine hg ?_
  repeat' ((first | refine hfk ?_ ?_<;>intros | refine hik ?_ | with_reducible refine z7r ?_ | with_reducible refine wd2 ?_)<;>refine hgS ?_)
  refine ⟨(out++[y],i',b'),⟨by dsimp only;omega,by simp only [List.length_append,List.length_singleton];omega,n,by dsimp only;omega,hn⟩,by dsimp only;omega,?_⟩;refine StH.back [0,3] 1 2 2 rfl rfl rfl rfl rfl (by kernel_rfl) ?_;simp only [List.map_append,List.map_cons,List.map_nil,Ex.wrj]
  conv=>simp (maxSteps:=2000000) (disch:=omega) only [go_sem,Nat.reduceAdd,Nat.reduceSub,Nat.reduceMul,Int.reduceToNat,Nat.reduceEqDiff,Nat.reduceBEq,Nat.reduceBneDiff,Nat.reduceLT,Int.reduceEq,Int.reduceLT,Int.reduceLE,Int.reduceNeg,Int.reduceAdd,Int.reduceSub,Int.reduceMul,List.length_append,List.length_singleton]
  exact StH.same svl rfl
 | false=>
  rw [xbx hi] at hn;rw [hi] at sk;clear H hm hi;unfold clF at hn;subst hn;have c:=vvf (Γ:=Γ) L i b tRp hl;simp only [cond_false] at sk;refine hg ?_
  repeat' ((first | refine hfk ?_ ?_<;>intros | refine hik ?_ | with_reducible refine z7r ?_ | with_reducible refine wd2 ?_)<;>refine hgS ?_)
  refine xmn [0] sk rfl (by decide) rfl rfl rfl ?_;refine hg ?_
  repeat' ((first | refine hfk ?_ ?_<;>intros | refine hik ?_ | with_reducible refine z7r ?_ | with_reducible refine wd2 ?_)<;>refine hgS ?_)
  refine xmn [0] c rfl (by decide) rfl rfl rfl ?_;refine hg ?_
  repeat' ((first | refine hfk ?_ ?_<;>intros | refine hik ?_)<;>refine hgS ?_)
  exact yvp (bs:=[1]) 1 (wdd rfl (List.length_map _).symm) (fun l h=>by cases h) rfl (by kernel_rfl) rfl
end Go.Hp.T
