/- The proof, part P8: Hx, Ia, Ib, Ti, Ic, Im. -/
import Derived.Test.YtmegdbbbllffkaaGreatP7
import Derived.Test.YtmegdbbbllffkaaGreatP4
import Derived.Test.YtmegdbbbllffkaaGreatChecked
import Derived.Laws.Strings
namespace Go.Hp
open Go Go.RowKit Go.Slot
variable {P:Program} {Γ:List (Nat×List Cell)}
variable {r:Nat->Nat} {x:SB} {o:Oper} {i j nb:Nat} {f:FuncId} {l:List AV} {J η2 e:List SB} {KD K:Bool->AV->Prop} {KH:Bool->List SB->SV->Prop} {res:AV} {lit fn b:Bool} {I caps:List SV} {k:Bool->List Nat->List Nat->List (Nat×SV)->List (Nat×SB)->Prop} {ops:Array Oper} {rd rh:List Nat}
def rnHC (r:Nat->Nat):HC->HC
 | .ptr b o=>.ptr (r b) o
 | .pel b es k f=>.pel (r b) es k f
 | .sl b es lo n=>.sl (r b) es lo n
 | .mp b=>.mp (r b)
 | .fnr b=>.fnr (r b)
 | .any=>.any
 | .dat c=>.dat c
def yo9 (r:Nat->Nat):SV->SV
 | .one h=>.one (rnHC r h)
 | .agg l=>.agg (l.map (rnHC r))
 | .any=>.any
 | .undef=>.undef
 | .elt cs=>.elt cs
 | .tup l=>.tup l
def rnSV (r:Nat->Nat):SV->SV
 | .one h=>.one (rnHC r h)
 | .agg l=>.agg (l.map (rnHC r))
 | .any=>.any
 | .undef=>.undef
 | .elt cs=>.elt cs
 | .tup l=>.tup (l.map (yo9 r))
def rnSB (r:Nat->Nat):SB->SB
 | .box l T=>.box (l.map (rnHC r)) T
 | .map es=>.map (es.map fun p=>(p.1,yo9 r p.2))
 | .clo f l=>.clo f (l.map (yo9 r))
 | .fresh=>.fresh
 | .dead=>.dead
 | .arr c k T=>.arr c k T
theorem yq6:(rnSB r x).own=x.own:=by cases x<;>rfl
theorem x71 {o:Nat}:(rnSB r x).mut o↔x.mut o:=by cases x<;>exact Iff.rfl
theorem zd2:rnSB r x=.fresh↔x=.fresh:=by cases x<;>simp [rnSB]
structure Rn (r:Nat->Nat) (J:List SB) (ρ:Nat->Value) (J':List SB) (ρ':Nat->Value):Prop where
 ok:∀ b,okB J b->okB J' (r b)
 back:∀ b,okB J' (r b)->okB J b
 rho:∀ b,ρ' (r b)=ρ b
section
variable {r:Nat->Nat} {J J':List SB} {ρ ρ':Nat->Value} {M:Nat->Nat->Prop} {w:World}
theorem HRd.rn (R:Rn r J ρ J' ρ') {v:Value} {h:HC}:HRd J' ρ' M w v (rnHC r h)↔HRd J ρ M w v h:=by
 have hb:∀ b,okB J' (r b)↔okB J b:=fun b=>⟨R.back b,R.ok b⟩
 cases h<;>simp only [rnHC,HRd,hb,R.rho]
theorem HRL.rn (R:Rn r J ρ J' ρ'):∀{vs:List Value} {l:List HC},HRL J' ρ' M w vs (l.map (rnHC r))↔HRL J ρ M w vs l
 | [],[]=>Iff.rfl
 | [],_::_=>Iff.rfl
 | _::_,[]=>Iff.rfl
 | _::_,_::_=>by simp only [List.map_cons,HRL,HRd.rn R,HRL.rn R]
theorem SVR0.rn (R:Rn r J ρ J' ρ') {v:Value} {x:SV}:SVR0 J' ρ' M w v (yo9 r x)↔SVR0 J ρ M w v x:=by
 cases x<;>simp only [yo9,SVR0,HRd.rn R,HRL.rn R]
theorem SRL.rn (R:Rn r J ρ J' ρ'):∀{vs:List Value} {l:List SV},SRL J' ρ' M w vs (l.map (yo9 r))↔SRL J ρ M w vs l
 | [],[]=>Iff.rfl
 | [],_::_=>Iff.rfl
 | _::_,[]=>Iff.rfl
 | _::_,_::_=>by simp only [List.map_cons,SRL,SVR0.rn R,SRL.rn R]
theorem SVR.rn (R:Rn r J ρ J' ρ') {v:Value} {x:SV}:SVR J' ρ' M w v (rnSV r x)↔SVR J ρ M w v x:=by
 cases x with
 | tup l=>simp only [rnSV,SVR,SRL.rn R]
 | one h=>exact HRd.rn R
 | agg l=>simp only [rnSV,SVR,SVR0,HRL.rn R]
 | _=>exact Iff.rfl
theorem EnR.rn (R:Rn r J ρ J' ρ'):∀{es:List MapEntry} {l:List (Value×SV)},EnR J' ρ' M w es (l.map fun p=>(p.1,yo9 r p.2))↔EnR J ρ M w es l
 | [],[]=>Iff.rfl
 | [],_::_=>Iff.rfl
 | _::_,[]=>Iff.rfl
 | _::_,_::_=>by simp only [List.map_cons,EnR,SVR0.rn R,EnR.rn R]
theorem SBR.rn (R:Rn r J ρ J' ρ') {v:Value} {x:SB}:SBR J' ρ' M w v (rnSB r x)↔SBR J ρ M w v x:=by
 cases x<;>simp only [rnSB,SBR,HRL.rn R,EnR.rn R,SRL.rn R]
end
def atR (φ:List Nat) (N:Nat) (i:Nat):Nat:=match φ[i]? with
 | some j=>j
 | none=>N+(i-φ.length)
def yp3 (φ:List Nat) (J ηs:List SB):Prop:=ηs.length=φ.length/\∀(i:Nat) (x:SB),ηs[i]? = some x->∃ j:Nat,φ[i]? = some j/\J[j]? = some (rnSB (atR φ J.length) x)
def putR (φ:List Nat) (J J':List SB):List SB:=appL (φ.zip (J'.map (rnSB (atR φ J.length)))) J++(J'.drop φ.length).map (rnSB (atR φ J.length))
theorem xw9 {α:Type}:∀(φ:List Nat) (xs l:List α) (j:Nat),j∉φ->(appL (φ.zip xs) l)[j]? = l[j]?
 | [],_,_,_,_=>rfl
 | _::_,[],_,_,_=>rfl
 | i::φ,x::xs,l,j,h=>by
  simp only [List.mem_cons,not_or] at h;show (appL (φ.zip xs) (l.set i x))[j]? = _;rw [xw9 φ xs _ j h.2,List.getElem?_set_ne (Ne.symm h.1)]
theorem wu2 {α:Type}:∀(φ:List Nat) (xs l:List α) (i j:Nat) (x:α),φ.Nodup->φ[i]? = some j->xs[i]? = some x->j<l.length->(appL (φ.zip xs) l)[j]? = some x
 | [],_,_,_,_,_,_,h,_,_=>by simp at h
 | _::_,[],_,_,_,_,_,_,h,_=>by simp at h
 | k::φ,y::xs,l,i,j,x,hn,h,hx,hl=>by
  show (appL (φ.zip xs) (l.set k y))[j]? = _;rw [List.nodup_cons] at hn
  cases i with
  | zero=>
   simp only [List.getElem?_cons_zero,Option.some.injEq] at h hx;subst h;subst hx;rw [xw9 φ xs _ k hn.1,List.getElem?_set_self hl]
  | succ i=>
   simp only [List.getElem?_cons_succ] at h hx;exact wu2 φ xs _ i j x hn.2 h hx (by simpa using hl)
section
variable {φ:List Nat} {J ηs ηs':List SB}
theorem v84 {N:Nat} (h:φ[i]? = some j):atR φ N i=j:=by unfold atR;rw [h]
theorem yy1 {N:Nat} (h:φ.length<=i):atR φ N i=N+(i-φ.length):=by unfold atR;rw [List.getElem?_eq_none h]
theorem yvj:(putR φ J ηs').length=J.length+(ηs'.length-φ.length):=by unfold putR;simp [z2a]
theorem y6r (hn:φ.Nodup) (hb:∀ j∈φ,j<J.length) (hx:ηs'[i]? = some x):(putR φ J ηs')[atR φ J.length i]? = some (rnSB (atR φ J.length) x):=by
 unfold putR;by_cases hi:i<φ.length
 . have hj:φ[i]? = some φ[i]:=List.getElem?_eq_getElem hi;rw [v84 hj,List.getElem?_append_left (by rw [z2a];exact hb _ (List.getElem_mem hi))];exact wu2 φ _ J i _ _ hn hj (by rw [List.getElem?_map,hx];rfl) (hb _ (List.getElem_mem hi))
 . rw [yy1 (by omega),List.getElem?_append_right (by rw [z2a];omega),z2a];rw [show J.length+(i-φ.length)-J.length=i-φ.length from by omega,List.getElem?_map,List.getElem?_drop,show φ.length+(i-φ.length)=i from by omega,hx];rfl
theorem xxa (hl:j<J.length) (h:j∉φ):(putR φ J ηs')[j]? = J[j]?:=by
 unfold putR;rw [List.getElem?_append_left (by rw [z2a];exact hl),xw9 φ _ _ j h]
theorem vba (hn:φ.Nodup) (hb:∀ j∈φ,j<J.length) (hlen:φ.length<=ηs'.length) {y:SB} (h:(putR φ J ηs')[j]? = some y) :
 (∃ i x,j=atR φ J.length i/\ηs'[i]? = some x/\y=rnSB (atR φ J.length) x)\/(j∉φ/\j<J.length/\J[j]? = some y):=by
 have hjl:j<(putR φ J ηs').length:=(List.getElem?_eq_some_iff.1 h).1;rw [yvj] at hjl
 have key:∀ i,i<ηs'.length->j=atR φ J.length i->∃ i x,j=atR φ J.length i/\ηs'[i]? = some x/\y=rnSB (atR φ J.length) x:=fun i hi e=>by
  have hx:ηs'[i]? = some ηs'[i]:=List.getElem?_eq_getElem hi;refine ⟨i,_,e,hx,?_⟩
  have:=y6r hn hb hx
  rw [<-e,h] at this;exact (Option.some.inj this)
 by_cases hm:j∈φ
 . obtain ⟨i,hi,e⟩:=List.getElem_of_mem hm;exact .inl (key i (by omega) (by rw [v84 (List.getElem?_eq_getElem hi),e]))
 . by_cases hj:j<J.length
   . rw [xxa hj hm] at h;exact .inr ⟨hm,hj,h⟩
   . exact .inl (key (φ.length+(j-J.length)) (by omega) (by rw [yy1 (by omega)];omega))
end
def unR (φ:List Nat) (N j:Nat):Nat:=if j<N then φ.idxOf j else φ.length+(j-N)
theorem zxj {φ:List Nat} {N:Nat} (hn:φ.Nodup) (hb:∀ j∈φ,j<N) (i:Nat):unR φ N (atR φ N i)=i:=by
 unfold unR;by_cases hi:i<φ.length
 . rw [v84 (List.getElem?_eq_getElem hi),if_pos (hb _ (List.getElem_mem hi))];exact hn.idxOf_getElem i hi
 . rw [yy1 (by omega),if_neg (by omega)];omega
theorem vfe.frame {f:FuncId} {φ:List Nat} {J ηs ηs':List SB} {args:List SV} {res:SV} (hn:φ.Nodup) (hb:∀ j∈φ,j<J.length) (hp:yp3 φ J ηs) (hlen:φ.length<=ηs'.length) (h:vfe Γ P f ηs args ηs' res) :
 vfe Γ P f J (args.map (yo9 (atR φ J.length))) (putR φ J ηs') (rnSV (atR φ J.length) res):=by
 refine ⟨h.1,fun Mo ρ w vs hI hsr=>?_⟩;generalize hr:atR φ J.length=r at hsr ⊢
 have hlt:∀ i,i<φ.length->r i<J.length/\r i∈φ:=fun i hi=>by
  rw [<-hr,v84 (List.getElem?_eq_getElem hi)];exact ⟨hb _ (List.getElem_mem hi),List.getElem_mem hi⟩
 have hge:∀ i,φ.length<=i->J.length<=r i:=fun i hi=>by rw [<-hr,yy1 hi];omega
 have hun:∀ i,unR φ J.length (r i)=i:=fun i=>by rw [<-hr];exact zxj hn hb i
 have hinj:∀ i j,r i=r j->i=j:=fun i j e=>by rw [<-hun i,<-hun j,e]
 have hat:∀ i x,ηs[i]? = some x->J[r i]? = some (rnSB r x):=fun i x hx=>by
  obtain ⟨j,hj,hy⟩:=hp.2 i x hx;rw [hr] at hy;rw [<-hr,v84 hj,hr];exact hy
 have hsl:∀ i x,ηs[i]? = some x->i<φ.length:=fun i x hx=>by
  have:=(List.getElem?_eq_some_iff.1 hx).1
  rw [hp.1] at this;exact this
 have hget:∀ i,i<φ.length->∃ x,ηs[i]? = some x:=fun i hi=>⟨_,List.getElem?_eq_getElem (by rw [hp.1];exact hi)⟩
 have hphi:∀ j,j∈φ->∃ i,i<φ.length/\r i=j:=fun j hj=>by
  obtain ⟨i,hi,e⟩:=List.getElem_of_mem hj;exact ⟨i,hi,by rw [<-hr,v84 (List.getElem?_eq_getElem hi),e]⟩
 have R0:Rn r ηs (fun i=>ρ (r i)) J ρ:=⟨fun b ⟨x,hx,hf⟩=>⟨_,hat b x hx,fun e=>hf (zd2.1 e)⟩,fun b ⟨y,hy,hf⟩=>by
  have hbl:b<φ.length:=by
   rcases Nat.lt_or_ge b φ.length with h1 | h1
   . exact h1
   . have:=hge b h1
     rw [List.getElem?_eq_none this] at hy;cases hy
  obtain ⟨x,hx⟩:=hget b hbl
  have:=hat b x hx
  rw [hy] at this
  cases this
  exact ⟨x,hx,fun e=>hf (zd2.2 e)⟩,fun b=>rfl⟩
 let Mo':Nat->Nat->Prop:=fun b o=>Mo b o\/∃ j x,j∉φ/\J[j]? = some x/\x.mut o/\real (ρ j)/\bk (ρ j)=b
 have hM:MX Mo' (fun i=>ρ (r i)) ηs=MX Mo ρ J:=by
  funext b o
  apply propext;constructor
  . rintro ((hm | ⟨j,x,_,hx,hmut,hre,hbk⟩) | ⟨i,x,hx,hmut,hre,hbk⟩)
    . exact .inl hm
    . exact .inr ⟨j,x,hx,hmut,hre,hbk⟩
    . exact .inr ⟨_,_,hat i x hx,x71.2 hmut,hre,hbk⟩
  . rintro (hm | ⟨j,y,hy,hmut,hre,hbk⟩)
    . exact .inl (.inl hm)
    . by_cases hj:j∈φ
      . obtain ⟨i,hi,rfl⟩:=hphi j hj;obtain ⟨x,hx⟩:=hget i hi
        have:=hat i x hx
        rw [hy] at this;cases this;exact .inr ⟨i,x,hx,x71.1 hmut,hre,hbk⟩
      . exact .inl (.inr ⟨j,y,hj,hy,hmut,hre,hbk⟩)
 have hIs:HInv Γ Mo' (fun i=>ρ (r i)) ηs w:=by
  refine ⟨fun b o hm=>?_,fun i x hx=>?_,fun i j x y hx hy ho ho' hre hre' he=>?_,fun i x hx ho hre o hm=>?_,?_⟩
  . rcases hm with hm | ⟨j,x,_,hx,hmut,hre,rfl⟩
    . exact hI.bnd b o hm
    . exact (hI.blk j x hx).xeq (SB.v7h hmut) hre
  . rw [hM];exact (SBR.rn R0).1 (hI.blk _ _ (hat i x hx))
  . exact hinj i j (hI.inj _ _ _ _ (hat i x hx) (hat j y hy) (by rw [yq6];exact ho) (by rw [yq6];exact ho') hre hre' he)
  . rcases hm with hm | ⟨j,y,hj,hy,hmut,hre',he⟩
    . exact hI.sep _ _ (hat i x hx) (by rw [yq6];exact ho) hre o hm
    . have:=hI.inj _ _ _ _ hy (hat i x hx) (SB.v7h hmut) (by rw [yq6];exact ho) hre' hre he
      subst this;exact hj (hlt i (hsl i x hx)).2
  . rw [hM];exact hI.glob
 have hsr':SRL ηs (fun i=>ρ (r i)) (MX Mo' (fun i=>ρ (r i)) ηs) w vs args:=by rw [hM];exact (SRL.rn R0).1 hsr
 refine (h.2 Mo' _ w vs hIs hsr').mono ?_;rintro e w' ⟨v,ρs',rfl,hw,hv⟩
 let ρ':Nat->Value:=fun j=>if j∈φ\/J.length<=j then ρs' (unR φ J.length j) else ρ j
 have hρr:∀ i,ρ' (r i)=ρs' i:=fun i=>by
  show (if r i∈φ\/J.length<=r i then ρs' (unR φ J.length (r i)) else ρ (r i))=_;rw [if_pos,hun]
  rcases Nat.lt_or_ge i φ.length with h1 | h1
  . exact .inl (hlt i h1).2
  . exact .inr (hge i h1)
 have hρn:∀ j,j∉φ->j<J.length->ρ' j=ρ j:=fun j h1 h2=>if_neg (fun h=>h.elim h1 (fun h=>by omega))
 have L1:∀ i x,ηs'[i]? = some x->(putR φ J ηs')[r i]? = some (rnSB r x):=fun i x hx=>by rw [<-hr];exact y6r hn hb hx
 have L2:∀ j y,(putR φ J ηs')[j]? = some y->(∃ i x,j=r i/\ηs'[i]? = some x/\y=rnSB r x)\/(j∉φ/\j<J.length/\J[j]? = some y):=fun j y hy=>by
  rw [<-hr];exact vba hn hb hlen hy
 have L3:∀ j,j∉φ->j<J.length->(putR φ J ηs')[j]? = J[j]?:=fun j h1 h2=>xxa h2 h1
 have R1:Rn r ηs' ρs' (putR φ J ηs') ρ':=⟨fun b ⟨x,hx,hf⟩=>⟨_,L1 b x hx,fun e=>hf (zd2.1 e)⟩,fun b ⟨y,hy,hf⟩=>by
  rcases L2 _ y hy with ⟨i,x,hi,hx,rfl⟩ | ⟨h1,h2,_⟩
  . rw [hinj _ _ hi];exact ⟨x,hx,fun e=>hf (zd2.2 e)⟩
  . rcases Nat.lt_or_ge b φ.length with h3 | h3
    . exact absurd (hlt b h3).2 h1
    . exact absurd (hge b h3) (by omega),hρr⟩
 have hM':MX Mo' ρs' ηs'=MX Mo ρ' (putR φ J ηs'):=by
  funext b o
  apply propext;constructor
  . rintro ((hm | ⟨j,x,hj,hx,hmut,hre,hbk⟩) | ⟨i,x,hx,hmut,hre,hbk⟩)
    . exact .inl hm
    . have hjl:=(List.getElem?_eq_some_iff.1 hx).1;exact .inr ⟨j,x,by rw [L3 j hj hjl];exact hx,hmut,by rw [hρn j hj hjl];exact hre,by rw [hρn j hj hjl];exact hbk⟩
    . exact .inr ⟨_,_,L1 i x hx,x71.2 hmut,by rw [hρr];exact hre,by rw [hρr];exact hbk⟩
  . rintro (hm | ⟨j,y,hy,hmut,hre,hbk⟩)
    . exact .inl (.inl hm)
    . rcases L2 j y hy with ⟨i,x,rfl,hx,rfl⟩ | ⟨h1,h2,h3⟩
      . rw [hρr] at hre hbk;exact .inr ⟨i,x,hx,x71.1 hmut,hre,hbk⟩
      . rw [hρn j h1 h2] at hre hbk;exact .inl (.inr ⟨j,y,h1,h3,hmut,hre,hbk⟩)
 have hX:∀ k,Xb (fun i=>ρ (r i)) ηs k->Xb ρ J k:=fun k ⟨i,x,hx,ho,hre,hbk⟩=>⟨_,_,hat i x hx,by rw [yq6];exact ho,hre,hbk⟩
 have hnX:∀ j x,j∉φ->J[j]? = some x->x.own=true->real (ρ j)->¬Xb (fun i=>ρ (r i)) ηs (bk (ρ j)):=fun j x hj hx ho hre ⟨i,y,hy,hoy,hrey,hbk⟩=>by
  have:=hI.inj _ _ _ _ (hat i y hy) hx (by rw [yq6];exact hoy) ho hrey hre hbk
  subst this;exact hj (hlt i (hsl i y hy)).2
 have hmv:Mv J ρ (MX Mo ρ J) w (putR φ J ηs') ρ' (MX Mo ρ' (putR φ J ηs')) w':=by
  refine ⟨fun b hb'=>?_,fun b hb'=>?_,by rw [<-hM,<-hM'];exact hw.keep,hw.grow⟩
  . have hbl:=wnl hb';by_cases hj:b∈φ
    . obtain ⟨i,hi,rfl⟩:=hphi b hj;exact R1.ok i (hw.ok i (R0.back i hb'))
    . obtain ⟨x,hx,hf⟩:=hb';exact ⟨x,by rw [L3 b hj hbl];exact hx,hf⟩
  . have hbl:=wnl hb';by_cases hj:b∈φ
    . obtain ⟨i,hi,rfl⟩:=hphi b hj;rw [hρr];exact hw.rho i (R0.back i hb')
    . exact hρn b hj hbl
 have hfar:∀ j x i y,j∉φ->J[j]? = some x->x.own=true->real (ρ j)->ηs'[i]? = some y->y.own=true->real (ρs' i)->bk (ρ j)≠bk (ρs' i):=fun j x i y hj hx ho hre hy hoy hrey he=>by
  rcases hw.fresh (bk (ρs' i)) ⟨i,y,hy,hoy,hrey,rfl⟩ with h1 | h1
  . have:=(hI.blk j x hx).xeq ho hre
    omega
  . rw [<-he] at h1;exact hnX j x hj hx ho hre h1
 refine ⟨v,ρ',rfl,⟨hmv.ok,hmv.rho,hmv.keep,hw.grow,⟨fun b o hm=>Nat.lt_of_lt_of_le (hI.bnd b o hm) hw.size,fun j y hy=>?_,fun j k y z hy hz ho ho' hre hre' he=>?_,fun j y hy ho hre o hm=>?_,?_⟩,hw.size,hw.os,hw.tape,hw.output,fun k hk hx=>hw.frame k hk (fun h=>hx (hX k h)),fun k ⟨j,y,hy,ho,hre,hbk⟩=>?_⟩,?_⟩
 . rcases L2 j y hy with ⟨i,x,rfl,hx,rfl⟩ | ⟨h1,h2,h3⟩
   . rw [hρr,<-hM'];exact (SBR.rn R1).2 (hw.inv.blk i x hx)
   . rw [hρn j h1 h2];exact (hI.blk j y h3).mv hmv (fun ho hre=>hw.frame _ ((hI.blk j y h3).xeq ho hre) (hnX j y h1 h3 ho hre))
 . rcases L2 j y hy with ⟨i,x,rfl,hx,rfl⟩ | ⟨h1,h2,h3⟩<;>rcases L2 k z hz with ⟨i',x',rfl,hx',rfl⟩ | ⟨h1',h2',h3'⟩
   . rw [hρr] at hre he;rw [hρr] at hre' he;rw [yq6] at ho ho';rw [hw.inv.inj i i' x x' hx hx' ho ho' hre hre' he]
   . rw [hρr] at hre he;rw [hρn k h1' h2'] at hre' he;rw [yq6] at ho;exact absurd he.symm (hfar k z i x h1' h3' ho' hre' hx ho hre)
   . rw [hρn j h1 h2] at hre he;rw [hρr] at hre' he;rw [yq6] at ho';exact absurd he (hfar j y i' x' h1 h3 ho hre hx' ho' hre')
   . rw [hρn j h1 h2] at hre he;rw [hρn k h1' h2'] at hre' he;exact hI.inj j k y z h3 h3' ho ho' hre hre' he
 . rcases L2 j y hy with ⟨i,x,rfl,hx,rfl⟩ | ⟨h1,h2,h3⟩
   . rw [hρr] at hre hm;rw [yq6] at ho;exact hw.inv.sep i x hx ho hre o (.inl hm)
   . rw [hρn j h1 h2] at hre hm;exact hI.sep j y h3 ho hre o hm
 . rw [<-hM'];exact hw.inv.glob
 . rcases L2 j y hy with ⟨i,x,rfl,hx,rfl⟩ | ⟨h1,h2,h3⟩
   . rw [hρr] at hre hbk;rw [yq6] at ho
     rcases hw.fresh k ⟨i,x,hx,ho,hre,hbk⟩ with h4 | h4
     . exact .inl h4
     . exact .inr (hX k h4)
   . rw [hρn j h1 h2] at hre hbk;exact .inr ⟨j,y,h3,ho,hre,hbk⟩
 . rw [<-hM'];exact (SVR.rn R1).2 hv
inductive GhH where
 | join
 | own
 | clo
 | any (s:Nat)
 | room (n:Nat)
def x0d:List (Nat×List GhH)->Nat->List GhH
 | [],_=>[]
 | (i,l)::r,j=>bif i==j then l else x0d r j
def y7e:List GhH->Bool
 | []=>false
 | .join::_=>true
 | .own::r=>y7e r
 | .clo::r=>y7e r
 | .any _::r=>y7e r
 | .room _::r=>y7e r
def zfw:List GhH->Bool
 | []=>false
 | .own::_=>true
 | .join::r=>zfw r
 | .clo::r=>zfw r
 | .any _::r=>zfw r
 | .room _::r=>zfw r
def zfu:List GhH->Bool
 | []=>false
 | .clo::_=>true
 | .join::r=>zfu r
 | .own::r=>zfu r
 | .any _::r=>zfu r
 | .room _::r=>zfu r
def anyS:List GhH->List SV->List SV
 | [],I=>I
 | .any s::r,I=>anyS r (I.set s .any)
 | .join::r,I=>anyS r I
 | .own::r,I=>anyS r I
 | .clo::r,I=>anyS r I
 | .room _::r,I=>anyS r I
def zbd:Nat->List SB
 | 0=>[]
 | n+1=>.fresh::zbd n
def ygg:List GhH->List SB
 | []=>[.fresh]
 | .room n::_=>zbd n
 | .join::r=>ygg r
 | .own::r=>ygg r
 | .clo::r=>ygg r
 | .any _::r=>ygg r
theorem vbx:∀ n:Nat,zbd n=List.replicate n .fresh
 | 0=>rfl
 | n+1=>by rw [zbd,vbx n];rfl
theorem z5r:∀ g:List GhH,∃ n,ygg g=List.replicate n .fresh
 | []=>⟨1,rfl⟩
 | .room n::_=>⟨n,vbx n⟩
 | .join::r=>z5r r
 | .own::r=>z5r r
 | .clo::r=>z5r r
 | .any _::r=>z5r r
def nxtB (nb:Nat):List (Nat×SB)->Nat
 | []=>nb
 | p::r=>bif p.1==nb then nb+1 else nxtB nb r
def za7:List (Nat×List GhH)->Code->Bool
 | [],_=>false
 | g::G,y=>match wu4 y with
  | some id=>y7e (x0d (g::G) id)
  | none=>false
def BadO (_o:Op) (_σ:List SV) (_η:List SB):Prop:=False
def wpa (_c:Operand) (_σ:List SV):Prop:=False
def zge (Γ:List (Nat×List Cell)) (P:Program) (f:FuncId) (l:List AV) (J:List SB) (KD:Bool->AV->Prop) (KH:Bool->List SB->SV->Prop):Prop:=
 (∃ res,CallsD Γ P f l res/\KD true res)\/(∃ sl η2 res,zsa l=some sl/\vfe Γ P f J sl η2 res/\KH true η2 res)
def x0t (Γ:List (Nat×List Cell)) (P:Program) (f:FuncId) (J:List SB) (l:List SV) (K:Bool->List SB->SV->Prop):Prop:=∃ η2 res,vfe Γ P f J l η2 res/\K true η2 res
def z5y:SB->Bool
 | .clo _ _=>false
 | _=>true
def vi0 (Γ:List (Nat×List Cell)) (P:Program) (f:FuncId) (J:List SB) (l:List SV) (rh:List Nat) (heff:List (Nat×SB)) (res:SV):Prop:=
 (rh=List.range J.length/\vfe Γ P f J l (appL heff J) res)\/(∃ n,n<=J.length/\rh=List.range n/\heff=[]/\(J.drop n).all z5y=true/\∀ ξ,vfe Γ P f (J.take n++ξ) l (J.take n++ξ) res)
def x6s (Γ:List (Nat×List Cell)) (P:Program) (f:FuncId) (J:List SB) (l:List SV) (K:Bool->List Nat->List (Nat×SB)->SV->Prop):Prop:=∃ rh heff res,vi0 Γ P f J l rh heff res/\K true rh heff res
def FnKH (Γ:List (Nat×List Cell)) (P:Program) (p:(Nat->Nat->Prop)->World->Value->Prop) (args:List AV) (K:Bool->AV->Prop):Prop:=∃ F,p=wrb Γ P F/\∃ res,F args res/\K true res
def MkKH (Γ:List (Nat×List Cell)) (P:Program) (f:FuncId) (caps:List AV) (K:Bool->(List AV->AV->Prop)->Prop):Prop:=∃ F,wuj P f/\(∀ args res,F args res->CallsD Γ P f (args++caps) res)/\K true F
theorem v6l (h:CallsD Γ P f l res) (hk:KD true res):zge Γ P f l J KD KH:=.inl ⟨res,h,hk⟩
theorem xc5 {sl:List SV} {res:SV} (h:vfe Γ P f J sl η2 res) (hs:zsa l=some sl) (hk:KH true η2 res):zge Γ P f l J KD KH:=.inr ⟨sl,η2,res,hs,h,hk⟩
theorem xwg {l:List SV} {K:Bool->List SB->SV->Prop} {res:SV} (h:vfe Γ P f J l η2 res) (hk:K true η2 res):x0t Γ P f J l K:=⟨η2,res,h,hk⟩
theorem zjb (n:Nat) {l:List SV} {K:Bool->List Nat->List (Nat×SB)->SV->Prop} {res:SV} (h:∀ ξ,vfe Γ P f (J.take n++ξ) l (J.take n++ξ) res) (hn:Nat.ble n J.length=true) (hc:(J.drop n).all z5y=true) (hk:K true (List.range n) [] res):x6s Γ P f J l K:=⟨_,[],res,.inr ⟨n,by simpa using hn,rfl,rfl,hc,h⟩,hk⟩
theorem hfn {F:List AV->AV->Prop} {args:List AV} (h:F args res) (hk:K true res):FnKH Γ P (wrb Γ P F) args K:=⟨F,rfl,res,h,hk⟩
def resK (o:Oper) (I:List SV) (J:List SB) (b:Bool) (k:Bool->List SV->List SB->Prop):Option (SV×Option SB)->Prop
 | some (y,none)=>k b (appL (ylm o y) I) J
 | some (y,some x)=>k b (appL (ylm o y) I) (J++[x])
 | none=>BadO o.op I J
def v9k (o:Oper) (I:List SV) (J:List SB) (b:Bool) (k:Bool->List SV->List SB->Prop) (y:SV):Prop:=match o.dst with
 | some d=>k b (I.set d y) J
 | none=>BadO o.op I J
def doH (Γ:List (Nat×List Cell)) (P:Program) (x:HO) (o:Oper) (I:List SV) (J:List SB) (b:Bool) (k:Bool->List SV->List SB->Prop):Prop:=match x with
 | .eff _ _ e h none=>k b (appL e I) (appL h J)
 | .eff _ _ e h (some z)=>k b (appL e I) (appL h J++[z])
 | .callD f l _ _ bs=>zge Γ P f l (appL (frzE J bs) J) (fun b res=>resK o I (appL (frzE J bs) J) b k (resS J.length res)) (fun b η2 res=>k b (appL (ylm o res) I) η2)
 | .callF p l _ bs=>FnKH Γ P p l (fun b res=>resK o I (appL (frzE J bs) J) b k (resS J.length res))
 | .callH f l _=>x0t Γ P f J l (fun b η2 res=>k b (appL (ylm o res) I) η2)
 | .mk f caps _ bs=>MkKH Γ P f caps (fun b F=>k b (appL (ylm o (.one (.dat (.fnp (wrb Γ P F))))) I) (appL (frzE J bs) J))
 | .look r z ok _ _=>v9k o I J b k (wog ok r z)
 | .bad=>BadO o.op I J
def zwu (o:Oper) (I:List SV) (J:List SB) (b:Bool) (k:Bool->List SV->List SB->Prop):Prop:=k b (appL (ylm o .undef) I) J
def gdH (Γ:List (Nat×List Cell)) (P:Program) (lit fn:Bool) (g:GR) (o:Oper) (I:List SV) (J:List SB) (b:Bool) (k:Bool->List SV->List SB->Prop):Prop:=match g with
 | .plain=>doH Γ P (opF P Γ lit fn I J J.length o) o I J b k
 | .when _ c b'=>x4q c b' (fun b=>doH Γ P (opF P Γ lit fn I J J.length o) o I J b k) (fun b=>zwu o I J b k)
 | .skip _=>zwu o I J b k
 | .bad=>BadO o.op I J
theorem ye7 {k:Bool->List SV->List SB->Prop} (h:doH Γ P (opF P Γ lit fn I J J.length o) o I J b k):∃ b' σ2 η2,wfn Γ P o I J σ2 η2/\k b' σ2 η2:=by
 cases hr:opF P Γ lit fn I J J.length o with
 | eff rd rh e hf new=>
  have hs:=ya7 hr;rw [hr] at h
  cases new with
  | none=>exact ⟨_,_,_,yvu.p hs,h⟩
  | some x=>exact ⟨_,_,_,hs.2 rfl,h⟩
 | callD f l rd rh bs=>
  have hr':=v5r hr (by simp);rw [hr] at h
  rcases h with ⟨res,h1,h2⟩ | ⟨sl,η2,res,h0,h1,h2⟩
  . unfold resK at h2;split at h2
    . rename_i y hy;exact ⟨_,_,_,yvu.p (yr2 hr' h1 hy),h2⟩
    . rename_i y x hy;exact ⟨_,_,_,(yr2 hr' h1 hy).2 rfl,h2⟩
    . exact h2.elim
  . exact ⟨_,_,_,v4k hr' h0 h1,h2⟩
 | callF p l rd bs=>
  have hr':=v5r hr (by simp);rw [hr] at h;obtain ⟨F,rfl,res,h1,h2⟩:=h;unfold resK at h2;split at h2
  . rename_i y hy;exact ⟨_,_,_,yvu.p (xbd hr' h1 hy),h2⟩
  . rename_i y x hy;exact ⟨_,_,_,(xbd hr' h1 hy).2 rfl,h2⟩
  . exact h2.elim
 | callH f l rd=>
  have hr':=v5r hr (by simp);rw [hr] at h;obtain ⟨η2,res,h1,h2⟩:=h;exact ⟨_,_,_,(xod hr' h1).1,h2⟩
 | mk f caps rd bs=>
  have hr':=v5r hr (by simp);rw [hr] at h;obtain ⟨F,h0,h1,h2⟩:=h;exact ⟨_,_,_,(ya0 hr' h0 h1).p,h2⟩
 | look r z ok rd rh=>
  have hr':=v5r hr (by simp);rw [hr] at h;have h:v9k o I J b k (wog ok r z):=h;unfold v9k at h;split at h
  . rename_i d hd
    rcases vio hr' with h1 | h1
    . have he:ylm o (wog ok r z)=[(d,wog ok r z)]:=by unfold ylm;rw [hd]
      rw [he] at h1;exact ⟨_,_,_,h1.p,h⟩
    . rw [hd] at h1;cases h1
  . exact h.elim
 | bad=>rw [hr] at h;exact h.elim
theorem v8v {k:Bool->List SV->List SB->Prop} (h:gdH Γ P lit fn (znr ops.toList I o) o I J b k):∃ b' σ2 η2,GP Γ P ops o I J σ2 η2/\k b' σ2 η2:=by
 have hs:=wy8 (ops:=ops) (I:=I) (o:=o);unfold gdH at h;split at h
 . rename_i hg;obtain ⟨b',s,t,h1,h2⟩:=ye7 h;exact ⟨b',s,t,GP.plain (hs.1 hg) h1,h2⟩
 . rename_i d c b' hg;obtain ⟨j,h1,h2,h3⟩:=hs.2.1 d c b' hg;obtain ⟨hx,hy⟩:=h;by_cases hcb:c=b'
   . subst hcb;obtain ⟨b'',s,t,h4,h5⟩:=ye7 (hx rfl);exact ⟨b'',s,t,GP.taken h1 h2 h3 h4,h5⟩
   . have hn:c = !b':=by cases c<;>cases b'<;>simp_all
     exact ⟨_,_,_,GP.wae h1 h2 (.inl (by rw [h3,hn])),hy hn⟩
 . rename_i d hg;obtain ⟨j,b',h1,h2,h3⟩:=hs.2.2 d hg;exact ⟨_,_,_,GP.wae h1 h2 (.inr h3),h⟩
 . exact h.elim
def xsf (Γ:List (Nat×List Cell)) (P:Program) (lit fn:Bool) (ops:List Oper):Bool->List Oper->List SV->List SB->(Bool->List SV->List SB->Prop)->Prop
 | b,[],I,J,K=>K b I J
 | b,o::r,I,J,K=>gdH Γ P lit fn (znr ops I o) o I J b (fun b I J=>xsf Γ P lit fn ops b r I J K)
theorem xsf.run {lit fn:Bool} {ops:Array Oper}:∀(l:List Oper) (b:Bool) (I:List SV) (J:List SB) (K:Bool->List SV->List SB->Prop),xsf Γ P lit fn ops.toList b l I J K->RunP Γ P ops l I J (fun I J=>∃ b,K b I J)
 | [],b,_,_,_,h=>⟨b,h⟩
 | o::r,b,I,J,K,h=>by
  unfold xsf at h;obtain ⟨b',σ2,η2,h1,h2⟩:=v8v h;exact ⟨_,_,h1,xsf.run r b' _ _ K h2⟩
def resG (o:Oper) (I:List SV) (J:List SB) (nb:Nat) (rd rh bs:List Nat) (b:Bool) (k:Bool->List Nat->List Nat->List (Nat×SV)->List (Nat×SB)->Prop):Option (SV×Option SB)->Prop
 | some (y,none)=>k b rd (rh++bs) (ylm o y) (frzE J bs)
 | some (y,some x)=>xvh J nb=true/\k b rd (nb::(rh++bs)) (ylm o y) (frzE J bs++[(nb,x)])
 | none=>BadO o.op I J
def vzl (o:Oper) (I:List SV) (J:List SB) (rd rh:List Nat) (b:Bool) (k:Bool->List Nat->List Nat->List (Nat×SV)->List (Nat×SB)->Prop) (y:SV):Prop:=match o.dst with
 | some d=>k b rd rh [(d,y)] []
 | none=>BadO o.op I J
def doG (Γ:List (Nat×List Cell)) (P:Program) (x:HO) (o:Oper) (I:List SV) (J:List SB) (nb:Nat) (b:Bool) (k:Bool->List Nat->List Nat->List (Nat×SV)->List (Nat×SB)->Prop):Prop:=match x with
 | .eff rd rh e h none=>k b rd rh e h
 | .eff rd rh e h (some z)=>xvh J nb=true/\k b rd (nb::rh) e (h++[(nb,z)])
 | .callD f l rd rh bs=>∃ res,CallsD Γ P f l res/\resG o I J nb rd rh bs true k (resS nb res)
 | .callF p l rd bs=>FnKH Γ P p l (fun b res=>resG o I J nb rd [] bs b k (resS nb res))
 | .callH f l rd=>x6s Γ P f J l (fun b rh heff res=>k b rd rh (ylm o res) heff)
 | .mk f caps rd bs=>MkKH Γ P f caps (fun b F=>k b rd bs (ylm o (.one (.dat (.fnp (wrb Γ P F))))) (frzE J bs))
 | .look r z ok rd rh=>vzl o I J rd rh b k (wog ok r z)
 | .bad=>BadO o.op I J
def w8m (Γ:List (Nat×List Cell)) (P:Program) (f:FuncId) (l:List AV) (K:Bool->AV->Prop):Prop:=∃ res,CallsD Γ P f l res/\K true res
theorem vgi (h:CallsD Γ P f l res) (hk:K true res):w8m Γ P f l K:=⟨res,h,hk⟩
theorem hcA {η:List SB} (hk:KD true res) (h:CallsD Γ P f l res:=by assumption):zge Γ P f l η KD KH:=v6l h hk
theorem hcB (hk:K true res) (h:CallsD Γ P f l res:=by assumption):w8m Γ P f l K:=vgi h hk
def onG (d:Nat) (k:Bool->List Nat->List Nat->List (Nat×SV)->List (Nat×SB)->Prop) (b:Bool) (rd rh:List Nat) (e:List (Nat×SV)) (h:List (Nat×SB)):Prop:=k b (d::rd) rh e h
def zxi (d:Nat) (o:Oper) (b:Bool) (k:Bool->List Nat->List Nat->List (Nat×SV)->List (Nat×SB)->Prop):Prop:=k b (d::v9o o) [] (ylm o .undef) []
def gdG (Γ:List (Nat×List Cell)) (P:Program) (lit fn:Bool) (nb:Nat) (g:GR) (o:Oper) (I:List SV) (J:List SB) (b:Bool) (k:Bool->List Nat->List Nat->List (Nat×SV)->List (Nat×SB)->Prop):Prop:=match g with
 | .plain=>doG Γ P (opF P Γ lit fn I J nb o) o I J nb b k
 | .when d c b'=>x4q c b' (fun b=>doG Γ P (opF P Γ lit fn I J nb o) o I J nb b (onG d k)) (fun b=>zxi d o b k)
 | .skip d=>zxi d o b k
 | .bad=>BadO o.op I J
theorem v9t {x:Operand} {xs:List Operand} {ts:Array TypeId} (ho:o.op=.call { callee:=.value x,args:=xs.toArray,argTypes:=ts }) {n:Nat}
 (hc:wq8 Γ I J x=some (f,caps,rd,rh)) (hrh:∀ b∈rh,b<n) (hn:n<=J.length) (hnt:vtv (wb2 Γ I xs)=true) {res:SV} (v6l:∀ ξ,vfe Γ P f (J.take n++ξ) (wb2 Γ I xs++caps) (J.take n++ξ) res) :
 yvu Γ P o I J (v9o o++rd++orrL xs) (List.range n) (ylm o res) []:=by
 intro E ρ I' J' a w hag hah hI K Q hK
 have hge:∀ b,b<n->J'[b]? = J[b]?:=fun b hb=>hah.2 b (by simpa using hb)
 have hgb:∀ b,b<n->gB J' b=gB J b:=fun b hb=>by unfold gB;rw [hge b hb]
 have hη:J'=J.take n++J'.drop n:=by
  apply List.ext_getElem?;intro i;have hl:=hah.1;by_cases hi:i<n
  . rw [hge i hi,List.getElem?_append_left (by rw [List.length_take];omega),List.getElem?_take,if_pos hi]
  . rw [List.getElem?_append_right (by rw [List.length_take];omega),List.length_take,List.getElem?_drop]
    congr 1
    omega
 have hc':=wro hc (fun t ht=>hag.2 t (by simp [ht])) (fun b hb=>hgb b (hrh b hb));have hargs:=xwe (Γ:=Γ) hag xs (fun t ht=>by simp [ht]);have hcall':=v6l (J'.drop n);rw [<-hη] at hcall'
 have:=wtf (o:=o) (I:=I') (J:=J') ho hc' (by rw [hargs];exact hnt) (by rw [hargs];exact hcall')
 exact this E ρ a w hI K Q hK
theorem y0d {x : Operand} (h : wq8 Γ I J x = some (f, caps, rd, rh)) : ∀ b ∈ rh, z5y (gB J b) = false := by
 unfold wq8 at h;split at h
 . cases h;intro b hb;cases hb
 . split at h
   . obtain ⟨f',hf,he⟩:=Option.map_eq_some_iff.1 h;cases he;intro b hb;cases hb
   . split at h
     . rename_i hg
       cases h;intro b hb;rw [List.mem_singleton.1 hb,hg];rfl
     . cases h
   . cases h
 . cases h
theorem wqh {l:List SV} (h:opH P Γ lit fn I J nb o=.callH f l rd) {n:Nat} (hn:n<=J.length) (hclo:(J.drop n).all z5y=true) {res:SV} (hc:∀ ξ,vfe Γ P f (J.take n++ξ) l (J.take n++ξ) res):yvu Γ P o I J rd (List.range n) (ylm o res) []:=by
 obtain ⟨x,xs,ts,ho⟩:=vz0 h (.inr (.inr ⟨_,_,_,rfl⟩));rw [x5a ho] at h
 have ho':o.op=.call { callee:=.value x,args:=xs.toList.toArray,argTypes:=ts }:=by rw [ho]
 have hG : ∀ {f' : FuncId} {caps : List SV} {rd' rh' : List Nat}, wq8 Γ I J x = some (f', caps, rd', rh') → zbg.callG Γ I J o xs.toList f' caps rd' rh' = .callH f l rd → yvu Γ P o I J rd (List.range n) (ylm o res) [] := fun {f' caps rd' rh'} hcal hg => by
  have hrh:∀ b∈rh',b<n:=fun b hb=>by
   have h1:=y0d hcal b hb
   rcases Nat.lt_or_ge b n with h2 | h2
   . exact h2
   . exfalso
     have:z5y (gB J b)=true:=by
      unfold gB;by_cases hl:b<J.length
      . rw [List.getElem?_eq_getElem hl]
        have hm:J[b]∈J.drop n:=by
         rw [List.mem_drop_iff_getElem];exact ⟨b-n,by omega,by congr 1;omega⟩
        exact List.all_eq_true.1 hclo _ hm
      . rw [List.getElem?_eq_none (by omega)];rfl
     rw [this] at h1;cases h1
  unfold zbg.callG at hg;split at hg
  . cases hg
  . split at hg
    . rename_i hnt
      cases hg;exact v9t ho' hcal hrh hn hnt hc
    . cases hg
 unfold zbg at h;split at h
 . split at h
   . split at h
     . unfold vO at h;repeat' split at h
       all_goals cases h
     . cases h
   . exact hG rfl h
 . rename_i t;split at h
   . split at h<;>cases h
   . split at h
     . rename_i f' caps rd' rh' hcal;exact hG hcal h
     . cases h
 . cases h
theorem z6n (h:doG Γ P (opF P Γ lit fn I J nb o) o I J nb b k):∃ b' rd rh e hf,yvu Γ P o I J rd rh e hf/\k b' rd rh e hf:=by
 cases hr:opF P Γ lit fn I J nb o with
 | eff rd rh e hf new=>
  have hs:=ya7 hr;rw [hr] at h
  cases new with
  | none=>exact ⟨_,_,_,_,_,hs,h⟩
  | some x=>exact ⟨_,_,_,_,_,hs.1 h.1,h.2⟩
 | callD f l rd rh bs=>
  have hr':=v5r hr (by simp);rw [hr] at h;obtain ⟨res,h1,h2⟩:=h;unfold resG at h2;split at h2
  . rename_i y hy;exact ⟨_,_,_,_,_,yr2 hr' h1 hy,h2⟩
  . rename_i y x hy;exact ⟨_,_,_,_,_,(yr2 hr' h1 hy).1 h2.1,h2.2⟩
  . exact h2.elim
 | callF p l rd bs=>
  have hr':=v5r hr (by simp);rw [hr] at h;obtain ⟨F,rfl,res,h1,h2⟩:=h;unfold resG at h2;split at h2
  . rename_i y hy;exact ⟨_,_,_,_,_,xbd hr' h1 hy,h2⟩
  . rename_i y x hy;exact ⟨_,_,_,_,_,(xbd hr' h1 hy).1 h2.1,h2.2⟩
  . exact h2.elim
 | callH f l rd=>
  have hr':=v5r hr (by simp);rw [hr] at h;obtain ⟨rh,heff,res,h1,h2⟩:=h
  rcases h1 with ⟨rfl,h1⟩ | ⟨n,hn,rfl,rfl,hc,h1⟩
  . exact ⟨_,_,_,_,_,(xod hr' h1).2 _ rfl,h2⟩
  . exact ⟨_,_,_,_,_,wqh hr' hn hc h1,h2⟩
 | mk f caps rd bs=>
  have hr':=v5r hr (by simp);rw [hr] at h;obtain ⟨F,h0,h1,h2⟩:=h;exact ⟨_,_,_,_,_,ya0 hr' h0 h1,h2⟩
 | look r z ok rd rh=>
  have hr':=v5r hr (by simp);rw [hr] at h;have h:vzl o I J rd rh b k (wog ok r z):=h;unfold vzl at h;split at h
  . rename_i d hd
    rcases vio hr' with h1 | h1
    . have he:ylm o (wog ok r z)=[(d,wog ok r z)]:=by unfold ylm;rw [hd]
      rw [he] at h1;exact ⟨_,_,_,_,_,h1,h⟩
    . rw [hd] at h1;cases h1
  . exact h.elim
 | bad=>rw [hr] at h;exact h.elim
theorem wso (h:gdG Γ P lit fn nb (znr ops.toList I o) o I J b k):∃ b' rd rh e hf,GH Γ P ops o I J rd rh e hf/\k b' rd rh e hf:=by
 have hs:=wy8 (ops:=ops) (I:=I) (o:=o);unfold gdG at h;split at h
 . rename_i hg;obtain ⟨b',rd,rh,e,hf,h1,h2⟩:=z6n h;exact ⟨b',_,_,_,_,GH.plain (hs.1 hg) h1,h2⟩
 . rename_i d c b' hg;obtain ⟨j,h1,h2,h3⟩:=hs.2.1 d c b' hg;obtain ⟨hx,hy⟩:=h;by_cases hcb:c=b'
   . subst hcb;obtain ⟨b'',rd,rh,e,hf,h4,h5⟩:=z6n (hx rfl);exact ⟨b'',_,_,_,_,GH.taken h1 h2 h3 h4,h5⟩
   . have hn:c = !b':=by cases c<;>cases b'<;>simp_all
     exact ⟨_,_,_,_,_,GH.wae h1 h2 (.inl (by rw [h3,hn])),hy hn⟩
 . rename_i d hg;obtain ⟨j,b',h1,h2,h3⟩:=hs.2.2 d hg;exact ⟨_,_,_,_,_,GH.wae h1 h2 (.inr h3),h⟩
 . exact h.elim
def ybj (ops:List Oper) (acc:List HR) (k:Bool->Prop):Prop:=wfm ops acc=true/\k true
theorem hind {ops:List Oper} {acc:List HR} {k:Bool->Prop} (h:wfm ops acc=true) (hk:k true):ybj ops acc k:=⟨h,hk⟩
def xci (Γ:List (Nat×List Cell)) (P:Program) (lit fn:Bool):Nat->List Oper->Bool->List Oper->List HR->List SV->List SB->(Bool->List SV->List SB->Prop)->Prop
 | _,ops,_,[],acc,I,J,K=>ybj ops acc (fun b=>K b I J)
 | nb,ops,b,o::r,acc,I,J,K=>gdG Γ P lit fn nb (znr ops I o) o I J b (fun b rd rh e h=>xci Γ P lit fn (nxtB nb h) ops b r (acc++[⟨rd,rh,e,h⟩]) (appL e I) (appL h J) K)
theorem xci.runD {lit fn:Bool} {ops:Array Oper}:∀(l:List Oper) (nb:Nat) (b:Bool) (acc:List HR) (I:List SV) (J:List SB) (K:Bool->List SV->List SB->Prop),xci Γ P lit fn nb ops.toList b l acc I J K->xgw Γ P ops ops.toList l acc I J (fun I J=>∃ b,K b I J)
 | [],_,b,_,_,_,_,h=>⟨h.1,true,h.2⟩
 | o::r,nb,b,acc,I,J,K,h=>by
  unfold xci at h;obtain ⟨b',rd,rh,e,hf,h1,h2⟩:=wso h;exact ⟨_,_,_,_,h1,xci.runD r _ b' _ _ _ K h2⟩
def wck (next:Bool->List SV->List SB->Prop) (Q:Exit->Bool->List SV->List SB->Prop):Exit->Bool->List SV->List SB->Prop
 | .normal=>next
 | .exit id=>Q (.exit id)
 | .goto l=>Q (.goto l)
 | .ret=>Q .ret
 | .panic c=>Q (.panic c)
 | .outgrown=>Q .outgrown
def v4t (id:Nat) (Q:Exit->Bool->List SV->List SB->Prop):Exit->Bool->List SV->List SB->Prop
 | .normal=>Q .normal
 | .exit j=>if j=id then Q .normal else Q (.exit j)
 | .goto l=>Q (.goto l)
 | .ret=>Q .ret
 | .panic c=>Q (.panic c)
 | .outgrown=>Q .outgrown
def outH (Q:Exit->Bool->List SV->List SB->Prop):Exit->List SV->List SB->Prop:=fun e I J=>∃ b,Q e b I J
def zzk (Γ:List (Nat×List Cell)) (P:Program) (e:List SB) (_G:List (Nat×List GhH)) (c:Code) (Q:Exit->Bool->List SV->List SB->Prop) (I:List SV) (J:List SB):Prop:=x2l Γ P e (.loop c) (outH Q) I J
def vaf (Γ:List (Nat×List Cell)) (P:Program) (e:List SB) (_G:List (Nat×List GhH)) (x y:Code) (Q:Exit->Bool->List SV->List SB->Prop) (I:List SV) (J:List SB):Prop:=x2l Γ P e (.seq x y) (outH Q) I J
def vk0 (P:Program) (k:Bool->Prop):Prop:=P.follows .mixedOrders=true/\k true
def zcn (c:Operand) (I:List SV) (X Y:Bool->Prop):SV->Prop
 | .one (.dat (.raw (.bool p)))=>x29 p X Y
 | _=>wpa c I
def wxc (n:Nat) (k:Bool->List SV->List SB->Prop) (b:Bool) (I:List SV) (J:List SB):Prop:=k b I (vo2 n J)
def RH (Γ:List (Nat×List Cell)) (P:Program) (e:List SB) (G:List (Nat×List GhH)):Code->Bool->(Exit->Bool->List SV->List SB->Prop)->List SV->List SB->Prop
 | .skip,b,Q,I,J=>Q .normal b I J
 | .region id ops false,b,Q,I,J=>xsf Γ P (!(zfw (x0d G id))) (!(zfu (x0d G id))) ops.toList b ops.toList (anyS (x0d G id) I) J (Q .normal)
 | .region id ops true,b,Q,I,J=>vk0 P (fun _=>xci Γ P (!(zfw (x0d G id))) (!(zfu (x0d G id))) J.length ops.toList b ops.toList [] (anyS (x0d G id) I) (J++ygg (x0d G id)) (wxc J.length (Q .normal)))
 | .seq x y,b,Q,I,J=>seqF (za7 G y) (fun _=>vaf Γ P e G x y Q I J) (fun _=>RH Γ P e G x b (wck (fun b I J=>RH Γ P e G y b Q I J) Q) I J)
 | .cond c x y,_,Q,I,J=>zcn c I (fun b=>RH Γ P e G x b Q I J) (fun b=>RH Γ P e G y b Q I J) (opdS Γ I c)
 | .block id x,b,Q,I,J=>RH Γ P e G x b (v4t id Q) I J
 | .loop x,_,Q,I,J=>zzk Γ P e G x Q I J
 | .exit id,b,Q,I,J=>Q (.exit id) b I J
 | .ret,b,Q,I,J=>Q .ret b I J
 | .label _,b,Q,I,J=>Q .normal b I J
 | .scope x,b,Q,I,J=>RH Γ P e G x b (fun x=>match x with
  | .goto _=>fun _ _ _=>False
  | x=>Q x) I J
 | _,_,_,_,_=>False
variable {e:List SB} {G:List (Nat×List GhH)}
theorem vma.refl:∀ l:List SV,vma l l
 | []=>.nil
 | x::l=>.cons (.refl x) (vma.refl l)
theorem StH.anyS {e:List SB} {J:List SB}:∀(g:List GhH) (I:List SV),StH Γ e I J (anyS g I) J
 | [],_=>StH.refl
 | .any s::r,I=>by
  refine StH.trans (StH.wph (I':=I.set s .any) ?_) (StH.anyS r _);clear e J r
  induction I generalizing s with
  | nil=>exact .nil
  | cons x I ih=>
   cases s with
   | zero=>exact .cons (.any _) (vma.refl I)
   | succ s=>exact .cons (.refl _) (ih s)
 | .join::r,I=>StH.anyS r I
 | .own::r,I=>StH.anyS r I
 | .clo::r,I=>StH.anyS r I
 | .room _::r,I=>StH.anyS r I
theorem StH.wvh (g:List GhH):StH Γ e I J I (J++ygg g):=fun _ ρ _ _ _ h=>by
 obtain ⟨n,hn⟩:=z5r g;rw [hn];exact ⟨ρ,h.go (Went.extend h.inv n)⟩
theorem x3s {h:List SB} (n:Nat):StH Γ e I h I (vo2 n h):=by
 unfold vo2
 split
 . rename_i hd
   have he:h=h.take n++[.fresh]:=by rw [<-hd,List.take_append_drop]
   intro E ρ a w hE hI;rw [he] at hI;exact StH.zjd E ρ a w hE hI
 . exact StH.refl
theorem RH.sound:∀(c:Code) (b:Bool) (Q:Exit->Bool->List SV->List SB->Prop) (I:List SV) (J:List SB),RH Γ P e G c b Q I J->x2l Γ P e c (outH Q) I J:=by
 intro c
 induction c with
 | skip=>intro b Q I J h;exact wi5 ⟨b,h⟩
 | region id ops dr=>
  intro b Q I J h
  cases dr with
  | false=>exact x2l.le (StH.anyS _ _) (xj9 (xsf.run _ b _ _ _ h))
  | true=>
   have h':=xci.runD _ _ b [] _ _ _ h.2;refine x2l.le (StH.trans (StH.anyS (x0d G id) I) (StH.wvh (x0d G id))) (x2l.post (ybc (Q:=fun x s t=>x=.normal/\(∃ b,wxc J.length (Q .normal) b s t)) h.1 ?_) ?_)
   . have mono:∀(l:List Oper) (acc:List HR) (s:List SV) (t:List SB) (K K':List SV->List SB->Prop),(∀ s t,K s t->K' s t)->xgw Γ P ops ops.toList l acc s t K->xgw Γ P ops ops.toList l acc s t K':=by
      intro l
      induction l with
      | nil=>intro acc s t K K' hk h;exact ⟨h.1,hk _ _ h.2⟩
      | cons o r ih=>
       intro acc s t K K' hk ⟨rd,rh,ef,hf,h1,h2⟩;exact ⟨rd,rh,ef,hf,h1,ih _ _ _ _ _ hk h2⟩
     exact mono _ _ _ _ _ _ (fun s t hst=>⟨rfl,hst⟩) h'
   . rintro x s t ⟨rfl,⟨b',hb⟩⟩;exact ⟨s,vo2 J.length t,x3s _,b',hb⟩
 | seq x y ihx ihy=>
  intro b Q I J h;have h:seqF (za7 G y) (fun _=>vaf Γ P e G x y Q I J) (fun _=>RH Γ P e G x b (wck (fun b I J=>RH Γ P e G y b Q I J) Q) I J):=h
  cases hj:za7 G y with
  | true=>rw [hj] at h;exact h
  | false=>
  rw [hj] at h;have h:RH Γ P e G x b (wck (fun b I J=>RH Γ P e G y b Q I J) Q) I J:=h;refine v79 ((ihx b _ I J h).mono ?_);intro ex I' J' ⟨b',h'⟩
  cases ex with
  | normal=>exact ihy b' Q I' J' h'
  | _=>exact ⟨b',h'⟩
 | cond c x y ihx ihy=>
  intro b Q I J h;have h:zcn c I (fun b=>RH Γ P e G x b Q I J) (fun b=>RH Γ P e G y b Q I J) (opdS Γ I c):=h;unfold zcn at h;split at h
  . rename_i p hp;exact x3a hp (fun hb=>ihx _ _ _ _ (h.1 hb)) (fun hb=>ihy _ _ _ _ (h.2 hb))
  . exact h.elim
 | block id x ih=>
  intro b Q I J h;refine zol ((ih b _ I J h).mono ?_);intro ex I' J' ⟨b',h'⟩
  cases ex with
  | exit j=>
   show ync id (outH Q) (.exit j) I' J';unfold v4t at h';unfold ync;simp only at h' ⊢;split at h'
   . rename_i hj;simp only [hj];exact ⟨b',h'⟩
   . rename_i hj;simp only [hj];exact ⟨b',h'⟩
  | _=>exact ⟨b',h'⟩
 | loop x ih=>intro b Q I J h;exact h
 | exit id=>intro b Q I J h;exact zft ⟨b,h⟩
 | ret=>intro b Q I J h;exact vsa ⟨b,h⟩
 | label l=>intro b Q I J h;exact fun _ ρ _ _ _ hR=>wp_label ⟨_,_,ρ,⟨b,h⟩,hR⟩
 | scope x ih=>
  intro b Q I J h E ρ a w hE hR;refine wp_scope_straight (wp_mono (ih b _ I J h E ρ a w hE hR) ?_);rintro y b' w' ⟨s,t,ρ',⟨b2,h2⟩,hR'⟩
  cases y with
  | goto l=>exact h2.elim
  | _=>exact ⟨_,_,ρ',⟨b2,h2⟩,hR'⟩
 | _=>intro b Q I J h;exact h.elim
end Go.Hp
namespace Go.Hp
open Go Go.RowKit Go.Slot
variable {P:Program} {Γ:List (Nat×List Cell)} {e:List SB} {G:List (Nat×List GhH)}
variable {J J' e η1:List SB} {res av:AV} {o:Oper} {f:FuncId} {fn c' b lit b':Bool} {Q:Exit->Bool->List SV->List SB->Prop} {I I' l:List SV} {α:Type} {x a:SV} {y K:Bool->List SV->List SB->Prop} {A:Bool->Bool->Prop} {rh rd bs:List Nat} {h:List (Nat×SB)} {id nb:Nat} {ops:List Oper} {X Y:Bool->Prop} {rs:List ResultVar} {x':HO}
def chS (a0 a1 a2 a3 a4 a5 a6 a7 a8 a9 a10 a11 a12 a13 a14 a15:SV) (r:List SV):List SV:=a0::a1::a2::a3::a4::a5::a6::a7::a8::a9::a10::a11::a12::a13::a14::a15::r
def wq1:List SV->List SV
 | a0::a1::a2::a3::a4::a5::a6::a7::a8::a9::a10::a11::a12::a13::a14::a15::r=>chS a0 a1 a2 a3 a4 a5 a6 a7 a8 a9 a10 a11 a12 a13 a14 a15 (wq1 r)
 | l=>l
theorem vva:∀ l:List SV,wq1 l=l
 | []=>rfl
 | [a0]=>rfl
 | [a0,a1]=>rfl
 | [a0,a1,a2]=>rfl
 | [a0,a1,a2,a3]=>rfl
 | [a0,a1,a2,a3,a4]=>rfl
 | [a0,a1,a2,a3,a4,a5]=>rfl
 | [a0,a1,a2,a3,a4,a5,a6]=>rfl
 | [a0,a1,a2,a3,a4,a5,a6,a7]=>rfl
 | [a0,a1,a2,a3,a4,a5,a6,a7,a8]=>rfl
 | [a0,a1,a2,a3,a4,a5,a6,a7,a8,a9]=>rfl
 | [a0,a1,a2,a3,a4,a5,a6,a7,a8,a9,a10]=>rfl
 | [a0,a1,a2,a3,a4,a5,a6,a7,a8,a9,a10,a11]=>rfl
 | [a0,a1,a2,a3,a4,a5,a6,a7,a8,a9,a10,a11,a12]=>rfl
 | [a0,a1,a2,a3,a4,a5,a6,a7,a8,a9,a10,a11,a12,a13]=>rfl
 | [a0,a1,a2,a3,a4,a5,a6,a7,a8,a9,a10,a11,a12,a13,a14]=>rfl
 | a0::a1::a2::a3::a4::a5::a6::a7::a8::a9::a10::a11::a12::a13::a14::a15::r=>by
  show chS a0 a1 a2 a3 a4 a5 a6 a7 a8 a9 a10 a11 a12 a13 a14 a15 (wq1 r)=_;rw [vva r];rfl
def endD (res:AV):Option (AV×List Nat)->Prop
 | some (av,_)=>RLe av res
 | none=>False
def endR (J:List SB) (res:AV):Option SV->Prop
 | some x=>endD res (wle J x)
 | none=>False
theorem wk3 {o:Option SV} (h:endR J res o):∃ x av bs,o=some x/\wle J x=some (av,bs)/\RLe av res:=by
 cases o with
 | none=>exact h.elim
 | some x=>
  have h:endD res (wle J x):=h;unfold endD at h;split at h
  . rename_i av bs hd;exact ⟨x,av,bs,rfl,hd,h⟩
  . exact h.elim
def whz (P:Program) (rs:List ResultVar) (res:AV):Exit->Bool->List SV->List SB->Prop
 | .ret,_,I,J | .normal,_,I,J=>endR J res (zf4 P I J rs)
 | _,_,_,_=>False
theorem CallsD.run (G:List (Nat×List GhH)) {fn:Func} {c:Code} {args:List AV} {sl:List SV} (hf:P.funcs[f]? = some fn) (hb:fn.body=some c) (hname:(fn.name == "runtime.NumGoroutine")=false) (ha:zsa args=some sl)
 (h:RH Γ P [] G c true (whz P fn.results.toList res) (wq1 (sl++List.replicate (fn.ntmps-sl.length) .undef)) []):CallsD Γ P f args res:=by
 rw [vva] at h;refine CallsD.of hf hb hname ha ((RH.sound c true _ _ _ h).mono ?_);intro ex I J ⟨b,h⟩
 cases ex with
 | normal=>exact wk3 h
 | ret=>exact wk3 h
 | _=>exact h.elim
def endH (Γ:List (Nat×List Cell)) (e J:List SB) (J':List SB) (res:SV):Option SV->Prop
 | some x=>StH Γ e [x] J [res] J'
 | none=>False
def xqu (Γ:List (Nat×List Cell)) (P:Program) (e:List SB) (rs:List ResultVar) (J':List SB) (res:SV):Exit->Bool->List SV->List SB->Prop
 | .ret,_,I,J | .normal,_,I,J=>endH Γ e J J' res (zf4 P I J rs)
 | _,_,_,_=>False
theorem zvk {res:SV} {o:Option SV} (h:endH Γ e J J' res o):∃ x,o=some x/\StH Γ e [x] J [res] J':=by
 cases o with
 | none=>exact h.elim
 | some x=>exact ⟨x,rfl,h⟩
theorem vfe.run (G:List (Nat×List GhH)) {fn:Func} {c:Code} {args:List SV} {res:SV} (hf:P.funcs[f]? = some fn) (hb:fn.body=some c) (hname:(fn.name == "runtime.NumGoroutine")=false)
 (h:RH Γ P J G c true (xqu Γ P J fn.results.toList J' res) (wq1 (args++List.replicate (fn.ntmps-args.length) .undef)) J):vfe Γ P f J args J' res:=by
 rw [vva] at h;refine vfe.of hf hb hname ((RH.sound c true _ _ _ h).mono ?_);intro ex I η1 ⟨b,h⟩
 cases ex with
 | normal=>exact zvk h
 | ret=>exact zvk h
 | _=>exact h.elim
theorem CallsD.le {f:FuncId} {args:List AV} {res res':AV} (h:CallsD Γ P f args res) (hle:RLe res res'):CallsD Γ P f args res':=
 ⟨h.1,fun M w vs hM hg hr=>(h.2 M w vs hM hg hr).mono (fun _ _ ⟨v,h1,h2,h3,h4⟩=>⟨v,h1,h2,h3.le hle,fun hh=>h4 (hle.vy8 hh)⟩)⟩
theorem vyv.le {c:Code} {Q:Exit->List SV->List SB->Prop} (h:StH Γ e I J I' J') (hc:vyv Γ P e c Q I' J'):vyv Γ P e c Q I J:=fun E ρ a w hE hR=>by
 obtain ⟨ρ',hR'⟩:=h E ρ a w hE hR;exact hc E ρ' a w hE hR'
theorem vyv.fam {α : Type} {c : Code} {Q : Exit → List SV → List SB → Prop} (invS : α → List SV) (invH : α → List SB) (pre : α → Prop) (μ : α → Nat)
 (round:∀ x,pre x->x2l Γ P e c (y90 (fun I' J'=>∃ y,pre y/\μ y<μ x/\StH Γ e I' J' (invS y) (invH y)) Q) (invS x) (invH x)):∀(n:Nat) (x:α),μ x<n->pre x->vyv Γ P e c Q (invS x) (invH x)
 | 0,_,h,_=>absurd h (Nat.not_lt_zero _)
 | n + 1, x, h, hx => vyv.round ((round x hx).mono (fun ex I J hq => by
  cases ex with
  | normal=>
   obtain ⟨y,h1,h2,h3⟩:=hq;exact vyv.le h3 (vyv.fam invS invH pre μ round n y (by omega) h1)
  | _=>exact hq))
theorem y55 {c:Code} (keep:List Nat) (ch:α->List (Nat×SV)) (hp:α->List SB) (pre:α->Prop) (μ:α->Nat) (x0:α) (h0:pre x0)
 (hle:StH Γ e I J (appL (ch x0) (wue keep 0 I)) (hp x0))
 (round:∀ x,pre x->RH Γ P e G c true (wck (hide (fun _ I' J'=>∃ y,pre y/\μ y<μ x/\StH Γ e I' J' (appL (ch y) (wue keep 0 I)) (hp y)) ()) Q) (wq1 (appL (ch x) (wue keep 0 I))) (hp x)):zzk Γ P e G c Q I J:=
 x2l.le hle (vyv.loop (vyv.fam (fun x=>appL (ch x) (wue keep 0 I)) hp pre μ (fun x hx=>(RH.sound c true _ _ _ (vva (appL (ch x) (wue keep 0 I))▸round x hx)).mono (fun ex I' J' ⟨b,h⟩=>by
  cases ex with
  | normal=>exact h
  | _=>exact ⟨b,h⟩)) _ x0 (Nat.lt_succ_self _) h0))
def weu (Γ:List (Nat×List Cell)) (P:Program) (e:List SB) (_G:List (Nat×List GhH)) (c:Code) (Q:Exit->Bool->List SV->List SB->Prop) (I:List SV) (J:List SB):Prop:=vyv Γ P e c (outH Q) I J
theorem v3j {c:Code} (h:RH Γ P e G c true (wck (hide (fun _ I' J'=>weu Γ P e G c Q I' J') ()) Q) I J):weu Γ P e G c Q I J:=
 vyv.round ((RH.sound c true _ _ _ h).mono (fun ex I' J' ⟨b,h⟩=>by
  cases ex with
  | normal=>exact h
  | _=>exact ⟨b,h⟩))
theorem zum {c:Code} (h:RH Γ P e G c true (wck (hide (fun _ I' J'=>weu Γ P e G c Q I' J') ()) Q) I J):zzk Γ P e G c Q I J:=vyv.loop (v3j h)
theorem ztg {x y:Code} (keep:List Nat) (ch:α->List (Nat×SV)) (hp:α->List SB) (pre:α->Prop)
 (hx:RH Γ P e G x true (wck (hide (fun _ I' J'=>∃ a,pre a/\StH Γ e I' J' (appL (ch a) (wue keep 0 I)) (hp a)) ()) Q) I J)
 (hy:∀ a,pre a->RH Γ P e G y true Q (wq1 (appL (ch a) (wue keep 0 I))) (hp a)):vaf Γ P e G x y Q I J:=
 v79 ((RH.sound x true _ _ _ hx).mono (fun ex I' J' ⟨b,h⟩=>by
  cases ex with
  | normal=>
   obtain ⟨a,h1,h2⟩:=h;exact x2l.le h2 (RH.sound y true _ _ _ (vva (appL (ch a) (wue keep 0 I))▸hy a h1))
  | _=>exact ⟨b,h⟩))
def nrmV (I:List SV):List SV:=I
theorem yq2:nrmV (a::I)=a::I:=_root_.id rfl
theorem z8w {a0 a1 a2 a3 a4 a5 a6 a7 a8 a9 a10 a11 a12 a13 a14 a15:SV} {r:List SV}:nrmV (chS a0 a1 a2 a3 a4 a5 a6 a7 a8 a9 a10 a11 a12 a13 a14 a15 r)=chS a0 a1 a2 a3 a4 a5 a6 a7 a8 a9 a10 a11 a12 a13 a14 a15 r:=_root_.id rfl
def nrmH (l:List HR):List HR:=l
theorem vjh:nrmH []=[]:=_root_.id rfl
theorem yyk {a:HR} {l:List HR}:nrmH (a::l)=a::l:=_root_.id rfl
def flF (c d:Bool) (A:Bool->Bool->Prop):Prop:=A c d
theorem w0l:flF true true A=A true true:=_root_.id rfl
theorem znz {c d d':Bool} (h:c=c') (h2:d=d'):flF c d A=flF c' d' A:=by rw [h,h2]
theorem ynp {f:Bool->List SV->List SB->Prop} {u:U f}:hide f u b I J=f b I J:=_root_.id rfl
theorem v6b {f:Bool->Bool->Prop} {u:U f} {c:Bool}:hide f u b c=f b c:=_root_.id rfl
theorem vxm {f:Bool->List SB->SV->Prop} {u:U f}:hide f u b J x=f b J x:=_root_.id rfl
theorem ymx {f:Bool->List Nat->List (Nat×SB)->SV->Prop} {u:U f} {J:List (Nat×SB)}:hide f u b rh J x=f b rh J x:=_root_.id rfl
theorem wjw {f:Bool->List Nat->List Nat->List (Nat×SV)->List (Nat×SB)->Prop} {u:U f} {x:List (Nat×SV)} {y:List (Nat×SB)}:hide f u b rd rh x y=f b rd rh x y:=_root_.id rfl
theorem xo6 {x:List (Nat×SV)} {y:List (Nat×SB)} {z:Option SB}:tick (HO.eff rd rh x y z)=HO.eff rd rh x y z:=_root_.id rfl
theorem xbk {l:List AV}:tick (HO.callD f l rd rh bs)=HO.callD f l rd rh bs:=_root_.id rfl
theorem z9b:tick (HO.callH f l rd)=HO.callH f l rd:=_root_.id rfl
theorem x5y {r:Option SV} {z:SV} {ok:Bool}:tick (HO.look r z ok rd rh)=HO.look r z ok rd rh:=_root_.id rfl
theorem xwr:tick HO.bad=HO.bad:=_root_.id rfl
theorem xzm:tick Hp.GR.plain=Hp.GR.plain:=_root_.id rfl
theorem yfc {d:Nat} {c:Bool}:tick (Hp.GR.when d c b)=Hp.GR.when d c b:=_root_.id rfl
theorem v15 {d:Nat}:tick (Hp.GR.skip d)=Hp.GR.skip d:=_root_.id rfl
theorem yt5 {h:HC}:tick (SV.one h)=SV.one h:=_root_.id rfl
section
variable {Q:Exit->Bool->List SV->List SB->Prop} {I:List SV} {J:List SB}
theorem zqk:RH Γ P e G .skip true Q I J=Q .normal true I J:=_root_.id rfl
theorem z2x {l:List Oper}:RH Γ P e G (.region id l.toArray false) true Q I J=flF (tick (!(zfw (x0d G id)))) (tick (!(zfu (x0d G id)))) (hide (fun lit fn=>xsf Γ P lit fn l true l (nrmV (anyS (x0d G id) I)) J (Q .normal)) ()):=_root_.id rfl
theorem yfs {l:List Oper}:RH Γ P e G (.region id l.toArray true) true Q I J=vk0 P (hide (fun _=>flF (tick (!(zfw (x0d G id)))) (tick (!(zfu (x0d G id)))) (hide (fun lit fn=>xci Γ P lit fn J.length l true l (nrmH []) (nrmV (anyS (x0d G id) I)) (J++ygg (x0d G id)) (hide (fun b s t=>wxc J.length (Q .normal) b s t) ())) ())) ()):=_root_.id rfl
theorem z2s {x y:Code}:RH Γ P e G (.seq x y) true Q I J=seqF (tick (za7 G y)) (hide (fun _=>vaf Γ P e G x y Q I J) ()) (hide (fun _=>RH Γ P e G x true (wck (hide (fun b I J=>RH Γ P e G y b Q I J) ()) Q) I J) ()):=_root_.id rfl
theorem zyr {c:Operand} {x y:Code}:RH Γ P e G (.cond c x y) true Q I J=zcn c I (hide (fun b=>RH Γ P e G x b Q I J) ()) (hide (fun b=>RH Γ P e G y b Q I J) ()) (tick (opdS Γ I c)):=_root_.id rfl
theorem xcc {x:Code}:RH Γ P e G (.block id x) true Q I J=RH Γ P e G x true (v4t id Q) I J:=_root_.id rfl
theorem ypz {x:Code}:RH Γ P e G (.loop x) true Q I J=zzk Γ P e G x Q I J:=_root_.id rfl
theorem zuq:RH Γ P e G (.exit id) true Q I J=Q (.exit id) true I J:=_root_.id rfl
theorem vdw:RH Γ P e G .ret true Q I J=Q .ret true I J:=_root_.id rfl
theorem wdh:xsf Γ P lit fn ops true [] I J K=K true I J:=_root_.id rfl
theorem w5o {r:List Oper}:xsf Γ P lit fn ops true (o::r) I J K=gdH Γ P lit fn (tick (znr ops I o)) o I J true (hide (fun b I J=>xsf Γ P lit fn ops b r (nrmV I) J K) ()):=_root_.id rfl
theorem w7r {acc:List HR}:xci Γ P lit fn nb ops true [] acc I J K=ybj ops acc (hide (fun b=>K b I J) ()):=_root_.id rfl
theorem z5o {r:List Oper} {acc:List HR}:xci Γ P lit fn nb ops true (o::r) acc I J K=gdG Γ P lit fn nb (tick (znr ops I o)) o I J true (hide (fun b rd rh x h=>xci Γ P lit fn (nxtB nb h) ops b r (nrmH (acc++[⟨rd,rh,x,h⟩])) (nrmV (appL x I)) (appL h J) K) ()):=_root_.id rfl
theorem y30 {n:Nat} {k:Bool->List SV->List SB->Prop}:wxc n k true I J=k true I (vo2 n J):=_root_.id rfl
end
section
variable {next:Bool->List SV->List SB->Prop} {Q:Exit->Bool->List SV->List SB->Prop}
theorem yum:wck next Q .normal=next:=_root_.id rfl
theorem wkl:wck next Q (.exit id)=Q (.exit id):=_root_.id rfl
theorem x7q:wck next Q .ret=Q .ret:=_root_.id rfl
theorem ycq:v4t id Q .normal=Q .normal:=_root_.id rfl
def selH (c:Bool) (x y:Bool->List SV->List SB->Prop):Bool->List SV->List SB->Prop:=match c with
 | true=>x
 | false=>y
theorem x2j {j:Nat}:v4t id Q (.exit j)=selH (j==id) (Q .normal) (Q (.exit j)):=by
 have h:v4t id Q (.exit j)=if j=id then Q .normal else Q (.exit j):=rfl
 rw [h];unfold selH;by_cases he:j=id
 . rw [if_pos he,show (j==id)=true from by simp [he]]
 . rw [if_neg he,show (j==id)=false from by simp [he]]
theorem w3n {x:Bool->List SV->List SB->Prop}:selH true x y=x:=rfl
theorem zwa {x:Bool->List SV->List SB->Prop}:selH false x y=y:=rfl
theorem v7e {c:Bool} {x:Bool->List SV->List SB->Prop} (h:c=c'):selH c x y=selH c' x y:=by rw [h]
theorem v40:v4t id Q .ret=Q .ret:=_root_.id rfl
end
section
variable {o:Oper} {I:List SV} {J:List SB} {b:Bool} {k:Bool->List SV->List SB->Prop}
theorem y8c {x:List (Nat×SV)}:doH Γ P (.eff rd rh x h none) o I J b k=k b (appL x I) (appL h J):=_root_.id rfl
theorem yiy {x:List (Nat×SV)} {z:SB}:doH Γ P (.eff rd rh x h (some z)) o I J b k=k b (appL x I) (appL h J++[z]):=_root_.id rfl
theorem z2j {l:List AV}:doH Γ P (.callD f l rd rh bs) o I J b k=zge Γ P f l (appL (frzE J bs) J) (hide (fun b res=>resK o I (appL (frzE J bs) J) b k (resS J.length res)) ()) (hide (fun b η2 res=>k b (appL (ylm o res) I) η2) ()):=_root_.id rfl
theorem vfp:doH Γ P (.callH f l rd) o I J b k=x0t Γ P f J l (hide (fun b η2 res=>k b (appL (ylm o res) I) η2) ()):=_root_.id rfl
theorem v3e {r:Option SV} {z:SV} {ok:Bool}:doH Γ P (.look r z ok rd rh) o I J b k=v9k o I J b k (wog ok r z):=_root_.id rfl
theorem vee:doH Γ P .bad o I J b k=BadO o.op I J:=_root_.id rfl
theorem xvq {y:SV}:resK o I J b k (some (y,none))=k b (appL (ylm o y) I) J:=_root_.id rfl
theorem yiw:gdH Γ P lit fn .plain o I J b k=doH Γ P (tick (opF P Γ lit fn I J J.length o)) o I J b k:=_root_.id rfl
theorem zb2 {d:Nat} {c:Bool}:gdH Γ P lit fn (.when d c b') o I J b k=x4q c b' (hide (fun b=>doH Γ P (tick (opF P Γ lit fn I J J.length o)) o I J b k) ()) (hide (fun b=>zwu o I J b k) ()):=_root_.id rfl
theorem yif {d:Nat}:gdH Γ P lit fn (.skip d) o I J b k=zwu o I J b k:=_root_.id rfl
end
section
variable {o:Oper} {I:List SV} {J:List SB} {nb:Nat} {b:Bool} {k:Bool->List Nat->List Nat->List (Nat×SV)->List (Nat×SB)->Prop}
theorem z7m {x:List (Nat×SV)}:doG Γ P (.eff rd rh x h none) o I J nb b k=k b rd rh x h:=_root_.id rfl
theorem zup {x:List (Nat×SV)} {z:SB}:doG Γ P (.eff rd rh x h (some z)) o I J nb b k=(xvh J nb=true/\k b rd (nb::rh) x (h++[(nb,z)])):=_root_.id rfl
theorem wqp {l:List AV}:doG Γ P (.callD f l rd rh bs) o I J nb b k=w8m Γ P f l (hide (fun b res=>resG o I J nb rd rh bs b k (resS nb res)) ()):=_root_.id rfl
theorem x7o:doG Γ P (.callH f l rd) o I J nb b k=x6s Γ P f J l (hide (fun b rh heff res=>k b rd rh (ylm o res) heff) ()):=_root_.id rfl
theorem wum:doG Γ P .bad o I J nb b k=BadO o.op I J:=_root_.id rfl
theorem y5n {y:SV}:resG o I J nb rd rh bs b k (some (y,none))=k b rd (rh++bs) (ylm o y) (frzE J bs):=_root_.id rfl
theorem zm3 {d:Nat} {x:List (Nat×SV)}:onG d k b rd rh x h=k b (d::rd) rh x h:=_root_.id rfl
theorem yx9:gdG Γ P lit fn nb .plain o I J b k=doG Γ P (tick (opF P Γ lit fn I J nb o)) o I J nb b k:=_root_.id rfl
theorem w6l {d:Nat} {c:Bool}:gdG Γ P lit fn nb (.when d c b') o I J b k=x4q c b' (hide (fun b=>doG Γ P (tick (opF P Γ lit fn I J nb o)) o I J nb b (hide (fun b rd rh x h=>onG d k b rd rh x h) ())) ()) (hide (fun b=>zxi d o b k) ()):=_root_.id rfl
theorem xhc {d:Nat}:gdG Γ P lit fn nb (.skip d) o I J b k=zxi d o b k:=_root_.id rfl
end
theorem vnl {c:Operand} {p:Bool}:zcn c I X Y (.one (.dat (.raw (.bool p))))=x29 p X Y:=_root_.id rfl
theorem w9t:whz P rs res .ret b I J=endR J res (tick (zf4 P I J rs)):=_root_.id rfl
theorem zrz:endR J res (some x)=endD res (tick (wle J x)):=_root_.id rfl
theorem yfy:endD res (some (av,bs))=RLe av res:=_root_.id rfl
theorem w3j {res:SV}:xqu Γ P e rs J' res .ret b I J=endH Γ e J J' res (tick (zf4 P I J rs)):=_root_.id rfl
theorem wad {res:SV}:xqu Γ P e rs J' res .normal b I J=endH Γ e J J' res (tick (zf4 P I J rs)):=_root_.id rfl
theorem wzt {res:SV}:endH Γ e J J' res (some x)=StH Γ e [x] J [res] J':=_root_.id rfl
theorem z3o {x:α}:tick (some x)=some x:=_root_.id rfl
theorem z0p {o o':Option SV} (h:o=o') (hη:J=J'):endR J res o=endR J' res o':=by rw [h,hη]
theorem wfe {o o':Option (AV×List Nat)} (h:o=o'):endD res o=endD res o':=by rw [h]
theorem v3o {res:SV} {o o':Option SV} (h:o=o') (hη:J=η1):endH Γ e J J' res o=endH Γ e η1 J' res o':=by rw [h,hη]
theorem xzn {av':AV} (h:av=av'):RLe av res=RLe av' res:=by rw [h]
theorem wmd {η1':List SB} {σ1 σ1':List SV} (h:I=σ1) (hη:J=η1) (h':I'=σ1') (hη':J'=η1'):StH Γ e I J I' J'=StH Γ e σ1 η1 σ1' η1':=by rw [h,hη,h',hη']
section
variable {o o':Oper} {I I':List SV} {J J':List SB} {b:Bool}
theorem yjh {k:Bool->List SV->List SB->Prop} {x:HO} (h:x=x'):doH Γ P x o I J b k=doH Γ P x' o I J b k:=by rw [h]
theorem xui {k:Bool->List Nat->List Nat->List (Nat×SV)->List (Nat×SB)->Prop} {x:HO} (h:x=x'):doG Γ P x o I J nb b k=doG Γ P x' o I J nb b k:=by rw [h]
theorem yca {k:Bool->List Nat->List Nat->List (Nat×SV)->List (Nat×SB)->Prop} {r r':Option (SV×Option SB)} (h:r=r'):resG o I J nb rd rh bs b k r=resG o I J nb rd rh bs b k r':=by rw [h]
theorem vvi {c:Operand} {v v':SV} (h:v=v'):zcn c I X Y v=zcn c I X Y v':=by rw [h]
theorem xce {l:List Oper} (h:I=I') (hη:J=J'):xsf Γ P lit fn ops b l I J K=xsf Γ P lit fn ops b l I' J' K:=by rw [h,hη]
theorem vt5 {nb':Nat} {l:List Oper} {acc acc':List HR} (hn:nb=nb') (ha:acc=acc') (h:I=I') (hη:J=J'):xci Γ P lit fn nb ops b l acc I J K=xci Γ P lit fn nb' ops b l acc' I' J' K:=by rw [h,ha,hη,hn]
end
def ziz (P:Program) (t:TypeId):TypeInfo:=(P.info? t).getD default
theorem yvr:gtS (a::I) 0=a:=rfl
theorem zy5 {n:Nat}:gtS (a::I) (n+1)=gtS I n:=rfl
theorem vk7 {a:SB}:gB (a::J) 0=a:=rfl
theorem w3h {a:SB} {n:Nat}:gB (a::J) (n+1)=gB J n:=rfl
theorem xj4:appL [] l=l:=rfl
theorem xcp {p:Nat×SV} {r:List (Nat×SV)}:appL (p::r) l=appL r (l.set p.1 p.2):=rfl
theorem veb {l:List SB}:appL [] l=l:=rfl
theorem yay {p:Nat×SB} {r:List (Nat×SB)} {l:List SB}:appL (p::r) l=appL r (l.set p.1 p.2):=rfl
theorem xhd {t:Nat}:opdS Γ I (.tmp t)=gtS I t:=rfl
theorem xf5 {v:Value}:opdS Γ I (.const v)=zim v:=rfl
theorem yo2:opdS Γ I (.func f)=.one (.dat (.raw (.func (.func f) #[] #[]))):=rfl
theorem zqf {g:Nat}:opdS Γ I (.global g)=yvk Γ g:=rfl
theorem y5x {d:Nat}:nh (I.map vw) d=decide (d<I.length):=by
 unfold nh;by_cases h:d<I.length
 . rw [List.getElem?_map,List.getElem?_eq_getElem h,decide_eq_true h];simp only [Option.map_some,vir,Bool.not_false]
 . rw [List.getElem?_map,List.getElem?_eq_none (by omega),decide_eq_false h];rfl
section
variable {a0 a1 a2 a3 a4 a5 a6 a7 a8 a9 a10 a11 a12 a13 a14 a15 x:SV} {r:List SV} {n:Nat}
theorem yxu:gtS (chS a0 a1 a2 a3 a4 a5 a6 a7 a8 a9 a10 a11 a12 a13 a14 a15 r) 0=a0:=rfl
theorem vby:(chS a0 a1 a2 a3 a4 a5 a6 a7 a8 a9 a10 a11 a12 a13 a14 a15 r).set 0 x=chS x a1 a2 a3 a4 a5 a6 a7 a8 a9 a10 a11 a12 a13 a14 a15 r:=rfl
theorem yhq:gtS (chS a0 a1 a2 a3 a4 a5 a6 a7 a8 a9 a10 a11 a12 a13 a14 a15 r) 1=a1:=rfl
theorem xoe:(chS a0 a1 a2 a3 a4 a5 a6 a7 a8 a9 a10 a11 a12 a13 a14 a15 r).set 1 x=chS a0 x a2 a3 a4 a5 a6 a7 a8 a9 a10 a11 a12 a13 a14 a15 r:=rfl
theorem vcb:gtS (chS a0 a1 a2 a3 a4 a5 a6 a7 a8 a9 a10 a11 a12 a13 a14 a15 r) 2=a2:=rfl
theorem zsz:(chS a0 a1 a2 a3 a4 a5 a6 a7 a8 a9 a10 a11 a12 a13 a14 a15 r).set 2 x=chS a0 a1 x a3 a4 a5 a6 a7 a8 a9 a10 a11 a12 a13 a14 a15 r:=rfl
theorem x42:gtS (chS a0 a1 a2 a3 a4 a5 a6 a7 a8 a9 a10 a11 a12 a13 a14 a15 r) 3=a3:=rfl
theorem yqz:(chS a0 a1 a2 a3 a4 a5 a6 a7 a8 a9 a10 a11 a12 a13 a14 a15 r).set 3 x=chS a0 a1 a2 x a4 a5 a6 a7 a8 a9 a10 a11 a12 a13 a14 a15 r:=rfl
theorem xzg:gtS (chS a0 a1 a2 a3 a4 a5 a6 a7 a8 a9 a10 a11 a12 a13 a14 a15 r) 4=a4:=rfl
theorem xb0:(chS a0 a1 a2 a3 a4 a5 a6 a7 a8 a9 a10 a11 a12 a13 a14 a15 r).set 4 x=chS a0 a1 a2 a3 x a5 a6 a7 a8 a9 a10 a11 a12 a13 a14 a15 r:=rfl
theorem wyc:gtS (chS a0 a1 a2 a3 a4 a5 a6 a7 a8 a9 a10 a11 a12 a13 a14 a15 r) 5=a5:=rfl
theorem ww9:(chS a0 a1 a2 a3 a4 a5 a6 a7 a8 a9 a10 a11 a12 a13 a14 a15 r).set 5 x=chS a0 a1 a2 a3 a4 x a6 a7 a8 a9 a10 a11 a12 a13 a14 a15 r:=rfl
theorem zjy:gtS (chS a0 a1 a2 a3 a4 a5 a6 a7 a8 a9 a10 a11 a12 a13 a14 a15 r) 6=a6:=rfl
theorem zoa:(chS a0 a1 a2 a3 a4 a5 a6 a7 a8 a9 a10 a11 a12 a13 a14 a15 r).set 6 x=chS a0 a1 a2 a3 a4 a5 x a7 a8 a9 a10 a11 a12 a13 a14 a15 r:=rfl
theorem vkt:gtS (chS a0 a1 a2 a3 a4 a5 a6 a7 a8 a9 a10 a11 a12 a13 a14 a15 r) 7=a7:=rfl
theorem vo3:(chS a0 a1 a2 a3 a4 a5 a6 a7 a8 a9 a10 a11 a12 a13 a14 a15 r).set 7 x=chS a0 a1 a2 a3 a4 a5 a6 x a8 a9 a10 a11 a12 a13 a14 a15 r:=rfl
theorem yzh:gtS (chS a0 a1 a2 a3 a4 a5 a6 a7 a8 a9 a10 a11 a12 a13 a14 a15 r) 8=a8:=rfl
theorem ymr:(chS a0 a1 a2 a3 a4 a5 a6 a7 a8 a9 a10 a11 a12 a13 a14 a15 r).set 8 x=chS a0 a1 a2 a3 a4 a5 a6 a7 x a9 a10 a11 a12 a13 a14 a15 r:=rfl
theorem xo1:gtS (chS a0 a1 a2 a3 a4 a5 a6 a7 a8 a9 a10 a11 a12 a13 a14 a15 r) 9=a9:=rfl
theorem wxy:(chS a0 a1 a2 a3 a4 a5 a6 a7 a8 a9 a10 a11 a12 a13 a14 a15 r).set 9 x=chS a0 a1 a2 a3 a4 a5 a6 a7 a8 x a10 a11 a12 a13 a14 a15 r:=rfl
theorem w8p:gtS (chS a0 a1 a2 a3 a4 a5 a6 a7 a8 a9 a10 a11 a12 a13 a14 a15 r) 10=a10:=rfl
theorem xro:(chS a0 a1 a2 a3 a4 a5 a6 a7 a8 a9 a10 a11 a12 a13 a14 a15 r).set 10 x=chS a0 a1 a2 a3 a4 a5 a6 a7 a8 a9 x a11 a12 a13 a14 a15 r:=rfl
theorem yvb:gtS (chS a0 a1 a2 a3 a4 a5 a6 a7 a8 a9 a10 a11 a12 a13 a14 a15 r) 11=a11:=rfl
theorem vpp:(chS a0 a1 a2 a3 a4 a5 a6 a7 a8 a9 a10 a11 a12 a13 a14 a15 r).set 11 x=chS a0 a1 a2 a3 a4 a5 a6 a7 a8 a9 a10 x a12 a13 a14 a15 r:=rfl
theorem v6z:gtS (chS a0 a1 a2 a3 a4 a5 a6 a7 a8 a9 a10 a11 a12 a13 a14 a15 r) 12=a12:=rfl
theorem zyu:(chS a0 a1 a2 a3 a4 a5 a6 a7 a8 a9 a10 a11 a12 a13 a14 a15 r).set 12 x=chS a0 a1 a2 a3 a4 a5 a6 a7 a8 a9 a10 a11 x a13 a14 a15 r:=rfl
theorem vr8:gtS (chS a0 a1 a2 a3 a4 a5 a6 a7 a8 a9 a10 a11 a12 a13 a14 a15 r) 13=a13:=rfl
theorem zai:(chS a0 a1 a2 a3 a4 a5 a6 a7 a8 a9 a10 a11 a12 a13 a14 a15 r).set 13 x=chS a0 a1 a2 a3 a4 a5 a6 a7 a8 a9 a10 a11 a12 x a14 a15 r:=rfl
theorem ypt:gtS (chS a0 a1 a2 a3 a4 a5 a6 a7 a8 a9 a10 a11 a12 a13 a14 a15 r) 14=a14:=rfl
theorem wwx:(chS a0 a1 a2 a3 a4 a5 a6 a7 a8 a9 a10 a11 a12 a13 a14 a15 r).set 14 x=chS a0 a1 a2 a3 a4 a5 a6 a7 a8 a9 a10 a11 a12 a13 x a15 r:=rfl
theorem yjk:gtS (chS a0 a1 a2 a3 a4 a5 a6 a7 a8 a9 a10 a11 a12 a13 a14 a15 r) 15=a15:=rfl
theorem wxg:(chS a0 a1 a2 a3 a4 a5 a6 a7 a8 a9 a10 a11 a12 a13 a14 a15 r).set 15 x=chS a0 a1 a2 a3 a4 a5 a6 a7 a8 a9 a10 a11 a12 a13 a14 x r:=rfl
theorem vxa:gtS (chS a0 a1 a2 a3 a4 a5 a6 a7 a8 a9 a10 a11 a12 a13 a14 a15 r) (n+16)=gtS r n:=rfl
theorem y6o:(chS a0 a1 a2 a3 a4 a5 a6 a7 a8 a9 a10 a11 a12 a13 a14 a15 r).set (n+16) x=chS a0 a1 a2 a3 a4 a5 a6 a7 a8 a9 a10 a11 a12 a13 a14 a15 (r.set n x):=rfl
theorem xdr:(chS a0 a1 a2 a3 a4 a5 a6 a7 a8 a9 a10 a11 a12 a13 a14 a15 r).length=r.length+16:=rfl
theorem y8j:wq1 (a0::a1::a2::a3::a4::a5::a6::a7::a8::a9::a10::a11::a12::a13::a14::a15::r)=chS a0 a1 a2 a3 a4 a5 a6 a7 a8 a9 a10 a11 a12 a13 a14 a15 (wq1 r):=rfl
theorem vvp:wq1 (chS a0 a1 a2 a3 a4 a5 a6 a7 a8 a9 a10 a11 a12 a13 a14 a15 r)=chS a0 a1 a2 a3 a4 a5 a6 a7 a8 a9 a10 a11 a12 a13 a14 a15 (wq1 r):=rfl
theorem y8e:wq1 []=[]:=rfl
theorem xjt:wq1 [a0]=[a0]:=rfl
theorem w5k:wq1 [a0,a1]=[a0,a1]:=rfl
theorem y3q:wq1 [a0,a1,a2]=[a0,a1,a2]:=rfl
theorem yrw:wq1 [a0,a1,a2,a3]=[a0,a1,a2,a3]:=rfl
theorem w9u:wq1 [a0,a1,a2,a3,a4]=[a0,a1,a2,a3,a4]:=rfl
theorem wzc:wq1 [a0,a1,a2,a3,a4,a5]=[a0,a1,a2,a3,a4,a5]:=rfl
theorem x28:wq1 [a0,a1,a2,a3,a4,a5,a6]=[a0,a1,a2,a3,a4,a5,a6]:=rfl
theorem y3z:wq1 [a0,a1,a2,a3,a4,a5,a6,a7]=[a0,a1,a2,a3,a4,a5,a6,a7]:=rfl
theorem xpq:wq1 [a0,a1,a2,a3,a4,a5,a6,a7,a8]=[a0,a1,a2,a3,a4,a5,a6,a7,a8]:=rfl
theorem z3u:wq1 [a0,a1,a2,a3,a4,a5,a6,a7,a8,a9]=[a0,a1,a2,a3,a4,a5,a6,a7,a8,a9]:=rfl
theorem zsl:wq1 [a0,a1,a2,a3,a4,a5,a6,a7,a8,a9,a10]=[a0,a1,a2,a3,a4,a5,a6,a7,a8,a9,a10]:=rfl
theorem xsm:wq1 [a0,a1,a2,a3,a4,a5,a6,a7,a8,a9,a10,a11]=[a0,a1,a2,a3,a4,a5,a6,a7,a8,a9,a10,a11]:=rfl
theorem v9s:wq1 [a0,a1,a2,a3,a4,a5,a6,a7,a8,a9,a10,a11,a12]=[a0,a1,a2,a3,a4,a5,a6,a7,a8,a9,a10,a11,a12]:=rfl
theorem wzk:wq1 [a0,a1,a2,a3,a4,a5,a6,a7,a8,a9,a10,a11,a12,a13]=[a0,a1,a2,a3,a4,a5,a6,a7,a8,a9,a10,a11,a12,a13]:=rfl
theorem z6z:wq1 [a0,a1,a2,a3,a4,a5,a6,a7,a8,a9,a10,a11,a12,a13,a14]=[a0,a1,a2,a3,a4,a5,a6,a7,a8,a9,a10,a11,a12,a13,a14]:=rfl
theorem zyl {ks:List Nat} {i:Nat}:wue ks i (chS a0 a1 a2 a3 a4 a5 a6 a7 a8 a9 a10 a11 a12 a13 a14 a15 r)=wue ks i (a0::a1::a2::a3::a4::a5::a6::a7::a8::a9::a10::a11::a12::a13::a14::a15::r):=rfl
end
attribute [go_sem] yxu yhq vcb x42 xzg wyc zjy vkt yzh xo1 w8p yvb v6z vr8 ypt yjk vby xoe zsz yqz xb0 ww9 zoa vo3 ymr wxy xro vpp zyu zai wwx wxg y8e xjt w5k y3q yrw w9u wzc x28 y3z xpq z3u zsl xsm v9s wzk z6z vxa y6o xdr y8j vvp zyl wdh w5o w7r z5o y30 yq2 z8w vjh yyk xo6 xbk z9b x5y xwr yt5 xzm yfc v15 w3n zwa w0l y8c yiy z2j vfp v3e vee xvq yiw zb2 yif zwu v9k z7m zup wqp x7o wum y5n zm3 yx9 w6l xhc zxi vzl vnl w9t w3j wad zrz yfy wzt z3o
attribute [go_sem ↓] zqk z2x yfs z2s zyr xcc ypz zuq vdw ynp v6b vxm ymx wjw yum wkl x7q ycq x2j v40
attribute [congr] yjh xui yca vvi xce vt5 znz v7e z0p wfe v3o xzn wmd
attribute [go_sem] yvr zy5 vk7 w3h xj4 xcp veb yay xhd xf5 yo2 zqf y5x x0d y7e zfw zfu anyS za7 wue ygg zbd nxtB znr opF yiv y9n fBin fUn vza wgc yg6 v04 vms zr9 fLen zw2 wwh fNil vw7 www fBox opH opP zm7 zbg zbg.callG opH.appO oldO oldR av2 vO nO isNil x40 w4j rawS y8q ymo y05 TI.many seeH ztk ywi z9d w9o ptrH lenH natH wao xvr argD zfh wb2 wvr zsa resS wq8 ylm zim yvk frzB frzE vfv subC v9i yp0 appT dstH srcH ykn zgw updM kEq z7b keyV wog xkx yuh vtv vzj yrk zf4 wle vo2 xvh wmm oB oN zrb intS ckH yl5 xzp zm8 yk4 vw vwO vwG datL datH
end Go.Hp
namespace Go.Slot.T
open Go Go.RowKit Go.Slot Go.Hp
open Go.Proofs.Tryz (prog)
variable {k:TI->OR}
theorem w1:zl2 prog 1 k=k ⟨1,8,[Cell.raw Value.nilFunc],Sh.cell⟩:=yqx (by kernel_rfl)
theorem m1:mkTI prog 1=some ⟨1,8,[Cell.raw Value.nilFunc],Sh.cell⟩:=by kernel_rfl
theorem z1:w2m prog 1=some (SV.one (HC.dat (Cell.raw Value.nilFunc))):=by kernel_rfl
theorem w2:zl2 prog 2 k=k ⟨1,8,[Cell.raw (Value.int IntKind.i64 0)],Sh.int IntKind.i64⟩:=yqx (by kernel_rfl)
theorem m2:mkTI prog 2=some ⟨1,8,[Cell.raw (Value.int IntKind.i64 0)],Sh.int IntKind.i64⟩:=by kernel_rfl
theorem u2:prog.underlying 2=some (TypeDesc.int IntKind.i64):=by kernel_rfl
theorem z2:w2m prog 2=some (SV.one (HC.dat (Cell.raw (Value.int IntKind.i64 0)))):=by kernel_rfl
theorem w3:zl2 prog 3 k=k ⟨1,8,[Cell.raw (Value.int IntKind.i64 0)],Sh.int IntKind.i64⟩:=yqx (by kernel_rfl)
theorem m3:mkTI prog 3=some ⟨1,8,[Cell.raw (Value.int IntKind.i64 0)],Sh.int IntKind.i64⟩:=by kernel_rfl
theorem u3:prog.underlying 3=some (TypeDesc.int IntKind.i64):=by kernel_rfl
theorem z3:w2m prog 3=some (SV.one (HC.dat (Cell.raw (Value.int IntKind.i64 0)))):=by kernel_rfl
theorem m4:mkTI prog 4=some ⟨1,1,[Cell.raw (Value.bool false)],Sh.bool⟩:=by kernel_rfl
theorem w5:zl2 prog 5 k=k ⟨1,1,[Cell.raw (Value.int IntKind.u8 0)],Sh.int IntKind.u8⟩:=yqx (by kernel_rfl)
theorem m5:mkTI prog 5=some ⟨1,1,[Cell.raw (Value.int IntKind.u8 0)],Sh.int IntKind.u8⟩:=by kernel_rfl
theorem u5:prog.underlying 5=some (TypeDesc.int IntKind.u8):=by kernel_rfl
theorem w9:zl2 prog 9 k=k ⟨1,16,[Cell.raw (Value.string ⟨⟨[]⟩⟩)],Sh.string⟩:=yqx (by kernel_rfl)
theorem m9:mkTI prog 9=some ⟨1,16,[Cell.raw (Value.string ⟨⟨[]⟩⟩)],Sh.string⟩:=by kernel_rfl
theorem w22:zl2 prog 22 k=k ⟨1,24,[Cell.zc],Sh.slice 24 5 72 none⟩:=yqx (by kernel_rfl)
theorem m22:mkTI prog 22=some ⟨1,24,[Cell.zc],Sh.slice 24 5 72 none⟩:=by kernel_rfl
theorem m24:mkTI prog 24=some ⟨5,72,[Cell.raw (Value.int IntKind.i64 0),Cell.raw (Value.int IntKind.i64 0),Cell.raw (Value.string ⟨⟨[]⟩⟩),Cell.raw (Value.string ⟨⟨[]⟩⟩),Cell.zc],Sh.struct [(0,1,3),(1,1,3),(2,1,9),(3,1,9),(4,1,22)]⟩:=by kernel_rfl
theorem w25:zl2 prog 25 k=k ⟨1,24,[Cell.zc],Sh.slice 45 9 144 none⟩:=yqx (by kernel_rfl)
theorem m25:mkTI prog 25=some ⟨1,24,[Cell.zc],Sh.slice 45 9 144 none⟩:=by kernel_rfl
theorem w26:zl2 prog 26 k=k ⟨1,24,[Cell.zc],Sh.slice 122 3 56 none⟩:=yqx (by kernel_rfl)
theorem m26:mkTI prog 26=some ⟨1,24,[Cell.zc],Sh.slice 122 3 56 none⟩:=by kernel_rfl
theorem w29:zl2 prog 29 k=k ⟨1,24,[Cell.zc],Sh.slice 3 1 8 (some IntKind.i64)⟩:=yqx (by kernel_rfl)
theorem m29:mkTI prog 29=some ⟨1,24,[Cell.zc],Sh.slice 3 1 8 (some IntKind.i64)⟩:=by kernel_rfl
theorem w31:zl2 prog 31 k=k ⟨2,32,[Cell.raw (Value.int IntKind.i64 0),Cell.zc],Sh.struct [(0,1,3),(1,1,29)]⟩:=yqx (by kernel_rfl)
theorem m31:mkTI prog 31=some ⟨2,32,[Cell.raw (Value.int IntKind.i64 0),Cell.zc],Sh.struct [(0,1,3),(1,1,29)]⟩:=by kernel_rfl
theorem w33:zl2 prog 33 k=k ⟨4,64,[Cell.raw (Value.int IntKind.i64 0),Cell.zc,Cell.raw (Value.int IntKind.i64 0),Cell.zc],Sh.struct [(0,2,31),(2,2,31)]⟩:=yqx (by kernel_rfl)
theorem m33:mkTI prog 33=some ⟨4,64,[Cell.raw (Value.int IntKind.i64 0),Cell.zc,Cell.raw (Value.int IntKind.i64 0),Cell.zc],Sh.struct [(0,2,31),(2,2,31)]⟩:=by kernel_rfl
theorem w35:zl2 prog 35 k=k ⟨8,128,[Cell.raw (Value.int IntKind.i64 0),Cell.zc,Cell.raw (Value.int IntKind.i64 0),Cell.zc,Cell.raw (Value.int IntKind.i64 0),Cell.zc,Cell.raw (Value.int IntKind.i64 0),Cell.zc],Sh.struct [(0,4,33),(4,4,33)]⟩:=yqx (by kernel_rfl)
theorem m35:mkTI prog 35=some ⟨8,128,[Cell.raw (Value.int IntKind.i64 0),Cell.zc,Cell.raw (Value.int IntKind.i64 0),Cell.zc,Cell.raw (Value.int IntKind.i64 0),Cell.zc,Cell.raw (Value.int IntKind.i64 0),Cell.zc],Sh.struct [(0,4,33),(4,4,33)]⟩:=by kernel_rfl
theorem z35:w2m prog 35=some (SV.agg [HC.dat (Cell.raw (Value.int IntKind.i64 0)),HC.dat Cell.zc,HC.dat (Cell.raw (Value.int IntKind.i64 0)),HC.dat Cell.zc,HC.dat (Cell.raw (Value.int IntKind.i64 0)),HC.dat Cell.zc,HC.dat (Cell.raw (Value.int IntKind.i64 0)),HC.dat Cell.zc]):=by kernel_rfl
theorem m36:mkTI prog 36=some ⟨1,8,[Cell.raw (Value.int IntKind.i64 0)],Sh.int IntKind.i64⟩:=by kernel_rfl
theorem m45:mkTI prog 45=some ⟨9,144,[Cell.raw (Value.string ⟨⟨[]⟩⟩),Cell.raw (Value.int IntKind.i64 0),Cell.zc,Cell.raw (Value.int IntKind.i64 0),Cell.zc,Cell.raw (Value.int IntKind.i64 0),Cell.zc,Cell.raw (Value.int IntKind.i64 0),Cell.zc],Sh.struct [(0,1,9),(1,8,35)]⟩:=by kernel_rfl
theorem m51:mkTI prog 51=some ⟨6,48,[Cell.raw (Value.int IntKind.i64 0),Cell.raw (Value.int IntKind.i64 0),Cell.raw (Value.int IntKind.i64 0),Cell.raw (Value.int IntKind.i64 0),Cell.raw (Value.int IntKind.i64 0),Cell.raw (Value.int IntKind.i64 0)],Sh.array 6 3 1⟩:=by kernel_rfl
theorem w59:zl2 prog 59 k=k ⟨1,24,[Cell.zc],Sh.slice 33 4 64 none⟩:=yqx (by kernel_rfl)
theorem m59:mkTI prog 59=some ⟨1,24,[Cell.zc],Sh.slice 33 4 64 none⟩:=by kernel_rfl
theorem w60:zl2 prog 60 k=k ⟨1,24,[Cell.zc],Sh.slice 64 5 80 none⟩:=yqx (by kernel_rfl)
theorem m60:mkTI prog 60=some ⟨1,24,[Cell.zc],Sh.slice 64 5 80 none⟩:=by kernel_rfl
theorem m64:mkTI prog 64=some ⟨5,80,[Cell.raw (Value.string ⟨⟨[]⟩⟩),Cell.raw (Value.int IntKind.i64 0),Cell.zc,Cell.raw (Value.int IntKind.i64 0),Cell.zc],Sh.struct [(0,1,9),(1,4,33)]⟩:=by kernel_rfl
theorem m89:mkTI prog 89=some ⟨11,136,[Cell.raw (Value.bool false),Cell.raw (Value.bool false),Cell.raw (Value.bool false),Cell.raw (Value.int IntKind.i64 0),Cell.zc,Cell.raw (Value.int IntKind.i64 0),Cell.zc,Cell.raw (Value.int IntKind.i64 0),Cell.zc,Cell.raw (Value.int IntKind.i64 0),Cell.zc],Sh.struct [(0,1,4),(1,1,4),(2,1,4),(3,8,35)]⟩:=by kernel_rfl
theorem w94:zl2 prog 94 k=k ⟨11,136,[Cell.raw (Value.bool false),Cell.raw (Value.bool false),Cell.raw (Value.bool false),Cell.raw (Value.int IntKind.i64 0),Cell.zc,Cell.raw (Value.int IntKind.i64 0),Cell.zc,Cell.raw (Value.int IntKind.i64 0),Cell.zc,Cell.raw (Value.int IntKind.i64 0),Cell.zc],Sh.struct [(0,1,4),(1,1,4),(2,1,4),(3,8,35)]⟩:=yqx (by kernel_rfl)
theorem m94:mkTI prog 94=some ⟨11,136,[Cell.raw (Value.bool false),Cell.raw (Value.bool false),Cell.raw (Value.bool false),Cell.raw (Value.int IntKind.i64 0),Cell.zc,Cell.raw (Value.int IntKind.i64 0),Cell.zc,Cell.raw (Value.int IntKind.i64 0),Cell.zc,Cell.raw (Value.int IntKind.i64 0),Cell.zc],Sh.struct [(0,1,4),(1,1,4),(2,1,4),(3,8,35)]⟩:=by kernel_rfl
theorem m108:mkTI prog 108=some ⟨1,8,[Cell.raw (Value.map none)],Sh.map 9 122⟩:=by kernel_rfl
theorem m119:mkTI prog 119=some ⟨2,16,[Cell.raw (Value.int IntKind.i64 0),Cell.raw (Value.int IntKind.i64 0)],Sh.struct [(0,1,3),(1,1,3)]⟩:=by kernel_rfl
theorem w120:zl2 prog 120 k=k ⟨1,24,[Cell.zc],Sh.slice 119 2 16 none⟩:=yqx (by kernel_rfl)
theorem m120:mkTI prog 120=some ⟨1,24,[Cell.zc],Sh.slice 119 2 16 none⟩:=by kernel_rfl
theorem m122:mkTI prog 122=some ⟨3,56,[Cell.raw (Value.string ⟨⟨[]⟩⟩),Cell.raw (Value.string ⟨⟨[]⟩⟩),Cell.zc],Sh.struct [(0,1,9),(1,1,9),(2,1,120)]⟩:=by kernel_rfl
theorem z122:w2m prog 122=some (SV.agg [HC.dat (Cell.raw (Value.string ⟨⟨[]⟩⟩)),HC.dat (Cell.raw (Value.string ⟨⟨[]⟩⟩)),HC.dat Cell.zc]):=by kernel_rfl
theorem m124:mkTI prog 124=some ⟨1,8,[Cell.raw (Value.map none)],Sh.map 9 35⟩:=by kernel_rfl
theorem m126:mkTI prog 126=some ⟨2,16,[Cell.raw (Value.map none),Cell.raw (Value.map none)],Sh.struct [(0,1,124),(1,1,108)]⟩:=by kernel_rfl
theorem m143:mkTI prog 143=some ⟨10,112,[Cell.raw (Value.int IntKind.i64 0),Cell.raw (Value.int IntKind.i64 0),Cell.raw (Value.int IntKind.i64 0),Cell.raw (Value.int IntKind.i64 0),Cell.raw (Value.int IntKind.i64 0),Cell.raw (Value.int IntKind.i64 0),Cell.raw (Value.int IntKind.i64 0),Cell.zc,Cell.raw (Value.int IntKind.i64 0),Cell.zc],Sh.struct [(0,6,51),(6,4,33)]⟩:=by kernel_rfl
theorem w162:zl2 prog 162 k=k ⟨1,8,[Cell.raw (Value.int IntKind.u64 0)],Sh.int IntKind.u64⟩:=yqx (by kernel_rfl)
theorem m162:mkTI prog 162=some ⟨1,8,[Cell.raw (Value.int IntKind.u64 0)],Sh.int IntKind.u64⟩:=by kernel_rfl
theorem w163:zl2 prog 163 k=k ⟨1,8,[Cell.raw (Value.int IntKind.u64 0)],Sh.int IntKind.u64⟩:=yqx (by kernel_rfl)
theorem u163:prog.underlying 163=some (TypeDesc.int IntKind.u64):=by kernel_rfl
theorem w166:zl2 prog 166 k=k ⟨1,24,[Cell.zc],Sh.slice 89 11 136 none⟩:=yqx (by kernel_rfl)
theorem m166:mkTI prog 166=some ⟨1,24,[Cell.zc],Sh.slice 89 11 136 none⟩:=by kernel_rfl
theorem w170:zl2 prog 170 k=k ⟨1,24,[Cell.zc],Sh.slice 9 1 16 none⟩:=yqx (by kernel_rfl)
theorem m170:mkTI prog 170=some ⟨1,24,[Cell.zc],Sh.slice 9 1 16 none⟩:=by kernel_rfl
theorem w173:zl2 prog 173 k=k ⟨1,24,[Cell.zc],Sh.slice 94 11 136 none⟩:=yqx (by kernel_rfl)
theorem m173:mkTI prog 173=some ⟨1,24,[Cell.zc],Sh.slice 94 11 136 none⟩:=by kernel_rfl
theorem w188:zl2 prog 188 k=k ⟨1,24,[Cell.zc],Sh.slice 192 2 24 none⟩:=yqx (by kernel_rfl)
theorem m188:mkTI prog 188=some ⟨1,24,[Cell.zc],Sh.slice 192 2 24 none⟩:=by kernel_rfl
theorem m192:mkTI prog 192=some ⟨2,24,[Cell.raw (Value.string ⟨⟨[]⟩⟩),Cell.raw (Value.int IntKind.i64 0)],Sh.struct [(0,1,9),(1,1,3)]⟩:=by kernel_rfl
theorem w237:zl2 prog 237 k=k ⟨1,24,[Cell.zc],Sh.slice 241 2 24 none⟩:=yqx (by kernel_rfl)
theorem m237:mkTI prog 237=some ⟨1,24,[Cell.zc],Sh.slice 241 2 24 none⟩:=by kernel_rfl
theorem m241:mkTI prog 241=some ⟨2,24,[Cell.raw (Value.string ⟨⟨[]⟩⟩),Cell.raw (Value.int IntKind.i64 0)],Sh.struct [(0,1,9),(1,1,3)]⟩:=by kernel_rfl
theorem m257:mkTI prog 257=some ⟨1,8,[Cell.raw (Value.pointer none)],Sh.cell⟩:=by kernel_rfl
theorem z0t:xe1 prog 257=some 260:=by kernel_rfl
theorem u257:prog.underlying 257=some (TypeDesc.pointer 260):=by kernel_rfl
theorem m258:mkTI prog 258=some ⟨1,24,[Cell.zc],Sh.slice 5 1 1 (some IntKind.u8)⟩:=by kernel_rfl
theorem m260:mkTI prog 260=some ⟨2,32,[Cell.raw (Value.pointer none),Cell.zc],Sh.struct [(0,1,257),(1,1,258)]⟩:=by kernel_rfl
theorem ysv:xe1 prog 269=some 5:=by kernel_rfl
theorem u270:prog.underlying 270=some TypeDesc.unsafePointer:=by kernel_rfl
theorem vsj:prog.info? 260=some (ziz prog 260):=by kernel_rfl
theorem xfr:((ziz prog 260).size != 0)=true:=by kernel_rfl
theorem e262:wp2 prog 262=true:=by kernel_rfl
theorem yln:(List.range 280).all (fun n=>n==262||!wp2 prog n)=true:=by kernel_rfl
attribute [go_sem ↓] w1 w2 w3 w5 w9 w22 w25 w26 w29 w31 w33 w35 w59 w60 w94 w120 w162 w163 w166 w170 w173 w188 w237
attribute [go_sem] m1 z1 m2 u2 z2 m3 u3 z3 m4 m5 u5 m9 m22 m24 m25 m26 m29 m31 m33 m35 z35 m36 m45 m51 m59 m60 m64 m89 m94 m108 m119 m120 m122 z122 m124 m126 m143 m162 u163 m166 m170 m173 m188 m192 m237 m241 m257 z0t u257 m258 m260 ysv u270 vsj xfr e262
theorem eAll (n:Nat) (h:n<280) (h262:n≠262):wp2 prog n=false:=by
 have:=List.all_eq_true.1 yln n (List.mem_range.2 h)
 simpa [h262] using this
theorem mixed:prog.follows .mixedOrders=true:=by kernel_rfl
attribute [go_sem] eAll
theorem wvv {k:Bool->Prop}:va1 prog k=k true:=propext ⟨fun h=>h.2,fun h=>⟨mixed,h⟩⟩
theorem wx2 {k:Bool->Prop}:vk0 prog k=k true:=propext ⟨fun h=>h.2,fun h=>⟨mixed,h⟩⟩
attribute [go_sem] wvv wx2
end Go.Slot.T
namespace Go.Hp
open Go Go.RowKit Go.Slot
variable {P:Program} {Γ:List (Nat×List Cell)} {e:List SB} {G:List (Nat×List GhH)}
variable {X Y:Bool->Prop} {q a b:Prop} {x y:AV} {i j:Nat} {I I':List SV} {J J' ηs ηs':List SB} {f:FuncId} {res:SV}
theorem vtf {p:Prop} [Decidable p] (hx:p->decide p=true->X true) (hy:¬p->decide p=false->Y true):x4q (decide p) true X Y:=⟨fun h=>hx (of_decide_eq_true h) h,fun h=>hy (of_decide_eq_false h) h⟩
theorem yjl {p:Prop} [Decidable p] (hx:¬p->decide p=false->X true) (hy:p->decide p=true->Y true):x4q (decide p) false X Y:=⟨fun h=>hx (of_decide_eq_false h) h,fun h=>hy (of_decide_eq_true h) h⟩
theorem zbb {c:Bool} (hx:c=true->X true) (hy:c=false->Y true):x4q c true X Y:=⟨hx,hy⟩
theorem v1z {c:Bool} (hx:c=false->X true) (hy:c=true->Y true):x4q c false X Y:=⟨hx,hy⟩
theorem vnx {p:Prop} [Decidable p] (hx:p->decide p=true->X true) (hy:¬p->decide p=false->Y true):x29 (decide p) X Y:=⟨fun h=>hx (of_decide_eq_true h) h,fun h=>hy (of_decide_eq_false h) h⟩
theorem wdg {c:Bool} (hx:c=true->X true) (hy:c=false->Y true):x29 c X Y:=⟨hx,hy⟩
theorem vpb {c:Bool} (hx:c=false->X true) (hy:c=true->Y true):x4q (!c) true X Y:=⟨fun h=>hx (by simpa using h),fun h=>hy (by simpa using h)⟩
theorem v1v {c:Bool} (hx:c=true->X true) (hy:c=false->Y true):x4q (!c) false X Y:=⟨fun h=>hx (by simpa using h),fun h=>hy (by simpa using h)⟩
theorem wzf {c:Bool} (hx:c=false->X true) (hy:c=true->Y true):x29 (!c) X Y:=⟨fun h=>hx (by simpa using h),fun h=>hy (by simpa using h)⟩
theorem hg {p:Prop} (k:q) (h:p=q:=by conv=>lhs;simp (maxSteps:=2000000) (disch:=omega) only [go_sem,Nat.reduceAdd,Nat.reduceSub,Nat.reduceMul,Int.reduceToNat,Nat.reduceEqDiff,Nat.reduceBEq,Nat.reduceBneDiff,Nat.reduceLT,Int.reduceEq,Int.reduceLT,Int.reduceLE,Int.reduceNeg,Int.reduceAdd,Int.reduceSub,Int.reduceMul]):p:=Eq.mpr h k
theorem hgS {p:Prop} (k:q) (h:p=q:=by conv=>lhs;simp (maxSteps:=2000000) (disch:=omega) only [go_sem,Nat.reduceAdd,Nat.reduceSub,Nat.reduceMul,Int.reduceToNat,Nat.reduceEqDiff,Nat.reduceBEq,Nat.reduceBneDiff,Nat.reduceLT,Int.reduceEq,Int.reduceLT,Int.reduceLE,Int.reduceNeg,Int.reduceAdd,Int.reduceSub,Int.reduceMul, *]):p:=Eq.mpr h k
theorem hgR {p:Prop} (k:q) (h:p=q:=by conv=>lhs;simp (maxSteps:=2000000) (disch:=omega) only [go_sem,Nat.reduceAdd,Nat.reduceSub,Nat.reduceMul,Int.reduceToNat,Nat.reduceEqDiff,Nat.reduceBEq,Nat.reduceBneDiff,Nat.reduceLT,Int.reduceEq,Int.reduceLT,Int.reduceLE,Int.reduceNeg,Int.reduceAdd,Int.reduceSub,Int.reduceMul,List.replicate]):p:=Eq.mpr h k
theorem hfk {p r:Prop} (k:q) (l:r) (h:q->r->p:=by with_reducible first | exact fun a b=>vtf a b | exact fun a b=>yjl a b | exact fun a b=>vpb a b | exact fun a b=>v1v a b | exact fun a b=>zbb a b | exact fun a b=>v1z a b | exact fun a b=>vnx a b | exact fun a b=>wzf a b | exact fun a b=>wdg a b):p:=h k l
theorem hik {ops:List Oper} {acc:List HR} {k:Bool->Prop} (hk:k true) (h:wfm ops acc=true:=by kernel_rfl):ybj ops acc k:=⟨h,hk⟩
theorem svl {a b:List SV} (h:vma a b:=by repeat' first | exact .nil | refine .cons (by first | exact .refl _ | exact .any _) ?_):vma a b:=h
theorem RLe.ofEq (h:x=y):RLe x y:=h▸.one (.refl _)
theorem wgp {p:Prop} [Decidable p]:(!decide p)=decide (¬p):=by by_cases h:p<;>simp [h]
theorem lfE {p:Prop} (k:p) (h:(x=y)=p:=by conv=>lhs;simp only [Bool.and_true,Bool.true_and,Bool.and_false,Bool.false_and,Bool.or_true,Bool.true_or,Bool.or_false,Bool.false_or,Bool.not_true,Bool.not_false,decide_true,decide_false,not_true_eq_false,not_false_eq_true,wgp,if_true,if_false,Bool.and_self,Bool.or_self,cond_true,cond_false,List.length_map,ne_eq,Int.reduceEq,Int.reduceLT,Int.reduceLE, *]):RLe x y:=RLe.ofEq (h.symm▸k)
theorem lf1 {p:Prop} (ra:a) (k:p) (h:a->(x=y)=p:=by intro z1;conv=>lhs;simp only [Bool.and_true,Bool.true_and,Bool.and_false,Bool.false_and,Bool.or_true,Bool.true_or,Bool.or_false,Bool.false_or,Bool.not_true,Bool.not_false,decide_true,decide_false,not_true_eq_false,not_false_eq_true,wgp,if_true,if_false,Bool.and_self,Bool.or_self,cond_true,cond_false,List.length_map,ne_eq,Int.reduceEq,Int.reduceLT,Int.reduceLE, *]):RLe x y:=RLe.ofEq ((h ra).symm▸k)
theorem lf2 {p:Prop} (ra:a) (rb:b) (k:p) (h:a->b->(x=y)=p:=by intro z1 z2;conv=>lhs;simp only [Bool.and_true,Bool.true_and,Bool.and_false,Bool.false_and,Bool.or_true,Bool.true_or,Bool.or_false,Bool.false_or,Bool.not_true,Bool.not_false,decide_true,decide_false,not_true_eq_false,not_false_eq_true,wgp,if_true,if_false,Bool.and_self,Bool.or_self,cond_true,cond_false,List.length_map,ne_eq,Int.reduceEq,Int.reduceLT,Int.reduceLE, *]):RLe x y:=RLe.ofEq ((h ra rb).symm▸k)
theorem bsE {p:Prop} (k:p) (h:q=p:=by conv=>lhs;simp only [Bool.and_true,Bool.true_and,Bool.and_false,Bool.false_and,Bool.or_true,Bool.true_or,Bool.or_false,Bool.false_or,Bool.not_true,Bool.not_false,decide_true,decide_false,not_true_eq_false,not_false_eq_true,wgp,if_true,if_false,Bool.and_self,Bool.or_self,cond_true,cond_false,List.length_map,ne_eq,Int.reduceEq,Int.reduceLT,Int.reduceLE, *]):q:=h.symm▸k
theorem bs1 {p:Prop} (ra:a) (k:p) (h:a->q=p:=by intro z1;conv=>lhs;simp only [Bool.and_true,Bool.true_and,Bool.and_false,Bool.false_and,Bool.or_true,Bool.true_or,Bool.or_false,Bool.false_or,Bool.not_true,Bool.not_false,decide_true,decide_false,not_true_eq_false,not_false_eq_true,wgp,if_true,if_false,Bool.and_self,Bool.or_self,cond_true,cond_false,List.length_map,ne_eq,Int.reduceEq,Int.reduceLT,Int.reduceLE, *]):q:=(h ra).symm▸k
theorem bs2 {p:Prop} (ra:a) (rb:b) (k:p) (h:a->b->q=p:=by intro z1 z2;conv=>lhs;simp only [Bool.and_true,Bool.true_and,Bool.and_false,Bool.false_and,Bool.or_true,Bool.true_or,Bool.or_false,Bool.false_or,Bool.not_true,Bool.not_false,decide_true,decide_false,not_true_eq_false,not_false_eq_true,wgp,if_true,if_false,Bool.and_self,Bool.or_self,cond_true,cond_false,List.length_map,ne_eq,Int.reduceEq,Int.reduceLT,Int.reduceLE, *]):q:=(h ra rb).symm▸k
theorem hg1 {p:Prop} (ra:a) (k:q) (h:a->p=q:=by intro z1;conv=>lhs;simp (maxSteps:=2000000) (disch:=omega) only [go_sem,Nat.reduceAdd,Nat.reduceSub,Nat.reduceMul,Int.reduceToNat,Nat.reduceEqDiff,Nat.reduceBEq,Nat.reduceBneDiff,Nat.reduceLT,Int.reduceEq,Int.reduceLT,Int.reduceLE,Int.reduceNeg,Int.reduceAdd,Int.reduceSub,Int.reduceMul,z1]):p:=Eq.mpr (h ra) k
theorem hg2 {p:Prop} (ra:a) (rb:b) (k:q) (h:a->b->p=q:=by intro z1 z2;conv=>lhs;simp (maxSteps:=2000000) (disch:=omega) only [go_sem,Nat.reduceAdd,Nat.reduceSub,Nat.reduceMul,Int.reduceToNat,Nat.reduceEqDiff,Nat.reduceBEq,Nat.reduceBneDiff,Nat.reduceLT,Int.reduceEq,Int.reduceLT,Int.reduceLE,Int.reduceNeg,Int.reduceAdd,Int.reduceSub,Int.reduceMul,z1,z2]):p:=Eq.mpr (h ra rb) k
theorem hg3 {c p:Prop} (ra:a) (rb:b) (rc:c) (k:q) (h:a->b->c->p=q:=by intro z1 z2 z3;conv=>lhs;simp (maxSteps:=2000000) (disch:=omega) only [go_sem,Nat.reduceAdd,Nat.reduceSub,Nat.reduceMul,Int.reduceToNat,Nat.reduceEqDiff,Nat.reduceBEq,Nat.reduceBneDiff,Nat.reduceLT,Int.reduceEq,Int.reduceLT,Int.reduceLE,Int.reduceNeg,Int.reduceAdd,Int.reduceSub,Int.reduceMul,z1,z2,z3]):p:=Eq.mpr (h ra rb rc) k
def swL (i j:Nat) (J:List SB):List SB:=(List.range J.length).map fun k=>swSB i j (gB J (sw i j k))
theorem wny {k n:Nat} (hi:i<n) (hj:j<n) (hk:k<n):sw i j k<n:=by unfold sw;split<;>(try split)<;>omega
theorem StH.xn1 (hi:e.length<=i) (hj:e.length<=j) (hil:i<J.length) (hjl:j<J.length):StH Γ e I J (I.map (swSV i j)) (swL i j J):=by
 refine StH.swap hi hj hil hjl (fun b x hb=>.inl ?_) (by simp [swL]);have hbl:b<J.length:=(List.getElem?_eq_some_iff.1 hb).1;unfold swL;rw [List.getElem?_map,List.getElem?_range (wny hil hjl hbl)];simp only [Option.map_some,xfs];unfold gB;rw [hb];rfl
def x2g (m:Nat) (I:List SV) (J:List SB):Bool:=(I.all fun x=>(vp6 x).all fun b=>Nat.blt b m)&&((J.take m).all fun x=>(z0y x).all fun b=>Nat.blt b m)
theorem StH.cutB (m:Nat) (hm:e.length<=m) (h:x2g m I J=true):StH Γ e I J I (J.take m):=by
 unfold x2g at h;rw [Bool.and_eq_true,List.all_eq_true,List.all_eq_true] at h;refine StH.cut hm (fun i x hx b hb=>?_) (fun i x hi hx=>.inr fun b hb=>?_)
 . have:=h.1 x (List.mem_of_getElem? hx)
   rw [List.all_eq_true] at this;simpa using this b hb
 . have:=h.2 x (List.mem_of_getElem? (by rw [List.getElem?_take_of_lt hi];exact hx))
   rw [List.all_eq_true] at this;simpa using this b hb
theorem StH.back (ks:List Nat) (i j m:Nat) (hi:Nat.ble e.length i=true) (hj:Nat.ble e.length j=true) (hm:Nat.ble e.length m=true) (hil:Nat.blt i J.length=true) (hjl:Nat.blt j J.length=true) (h:x2g m ((wue ks 0 I).map (swSV i j)) (swL i j J)=true)
 (hk:StH Γ e ((wue ks 0 I).map (swSV i j)) ((swL i j J).take m) I' J'):StH Γ e I J I' J':=
 StH.trans (StH.only ks) (StH.trans (StH.xn1 (by simpa using hi) (by simpa using hj) (by simpa using hil) (by simpa using hjl)) (StH.trans (StH.cutB m (by simpa using hm) h) hk))
theorem StH.same (h:vma I I') (hη:J=J'):StH Γ e I J I' J':=hη▸StH.wph h
theorem StH.done (m:Nat) (hm:Nat.ble e.length m=true) (h:x2g m I J=true) (hσ:I=I') (hη:J.take m=J'):StH Γ e I J I' J':=
 hσ▸hη▸StH.cutB m (by simpa using hm) h
theorem yp3.of {φ:List Nat} (h:φ.map (fun j=>J[j]?)=ηs.map (fun x=>some (rnSB (atR φ J.length) x))):yp3 φ J ηs:=by
 have hl:ηs.length=φ.length:=by
  have:=congrArg List.length h
  simpa using this.symm
 refine ⟨hl,fun i x hx=>?_⟩;have hi:i<ηs.length:=(List.getElem?_eq_some_iff.1 hx).1;refine ⟨φ[i]'(by omega),List.getElem?_eq_getElem _,?_⟩;have h1:=congrArg (fun l=>l[i]?) h;simp only [List.getElem?_map,hx,Option.map_some] at h1;rw [List.getElem?_eq_getElem (by omega)] at h1;simpa using h1
theorem vfe.at (φ:List Nat) {args:List SV} (h:vfe Γ P f ηs args ηs' res) (hn:φ.Nodup) (hb:(φ.all fun j=>Nat.blt j J.length)=true)
 (hp:φ.map (fun j=>J[j]?)=ηs.map (fun x=>some (rnSB (atR φ J.length) x))) (hlen:Nat.ble φ.length ηs'.length=true):vfe Γ P f J (args.map (yo9 (atR φ J.length))) (putR φ J ηs') (rnSV (atR φ J.length) res):=
 vfe.frame hn (fun j hj=>by simpa using List.all_eq_true.1 hb j hj) (yp3.of hp) (by simpa using hlen) h
theorem z4m (φ:List Nat) {args l:List SV} {K:Bool->List SB->SV->Prop} (h:vfe Γ P f ηs args ηs' res) (hl:args.map (yo9 (atR φ J.length))=l) (hn:φ.Nodup) (hb:(φ.all fun j=>Nat.blt j J.length)=true)
 (hp:φ.map (fun j=>J[j]?)=ηs.map (fun x=>some (rnSB (atR φ J.length) x))) (hlen:Nat.ble φ.length ηs'.length=true) (hk:K true (putR φ J ηs') (rnSV (atR φ J.length) res)):x0t Γ P f J l K:=
 hl▸xwg (vfe.at φ h hn hb hp hlen) hk
theorem z9f {a b:ByteArray}:seq a b=decide (a=b):=by
 unfold seq;rw [ByteArray.toList_eq,ByteArray.toList_eq];by_cases h:a=b
 . rw [h];simp
 . rw [decide_eq_false h]
   have:a.data.toList≠b.data.toList:=fun he=>h (ByteArray.ext (Array.toList_inj.1 he))
   simpa using this
theorem xo8 {s:ByteArray}:seq s ⟨#[]⟩=decide (s.size=0):=by
 rw [z9f];refine decide_eq_decide.2 ⟨fun h=>by rw [h];rfl,fun h=>ByteArray.ext (Array.eq_empty_of_size_eq_zero h)⟩
theorem w8 {n:Int} (h:0<=n/\n<=255):IntKind.u8.wrap n=n:=by rw [IntKind.wrap_u8];omega
attribute [go_sem] w8
theorem yi7 {n:Nat}:((n:Int)-1).toNat=n-1:=by omega
theorem x6m {n:Nat}:((n:Int)+1).toNat=n+1:=by omega
attribute [go_sem] yi7 x6m
theorem vn6 {t:Nat}:gt (I.map vw) t=vw (gtS I t):=yy2 t
attribute [go_sem] vn6 wjz valB elemAt xo8 wgp List.size_toArray List.length_map List.getD_cons_zero List.getD_cons_succ vez za8 wig eqOf litH xl4 vmp wa7 usdH usH xzq w01 ynd wlg eqL putR atR rnSB rnHC yo9 rnSV List.zip_cons_cons List.zip_nil_left List.zip_nil_right List.drop_succ_cons swSV wmy swHC swSB sw List.map_nil
end Go.Hp
namespace Go.Hp.T
open Go Go.RowKit Go.Slot Go.Hp
set_option maxRecDepth 10000
theorem toD {Γ:List (Nat×List Cell)} {P:Program} {f:FuncId} {args:List AV} {res:AV} (h:yn2 P f args res):CallsD Γ P f args res:=Hp.yn2.d h
abbrev cI (n:Int):Cell:=.raw (.int .i64 n)
abbrev c8 (n:Int):Cell:=.raw (.int .u8 n)
abbrev cS (s:ByteArray):Cell:=.raw (.string s)
abbrev cB (b:Bool):Cell:=.raw (.bool b)
abbrev fN (f:FuncId):AV:=.one (.raw (.func (.func f) #[] #[]))
def wwz (s:ByteArray):List Int:=(List.range s.size).map (x41 s)
theorem vnk (s:ByteArray):(wwz s).length=s.size:=by simp [wwz]
theorem xq9 (s:ByteArray) (i:Nat) (h:i<s.size):(wwz s)[i]? = some (x41 s i):=by simp [wwz,h]
def z1a (p:Int->Bool) (s:ByteArray):Nat:=((wwz s).takeWhile p).length
theorem w9i {α:Type} (p:α->Bool):∀(l:List α) (n:Nat),n<=l.length->(∀ j x,j<n->l[j]? = some x->p x=true)->(n=l.length\/∃ x,l[n]? = some x/\p x=false)->(l.takeWhile p).length=n
 | [],n,hn,_,_=>by simp at hn;simp [hn]
 | a::l,0,_,_,h=>by
  rcases h with h | ⟨x,hx,hp⟩
  . simp at h
  . simp at hx;subst hx;simp [List.takeWhile,hp]
 | a::l,n+1,hn,hj,h=>by
  have ha:p a=true:=hj 0 a (by omega) rfl;rw [List.takeWhile_cons_of_pos ha,List.length_cons,w9i p l n (by simpa using hn) (fun j x h1 h2=>hj (j+1) x (by omega) (by simpa using h2)) ?_]
  rcases h with h | ⟨x,hx,hp⟩
  . exact .inl (by simpa using h)
  . exact .inr ⟨x,by simpa using hx,hp⟩
theorem xwo {p:Int->Bool} {s:ByteArray} {n:Nat} (hn:n<=s.size) (hj:∀ j,j<n->p (x41 s j)=true) (h:n=s.size\/p (x41 s n)=false):z1a p s=n:=by
 refine w9i p _ n (by rw [vnk];exact hn) (fun j x h1 h2=>?_) ?_
 . rw [xq9 s j (by omega)] at h2;cases h2;exact hj j h1
 . by_cases e:n=s.size
   . exact .inl (by rw [vnk];exact e)
   . rcases h with h | h
     . exact absurd h e
     . exact .inr ⟨_,xq9 s n (by omega),h⟩
theorem wtz (p:Int->Bool) (s:ByteArray):z1a p s<=s.size:=by
 have:=(List.takeWhile_sublist p (l:=wwz s)).length_le
 rw [vnk] at this;exact this
def yio (c:Int):Bool:=(decide (97<=c)&&decide (c<=122))||(decide (65<=c)&&decide (c<=90))
def isDigit (c:Int):Bool:=decide (48<=c)&&decide (c<=57)
def ycl (c:Int):Bool:=yio c||isDigit c||decide (c=95)
def ztv (c:Int):Bool:=decide (32<=c)&&decide (c<=126)
def isName (s:ByteArray):Bool:=decide (¬s.size=0)&&yio (x41 s 0)&&decide ((s.size:Int)<=20)&&decide ((z1a ycl s:Int)=s.size)
def wku (s:ByteArray):Bool:=!(decide (400<(s.size:Int))||decide (¬(z1a ztv s:Int)=s.size))
def escB (c:Int):List Int:=bif decide (c=34)||decide (c=92) then [92,c] else [c]
def escA (s:ByteArray) (i:Nat):List Int:=34::((wwz s).take i).flatMap escB
def escS (s:ByteArray):ByteArray:=strOfNums (escA s s.size++[34])
theorem xm4 {s:ByteArray} {i:Nat} (h:i<s.size):escA s (i+1)=escA s i++escB (x41 s i):=by
 unfold escA
 have:(wwz s).take (i+1)=(wwz s).take i++[x41 s i]:=by
  rw [List.take_add_one,xq9 s i h];rfl
 rw [this];simp
theorem wpk (s:ByteArray) (i:Nat):yua (x41 s i)=true:=by
 unfold yua x41
 have:=((s.data[i]?).getD 0).toNat_lt
 simp;omega
theorem v73 {c:Int} (h:yua c=true):(escB c).all yua=true:=by
 unfold escB
 have h':0<=c/\c<256:=by simpa [yua] using h
 cases decide (c=34)||decide (c=92)<;>simp [yua,h']
theorem xmf (s:ByteArray) (i:Nat):(escA s i).all yua=true:=by
 have hb:∀ c∈wwz s,yua c=true:=fun c hc=>by
  simp only [wwz,List.mem_map] at hc;obtain ⟨j,_,rfl⟩:=hc;exact wpk s j
 unfold escA;rw [List.all_cons,Bool.and_eq_true];refine ⟨rfl,?_⟩;rw [List.all_flatMap,List.all_eq_true]
 exact fun c hc=>v73 (hb c (List.mem_of_mem_take hc))
theorem x13 (c:Int):(escB c).length<=2:=by unfold escB;cases decide (c=34)||decide (c=92)<;>simp
theorem xne:∀ l:List Int,(l.flatMap escB).length<=2*l.length
 | []=>by simp
 | c::l=>by
  have:=xne l
  have:=x13 c
  simp only [List.flatMap_cons,List.length_append,List.length_cons];omega
theorem yil (s:ByteArray) (i:Nat):1<=(escA s i).length/\(escA s i).length<=1+2*s.size:=by
 unfold escA
 have:=xne ((wwz s).take i)
 have h2:((wwz s).take i).length<=s.size:=by rw [List.length_take,vnk];omega
 simp only [List.length_cons];omega
end Go.Hp.T
