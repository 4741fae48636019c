/- The proof, part Q24: P4, Pn, Pp, Po, Pr, Ps, Ij. -/
import Derived.Test.YtkbkjjahlafhoaaGreatDoorQ17
import Derived.Test.YtkbkjjahlafhoaaGreatDoorQ23
import Derived.Test.YtkbkjjahlafhoaaGreatDoorQ22
namespace Go.Hp.T
open Go Go.RowKit Go.Slot Go.Hp Go.Slot.T
open Go.Proofs.Tryz
variable {l:List Int} {f a:Nat}
attribute [local irreducible] hide RH
set_option maxRecDepth 10000
set_option maxHeartbeats 8000000
variable {Γ:List (Nat×List Cell)}
theorem zxo:∀(k:Nat) (l:List Int),l.length<=k->∀ r,quoL l=some r->r.2<=l.length
 | 0,l,h,r,hr=>by
  have e:l=[]:=List.eq_nil_of_length_eq_zero (by omega);rw [e,xzk] at hr;cases hr
 | k+1,[],_,r,hr=>by rw [xzk] at hr;cases hr
 | k+1,c::l,h,r,hr=>by
  have h:l.length<=k:=by simpa using h
  cases hp:zhf c with
  | false=>rw [zpu hp] at hr;cases hr
  | true=>
   by_cases h34:c=34
   . subst h34;rw [zy9] at hr;cases hr;simp
   . by_cases h92:c=92
     . subst h92
       cases l with
       | nil=>rw [vwr] at hr;cases hr
       | cons d m=>
        by_cases hd:d=34\/d=92
        . rw [x2k hd] at hr;obtain ⟨q,h1,rfl⟩:=Option.map_eq_some_iff.1 hr
          have:=zxo k m (by simp at h;omega) q h1
          simp;omega
        . rw [zih (fun h=>hd (.inl h)) (fun h=>hd (.inr h))] at hr;cases hr
     . rw [zq9 hp h34 h92] at hr;obtain ⟨q,h1,rfl⟩:=Option.map_eq_some_iff.1 hr
       have:=zxo k l h q h1
       simp;omega
theorem x04 {p:Int->Bool} (hl:l≠[]) (h:p (l.headD 0)=true):1<=(l.takeWhile p).length:=by
 cases l with
 | nil=>exact absurd rfl hl
 | cons c l=>
  have h:p c=true:=h;rw [List.takeWhile_cons_of_pos h];simp
theorem z8s (hl:l≠[]) (h:(y8v l).2.2=0):1<=(y8v l).2.1/\(y8v l).2.1<=l.length:=by
 unfold y8v at h ⊢
 cases h1:wxk (l.headD 0) with
 | true=>
  rw [h1] at h;rw [cond_true] at h ⊢
  cases h2:decide (((l.takeWhile y7x).length:Int)<=20) with
  | true=>exact ⟨x04 hl (xh0 h1),xtl _ _⟩
  | false=>rw [h2] at h;cases h
 | false=>
  rw [h1] at h;rw [cond_false] at h ⊢
  cases h3:isDigit (l.headD 0) with
  | true=>
   rw [h3] at h;rw [cond_true] at h ⊢
   cases h2:numO (l.takeWhile isDigit) with
   | true=>exact ⟨x04 hl h3,xtl _ _⟩
   | false=>rw [h2] at h;cases h
  | false=>
   rw [h3] at h;rw [cond_false] at h ⊢
   cases h4:decide (l.headD 0=34) with
   | true=>
    rw [h4] at h;rw [cond_true] at h ⊢
    cases hq:quoL l.tail with
    | none=>rw [hq] at h;cases h
    | some r=>
     obtain ⟨v,n⟩:=r
     have:=zxo _ _ (Nat.le_refl _) _ hq
     rw [hq] at h;simp only at h this ⊢
     cases h5:decide (400<(v.length:Int)) with
     | true=>rw [h5] at h;cases h
     | false=>
      rw [List.length_tail] at this
      have:0<l.length:=List.length_pos_iff.2 hl
      rw [cond_false];simp only;omega
   | false=>
    rw [h4] at h;rw [cond_false] at h ⊢
    cases h6:yrt (l.headD 0) with
    | true=>exact ⟨Nat.le_refl _,List.length_pos_iff.2 hl⟩
    | false=>rw [h6] at h;cases h
def apS (acc:List Tk):Sn->Sn
 | .inl ts=>.inl (acc++ts)
 | .inr x=>.inr x
theorem yms (a b:List Tk) (r:Sn):apS a (apS b r)=apS (a++b) r:=by
 cases r with
 | inl ts=>simp [apS]
 | inr x=>rfl
theorem znz (h:l.length<=gapL (l.length+1) l):v8f (f+1) l a=.inl []:=by
 rw [v8f];simp only;rw [List.drop_eq_nil_of_le h];rfl
theorem v78 (h:gapL (l.length+1) l<l.length) (he:¬(y8v (l.drop (gapL (l.length+1) l))).2.2=0):v8f (f+1) l a=.inr (a+gapL (l.length+1) l,(y8v (l.drop (gapL (l.length+1) l))).2.2):=by
 rw [v8f];simp only;rw [show (l.drop (gapL (l.length+1) l)).isEmpty=false by rw [List.isEmpty_eq_false_iff_exists_mem];exact ⟨_,List.getElem_mem (show 0<(l.drop (gapL (l.length+1) l)).length by rw [List.length_drop];omega)⟩,cond_false,decide_eq_true he];rfl
theorem vdh (h:gapL (l.length+1) l<l.length) (he:(y8v (l.drop (gapL (l.length+1) l))).2.2=0) :
 v8f (f+1) l a=apS [{ (y8v (l.drop (gapL (l.length+1) l))).1 with p:=((a+gapL (l.length+1) l:Nat):Int) }] (v8f f (l.drop (gapL (l.length+1) l+(y8v (l.drop (gapL (l.length+1) l))).2.1)) (a+gapL (l.length+1) l+(y8v (l.drop (gapL (l.length+1) l))).2.1)):=by
 rw [v8f];simp only;rw [show (l.drop (gapL (l.length+1) l)).isEmpty=false by rw [List.isEmpty_eq_false_iff_exists_mem];exact ⟨_,List.getElem_mem (show 0<(l.drop (gapL (l.length+1) l)).length by rw [List.length_drop];omega)⟩,cond_false,decide_eq_false (fun h=>h he),cond_false]
 cases v8f f (l.drop (gapL (l.length+1) l+(y8v (l.drop (gapL (l.length+1) l))).2.1)) (a+gapL (l.length+1) l+(y8v (l.drop (gapL (l.length+1) l))).2.1)<;>rfl
theorem wqt (s:ByteArray) (hG:vjd Γ 0=.elt sgC) (hs:s.size<=1073741824):CallsD Γ prog 109 [.one (cS s)] (snR (yjj s)):=by
 have cg:∀ a,a<=s.size->CallsD Γ prog 157 [.one (cS (v7v s a))] (.one (cI (gapL (((zcd s).drop a).length+1) ((zcd s).drop a)))):=fun a ha=>by
  have:=cGap (Γ:=Γ) (v7v s a) (by rw [wsw];omega)
  rw [yym,wsw,<-yjp,<-List.length_drop] at this;exact this
 have cn:∀ a,a<s.size->CallsD Γ prog 158 [.one (cS (v7v s a))] (nxR (y8v ((zcd s).drop a))):=fun a ha=>by
  have:=w1z (Γ:=Γ) (v7v s a) hG (by rw [wsw];omega) (by rw [wsw];omega)
  rw [yym] at this;exact this
 have hlen:∀ a,((zcd s).drop a).length=s.size-a:=fun a=>by rw [List.length_drop,yjp]
 unfold yjj;by_cases h4:4000<(s.size:Int)
 . rw [decide_eq_true h4];clear cg cn hlen;refine hE [] func109 f109.eq_1 ?_
   (refine hfk ?_ ?_<;>intros)<;>refine hgS ?_
   all_goals first
    | (exfalso;omega)
    | exact .tup (.cons (.one (.nilSl _)) (.cons (.refl _) (.cons (.refl _) .nil)))
 . rw [decide_eq_false h4,cond_false];generalize hR:v8f (s.size+1) (zcd s) 0=R;refine hE [] func109 f109.eq_1 ?_
   (refine hfk ?_ ?_<;>intros)<;>refine hgS ?_
   all_goals try (exfalso;omega)
   refine wf5 [0] (fun x:Nat×List Tk=>[(5,.one (.sl 0 4 0 x.2.length)),(6,.one (.dat (cI x.1)))]) (fun x=>[.arr (.sl 4 (x.2.map Tk.C)) 0 (some 200)])
    (fun x=>x.1<=s.size/\x.2.length<=x.1/\∃ f,s.size-x.1<f/\apS x.2 (v8f f ((zcd s).drop x.1) x.1)=R) (fun x=>s.size-x.1) (0,[]) ⟨Nat.zero_le _,Nat.le_refl _,s.size+1,by omega,by rw [List.drop_zero,hR];cases R<;>rfl⟩ ?_ ?_
   . refine hg ?_;refine StH.trans (StH.empty (d:=5) (es:=4) (c:=.sl 4 []) (T:=some 200) rfl rfl (fun r hr=>by cases hr) rfl) ?_;refine hg ?_;exact sS
   rintro ⟨a,ts⟩ ⟨a1,a2,f,a3,a4⟩;simp only at a1 a2 a3 a4;clear hR h4;obtain ⟨f,rfl⟩:∃ g,f=g+1:=⟨f-1,by omega⟩;have c1:=cg a a1;have hgl:=x7a (((zcd s).drop a).length+1) ((zcd s).drop a);have hl:=hlen a
   have e1:=fun h=>znz (f:=f) (a:=a) (l:=(zcd s).drop a) h
   have e2:=fun h h'=>v78 (f:=f) (a:=a) (l:=(zcd s).drop a) h h'
   have e3:=fun h h'=>vdh (f:=f) (a:=a) (l:=(zcd s).drop a) h h'
   have nb:=fun hne h=>z8s (l:=((zcd s).drop a).drop (gapL (((zcd s).drop a).length+1) ((zcd s).drop a))) hne h
   have c2:=fun h=>cn (a+gapL (((zcd s).drop a).length+1) ((zcd s).drop a)) h
   clear cn cg;rw [<-List.drop_drop] at c2;generalize gapL (((zcd s).drop a).length+1) ((zcd s).drop a)=g at *;rw [hl] at hgl
   have et:((a:Int)+(g:Int)).toNat=a+g:=by omega
   by_cases hgp:g<((zcd s).drop a).length
   . rw [hl] at hgp;have c3:=c2 (by omega);clear c2
     replace nb:=nb (fun h=>by have:=congrArg List.length h;rw [List.length_drop,hl] at this;simp at this;omega)
     by_cases he:(y8v (((zcd s).drop a).drop g)).2.2=0
     . have t3:=e3 (by rw [hl];exact hgp) he;have nn:=nb he;rw [List.length_drop,hl] at nn;clear e1 e2 e3 nb;generalize y8v (((zcd s).drop a).drop g)=r at *;obtain ⟨⟨k,t,n,q⟩,m,e⟩:=r;simp only at he nn t3 c3;subst he;rw [t3,yms,List.drop_drop] at a4;clear t3;refine hg ?_
       repeat' ((first|refine hfk ?_ ?_<;>intros|with_reducible refine wdy c1 ?_|with_reducible refine wdy c3 ?_)<;>refine hgS ?_)
       all_goals try (exfalso;omega)
       refine ⟨(a+g+m,ts++[⟨k,t,n,(a:Int)+g⟩]),⟨by dsimp only;omega,by simp only [List.length_append,List.length_singleton];omega,f,by dsimp only;omega,by rw [<-a4];simp only [Nat.add_assoc,Int.natCast_add]⟩,by dsimp only;omega,?_⟩;refine StH.back [0,5,6] 0 2 1 rfl rfl rfl rfl rfl (by kernel_rfl) ?_;simp only [List.map_append,List.map_cons,List.map_nil,Tk.C_eq];refine hg2 @List.length_append.{0} @List.length_singleton.{0} ?_;exact sS
     . have t2:=e2 (by rw [hl];exact hgp) he;clear e1 e2 e3 nb;generalize y8v (((zcd s).drop a).drop g)=r at *;obtain ⟨⟨k,t,n,q⟩,m,e⟩:=r;simp only at he t2 c3;rw [t2] at a4;clear t2;subst a4;refine hg ?_
       repeat' ((first|refine hfk ?_ ?_<;>intros|with_reducible refine wdy c1 ?_|with_reducible refine wdy c3 ?_)<;>refine hgS ?_)
       all_goals try (exfalso;omega)
       exact .tup (.cons (.one (.nilSl _)) (.cons (.refl _) (.cons (.refl _) .nil)))
   . have t1:=e1 (by omega);rw [t1] at a4;clear t1 e1 e2 e3 nb c2;subst a4;refine hg ?_
     repeat' ((first|refine hfk ?_ ?_<;>intros|with_reducible refine wdy c1 ?_)<;>refine hgS ?_)
     all_goals try (exfalso;omega)
     exact RLe.ofEq (by simp [apS,snR])
end Go.Hp.T
namespace Go.Hp.T
open Go Go.RowKit Go.Slot Go.Hp Go.Slot.T
open Go.Proofs.Tryz (prog)
set_option maxRecDepth 10000
set_option maxHeartbeats 8000000
variable {Γ:List (Nat×List Cell)}
theorem strOfNums_size (l:List Int):(strOfNums l).size=l.length:=by
 show ((l.map fun n=>UInt8.ofNat n.toNat).toArray).size=_;simp
theorem wdp (l:List Int):(y8v l).1.t.size<=l.length+401:=by
 have e0:(default:Tk).t.size=0:=rfl;unfold y8v
 cases wxk (l.headD 0) with
 | true=>
  rw [cond_true]
  have:=xtl y7x l
  cases decide (((l.takeWhile y7x).length:Int)<=20) with
  | true=>rw [cond_true];show (strOfNums _).size<=_;rw [strOfNums_size];omega
  | false=>rw [cond_false];show (default:Tk).t.size<=_;omega
 | false=>
  rw [cond_false]
  cases isDigit (l.headD 0) with
  | true=>
   rw [cond_true]
   have:=xtl isDigit l
   cases numO (l.takeWhile isDigit) with
   | true=>rw [cond_true];show (strOfNums _).size<=_;rw [strOfNums_size];omega
   | false=>rw [cond_false];show (default:Tk).t.size<=_;omega
  | false=>
   rw [cond_false]
   cases decide (l.headD 0=34) with
   | true=>
    rw [cond_true]
    cases quoL l.tail with
    | none=>show (default:Tk).t.size<=_;omega
    | some r=>
     obtain ⟨v,n⟩:=r;dsimp only;by_cases h:400<(v.length:Int)
     . rw [decide_eq_true h];show (default:Tk).t.size<=_;omega
     . rw [decide_eq_false h,cond_false];show (strOfNums _).size<=_;rw [strOfNums_size];omega
   | false=>
    rw [cond_false]
    cases yrt (l.headD 0) with
    | true=>rw [cond_true];show (strOfNums _).size<=_;rw [strOfNums_size,List.length_take];omega
    | false=>rw [cond_false];show (default:Tk).t.size<=_;omega
theorem zld:∀(f:Nat) (l:List Int) (a:Nat),(match v8f f l a with
 | .inl ts=>ts.length<=f/\∀ x∈ts,x.t.size<=l.length+401
 | .inr x=>x.2≠0)
 | 0,l,a=>⟨Nat.le_refl _,fun x h=>by cases h⟩
 | f+1,l,a=>by
  rw [v8f];dsimp only;generalize gapL (l.length+1) l=g
  cases (l.drop g).isEmpty with
  | true=>exact ⟨Nat.zero_le _,fun x h=>by cases h⟩
  | false=>
   rw [cond_false];have h1:=wdp (l.drop g);generalize y8v (l.drop g)=r at *;obtain ⟨t,n,e⟩:=r;dsimp only at h1 ⊢;rw [List.length_drop] at h1;by_cases he:e=0
   . have h2:=zld f (l.drop (g+n)) (a+g+n);rw [decide_eq_false (fun h=>h he),cond_false];generalize v8f f (l.drop (g+n)) (a+g+n)=s at *
     cases s with
     | inr x=>exact h2
     | inl ts=>
      dsimp only at h2 ⊢;refine ⟨by rw [List.length_cons];omega,fun x hx=>?_⟩
      rcases List.mem_cons.1 hx with rfl | hx
      . show t.t.size<=_;omega
      . have:=h2.2 x hx
        rw [List.length_drop] at this;omega
   . rw [decide_eq_true he,cond_true];exact he
end Go.Hp.T
namespace Go.Hp.T
open Go Go.RowKit Go.Slot Go.Hp Go.Slot.T
set_option maxRecDepth 10000
variable {L:List Tk} {i:Nat}
structure Imp where
 name:ByteArray
 unit:ByteArray
 amount:Int
 house:Int
 port:ByteArray
 version:Int
structure Inp where
 name:ByteArray
 unit:ByteArray
 kind:ByteArray
structure Prm where
 name:ByteArray
 unit:ByteArray
structure Fnc where
 name:ByteArray
 params:List Prm
 body:Ex
structure Cel where
 name:ByteArray
 unit:ByteArray
 x:Ex
structure Por where
 name:ByteArray
 unit:ByteArray
 amount:Int
structure Sto where
 name:ByteArray
 unit:ByteArray
 rule:Int
structure Stp where
 kind:Int
 inn:List ByteArray
 out:List ByteArray
 name:ByteArray
 cells:List ByteArray
 amount:Int
structure Rcp where
 kind:ByteArray
 steps:List Stp
structure Sht where
 name:ByteArray
 imports:List Imp
 inputs:List Inp
 tables:List Tb
 funcs:List Fnc
 cells:List Cel
 ports:List Por
 stores:List Sto
 recipes:List Rcp
abbrev zjy (l:List ByteArray):Cell:=.sl 1 (l.map fun s=>[cS s])
def Imp.C (x:Imp):List Cell:=[cS x.name,cS x.unit,cI x.amount,cI x.house,cS x.port,cI x.version]
abbrev impC (x:Imp):List Cell:=[cS x.name,cS x.unit,cI x.amount,cI x.house,cS x.port,cI x.version]
theorem Imp.C_eq (x:Imp):x.C=impC x:=rfl
def Inp.C (x:Inp):List Cell:=[cS x.name,cS x.unit,cS x.kind]
abbrev inpC (x:Inp):List Cell:=[cS x.name,cS x.unit,cS x.kind]
theorem Inp.C_eq (x:Inp):x.C=inpC x:=rfl
def Prm.C (x:Prm):List Cell:=[cS x.name,cS x.unit]
abbrev prmC (x:Prm):List Cell:=[cS x.name,cS x.unit]
theorem Prm.C_eq (x:Prm):x.C=prmC x:=rfl
def Por.C (x:Por):List Cell:=[cS x.name,cS x.unit,cI x.amount]
abbrev porC (x:Por):List Cell:=[cS x.name,cS x.unit,cI x.amount]
theorem Por.C_eq (x:Por):x.C=porC x:=rfl
def Sto.C (x:Sto):List Cell:=[cS x.name,cS x.unit,cI x.rule]
abbrev stoC (x:Sto):List Cell:=[cS x.name,cS x.unit,cI x.rule]
theorem Sto.C_eq (x:Sto):x.C=stoC x:=rfl
def Stp.C (x:Stp):List Cell:=[cI x.kind,zjy x.inn,zjy x.out,cS x.name,zjy x.cells,cI x.amount]
abbrev stpC (x:Stp):List Cell:=[cI x.kind,zjy x.inn,zjy x.out,cS x.name,zjy x.cells,cI x.amount]
theorem Stp.C_eq (x:Stp):x.C=stpC x:=rfl
def Rcp.C (x:Rcp):List Cell:=[cS x.kind,.sl 6 (x.steps.map Stp.C)]
abbrev rcpC (x:Rcp):List Cell:=[cS x.kind,.sl 6 (x.steps.map Stp.C)]
theorem Rcp.C_eq (x:Rcp):x.C=rcpC x:=rfl
def Fnc.C (x:Fnc):List Cell:=[cS x.name,.sl 2 (x.params.map Prm.C),cI x.body.op,cI x.body.n,cS x.body.unit,cS x.body.name,.sl 5 (x.body.args.map Ex.cells)]
abbrev fncC (x:Fnc):List Cell:=[cS x.name,.sl 2 (x.params.map Prm.C),cI x.body.op,cI x.body.n,cS x.body.unit,cS x.body.name,.sl 5 (x.body.args.map Ex.cells)]
theorem Fnc.C_eq (x:Fnc):x.C=fncC x:=rfl
def Cel.C (x:Cel):List Cell:=[cS x.name,cS x.unit,cI x.x.op,cI x.x.n,cS x.x.unit,cS x.x.name,.sl 5 (x.x.args.map Ex.cells)]
abbrev celC (x:Cel):List Cell:=[cS x.name,cS x.unit,cI x.x.op,cI x.x.n,cS x.x.unit,cS x.x.name,.sl 5 (x.x.args.map Ex.cells)]
theorem Cel.C_eq (x:Cel):x.C=celC x:=rfl
attribute [go_sem] Imp.C_eq Inp.C_eq Prm.C_eq Por.C_eq Sto.C_eq Stp.C_eq Rcp.C_eq Fnc.C_eq Cel.C_eq
instance:Inhabited Imp:=⟨⟨⟨#[]⟩,⟨#[]⟩,0,0,⟨#[]⟩,0⟩⟩
instance:Inhabited Inp:=⟨⟨⟨#[]⟩,⟨#[]⟩,⟨#[]⟩⟩⟩
instance:Inhabited Prm:=⟨⟨⟨#[]⟩,⟨#[]⟩⟩⟩
instance:Inhabited Fnc:=⟨⟨⟨#[]⟩,[],default⟩⟩
instance:Inhabited Cel:=⟨⟨⟨#[]⟩,⟨#[]⟩,default⟩⟩
instance:Inhabited Por:=⟨⟨⟨#[]⟩,⟨#[]⟩,0⟩⟩
instance:Inhabited Sto:=⟨⟨⟨#[]⟩,⟨#[]⟩,0⟩⟩
instance:Inhabited Stp:=⟨⟨0,[],[],⟨#[]⟩,[],0⟩⟩
instance:Inhabited Rcp:=⟨⟨⟨#[]⟩,[]⟩⟩
def nxS (L:List Tk) (i:Nat) (k:Int):Bool:=decide ((i:Int)<L.length)&&decide ((L.getD i default).k=k)
def etS (L:List Tk) (i:Nat) (t:ByteArray):Bool:=decide ((i:Int)<L.length)&&(seq (L.getD i default).t t&&(decide ((L.getD i default).k=0)||decide ((L.getD i default).k=3)))
def etA (L:List Tk) (i:Nat) (t:ByteArray):Nat:=bif etS L i t then i+1 else i
theorem zh9 {k:Int} (h:nxS L i k=true):i<L.length:=by
 unfold nxS at h;simp only [Bool.and_eq_true,decide_eq_true_eq] at h;omega
theorem xcq {t:ByteArray} (h:etS L i t=true):i<L.length:=by
 unfold etS at h;simp only [Bool.and_eq_true,decide_eq_true_eq] at h;omega
def yt5 (L:List Tk):List ByteArray->Nat->Option Nat
 | [],i=>some i
 | t::l,i=>bif etS L i t then yt5 L l (i+1) else none
def x9a (L:List Tk) (i:Nat):Option (ByteArray×Nat):=bif nxS L i 0&&!isWord (L.getD i default).t then some ((L.getD i default).t,i+1) else none
def v18 (L:List Tk) (i:Nat):Option (ByteArray×Nat):=bif nxS L i 2 then some ((L.getD i default).t,i+1) else none
def numM (L:List Tk) (i:Nat):Option (Int×Nat):=bif nxS L i 1 then some ((L.getD i default).n,i+1) else none
def yb6 (L:List Tk) (i:Nat):Option (Int×Nat):=bif etS L i ⟨#[45]⟩ then (numM L (i+1)).map fun p=>(-p.1,p.2) else numM L i
def yvd (L:List Tk) (i:Nat) (l:List ByteArray):Option (Nat×Nat):=((List.range l.length).find? fun k=>nxS L i 0&&etS L i (l.getD k ⟨#[]⟩)).map fun k=>(k,i+1)
def z7y (L:List Tk) (i:Nat):Option (Ex×Nat):=(yt5 L [⟨#[61]⟩] i).bind fun j=>bif decide ((vux L j).2.2=0) then (yt5 L [⟨#[59]⟩] (vux L j).2.1).map fun k=>((vux L j).1,k) else none
def we2 (L:List Tk) (pairs:Bool):Nat->List ByteArray->List ByteArray->Nat->Option ((List ByteArray×List ByteArray)×Nat)
 | 0,_,_,_=>none
 | f+1,l,c,i=>(x9a L i).bind fun p=>(bif pairs then (yt5 L [⟨#[58]⟩] p.2).bind fun j=>(x9a L j).map fun q=>(c++[q.1],q.2) else some (c,p.2)).bind fun q=>
  bif etS L q.2 tCm then we2 L pairs f (l++[p.1]) q.1 (q.2+1) else some ((l++[p.1],q.1),q.2)
def z5y:ByteArray:=⟨#[109,101,116,101,114]⟩
def y0r:ByteArray:=⟨#[116,97,107,101]⟩
def yyq:ByteArray:=⟨#[100,114,97,119]⟩
def ybz:ByteArray:=⟨#[115,112,108,105,116]⟩
def xsq:ByteArray:=⟨#[106,111,105,110]⟩
def xek:ByteArray:=⟨#[103,105,118,101]⟩
def wPut:ByteArray:=⟨#[112,117,116]⟩
def x7b:ByteArray:=⟨#[108,111,115,101]⟩
def ze6:ByteArray:=⟨#[114,101,115,116]⟩
def ymt:ByteArray:=⟨#[105,110,116,111]⟩
def wTo:ByteArray:=⟨#[116,111]⟩
def wAs:ByteArray:=⟨#[97,115]⟩
def zmr:List ByteArray:=[z5y,y0r,yyq,ybz,xsq,xek,wPut,x7b,ze6]
def y14 (L:List Tk) (i:Nat):Option (Stp×Nat):=(yvd L i zmr).bind fun w=>match w.1 with
 | 0 | 1 | 2=>(x9a L w.2).bind fun o=>(yt5 L [⟨#[61]⟩] o.2).bind fun j=>(x9a L j).bind fun n=>(bif decide (w.1=2) then numM L n.2 else some (0,n.2)).bind fun a=>(yt5 L [⟨#[59]⟩] a.2).map fun k=>(⟨w.1,[],[o.1],n.1,[],a.1⟩,k)
 | 3=>(x9a L w.2).bind fun n=>(yt5 L [ymt] n.2).bind fun j=>(we2 L true L.length [] [] j).bind fun l=>(yt5 L [⟨#[59]⟩] l.2).map fun k=>(⟨3,[n.1],l.1.1,⟨#[]⟩,l.1.2,0⟩,k)
 | 4=>(we2 L false L.length [] [] w.2).bind fun l=>(yt5 L [ymt] l.2).bind fun j=>(x9a L j).bind fun o=>(yt5 L [⟨#[59]⟩] o.2).map fun k=>(⟨4,l.1.1,[o.1],⟨#[]⟩,[],0⟩,k)
 | 8=>(x9a L w.2).bind fun n=>(yt5 L [⟨#[59]⟩] n.2).map fun k=>(⟨8,[n.1],[],⟨#[]⟩,[],0⟩,k)
 | m=>(x9a L w.2).bind fun n=>(yt5 L [bif decide (m=7) then wAs else wTo] n.2).bind fun j=>(x9a L j).bind fun o=>(bif decide (m=6) then numM L o.2 else some (0,o.2)).bind fun a=>(yt5 L [⟨#[59]⟩] a.2).map fun k=>(⟨m,[n.1],[],o.1,[],a.1⟩,k)
def voo (L:List Tk):Nat->List Stp->Nat->Option (List Stp×Nat)
 | 0,_,_=>none
 | f+1,l,i=>bif etS L i ⟨#[125]⟩ then some (l,i+1) else (y14 L i).bind fun s=>voo L f (l++[s.1]) s.2
def ylu (L:List Tk) (i:Nat):Option (Rcp×Nat):=(x9a L i).bind fun n=>(yt5 L [⟨#[123]⟩] n.2).bind fun j=>(voo L L.length [] j).map fun s=>(⟨n.1,s.1⟩,s.2)
def wk8 (L:List Tk) (i:Nat):Option (Imp×Nat):=(x9a L i).bind fun n=>(v18 L n.2).bind fun u=>(numM L u.2).bind fun a=>(yt5 L [⟨#[61]⟩] a.2).bind fun j=>(numM L j).bind fun h=>(yt5 L [⟨#[58]⟩] h.2).bind fun j=>(x9a L j).bind fun p=>(yt5 L [⟨#[58]⟩] p.2).bind fun j=>(numM L j).bind fun v=>(yt5 L [⟨#[59]⟩] v.2).map fun k=>(⟨n.1,u.1,a.1,h.1,p.1,v.1⟩,k)
def zal (L:List Tk) (i:Nat):Option (Inp×Nat):=(x9a L i).bind fun n=>(v18 L n.2).bind fun u=>(bif nxS L u.2 0 then x9a L u.2 else some (⟨#[]⟩,u.2)).bind fun k=>(yt5 L [⟨#[59]⟩] k.2).map fun j=>(⟨n.1,u.1,k.1⟩,j)
def w7j (L:List Tk):Nat->List Prm->Nat->Option (List Prm×Nat)
 | 0,_,_=>none
 | f+1,l,i=>(x9a L i).bind fun n=>(v18 L n.2).bind fun u=>bif etS L u.2 tCm then w7j L f (l++[⟨n.1,u.1⟩]) (u.2+1) else some (l++[⟨n.1,u.1⟩],u.2)
def vsm (L:List Tk) (i:Nat):Option (Fnc×Nat):=(x9a L i).bind fun n=>(yt5 L [tLp] n.2).bind fun j=>(w7j L L.length [] j).bind fun p=>(yt5 L [tRp] p.2).bind fun j=>(z7y L j).map fun x=>(⟨n.1,p.1,x.1⟩,x.2)
def y9j (L:List Tk):Nat->List Rw->Nat->Option (List Rw×Nat)
 | 0,_,_=>none
 | f+1,l,i=>bif etS L i ⟨#[125]⟩ then some (l,i+1) else (yb6 L i).bind fun k=>(yt5 L [⟨#[58]⟩] k.2).bind fun j=>(yb6 L j).bind fun v=>(yt5 L [⟨#[59]⟩] v.2).bind fun j=>y9j L f (l++[⟨k.1,v.1⟩]) j
def w1c (L:List Tk) (i:Nat):Option (Tb×Nat):=(x9a L i).bind fun n=>(v18 L n.2).bind fun u=>(yt5 L [⟨#[123]⟩] u.2).bind fun j=>(y9j L L.length [] j).map fun r=>(⟨n.1,u.1,r.1⟩,r.2)
def v69:List ByteArray:=[⟨#[105,109,112,111,114,116]⟩,⟨#[105,110,112,117,116]⟩,⟨#[116,97,98,108,101]⟩,⟨#[102,117,110,99]⟩,⟨#[99,101,108,108]⟩,⟨#[112,111,114,116]⟩,⟨#[115,116,111,114,101]⟩,⟨#[114,101,99,105,112,101]⟩]
def vu1:List ByteArray:=[⟨#[102,105,114,115,116]⟩,⟨#[108,97,115,116]⟩,⟨#[109,101,97,110]⟩]
def xa2 (L:List Tk) (s:Sht) (i:Nat):Option (Sht×Nat):=(yvd L i v69).bind fun w=>match w.1 with
 | 0=>(wk8 L w.2).map fun x=>({ s with imports:=s.imports++[x.1] },x.2)
 | 1=>(zal L w.2).map fun x=>({ s with inputs:=s.inputs++[x.1] },x.2)
 | 2=>(w1c L w.2).map fun x=>({ s with tables:=s.tables++[x.1] },x.2)
 | 3=>(vsm L w.2).map fun x=>({ s with funcs:=s.funcs++[x.1] },x.2)
 | 4=>(x9a L w.2).bind fun n=>(v18 L n.2).bind fun u=>(z7y L u.2).map fun x=>({ s with cells:=s.cells++[⟨n.1,u.1,x.1⟩] },x.2)
 | 5=>(x9a L w.2).bind fun n=>(v18 L n.2).bind fun u=>(numM L u.2).bind fun a=>(yt5 L [⟨#[59]⟩] a.2).map fun j=>({ s with ports:=s.ports++[⟨n.1,u.1,a.1⟩] },j)
 | 6=>(x9a L w.2).bind fun n=>(v18 L n.2).bind fun u=>(yvd L u.2 vu1).bind fun r=>(yt5 L [⟨#[59]⟩] r.2).map fun j=>({ s with stores:=s.stores++[⟨n.1,u.1,r.1⟩] },j)
 | _=>(ylu L w.2).map fun x=>({ s with recipes:=s.recipes++[x.1] },x.2)
def xvx (L:List Tk):Nat->Sht->Nat->Option (Sht×Nat)
 | 0,_,_=>none
 | f+1,s,i=>bif etS L i ⟨#[125]⟩ then some (s,i+1) else (xa2 L s i).bind fun r=>xvx L f r.1 r.2
def x6j (L:List Tk):Option Sht:=(yt5 L [⟨#[115,104,101,101,116]⟩] 0).bind fun j=>(x9a L j).bind fun n=>(yt5 L [⟨#[123]⟩] n.2).bind fun j=>(xvx L L.length ⟨n.1,[],[],[],[],[],[],[],[]⟩ j).bind fun r=>bif decide (r.2=L.length) then some r.1 else none
end Go.Hp.T
namespace Go.Hp.T
open Go Go.RowKit Go.Slot Go.Hp Go.Slot.T
open Go.Proofs.Tryz
variable {L:List Tk} {i j:Nat} {t:ByteArray} {η:List SB} {r:(List ByteArray×List ByteArray)×Nat}
attribute [local irreducible] hide RH
set_option maxRecDepth 10000
set_option maxHeartbeats 8000000
variable {Γ:List (Nat×List Cell)}
abbrev rdS (L:List Tk) (i:Nat):SB:=.box [.dat (.sl 4 (L.map Tk.C)),.dat (cI i)] (some 202)
theorem wne (L:List Tk) (i:Nat) (k:Int):xbh Γ prog 183 [rdS L i] [.one (.ptr 0 0),.one (.dat (cI k))] [rdS L i] (.one (.dat (cB (nxS L i k)))):=by
 refine hEh [] func183 f183.eq_1 ?_
 repeat' first|refine hF ?_ ?_<;>intros|refine hI ?_
 all_goals exact StH.y4a rfl (by kernel_rfl) (by ((refine bs1 @nxS.eq_def ?_;try exact trivial))<;>first | rfl | trivial)
theorem zhy (L:List Tk) (i:Nat) (k:Int) (hl:L.length<=1048576) (h:nxS L i k=true):xbh Γ prog 184 [rdS L i] [.one (.ptr 0 0),.one (.dat (cI k))] [rdS L (i+1)] (.agg ((tkC (L.getD i default)).map .dat)):=by
 have c:=wne (Γ:=Γ) L i k;have hlt:=zh9 h;rw [h] at c;clear h;refine hEh [] func184 f184.eq_1 ?_;refine hca [0] c ?_;refine hI ?_;rw [show ((i:Int)+1-1).toNat=i by omega];exact StH.done 1 rfl (by kernel_rfl) rfl rfl
theorem xxk (L:List Tk) (i:Nat) (t:ByteArray) (hl:L.length<=1048576):xbh Γ prog 162 [rdS L i] [.one (.ptr 0 0),.one (.dat (cS t))] [rdS L (etA L i t)] (.one (.dat (cB (etS L i t)))):=by
 have fin:∀ b,etS L i t=b->StH Γ [rdS L i] [SV.one (.dat (cB b))] [rdS L (bif b then i+1 else i)] [SV.one (.dat (cB (etS L i t)))] [rdS L (etA L i t)]:=fun b h=>by
  unfold etA;rw [h];exact StH.done 1 rfl (by kernel_rfl) rfl rfl
 refine hEh [] func162 f162.eq_1 ?_
 repeat' first|refine hF ?_ ?_<;>intros|refine hI ?_
 all_goals first
  | exact fin true (by unfold etS;simp [*,-List.getD_eq_getElem?_getD])
  | exact fin false (by unfold etS;simp [*,-List.getD_eq_getElem?_getD])
theorem pc1:((1:Nat):Int)=1:=rfl
theorem wn2 (L:List Tk) (i:Nat) (t:ByteArray) (hl:L.length<=1048576) (h:etS L i t=true):xbh Γ prog 160 [rdS L i] [.one (.ptr 0 0),.one (.dat (.sl 1 [[cS t]]))] [rdS L (i+1)] (.tup []):=by
 have c:=xxk (Γ:=Γ) L i t hl;unfold etA at c;rw [h,cond_true] at c;refine hEh [] func160 f160.eq_1 ?_;refine hg3 @pc1 @decide_true @decide_false ?_
 (with_reducible refine x2t ?_)<;>refine hgS ?_
 refine hg3 @pc1 @decide_true @decide_false ?_;refine zue c ?_;refine hg3 @pc1 @decide_true @decide_false ?_
 (with_reducible refine z5g ?_)<;>refine hgS ?_
 exact sS
theorem xk5 {s:ByteArray} (hl:L.length<=1048576) (h:x9a L i=some (s,j)):xbh Γ prog 161 [rdS L i] [.one (.ptr 0 0)] [rdS L j] (.one (.dat (cS s))):=by
 unfold x9a at h
 cases hn:nxS L i 0 with
 | false=>rw [hn] at h;cases h
 | true=>
  cases hw:isWord (L.getD i default).t with
  | true=>rw [hn,hw] at h;cases h
  | false=>
   rw [hn,hw] at h;simp only [Bool.not_false,Bool.and_true,cond_true,Option.some.injEq,Prod.mk.injEq] at h;obtain ⟨rfl,rfl⟩:=h;have c:=wne (Γ:=Γ) L i 0;have tk:=zhy (Γ:=Γ) L i 0 hl hn;have w:=ylp (Γ:=Γ) (L.getD i default).t;have hlt:=zh9 hn;rw [hn] at c;rw [hw] at w;clear hn hw;refine hEh [] func161 f161.eq_1 ?_
   first | refine zue c ?_ | refine z5f 1 (fun ξ=>xbh.pre (ξ:=ξ) c (fun r=>rfl) rfl rfl) rfl rfl ?_
   refine hg ?_
   repeat' first|refine hI ?_|(with_reducible refine y04 w ?_)<;>refine hgS ?_
   refine zue tk ?_;refine hg ?_;exact sS
theorem xz1 {s:ByteArray} (hl:L.length<=1048576) (h:v18 L i=some (s,j)):xbh Γ prog 190 [rdS L i] [.one (.ptr 0 0)] [rdS L j] (.one (.dat (cS s))):=by
 unfold v18 at h
 cases hn:nxS L i 2 with
 | false=>rw [hn] at h;cases h
 | true=>
  rw [hn] at h;simp only [cond_true,Option.some.injEq,Prod.mk.injEq] at h;obtain ⟨rfl,rfl⟩:=h;have tk:=zhy (Γ:=Γ) L i 2 hl hn;clear hn;refine hEh [] func190 f190.eq_1 ?_;refine zue tk ?_;refine hg ?_;exact sS
theorem y4w {n:Int} (hl:L.length<=1048576) (h:numM L i=some (n,j)):xbh Γ prog 192 [rdS L i] [.one (.ptr 0 0)] [rdS L j] (.one (.dat (cI n))):=by
 unfold numM at h
 cases hn:nxS L i 1 with
 | false=>rw [hn] at h;cases h
 | true=>
  rw [hn] at h;simp only [cond_true,Option.some.injEq,Prod.mk.injEq] at h;obtain ⟨rfl,rfl⟩:=h;have tk:=zhy (Γ:=Γ) L i 1 hl hn;clear hn;refine hEh [] func192 f192.eq_1 ?_;refine zue tk ?_;refine hg ?_;exact sS
theorem vt7 {l:List ByteArray} {k:Nat} (hl:L.length<=1048576) (hw:l.length<=1048576) (h:yvd L i l=some (k,j)):xbh Γ prog 185 [rdS L i] [.one (.ptr 0 0),.one (.dat (zjy l))] [rdS L j] (.one (.dat (cI k))):=by
 unfold yvd at h;obtain ⟨k',hf,he⟩:=Option.map_eq_some_iff.1 h;simp only [Prod.mk.injEq] at he;obtain ⟨rfl,rfl⟩:=he;rw [List.find?_range_eq_some] at hf;obtain ⟨hp,hk,hno⟩:=hf;rw [List.mem_range] at hk;rw [Bool.and_eq_true] at hp;obtain ⟨hn,he⟩:=hp;have c:=wne (Γ:=Γ) L i 0
 have e:=fun t=>xxk (Γ:=Γ) L i t hl
 have hno:∀ m,m<k'->etS L i (l.getD m ⟨#[]⟩)=false:=fun m hm=>by
  have:=hno m hm
  rw [hn,Bool.true_and,Bool.not_eq_true'] at this;exact this
 rw [hn] at c;clear hn h;refine hEh [] func185 f185.eq_1 ?_;refine wf5 [0,1,7,8] (fun i:Nat=>[(9,.one (.dat (cI i)))]) (fun _=>[rdS L i]) (fun n=>n<=k') (fun n=>k'-n) 0 (Nat.zero_le _) ?_ ?_
 . refine hg ?_;exact sS
 intro n hnk;have en:=e (l.getD n ⟨#[]⟩);clear e;unfold etA at en
 rcases Nat.lt_or_eq_of_le hnk with hlt | rfl
 . have hf:=hno n hlt;rw [hf,cond_false] at en;clear hno he;refine hg ?_
   refine hF ?_ ?_<;>intros
   all_goals try (exfalso;omega)
   refine hca [0] c ?_;refine hca [0] en ?_;exact ⟨n+1,hlt,by omega,sS⟩
 . rw [he,cond_true] at en;clear hno he;refine hg ?_
   refine hF ?_ ?_<;>intros
   all_goals try (exfalso;omega)
   refine hca [0] c ?_;refine hca [0] en ?_;exact sS
theorem vjo (h:yt5 L [t] i=some j):etS L i t=true/\j=i+1:=by
 unfold yt5 at h
 cases he:etS L i t with
 | true=>rw [he,cond_true] at h;unfold yt5 at h;exact ⟨rfl,(Option.some.inj h).symm⟩
 | false=>rw [he] at h;cases h
theorem xpq (hl:L.length<=1048576) (h:yt5 L [t] i=some j):xbh Γ prog 160 [rdS L i] [.one (.ptr 0 0),.one (.dat (.sl 1 [[cS t]]))] [rdS L j] (.tup []):=by
 obtain ⟨h1,rfl⟩:=vjo h;exact wn2 L i t hl h1
theorem y4h {x:Ex} (hl:L.length<=1048576) (ht:∀ a,(L.getD a default).t.size<=1048576) (h:z7y L i=some (x,j)):xbh Γ prog 191 [rdS L i] [.one (.ptr 0 0)] [rdS L j] (.agg ((exC x).map .dat)):=by
 unfold z7y at h;obtain ⟨j1,h1,h⟩:=Option.bind_eq_some_iff.1 h;obtain ⟨h2,rfl⟩:=vjo h1;have c1:=xpq (Γ:=Γ) hl h1;have cr:=wwp (Γ:=Γ) L (i+1) hl ht (xcq h2);generalize vux L (i+1)=r at *;obtain ⟨y,k,e⟩:=r;dsimp only at h cr;by_cases he:e=0
 . subst he;rw [decide_eq_true rfl,cond_true] at h;obtain ⟨j2,h3,h4⟩:=Option.map_eq_some_iff.1 h;simp only [Prod.mk.injEq] at h4;obtain ⟨rfl,rfl⟩:=h4;have c2:=xpq (Γ:=Γ) hl h3;clear h h1 h2 h3;refine hEh [] func191 f191.eq_1 ?_;refine hca [0] c1 ?_
   repeat' first|refine hI ?_|(with_reducible refine y04 cr ?_)<;>refine hgS ?_
   refine hca [0] c2 ?_
   first | exact StH.done 1 rfl (by kernel_rfl) rfl rfl | exact sS
 . rw [decide_eq_false he] at h;cases h
theorem wxe {x:Inp} (hl:L.length<=1048576) (h:zal L i=some (x,j)):xbh Γ prog 187 [rdS L i] [.one (.ptr 0 0)] [rdS L j] (.agg (x.C.map .dat)):=by
 unfold zal at h;obtain ⟨⟨n,i1⟩,h1,h⟩:=Option.bind_eq_some_iff.1 h;obtain ⟨⟨u,i2⟩,h2,h⟩:=Option.bind_eq_some_iff.1 h;dsimp only at h2 h;obtain ⟨⟨k,i3⟩,h3,h⟩:=Option.bind_eq_some_iff.1 h;dsimp only at h3 h;obtain ⟨i4,h4,h⟩:=Option.map_eq_some_iff.1 h;simp only [Prod.mk.injEq] at h;obtain ⟨rfl,rfl⟩:=h;have c1:=xk5 (Γ:=Γ) hl h1;have c2:=xz1 (Γ:=Γ) hl h2;have c0:=wne (Γ:=Γ) L i2 0;have c4:=xpq (Γ:=Γ) hl h4
 cases hn:nxS L i2 0 with
 | true=>
  rw [hn,cond_true] at h3;rw [hn] at c0;have c3:=xk5 (Γ:=Γ) hl h3;clear h1 h2 h3 h4 hn;refine hEh [] func187 f187.eq_1 ?_;refine hca [0] c1 ?_;refine hca [0] c2 ?_;refine hca [0] c0 ?_;refine hca [0] c3 ?_;refine hca [0] c4 ?_;exact StH.done 1 rfl (by kernel_rfl) rfl rfl
 | false=>
  rw [hn,cond_false] at h3;simp only [Option.some.injEq,Prod.mk.injEq] at h3;obtain ⟨rfl,rfl⟩:=h3;rw [hn] at c0;clear h1 h2 h4 hn;refine hEh [] func187 f187.eq_1 ?_;refine hca [0] c1 ?_;refine hca [0] c2 ?_;refine hca [0] c0 ?_;refine hca [0] c4 ?_;exact StH.done 1 rfl (by kernel_rfl) rfl rfl
theorem yef {x:Imp} (hl:L.length<=1048576) (h:wk8 L i=some (x,j)):xbh Γ prog 186 [rdS L i] [.one (.ptr 0 0)] [rdS L j] (.agg (x.C.map .dat)):=by
 unfold wk8 at h;obtain ⟨⟨n,i1⟩,h1,h⟩:=Option.bind_eq_some_iff.1 h;obtain ⟨⟨u,i2⟩,h2,h⟩:=Option.bind_eq_some_iff.1 h;obtain ⟨⟨a,i3⟩,h3,h⟩:=Option.bind_eq_some_iff.1 h;obtain ⟨i4,h4,h⟩:=Option.bind_eq_some_iff.1 h;obtain ⟨⟨hh,i5⟩,h5,h⟩:=Option.bind_eq_some_iff.1 h;obtain ⟨i6,h6,h⟩:=Option.bind_eq_some_iff.1 h;obtain ⟨⟨p,i7⟩,h7,h⟩:=Option.bind_eq_some_iff.1 h;obtain ⟨i8,h8,h⟩:=Option.bind_eq_some_iff.1 h;obtain ⟨⟨v,i9⟩,h9,h⟩:=Option.bind_eq_some_iff.1 h;obtain ⟨i10,h10,h⟩:=Option.map_eq_some_iff.1 h;simp only [Prod.mk.injEq] at h;obtain ⟨rfl,rfl⟩:=h;have c1:=xk5 (Γ:=Γ) hl h1;have c2:=xz1 (Γ:=Γ) hl h2;have c3:=y4w (Γ:=Γ) hl h3;have c4:=xpq (Γ:=Γ) hl h4;have c5:=y4w (Γ:=Γ) hl h5;have c6:=xpq (Γ:=Γ) hl h6;have c7:=xk5 (Γ:=Γ) hl h7;have c8:=xpq (Γ:=Γ) hl h8;have c9:=y4w (Γ:=Γ) hl h9;have c10:=xpq (Γ:=Γ) hl h10;clear h1 h2 h3 h4 h5 h6 h7 h8 h9 h10;refine hEh [] func186 f186.eq_1 ?_;refine hca [0] c1 ?_;refine hca [0] c2 ?_;refine hca [0] c3 ?_;refine hca [0] c4 ?_;refine hca [0] c5 ?_;refine hca [0] c6 ?_;refine hca [0] c7 ?_;refine hca [0] c8 ?_;refine hca [0] c9 ?_;refine hca [0] c10 ?_;exact StH.done 1 rfl (by kernel_rfl) rfl rfl
theorem vee {e η':List SB} {l:List SV} {cs:List Cell} {bs:List Nat} {J':List SV} (m:Nat) (h:y7w η l=some (cs.map .one,bs)) (hs:xo6 (cs.map AV.one)=some (cs.map fun c=>SV.one (.dat c))) (hm:Nat.ble e.length m=true) (hc:wd9 m [SV.tup (cs.map fun c=>SV.one (.dat c))] (appL (frzE η bs) η)=true) (hσ:[SV.tup (cs.map fun c=>SV.one (.dat c))]=J') (hη:(appL (frzE η bs) η).take m=η') :
 StH Γ e [.tup l] η J' η':=
 StH.trans (StH.frzT h hs) (StH.done m hm hc hσ hη)
theorem y78 {b b' n n':Nat} {l l':List (List Cell)} {q q':Nat} {T T':Option TypeId} (hb:gB η b=.arr (.sl 1 l) q T) (hb':gB η b'=.arr (.sl 1 l') q' T') (hn:n=l.length) (hn':n'=l'.length):y7w η [.one (.sl b 1 0 n),.one (.sl b' 1 0 n')]=some ([.one (.sl 1 l),.one (.sl 1 l')],[b,b']):=by
 subst hn hn';simp [y7w,argD,xf6,hb,hb',Cell.esz,Cell.cnt,subC]
theorem yzk {p:ByteArray×Nat} (h:x9a L i=some p):i<L.length/\p.2=i+1:=by
 unfold x9a at h
 cases hn:nxS L i 0 with
 | false=>rw [hn] at h;cases h
 | true=>
  refine ⟨zh9 hn,?_⟩
  cases hw:isWord (L.getD i default).t with
  | true=>rw [hn,hw] at h;cases h
  | false=>
   rw [hn,hw] at h;simp only [Bool.not_false,Bool.and_true,cond_true,Option.some.injEq] at h;rw [<-h]
theorem xjf (hl:L.length<=1048576) (h:we2 L false L.length [] [] i=some r):xbh Γ prog 217 [rdS L i] [.one (.ptr 0 0),.one (.dat (cB false))] [rdS L r.2] (.tup [.one (.dat (zjy r.1.1)),.one (.dat (zjy r.1.2))]):=by
 refine hEh [] func217 f217.eq_1 ?_;refine wf5 [0,1] (fun x:List ByteArray×Nat=>[(4,.one (.sl 1 1 0 x.1.length)),(5,.one (.sl 2 1 0 0))]) (fun x=>[rdS L x.2,.arr (zjy x.1) 0 (some 9),.arr (.sl 1 []) 0 (some 9)])
  (fun x=>x.1.length<=x.2/\i<=x.2/\∃ f,we2 L false f x.1 [] x.2=some r) (fun x=>L.length-x.2) ([],i) ⟨Nat.zero_le _,Nat.le_refl _,_,h⟩ ?_ ?_
 . refine hg ?_;refine StH.trans (StH.empty (d:=4) (es:=1) (c:=.sl 1 []) (T:=some 9) rfl rfl (fun r hr=>by cases hr) rfl) ?_;refine hg ?_;refine StH.trans (StH.empty (d:=5) (es:=1) (c:=.sl 1 []) (T:=some 9) rfl rfl (fun r hr=>by cases hr) rfl) ?_;refine hg ?_;exact sS
 rintro ⟨l,k⟩ ⟨k1,k2,f,hf⟩;dsimp only at k1 k2 hf;clear h
 cases f with
 | zero=>cases hf
 | succ f=>
  rw [we2] at hf;obtain ⟨⟨s,k'⟩,h1,hf⟩:=Option.bind_eq_some_iff.1 hf;obtain ⟨hlt,e1⟩:=yzk h1;dsimp only at e1;subst e1;dsimp only at hf;rw [cond_false,Option.bind_some] at hf;dsimp only at hf;have c1:=xk5 (Γ:=Γ) hl h1;have c2:=xxk (Γ:=Γ) L (k+1) tCm hl;unfold etA at c2;clear h1
  cases he:etS L (k+1) tCm with
  | true=>
   rw [he,cond_true] at hf c2;have hlt2:=xcq he;clear he;refine hg ?_;refine hca [0] c1 ?_;refine hca [0] c2 ?_;refine ⟨(l++[s],k+1+1),⟨by simp only [List.length_append,List.length_singleton];omega,by dsimp only;omega,f,hf⟩,by dsimp only;omega,?_⟩;refine StH.back [0,1,4,5] 1 3 3 rfl rfl rfl rfl rfl (by kernel_rfl) ?_;simp only;refine hg2 @List.length_append.{0} @List.length_singleton.{0} ?_;exact StH.same svl (by simp only [zjy,List.map_append,List.map_cons,List.map_nil];rfl)
  | false=>
   rw [he,cond_false] at hf c2;simp only [Option.some.injEq] at hf;subst hf;clear he;refine hg ?_;refine hca [0] c1 ?_;refine hca [0] c2 ?_;exact vee (cs:=[.sl 1 (l.map (fun s=>[cS s])++[[cS s]]),.sl 1 []]) (bs:=[3,2]) 1 (y78 rfl rfl rfl rfl) rfl rfl (by kernel_rfl) (by simp only [zjy,List.map_append,List.map_cons,List.map_nil]) rfl
theorem x4c (hl:L.length<=1048576) (h:we2 L true L.length [] [] i=some r):xbh Γ prog 217 [rdS L i] [.one (.ptr 0 0),.one (.dat (cB true))] [rdS L r.2] (.tup [.one (.dat (zjy r.1.1)),.one (.dat (zjy r.1.2))]):=by
 refine hEh [] func217 f217.eq_1 ?_;refine wf5 [0,1] (fun x:(List ByteArray×List ByteArray)×Nat=>[(4,.one (.sl 1 1 0 x.1.1.length)),(5,.one (.sl 2 1 0 x.1.2.length))]) (fun x=>[rdS L x.2,.arr (zjy x.1.1) 0 (some 9),.arr (zjy x.1.2) 0 (some 9)])
  (fun x=>x.1.1.length<=x.2/\x.1.2.length<=x.2/\i<=x.2/\∃ f,we2 L true f x.1.1 x.1.2 x.2=some r) (fun x=>L.length-x.2) (([],[]),i) ⟨Nat.zero_le _,Nat.zero_le _,Nat.le_refl _,_,h⟩ ?_ ?_
 . refine hg ?_;refine StH.trans (StH.empty (d:=4) (es:=1) (c:=.sl 1 []) (T:=some 9) rfl rfl (fun r hr=>by cases hr) rfl) ?_;refine hg ?_;refine StH.trans (StH.empty (d:=5) (es:=1) (c:=.sl 1 []) (T:=some 9) rfl rfl (fun r hr=>by cases hr) rfl) ?_;refine hg ?_;exact sS
 rintro ⟨⟨l,c⟩,k⟩ ⟨k1,k3,k2,f,hf⟩;dsimp only at k1 k2 k3 hf;clear h
 cases f with
 | zero=>cases hf
 | succ f=>
  rw [we2] at hf;obtain ⟨⟨s,k'⟩,h1,hf⟩:=Option.bind_eq_some_iff.1 hf;obtain ⟨hlt,e1⟩:=yzk h1;dsimp only at e1;subst e1;dsimp only at hf;rw [cond_true] at hf;obtain ⟨⟨c',k''⟩,h2,hf⟩:=Option.bind_eq_some_iff.1 hf;obtain ⟨j1,h3,h2⟩:=Option.bind_eq_some_iff.1 h2;obtain ⟨h4,rfl⟩:=vjo h3;obtain ⟨⟨w,j2⟩,h5,h6⟩:=Option.map_eq_some_iff.1 h2;obtain ⟨hlt2,e2⟩:=yzk h5;dsimp only at e2;subst e2;simp only [Prod.mk.injEq] at h6;obtain ⟨rfl,rfl⟩:=h6;dsimp only at hf;have c1:=xk5 (Γ:=Γ) hl h1;have c3:=xpq (Γ:=Γ) hl h3;have c4:=xk5 (Γ:=Γ) hl h5;have c2:=xxk (Γ:=Γ) L (k+1+1+1) tCm hl;unfold etA at c2;clear h1 h2 h3 h4 h5
  cases he:etS L (k+1+1+1) tCm with
  | true=>
   rw [he,cond_true] at hf c2;have hlt3:=xcq he;clear he;refine hg ?_;refine hca [0] c1 ?_;refine hca [0] c3 ?_;refine hca [0] c4 ?_;refine hca [0] c2 ?_;refine ⟨((l++[s],c++[w]),k+1+1+1+1),⟨by simp only [List.length_append,List.length_singleton];omega,by simp only [List.length_append,List.length_singleton];omega,by dsimp only;omega,f,hf⟩,by dsimp only;omega,?_⟩;refine StH.back [0,1,4,5] 1 3 5 rfl rfl rfl rfl rfl (by kernel_rfl) ?_;refine hg2 @List.length_append.{0} @List.length_singleton.{0} ?_;refine StH.back [0,1,4,5] 2 4 3 rfl rfl rfl rfl rfl (by kernel_rfl) ?_;refine hg2 @List.length_append.{0} @List.length_singleton.{0} ?_;exact StH.same svl (by simp only [zjy,List.map_append,List.map_cons,List.map_nil];rfl)
  | false=>
   rw [he,cond_false] at hf c2;simp only [Option.some.injEq] at hf;subst hf;clear he;refine hg ?_;refine hca [0] c1 ?_;refine hca [0] c3 ?_;refine hca [0] c4 ?_;refine hca [0] c2 ?_;exact vee (cs:=[.sl 1 (l.map (fun s=>[cS s])++[[cS s]]),.sl 1 (c.map (fun s=>[cS s])++[[cS w]])]) (bs:=[3,4]) 1 (y78 rfl rfl rfl rfl) rfl rfl (by kernel_rfl) (by simp only [zjy,List.map_append,List.map_cons,List.map_nil]) rfl
end Go.Hp.T
namespace Go.Hp.T
open Go Go.RowKit Go.Slot Go.Hp Go.Slot.T
set_option maxRecDepth 10000
variable {place:Nat->Option (Nat×Nat)} {cs:List HC} {r:List (Nat×SV)} {a b:Nat}
def y7z (place:Nat->Option (Nat×Nat)) (cs:List HC) (ps:List (Nat×SV)):Option (List HC):=zyg place cs ps
def wux (place:Nat->Option (Nat×Nat)) (cs:List HC) (r:List (Nat×SV)) (a:Option (Nat×Nat)) (b:Option (List HC)):Option (List HC):=match a,b with
 | some (off,size),some us=>if us.length=size/\off+size<=cs.length then zyg place (cs.take off++us++cs.drop (off+size)) r else none
 | _,_=>none
def vc0 (place:Nat->Option (Nat×Nat)) (cs:List HC) (r:List (Nat×SV)) (b:Bool):Option (List HC):=bif b then zyg place cs r else none
theorem viw {ps:List (Nat×SV)}:zyg place cs ps=y7z place cs ps:=rfl
theorem wdx:y7z place cs []=some cs:=rfl
theorem xjc {i:Nat} {x:SV}:y7z place cs ((i,x)::r)=wux place cs r (place i) (xb6 x):=by
 unfold y7z;rw [zyg];rfl
theorem veg:Nat.beq a b=decide (a=b):=by rw [Bool.eq_iff_iff,decide_eq_true_iff,Nat.beq_eq]
theorem vfg:Nat.ble a b=decide (a<=b):=by rw [Bool.eq_iff_iff,decide_eq_true_iff,Nat.ble_eq]
theorem ypw (h:a<=b):Nat.ble a b=true:=Nat.ble_eq_true_of_le h
theorem w4h {us:List HC} {off size:Nat}:wux place cs r (some (off,size)) (some us)=vc0 place (cs.take off++(us++cs.drop (off+size))) r (Nat.beq us.length size&&Nat.ble (off+size) cs.length):=by
 rw [<-List.append_assoc];show (if us.length=size/\off+size<=cs.length then zyg place (cs.take off++us++cs.drop (off+size)) r else none)=_;rw [veg,vfg];by_cases h1:us.length=size
 . by_cases h2:off+size<=cs.length
   . rw [if_pos ⟨h1,h2⟩,decide_eq_true h1,decide_eq_true h2];rfl
   . rw [if_neg (fun h=>h2 h.2),decide_eq_false h2,Bool.and_false];rfl
 . rw [if_neg (fun h=>h1 h.1),decide_eq_false h1];rfl
theorem whh:vc0 place cs r true=y7z place cs r:=rfl
attribute [go_sem ↓ 30000] viw
attribute [go_sem] wdx xjc w4h whh veg ypw
end Go.Hp.T
