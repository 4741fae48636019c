/- The proof, part W23: P1, Na, Nb, Ih, P5, Ir, P6. -/
import Derived.Test.YtbdoipfmafbhoaaGreatDoorW22
import Derived.Test.YtbdoipfmafbhoaaGreatDoorW18
import Derived.Test.YtbdoipfmafbhoaaGreatDoorW19
namespace Go.Hp
open Go Go.RowKit Go.Slot
section
variable {P:Program} {Γ:List (Nat×List Cell)} {e:List SB} {G:List (Nat×List GhH)} {Q:Exit->Bool->List SV->List SB->Prop} {J:List SV} {η:List SB}
def v6s (Q:Exit->Bool->List SV->List SB->Prop):Exit->Bool->List SV->List SB->Prop
 | .goto _=>fun _ _ _=>False
 | .normal=>Q .normal
 | .exit id=>Q (.exit id)
 | .ret=>Q .ret
 | .panic c=>Q (.panic c)
 | .outgrown=>Q .outgrown
theorem wxy {x:Code}:RH Γ P e G (.scope x) true Q J η=RH Γ P e G x true (v6s Q) J η:=by
 show RH Γ P e G x true (fun x=>match x with | .goto _=>fun _ _ _=>False | x=>Q x) J η=_
 congr 1
 funext x
 cases x<;>rfl
theorem xcg:v6s Q .ret=Q .ret:=_root_.id rfl
end
attribute [go_sem ↓] wxy xcg
end Go.Hp
namespace Go.Hp.T
open Go Go.RowKit Go.Slot Go.Hp
set_option maxRecDepth 10000
structure Tk where
 k:Int
 t:ByteArray
 n:Int
 p:Int
deriving DecidableEq
instance:Inhabited Tk:=⟨⟨0,⟨#[]⟩,0,0⟩⟩
def Tk.C (x:Tk):List Cell:=[cI x.k,cS x.t,cI x.n,cI x.p]
abbrev tkC (x:Tk):List Cell:=[cI x.k,cS x.t,cI x.n,cI x.p]
theorem Tk.C_eq (x:Tk):x.C=tkC x:=_root_.id rfl
attribute [go_sem] Tk.C_eq
def vsa (c:Int):Bool:=decide (c=32)||decide (c=9)||decide (c=10)
def xsu (c:Int):Bool:=[40,41,44,59,58,61,60,43,45,42,47,123,125].contains c
def numV (l:List Int):Int:=l.foldl (fun n c=>10*n+(c-48)) 0
def numO (l:List Int):Bool:=!(decide (l.headD 0=48)&&!decide (l=[48])||decide (13<(l.length:Int))||decide (1099511627776<numV l))
def quoL:List Int->Option (List Int×Nat)
 | []=>none
 | c::l=>bif !xef c then none else bif decide (c=34) then some ([],1) else bif decide (c=92) then (match l with
  | []=>none
  | d::m=>bif decide (d=34)||decide (d=92) then (quoL m).map (fun r=>(d::r.1,r.2+2)) else none)
  else (quoL l).map (fun r=>(c::r.1,r.2+1))
def w0k (l:List Int):Tk×Nat×Int:=
 bif ylw (l.headD 0) then (bif decide (((l.takeWhile zdh).length:Int)<=20) then (⟨0,strOfNums (l.takeWhile zdh),0,0⟩,(l.takeWhile zdh).length,0) else (default,0,3)) else
 bif isDigit (l.headD 0) then (bif numO (l.takeWhile isDigit) then (⟨1,strOfNums (l.takeWhile isDigit),numV (l.takeWhile isDigit),0⟩,(l.takeWhile isDigit).length,0) else (default,0,3)) else
 bif decide (l.headD 0=34) then (match quoL l.tail with
  | none=>(default,0,2)
  | some (v,n)=>bif decide (400<(v.length:Int)) then (default,0,2) else (⟨2,strOfNums v,0,0⟩,n+1,0)) else
 bif xsu (l.headD 0) then (⟨3,strOfNums (l.take 1),0,0⟩,1,0) else (default,0,10)
def gapL:Nat->List Int->Nat
 | 0,_=>0
 | f+1,l=>bif (l.drop (l.takeWhile vsa).length).headD 0==35 then
  let b:=(l.takeWhile vsa).length+((l.drop (l.takeWhile vsa).length).takeWhile (fun c=>!decide (c=10))).length
  b+gapL f (l.drop b)
  else (l.takeWhile vsa).length
abbrev Sn:=List Tk ⊕ (Nat×Int)
def z3k:Nat->List Int->Nat->Sn
 | 0,_,_=>.inl []
 | f+1,l,at_=>
  let g:=gapL (l.length+1) l
  bif (l.drop g).isEmpty then .inl [] else
  match w0k (l.drop g) with
  | (t,n,e)=>bif decide (¬e=0) then .inr (at_+g,e) else match z3k f (l.drop (g+n)) (at_+g+n) with
   | .inl ts=>.inl ({ t with p:=((at_+g:Nat):Int) }::ts)
   | .inr x=>.inr x
def w3y (s:ByteArray):Sn:=bif decide (4000<(s.size:Int)) then .inr (0,6) else z3k (s.size+1) (xom s) 0
def snR:Sn->AV
 | .inl ts=>.tup [.one (.sl 4 (ts.map Tk.C)),.one (cI 0),.one (cI 0)]
 | .inr (i,e)=>.tup [.one (.sl 4 []),.one (cI i),.one (cI e)]
theorem wff (s:ByteArray) (i:Nat):xw3 s i=((s.data.toList[i]?).getD 0).toNat:=by
 unfold xw3;rw [Array.getElem?_toList]
theorem y2p (s:ByteArray):xom s=s.data.toList.map (fun b=>(b.toNat:Int)):=by
 apply List.ext_getElem?;intro i;rw [List.getElem?_map];by_cases h:i<s.size
 . rw [xfe s i h,wff]
   have h':i<s.data.toList.length:=by simpa using h
   rw [List.getElem?_eq_getElem h'];rfl
 . have h1:(xom s).length<=i:=by rw [xe3];omega
   have h2:s.data.toList.length<=i:=by
    have:s.data.toList.length=s.size:=by simp
    omega
   rw [List.getElem?_eq_none h1,List.getElem?_eq_none h2];rfl
theorem vbf (s:ByteArray):strOfNums (xom s)=s:=by
 rw [y2p];show (⟨((s.data.toList.map (fun b=>(b.toNat:Int))).map fun n=>UInt8.ofNat n.toNat).toArray⟩:ByteArray)=s;rw [List.map_map]
 have:(fun n:Int=>UInt8.ofNat n.toNat)∘(fun b:UInt8=>(b.toNat:Int))=id:=by
  funext b;simp
 rw [this,List.map_id]
theorem vb7 (s:ByteArray) (i:Nat):xom (xto s i)=(xom s).drop i:=by
 rw [y2p,y2p];show ((s.extract i s.size).data.toList.map _)=_;rw [ByteArray.data_extract,Array.toList_extract,List.extract_eq_take_drop,List.map_take,List.map_drop,List.take_of_length_le];simp
theorem vmi (s:ByteArray) (i:Nat):xom (y3b s i)=(xom s).take i:=by
 rw [y2p,y2p];show ((s.extract 0 i).data.toList.map _)=_;rw [ByteArray.data_extract,Array.toList_extract,List.extract_eq_take_drop,List.map_take];simp
theorem xge (s:ByteArray) (i:Nat):y3b s i=strOfNums ((xom s).take i):=by rw [<-vmi,vbf]
theorem y70 {α:Type} (p:α->Bool):∀ l:List α,l.takeWhile p=l.take (l.takeWhile p).length
 | []=>rfl
 | a::l=>by
  cases h:p a with
  | true=>rw [List.takeWhile_cons_of_pos h,List.length_cons,List.take_succ_cons,<-y70 p l]
  | false=>rw [List.takeWhile_cons_of_neg (by rw [h];decide)];rfl
theorem w5h (p:Int->Bool) (s:ByteArray):y3b s (xgp p s)=strOfNums ((xom s).takeWhile p):=by
 rw [xge,y70 p (xom s)];rfl
theorem ven (s:ByteArray) (h:0<s.size):xw3 s 0=(xom s).headD 0:=by
 have:=xfe s 0 h
 cases hb:xom s with
 | nil=>rw [hb] at this;cases this
 | cons c l=>rw [hb] at this;cases this;rfl
theorem w5v (s:ByteArray) (i:Nat) (h:i<s.size):(xom s).drop i=xw3 s i::(xom s).drop (i+1):=by
 rw [List.drop_eq_getElem_cons (by rw [xe3];exact h)]
 congr 1
 have:=xfe s i h
 rw [List.getElem?_eq_getElem (by rw [xe3];exact h)] at this;exact (Option.some.inj this)
end Go.Hp.T
namespace Go.Hp.T
open Go Go.RowKit Go.Slot Go.Hp Go.Slot.T
open Go.Proofs.Tryz (prog)
attribute [local irreducible] hide RH
set_option maxRecDepth 10000
set_option maxHeartbeats 4000000
variable {Γ:List (Nat×List Cell)}
theorem wn1 (c:Int):CallsD Γ prog 99 [.one (c8 c)] (.one (cB (ylw c))):=by
 refine CallsD.run [] Go.Proofs.Tryz.func99 rfl rfl rfl ?_;simp only [Go.Proofs.Tryz.f99];refine hgR ?_
 repeat' ((first | refine hfk ?_ ?_<;>intros | refine hik ?_)<;>refine hgS ?_)
 all_goals refine lf1 @ylw.eq_def ?_;first | exact trivial | rfl
theorem vou (c:Int):CallsD Γ prog 129 [.one (c8 c)] (.one (cB (isDigit c))):=by
 refine CallsD.run [] Go.Proofs.Tryz.func129 rfl rfl rfl ?_;simp only [Go.Proofs.Tryz.f129];refine hgR ?_
 repeat' ((first | refine hfk ?_ ?_<;>intros | refine hik ?_)<;>refine hgS ?_)
 all_goals refine lf1 @isDigit.eq_def ?_;first | exact trivial | rfl
theorem x0s (c:Int):CallsD Γ prog 199 [.one (c8 c)] (.one (cB (xef c))):=by
 refine CallsD.run [] Go.Proofs.Tryz.func199 rfl rfl rfl ?_;simp only [Go.Proofs.Tryz.f199];refine hgR ?_
 repeat' ((first | refine hfk ?_ ?_<;>intros | refine hik ?_)<;>refine hgS ?_)
 all_goals refine lf1 @xef.eq_def ?_;first | exact trivial | rfl
theorem ybs (c:Int):CallsD Γ prog 101 [.one (c8 c)] (.one (cB (zdh c))):=by
 refine CallsD.run [] Go.Proofs.Tryz.func101 rfl rfl rfl ?_;simp only [Go.Proofs.Tryz.f101];refine hgR ?_
 repeat' ((first | refine hfk ?_ ?_<;>intros | refine hik ?_ | with_reducible first | refine y5k (wn1 _) ?_ | refine x4p (wn1 _) ?_ | refine y5k (vou _) ?_ | refine x4p (vou _) ?_)<;>refine hgS ?_)
 all_goals refine lf1 @zdh.eq_def ?_;first | exact trivial | rfl
theorem x9j (s:ByteArray) (f:FuncId) (p:Int->Bool) (hs:s.size<=1099511627776) (h:∀ c,CallsD Γ prog f [.one (c8 c)] (.one (cB (p c)))):CallsD Γ prog 100 [.one (cS s),fN f] (.one (cI (xgp p s))):=by
 refine CallsD.run [] Go.Proofs.Tryz.func100 rfl rfl rfl ?_;simp only [Go.Proofs.Tryz.f100];refine hgR ?_;refine wwt [0,1] (fun n:Nat=>[(5,.one (.dat (cI n)))]) (fun _=>[]) (fun n=>n<=s.size/\∀ j,j<n->p (xw3 s j)=true) (fun n=>s.size-n) 0 ⟨Nat.zero_le _,fun j hj=>by omega⟩ ?_ ?_
 . refine hg ?_;exact StH.vrv (by repeat' first | exact .nil | refine .cons (by first | exact .refl _ | exact .any _) ?_)
 intro n hn;obtain ⟨hn,hj⟩:=hn;refine hg ?_
 repeat' ((first | refine hfk ?_ ?_<;>intros | refine hik ?_ | with_reducible first | refine y5k (h _) ?_ | refine x4p (h _) ?_)<;>refine hgS ?_)
 . rename_i h1;refine ⟨n+1,⟨by omega,fun j hj'=>?_⟩,by omega,by exact StH.vrv (by repeat' first | exact .nil | refine .cons (by first | exact .refl _ | exact .any _) ?_)⟩
   rcases Nat.lt_or_eq_of_le (Nat.le_of_lt_succ hj') with h2 | h2
   . exact hj j h2
   . rw [h2];exact h1
 . rename_i h1;rw [x2o hn hj (.inr h1)];exact RLe.ofEq rfl
 . rw [x2o hn hj (.inl (by omega))];exact RLe.ofEq rfl
theorem zpx (s:ByteArray) (hs:s.size<=1099511627776):CallsD Γ prog 67 [.one (cS s)] (.one (cB (isName s))):=by
 refine CallsD.run [] Go.Proofs.Tryz.func67 rfl rfl rfl ?_;simp only [Go.Proofs.Tryz.f67];refine hgR ?_
 repeat' ((first | refine hfk ?_ ?_<;>intros | refine hik ?_ | with_reducible first | refine y5k (wn1 _) ?_ | refine x4p (wn1 _) ?_ | refine y5k (x9j s _ _ hs ybs) ?_ | refine x4p (x9j s _ _ hs ybs) ?_)<;>refine hgS ?_)
 all_goals refine lf1 @isName.eq_def ?_;first | exact trivial | rfl
abbrev bldB (n:Nat):SB:=.box [.ptr 0 0,.sl 1 1 0 n] (some 263)
abbrev bldA (l:List Int):SB:=.arr (.ints .u8 l) 0 (some 5)
theorem xu7:liesAt prog prog.depth 263 (2 / prog.cellsOf 263) 0 263 1=true:=by kernel_rfl
theorem coU8:prog.cellsOf 5=1:=by kernel_rfl
attribute [go_sem] xu7 coU8
theorem zy7 (x:HC):wod Γ prog 232 [.box [.dat (.raw (.pointer none)),x] (some 263)] [.one (.ptr 0 0)] [.box [.ptr 0 0,x] (some 263)] (.tup []):=by
 refine wod.run [] Go.Proofs.Tryz.func232 rfl rfl ?_;simp only [Go.Proofs.Tryz.f232];refine hgR ?_;exact StH.refl
theorem y3y (x:HC) (T:Option TypeId) (y:SB):wod Γ prog 232 [.box [.ptr 0 0,x] T,y] [.one (.ptr 0 0)] [.box [.ptr 0 0,x] T,y] (.tup []):=by
 refine wod.run [] Go.Proofs.Tryz.func232 rfl rfl ?_;simp only [Go.Proofs.Tryz.f232];refine hgR ?_;exact StH.refl
theorem z6s (c:Int):wod Γ prog 221 [.box [.dat (.raw (.pointer none)),.dat .zc] (some 263)] [.one (.ptr 0 0),.one (.dat (c8 c))] [bldB 1,bldA [c]] (.one (.dat (.raw .nilIface))):=by
 refine wod.run [] Go.Proofs.Tryz.func221 rfl rfl ?_;simp only [Go.Proofs.Tryz.f221];refine hgR ?_;refine xbg (zy7 _) ?_;refine hg ?_;exact StH.refl
theorem yst (l:List Int) (c:Int) (hl:l.length<=68719476736):wod Γ prog 221 [bldB l.length,bldA l] [.one (.ptr 0 0),.one (.dat (c8 c))] [.box [.ptr 0 0,.sl 2 1 0 (l++[c]).length] (some 263),.dead,bldA (l++[c])] (.one (.dat (.raw .nilIface))):=by
 refine wod.run [] Go.Proofs.Tryz.func221 rfl rfl ?_;simp only [Go.Proofs.Tryz.f221];refine hgR ?_;refine xbg (y3y _ _ _) ?_;refine hg ?_;exact StH.refl
theorem vzn (l:List Int) (hl:l.all wtu=true) (h0:0<l.length) (h1:l.length<=1099511627776):wod Γ prog 222 [bldB l.length,bldA l] [.one (.ptr 0 0)] [bldB l.length,.dead] (.one (.dat (cS (strOfNums l)))):=by
 refine wod.run [] Go.Proofs.Tryz.func222 rfl rfl ?_;simp only [Go.Proofs.Tryz.f222];refine hgR ?_
 conv=>simp (maxSteps:=2000000) (disch:=omega) only [go_sem,Nat.reduceAdd,Nat.reduceSub,Nat.reduceMul,Int.reduceToNat,Nat.reduceEqDiff,Nat.reduceBEq,Nat.reduceBneDiff,Nat.reduceLT,Int.reduceEq,Int.reduceLT,Int.reduceLE,Int.reduceNeg,Int.reduceAdd,Int.reduceSub,Int.reduceMul,hl,h0,true_and,show l.length<=9223372036854775807 from by omega]
 repeat' ((first | refine hfk ?_ ?_<;>intros | refine hik ?_)<;>refine hgS ?_)
 exact StH.refl
theorem y3r (s:ByteArray) (hs:s.size<=1073741824):CallsD Γ prog 200 [.one (cS s)] (.one (cS (escS s))):=by
 refine CallsD.run [] Go.Proofs.Tryz.func200 rfl rfl rfl ?_;simp only [Go.Proofs.Tryz.f200];refine hgR ?_;refine xbg (z6s _) ?_;refine hg ?_;refine wwt [0,2,3,7] (fun i:Nat=>[(8,.one (.dat (cI i)))]) (fun i=>[bldB (escA s i).length,bldA (escA s i)]) (fun i=>i<=s.size) (fun i=>s.size-i) 0 (Nat.zero_le _) ?_ ?_
 . refine hg ?_;exact StH.same svl rfl
 intro i hi;have hlen:=y5j s i;refine hg ?_
 have two:∀ c,(c=34\/c=92)->i<s.size->xw3 s i=c->escA s (i+1)=escA s i++[92]++[c]:=fun c h hi h2=>by
  rw [zdk hi,List.append_assoc,h2];rcases h with h | h<;>rw [h]<;>rfl
 repeat' ((first | refine hfk ?_ ?_<;>intros | refine hik ?_)<;>refine hgS ?_)
 . rename_i h _;refine xbg (yst _ _ (by omega)) ?_;refine hgS ?_;refine xwj [0,2] (yst (escA s i++[92]) _ (by simp only [List.length_append,List.length_singleton];omega)) rfl (by decide) rfl rfl rfl ?_;refine hgS ?_;rw [<-two 92 (.inr rfl) (by omega) h];refine ⟨i+1,by omega,by omega,StH.back [0,2,3,7,8] 1 3 2 rfl rfl rfl rfl rfl (by kernel_rfl) ?_⟩;refine hg ?_;exact StH.same svl rfl
 . rename_i h1 _ h2 _ h3 _;refine xbg (yst _ _ (by omega)) ?_;refine hgS ?_
   have one:escA s i++[xw3 s i]=escA s (i+1):=by
    rw [zdk (by omega)];unfold escB;rw [decide_eq_false h2,decide_eq_false h3];rfl
   rw [one];refine ⟨i+1,by omega,by omega,StH.back [0,2,3,7,8] 1 2 2 rfl rfl rfl rfl rfl (by kernel_rfl) ?_⟩;refine hg ?_;exact StH.same svl rfl
 . rename_i h _;refine xbg (yst _ _ (by omega)) ?_;refine hgS ?_;refine xwj [0,2] (yst (escA s i++[92]) _ (by simp only [List.length_append,List.length_singleton];omega)) rfl (by decide) rfl rfl rfl ?_;refine hgS ?_;rw [<-two 34 (.inl rfl) (by omega) h];refine ⟨i+1,by omega,by omega,StH.back [0,2,3,7,8] 1 3 2 rfl rfl rfl rfl rfl (by kernel_rfl) ?_⟩;refine hg ?_;exact StH.same svl rfl
 . have e:i=s.size:=by omega
   subst e;refine xbg (yst _ _ (by omega)) ?_;refine hg ?_;refine xwj [0,2] (vzn (escA s s.size++[34]) (by rw [List.all_append,yxd];rfl) (by simp) (by simp only [List.length_append,List.length_singleton];omega)) rfl (by decide) rfl rfl rfl ?_;refine hg ?_;exact RLe.ofEq rfl
theorem zgf (s:ByteArray) (hs:s.size<=1073741824):∃ t,CallsD Γ prog 159 [.one (cS s)] (.tup [.one (cS t),.one (cB (xbh s))]):=by
 refine ⟨bif xbh s then escS s else ⟨#[]⟩,?_⟩;refine CallsD.run [] Go.Proofs.Tryz.func159 rfl rfl rfl ?_;simp only [Go.Proofs.Tryz.f159];refine hgR ?_
 repeat' ((first | refine hfk ?_ ?_<;>intros | refine hik ?_ | with_reducible first | refine y5k (x9j s _ _ (by omega) x0s) ?_ | refine x4p (x9j s _ _ (by omega) x0s) ?_ | refine y5k (y3r s hs) ?_ | refine x4p (y3r s hs) ?_)<;>refine hgS ?_)
 all_goals refine lf1 @xbh.eq_def ?_;first | exact trivial | rfl
theorem wzc (s:ByteArray):CallsD Γ prog 68 [.one (cS s)] (.one (cB (isWord s))):=by
 refine CallsD.run [] Go.Proofs.Tryz.func68 rfl rfl rfl ?_;simp only [Go.Proofs.Tryz.f68];refine hgR ?_
 repeat' ((first | refine hfk ?_ ?_<;>intros | refine hik ?_)<;>refine hgS ?_)
 all_goals refine lf1 @isWord.eq_def ?_;first | exact trivial | rfl
theorem xh4 (s:ByteArray) (hs:s.size<=1099511627776):CallsD Γ prog 160 [.one (cS s)] (.one (cB (isNamed s))):=by
 refine CallsD.run [] Go.Proofs.Tryz.func160 rfl rfl rfl ?_;simp only [Go.Proofs.Tryz.f160];refine hgR ?_
 repeat' ((first | refine hfk ?_ ?_<;>intros | refine hik ?_ | with_reducible first | refine y5k (zpx s hs) ?_ | refine x4p (zpx s hs) ?_ | refine y5k (wzc s) ?_ | refine x4p (wzc s) ?_)<;>refine hgS ?_)
 all_goals refine lf1 @isNamed.eq_def ?_;first | exact trivial | rfl
theorem x1d (o:Int):CallsD Γ prog 161 [.one (cI o)] (.tup [.one (cS (vcl o)),.one (cB (isOp o))]):=by
 refine CallsD.run [] Go.Proofs.Tryz.func161 rfl rfl rfl ?_;simp only [Go.Proofs.Tryz.f161];refine hgR ?_
 repeat' ((first | refine hfk ?_ ?_<;>intros | refine hik ?_)<;>refine hgS ?_)
 all_goals refine lf2 @isOp.eq_def @vcl.eq_def ?_;first | exact trivial | rfl
theorem zpb (x:Ex) (hx:x.Sm):CallsD Γ prog 131 [.agg (exC x)] (.one (cB (vz1 x))):=by
 have hu:=hx.u;have hs:=hx.s;have hl:=hx.len;obtain ⟨q,hq⟩:∃ q,CallsD Γ prog 159 [.one (cS x.unit)] (.tup [.one (cS q),.one (cB (xbh x.unit))]):=zgf x.unit (by omega);refine CallsD.run [] Go.Proofs.Tryz.func131 rfl rfl rfl ?_;simp only [Go.Proofs.Tryz.f131];refine hgR ?_
 repeat' ((first | refine hfk ?_ ?_<;>intros | refine hik ?_ | with_reducible first | refine y5k (hq) ?_ | refine x4p (hq) ?_ | refine y5k (xh4 x.name (by omega)) ?_ | refine x4p (xh4 x.name (by omega)) ?_ | refine y5k (x1d _) ?_ | refine x4p (x1d _) ?_)<;>refine hgS ?_)
 all_goals refine lf1 @vz1.eq_def ?_;first | exact trivial | rfl
theorem zmf (l:List Ex) (f:FuncId) (p:Ex->Bool) (hl:l.length<=1073741824) (h:∀ y∈l,CallsD Γ prog f [.agg (exC y)] (.one (cB (p y)))) :
 CallsD Γ prog 162 [.one (.sl 5 (l.map Ex.cells)),fN f] (.one (cI (idxF p l))):=by
 refine CallsD.run [] Go.Proofs.Tryz.func162 rfl rfl rfl ?_;simp only [Go.Proofs.Tryz.f162];refine hgR ?_;refine wwt [0,1,7] (fun i:Nat=>[(8,.one (.dat (cI i)))]) (fun _=>[]) (fun i=>i<=l.length/\∀ j,j<i->p (l.getD j default)=false) (fun i=>l.length-i) 0 ⟨Nat.zero_le _,fun j hj=>by omega⟩ ?_ ?_
 . refine hg ?_;exact StH.same svl rfl
 intro i hi;obtain ⟨hi,hj⟩:=hi;refine hg ?_
 repeat' ((first | refine hfk ?_ ?_<;>intros | refine hik ?_ | with_reducible first | refine y5k (h _ (wax (show i<l.length by omega))) ?_ | refine x4p (h _ (wax (show i<l.length by omega))) ?_)<;>refine hgS ?_)
 . rename_i hp;rw [(we2 hi hj).2 (by omega) hp];exact RLe.ofEq rfl
 . rename_i hp;refine ⟨i+1,⟨by omega,fun j hj'=>?_⟩,by omega,StH.same svl rfl⟩
   rcases Nat.lt_or_eq_of_le (Nat.le_of_lt_succ hj') with h2 | h2
   . exact hj j h2
   . rw [h2];exact hp
 . rw [(we2 hi hj).1 (by omega)];exact RLe.ofEq rfl
theorem vbl (l:List Ex) (f:FuncId) (p:Ex->Bool) (hl:l.length<=1073741824) (h:∀ y∈l,CallsD Γ prog f [.agg (exC y)] (.one (cB (p y)))) :
 CallsD Γ prog 132 [.one (.sl 5 (l.map Ex.cells)),fN f] (.one (cB (l.any p))):=by
 refine CallsD.run [] Go.Proofs.Tryz.func132 rfl rfl rfl ?_;simp only [Go.Proofs.Tryz.f132];refine hgR ?_
 repeat' ((first | refine hfk ?_ ?_<;>intros | refine hik ?_ | with_reducible first | refine y5k (zmf l f p hl h) ?_ | refine x4p (zmf l f p hl h) ?_)<;>refine hgS ?_)
 exact RLe.ofEq (by rw [<-vb3])
theorem wrz:∀ x:Ex,x.Sm->CallsD Γ prog 105 [.agg (exC x)] (.one (cB x.shaped)):=by
 refine Ex.ind (fun x ih hx=>?_);have hl:=hx.len
 have hw:∀ y∈x.args,CallsD Γ prog 130 [.agg (exC y)] (.one (cB (!y.shaped))):=fun y hy=>by
  refine CallsD.run [] Go.Proofs.Tryz.func130 rfl rfl rfl ?_;simp only [Go.Proofs.Tryz.f130];refine hgR ?_
  repeat' ((first | refine hfk ?_ ?_<;>intros | refine hik ?_ | with_reducible first | refine y5k (ih y hy (hx.arg y hy)) ?_ | refine x4p (ih y hy (hx.arg y hy)) ?_)<;>refine hgS ?_)
  exact RLe.ofEq rfl
 refine CallsD.run [] Go.Proofs.Tryz.func105 rfl rfl rfl ?_;simp only [Go.Proofs.Tryz.f105];refine hgR ?_
 repeat' ((first | refine hfk ?_ ?_<;>intros | refine hik ?_ | with_reducible first | refine y5k (zpb x hx) ?_ | refine x4p (zpb x hx) ?_ | refine y5k (vbl x.args _ _ hl hw) ?_ | refine x4p (vbl x.args _ _ hl hw) ?_)<;>refine hgS ?_)
 all_goals refine RLe.ofEq ?_
 . rename_i h;rw [Ex.wef,h];simp [List.all_eq_not_any_not]
 . rename_i h;rw [Ex.wef,h];rfl
abbrev nB (n:Int) (T:Option TypeId):SB:=.box [.dat (cI n)] T
theorem w8w:∀ x:Ex,x.Sm->∀(n lv:Int) (T:Option TypeId),0<=n->n<=1000->0<=lv->lv<=1000->
 wod Γ prog 104 [nB n T] [.agg ((exC x).map .dat),.one (.ptr 0 0),.one (.dat (cI lv))] [nB (x.cnt n lv).2 T] (.one (.dat (cB (x.cnt n lv).1))):=by
 refine Ex.ind (fun x ih hx n lv T h0 h1 h2 h3=>?_);have hl:=hx.len
 have fin:∀(b:Bool) (k:Int),x.cnt n lv=(b,k)->StH Γ [nB n T] [SV.one (.dat (cB b))] [nB k T,.box ((exC x).map .dat) (some 69)] [SV.one (.dat (cB (x.cnt n lv).1))] [nB (x.cnt n lv).2 T]:=fun b k h=>by
  rw [h];exact StH.done 1 rfl (by kernel_rfl) rfl rfl
 refine wod.run [] Go.Proofs.Tryz.func104 rfl rfl ?_;simp only [Go.Proofs.Tryz.f104];refine hgR ?_
 repeat' ((first | refine hfk ?_ ?_<;>intros | refine hik ?_)<;>refine hgS ?_)
 . exact fin _ _ (by rw [Ex.yci];simp only [*];rfl)
 . have e0:x.cnt n lv=Ex.cntL x.args (n+1) (lv+1):=by rw [Ex.yci];simp only [*];rfl
   refine wwt [1,2,23,24] (fun p:Nat×Int=>[(25,.one (.dat (cI p.1)))]) (fun p=>[nB p.2 T,.box ((exC x).map .dat) (some 69)]) (fun p=>p.1<=x.args.length/\0<=p.2/\p.2<=200/\Ex.cntL (x.args.drop p.1) p.2 (lv+1)=Ex.cntL x.args (n+1) (lv+1)) (fun p=>x.args.length-p.1) (0,n+1) ⟨Nat.zero_le _,by simp only;omega,by simp only;omega,rfl⟩ ?_ ?_
   . refine hg ?_;exact StH.same svl rfl
   rintro ⟨i,m⟩ ⟨hi,hm0,hm1,hc⟩;simp only at hi hm0 hm1 hc;refine hg ?_;refine zcl (fun hlt hd=>?_) (fun hlt _=>?_)
   . have hlt':i<x.args.length:=by omega
     have hy:=wax hlt';rw [xp9 hlt'] at hc;refine hg ?_;refine xwj [0] (ih _ hy (hx.arg _ hy) m (lv+1) T (by omega) (by omega) (by omega) (by omega)) rfl (by decide) rfl rfl rfl ?_;have hstep:=hc;rw [Ex.cntL] at hstep;generalize hr:(x.args.getD i default).cnt m (lv+1)=r at hstep ⊢;obtain ⟨b,k⟩:=r;refine hg ?_
     cases b with
     | true=>
      have hk:=Ex.vd8 _ _ _ _ hr;refine hg ?_;exact ⟨(i+1,k),⟨by simp only;omega,by simp only;omega,hk.2,hstep⟩,by simp only;omega,StH.back [1,2,23,24,25] 2 2 2 rfl rfl rfl rfl rfl (by kernel_rfl) (StH.same svl rfl)⟩
     | false=>
      refine hg ?_;rw [e0,<-hstep];exact StH.done 1 rfl (by kernel_rfl) rfl rfl
   . refine hg ?_;rw [e0,<-hc,List.drop_eq_nil_of_le (by omega),Ex.cntL];exact StH.done 1 rfl (by kernel_rfl) rfl rfl
 . exact fin _ _ (by rw [Ex.yci];simp only [*];rfl)
theorem vc7 (x:Ex) (hx:x.Sm):CallsD Γ prog 74 [.agg (exC x)] (.one (cB (wbe x))):=by
 refine CallsD.run [] Go.Proofs.Tryz.func74 rfl rfl rfl ?_;simp only [Go.Proofs.Tryz.f74];refine hgR ?_;refine xwj [1] (w8w x hx 0 1 _ (by decide) (by decide) (by decide) (by decide)) rfl (by decide) rfl rfl rfl ?_;refine hg ?_
 repeat' ((first | refine hfk ?_ ?_<;>intros | refine hik ?_ | with_reducible first | refine y5k (wrz x hx) ?_ | refine x4p (wrz x hx) ?_)<;>refine hgS ?_)
 all_goals refine lf1 @wbe.eq_def ?_;first | exact trivial | rfl
end Go.Hp.T
namespace Go.Hp
open Go Go.RowKit Go.Slot
variable {P:Program} {Γ:List (Nat×List Cell)}
theorem zcm {n N i:Nat} (h:i<n):atR (List.range n) N i=i:=y3w (by simp [h])
theorem wod.pre {f:FuncId} {ηs ξ:List SB} {args:List SV} {res:SV} (h:wod Γ P f ηs args ηs res) (hs:∀ r,ηs.map (rnSB r)=ηs) (ha:args.map (vdy (atR (List.range ηs.length) (ηs++ξ).length))=args) (hr:rnSV (atR (List.range ηs.length) (ηs++ξ).length) res=res):wod Γ P f (ηs++ξ) args (ηs++ξ) res:=by
 have hfix:∀(r:Nat->Nat) (i:Nat) (x:SB),ηs[i]? = some x->rnSB r x=x:=fun r i x hx=>by
  have:=congrArg (fun l=>l[i]?) (hs r)
  simp only [List.getElem?_map,hx,Option.map_some] at this;exact Option.some.inj this
 have hlt:∀ j∈List.range ηs.length,j<(ηs++ξ).length:=fun j hj=>by
  rw [List.mem_range] at hj;rw [List.length_append];omega
 have hk:=wod.frame (φ:=List.range ηs.length) (η:=ηs++ξ) List.nodup_range hlt ⟨by simp,fun i x hx=>by
  have hi:i<ηs.length:=(List.getElem?_eq_some_iff.1 hx).1
  exact ⟨i,by simp [hi],by rw [hfix _ i x hx,List.getElem?_append_left hi];exact hx⟩⟩ (by simp) h
 rw [ha,hr] at hk
 have hp:putR (List.range ηs.length) (ηs++ξ) ηs=ηs++ξ:=by
  apply List.ext_getElem?;intro i;by_cases hi:i<ηs.length
  . have h1:=zsj (φ:=List.range ηs.length) (η:=ηs++ξ) (ηs':=ηs) List.nodup_range hlt (List.getElem?_eq_getElem hi);rw [zcm hi,hfix _ i _ (List.getElem?_eq_getElem hi)] at h1;rw [h1,List.getElem?_append_left hi,List.getElem?_eq_getElem hi]
  . by_cases hi2:i<(ηs++ξ).length
    . exact zl8 hi2 (by simpa using hi)
    . rw [List.getElem?_eq_none (by rw [vmh];simp at hi2 ⊢;omega),List.getElem?_eq_none (by omega)]
 rw [hp] at hk;exact hk
end Go.Hp
namespace Go.Hp.T
open Go Go.RowKit Go.Slot Go.Hp
end Go.Hp.T
namespace Go.Hp.T
open Go Go.RowKit Go.Slot Go.Hp Go.Slot.T
open Go.Proofs.Tryz (prog)
attribute [local irreducible] hide RH
set_option maxRecDepth 10000
set_option maxHeartbeats 8000000
variable {Γ:List (Nat×List Cell)}
abbrev rdF (L:List Tk) (a:Nat) (b:Bool):SB:=.box [.dat (.sl 4 (L.map Tk.C)),.dat (cI a),.dat (cB b)] (some 271)
def kdF (L:List Tk) (a:Nat) (b:Bool) (k:Int):Bool:=!b&&(decide ((a:Int)<L.length)&&decide ((L.getD a default).k=k))
def isF (L:List Tk) (a:Nat) (b:Bool) (k:Int) (t:ByteArray):Bool:=!b&&(decide ((a:Int)<L.length)&&(decide ((L.getD a default).k=k)&&seq (L.getD a default).t t))
theorem zfo {L:List Tk} {a:Nat} {b:Bool} {k:Int} {t:ByteArray} (h:isF L a b k t=true):a<L.length/\b=false:=by
 unfold isF at h;simp only [Bool.and_eq_true,decide_eq_true_eq,Bool.not_eq_true'] at h;exact ⟨by omega,h.1⟩
theorem wtr {L:List Tk} {a:Nat} {b:Bool} {k:Int} (h:kdF L a b k=true):a<L.length/\b=false:=by
 unfold kdF at h;simp only [Bool.and_eq_true,decide_eq_true_eq,Bool.not_eq_true'] at h;exact ⟨by omega,h.1⟩
theorem cFIs (L:List Tk) (a:Nat) (b:Bool) (k:Int) (t:ByteArray):wod Γ prog 242 [rdF L a b] [.one (.ptr 0 0),.one (.dat (cI k)),.one (.dat (cS t))] [rdF L a b] (.one (.dat (cB (isF L a b k t)))):=by
 refine wod.run [] Go.Proofs.Tryz.func242 rfl rfl ?_;simp only [Go.Proofs.Tryz.f242];refine hgR ?_
 repeat' ((first | refine hfk ?_ ?_<;>intros | refine hik ?_)<;>refine hgS ?_)
 all_goals exact StH.ylx rfl (by kernel_rfl) (by ((refine bs1 @isF.eq_def ?_;try exact trivial))<;>first | rfl | trivial)
theorem vmv (L:List Tk) (a:Nat) (b:Bool) (k:Int):wod Γ prog 243 [rdF L a b] [.one (.ptr 0 0),.one (.dat (cI k))] [rdF L a b] (.one (.dat (cB (kdF L a b k)))):=by
 refine wod.run [] Go.Proofs.Tryz.func243 rfl rfl ?_;simp only [Go.Proofs.Tryz.f243];refine hgR ?_
 repeat' ((first | refine hfk ?_ ?_<;>intros | refine hik ?_)<;>refine hgS ?_)
 all_goals exact StH.ylx rfl (by kernel_rfl) (by ((refine bs1 @kdF.eq_def ?_;try exact trivial))<;>first | rfl | trivial)
def skF (L:List Tk) (a:Nat) (b:Bool) (k:Int) (t:ByteArray):Nat:=bif isF L a b k t then a+1 else a
theorem xo4 (L:List Tk) (a:Nat) (b:Bool) (k:Int) (t:ByteArray) (hl:L.length<=1073741824):wod Γ prog 236 [rdF L a b] [.one (.ptr 0 0),.one (.dat (cI k)),.one (.dat (cS t))] [rdF L (skF L a b k t) b] (.one (.dat (cB (isF L a b k t)))):=by
 have c:=cFIs (Γ:=Γ) L a b k t;unfold skF
 cases h:isF L a b k t with
 | true=>
  have hlt:=zfo h;rw [h] at c;refine wod.run [] Go.Proofs.Tryz.func236 rfl rfl ?_;simp only [Go.Proofs.Tryz.f236];refine hgR ?_
  repeat' ((first | refine hfk ?_ ?_<;>intros | refine hik ?_)<;>refine hgS ?_)
  refine xbg c ?_;refine hg ?_
  repeat' ((first | refine hfk ?_ ?_<;>intros | refine hik ?_)<;>refine hgS ?_)
  exact StH.same svl rfl
 | false=>
  rw [h] at c;refine wod.run [] Go.Proofs.Tryz.func236 rfl rfl ?_;simp only [Go.Proofs.Tryz.f236];refine hgR ?_
  repeat' ((first | refine hfk ?_ ?_<;>intros | refine hik ?_)<;>refine hgS ?_)
  refine xbg c ?_;refine hg ?_
  repeat' ((first | refine hfk ?_ ?_<;>intros | refine hik ?_)<;>refine hgS ?_)
  exact StH.same svl rfl
theorem z3h (L:List Tk) (a:Nat) (b:Bool) (k:Int) (t:ByteArray) (hl:L.length<=1073741824):wod Γ prog 238 [rdF L a b] [.one (.ptr 0 0),.one (.dat (cI k)),.one (.dat (cS t))] [rdF L (skF L a b k t) (!isF L a b k t)] (.tup []):=by
 have c:=xo4 (Γ:=Γ) L a b k t hl;unfold skF at c ⊢
 cases h:isF L a b k t with
 | true=>
  obtain ⟨hlt,rfl⟩:=zfo h;rw [h] at c;rw [cond_true] at c ⊢;refine wod.run [] Go.Proofs.Tryz.func238 rfl rfl ?_;simp only [Go.Proofs.Tryz.f238];refine hgR ?_
  repeat' ((first | refine hfk ?_ ?_<;>intros | refine hik ?_)<;>refine hgS ?_)
  first | refine xbg c ?_ | refine zoh [(0,rdF L (a+1) false)] c ?_
  refine hg ?_
  repeat' ((first | refine hfk ?_ ?_<;>intros | refine hik ?_)<;>refine hgS ?_)
  exact StH.same svl rfl
 | false=>
  rw [h] at c;rw [cond_false] at c ⊢;refine wod.run [] Go.Proofs.Tryz.func238 rfl rfl ?_;simp only [Go.Proofs.Tryz.f238];refine hgR ?_
  repeat' ((first | refine hfk ?_ ?_<;>intros | refine hik ?_)<;>refine hgS ?_)
  first | refine xbg c ?_ | refine zoh [] c ?_
  refine hg ?_
  repeat' ((first | refine hfk ?_ ?_<;>intros | refine hik ?_)<;>refine hgS ?_)
  exact StH.same svl rfl
theorem yws (L:List Tk) (a:Nat) (b:Bool) (t:ByteArray) (hl:L.length<=1073741824):wod Γ prog 246 [rdF L a b] [.one (.ptr 0 0),.one (.dat (cS t))] [rdF L (skF L a b 3 t) (!isF L a b 3 t)] (.tup []):=by
 have c:=z3h (Γ:=Γ) L a b 3 t hl;refine wod.run [] Go.Proofs.Tryz.func246 rfl rfl ?_;simp only [Go.Proofs.Tryz.f246];refine hgR ?_
 repeat' ((first | refine hfk ?_ ?_<;>intros | refine hik ?_)<;>refine hgS ?_)
 refine xbg c ?_;refine hg ?_;exact StH.same svl rfl
theorem wdj (L:List Tk) (a:Nat) (b:Bool) (hl:L.length<=1073741824) (h:a<L.length):wod Γ prog 250 [rdF L a b] [.one (.ptr 0 0)] [rdF L (a+1) b] (.agg ((tkC (L.getD a default)).map .dat)):=by
 refine wod.run [] Go.Proofs.Tryz.func250 rfl rfl ?_;simp only [Go.Proofs.Tryz.f250];refine hgR ?_
 repeat' ((first | refine hfk ?_ ?_<;>intros | refine hik ?_)<;>refine hgS ?_)
 rw [show ((a:Int)+1-1).toNat=a by omega];exact StH.done 1 rfl (by kernel_rfl) rfl rfl
def nmOk (L:List Tk) (a:Nat) (b:Bool):Bool:=kdF L a b 0&&!isWord (L.getD a default).t
def nmS (L:List Tk) (a:Nat) (b:Bool):ByteArray:=bif nmOk L a b then (L.getD a default).t else ⟨#[]⟩
theorem ze4 (L:List Tk) (a:Nat) (b:Bool) (hl:L.length<=1073741824):wod Γ prog 247 [rdF L a b] [.one (.ptr 0 0)] [rdF L (bif nmOk L a b then a+1 else a) (bif nmOk L a b then b else true)] (.one (.dat (cS (nmS L a b)))):=by
 have c:=vmv (Γ:=Γ) L a b 0;have w:=wzc (Γ:=Γ) (L.getD a default).t;unfold nmS nmOk
 cases h:kdF L a b 0 with
 | false=>
  rw [h] at c;refine wod.run [] Go.Proofs.Tryz.func247 rfl rfl ?_;simp only [Go.Proofs.Tryz.f247];refine hgR ?_
  repeat' ((first | refine hfk ?_ ?_<;>intros | refine hik ?_)<;>refine hgS ?_)
  first | refine xbg c ?_ | refine wt7 1 (fun ξ=>wod.pre (ξ:=ξ) c (fun r=>rfl) rfl rfl) rfl rfl ?_
  refine hg ?_
  repeat' ((first | refine hfk ?_ ?_<;>intros | refine hik ?_)<;>refine hgS ?_)
  exact StH.same svl rfl
 | true=>
  obtain ⟨hlt,rfl⟩:=wtr h;have tk:=wdj (Γ:=Γ) L a false hl hlt;rw [h] at c;clear h
  cases hw:isWord (L.getD a default).t with
  | true=>
   rw [hw] at w;refine wod.run [] Go.Proofs.Tryz.func247 rfl rfl ?_;simp only [Go.Proofs.Tryz.f247];refine hgR ?_
   repeat' ((first | refine hfk ?_ ?_<;>intros | refine hik ?_)<;>refine hgS ?_)
   first | refine xbg c ?_ | refine wt7 1 (fun ξ=>wod.pre (ξ:=ξ) c (fun r=>rfl) rfl rfl) rfl rfl ?_
   refine hg ?_
   repeat' ((first | refine hfk ?_ ?_<;>intros | refine hik ?_ | with_reducible first | refine y5k (w) ?_ | refine x4p (w) ?_)<;>refine hgS ?_)
   exact StH.same svl rfl
  | false=>
   rw [hw] at w;refine wod.run [] Go.Proofs.Tryz.func247 rfl rfl ?_;simp only [Go.Proofs.Tryz.f247];refine hgR ?_
   repeat' ((first | refine hfk ?_ ?_<;>intros | refine hik ?_)<;>refine hgS ?_)
   first | refine xbg c ?_ | refine wt7 1 (fun ξ=>wod.pre (ξ:=ξ) c (fun r=>rfl) rfl rfl) rfl rfl ?_
   refine hg ?_
   repeat' ((first | refine hfk ?_ ?_<;>intros | refine hik ?_ | with_reducible first | refine y5k (w) ?_ | refine x4p (w) ?_)<;>refine hgS ?_)
   refine xbg tk ?_;refine hg ?_;exact StH.same svl rfl
end Go.Hp.T
namespace Go.Hp
open Go Go.RowKit Go.Slot
variable {P:Program} {Γ:List (Nat×List Cell)} {e:List SB}
theorem StH.frzT {l sl:List SV} {η:List SB} {avs:List AV} {bs:List Nat} (h:vc1 η l=some (avs,bs)) (hs:x7f avs=some sl):StH Γ e [.tup l] η [.tup sl] (appL (frzE η bs) η):=fun E ρ a w _ hR=>by
 obtain ⟨h1,h2⟩:=hR.frz (xen h);refine ⟨ρ,h1.hd,h1.hs,fun i x hi=>?_,h1.went⟩
 cases i with
 | zero=>
  simp only [List.getElem?_cons_zero,Option.some.injEq] at hi;subst hi;obtain ⟨vs,hv,hr⟩:=h1.slot 0 (.tup l) rfl;exact ⟨vs,hv,wr2 hs (yrc h1.inv h h2 hr)⟩
 | succ i=>simp at hi
theorem StH.frzA {x y:SV} {η:List SB} {av:AV} {bs:List Nat} (h:vc1 η [x]=some ([av],bs)) (hs:x7f [av]=some [y]) (hx:∀ l,x≠.tup l) (hy:∀ l,y≠.tup l):StH Γ e [x] η [y] (appL (frzE η bs) η):=fun E ρ a w _ hR=>by
 obtain ⟨h1,h2⟩:=hR.frz (xen h);refine ⟨ρ,h1.hd,h1.hs,fun i z hi=>?_,h1.went⟩
 cases i with
 | zero=>
  simp only [List.getElem?_cons_zero,Option.some.injEq] at hi;subst hi;have hr:=h1.slot 0 x rfl
  have hr:SRL _ ρ _ w [a.tmps.getD 0 Go.undef] [x]:=⟨by
   cases x with
   | tup l=>exact absurd rfl (hx l)
   | _=>exact hr,trivial⟩
  have h3:=(wr2 (η:=appL (frzE η bs) η) (ρ:=ρ) hs (yrc h1.inv h h2 hr)).1
  cases y with
  | tup l=>exact absurd rfl (hy l)
  | _=>exact h3
 | succ i=>simp at hi
theorem StH.agg1 {l l':List HC} {η:List SB} (h:SVle (.agg l) (.agg l')):StH Γ e [.agg l] η [.agg l'] η:=StH.same (.cons h .nil) rfl
end Go.Hp
namespace Go.Hp.T
open Go Go.RowKit Go.Slot Go.Hp Go.Slot.T
open Go.Proofs.Tryz (prog)
attribute [local irreducible] hide RH
set_option maxRecDepth 10000
set_option maxHeartbeats 8000000
variable {Γ:List (Nat×List Cell)}
theorem yx9 {e η η':List SB} {o n:Int} {u s:ByteArray} (m:Nat) (hm:Nat.ble e.length m=true) (h:xol m [SV.agg [.dat (cI o),.dat (cI n),.dat (cS u),.dat (cS s),.dat .zc]] η=true) (hη:η.take m=η') :
 StH Γ e [SV.agg [.dat (cI o),.dat (cI n),.dat (cS u),.dat (cS s),.dat .zc]] η [SV.agg ((exC (.mk o n u s [])).map .dat)] η':=
 StH.trans (StH.done m hm h rfl hη) (StH.agg1 (.agg (.cons (.refl _) (.cons (.refl _) (.cons (.refl _) (.cons (.refl _) (.cons (.dat (.zcSl _)) .nil)))))))
def nbE (L:List Tk) (a:Nat) (b:Bool):Ex:=.mk 0 (L.getD a default).n (bif kdF L (a+1) b 2 then (L.getD (a+1) default).t else ⟨#[]⟩) ⟨#[]⟩ []
def nbA (L:List Tk) (a:Nat) (b:Bool):Nat:=bif kdF L (a+1) b 2 then a+2 else a+1
theorem yvc (L:List Tk) (a:Nat) (b:Bool) (hl:L.length<=1073741824) (h:a<L.length):wod Γ prog 244 [rdF L a b] [.one (.ptr 0 0)] [rdF L (nbA L a b) b] (.agg ((exC (nbE L a b)).map .dat)):=by
 have t1:=wdj (Γ:=Γ) L a b hl h;have k1:=vmv (Γ:=Γ) L (a+1) b 2;unfold nbA nbE
 cases hk:kdF L (a+1) b 2 with
 | false=>
  rw [hk] at k1;refine wod.run [] Go.Proofs.Tryz.func244 rfl rfl ?_;simp only [Go.Proofs.Tryz.f244];refine hgR ?_
  repeat' ((first | refine hfk ?_ ?_<;>intros | refine hik ?_)<;>refine hgS ?_)
  refine xwj [0] t1 rfl (by decide) rfl rfl rfl ?_;refine hg ?_
  repeat' ((first | refine hfk ?_ ?_<;>intros | refine hik ?_)<;>refine hgS ?_)
  refine xwj [0] k1 rfl (by decide) rfl rfl rfl ?_;refine hg ?_
  repeat' ((first | refine hfk ?_ ?_<;>intros | refine hik ?_)<;>refine hgS ?_)
  exact yx9 1 rfl (by kernel_rfl) rfl
 | true=>
  obtain ⟨hlt,rfl⟩:=wtr hk;have t2:=wdj (Γ:=Γ) L (a+1) false hl hlt;rw [hk] at k1;refine wod.run [] Go.Proofs.Tryz.func244 rfl rfl ?_;simp only [Go.Proofs.Tryz.f244];refine hgR ?_
  repeat' ((first | refine hfk ?_ ?_<;>intros | refine hik ?_)<;>refine hgS ?_)
  refine xwj [0] t1 rfl (by decide) rfl rfl rfl ?_;refine hg ?_
  repeat' ((first | refine hfk ?_ ?_<;>intros | refine hik ?_)<;>refine hgS ?_)
  refine xwj [0] k1 rfl (by decide) rfl rfl rfl ?_;refine hg ?_
  repeat' ((first | refine hfk ?_ ?_<;>intros | refine hik ?_)<;>refine hgS ?_)
  refine xwj [0] t2 rfl (by decide) rfl rfl rfl ?_;refine hg ?_
  repeat' ((first | refine hfk ?_ ?_<;>intros | refine hik ?_)<;>refine hgS ?_)
  exact yx9 1 rfl (by kernel_rfl) rfl
def opKd (o:Int):Int:=bif decide (o=14)||decide (o=15) then 0 else 3
def opIs (L:List Tk) (a:Nat) (b:Bool) (o:Int):Bool:=isOp o&&isF L a b (opKd o) (vcl o)
def opNx (L:List Tk) (a:Nat) (b:Bool):Option Nat:=(List.range 16).find? fun i=>opIs L a b i
theorem v46 {p:Nat->Bool} {n i:Nat} (hi:i<n) (h:p i=true) (hj:∀ j,j<i->p j=false):(List.range n).find? p=some i:=by
 rw [List.find?_range_eq_some];exact ⟨h,List.mem_range.2 hi,fun j hji=>by rw [hj j hji];rfl⟩
theorem wdx {p:Nat->Bool} {n:Nat} (hj:∀ j,j<n->p j=false):(List.range n).find? p=none:=by
 rw [List.find?_eq_none];intro x hx;rw [hj x (List.mem_range.1 hx)];decide
def opR:Option Nat->SV
 | none=>.tup [.one (.dat (cI 0)),.one (.dat (cB false))]
 | some i=>.tup [.one (.dat (cI i)),.one (.dat (cB true))]
theorem zaf (L:List Tk) (a:Nat) (b:Bool) (hl:L.length<=1073741824):wod Γ prog 239 [rdF L a b] [.one (.ptr 0 0)] [rdF L (bif (opNx L a b).isSome then a+1 else a) b] (opR (opNx L a b)):=by
 generalize hR:opNx L a b=R;refine wod.run [] Go.Proofs.Tryz.func239 rfl rfl ?_;simp only [Go.Proofs.Tryz.f239];refine hgR ?_
 repeat' ((first | refine hfk ?_ ?_<;>intros | refine hik ?_)<;>refine hgS ?_)
 refine wwt [0] (fun i:Nat=>[(8,.one (.dat (cI i)))]) (fun _=>[rdF L a b]) (fun i=>i<=16/\∀ j,j<i->opIs L a b j=false) (fun i=>16-i) 0 ⟨Nat.zero_le _,fun j hj=>by omega⟩ ?_ ?_
 . refine hg ?_;exact StH.same svl rfl
 rintro i ⟨h1,h2⟩;refine hg ?_;refine zcl (fun hlt _=>?_) (fun hlt _=>?_)
 . have hi:i<16:=by omega
   have co:=x1d (Γ:=Γ) (i:Int)
   have hyes:=fun h=>v46 (p:=fun i:Nat=>opIs L a b i) hi h h2
   have hno:opIs L a b i=false->∀ j,j<i+1->opIs L a b (j:Nat)=false:=fun h j hj=>by
    rcases Nat.lt_or_eq_of_le (Nat.le_of_lt_succ hj) with h3 | h3
    . exact h2 j h3
    . rw [h3];exact h
   clear h2
   have hk:opKd (i:Int)=bif decide ((i:Int)=14)||decide ((i:Int)=15) then 0 else 3:=rfl
   have hkd:∃ p q,decide ((i:Int)=14)=p/\decide ((i:Int)=15)=q:=⟨_,_,rfl,rfl⟩;obtain ⟨p,q,d14,d15⟩:=hkd;rw [d14,d15] at hk
   cases ho:isOp (i:Int) with
   | false=>
    have hno:=hno (by unfold opIs;rw [ho];rfl);rw [ho] at co;clear hyes hR hk
    cases p<;>cases q
    all_goals
     refine hg ?_
     repeat' ((first | refine hfk ?_ ?_<;>intros | refine hik ?_ | with_reducible first | refine y5k (co) ?_ | refine x4p (co) ?_)<;>refine hgS ?_)
     exact ⟨i+1,⟨by omega,hno⟩,by omega,StH.same svl rfl⟩
   | true=>
    rw [ho] at co;have sk:=xo4 (Γ:=Γ) L a b (opKd i) (vcl i) hl;unfold skF at sk
    cases hs:isF L a b (opKd i) (vcl i) with
    | true=>
     have hy:R=some i:=by rw [<-hR];exact hyes (by unfold opIs;rw [ho,hs];rfl)
     subst hy;rw [hs,cond_true,hk] at sk;clear hyes hno hR hs hk ho
     cases p<;>cases q
     all_goals
      simp only [Bool.or_false,Bool.or_true,cond_true,cond_false] at sk;refine hg ?_
      repeat' ((first | refine hfk ?_ ?_<;>intros | refine hik ?_ | with_reducible first | refine y5k (co) ?_ | refine x4p (co) ?_)<;>refine hgS ?_)
      refine xbg sk ?_;refine hg ?_
      repeat' ((first | refine hfk ?_ ?_<;>intros | refine hik ?_)<;>refine hgS ?_)
      exact StH.same svl rfl
    | false=>
     have hno:=hno (by unfold opIs;rw [ho,hs];rfl);rw [hs,cond_false,hk] at sk;clear hyes hR hs hk ho
     cases p<;>cases q
     all_goals
      simp only [Bool.or_false,Bool.or_true,cond_true,cond_false] at sk;refine hg ?_
      repeat' ((first | refine hfk ?_ ?_<;>intros | refine hik ?_ | with_reducible first | refine y5k (co) ?_ | refine x4p (co) ?_)<;>refine hgS ?_)
      refine xbg sk ?_;refine hg ?_
      repeat' ((first | refine hfk ?_ ?_<;>intros | refine hik ?_)<;>refine hgS ?_)
      exact ⟨i+1,⟨by omega,hno⟩,by omega,StH.same svl rfl⟩
 . have e:=wdx (p:=fun i:Nat=>opIs L a b i) (n:=16) (fun j hj=>h2 j (by omega))
   have hy:R=none:=by rw [<-hR];exact e
   subst hy;clear hR e h2;refine hg ?_
   repeat' ((first | refine hfk ?_ ?_<;>intros | refine hik ?_)<;>refine hgS ?_)
   exact StH.same svl rfl
end Go.Hp.T
