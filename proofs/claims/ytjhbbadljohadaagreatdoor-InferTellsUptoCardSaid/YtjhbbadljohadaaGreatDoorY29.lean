/- The proof, part Y29: Id, If, Ii, Oa, Nc, Na. -/
import Derived.Test.YtjhbbadljohadaaGreatDoorY28
import Derived.Test.YtjhbbadljohadaaGreatDoorY25
import Derived.Test.YtjhbbadljohadaaGreatDoorChecked
namespace Go.Hp
open Go Go.RowKit Go.Slot
variable {P:Program} {Γ:List (Nat×List Cell)} {e:List SB} {G:List (Nat×List GhH)}
def zu6 (n m:Nat) (σ:List SV) (η:List SB):Bool:=(σ.all fun x=>(zg7 x).all fun b=>Nat.blt b m)&&(((η.take m).drop n).all fun x=>(zk7 x).all fun b=>Nat.blt b m)
theorem StH.cutE {σ:List SV} {η:List SB} (m:Nat) (hm:e.length<=m) (he:η.take e.length=e) (h:zu6 e.length m σ η=true):StH Γ e σ η σ (η.take m):=by
 unfold zu6 at h
 rw [Bool.and_eq_true,List.all_eq_true,List.all_eq_true] at h
 refine StH.cut hm (fun i x hx b hb=>?_) (fun i x hi hx=>?_)
 · have:=h.1 x (List.mem_of_getElem? hx)
   rw [List.all_eq_true] at this
   simpa using this b hb
 · by_cases hie:i<e.length
   · left
     rw [<-he,List.getElem?_take_of_lt hie];exact hx
   · right
     intro b hb
     have hmem:x∈(η.take m).drop e.length:=by
      have:((η.take m).drop e.length)[i-e.length]? = some x:=by
       rw [List.getElem?_drop,show e.length+(i-e.length)=i from by omega,List.getElem?_take_of_lt hi];exact hx
      exact List.mem_of_getElem? this
     have:=h.2 x hmem
     rw [List.all_eq_true] at this
     simpa using this b hb
theorem StH.ztb {σ σ':List SV} {η:List SB} (he:η.take e.length=e) (h:(σ.all fun x=>(zg7 x).all fun b=>Nat.blt b e.length)=true) (hσ:σ=σ'):StH Γ e σ η σ' e:=by
 have hc:zu6 e.length e.length σ η=true:=by
  unfold zu6
  rw [h,Bool.true_and,List.all_eq_true]
  intro x hx
  rw [List.drop_eq_nil_of_le (by rw [List.length_take];omega)] at hx
  cases hx
 have:=StH.cutE (Γ:=Γ) (σ:=σ) e.length (Nat.le_refl _) he hc
 rw [he] at this
 exact hσ▸this
def swLE (n i j:Nat) (η:List SB):List SB:=(List.range η.length).map fun k=>bif Nat.blt k n then gB η k else swSB i j (gB η (sw i j k))
theorem StH.ymo {σ:List SV} {η:List SB} {i j:Nat} (he:η.take e.length=e) (hi:e.length<=i) (hj:e.length<=j) (hil:i<η.length) (hjl:j<η.length):StH Γ e σ η (σ.map (swSV i j)) (swLE e.length i j η):=by
 refine StH.swap hi hj hil hjl (fun b x hb=>?_) (by simp [swLE])
 have hbl:b<η.length:=(List.getElem?_eq_some_iff.1 hb).1
 by_cases hbe:b<e.length
 · right
   refine ⟨by rw [<-he,List.getElem?_take_of_lt hbe];exact hb,?_⟩
   unfold swLE
   rw [List.getElem?_map,List.getElem?_range hbl]
   have hbt:Nat.blt b e.length=true:=by simpa using hbe
   have hg:gB η b=x:=by unfold gB;rw [hb];rfl
   simp only [Option.map_some,hbt,cond_true,hg]
 · left
   have hsw:e.length<=sw i j b:=by unfold sw;split<;>(try split)<;>omega
   unfold swLE
   rw [List.getElem?_map,List.getElem?_range (ym7 hil hjl hbl)]
   have h1:Nat.blt (sw i j b) e.length=false:=by
    have:¬(sw i j b<e.length):=by omega
    cases hh:Nat.blt (sw i j b) e.length with
    | false=>rfl
    | true=>exact absurd (by simpa using hh) this
   have hg:gB η b=x:=by unfold gB;rw [hb];rfl
   simp only [Option.map_some,znb,h1,cond_false,hg]
theorem StH.yp0 {σ σ':List SV} {η η':List SB} (ks:List Nat) (i j m:Nat) (he:η.take e.length=e) (he':(swLE e.length i j η).take e.length=e) (hi:Nat.ble e.length i=true) (hj:Nat.ble e.length j=true) (hm:Nat.ble e.length m=true) (hil:Nat.blt i η.length=true) (hjl:Nat.blt j η.length=true)
 (h:zu6 e.length m ((zeo ks 0 σ).map (swSV i j)) (swLE e.length i j η)=true) (hk:StH Γ e ((zeo ks 0 σ).map (swSV i j)) ((swLE e.length i j η).take m) σ' η'):StH Γ e σ η σ' η':=
 StH.trans (StH.only ks) (StH.trans (StH.ymo he (by simpa using hi) (by simpa using hj) (by simpa using hil) (by simpa using hjl)) (StH.trans (StH.cutE m (by simpa using hm) he' h) hk))
def dzS (η:List SB):SV->SV×List Nat
 | .one h=>match zjp η h with
  | some (c,bs)=>(.one (.dat c),bs)
  | none=>(.one h,[])
 | x=>(x,[])
def dzL (η:List SB):List SV->List SV
 | []=>[]
 | x::l=>(dzS η x).1::dzL η l
def dzB (η:List SB):List SV->List Nat
 | []=>[]
 | x::l=>(dzS η x).2++dzB η l
theorem yho {η:List SB} {x:SV}:∀ b∈(dzS η x).2,zdp (gB η b)=true:=by
 intro b hb
 unfold dzS at hb
 split at hb
 · split at hb
   · rename_i hd;exact zgf hd b hb
   · cases hb
 · cases hb
theorem z3v {η:List SB}:∀{l:List SV},∀ b∈dzB η l,zdp (gB η b)=true
 | [],b,hb=>by cases hb
 | x::l,b,hb=>by
  rcases List.mem_append.1 hb with h | h
  · exact yho b h
  · exact z3v b h
theorem ye9 {Mo:Nat->Nat->Prop} {ρ:Nat->Value} {η η':List SB} {w:World} (hI:HInv Γ Mo ρ η' w):∀{l:List SV} {vs:List Value},(∀ b∈dzB η l,gB η' b=frzB (gB η b))->SRL η' ρ (MX Mo ρ η') w vs l->SRL η' ρ (MX Mo ρ η') w vs (dzL η l)
 | [],[],_,_=>trivial
 | [],_::_,_,h=>h.elim
 | _::_,[],_,h=>h.elim
 | x::l,v::vs,hf,h=>by
  refine ⟨?_,ye9 hI (fun b hb=>hf b (List.mem_append.2 (.inr hb))) h.2⟩
  have h1:=h.1
  cases x with
  | one y=>
   cases hd:zjp η y with
   | none=>
    have:dzS η (.one y)=(.one y,[]):=by unfold dzS;simp only [hd]
    rw [this];exact h1
   | some p=>
    obtain ⟨c,bs⟩:=p
    have he:dzS η (.one y)=(.one (.dat c),bs):=by unfold dzS;simp only [hd]
    rw [he]
    exact zl0 hI hd (fun b hb=>hf b (List.mem_append.2 (.inl (by rw [he];exact hb)))) h1
  | _=>exact h1
theorem zaa.frz {f:FuncId} {η η':List SB} {l:List SV} {res:SV} (h:zaa Γ P f (appL (frzE η (dzB η l)) η) (dzL η l) η' res):zaa Γ P f η l η' res:=by
 refine ⟨h.1,fun Mo ρ w vs hI hsr=>?_⟩
 obtain ⟨h1,_,h3⟩:=Went.frz (dzB η l) η hI rfl z3v (fun _=>.inl rfl)
 refine (h.2 Mo ρ w vs h1.inv (ye9 h1.inv h3 (hsr.mv h1.mv))).mono ?_
 rintro x w' ⟨v,ρ',rfl,hw,hv⟩
 exact ⟨v,ρ',rfl,h1.trans hw,hv⟩
def envM {α:Type} (C:α->SV):List (ByteArray×α)->List (Value×SV)
 | []=>[]
 | p::l=>(.string p.1,C p.2)::envM C l
def zbc {α:Type}:List (ByteArray×α)->ByteArray->Option α
 | [],_=>none
 | p::l,s=>bif seq s p.1 then some p.2 else zbc l s
def updF {α:Type}:List (ByteArray×α)->ByteArray->α->List (ByteArray×α)
 | [],s,v=>[(s,v)]
 | p::l,s,v=>bif seq s p.1 then (s,v)::l else p::updF l s v
theorem zka {α:Type} (C:α->SV):∀ l:List (ByteArray×α),(envM C l).length=l.length
 | []=>rfl
 | _::l=>by rw [envM,List.length_cons,zka C l];rfl
theorem ze5 {a b:ByteArray}:seq a b=seq b a:=by rw [zod,zod];exact decide_eq_decide.2 eq_comm
theorem zov {α:Type} {C:α->SV} {s:ByteArray}:∀{l:List (ByteArray×α)},zq8 (envM C l) (.string s)=some ((zbc l s).map C)
 | []=>rfl
 | p::l=>by
  have ih:=zov (C:=C) (s:=s) (l:=l)
  simp only [envM,zq8,kEq,zbc]
  rw [ih]
  first
   | (cases seq s p.1<;>rfl)
   | (rw [ze5];cases seq s p.1<;>rfl)
theorem zzw {α:Type} {C:α->SV} {s:ByteArray} {v:α}:∀{l:List (ByteArray×α)},updM (envM C l) (.string s) (C v)=some (envM C (updF l s v))
 | []=>rfl
 | p::l=>by
  have ih:=zzw (C:=C) (s:=s) (v:=v) (l:=l)
  simp only [envM,updM,kEq,updF]
  rw [ih]
  first
   | (cases seq s p.1<;>rfl)
   | (rw [ze5];cases seq s p.1<;>rfl)
attribute [go_sem] zov zka
end Go.Hp

namespace Go.Hp.T
open Go Go.RowKit Go.Slot Go.Hp
set_option maxRecDepth 10000
structure Dm where
 a:Int
 b:Int
 c:Int
 d:Int
 e:Int
 f:Int
deriving DecidableEq
def Dm.zero:Dm:=⟨0,0,0,0,0,0⟩
instance:Inhabited Dm:=⟨Dm.zero⟩
abbrev dmC (x:Dm):List Cell:=[cI x.a,cI x.b,cI x.c,cI x.d,cI x.e,cI x.f]
def bad9 (n:Int):Bool:=decide (n < -9)||decide (9<n)
def zaw (x:Dm):Bool:=!bad9 x.a&&!bad9 x.b&&!bad9 x.c&&!bad9 x.d&&!bad9 x.e&&!bad9 x.f
theorem zfc {x:Dm} (h:zaw x=true):(-9<=x.a/\x.a<=9)/\(-9<=x.b/\x.b<=9)/\(-9<=x.c/\x.c<=9)/\(-9<=x.d/\x.d<=9)/\(-9<=x.e/\x.e<=9)/\(-9<=x.f/\x.f<=9):=by
 simp only [zaw,bad9,Bool.and_eq_true,Bool.not_eq_true',Bool.or_eq_false_iff,decide_eq_false_iff_not] at h
 omega
def Dm.add (x y:Dm):Dm:=⟨x.a+y.a,x.b+y.b,x.c+y.c,x.d+y.d,x.e+y.e,x.f+y.f⟩
def Dm.sub (x y:Dm):Dm:=⟨x.a-y.a,x.b-y.b,x.c-y.c,x.d-y.d,x.e-y.e,x.f-y.f⟩
def zq9 (x:Dm):Dm×Int:=bif zaw x then (x,0) else (Dm.zero,3)
def dMul (x y:Dm):Dm×Int:=bif !zaw x||!zaw y then (Dm.zero,1) else zq9 (x.add y)
def dDiv (x y:Dm):Dm×Int:=bif !zaw x||!zaw y then (Dm.zero,1) else zq9 (x.sub y)
theorem ylo {x y:Dm}:(decide (x.a=y.a)&&(decide (x.b=y.b)&&(decide (x.c=y.c)&&(decide (x.d=y.d)&&(decide (x.e=y.e)&&decide (x.f=y.f))))))=decide (x=y):=by
 cases x;cases y
 simp only [<-Bool.decide_and,Dm.mk.injEq]
structure Ty where
 t:Bool
 d:Dm
deriving DecidableEq
def Ty.zero:Ty:=⟨false,Dm.zero⟩
instance:Inhabited Ty:=⟨Ty.zero⟩
def Ty.C (x:Ty):List Cell:=cB x.t::dmC x.d
abbrev tyC (x:Ty):List Cell:=[cB x.t,cI x.d.a,cI x.d.b,cI x.d.c,cI x.d.d,cI x.d.e,cI x.d.f]
theorem Ty.C_eq (x:Ty):x.C=tyC x:=rfl
attribute [go_sem] Ty.C_eq ylo
abbrev tyR (r:Ty×Int):AV:=.tup [.agg (tyC r.1),.one (cI r.2)]
abbrev tyS (r:Ty×Int):SV:=.tup [.agg ((tyC r.1).map .dat),.one (.dat (cI r.2))]
mutual
def Ex.zci:Ex->Bool
 | .mk o _ _ _ l=>decide (o=3)||Ex.zle l
def Ex.zle:List Ex->Bool
 | []=>false
 | y::l=>Ex.zci y||Ex.zle l
end
theorem Ex.zml:∀ l:List Ex,Ex.zle l=l.any Ex.zci
 | []=>by rw [Ex.zle];rfl
 | y::l=>by rw [Ex.zle,Ex.zml l];rfl
theorem Ex.zgm (x:Ex):x.zci=(decide (x.op=3)||x.args.any Ex.zci):=by cases x;rw [Ex.zci,Ex.zml];rfl
def zhu (a b r:Ty):Ty×Int:=bif a.t||b.t then (Ty.zero,13) else bif !decide (a.d=b.d) then (Ty.zero,14) else (r,0)
def zja (o:Int) (a b:Ty):Ty×Int:=bif a.t||b.t then (Ty.zero,13) else
 bif !decide ((bif decide (o=9) then dDiv a.d b.d else dMul a.d b.d).2=0) then (Ty.zero,14) else (⟨false,(bif decide (o=9) then dDiv a.d b.d else dMul a.d b.d).1⟩,0)
def z8m (l:List Ty):Ty×Int:=bif l.any (fun t=>!t.t) then (Ty.zero,13) else (⟨true,Dm.zero⟩,0)
def envE (l:List (ByteArray×Dm)):List (Value×SV):=envM (fun d=>.agg ((dmC d).map .dat)) l
def zuh (T:List (ByteArray×Dm)) (s:ByteArray) (k:Ty):Ty×Int:=match zbc T s with
 | none=>(Ty.zero,11)
 | some d=>bif k.t then (Ty.zero,13) else bif !decide (k.d=Dm.zero) then (Ty.zero,14) else (⟨false,d⟩,0)
def zjw (T:List (ByteArray×Dm)) (o:Int) (nm:ByteArray) (ts:List Ty):Ty×Int:=
 bif decide (o=2) then zuh T nm (ts.getD 0 default) else
 bif decide (o=6)||decide (o=7)||decide (o=10)||decide (o=11) then zhu (ts.getD 0 default) (ts.getD 1 default) (ts.getD 0 default) else
 bif decide (o=12)||decide (o=13) then zhu (ts.getD 0 default) (ts.getD 1 default) ⟨true,Dm.zero⟩ else
 bif decide (o=8)||decide (o=9) then zja o (ts.getD 0 default) (ts.getD 1 default) else
 bif decide (o=5) then (bif !(ts.getD 0 default).t then (Ty.zero,13) else zhu (ts.getD 1 default) (ts.getD 2 default) (ts.getD 1 default)) else
 z8m ts
structure Rw where
 k:Int
 v:Int
instance:Inhabited Rw:=⟨⟨0,0⟩⟩
def Rw.C (x:Rw):List Cell:=[cI x.k,cI x.v]
abbrev rwC (x:Rw):List Cell:=[cI x.k,cI x.v]
theorem Rw.C_eq (x:Rw):x.C=rwC x:=rfl
structure Tb where
 name:ByteArray
 unit:ByteArray
 rows:List Rw
instance:Inhabited Tb:=⟨⟨⟨#[]⟩,⟨#[]⟩,[]⟩⟩
def Tb.C (x:Tb):List Cell:=[cS x.name,cS x.unit,.sl 2 (x.rows.map Rw.C)]
abbrev tbC (x:Tb):List Cell:=[cS x.name,cS x.unit,.sl 2 (x.rows.map Rw.C)]
theorem Tb.C_eq (x:Tb):x.C=tbC x:=rfl
structure Vr where
 name:ByteArray
 d:Dm
instance:Inhabited Vr:=⟨⟨⟨#[]⟩,Dm.zero⟩⟩
def Vr.C (x:Vr):List Cell:=[cS x.name,cI x.d.a,cI x.d.b,cI x.d.c,cI x.d.d,cI x.d.e,cI x.d.f]
abbrev vrC (x:Vr):List Cell:=[cS x.name,cI x.d.a,cI x.d.b,cI x.d.c,cI x.d.d,cI x.d.e,cI x.d.f]
theorem Vr.C_eq (x:Vr):x.C=vrC x:=rfl
attribute [go_sem] Rw.C_eq Tb.C_eq Vr.C_eq
def inT (n:Int):Bool:=decide (-1099511627776<=n)&&decide (n<=1099511627776)
def rowAt (l:List Rw) (i:Nat):Bool:=inT (l.getD i default).k&&inT (l.getD i default).v&&!(decide (0<(i:Int))&&decide ((l.getD i default).k<=(l.getD (i-1) default).k))
def z8g (l:List Rw):Bool:=(List.range l.length).all (rowAt l)
theorem zl9 {p:Nat->Bool} {n:Nat}:(∀ j,j<n->p j=true)->(List.range n).all p=true:=fun h=>by
 rw [List.all_eq_true];exact fun x hx=>h x (List.mem_range.1 hx)
theorem zey {p:Nat->Bool} {n j:Nat} (hj:j<n) (h:p j=false):(List.range n).all p=false:=by
 cases ha:(List.range n).all p with
 | false=>rfl
 | true=>rw [List.all_eq_true.1 ha j (List.mem_range.2 hj)] at h;cases h
def zca (uerr:ByteArray->Int) (t:Tb):Bool:=!decide (¬uerr t.unit=0)&&isName t.name&&!decide (100<(t.rows.length:Int))&&z8g t.rows
theorem zho {p:Nat->Prop} {i:Nat} (h:∀ j,j<i->p j) (hi:p i):∀ j,j<i+1->p j:=fun j hj=>by
 rcases Nat.lt_or_eq_of_le (Nat.le_of_lt_succ hj) with h2 | h2
 · exact h j h2
 · rw [h2];exact hi
theorem z0p {T:List (ByteArray×Dm)} {s:ByteArray}:zq8 (envE T) (.string s)=some ((zbc T s).map fun d=>.agg ((dmC d).map .dat)):=zov
theorem zwu (T:List (ByteArray×Dm)):(envE T).length=T.length:=zka _ T
theorem z3z {T:List (ByteArray×Dm)} {s:ByteArray} {d:Dm}:updM (envE T) (.string s) (.agg [.dat (cI d.a),.dat (cI d.b),.dat (cI d.c),.dat (cI d.d),.dat (cI d.e),.dat (cI d.f)])=some (envE (updF T s d)):=zzw (C:=fun d=>.agg ((dmC d).map .dat))
attribute [go_sem] z0p zwu z3z
end Go.Hp.T

namespace Go.Hp
open Go Go.RowKit Go.Slot
variable {P:Program} {Γ:List (Nat×List Cell)}
mutual
def uz (k:Nat):Cell->Cell
 | .zc=>.sl k []
 | .sl n rows=>.sl n (uzLL k rows)
 | c=>c
def uzL (k:Nat):List Cell->List Cell
 | []=>[]
 | c::l=>uz k c::uzL k l
def uzLL (k:Nat):List (List Cell)->List (List Cell)
 | []=>[]
 | r::l=>uzL k r::uzLL k l
end
theorem z6z (k:Nat):∀ l:List Cell,uzL k l=l.map (uz k)
 | []=>by rw [uzL];rfl
 | _::l=>by rw [uzL,z6z k l];rfl
theorem zq4 (k:Nat):∀ l:List (List Cell),uzLL k l=l.map (uzL k)
 | []=>by rw [uzLL];rfl
 | _::l=>by rw [uzLL,zq4 k l];rfl
theorem zsy (k:Nat) (l:List Cell):(uzL k l).length=l.length:=by rw [z6z,List.length_map]
theorem znj (k:Nat) (l:List (List Cell)):(uzLL k l).length=l.length:=by rw [zq4,List.length_map]
theorem yas (k:Nat) (l:List (List Cell)) (i:Nat) (h:i<(uzLL k l).length):(uzLL k l)[i]=uzL k (l[i]'(by rw [<-znj k];exact h)):=by
 simp only [zq4,List.getElem_map]
theorem yg0 (k:Nat) (l:List Cell) (i:Nat) (h:i<(uzL k l).length):(uzL k l)[i]=uz k (l[i]'(by rw [<-zsy k];exact h)):=by
 simp only [z6z,List.getElem_map]
theorem RdC.uz {M:Nat->Nat->Prop} {w:World} {v:Value} {c:Cell} (k:Nat) (h:RdC M w v c):RdC M w v (uz k c):=by
 induction h with
 | raw h=>simp only [Go.Hp.uz];exact .raw h
 | zc=>rw [Go.Hp.uz];exact RdC.zcSl k
 | nn=>simp only [Go.Hp.uz];exact .nn
 | fnp h hp=>simp only [Go.Hp.uz];exact .fnp h hp
 | ints b off hl hc ha h=>simp only [Go.Hp.uz];exact .ints b off hl hc ha h
 | @sl a len cap n rows b off u hl hc ha hn hm hr ih =>
  rw [Go.Hp.uz]
  refine .sl b off u (by rw [znj];exact hl) hc (fun hne=>ha (fun he=>hne (by rw [he];simp only [zq4,List.map_nil]))) (fun r hr'=>?_) (fun i hi j hj=>hm i (by rw [<-znj k];exact hi) j hj) (fun i hi j hj=>?_)
  · rw [zq4] at hr'
    obtain ⟨r0,h0,rfl⟩:=List.mem_map.1 hr'
    rw [zsy];exact hn _ h0
  · have hi2:i<rows.length:=by rw [<-znj k];exact hi
    have e1:((uzLL k rows)[i])=uzL k rows[i]:=yas k rows i hi
    have hj2:j<rows[i].length:=by rw [<-zsy k,<-e1];exact hj
    have e2:((uzLL k rows)[i])[j]=Go.Hp.uz k (rows[i][j]):=by
     have:=yg0 k rows[i] j (by rw [zsy];exact hj2)
     rw [<-this];congr 1
    rw [e2];exact ih i hi2 j hj2
theorem RdD.uz {M:Nat->Nat->Prop} {w:World} (k:Nat):∀{vs:List Value} {cs:List Cell},RdD M w vs cs->RdD M w vs (uzL k cs)
 | [],[],h=>by rw [uzL];exact h
 | _::_,[],h=>h.elim
 | [],_::_,h=>h.elim
 | _::_,_::_,h=>by rw [uzL];exact ⟨RdC.uz k h.1,RdD.uz k h.2⟩
theorem CallsD.uz {f:FuncId} {args:List AV} {cs:List Cell} {l:List AV} (k:Nat) (h:CallsD Γ P f args (.tup (.agg cs::l))):CallsD Γ P f args (.tup (.agg (uzL k cs)::l)):=
 ⟨h.1,fun M w vs hM hg hr=>(h.2 M w vs hM hg hr).mono (fun _ _ ⟨v,h1,h2,h3,h4⟩=>by
  obtain ⟨us,hu,hl⟩:=h3
  match us,hl with
  | u::us,hl=>
   obtain ⟨ws,hw,hrd⟩:=hl.1
   exact ⟨v,h1,h2,⟨u::us,hu,⟨ws,hw,RdD.uz k hrd⟩,hl.2⟩,fun hh=>by cases hh⟩)⟩
end Go.Hp

namespace Go.Hp.T
open Go Go.RowKit Go.Slot Go.Hp
open Go.Proofs.Tryz (prog)
def Gs:List (Nat×List Cell):=[(0,[.raw (.int .u8 40),.raw (.int .u8 41),.raw (.int .u8 44),.raw (.int .u8 59),.raw (.int .u8 58),.raw (.int .u8 61),.raw (.int .u8 60),.raw (.int .u8 43),.raw (.int .u8 45),.raw (.int .u8 42),.raw (.int .u8 47),.raw (.int .u8 123),.raw (.int .u8 125)])]
def exOf (o n:Int) (u s:List UInt8) (l:List Ex):Ex:=.mk o n ⟨⟨u⟩⟩ ⟨⟨s⟩⟩ l
abbrev parR (x:Ex):AV:=.tup [.agg (exC x),.one (cI 0),.one (cI 0)]
theorem CallsD.uzE {f:FuncId} {args:List AV} {cs cs':List Cell} {l:List AV} (k:Nat) (h:CallsD Gs prog f args (.tup (.agg cs::l))) (e:uzL k cs=cs'):CallsD Gs prog f args (.tup (.agg cs'::l)):=e▸h.uz k
def sx0:List UInt8:=[109,97,115,115,32,42,32,119,97,121]
def ex0:Ex:=exOf 8 0 [] [] [(exOf 1 0 [] [109,97,115,115] []),(exOf 1 0 [] [119,97,121] [])]
def sx1:List UInt8:=[109,97,115,115,32,43,32,50]
def ex1:Ex:=exOf 6 0 [] [] [(exOf 1 0 [] [109,97,115,115] []),(exOf 0 2 [] [] [])]
def sx2:List UInt8:=[108,111,111,107,40,103,114,105,100,44,32,109,97,115,115,41]
def ex2:Ex:=exOf 2 0 [] [103,114,105,100] [(exOf 1 0 [] [109,97,115,115] [])]
def sx3:List UInt8:=[108,111,111,107,40,109,97,115,115,44,32,104,111,117,114,41]
def ex3:Ex:=exOf 2 0 [] [109,97,115,115] [(exOf 1 0 [] [104,111,117,114] [])]
def sx4:List UInt8:=[105,102,32,109,97,115,115,32,116,104,101,110,32,119,97,121,32,101,108,115,101,32,119,97,121]
def ex4:Ex:=exOf 5 0 [] [] [(exOf 1 0 [] [109,97,115,115] []),(exOf 1 0 [] [119,97,121] []),(exOf 1 0 [] [119,97,121] [])]
def sx5:List UInt8:=[109,97,115,115,32,43,32,50,32,34,107,103,34]
def ex5:Ex:=exOf 6 0 [] [] [(exOf 1 0 [] [109,97,115,115] []),(exOf 0 2 [107,103] [] [])]
def sx6:List UInt8:=[108,111,111,107,40,103,114,105,100,44,32,104,111,117,114,41,32,42,32,51,32,34,107,87,104,34]
def ex6:Ex:=exOf 8 0 [] [] [(exOf 2 0 [] [103,114,105,100] [(exOf 1 0 [] [104,111,117,114] [])]),(exOf 0 3 [107,87,104] [] [])]
def sx7:List UInt8:=[108,111,111,107,40,103,114,105,100,44,32,109,97,115,115,32,60,32,109,97,115,115,41]
def ex7:Ex:=exOf 2 0 [] [103,114,105,100] [(exOf 12 0 [] [] [(exOf 1 0 [] [109,97,115,115] []),(exOf 1 0 [] [109,97,115,115] [])])]
def sx8:List UInt8:=[105,102,32,40,109,97,115,115,32,60,32,49,32,34,116,34,41,32,116,104,101,110,32,119,97,121,32,101,108,115,101,32,53,32,34,109,34]
def ex8:Ex:=exOf 5 0 [] [] [(exOf 12 0 [] [] [(exOf 1 0 [] [109,97,115,115] []),(exOf 0 1 [116] [] [])]),(exOf 1 0 [] [119,97,121] []),(exOf 0 5 [109] [] [])]
def sx9:List UInt8:=[40,109,97,115,115,32,60,32,119,97,121,41,32,97,110,100,32,104,111,117,114]
def ex9:Ex:=exOf 14 0 [] [] [(exOf 12 0 [] [] [(exOf 1 0 [] [109,97,115,115] []),(exOf 1 0 [] [119,97,121] [])]),(exOf 1 0 [] [104,111,117,114] [])]
end Go.Hp.T

namespace Go.Hp.T
open Go Go.RowKit Go.Slot Go.Hp Go.Slot.T
open Go.Proofs.Tryz (prog)
set_option maxRecDepth 10000
set_option maxHeartbeats 4000000
variable {Γ:List (Nat×List Cell)}
abbrev dmB (x:Dm):SB:=.box ((dmC x).map .dat) (some 30)
theorem zbu (x:Dm):CallsD Γ prog 34 [.agg (dmC x)] (.one (cB (zaw x))):=by
 refine CallsD.run [] Go.Proofs.Tryz.func34 rfl rfl rfl ?_;simp only [Go.Proofs.Tryz.f34];refine hgR ?_
 repeat' ((first | refine hfk ?_ ?_<;>intros | refine hik ?_ | with_reducible refine zcs ?_ | with_reducible refine zfj ?_)<;>refine hgS ?_)
 all_goals (refine RLe.ofEq ?_;conv=>simp only [Bool.and_true,Bool.true_and,Bool.and_false,Bool.false_and,Bool.or_true,Bool.true_or,Bool.or_false,Bool.false_or,Bool.not_true,Bool.not_false,decide_true,decide_false,not_true_eq_false,not_false_eq_true,za2,if_true,if_false,Bool.and_self,Bool.or_self,cond_true,cond_false,List.length_map,ne_eq,Int.reduceEq,Int.reduceLT,Int.reduceLE, *,zaw,bad9]);first | exact trivial | rfl
theorem ybq (x y:Dm) (hx:zaw x=true) (hy:zaw y=true):∀ k:Nat,k<6->zaa Γ prog 130 [dmB x,dmB y] [.one (.dat (cI k)),.one (.ptr 0 0),.one (.ptr 1 0)] [dmB x,dmB y] (.one (.dat ((dmC (x.add y)).getD k .zc))):=by
 have h1:=zfc hx
 have h2:=zfc hy
 intro k hk
 have:k=0∨k=1∨k=2∨k=3∨k=4∨k=5:=by omega
 rcases this with rfl | rfl | rfl | rfl | rfl | rfl
 all_goals
  refine zaa.run [] Go.Proofs.Tryz.func130 rfl rfl ?_;simp only [Go.Proofs.Tryz.f130];refine hgR ?_
  repeat' ((first | refine hfk ?_ ?_<;>intros | refine hik ?_)<;>refine hgS ?_)
  exact StH.refl
theorem yd0 (x y:Dm) (hx:zaw x=true) (hy:zaw y=true):∀ k:Nat,k<6->zaa Γ prog 131 [dmB x,dmB y] [.one (.dat (cI k)),.one (.ptr 0 0),.one (.ptr 1 0)] [dmB x,dmB y] (.one (.dat ((dmC (x.sub y)).getD k .zc))):=by
 have h1:=zfc hx
 have h2:=zfc hy
 intro k hk
 have:k=0∨k=1∨k=2∨k=3∨k=4∨k=5:=by omega
 rcases this with rfl | rfl | rfl | rfl | rfl | rfl
 all_goals
  refine zaa.run [] Go.Proofs.Tryz.func131 rfl rfl ?_;simp only [Go.Proofs.Tryz.f131];refine hgR ?_
  repeat' ((first | refine hfk ?_ ?_<;>intros | refine hik ?_)<;>refine hgS ?_)
  exact StH.refl
theorem zyv (f:FuncId) (x y z:Dm) (h:∀ k:Nat,k<6->zaa Γ prog f [dmB x,dmB y] [.one (.dat (cI k)),.one (.ptr 0 0),.one (.ptr 1 0)] [dmB x,dmB y] (.one (.dat ((dmC z).getD k .zc)))) :
 zaa Γ prog 129 [dmB x,dmB y,.clo f [.one (.ptr 0 0),.one (.ptr 1 0)]] [.one (.fnr 2)] [dmB x,dmB y,.clo f [.one (.ptr 0 0),.one (.ptr 1 0)]] (.tup [.agg ((dmC (zq9 z).1).map .dat),.one (.dat (cI (zq9 z).2))]):=by
 refine zaa.run [] Go.Proofs.Tryz.func129 rfl rfl ?_;simp only [Go.Proofs.Tryz.f129];refine hgR ?_
 repeat' ((first | refine hfk ?_ ?_<;>intros | refine hik ?_ | with_reducible refine zcs ?_ | with_reducible refine zfj ?_)<;>refine hgS ?_)
 refine ze3 [0,1] (h 0 (by decide)) rfl (by decide) rfl rfl rfl ?_
 refine hg ?_
 repeat' ((first | refine hfk ?_ ?_<;>intros | refine hik ?_ | with_reducible refine zcs ?_ | with_reducible refine zfj ?_)<;>refine hgS ?_)
 refine ze3 [0,1] (h 1 (by decide)) rfl (by decide) rfl rfl rfl ?_
 refine hg ?_
 repeat' ((first | refine hfk ?_ ?_<;>intros | refine hik ?_ | with_reducible refine zcs ?_ | with_reducible refine zfj ?_)<;>refine hgS ?_)
 refine ze3 [0,1] (h 2 (by decide)) rfl (by decide) rfl rfl rfl ?_
 refine hg ?_
 repeat' ((first | refine hfk ?_ ?_<;>intros | refine hik ?_ | with_reducible refine zcs ?_ | with_reducible refine zfj ?_)<;>refine hgS ?_)
 refine ze3 [0,1] (h 3 (by decide)) rfl (by decide) rfl rfl rfl ?_
 refine hg ?_
 repeat' ((first | refine hfk ?_ ?_<;>intros | refine hik ?_ | with_reducible refine zcs ?_ | with_reducible refine zfj ?_)<;>refine hgS ?_)
 refine ze3 [0,1] (h 4 (by decide)) rfl (by decide) rfl rfl rfl ?_
 refine hg ?_
 repeat' ((first | refine hfk ?_ ?_<;>intros | refine hik ?_ | with_reducible refine zcs ?_ | with_reducible refine zfj ?_)<;>refine hgS ?_)
 refine ze3 [0,1] (h 5 (by decide)) rfl (by decide) rfl rfl rfl ?_
 refine hg ?_
 repeat' ((first | refine hfk ?_ ?_<;>intros | refine hik ?_ | with_reducible refine zcs ?_ | with_reducible refine zfj ?_ | with_reducible first | refine za3 (zbu z) ?_ | refine za0 (zbu z) ?_)<;>refine hgS ?_)
 all_goals
  rename_i hz
  refine StH.done 3 rfl (by kernel_rfl) ?_ rfl
  simp only [zq9,hz,cond_true,cond_false]
  try rfl
theorem z6w (x y:Dm):CallsD Γ prog 101 [.agg (dmC x),.agg (dmC y)] (.tup [.agg (dmC (dMul x y).1),.one (cI (dMul x y).2)]):=by
 refine CallsD.run [(3,[.clo])] Go.Proofs.Tryz.func101 rfl rfl rfl ?_;simp only [Go.Proofs.Tryz.f101];refine hgR ?_
 repeat' ((first | refine hfk ?_ ?_<;>intros | refine hik ?_ | with_reducible first | refine za3 (zbu x) ?_ | refine za0 (zbu x) ?_ | refine za3 (zbu y) ?_ | refine za0 (zbu y) ?_)<;>refine hgS ?_)
 · (refine RLe.ofEq ?_;conv=>simp only [Bool.and_true,Bool.true_and,Bool.and_false,Bool.false_and,Bool.or_true,Bool.true_or,Bool.or_false,Bool.false_or,Bool.not_true,Bool.not_false,decide_true,decide_false,not_true_eq_false,not_false_eq_true,za2,if_true,if_false,Bool.and_self,Bool.or_self,cond_true,cond_false,List.length_map,ne_eq,Int.reduceEq,Int.reduceLT,Int.reduceLE, *,dMul]);first | exact trivial | rfl
 · rename_i hx hy
   refine ze3 [0,1,3] (zyv _ x y (x.add y) (ybq x y hx hy)) rfl (by decide) rfl rfl rfl ?_
   refine hg ?_
   exact RLe.ofEq (by simp only [dMul,hx,hy];rfl)
 · (refine RLe.ofEq ?_;conv=>simp only [Bool.and_true,Bool.true_and,Bool.and_false,Bool.false_and,Bool.or_true,Bool.true_or,Bool.or_false,Bool.false_or,Bool.not_true,Bool.not_false,decide_true,decide_false,not_true_eq_false,not_false_eq_true,za2,if_true,if_false,Bool.and_self,Bool.or_self,cond_true,cond_false,List.length_map,ne_eq,Int.reduceEq,Int.reduceLT,Int.reduceLE, *,dMul]);first | exact trivial | rfl
theorem z5t (x y:Dm):CallsD Γ prog 102 [.agg (dmC x),.agg (dmC y)] (.tup [.agg (dmC (dDiv x y).1),.one (cI (dDiv x y).2)]):=by
 refine CallsD.run [(3,[.clo])] Go.Proofs.Tryz.func102 rfl rfl rfl ?_;simp only [Go.Proofs.Tryz.f102];refine hgR ?_
 repeat' ((first | refine hfk ?_ ?_<;>intros | refine hik ?_ | with_reducible first | refine za3 (zbu x) ?_ | refine za0 (zbu x) ?_ | refine za3 (zbu y) ?_ | refine za0 (zbu y) ?_)<;>refine hgS ?_)
 · (refine RLe.ofEq ?_;conv=>simp only [Bool.and_true,Bool.true_and,Bool.and_false,Bool.false_and,Bool.or_true,Bool.true_or,Bool.or_false,Bool.false_or,Bool.not_true,Bool.not_false,decide_true,decide_false,not_true_eq_false,not_false_eq_true,za2,if_true,if_false,Bool.and_self,Bool.or_self,cond_true,cond_false,List.length_map,ne_eq,Int.reduceEq,Int.reduceLT,Int.reduceLE, *,dDiv]);first | exact trivial | rfl
 · rename_i hx hy
   refine ze3 [0,1,3] (zyv _ x y (x.sub y) (yd0 x y hx hy)) rfl (by decide) rfl rfl rfl ?_
   refine hg ?_
   exact RLe.ofEq (by simp only [dDiv,hx,hy];rfl)
 · (refine RLe.ofEq ?_;conv=>simp only [Bool.and_true,Bool.true_and,Bool.and_false,Bool.false_and,Bool.or_true,Bool.true_or,Bool.or_false,Bool.false_or,Bool.not_true,Bool.not_false,decide_true,decide_false,not_true_eq_false,not_false_eq_true,za2,if_true,if_false,Bool.and_self,Bool.or_self,cond_true,cond_false,List.length_map,ne_eq,Int.reduceEq,Int.reduceLT,Int.reduceLE, *,dDiv]);first | exact trivial | rfl
end Go.Hp.T

namespace Go.Hp.T
open Go Go.RowKit Go.Slot Go.Hp Go.Slot.T
open Go.Proofs.Tryz (prog)
set_option maxRecDepth 10000
set_option maxHeartbeats 4000000
variable {Γ:List (Nat×List Cell)}
theorem zsd (c:Int):CallsD Γ prog 67 [.one (c8 c)] (.one (cB (zaq c))):=by
 refine CallsD.run [] Go.Proofs.Tryz.func67 rfl rfl rfl ?_;simp only [Go.Proofs.Tryz.f67];refine hgR ?_
 repeat' ((first | refine hfk ?_ ?_<;>intros | refine hik ?_)<;>refine hgS ?_)
 all_goals (refine RLe.ofEq ?_;conv=>simp only [Bool.and_true,Bool.true_and,Bool.and_false,Bool.false_and,Bool.or_true,Bool.true_or,Bool.or_false,Bool.false_or,Bool.not_true,Bool.not_false,decide_true,decide_false,not_true_eq_false,not_false_eq_true,za2,if_true,if_false,Bool.and_self,Bool.or_self,cond_true,cond_false,List.length_map,ne_eq,Int.reduceEq,Int.reduceLT,Int.reduceLE, *,zaq]);first | exact trivial | rfl
theorem yen (c:Int):CallsD Γ prog 100 [.one (c8 c)] (.one (cB (isDigit c))):=by
 refine CallsD.run [] Go.Proofs.Tryz.func100 rfl rfl rfl ?_;simp only [Go.Proofs.Tryz.f100];refine hgR ?_
 repeat' ((first | refine hfk ?_ ?_<;>intros | refine hik ?_)<;>refine hgS ?_)
 all_goals (refine RLe.ofEq ?_;conv=>simp only [Bool.and_true,Bool.true_and,Bool.and_false,Bool.false_and,Bool.or_true,Bool.true_or,Bool.or_false,Bool.false_or,Bool.not_true,Bool.not_false,decide_true,decide_false,not_true_eq_false,not_false_eq_true,za2,if_true,if_false,Bool.and_self,Bool.or_self,cond_true,cond_false,List.length_map,ne_eq,Int.reduceEq,Int.reduceLT,Int.reduceLE, *,isDigit]);first | exact trivial | rfl
theorem ydx (c:Int):CallsD Γ prog 110 [.one (c8 c)] (.one (cB (zfp c))):=by
 refine CallsD.run [] Go.Proofs.Tryz.func110 rfl rfl rfl ?_;simp only [Go.Proofs.Tryz.f110];refine hgR ?_
 repeat' ((first | refine hfk ?_ ?_<;>intros | refine hik ?_)<;>refine hgS ?_)
 all_goals (refine RLe.ofEq ?_;conv=>simp only [Bool.and_true,Bool.true_and,Bool.and_false,Bool.false_and,Bool.or_true,Bool.true_or,Bool.or_false,Bool.false_or,Bool.not_true,Bool.not_false,decide_true,decide_false,not_true_eq_false,not_false_eq_true,za2,if_true,if_false,Bool.and_self,Bool.or_self,cond_true,cond_false,List.length_map,ne_eq,Int.reduceEq,Int.reduceLT,Int.reduceLE, *,zfp]);first | exact trivial | rfl
theorem ye8 (c:Int):CallsD Γ prog 69 [.one (c8 c)] (.one (cB (zfb c))):=by
 refine CallsD.run [] Go.Proofs.Tryz.func69 rfl rfl rfl ?_;simp only [Go.Proofs.Tryz.f69];refine hgR ?_
 repeat' ((first | refine hfk ?_ ?_<;>intros | refine hik ?_ | with_reducible first | refine za3 (zsd _) ?_ | refine za0 (zsd _) ?_ | refine za3 (yen _) ?_ | refine za0 (yen _) ?_)<;>refine hgS ?_)
 all_goals (refine RLe.ofEq ?_;conv=>simp only [Bool.and_true,Bool.true_and,Bool.and_false,Bool.false_and,Bool.or_true,Bool.true_or,Bool.or_false,Bool.false_or,Bool.not_true,Bool.not_false,decide_true,decide_false,not_true_eq_false,not_false_eq_true,za2,if_true,if_false,Bool.and_self,Bool.or_self,cond_true,cond_false,List.length_map,ne_eq,Int.reduceEq,Int.reduceLT,Int.reduceLE, *,zfb]);first | exact trivial | rfl
theorem ycq (s:ByteArray) (f:FuncId) (p:Int->Bool) (hs:s.size<=1099511627776) (h:∀ c,CallsD Γ prog f [.one (c8 c)] (.one (cB (p c)))):CallsD Γ prog 68 [.one (cS s),fN f] (.one (cI (zgo p s))):=by
 refine CallsD.run [] Go.Proofs.Tryz.func68 rfl rfl rfl ?_;simp only [Go.Proofs.Tryz.f68];refine hgR ?_
 refine zcu [0,1] (fun n:Nat=>[(5,.one (.dat (cI n)))]) (fun _=>[]) (fun n=>n<=s.size/\∀ j,j<n->p (zab s j)=true) (fun n=>s.size-n) 0 ⟨Nat.zero_le _,fun j hj=>by omega⟩ ?_ ?_
 · refine hg ?_
   exact StH.z3m (by repeat' first | exact .nil | refine .cons (by first | exact .refl _ | exact .any _) ?_)
 intro n hn
 obtain ⟨hn,hj⟩:=hn
 refine hg ?_
 repeat' ((first | refine hfk ?_ ?_<;>intros | refine hik ?_ | with_reducible first | refine za3 (h _) ?_ | refine za0 (h _) ?_)<;>refine hgS ?_)
 · rename_i h1
   refine ⟨n+1,⟨by omega,fun j hj'=>?_⟩,by omega,by exact StH.z3m (by repeat' first | exact .nil | refine .cons (by first | exact .refl _ | exact .any _) ?_)⟩
   rcases Nat.lt_or_eq_of_le (Nat.le_of_lt_succ hj') with h2 | h2
   · exact hj j h2
   · rw [h2];exact h1
 · rename_i h1
   rw [ze6 hn hj (.inr h1)]
   exact RLe.ofEq rfl
 · rw [ze6 hn hj (.inl (by omega))]
   exact RLe.ofEq rfl
theorem z0a (s:ByteArray) (hs:s.size<=1099511627776):CallsD Γ prog 40 [.one (cS s)] (.one (cB (isName s))):=by
 refine CallsD.run [] Go.Proofs.Tryz.func40 rfl rfl rfl ?_;simp only [Go.Proofs.Tryz.f40];refine hgR ?_
 repeat' ((first | refine hfk ?_ ?_<;>intros | refine hik ?_ | with_reducible first | refine za3 (zsd _) ?_ | refine za0 (zsd _) ?_ | refine za3 (ycq s _ _ hs ye8) ?_ | refine za0 (ycq s _ _ hs ye8) ?_)<;>refine hgS ?_)
 all_goals (refine RLe.ofEq ?_;conv=>simp only [Bool.and_true,Bool.true_and,Bool.and_false,Bool.false_and,Bool.or_true,Bool.true_or,Bool.or_false,Bool.false_or,Bool.not_true,Bool.not_false,decide_true,decide_false,not_true_eq_false,not_false_eq_true,za2,if_true,if_false,Bool.and_self,Bool.or_self,cond_true,cond_false,List.length_map,ne_eq,Int.reduceEq,Int.reduceLT,Int.reduceLE, *,isName]);first | exact trivial | rfl
abbrev bldB (n:Nat):SB:=.box [.ptr 0 0,.sl 1 1 0 n] (some 178)
abbrev bldA (l:List Int):SB:=.arr (.ints .u8 l) 0 (some 5)
theorem yo3:liesAt prog prog.depth 178 (2 / prog.cellsOf 178) 0 178 1=true:=by kernel_rfl
theorem coU8:prog.cellsOf 5=1:=by kernel_rfl
attribute [go_sem] yo3 coU8
theorem yfs (x:HC):zaa Γ prog 168 [.box [.dat (.raw (.pointer none)),x] (some 178)] [.one (.ptr 0 0)] [.box [.ptr 0 0,x] (some 178)] (.tup []):=by
 refine zaa.run [] Go.Proofs.Tryz.func168 rfl rfl ?_;simp only [Go.Proofs.Tryz.f168];refine hgR ?_
 exact StH.refl
theorem yjo (x:HC) (T:Option TypeId) (y:SB):zaa Γ prog 168 [.box [.ptr 0 0,x] T,y] [.one (.ptr 0 0)] [.box [.ptr 0 0,x] T,y] (.tup []):=by
 refine zaa.run [] Go.Proofs.Tryz.func168 rfl rfl ?_;simp only [Go.Proofs.Tryz.f168];refine hgR ?_
 exact StH.refl
theorem yj0 (c:Int):zaa Γ prog 141 [.box [.dat (.raw (.pointer none)),.dat .zc] (some 178)] [.one (.ptr 0 0),.one (.dat (c8 c))] [bldB 1,bldA [c]] (.one (.dat (.raw .nilIface))):=by
 refine zaa.run [] Go.Proofs.Tryz.func141 rfl rfl ?_;simp only [Go.Proofs.Tryz.f141];refine hgR ?_
 refine zhr (yfs _) ?_
 refine hg ?_
 exact StH.refl
theorem zmg (l:List Int) (c:Int) (hl:l.length<=68719476736):zaa Γ prog 141 [bldB l.length,bldA l] [.one (.ptr 0 0),.one (.dat (c8 c))] [.box [.ptr 0 0,.sl 2 1 0 (l++[c]).length] (some 178),.dead,bldA (l++[c])] (.one (.dat (.raw .nilIface))):=by
 refine zaa.run [] Go.Proofs.Tryz.func141 rfl rfl ?_;simp only [Go.Proofs.Tryz.f141];refine hgR ?_
 refine zhr (yjo _ _ _) ?_
 refine hg ?_
 exact StH.refl
theorem ybw (l:List Int) (hl:l.all zog=true) (h0:0<l.length) (h1:l.length<=1099511627776):zaa Γ prog 142 [bldB l.length,bldA l] [.one (.ptr 0 0)] [bldB l.length,.dead] (.one (.dat (cS (strOfNums l)))):=by
 refine zaa.run [] Go.Proofs.Tryz.func142 rfl rfl ?_;simp only [Go.Proofs.Tryz.f142];refine hgR ?_
 conv=>simp (maxSteps:=2000000) (disch:=omega) only [go_sem,Nat.reduceAdd,Nat.reduceSub,Nat.reduceMul,Int.reduceToNat,Nat.reduceEqDiff,Nat.reduceBEq,Nat.reduceBneDiff,Nat.reduceLT,Int.reduceEq,Int.reduceLT,Int.reduceLE,Int.reduceNeg,Int.reduceAdd,Int.reduceSub,Int.reduceMul,hl,h0,true_and,show l.length<=9223372036854775807 from by omega]
 repeat' ((first | refine hfk ?_ ?_<;>intros | refine hik ?_)<;>refine hgS ?_)
 exact StH.refl
theorem zyl (s:ByteArray) (hs:s.size<=1073741824):CallsD Γ prog 111 [.one (cS s)] (.one (cS (escS s))):=by
 refine CallsD.run [] Go.Proofs.Tryz.func111 rfl rfl rfl ?_;simp only [Go.Proofs.Tryz.f111];refine hgR ?_
 refine zhr (yj0 _) ?_
 refine hg ?_
 refine zcu [0,2,3,7] (fun i:Nat=>[(8,.one (.dat (cI i)))]) (fun i=>[bldB (escA s i).length,bldA (escA s i)]) (fun i=>i<=s.size) (fun i=>s.size-i) 0 (Nat.zero_le _) ?_ ?_
 · refine hg ?_
   exact StH.same svl rfl
 intro i hi
 have hlen:=yb7 s i
 refine hg ?_
 have two:∀ c,(c=34∨c=92)->i<s.size->zab s i=c->escA s (i+1)=escA s i++[92]++[c]:=fun c h hi h2=>by
  rw [ztj hi,List.append_assoc,h2];rcases h with h | h<;>rw [h]<;>rfl
 repeat' ((first | refine hfk ?_ ?_<;>intros | refine hik ?_)<;>refine hgS ?_)
 · rename_i h _
   refine zhr (zmg _ _ (by omega)) ?_
   refine hgS ?_
   refine ze3 [0,2] (zmg (escA s i++[92]) _ (by simp only [List.length_append,List.length_singleton];omega)) rfl (by decide) rfl rfl rfl ?_
   refine hgS ?_
   rw [<-two 92 (.inr rfl) (by omega) h]
   refine ⟨i+1,by omega,by omega,StH.back [0,2,3,7,8] 1 3 2 rfl rfl rfl rfl rfl (by kernel_rfl) ?_⟩
   refine hg ?_
   exact StH.same svl rfl
 · rename_i h1 _ h2 _ h3 _
   refine zhr (zmg _ _ (by omega)) ?_
   refine hgS ?_
   have one:escA s i++[zab s i]=escA s (i+1):=by
    rw [ztj (by omega)];unfold escB;rw [decide_eq_false h2,decide_eq_false h3];rfl
   rw [one]
   refine ⟨i+1,by omega,by omega,StH.back [0,2,3,7,8] 1 2 2 rfl rfl rfl rfl rfl (by kernel_rfl) ?_⟩
   refine hg ?_
   exact StH.same svl rfl
 · rename_i h _
   refine zhr (zmg _ _ (by omega)) ?_
   refine hgS ?_
   refine ze3 [0,2] (zmg (escA s i++[92]) _ (by simp only [List.length_append,List.length_singleton];omega)) rfl (by decide) rfl rfl rfl ?_
   refine hgS ?_
   rw [<-two 34 (.inl rfl) (by omega) h]
   refine ⟨i+1,by omega,by omega,StH.back [0,2,3,7,8] 1 3 2 rfl rfl rfl rfl rfl (by kernel_rfl) ?_⟩
   refine hg ?_
   exact StH.same svl rfl
 · have e:i=s.size:=by omega
   subst e
   refine zhr (zmg _ _ (by omega)) ?_
   refine hg ?_
   refine ze3 [0,2] (ybw (escA s s.size++[34]) (by rw [List.all_append,z26];rfl) (by simp) (by simp only [List.length_append,List.length_singleton];omega)) rfl (by decide) rfl rfl rfl ?_
   refine hg ?_
   exact RLe.ofEq rfl
theorem ykr (s:ByteArray) (hs:s.size<=1073741824):∃ t,CallsD Γ prog 84 [.one (cS s)] (.tup [.one (cS t),.one (cB (zdk s))]):=by
 refine ⟨bif zdk s then escS s else ⟨#[]⟩,?_⟩
 refine CallsD.run [] Go.Proofs.Tryz.func84 rfl rfl rfl ?_;simp only [Go.Proofs.Tryz.f84];refine hgR ?_
 repeat' ((first | refine hfk ?_ ?_<;>intros | refine hik ?_ | with_reducible first | refine za3 (ycq s _ _ (by omega) ydx) ?_ | refine za0 (ycq s _ _ (by omega) ydx) ?_ | refine za3 (zyl s hs) ?_ | refine za0 (zyl s hs) ?_)<;>refine hgS ?_)
 all_goals (refine RLe.ofEq ?_;conv=>simp only [Bool.and_true,Bool.true_and,Bool.and_false,Bool.false_and,Bool.or_true,Bool.true_or,Bool.or_false,Bool.false_or,Bool.not_true,Bool.not_false,decide_true,decide_false,not_true_eq_false,not_false_eq_true,za2,if_true,if_false,Bool.and_self,Bool.or_self,cond_true,cond_false,List.length_map,ne_eq,Int.reduceEq,Int.reduceLT,Int.reduceLE, *,zdk,cond_true,cond_false]);first | exact trivial | rfl
end Go.Hp.T
