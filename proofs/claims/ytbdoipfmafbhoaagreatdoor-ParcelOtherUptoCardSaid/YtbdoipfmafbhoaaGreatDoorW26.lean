/- The proof, part W26: P2, P3, P4, Pn. -/
import Derived.Test.YtbdoipfmafbhoaaGreatDoorW23
import Derived.Test.YtbdoipfmafbhoaaGreatDoorW25
namespace Go.Hp.T
open Go Go.RowKit Go.Slot Go.Hp Go.Slot.T
open Go.Proofs.Tryz (prog)
attribute [local irreducible] hide RH
set_option maxRecDepth 10000
set_option maxHeartbeats 8000000
variable {Γ:List (Nat×List Cell)}
theorem yfz (c:Int):CallsD Γ prog 170 [.one (c8 c)] (.one (cB (vsa c))):=by
 refine CallsD.run [] Go.Proofs.Tryz.func170 rfl rfl rfl ?_;simp only [Go.Proofs.Tryz.f170];refine hgR ?_
 repeat' ((first | refine hfk ?_ ?_<;>intros | refine hik ?_)<;>refine hgS ?_)
 all_goals refine lf1 @vsa.eq_def ?_;first | exact trivial | rfl
theorem wfn (l:List Int) (c:Int):numV (l++[c])=10*numV l+(c-48):=by
 unfold numV;rw [List.foldl_append];rfl
theorem vyg {c:Int} (h:isDigit c=true):48<=c/\c<=57:=by
 unfold isDigit at h;rw [Bool.and_eq_true] at h;exact ⟨of_decide_eq_true h.1,of_decide_eq_true h.2⟩
theorem vll (l:List Int) (h:∀ c∈l,isDigit c=true):∀ i,i<=l.length->0<=numV (l.take i)/\numV (l.take i)<10 ^ i
 | 0,_=>⟨by rw [List.take_zero];decide,by rw [List.take_zero];decide⟩
 | i+1,hi=>by
  obtain ⟨h1,h2⟩:=vll l h i (by omega);have hc:=vyg (h _ (List.getElem_mem (show i<l.length by omega)));rw [List.take_succ_eq_append_getElem (by omega),wfn,Int.pow_succ];omega
theorem wby (l:List Int) (h:∀ c∈l,isDigit c=true) {i:Nat} (hi:i<=l.length) (hl:l.length<=13):0<=numV (l.take i)/\numV (l.take i)<10000000000000:=by
 obtain ⟨h1,h2⟩:=vll l h i hi;refine ⟨h1,Int.lt_of_lt_of_le h2 ?_⟩
 have h3:∀ n:Nat,n<=13->(10:Int) ^ n<=10000000000000:=by decide
 exact h3 i (by omega)
def numR (l:List Int):Int×Bool:=bif numO l then (numV l,true) else (0,false)
theorem wwl (l:List Int):numR l=bif (decide (l.headD 0=48)&&!decide (l=[48]))||(decide (13<(l.length:Int))||decide (1099511627776<numV l)) then (0,false) else (numV l,true):=by
 unfold numR numO;rw [Bool.or_assoc]
 cases ((decide (l.headD 0=48)&&!decide (l=[48]))||(decide (13<(l.length:Int))||decide (1099511627776<numV l)))<;>rfl
theorem w7v (s:ByteArray) (c:UInt8):seq s ⟨#[c]⟩=decide (xom s=[(c.toNat:Int)]):=by
 rw [v75];refine decide_eq_decide.2 ⟨fun h=>by rw [h];rfl,fun h=>?_⟩
 have:=vbf s
 rw [h] at this;rw [<-this];show (⟨([(c.toNat:Int)].map fun n=>UInt8.ofNat n.toNat).toArray⟩:ByteArray)=_;simp
theorem vl3 {s:ByteArray} (h:xgp isDigit s=s.size):∀ c∈xom s,isDigit c=true:=by
 have:((xom s).takeWhile isDigit).length=(xom s).length:=by rw [xe3];exact h
 have e:(xom s).takeWhile isDigit=xom s:=List.IsPrefix.eq_of_length (List.takeWhile_prefix _) this;intro c hc;rw [<-e] at hc;exact List.all_eq_true.1 (List.all_takeWhile) c hc
theorem yff (s:ByteArray) (hs:s.size<=1099511627776) (h0:s.size≠0) (hd:xgp isDigit s=s.size):CallsD Γ prog 171 [.one (cS s)] (.tup [.one (cI (numR (xom s)).1),.one (cB (numR (xom s)).2)]):=by
 have c1:=x9j (Γ:=Γ) s _ _ hs vou;rw [hd] at c1;have hm:=vl3 hd;have hb:=ven s (by omega);have hlen:=xe3 s;have hq:seq s ⟨#[48]⟩=decide (xom s=[48]):=w7v s 48;refine CallsD.run [] Go.Proofs.Tryz.func171 rfl rfl rfl ?_;simp only [Go.Proofs.Tryz.f171];refine hgR ?_
 repeat' ((first | refine hfk ?_ ?_<;>intros | refine hik ?_ | with_reducible first | refine y5k (c1) ?_ | refine x4p (c1) ?_)<;>refine hgS ?_)
 all_goals first
  | (exfalso;omega)
  | (refine lf1 @wwl ?_;first | exact trivial | rfl)
  | skip
 all_goals
  have hnl:(xom s).length<=13:=by omega
  refine wwt [0,30] (fun i:Nat=>[(4,.one (.dat (cI (numV ((xom s).take i))))),(31,.one (.dat (cI i)))]) (fun _=>[]) (fun i=>i<=s.size) (fun i=>s.size-i) 0 (Nat.zero_le _) ?_ ?_
  . refine hg ?_;exact StH.same svl rfl
  intro i hi;have hv:=wby (xom s) hm (i:=i) (by omega) hnl;refine hg ?_;refine zcl (fun hlt _=>?_) (fun hlt _=>?_)
  . have hi':i<s.size:=by omega
    have hge:=w5v s i hi';have hc:=vyg (hm (xw3 s i) (List.mem_of_mem_drop (by rw [hge];simp)))
    have e:numV ((xom s).take (i+1))=10*numV ((xom s).take i)+(xw3 s i-48):=by
     rw [<-wfn]
     congr 1
     rw [List.take_add_one,xfe s i hi'];rfl
    clear hm;refine hg ?_
    repeat' ((first | refine hfk ?_ ?_<;>intros | refine hik ?_)<;>refine hgS ?_)
    refine ⟨i+1,by omega,by omega,?_⟩;rw [e];exact StH.same svl rfl
  . have e:(xom s).take i=xom s:=List.take_of_length_le (by omega);rw [e];rw [e] at hv;clear hm;refine hg ?_
    repeat' ((first | refine hfk ?_ ?_<;>intros | refine hik ?_)<;>refine hgS ?_)
    all_goals refine lf1 @wwl ?_;first | exact trivial | rfl
def quR:Option (List Int×Nat)->ByteArray×Int
 | none=>(⟨#[]⟩,0)
 | some r=>bif decide (400<(r.1.length:Int)) then (⟨#[]⟩,0) else (strOfNums r.1,(r.2:Int)+1)
theorem xcz:quR none=(⟨#[]⟩,0):=rfl
theorem v18 (v:List Int) (n:Nat):quR (some (v,n))=bif decide (400<(v.length:Int)) then (⟨#[]⟩,0) else (strOfNums v,(n:Int)+1):=rfl
theorem zo5:quoL []=none:=rfl
theorem w3w {c:Int} {l:List Int} (h:xef c=false):quoL (c::l)=none:=by rw [quoL.eq_def];simp only [h];rfl
theorem wx7 {l:List Int}:quoL (34::l)=some ([],1):=by rw [quoL.eq_def];simp [xef]
theorem zdi {d:Int} {l:List Int} (h:d=34\/d=92):quoL (92::d::l)=(quoL l).map (fun r=>(d::r.1,r.2+2)):=by
 rw [quoL.eq_def]
 rcases h with rfl | rfl<;>rfl
theorem w02:quoL [92]=none:=rfl
theorem y2x {d:Int} {l:List Int} (h:¬d=34) (h':¬d=92):quoL (92::d::l)=none:=by
 rw [quoL.eq_def];simp [h,h',xef]
theorem vtx {c:Int} {l:List Int} (hp:xef c=true) (h:¬c=34) (h':¬c=92):quoL (c::l)=(quoL l).map (fun r=>(c::r.1,r.2+1)):=by
 rw [quoL.eq_def];simp [h,h',hp]
theorem wko (s:ByteArray) (hs:s.size<=1073741824) (h1:1<=s.size):CallsD Γ prog 172 [.one (cS s)] (.tup [.one (cS (quR (quoL ((xom s).drop 1))).1),.one (cI (quR (quoL ((xom s).drop 1))).2)]):=by
 generalize hR:quoL ((xom s).drop 1)=R;refine CallsD.run [] Go.Proofs.Tryz.func172 rfl rfl rfl ?_;simp only [Go.Proofs.Tryz.f172];refine hgR ?_
 repeat' ((first | refine hfk ?_ ?_<;>intros | refine hik ?_)<;>refine hgS ?_)
 refine wwt [0] (fun x:Nat×List Int=>[(4,.one (.sl 0 1 0 x.2.length)),(5,.one (.dat (cI x.1)))]) (fun x=>[.arr (.ints .u8 x.2) 0 (some 5)])
  (fun x=>1<=x.1/\x.1<=s.size/\x.2.length<x.1/\x.2.all wtu=true/\(quoL ((xom s).drop x.1)).map (fun r=>(x.2++r.1,r.2+(x.1-1)))=R) (fun x=>s.size-x.1) (1,[]) ⟨Nat.le_refl _,h1,by decide,rfl,by rw [<-hR];simp⟩ ?_ ?_
 . refine hg ?_;refine StH.trans (StH.empty (d:=4) (es:=1) (c:=.ints .u8 []) (T:=some 5) rfl rfl trivial rfl) ?_;refine hg ?_;exact StH.same svl rfl
 rintro ⟨n,vs⟩ ⟨a1,a2,a3,a4,a5⟩;simp only at a1 a2 a3 a4 a5;clear hR;have cp:=x0s (Γ:=Γ) (xw3 s n);by_cases hn:n<s.size
 . rw [w5v s n hn] at a5
   cases hp:xef (xw3 s n) with
   | false=>
    rw [hp] at cp;rw [w3w hp] at a5;subst a5;refine hg ?_
    repeat' ((first | refine hfk ?_ ?_<;>intros | refine hik ?_ | with_reducible first | refine y5k (cp) ?_ | refine x4p (cp) ?_)<;>refine hgS ?_)
    all_goals first
     | (exfalso;omega)
     | exact RLe.ofEq rfl
   | true=>
    rw [hp] at cp;by_cases h34:xw3 s n=34
    . rw [h34] at cp;rw [h34,wx7] at a5;simp only [Option.map_some,List.append_nil] at a5;subst a5;rw [show 1+(n-1)=n by omega,v18];refine hg ?_
      repeat' ((first | refine hfk ?_ ?_<;>intros | refine hik ?_ | with_reducible first | refine y5k (cp) ?_ | refine x4p (cp) ?_)<;>refine hgS ?_)
      all_goals first
       | (exfalso;omega)
       | (refine lfE ?_;first | exact trivial | rfl)
    . by_cases h92:xw3 s n=92
      . rw [h92] at a5 cp;by_cases hn1:n+1<s.size
        . rw [w5v s (n + 1) hn1] at a5;by_cases hd:xw3 s (n+1)=34\/xw3 s (n+1)=92
          . rw [zdi hd,Option.map_map] at a5
            have a6:(vs++[xw3 s (n+1)]).all wtu=true:=by rw [List.all_append,a4];simp [zw4]
            refine hg ?_
            repeat' ((first | refine hfk ?_ ?_<;>intros | refine hik ?_ | with_reducible first | refine y5k (cp) ?_ | refine x4p (cp) ?_)<;>refine hgS ?_)
            all_goals first
             | (exfalso;omega)
             | (refine ⟨(n+1+1,vs++[xw3 s (n+1)]),⟨by dsimp only;omega,by dsimp only;omega,by simp only [List.length_append,List.length_singleton];omega,a6,?_⟩,by dsimp only;omega,?_⟩
                . rw [<-a5]
                  congr 1
                  funext r
                  simp only [Function.comp,List.append_assoc,List.singleton_append]
                  congr 1
                  omega
                . exact StH.back [0,4,5] 0 1 1 rfl rfl rfl rfl rfl (by kernel_rfl) (StH.same svl rfl))
          . have hd1:¬xw3 s (n+1)=34:=fun h=>hd (.inl h)
            have hd2:¬xw3 s (n+1)=92:=fun h=>hd (.inr h)
            rw [y2x hd1 hd2] at a5;subst a5;clear hd;refine hg ?_
            repeat' ((first | refine hfk ?_ ?_<;>intros | refine hik ?_ | with_reducible first | refine y5k (cp) ?_ | refine x4p (cp) ?_)<;>refine hgS ?_)
            all_goals first
             | (exfalso;omega)
             | exact RLe.ofEq rfl
        . rw [List.drop_eq_nil_of_le (by rw [xe3];omega),w02] at a5;subst a5;refine hg ?_
          repeat' ((first | refine hfk ?_ ?_<;>intros | refine hik ?_ | with_reducible first | refine y5k (cp) ?_ | refine x4p (cp) ?_)<;>refine hgS ?_)
          all_goals first
           | (exfalso;omega)
           | exact RLe.ofEq rfl
      . rw [vtx hp h34 h92,Option.map_map] at a5
        have a6:(vs++[xw3 s n]).all wtu=true:=by rw [List.all_append,a4];simp [zw4]
        refine hg ?_
        repeat' ((first | refine hfk ?_ ?_<;>intros | refine hik ?_ | with_reducible first | refine y5k (cp) ?_ | refine x4p (cp) ?_)<;>refine hgS ?_)
        all_goals first
         | (exfalso;omega)
         | (refine ⟨(n+1,vs++[xw3 s n]),⟨by dsimp only;omega,by dsimp only;omega,by simp only [List.length_append,List.length_singleton];omega,a6,?_⟩,by dsimp only;omega,?_⟩
            . rw [<-a5]
              congr 1
              funext r
              simp only [Function.comp,List.append_assoc,List.singleton_append]
              congr 1
              omega
            . exact StH.back [0,4,5] 0 1 1 rfl rfl rfl rfl rfl (by kernel_rfl) (StH.same svl rfl))
 . rw [List.drop_eq_nil_of_le (by rw [xe3];omega),zo5] at a5;subst a5;refine hg ?_
   repeat' ((first | refine hfk ?_ ?_<;>intros | refine hik ?_ | with_reducible first | refine y5k (cp) ?_ | refine x4p (cp) ?_)<;>refine hgS ?_)
   all_goals first
    | (exfalso;omega)
    | exact RLe.ofEq rfl
abbrev sgC:List Cell:=[.raw (.int .u8 40),.raw (.int .u8 41),.raw (.int .u8 44),.raw (.int .u8 59),.raw (.int .u8 58),.raw (.int .u8 61),.raw (.int .u8 60),.raw (.int .u8 43),.raw (.int .u8 45),.raw (.int .u8 42),.raw (.int .u8 47),.raw (.int .u8 123),.raw (.int .u8 125)]
theorem w8q (p:Int->Bool) (s:ByteArray):xom (y3b s (xgp p s))=(xom s).takeWhile p:=by
 rw [vmi,y70 p (xom s)];rfl
theorem zxm {α:Type} (p:α->Bool):∀ l:List α,(l.takeWhile p).takeWhile p=l.takeWhile p
 | []=>rfl
 | a::l=>by
  cases h:p a with
  | true=>rw [List.takeWhile_cons_of_pos h,List.takeWhile_cons_of_pos h,zxm p l]
  | false=>rw [List.takeWhile_cons_of_neg (by rw [h];decide)];rfl
theorem vqr (p:Int->Bool) (s:ByteArray):xgp p (y3b s (xgp p s))=(y3b s (xgp p s)).size:=by
 show ((xom (y3b s (xgp p s))).takeWhile p).length=_;rw [<-xe3,w8q,zxm]
theorem z8g (p:Int->Bool) (s:ByteArray):(y3b s (xgp p s)).size=xgp p s:=yg0 s _ (zzy p s)
theorem vpl {p:Int->Bool} {s:ByteArray} (h1:0<s.size) (h:p (xw3 s 0)=true):0<xgp p s:=by
 show 0<((xom s).takeWhile p).length
 have:=w5v s 0 h1
 rw [List.drop_zero] at this;rw [this,List.takeWhile_cons_of_pos h];simp
theorem vs2 {p:Int->Bool} {s:ByteArray} (h1:0<s.size) (h:p (xw3 s 0)=true):xw3 (y3b s (xgp p s)) 0=xw3 s 0:=by
 have h2:=vpl h1 h;rw [ven _ (by rw [z8g];exact h2),w8q]
 have:=w5v s 0 h1
 rw [List.drop_zero] at this;rw [this,List.takeWhile_cons_of_pos h];rfl
theorem wky {c:Int} (h:ylw c=true):zdh c=true:=by unfold zdh;rw [h];rfl
theorem wtp {s:ByteArray} (h1:0<s.size) (h:ylw (xw3 s 0)=true):isName (y3b s (xgp zdh s))=decide ((xgp zdh s:Int)<=20):=by
 have h2:=vpl h1 (wky h);unfold isName;rw [vqr,vs2 h1 (wky h),z8g,h,decide_eq_true (show ¬xgp zdh s=0 by omega),decide_eq_true rfl];simp
abbrev nxR (r:Tk×Nat×Int):AV:=.tup [.agg (tkC r.1),.one (cI (r.2.1:Nat)),.one (cI r.2.2)]
theorem w5f (s:ByteArray) (hG:x7m Γ 0=.elt sgC) (h1:0<s.size) (hs:s.size<=1073741824):CallsD Γ prog 143 [.one (cS s)] (nxR (w0k (xom s))):=by
 have cl:=wn1 (Γ:=Γ) (xw3 s 0);have cd:=vou (Γ:=Γ) (xw3 s 0);have ci:=x9j (Γ:=Γ) s _ _ (by omega) ybs;have ck:=x9j (Γ:=Γ) s _ _ (by omega) vou;have hh:=ven s h1;have e1:((xom s).takeWhile zdh).length=xgp zdh s:=rfl;have e2:((xom s).takeWhile isDigit).length=xgp isDigit s:=rfl;have e3:=w5h zdh s;have e4:=w5h isDigit s;unfold w0k;rw [<-hh];have z1:=zzy zdh s;have z2:=zzy isDigit s
 cases hl:ylw (xw3 s 0) with
 | true=>
  rw [hl] at cl;have hnm:=wtp h1 hl;have cn:=zpx (Γ:=Γ) (y3b s (xgp zdh s)) (by rw [z8g];omega);have hz:=z8g zdh s;rw [hnm] at cn;rw [cond_true,e1,<-e3];clear e3 e4 e1 e2 hnm hh ck cd;generalize xgp zdh s=k at *;generalize decide ((k:Int)<=20)=b at *
  cases b
  all_goals
   refine CallsD.run [] Go.Proofs.Tryz.func143 rfl rfl rfl ?_;simp only [Go.Proofs.Tryz.f143];refine hgR ?_
   repeat' ((first | refine hfk ?_ ?_<;>intros | refine hik ?_ | with_reducible first | refine y5k (cl) ?_ | refine x4p (cl) ?_ | refine y5k (ci) ?_ | refine x4p (ci) ?_ | refine y5k (cn) ?_ | refine x4p (cn) ?_)<;>refine hgS ?_)
   all_goals refine lfE ?_;first | exact trivial | rfl
 | false=>
  rw [hl] at cl;rw [cond_false]
  cases hd:isDigit (xw3 s 0) with
  | true=>
   rw [hd] at cd;have hz:=z8g isDigit s;have hp:=vpl h1 hd;have cn:=yff (Γ:=Γ) (y3b s (xgp isDigit s)) (by rw [hz];omega) (by rw [hz];omega) (vqr isDigit s);rw [w8q] at cn;rw [cond_true,e2,<-e4];unfold numR at cn;generalize numO ((xom s).takeWhile isDigit)=b at *;generalize numV ((xom s).takeWhile isDigit)=v at *;clear e3 e4 e1 e2 hh ci;generalize xgp isDigit s=k at *
   cases b
   all_goals
    refine CallsD.run [] Go.Proofs.Tryz.func143 rfl rfl rfl ?_;simp only [Go.Proofs.Tryz.f143];refine hgR ?_
    repeat' ((first | refine hfk ?_ ?_<;>intros | refine hik ?_ | with_reducible first | refine y5k (cl) ?_ | refine x4p (cl) ?_ | refine y5k (cd) ?_ | refine x4p (cd) ?_ | refine y5k (ck) ?_ | refine x4p (ck) ?_ | refine y5k (cn) ?_ | refine x4p (cn) ?_)<;>refine hgS ?_)
    all_goals refine lfE ?_;first | exact trivial | rfl
  | false=>
   rw [hd] at cd;rw [cond_false];have cq:=wko (Γ:=Γ) s hs h1;rw [List.drop_one] at cq;clear e3 e4 e1 e2 hh ci ck;by_cases h34:xw3 s 0=34
   . have cl':=cl;have cd':=cd;rw [h34] at cl' cd';rw [decide_eq_true h34,cond_true]
     cases hq:quoL (xom s).tail with
     | none=>
      rw [hq,xcz] at cq;refine CallsD.run [] Go.Proofs.Tryz.func143 rfl rfl rfl ?_;simp only [Go.Proofs.Tryz.f143];refine hgR ?_
      repeat' ((first | refine hfk ?_ ?_<;>intros | refine hik ?_ | with_reducible first | refine y5k (cl) ?_ | refine x4p (cl) ?_ | refine y5k (cd) ?_ | refine x4p (cd) ?_ | refine y5k (cl') ?_ | refine x4p (cl') ?_ | refine y5k (cd') ?_ | refine x4p (cd') ?_ | refine y5k (cq) ?_ | refine x4p (cq) ?_)<;>refine hgS ?_)
      all_goals refine lfE ?_;first | exact trivial | rfl
     | some r=>
      obtain ⟨v,n⟩:=r;rw [hq,v18] at cq;simp only;generalize strOfNums v=t at *
      cases hv:decide (400<(v.length:Int)) with
      | true=>
       rw [hv] at cq;refine CallsD.run [] Go.Proofs.Tryz.func143 rfl rfl rfl ?_;simp only [Go.Proofs.Tryz.f143];refine hgR ?_
       repeat' ((first | refine hfk ?_ ?_<;>intros | refine hik ?_ | with_reducible first | refine y5k (cl) ?_ | refine x4p (cl) ?_ | refine y5k (cd) ?_ | refine x4p (cd) ?_ | refine y5k (cl') ?_ | refine x4p (cl') ?_ | refine y5k (cd') ?_ | refine x4p (cd') ?_ | refine y5k (cq) ?_ | refine x4p (cq) ?_)<;>refine hgS ?_)
       all_goals refine lfE ?_;first | exact trivial | rfl
      | false=>
       rw [hv] at cq;refine CallsD.run [] Go.Proofs.Tryz.func143 rfl rfl rfl ?_;simp only [Go.Proofs.Tryz.f143];refine hgR ?_
       repeat' ((first | refine hfk ?_ ?_<;>intros | refine hik ?_ | with_reducible first | refine y5k (cl) ?_ | refine x4p (cl) ?_ | refine y5k (cd) ?_ | refine x4p (cd) ?_ | refine y5k (cl') ?_ | refine x4p (cl') ?_ | refine y5k (cd') ?_ | refine x4p (cd') ?_ | refine y5k (cq) ?_ | refine x4p (cq) ?_)<;>refine hgS ?_)
       all_goals first
        | (exfalso;omega)
        | (refine lfE ?_;first | exact trivial | rfl)
   . rw [decide_eq_false h34,cond_false];clear cq;rw [<-xge];unfold xsu;refine CallsD.run [] Go.Proofs.Tryz.func143 rfl rfl rfl ?_;simp only [Go.Proofs.Tryz.f143];refine hgR ?_
     repeat' ((first | refine hfk ?_ ?_<;>intros | refine hik ?_ | with_reducible refine zl7 ?_ | with_reducible refine zp2 ?_ | with_reducible first | refine y5k (cl) ?_ | refine x4p (cl) ?_ | refine y5k (cd) ?_ | refine x4p (cd) ?_)<;>refine hgS ?_)
     all_goals first
      | exact RLe.ofEq rfl
      | exact RLe.ofEq (by simp [*];exact ⟨rfl,rfl,rfl,rfl⟩)
theorem vdu (f:Nat) (l:List Int):gapL (f+1) l=bif (l.drop (l.takeWhile vsa).length).headD 0==35 then
 ((l.takeWhile vsa).length+((l.drop (l.takeWhile vsa).length).takeWhile (fun c=>!decide (c=10))).length)+gapL f (l.drop ((l.takeWhile vsa).length+((l.drop (l.takeWhile vsa).length).takeWhile (fun c=>!decide (c=10))).length))
 else (l.takeWhile vsa).length:=rfl
theorem yti {α:Type} (p:α->Bool) (l:List α):(l.takeWhile p).length<=l.length:=(List.takeWhile_prefix p).length_le
theorem wqk:∀(f:Nat) (l:List Int),gapL f l<=l.length
 | 0,_=>Nat.zero_le _
 | f+1,l=>by
  rw [vdu];have a:=yti vsa l;have b:=yti (fun c=>!decide (c=10)) (l.drop (l.takeWhile vsa).length);rw [List.length_drop] at b
  cases ((l.drop (l.takeWhile vsa).length).headD 0==35) with
  | false=>exact a
  | true=>
   have c:=wqk f (l.drop ((l.takeWhile vsa).length+((l.drop (l.takeWhile vsa).length).takeWhile (fun c=>!decide (c=10))).length));rw [List.length_drop] at c;rw [cond_true];omega
theorem yt9 (s:ByteArray) (k i:Nat) (h:k+i<s.size):xw3 (xto s k) i=xw3 s (k+i):=by
 have h':k+i<s.data.size:=h;unfold xw3 xto;rw [ByteArray.data_extract,Array.getElem?_extract,if_pos (by simp only [Nat.min_def];split<;>simp_all<;>omega)]
def spB (s:ByteArray) (k:Nat):Nat:=xgp vsa (xto s k)
def spN (s:ByteArray) (k:Nat):Nat:=xgp (fun c=>!decide (c=10)) (xto s k)
theorem wq9 (s:ByteArray) {k:Nat} (h:k<=s.size):k+spB s k<=s.size:=by
 have:=zzy vsa (xto s k)
 rw [wuh] at this;unfold spB;omega
theorem vnn (s:ByteArray) (n:Nat):((xom s).drop n).headD 0==35↔n<s.size/\xw3 s n=35:=by
 by_cases h:n<s.size
 . rw [w5v s n h];show (xw3 s n==35)=true↔_;simp [h]
 . rw [List.drop_eq_nil_of_le (by rw [xe3];omega)];simp [h]
theorem xwk {s:ByteArray} {k:Nat} (f:Nat) (h:¬(k+spB s k<s.size/\xw3 s (k+spB s k)=35)):gapL (f+1) ((xom s).drop k)=spB s k:=by
 have e:(((xom s).drop k).takeWhile vsa).length=spB s k:=by unfold spB xgp;rw [vb7]
 rw [vdu,e,List.drop_drop]
 cases hc:(((xom s).drop (k+spB s k)).headD 0==35) with
 | false=>rfl
 | true=>exact absurd ((vnn s _).1 hc) h
theorem zhn {s:ByteArray} {k:Nat} (f:Nat) (h:k+spB s k<s.size/\xw3 s (k+spB s k)=35):gapL (f+1) ((xom s).drop k)=spB s k+spN s (k+spB s k)+gapL f ((xom s).drop (k+spB s k+spN s (k+spB s k))):=by
 have e:(((xom s).drop k).takeWhile vsa).length=spB s k:=by unfold spB xgp;rw [vb7]
 have e2:(((xom s).drop (k+spB s k)).takeWhile (fun c=>!decide (c=10))).length=spN s (k+spB s k):=by unfold spN xgp;rw [vb7]
 rw [vdu,e,List.drop_drop,(vnn s _).2 h,cond_true,e2,List.drop_drop,<-Nat.add_assoc]
theorem wkk {s:ByteArray} {n m:Nat} (hm:m<=s.size) (hnm:n<=m) (hj:∀ j,n<=j->j<m->¬xw3 s j=10) (h:m=s.size\/xw3 s m=10):spN s n=m-n:=by
 unfold spN;have hz:=wuh s n;refine x2o (by omega) (fun j hj'=>?_) ?_
 . rw [yt9 s n j (by omega)];simpa using hj (n+j) (by omega) (by omega)
 . rcases h with h | h
   . exact .inl (by omega)
   . by_cases e:m=s.size
     . exact .inl (by omega)
     . refine .inr ?_;rw [yt9 s n _ (by omega),show n+(m-n)=m by omega,h];rfl
theorem cGap (s:ByteArray) (hs:s.size<=1073741824):CallsD Γ prog 142 [.one (cS s)] (.one (cI (gapL (s.size+1) (xom s)))):=by
 have cs:∀ n,CallsD Γ prog 100 [.one (cS (xto s n)),fN 170] (.one (cI (spB s n))):=fun n=>x9j (Γ:=Γ) (xto s n) _ _ (by rw [wuh];omega) yfz
 have c0:=cs 0;rw [show xto s 0=s by unfold xto;simp] at c0;have hz:=wq9 s (Nat.zero_le _);rw [Nat.zero_add] at hz;generalize hR:gapL (s.size+1) (xom s)=R;refine CallsD.run [] Go.Proofs.Tryz.func142 rfl rfl rfl ?_;simp only [Go.Proofs.Tryz.f142];refine hgR ?_
 repeat' ((first | refine hfk ?_ ?_<;>intros | refine hik ?_ | with_reducible first | refine y5k (c0) ?_ | refine x4p (c0) ?_)<;>refine hgS ?_)
 clear c0;refine wwt [0] (fun k:Nat=>[(3,.one (.dat (cI ((k+spB s k:Nat):Int))))]) (fun _=>[]) (fun k=>k<=s.size/\∃ f,s.size-k<=f/\k+gapL (f+1) ((xom s).drop k)=R) (fun k=>s.size-k) 0 ⟨Nat.zero_le _,s.size,Nat.le_refl _,by rw [Nat.zero_add,List.drop_zero];exact hR⟩ ?_ ?_
 . conv=>simp (maxSteps:=2000000) (disch:=omega) only [go_sem,Nat.reduceAdd,Nat.reduceSub,Nat.reduceMul,Int.reduceToNat,Nat.reduceEqDiff,Nat.reduceBEq,Nat.reduceBneDiff,Nat.reduceLT,Int.reduceEq,Int.reduceLT,Int.reduceLE,Int.reduceNeg,Int.reduceAdd,Int.reduceSub,Int.reduceMul,Nat.zero_add]
   exact StH.same svl rfl
 rintro k ⟨hk,f,hf,he⟩;clear hR;have hb:=wq9 s hk;by_cases hc:k+spB s k<s.size/\xw3 s (k+spB s k)=35
 . rw [zhn f hc] at he;obtain ⟨g1,g2⟩:=hc;generalize hn:k+spB s k=n at *;refine hg ?_
   repeat' ((first | refine hfk ?_ ?_<;>intros | refine hik ?_)<;>refine hgS ?_)
   all_goals try (exfalso;omega)
   refine wwt [0] (fun m:Nat=>[(3,.one (.dat (cI m)))]) (fun _=>[]) (fun m=>n<=m/\m<=s.size/\∀ j,n<=j->j<m->¬xw3 s j=10) (fun m=>s.size-m) n ⟨Nat.le_refl _,by omega,fun j h1 h2=>by omega⟩ ?_ ?_
   . refine hg ?_;exact StH.same svl rfl
   rintro m ⟨m1,m2,m3⟩;have hstop:=wkk m2 m1 m3
   have hnext:¬xw3 s m=10->∀ j,n<=j->j<m+1->¬xw3 s j=10:=fun h j h1 h2=>by
    rcases Nat.lt_or_eq_of_le (Nat.le_of_lt_succ h2) with h3 | h3
    . exact m3 j h1 h3
    . rw [h3];exact h
   have hne:m=n->¬xw3 s m=10:=fun h=>by rw [h,g2];decide
   have cm:=cs m;clear m3 cs;by_cases hm:m=s.size\/xw3 s m=10
   . have e:=hstop hm
     have hn:¬m=n:=fun h=>by
      rcases hm with h' | h'
      . omega
      . exact hne h h'
     rw [e,show n+(m-n)=m by omega] at he;obtain ⟨f,rfl⟩:∃ g,f=g+1:=⟨f-1,by omega⟩;have hbm:=wq9 s m2;clear hstop hnext hne;refine hg ?_
     repeat' ((first | refine hfk ?_ ?_<;>intros | refine hik ?_ | with_reducible first | refine y5k (cm) ?_ | refine x4p (cm) ?_)<;>refine hgS ?_)
     all_goals first
      | (exfalso;omega)
      | (exfalso;rcases hm with h | h;omega;contradiction)
      | exact ⟨m,⟨m2,f,by omega,by omega⟩,by omega,StH.same svl rfl⟩
   . have h1:¬m=s.size:=fun h=>hm (.inl h)
     have h2:¬xw3 s m=10:=fun h=>hm (.inr h)
     have hnext:=hnext h2;clear hstop hne cm hm;refine hg ?_
     repeat' ((first | refine hfk ?_ ?_<;>intros | refine hik ?_)<;>refine hgS ?_)
     all_goals first
      | (exfalso;omega)
      | exact ⟨m+1,⟨by omega,by omega,hnext⟩,by omega,StH.same svl rfl⟩
 . rw [xwk f hc] at he;generalize k+spB s k=n at *;subst he;by_cases g1:n<s.size
   . have g2:¬xw3 s n=35:=fun h=>hc ⟨g1,h⟩
     clear hc;refine hg ?_
     repeat' ((first | refine hfk ?_ ?_<;>intros | refine hik ?_)<;>refine hgS ?_)
     all_goals first
      | (exfalso;omega)
      | contradiction
      | exact RLe.ofEq rfl
   . clear hc;refine hg ?_
     repeat' ((first | refine hfk ?_ ?_<;>intros | refine hik ?_)<;>refine hgS ?_)
     all_goals first
      | (exfalso;omega)
      | exact RLe.ofEq rfl
theorem yys:∀(k:Nat) (l:List Int),l.length<=k->∀ r,quoL l=some r->r.2<=l.length
 | 0,l,h,r,hr=>by
  have e:l=[]:=List.eq_nil_of_length_eq_zero (by omega);rw [e,zo5] at hr;cases hr
 | k+1,[],_,r,hr=>by rw [zo5] at hr;cases hr
 | k+1,c::l,h,r,hr=>by
  have h:l.length<=k:=by simpa using h
  cases hp:xef c with
  | false=>rw [w3w hp] at hr;cases hr
  | true=>
   by_cases h34:c=34
   . subst h34;rw [wx7] at hr;cases hr;simp
   . by_cases h92:c=92
     . subst h92
       cases l with
       | nil=>rw [w02] at hr;cases hr
       | cons d m=>
        by_cases hd:d=34\/d=92
        . rw [zdi hd] at hr;obtain ⟨q,h1,rfl⟩:=Option.map_eq_some_iff.1 hr
          have:=yys k m (by simp at h;omega) q h1
          simp;omega
        . rw [y2x (fun h=>hd (.inl h)) (fun h=>hd (.inr h))] at hr;cases hr
     . rw [vtx hp h34 h92] at hr;obtain ⟨q,h1,rfl⟩:=Option.map_eq_some_iff.1 hr
       have:=yys k l h q h1
       simp;omega
theorem yp2 {p:Int->Bool} {l:List Int} (hl:l≠[]) (h:p (l.headD 0)=true):1<=(l.takeWhile p).length:=by
 cases l with
 | nil=>exact absurd rfl hl
 | cons c l=>
  have h:p c=true:=h;rw [List.takeWhile_cons_of_pos h];simp
theorem y22 {l:List Int} (hl:l≠[]) (h:(w0k l).2.2=0):1<=(w0k l).2.1/\(w0k l).2.1<=l.length:=by
 unfold w0k at h ⊢
 cases h1:ylw (l.headD 0) with
 | true=>
  rw [h1] at h;rw [cond_true] at h ⊢
  cases h2:decide (((l.takeWhile zdh).length:Int)<=20) with
  | true=>exact ⟨yp2 hl (wky h1),yti _ _⟩
  | false=>rw [h2] at h;cases h
 | false=>
  rw [h1] at h;rw [cond_false] at h ⊢
  cases h3:isDigit (l.headD 0) with
  | true=>
   rw [h3] at h;rw [cond_true] at h ⊢
   cases h2:numO (l.takeWhile isDigit) with
   | true=>exact ⟨yp2 hl h3,yti _ _⟩
   | false=>rw [h2] at h;cases h
  | false=>
   rw [h3] at h;rw [cond_false] at h ⊢
   cases h4:decide (l.headD 0=34) with
   | true=>
    rw [h4] at h;rw [cond_true] at h ⊢
    cases hq:quoL l.tail with
    | none=>rw [hq] at h;cases h
    | some r=>
     obtain ⟨v,n⟩:=r
     have:=yys _ _ (Nat.le_refl _) _ hq
     rw [hq] at h;simp only at h this ⊢
     cases h5:decide (400<(v.length:Int)) with
     | true=>rw [h5] at h;cases h
     | false=>
      rw [List.length_tail] at this
      have:0<l.length:=List.length_pos_iff.2 hl
      rw [cond_false];simp only;omega
   | false=>
    rw [h4] at h;rw [cond_false] at h ⊢
    cases h6:xsu (l.headD 0) with
    | true=>exact ⟨Nat.le_refl _,List.length_pos_iff.2 hl⟩
    | false=>rw [h6] at h;cases h
def apS (acc:List Tk):Sn->Sn
 | .inl ts=>.inl (acc++ts)
 | .inr x=>.inr x
theorem v1b (a b:List Tk) (r:Sn):apS a (apS b r)=apS (a++b) r:=by
 cases r with
 | inl ts=>simp [apS]
 | inr x=>rfl
theorem wik {f:Nat} {l:List Int} {a:Nat} (h:l.length<=gapL (l.length+1) l):z3k (f+1) l a=.inl []:=by
 rw [z3k];simp only;rw [List.drop_eq_nil_of_le h];rfl
theorem y60 {f:Nat} {l:List Int} {a:Nat} (h:gapL (l.length+1) l<l.length) (he:¬(w0k (l.drop (gapL (l.length+1) l))).2.2=0):z3k (f+1) l a=.inr (a+gapL (l.length+1) l,(w0k (l.drop (gapL (l.length+1) l))).2.2):=by
 rw [z3k];simp only;rw [show (l.drop (gapL (l.length+1) l)).isEmpty=false by rw [List.isEmpty_eq_false_iff_exists_mem];exact ⟨_,List.getElem_mem (show 0<(l.drop (gapL (l.length+1) l)).length by rw [List.length_drop];omega)⟩,cond_false,decide_eq_true he];rfl
theorem yma {f:Nat} {l:List Int} {a:Nat} (h:gapL (l.length+1) l<l.length) (he:(w0k (l.drop (gapL (l.length+1) l))).2.2=0) :
 z3k (f+1) l a=apS [{ (w0k (l.drop (gapL (l.length+1) l))).1 with p:=((a+gapL (l.length+1) l:Nat):Int) }] (z3k f (l.drop (gapL (l.length+1) l+(w0k (l.drop (gapL (l.length+1) l))).2.1)) (a+gapL (l.length+1) l+(w0k (l.drop (gapL (l.length+1) l))).2.1)):=by
 rw [z3k];simp only;rw [show (l.drop (gapL (l.length+1) l)).isEmpty=false by rw [List.isEmpty_eq_false_iff_exists_mem];exact ⟨_,List.getElem_mem (show 0<(l.drop (gapL (l.length+1) l)).length by rw [List.length_drop];omega)⟩,cond_false,decide_eq_false (fun h=>h he),cond_false]
 cases z3k f (l.drop (gapL (l.length+1) l+(w0k (l.drop (gapL (l.length+1) l))).2.1)) (a+gapL (l.length+1) l+(w0k (l.drop (gapL (l.length+1) l))).2.1)<;>rfl
theorem zz8 (s:ByteArray) (hG:x7m Γ 0=.elt sgC) (hs:s.size<=1073741824):CallsD Γ prog 112 [.one (cS s)] (snR (w3y s)):=by
 have cg:∀ a,a<=s.size->CallsD Γ prog 142 [.one (cS (xto s a))] (.one (cI (gapL (((xom s).drop a).length+1) ((xom s).drop a)))):=fun a ha=>by
  have:=cGap (Γ:=Γ) (xto s a) (by rw [wuh];omega)
  rw [vb7,wuh,<-xe3,<-List.length_drop] at this;exact this
 have cn:∀ a,a<s.size->CallsD Γ prog 143 [.one (cS (xto s a))] (nxR (w0k ((xom s).drop a))):=fun a ha=>by
  have:=w5f (Γ:=Γ) (xto s a) hG (by rw [wuh];omega) (by rw [wuh];omega)
  rw [vb7] at this;exact this
 have hlen:∀ a,((xom s).drop a).length=s.size-a:=fun a=>by rw [List.length_drop,xe3]
 unfold w3y;by_cases h4:4000<(s.size:Int)
 . rw [decide_eq_true h4];clear cg cn hlen;refine CallsD.run [] Go.Proofs.Tryz.func112 rfl rfl rfl ?_;simp only [Go.Proofs.Tryz.f112];refine hgR ?_
   repeat' ((first | refine hfk ?_ ?_<;>intros | refine hik ?_)<;>refine hgS ?_)
   all_goals first
    | (exfalso;omega)
    | exact .tup (.cons (.one (.nilSl _)) (.cons (.refl _) (.cons (.refl _) .nil)))
 . rw [decide_eq_false h4,cond_false];generalize hR:z3k (s.size+1) (xom s) 0=R;refine CallsD.run [] Go.Proofs.Tryz.func112 rfl rfl rfl ?_;simp only [Go.Proofs.Tryz.f112];refine hgR ?_
   repeat' ((first | refine hfk ?_ ?_<;>intros | refine hik ?_)<;>refine hgS ?_)
   all_goals try (exfalso;omega)
   refine wwt [0] (fun x:Nat×List Tk=>[(5,.one (.sl 0 4 0 x.2.length)),(6,.one (.dat (cI x.1)))]) (fun x=>[.arr (.sl 4 (x.2.map Tk.C)) 0 (some 179)])
    (fun x=>x.1<=s.size/\x.2.length<=x.1/\∃ f,s.size-x.1<f/\apS x.2 (z3k f ((xom s).drop x.1) x.1)=R) (fun x=>s.size-x.1) (0,[]) ⟨Nat.zero_le _,Nat.le_refl _,s.size+1,by omega,by rw [List.drop_zero,hR];cases R<;>rfl⟩ ?_ ?_
   . refine hg ?_;refine StH.trans (StH.empty (d:=5) (es:=4) (c:=.sl 4 []) (T:=some 179) rfl rfl (fun r hr=>by cases hr) rfl) ?_;refine hg ?_;exact StH.same svl rfl
   rintro ⟨a,ts⟩ ⟨a1,a2,f,a3,a4⟩;simp only at a1 a2 a3 a4;clear hR h4;obtain ⟨f,rfl⟩:∃ g,f=g+1:=⟨f-1,by omega⟩;have c1:=cg a a1;have hgl:=wqk (((xom s).drop a).length+1) ((xom s).drop a);have hl:=hlen a
   have e1:=fun h=>wik (f:=f) (a:=a) (l:=(xom s).drop a) h
   have e2:=fun h h'=>y60 (f:=f) (a:=a) (l:=(xom s).drop a) h h'
   have e3:=fun h h'=>yma (f:=f) (a:=a) (l:=(xom s).drop a) h h'
   have nb:=fun hne h=>y22 (l:=((xom s).drop a).drop (gapL (((xom s).drop a).length+1) ((xom s).drop a))) hne h
   have c2:=fun h=>cn (a+gapL (((xom s).drop a).length+1) ((xom s).drop a)) h
   clear cn cg;rw [<-List.drop_drop] at c2;generalize gapL (((xom s).drop a).length+1) ((xom s).drop a)=g at *;rw [hl] at hgl
   have et:((a:Int)+(g:Int)).toNat=a+g:=by omega
   by_cases hgp:g<((xom s).drop a).length
   . rw [hl] at hgp;have c3:=c2 (by omega);clear c2
     replace nb:=nb (fun h=>by have:=congrArg List.length h;rw [List.length_drop,hl] at this;simp at this;omega)
     by_cases he:(w0k (((xom s).drop a).drop g)).2.2=0
     . have t3:=e3 (by rw [hl];exact hgp) he;have nn:=nb he;rw [List.length_drop,hl] at nn;clear e1 e2 e3 nb;generalize w0k (((xom s).drop a).drop g)=r at *;obtain ⟨⟨k,t,n,q⟩,m,e⟩:=r;simp only at he nn t3 c3;subst he;rw [t3,v1b,List.drop_drop] at a4;clear t3;refine hg ?_
       repeat' ((first | refine hfk ?_ ?_<;>intros | refine hik ?_ | with_reducible first | refine y5k (c1) ?_ | refine x4p (c1) ?_ | refine y5k (c3) ?_ | refine x4p (c3) ?_)<;>refine hgS ?_)
       all_goals try (exfalso;omega)
       refine ⟨(a+g+m,ts++[⟨k,t,n,(a:Int)+g⟩]),⟨by dsimp only;omega,by simp only [List.length_append,List.length_singleton];omega,f,by dsimp only;omega,by rw [<-a4];simp only [Nat.add_assoc,Int.natCast_add]⟩,by dsimp only;omega,?_⟩;refine StH.back [0,5,6] 0 2 1 rfl rfl rfl rfl rfl (by kernel_rfl) ?_;simp only [List.map_append,List.map_cons,List.map_nil,Tk.C_eq]
       conv=>simp (maxSteps:=2000000) (disch:=omega) only [go_sem,Nat.reduceAdd,Nat.reduceSub,Nat.reduceMul,Int.reduceToNat,Nat.reduceEqDiff,Nat.reduceBEq,Nat.reduceBneDiff,Nat.reduceLT,Int.reduceEq,Int.reduceLT,Int.reduceLE,Int.reduceNeg,Int.reduceAdd,Int.reduceSub,Int.reduceMul,List.length_append,List.length_singleton]
       exact StH.same svl rfl
     . have t2:=e2 (by rw [hl];exact hgp) he;clear e1 e2 e3 nb;generalize w0k (((xom s).drop a).drop g)=r at *;obtain ⟨⟨k,t,n,q⟩,m,e⟩:=r;simp only at he t2 c3;rw [t2] at a4;clear t2;subst a4;refine hg ?_
       repeat' ((first | refine hfk ?_ ?_<;>intros | refine hik ?_ | with_reducible first | refine y5k (c1) ?_ | refine x4p (c1) ?_ | refine y5k (c3) ?_ | refine x4p (c3) ?_)<;>refine hgS ?_)
       all_goals try (exfalso;omega)
       exact .tup (.cons (.one (.nilSl _)) (.cons (.refl _) (.cons (.refl _) .nil)))
   . have t1:=e1 (by omega);rw [t1] at a4;clear t1 e1 e2 e3 nb c2;subst a4;refine hg ?_
     repeat' ((first | refine hfk ?_ ?_<;>intros | refine hik ?_ | with_reducible first | refine y5k (c1) ?_ | refine x4p (c1) ?_)<;>refine hgS ?_)
     all_goals try (exfalso;omega)
     exact RLe.ofEq (by simp [apS,snR])
end Go.Hp.T
namespace Go.Hp.T
open Go Go.RowKit Go.Slot Go.Hp Go.Slot.T
open Go.Proofs.Tryz (prog)
set_option maxRecDepth 10000
set_option maxHeartbeats 8000000
variable {Γ:List (Nat×List Cell)}
theorem strOfNums_size (l:List Int):(strOfNums l).size=l.length:=by
 show ((l.map fun n=>UInt8.ofNat n.toNat).toArray).size=_;simp
theorem yu7 (l:List Int):(w0k l).1.t.size<=l.length+401:=by
 have e0:(default:Tk).t.size=0:=rfl;unfold w0k
 cases ylw (l.headD 0) with
 | true=>
  rw [cond_true]
  have:=yti zdh l
  cases decide (((l.takeWhile zdh).length:Int)<=20) with
  | true=>rw [cond_true];show (strOfNums _).size<=_;rw [strOfNums_size];omega
  | false=>rw [cond_false];show (default:Tk).t.size<=_;omega
 | false=>
  rw [cond_false]
  cases isDigit (l.headD 0) with
  | true=>
   rw [cond_true]
   have:=yti isDigit l
   cases numO (l.takeWhile isDigit) with
   | true=>rw [cond_true];show (strOfNums _).size<=_;rw [strOfNums_size];omega
   | false=>rw [cond_false];show (default:Tk).t.size<=_;omega
  | false=>
   rw [cond_false]
   cases decide (l.headD 0=34) with
   | true=>
    rw [cond_true]
    cases quoL l.tail with
    | none=>show (default:Tk).t.size<=_;omega
    | some r=>
     obtain ⟨v,n⟩:=r;dsimp only;by_cases h:400<(v.length:Int)
     . rw [decide_eq_true h];show (default:Tk).t.size<=_;omega
     . rw [decide_eq_false h,cond_false];show (strOfNums _).size<=_;rw [strOfNums_size];omega
   | false=>
    rw [cond_false]
    cases xsu (l.headD 0) with
    | true=>rw [cond_true];show (strOfNums _).size<=_;rw [strOfNums_size,List.length_take];omega
    | false=>rw [cond_false];show (default:Tk).t.size<=_;omega
theorem wtz:∀(f:Nat) (l:List Int) (a:Nat),(match z3k f l a with
 | .inl ts=>ts.length<=f/\∀ x∈ts,x.t.size<=l.length+401
 | .inr x=>x.2≠0)
 | 0,l,a=>⟨Nat.le_refl _,fun x h=>by cases h⟩
 | f+1,l,a=>by
  rw [z3k];dsimp only;generalize gapL (l.length+1) l=g
  cases (l.drop g).isEmpty with
  | true=>exact ⟨Nat.zero_le _,fun x h=>by cases h⟩
  | false=>
   rw [cond_false];have h1:=yu7 (l.drop g);generalize w0k (l.drop g)=r at *;obtain ⟨t,n,e⟩:=r;dsimp only at h1 ⊢;rw [List.length_drop] at h1;by_cases he:e=0
   . have h2:=wtz f (l.drop (g+n)) (a+g+n);rw [decide_eq_false (fun h=>h he),cond_false];generalize z3k f (l.drop (g+n)) (a+g+n)=s at *
     cases s with
     | inr x=>exact h2
     | inl ts=>
      dsimp only at h2 ⊢;refine ⟨by rw [List.length_cons];omega,fun x hx=>?_⟩
      rcases List.mem_cons.1 hx with rfl | hx
      . show t.t.size<=_;omega
      . have:=h2.2 x hx
        rw [List.length_drop] at this;omega
   . rw [decide_eq_true he,cond_true];exact he
end Go.Hp.T
