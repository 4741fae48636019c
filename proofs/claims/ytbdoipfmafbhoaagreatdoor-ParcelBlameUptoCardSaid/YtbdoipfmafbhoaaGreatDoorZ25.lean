/- The proof, part Z25: P2, P3, P4, Pn. -/
import Derived.Test.YtbdoipfmafbhoaaGreatDoorZ22
import Derived.Test.YtbdoipfmafbhoaaGreatDoorZ24
namespace Go.Hp.T
open Go Go.RowKit Go.Slot Go.Hp Go.Slot.T
open Go.Proofs.Tryz (prog)
attribute [local irreducible] hide RH
set_option maxRecDepth 10000
set_option maxHeartbeats 8000000
variable {Γ:List (Nat×List Cell)}
theorem wuy (c:Int):CallsD Γ prog 170 [.one (c8 c)] (.one (cB (y8p c))):=by
 refine CallsD.run [] Go.Proofs.Tryz.func170 rfl rfl rfl ?_;simp only [Go.Proofs.Tryz.f170];refine hgR ?_
 repeat' ((first | refine hfk ?_ ?_<;>intros | refine hik ?_)<;>refine hgS ?_)
 all_goals refine lf1 @y8p.eq_def ?_;first | exact trivial | rfl
theorem x88 (l:List Int) (c:Int):numV (l++[c])=10*numV l+(c-48):=by
 unfold numV;rw [List.foldl_append];rfl
theorem yxb {c:Int} (h:isDigit c=true):48<=c/\c<=57:=by
 unfold isDigit at h;rw [Bool.and_eq_true] at h;exact ⟨of_decide_eq_true h.1,of_decide_eq_true h.2⟩
theorem xjj (l:List Int) (h:∀ c∈l,isDigit c=true):∀ i,i<=l.length->0<=numV (l.take i)/\numV (l.take i)<10 ^ i
 | 0,_=>⟨by rw [List.take_zero];decide,by rw [List.take_zero];decide⟩
 | i+1,hi=>by
  obtain ⟨h1,h2⟩:=xjj l h i (by omega);have hc:=yxb (h _ (List.getElem_mem (show i<l.length by omega)));rw [List.take_succ_eq_append_getElem (by omega),x88,Int.pow_succ];omega
theorem vs4 (l:List Int) (h:∀ c∈l,isDigit c=true) {i:Nat} (hi:i<=l.length) (hl:l.length<=13):0<=numV (l.take i)/\numV (l.take i)<10000000000000:=by
 obtain ⟨h1,h2⟩:=xjj l h i hi;refine ⟨h1,Int.lt_of_lt_of_le h2 ?_⟩
 have h3:∀ n:Nat,n<=13->(10:Int) ^ n<=10000000000000:=by decide
 exact h3 i (by omega)
def numR (l:List Int):Int×Bool:=bif numO l then (numV l,true) else (0,false)
theorem zls (l:List Int):numR l=bif (decide (l.headD 0=48)&&!decide (l=[48]))||(decide (13<(l.length:Int))||decide (1099511627776<numV l)) then (0,false) else (numV l,true):=by
 unfold numR numO;rw [Bool.or_assoc]
 cases ((decide (l.headD 0=48)&&!decide (l=[48]))||(decide (13<(l.length:Int))||decide (1099511627776<numV l)))<;>rfl
theorem xi9 (s:ByteArray) (c:UInt8):seq s ⟨#[c]⟩=decide (xw3 s=[(c.toNat:Int)]):=by
 rw [wzm];refine decide_eq_decide.2 ⟨fun h=>by rw [h];rfl,fun h=>?_⟩
 have:=yij s
 rw [h] at this;rw [<-this];show (⟨([(c.toNat:Int)].map fun n=>UInt8.ofNat n.toNat).toArray⟩:ByteArray)=_;simp
theorem y6q {s:ByteArray} (h:wk3 isDigit s=s.size):∀ c∈xw3 s,isDigit c=true:=by
 have:((xw3 s).takeWhile isDigit).length=(xw3 s).length:=by rw [yus];exact h
 have e:(xw3 s).takeWhile isDigit=xw3 s:=List.IsPrefix.eq_of_length (List.takeWhile_prefix _) this;intro c hc;rw [<-e] at hc;exact List.all_eq_true.1 (List.all_takeWhile) c hc
theorem xyn (s:ByteArray) (hs:s.size<=1099511627776) (h0:s.size≠0) (hd:wk3 isDigit s=s.size):CallsD Γ prog 171 [.one (cS s)] (.tup [.one (cI (numR (xw3 s)).1),.one (cB (numR (xw3 s)).2)]):=by
 have c1:=zn1 (Γ:=Γ) s _ _ hs v6e;rw [hd] at c1;have hm:=y6q hd;have hb:=xmm s (by omega);have hlen:=yus s;have hq:seq s ⟨#[48]⟩=decide (xw3 s=[48]):=xi9 s 48;refine CallsD.run [] Go.Proofs.Tryz.func171 rfl rfl rfl ?_;simp only [Go.Proofs.Tryz.f171];refine hgR ?_
 repeat' ((first | refine hfk ?_ ?_<;>intros | refine hik ?_ | with_reducible first | refine wud (c1) ?_ | refine vqe (c1) ?_)<;>refine hgS ?_)
 all_goals first
  | (exfalso;omega)
  | (refine lf1 @zls ?_;first | exact trivial | rfl)
  | skip
 all_goals
  have hnl:(xw3 s).length<=13:=by omega
  refine xou [0,30] (fun i:Nat=>[(4,.one (.dat (cI (numV ((xw3 s).take i))))),(31,.one (.dat (cI i)))]) (fun _=>[]) (fun i=>i<=s.size) (fun i=>s.size-i) 0 (Nat.zero_le _) ?_ ?_
  . refine hg ?_;exact StH.same svl rfl
  intro i hi;have hv:=vs4 (xw3 s) hm (i:=i) (by omega) hnl;refine hg ?_;refine w4y (fun hlt _=>?_) (fun hlt _=>?_)
  . have hi':i<s.size:=by omega
    have hge:=wdu s i hi';have hc:=yxb (hm (zxg s i) (List.mem_of_mem_drop (by rw [hge];simp)))
    have e:numV ((xw3 s).take (i+1))=10*numV ((xw3 s).take i)+(zxg s i-48):=by
     rw [<-x88]
     congr 1
     rw [List.take_add_one,xpm s i hi'];rfl
    clear hm;refine hg ?_
    repeat' ((first | refine hfk ?_ ?_<;>intros | refine hik ?_)<;>refine hgS ?_)
    refine ⟨i+1,by omega,by omega,?_⟩;rw [e];exact StH.same svl rfl
  . have e:(xw3 s).take i=xw3 s:=List.take_of_length_le (by omega);rw [e];rw [e] at hv;clear hm;refine hg ?_
    repeat' ((first | refine hfk ?_ ?_<;>intros | refine hik ?_)<;>refine hgS ?_)
    all_goals refine lf1 @zls ?_;first | exact trivial | rfl
def quR:Option (List Int×Nat)->ByteArray×Int
 | none=>(⟨#[]⟩,0)
 | some r=>bif decide (400<(r.1.length:Int)) then (⟨#[]⟩,0) else (strOfNums r.1,(r.2:Int)+1)
theorem wba:quR none=(⟨#[]⟩,0):=rfl
theorem xfu (v:List Int) (n:Nat):quR (some (v,n))=bif decide (400<(v.length:Int)) then (⟨#[]⟩,0) else (strOfNums v,(n:Int)+1):=rfl
theorem zkj:quoL []=none:=rfl
theorem x46 {c:Int} {l:List Int} (h:x5y c=false):quoL (c::l)=none:=by rw [quoL.eq_def];simp only [h];rfl
theorem v2b {l:List Int}:quoL (34::l)=some ([],1):=by rw [quoL.eq_def];simp [x5y]
theorem zjb {d:Int} {l:List Int} (h:d=34\/d=92):quoL (92::d::l)=(quoL l).map (fun r=>(d::r.1,r.2+2)):=by
 rw [quoL.eq_def]
 rcases h with rfl | rfl<;>rfl
theorem zsw:quoL [92]=none:=rfl
theorem y9d {d:Int} {l:List Int} (h:¬d=34) (h':¬d=92):quoL (92::d::l)=none:=by
 rw [quoL.eq_def];simp [h,h',x5y]
theorem xz9 {c:Int} {l:List Int} (hp:x5y c=true) (h:¬c=34) (h':¬c=92):quoL (c::l)=(quoL l).map (fun r=>(c::r.1,r.2+1)):=by
 rw [quoL.eq_def];simp [h,h',hp]
theorem yi7 (s:ByteArray) (hs:s.size<=1073741824) (h1:1<=s.size):CallsD Γ prog 172 [.one (cS s)] (.tup [.one (cS (quR (quoL ((xw3 s).drop 1))).1),.one (cI (quR (quoL ((xw3 s).drop 1))).2)]):=by
 generalize hR:quoL ((xw3 s).drop 1)=R;refine CallsD.run [] Go.Proofs.Tryz.func172 rfl rfl rfl ?_;simp only [Go.Proofs.Tryz.f172];refine hgR ?_
 repeat' ((first | refine hfk ?_ ?_<;>intros | refine hik ?_)<;>refine hgS ?_)
 refine xou [0] (fun x:Nat×List Int=>[(4,.one (.sl 0 1 0 x.2.length)),(5,.one (.dat (cI x.1)))]) (fun x=>[.arr (.ints .u8 x.2) 0 (some 5)])
  (fun x=>1<=x.1/\x.1<=s.size/\x.2.length<x.1/\x.2.all wh4=true/\(quoL ((xw3 s).drop x.1)).map (fun r=>(x.2++r.1,r.2+(x.1-1)))=R) (fun x=>s.size-x.1) (1,[]) ⟨Nat.le_refl _,h1,by decide,rfl,by rw [<-hR];simp⟩ ?_ ?_
 . refine hg ?_;refine StH.trans (StH.empty (d:=4) (es:=1) (c:=.ints .u8 []) (T:=some 5) rfl rfl trivial rfl) ?_;refine hg ?_;exact StH.same svl rfl
 rintro ⟨n,vs⟩ ⟨a1,a2,a3,a4,a5⟩;simp only at a1 a2 a3 a4 a5;clear hR;have cp:=yto (Γ:=Γ) (zxg s n);by_cases hn:n<s.size
 . rw [wdu s n hn] at a5
   cases hp:x5y (zxg s n) with
   | false=>
    rw [hp] at cp;rw [x46 hp] at a5;subst a5;refine hg ?_
    repeat' ((first | refine hfk ?_ ?_<;>intros | refine hik ?_ | with_reducible first | refine wud (cp) ?_ | refine vqe (cp) ?_)<;>refine hgS ?_)
    all_goals first
     | (exfalso;omega)
     | exact RLe.ofEq rfl
   | true=>
    rw [hp] at cp;by_cases h34:zxg s n=34
    . rw [h34] at cp;rw [h34,v2b] at a5;simp only [Option.map_some,List.append_nil] at a5;subst a5;rw [show 1+(n-1)=n by omega,xfu];refine hg ?_
      repeat' ((first | refine hfk ?_ ?_<;>intros | refine hik ?_ | with_reducible first | refine wud (cp) ?_ | refine vqe (cp) ?_)<;>refine hgS ?_)
      all_goals first
       | (exfalso;omega)
       | (refine lfE ?_;first | exact trivial | rfl)
    . by_cases h92:zxg s n=92
      . rw [h92] at a5 cp;by_cases hn1:n+1<s.size
        . rw [wdu s (n + 1) hn1] at a5;by_cases hd:zxg s (n+1)=34\/zxg s (n+1)=92
          . rw [zjb hd,Option.map_map] at a5
            have a6:(vs++[zxg s (n+1)]).all wh4=true:=by rw [List.all_append,a4];simp [y07]
            refine hg ?_
            repeat' ((first | refine hfk ?_ ?_<;>intros | refine hik ?_ | with_reducible first | refine wud (cp) ?_ | refine vqe (cp) ?_)<;>refine hgS ?_)
            all_goals first
             | (exfalso;omega)
             | (refine ⟨(n+1+1,vs++[zxg s (n+1)]),⟨by dsimp only;omega,by dsimp only;omega,by simp only [List.length_append,List.length_singleton];omega,a6,?_⟩,by dsimp only;omega,?_⟩
                . rw [<-a5]
                  congr 1
                  funext r
                  simp only [Function.comp,List.append_assoc,List.singleton_append]
                  congr 1
                  omega
                . exact StH.back [0,4,5] 0 1 1 rfl rfl rfl rfl rfl (by kernel_rfl) (StH.same svl rfl))
          . have hd1:¬zxg s (n+1)=34:=fun h=>hd (.inl h)
            have hd2:¬zxg s (n+1)=92:=fun h=>hd (.inr h)
            rw [y9d hd1 hd2] at a5;subst a5;clear hd;refine hg ?_
            repeat' ((first | refine hfk ?_ ?_<;>intros | refine hik ?_ | with_reducible first | refine wud (cp) ?_ | refine vqe (cp) ?_)<;>refine hgS ?_)
            all_goals first
             | (exfalso;omega)
             | exact RLe.ofEq rfl
        . rw [List.drop_eq_nil_of_le (by rw [yus];omega),zsw] at a5;subst a5;refine hg ?_
          repeat' ((first | refine hfk ?_ ?_<;>intros | refine hik ?_ | with_reducible first | refine wud (cp) ?_ | refine vqe (cp) ?_)<;>refine hgS ?_)
          all_goals first
           | (exfalso;omega)
           | exact RLe.ofEq rfl
      . rw [xz9 hp h34 h92,Option.map_map] at a5
        have a6:(vs++[zxg s n]).all wh4=true:=by rw [List.all_append,a4];simp [y07]
        refine hg ?_
        repeat' ((first | refine hfk ?_ ?_<;>intros | refine hik ?_ | with_reducible first | refine wud (cp) ?_ | refine vqe (cp) ?_)<;>refine hgS ?_)
        all_goals first
         | (exfalso;omega)
         | (refine ⟨(n+1,vs++[zxg s n]),⟨by dsimp only;omega,by dsimp only;omega,by simp only [List.length_append,List.length_singleton];omega,a6,?_⟩,by dsimp only;omega,?_⟩
            . rw [<-a5]
              congr 1
              funext r
              simp only [Function.comp,List.append_assoc,List.singleton_append]
              congr 1
              omega
            . exact StH.back [0,4,5] 0 1 1 rfl rfl rfl rfl rfl (by kernel_rfl) (StH.same svl rfl))
 . rw [List.drop_eq_nil_of_le (by rw [yus];omega),zkj] at a5;subst a5;refine hg ?_
   repeat' ((first | refine hfk ?_ ?_<;>intros | refine hik ?_ | with_reducible first | refine wud (cp) ?_ | refine vqe (cp) ?_)<;>refine hgS ?_)
   all_goals first
    | (exfalso;omega)
    | exact RLe.ofEq rfl
abbrev sgC:List Cell:=[.raw (.int .u8 40),.raw (.int .u8 41),.raw (.int .u8 44),.raw (.int .u8 59),.raw (.int .u8 58),.raw (.int .u8 61),.raw (.int .u8 60),.raw (.int .u8 43),.raw (.int .u8 45),.raw (.int .u8 42),.raw (.int .u8 47),.raw (.int .u8 123),.raw (.int .u8 125)]
theorem ys6 (p:Int->Bool) (s:ByteArray):xw3 (z8f s (wk3 p s))=(xw3 s).takeWhile p:=by
 rw [xu9,v7k p (xw3 s)];rfl
theorem z3e {α:Type} (p:α->Bool):∀ l:List α,(l.takeWhile p).takeWhile p=l.takeWhile p
 | []=>rfl
 | a::l=>by
  cases h:p a with
  | true=>rw [List.takeWhile_cons_of_pos h,List.takeWhile_cons_of_pos h,z3e p l]
  | false=>rw [List.takeWhile_cons_of_neg (by rw [h];decide)];rfl
theorem zct (p:Int->Bool) (s:ByteArray):wk3 p (z8f s (wk3 p s))=(z8f s (wk3 p s)).size:=by
 show ((xw3 (z8f s (wk3 p s))).takeWhile p).length=_;rw [<-yus,ys6,z3e]
theorem xv7 (p:Int->Bool) (s:ByteArray):(z8f s (wk3 p s)).size=wk3 p s:=zzz s _ (v17 p s)
theorem y2q {p:Int->Bool} {s:ByteArray} (h1:0<s.size) (h:p (zxg s 0)=true):0<wk3 p s:=by
 show 0<((xw3 s).takeWhile p).length
 have:=wdu s 0 h1
 rw [List.drop_zero] at this;rw [this,List.takeWhile_cons_of_pos h];simp
theorem v8e {p:Int->Bool} {s:ByteArray} (h1:0<s.size) (h:p (zxg s 0)=true):zxg (z8f s (wk3 p s)) 0=zxg s 0:=by
 have h2:=y2q h1 h;rw [xmm _ (by rw [xv7];exact h2),ys6]
 have:=wdu s 0 h1
 rw [List.drop_zero] at this;rw [this,List.takeWhile_cons_of_pos h];rfl
theorem vye {c:Int} (h:yx6 c=true):wj2 c=true:=by unfold wj2;rw [h];rfl
theorem ytv {s:ByteArray} (h1:0<s.size) (h:yx6 (zxg s 0)=true):isName (z8f s (wk3 wj2 s))=decide ((wk3 wj2 s:Int)<=20):=by
 have h2:=y2q h1 (vye h);unfold isName;rw [zct,v8e h1 (vye h),xv7,h,decide_eq_true (show ¬wk3 wj2 s=0 by omega),decide_eq_true rfl];simp
abbrev nxR (r:Tk×Nat×Int):AV:=.tup [.agg (tkC r.1),.one (cI (r.2.1:Nat)),.one (cI r.2.2)]
theorem xsf (s:ByteArray) (hG:x9r Γ 0=.elt sgC) (h1:0<s.size) (hs:s.size<=1073741824):CallsD Γ prog 143 [.one (cS s)] (nxR (x8i (xw3 s))):=by
 have cl:=w8x (Γ:=Γ) (zxg s 0);have cd:=v6e (Γ:=Γ) (zxg s 0);have ci:=zn1 (Γ:=Γ) s _ _ (by omega) zhq;have ck:=zn1 (Γ:=Γ) s _ _ (by omega) v6e;have hh:=xmm s h1;have e1:((xw3 s).takeWhile wj2).length=wk3 wj2 s:=rfl;have e2:((xw3 s).takeWhile isDigit).length=wk3 isDigit s:=rfl;have e3:=wmd wj2 s;have e4:=wmd isDigit s;unfold x8i;rw [<-hh];have z1:=v17 wj2 s;have z2:=v17 isDigit s
 cases hl:yx6 (zxg s 0) with
 | true=>
  rw [hl] at cl;have hnm:=ytv h1 hl;have cn:=yzo (Γ:=Γ) (z8f s (wk3 wj2 s)) (by rw [xv7];omega);have hz:=xv7 wj2 s;rw [hnm] at cn;rw [cond_true,e1,<-e3];clear e3 e4 e1 e2 hnm hh ck cd;generalize wk3 wj2 s=k at *;generalize decide ((k:Int)<=20)=b at *
  cases b
  all_goals
   refine CallsD.run [] Go.Proofs.Tryz.func143 rfl rfl rfl ?_;simp only [Go.Proofs.Tryz.f143];refine hgR ?_
   repeat' ((first | refine hfk ?_ ?_<;>intros | refine hik ?_ | with_reducible first | refine wud (cl) ?_ | refine vqe (cl) ?_ | refine wud (ci) ?_ | refine vqe (ci) ?_ | refine wud (cn) ?_ | refine vqe (cn) ?_)<;>refine hgS ?_)
   all_goals refine lfE ?_;first | exact trivial | rfl
 | false=>
  rw [hl] at cl;rw [cond_false]
  cases hd:isDigit (zxg s 0) with
  | true=>
   rw [hd] at cd;have hz:=xv7 isDigit s;have hp:=y2q h1 hd;have cn:=xyn (Γ:=Γ) (z8f s (wk3 isDigit s)) (by rw [hz];omega) (by rw [hz];omega) (zct isDigit s);rw [ys6] at cn;rw [cond_true,e2,<-e4];unfold numR at cn;generalize numO ((xw3 s).takeWhile isDigit)=b at *;generalize numV ((xw3 s).takeWhile isDigit)=v at *;clear e3 e4 e1 e2 hh ci;generalize wk3 isDigit s=k at *
   cases b
   all_goals
    refine CallsD.run [] Go.Proofs.Tryz.func143 rfl rfl rfl ?_;simp only [Go.Proofs.Tryz.f143];refine hgR ?_
    repeat' ((first | refine hfk ?_ ?_<;>intros | refine hik ?_ | with_reducible first | refine wud (cl) ?_ | refine vqe (cl) ?_ | refine wud (cd) ?_ | refine vqe (cd) ?_ | refine wud (ck) ?_ | refine vqe (ck) ?_ | refine wud (cn) ?_ | refine vqe (cn) ?_)<;>refine hgS ?_)
    all_goals refine lfE ?_;first | exact trivial | rfl
  | false=>
   rw [hd] at cd;rw [cond_false];have cq:=yi7 (Γ:=Γ) s hs h1;rw [List.drop_one] at cq;clear e3 e4 e1 e2 hh ci ck;by_cases h34:zxg s 0=34
   . have cl':=cl;have cd':=cd;rw [h34] at cl' cd';rw [decide_eq_true h34,cond_true]
     cases hq:quoL (xw3 s).tail with
     | none=>
      rw [hq,wba] at cq;refine CallsD.run [] Go.Proofs.Tryz.func143 rfl rfl rfl ?_;simp only [Go.Proofs.Tryz.f143];refine hgR ?_
      repeat' ((first | refine hfk ?_ ?_<;>intros | refine hik ?_ | with_reducible first | refine wud (cl) ?_ | refine vqe (cl) ?_ | refine wud (cd) ?_ | refine vqe (cd) ?_ | refine wud (cl') ?_ | refine vqe (cl') ?_ | refine wud (cd') ?_ | refine vqe (cd') ?_ | refine wud (cq) ?_ | refine vqe (cq) ?_)<;>refine hgS ?_)
      all_goals refine lfE ?_;first | exact trivial | rfl
     | some r=>
      obtain ⟨v,n⟩:=r;rw [hq,xfu] at cq;simp only;generalize strOfNums v=t at *
      cases hv:decide (400<(v.length:Int)) with
      | true=>
       rw [hv] at cq;refine CallsD.run [] Go.Proofs.Tryz.func143 rfl rfl rfl ?_;simp only [Go.Proofs.Tryz.f143];refine hgR ?_
       repeat' ((first | refine hfk ?_ ?_<;>intros | refine hik ?_ | with_reducible first | refine wud (cl) ?_ | refine vqe (cl) ?_ | refine wud (cd) ?_ | refine vqe (cd) ?_ | refine wud (cl') ?_ | refine vqe (cl') ?_ | refine wud (cd') ?_ | refine vqe (cd') ?_ | refine wud (cq) ?_ | refine vqe (cq) ?_)<;>refine hgS ?_)
       all_goals refine lfE ?_;first | exact trivial | rfl
      | false=>
       rw [hv] at cq;refine CallsD.run [] Go.Proofs.Tryz.func143 rfl rfl rfl ?_;simp only [Go.Proofs.Tryz.f143];refine hgR ?_
       repeat' ((first | refine hfk ?_ ?_<;>intros | refine hik ?_ | with_reducible first | refine wud (cl) ?_ | refine vqe (cl) ?_ | refine wud (cd) ?_ | refine vqe (cd) ?_ | refine wud (cl') ?_ | refine vqe (cl') ?_ | refine wud (cd') ?_ | refine vqe (cd') ?_ | refine wud (cq) ?_ | refine vqe (cq) ?_)<;>refine hgS ?_)
       all_goals first
        | (exfalso;omega)
        | (refine lfE ?_;first | exact trivial | rfl)
   . rw [decide_eq_false h34,cond_false];clear cq;rw [<-xqn];unfold x06;refine CallsD.run [] Go.Proofs.Tryz.func143 rfl rfl rfl ?_;simp only [Go.Proofs.Tryz.f143];refine hgR ?_
     repeat' ((first | refine hfk ?_ ?_<;>intros | refine hik ?_ | with_reducible refine yz8 ?_ | with_reducible refine ycx ?_ | with_reducible first | refine wud (cl) ?_ | refine vqe (cl) ?_ | refine wud (cd) ?_ | refine vqe (cd) ?_)<;>refine hgS ?_)
     all_goals first
      | exact RLe.ofEq rfl
      | exact RLe.ofEq (by simp [*];exact ⟨rfl,rfl,rfl,rfl⟩)
theorem z3c (f:Nat) (l:List Int):gapL (f+1) l=bif (l.drop (l.takeWhile y8p).length).headD 0==35 then
 ((l.takeWhile y8p).length+((l.drop (l.takeWhile y8p).length).takeWhile (fun c=>!decide (c=10))).length)+gapL f (l.drop ((l.takeWhile y8p).length+((l.drop (l.takeWhile y8p).length).takeWhile (fun c=>!decide (c=10))).length))
 else (l.takeWhile y8p).length:=rfl
theorem xbb {α:Type} (p:α->Bool) (l:List α):(l.takeWhile p).length<=l.length:=(List.takeWhile_prefix p).length_le
theorem vo5:∀(f:Nat) (l:List Int),gapL f l<=l.length
 | 0,_=>Nat.zero_le _
 | f+1,l=>by
  rw [z3c];have a:=xbb y8p l;have b:=xbb (fun c=>!decide (c=10)) (l.drop (l.takeWhile y8p).length);rw [List.length_drop] at b
  cases ((l.drop (l.takeWhile y8p).length).headD 0==35) with
  | false=>exact a
  | true=>
   have c:=vo5 f (l.drop ((l.takeWhile y8p).length+((l.drop (l.takeWhile y8p).length).takeWhile (fun c=>!decide (c=10))).length));rw [List.length_drop] at c;rw [cond_true];omega
theorem wcc (s:ByteArray) (k i:Nat) (h:k+i<s.size):zxg (z4g s k) i=zxg s (k+i):=by
 have h':k+i<s.data.size:=h;unfold zxg z4g;rw [ByteArray.data_extract,Array.getElem?_extract,if_pos (by simp only [Nat.min_def];split<;>simp_all<;>omega)]
def spB (s:ByteArray) (k:Nat):Nat:=wk3 y8p (z4g s k)
def spN (s:ByteArray) (k:Nat):Nat:=wk3 (fun c=>!decide (c=10)) (z4g s k)
theorem xib (s:ByteArray) {k:Nat} (h:k<=s.size):k+spB s k<=s.size:=by
 have:=v17 y8p (z4g s k)
 rw [v1l] at this;unfold spB;omega
theorem z4z (s:ByteArray) (n:Nat):((xw3 s).drop n).headD 0==35↔n<s.size/\zxg s n=35:=by
 by_cases h:n<s.size
 . rw [wdu s n h];show (zxg s n==35)=true↔_;simp [h]
 . rw [List.drop_eq_nil_of_le (by rw [yus];omega)];simp [h]
theorem zrw {s:ByteArray} {k:Nat} (f:Nat) (h:¬(k+spB s k<s.size/\zxg s (k+spB s k)=35)):gapL (f+1) ((xw3 s).drop k)=spB s k:=by
 have e:(((xw3 s).drop k).takeWhile y8p).length=spB s k:=by unfold spB wk3;rw [ymf]
 rw [z3c,e,List.drop_drop]
 cases hc:(((xw3 s).drop (k+spB s k)).headD 0==35) with
 | false=>rfl
 | true=>exact absurd ((z4z s _).1 hc) h
theorem z8z {s:ByteArray} {k:Nat} (f:Nat) (h:k+spB s k<s.size/\zxg s (k+spB s k)=35):gapL (f+1) ((xw3 s).drop k)=spB s k+spN s (k+spB s k)+gapL f ((xw3 s).drop (k+spB s k+spN s (k+spB s k))):=by
 have e:(((xw3 s).drop k).takeWhile y8p).length=spB s k:=by unfold spB wk3;rw [ymf]
 have e2:(((xw3 s).drop (k+spB s k)).takeWhile (fun c=>!decide (c=10))).length=spN s (k+spB s k):=by unfold spN wk3;rw [ymf]
 rw [z3c,e,List.drop_drop,(z4z s _).2 h,cond_true,e2,List.drop_drop,<-Nat.add_assoc]
theorem yfi {s:ByteArray} {n m:Nat} (hm:m<=s.size) (hnm:n<=m) (hj:∀ j,n<=j->j<m->¬zxg s j=10) (h:m=s.size\/zxg s m=10):spN s n=m-n:=by
 unfold spN;have hz:=v1l s n;refine ztv (by omega) (fun j hj'=>?_) ?_
 . rw [wcc s n j (by omega)];simpa using hj (n+j) (by omega) (by omega)
 . rcases h with h | h
   . exact .inl (by omega)
   . by_cases e:m=s.size
     . exact .inl (by omega)
     . refine .inr ?_;rw [wcc s n _ (by omega),show n+(m-n)=m by omega,h];rfl
theorem cGap (s:ByteArray) (hs:s.size<=1073741824):CallsD Γ prog 142 [.one (cS s)] (.one (cI (gapL (s.size+1) (xw3 s)))):=by
 have cs:∀ n,CallsD Γ prog 100 [.one (cS (z4g s n)),fN 170] (.one (cI (spB s n))):=fun n=>zn1 (Γ:=Γ) (z4g s n) _ _ (by rw [v1l];omega) wuy
 have c0:=cs 0;rw [show z4g s 0=s by unfold z4g;simp] at c0;have hz:=xib s (Nat.zero_le _);rw [Nat.zero_add] at hz;generalize hR:gapL (s.size+1) (xw3 s)=R;refine CallsD.run [] Go.Proofs.Tryz.func142 rfl rfl rfl ?_;simp only [Go.Proofs.Tryz.f142];refine hgR ?_
 repeat' ((first | refine hfk ?_ ?_<;>intros | refine hik ?_ | with_reducible first | refine wud (c0) ?_ | refine vqe (c0) ?_)<;>refine hgS ?_)
 clear c0;refine xou [0] (fun k:Nat=>[(3,.one (.dat (cI ((k+spB s k:Nat):Int))))]) (fun _=>[]) (fun k=>k<=s.size/\∃ f,s.size-k<=f/\k+gapL (f+1) ((xw3 s).drop k)=R) (fun k=>s.size-k) 0 ⟨Nat.zero_le _,s.size,Nat.le_refl _,by rw [Nat.zero_add,List.drop_zero];exact hR⟩ ?_ ?_
 . conv=>simp (maxSteps:=2000000) (disch:=omega) only [go_sem,Nat.reduceAdd,Nat.reduceSub,Nat.reduceMul,Int.reduceToNat,Nat.reduceEqDiff,Nat.reduceBEq,Nat.reduceBneDiff,Nat.reduceLT,Int.reduceEq,Int.reduceLT,Int.reduceLE,Int.reduceNeg,Int.reduceAdd,Int.reduceSub,Int.reduceMul,Nat.zero_add]
   exact StH.same svl rfl
 rintro k ⟨hk,f,hf,he⟩;clear hR;have hb:=xib s hk;by_cases hc:k+spB s k<s.size/\zxg s (k+spB s k)=35
 . rw [z8z f hc] at he;obtain ⟨g1,g2⟩:=hc;generalize hn:k+spB s k=n at *;refine hg ?_
   repeat' ((first | refine hfk ?_ ?_<;>intros | refine hik ?_)<;>refine hgS ?_)
   all_goals try (exfalso;omega)
   refine xou [0] (fun m:Nat=>[(3,.one (.dat (cI m)))]) (fun _=>[]) (fun m=>n<=m/\m<=s.size/\∀ j,n<=j->j<m->¬zxg s j=10) (fun m=>s.size-m) n ⟨Nat.le_refl _,by omega,fun j h1 h2=>by omega⟩ ?_ ?_
   . refine hg ?_;exact StH.same svl rfl
   rintro m ⟨m1,m2,m3⟩;have hstop:=yfi m2 m1 m3
   have hnext:¬zxg s m=10->∀ j,n<=j->j<m+1->¬zxg s j=10:=fun h j h1 h2=>by
    rcases Nat.lt_or_eq_of_le (Nat.le_of_lt_succ h2) with h3 | h3
    . exact m3 j h1 h3
    . rw [h3];exact h
   have hne:m=n->¬zxg s m=10:=fun h=>by rw [h,g2];decide
   have cm:=cs m;clear m3 cs;by_cases hm:m=s.size\/zxg s m=10
   . have e:=hstop hm
     have hn:¬m=n:=fun h=>by
      rcases hm with h' | h'
      . omega
      . exact hne h h'
     rw [e,show n+(m-n)=m by omega] at he;obtain ⟨f,rfl⟩:∃ g,f=g+1:=⟨f-1,by omega⟩;have hbm:=xib s m2;clear hstop hnext hne;refine hg ?_
     repeat' ((first | refine hfk ?_ ?_<;>intros | refine hik ?_ | with_reducible first | refine wud (cm) ?_ | refine vqe (cm) ?_)<;>refine hgS ?_)
     all_goals first
      | (exfalso;omega)
      | (exfalso;rcases hm with h | h;omega;contradiction)
      | exact ⟨m,⟨m2,f,by omega,by omega⟩,by omega,StH.same svl rfl⟩
   . have h1:¬m=s.size:=fun h=>hm (.inl h)
     have h2:¬zxg s m=10:=fun h=>hm (.inr h)
     have hnext:=hnext h2;clear hstop hne cm hm;refine hg ?_
     repeat' ((first | refine hfk ?_ ?_<;>intros | refine hik ?_)<;>refine hgS ?_)
     all_goals first
      | (exfalso;omega)
      | exact ⟨m+1,⟨by omega,by omega,hnext⟩,by omega,StH.same svl rfl⟩
 . rw [zrw f hc] at he;generalize k+spB s k=n at *;subst he;by_cases g1:n<s.size
   . have g2:¬zxg s n=35:=fun h=>hc ⟨g1,h⟩
     clear hc;refine hg ?_
     repeat' ((first | refine hfk ?_ ?_<;>intros | refine hik ?_)<;>refine hgS ?_)
     all_goals first
      | (exfalso;omega)
      | contradiction
      | exact RLe.ofEq rfl
   . clear hc;refine hg ?_
     repeat' ((first | refine hfk ?_ ?_<;>intros | refine hik ?_)<;>refine hgS ?_)
     all_goals first
      | (exfalso;omega)
      | exact RLe.ofEq rfl
theorem va1:∀(k:Nat) (l:List Int),l.length<=k->∀ r,quoL l=some r->r.2<=l.length
 | 0,l,h,r,hr=>by
  have e:l=[]:=List.eq_nil_of_length_eq_zero (by omega);rw [e,zkj] at hr;cases hr
 | k+1,[],_,r,hr=>by rw [zkj] at hr;cases hr
 | k+1,c::l,h,r,hr=>by
  have h:l.length<=k:=by simpa using h
  cases hp:x5y c with
  | false=>rw [x46 hp] at hr;cases hr
  | true=>
   by_cases h34:c=34
   . subst h34;rw [v2b] at hr;cases hr;simp
   . by_cases h92:c=92
     . subst h92
       cases l with
       | nil=>rw [zsw] at hr;cases hr
       | cons d m=>
        by_cases hd:d=34\/d=92
        . rw [zjb hd] at hr;obtain ⟨q,h1,rfl⟩:=Option.map_eq_some_iff.1 hr
          have:=va1 k m (by simp at h;omega) q h1
          simp;omega
        . rw [y9d (fun h=>hd (.inl h)) (fun h=>hd (.inr h))] at hr;cases hr
     . rw [xz9 hp h34 h92] at hr;obtain ⟨q,h1,rfl⟩:=Option.map_eq_some_iff.1 hr
       have:=va1 k l h q h1
       simp;omega
theorem y9z {p:Int->Bool} {l:List Int} (hl:l≠[]) (h:p (l.headD 0)=true):1<=(l.takeWhile p).length:=by
 cases l with
 | nil=>exact absurd rfl hl
 | cons c l=>
  have h:p c=true:=h;rw [List.takeWhile_cons_of_pos h];simp
theorem wxe {l:List Int} (hl:l≠[]) (h:(x8i l).2.2=0):1<=(x8i l).2.1/\(x8i l).2.1<=l.length:=by
 unfold x8i at h ⊢
 cases h1:yx6 (l.headD 0) with
 | true=>
  rw [h1] at h;rw [cond_true] at h ⊢
  cases h2:decide (((l.takeWhile wj2).length:Int)<=20) with
  | true=>exact ⟨y9z hl (vye h1),xbb _ _⟩
  | false=>rw [h2] at h;cases h
 | false=>
  rw [h1] at h;rw [cond_false] at h ⊢
  cases h3:isDigit (l.headD 0) with
  | true=>
   rw [h3] at h;rw [cond_true] at h ⊢
   cases h2:numO (l.takeWhile isDigit) with
   | true=>exact ⟨y9z hl h3,xbb _ _⟩
   | false=>rw [h2] at h;cases h
  | false=>
   rw [h3] at h;rw [cond_false] at h ⊢
   cases h4:decide (l.headD 0=34) with
   | true=>
    rw [h4] at h;rw [cond_true] at h ⊢
    cases hq:quoL l.tail with
    | none=>rw [hq] at h;cases h
    | some r=>
     obtain ⟨v,n⟩:=r
     have:=va1 _ _ (Nat.le_refl _) _ hq
     rw [hq] at h;simp only at h this ⊢
     cases h5:decide (400<(v.length:Int)) with
     | true=>rw [h5] at h;cases h
     | false=>
      rw [List.length_tail] at this
      have:0<l.length:=List.length_pos_iff.2 hl
      rw [cond_false];simp only;omega
   | false=>
    rw [h4] at h;rw [cond_false] at h ⊢
    cases h6:x06 (l.headD 0) with
    | true=>exact ⟨Nat.le_refl _,List.length_pos_iff.2 hl⟩
    | false=>rw [h6] at h;cases h
def apS (acc:List Tk):Sn->Sn
 | .inl ts=>.inl (acc++ts)
 | .inr x=>.inr x
theorem wt9 (a b:List Tk) (r:Sn):apS a (apS b r)=apS (a++b) r:=by
 cases r with
 | inl ts=>simp [apS]
 | inr x=>rfl
theorem xkw {f:Nat} {l:List Int} {a:Nat} (h:l.length<=gapL (l.length+1) l):zq5 (f+1) l a=.inl []:=by
 rw [zq5];simp only;rw [List.drop_eq_nil_of_le h];rfl
theorem y61 {f:Nat} {l:List Int} {a:Nat} (h:gapL (l.length+1) l<l.length) (he:¬(x8i (l.drop (gapL (l.length+1) l))).2.2=0):zq5 (f+1) l a=.inr (a+gapL (l.length+1) l,(x8i (l.drop (gapL (l.length+1) l))).2.2):=by
 rw [zq5];simp only;rw [show (l.drop (gapL (l.length+1) l)).isEmpty=false by rw [List.isEmpty_eq_false_iff_exists_mem];exact ⟨_,List.getElem_mem (show 0<(l.drop (gapL (l.length+1) l)).length by rw [List.length_drop];omega)⟩,cond_false,decide_eq_true he];rfl
theorem xnn {f:Nat} {l:List Int} {a:Nat} (h:gapL (l.length+1) l<l.length) (he:(x8i (l.drop (gapL (l.length+1) l))).2.2=0) :
 zq5 (f+1) l a=apS [{ (x8i (l.drop (gapL (l.length+1) l))).1 with p:=((a+gapL (l.length+1) l:Nat):Int) }] (zq5 f (l.drop (gapL (l.length+1) l+(x8i (l.drop (gapL (l.length+1) l))).2.1)) (a+gapL (l.length+1) l+(x8i (l.drop (gapL (l.length+1) l))).2.1)):=by
 rw [zq5];simp only;rw [show (l.drop (gapL (l.length+1) l)).isEmpty=false by rw [List.isEmpty_eq_false_iff_exists_mem];exact ⟨_,List.getElem_mem (show 0<(l.drop (gapL (l.length+1) l)).length by rw [List.length_drop];omega)⟩,cond_false,decide_eq_false (fun h=>h he),cond_false]
 cases zq5 f (l.drop (gapL (l.length+1) l+(x8i (l.drop (gapL (l.length+1) l))).2.1)) (a+gapL (l.length+1) l+(x8i (l.drop (gapL (l.length+1) l))).2.1)<;>rfl
theorem v8m (s:ByteArray) (hG:x9r Γ 0=.elt sgC) (hs:s.size<=1073741824):CallsD Γ prog 112 [.one (cS s)] (snR (wg1 s)):=by
 have cg:∀ a,a<=s.size->CallsD Γ prog 142 [.one (cS (z4g s a))] (.one (cI (gapL (((xw3 s).drop a).length+1) ((xw3 s).drop a)))):=fun a ha=>by
  have:=cGap (Γ:=Γ) (z4g s a) (by rw [v1l];omega)
  rw [ymf,v1l,<-yus,<-List.length_drop] at this;exact this
 have cn:∀ a,a<s.size->CallsD Γ prog 143 [.one (cS (z4g s a))] (nxR (x8i ((xw3 s).drop a))):=fun a ha=>by
  have:=xsf (Γ:=Γ) (z4g s a) hG (by rw [v1l];omega) (by rw [v1l];omega)
  rw [ymf] at this;exact this
 have hlen:∀ a,((xw3 s).drop a).length=s.size-a:=fun a=>by rw [List.length_drop,yus]
 unfold wg1;by_cases h4:4000<(s.size:Int)
 . rw [decide_eq_true h4];clear cg cn hlen;refine CallsD.run [] Go.Proofs.Tryz.func112 rfl rfl rfl ?_;simp only [Go.Proofs.Tryz.f112];refine hgR ?_
   repeat' ((first | refine hfk ?_ ?_<;>intros | refine hik ?_)<;>refine hgS ?_)
   all_goals first
    | (exfalso;omega)
    | exact .tup (.cons (.one (.nilSl _)) (.cons (.refl _) (.cons (.refl _) .nil)))
 . rw [decide_eq_false h4,cond_false];generalize hR:zq5 (s.size+1) (xw3 s) 0=R;refine CallsD.run [] Go.Proofs.Tryz.func112 rfl rfl rfl ?_;simp only [Go.Proofs.Tryz.f112];refine hgR ?_
   repeat' ((first | refine hfk ?_ ?_<;>intros | refine hik ?_)<;>refine hgS ?_)
   all_goals try (exfalso;omega)
   refine xou [0] (fun x:Nat×List Tk=>[(5,.one (.sl 0 4 0 x.2.length)),(6,.one (.dat (cI x.1)))]) (fun x=>[.arr (.sl 4 (x.2.map Tk.C)) 0 (some 179)])
    (fun x=>x.1<=s.size/\x.2.length<=x.1/\∃ f,s.size-x.1<f/\apS x.2 (zq5 f ((xw3 s).drop x.1) x.1)=R) (fun x=>s.size-x.1) (0,[]) ⟨Nat.zero_le _,Nat.le_refl _,s.size+1,by omega,by rw [List.drop_zero,hR];cases R<;>rfl⟩ ?_ ?_
   . refine hg ?_;refine StH.trans (StH.empty (d:=5) (es:=4) (c:=.sl 4 []) (T:=some 179) rfl rfl (fun r hr=>by cases hr) rfl) ?_;refine hg ?_;exact StH.same svl rfl
   rintro ⟨a,ts⟩ ⟨a1,a2,f,a3,a4⟩;simp only at a1 a2 a3 a4;clear hR h4;obtain ⟨f,rfl⟩:∃ g,f=g+1:=⟨f-1,by omega⟩;have c1:=cg a a1;have hgl:=vo5 (((xw3 s).drop a).length+1) ((xw3 s).drop a);have hl:=hlen a
   have e1:=fun h=>xkw (f:=f) (a:=a) (l:=(xw3 s).drop a) h
   have e2:=fun h h'=>y61 (f:=f) (a:=a) (l:=(xw3 s).drop a) h h'
   have e3:=fun h h'=>xnn (f:=f) (a:=a) (l:=(xw3 s).drop a) h h'
   have nb:=fun hne h=>wxe (l:=((xw3 s).drop a).drop (gapL (((xw3 s).drop a).length+1) ((xw3 s).drop a))) hne h
   have c2:=fun h=>cn (a+gapL (((xw3 s).drop a).length+1) ((xw3 s).drop a)) h
   clear cn cg;rw [<-List.drop_drop] at c2;generalize gapL (((xw3 s).drop a).length+1) ((xw3 s).drop a)=g at *;rw [hl] at hgl
   have et:((a:Int)+(g:Int)).toNat=a+g:=by omega
   by_cases hgp:g<((xw3 s).drop a).length
   . rw [hl] at hgp;have c3:=c2 (by omega);clear c2
     replace nb:=nb (fun h=>by have:=congrArg List.length h;rw [List.length_drop,hl] at this;simp at this;omega)
     by_cases he:(x8i (((xw3 s).drop a).drop g)).2.2=0
     . have t3:=e3 (by rw [hl];exact hgp) he;have nn:=nb he;rw [List.length_drop,hl] at nn;clear e1 e2 e3 nb;generalize x8i (((xw3 s).drop a).drop g)=r at *;obtain ⟨⟨k,t,n,q⟩,m,e⟩:=r;simp only at he nn t3 c3;subst he;rw [t3,wt9,List.drop_drop] at a4;clear t3;refine hg ?_
       repeat' ((first | refine hfk ?_ ?_<;>intros | refine hik ?_ | with_reducible first | refine wud (c1) ?_ | refine vqe (c1) ?_ | refine wud (c3) ?_ | refine vqe (c3) ?_)<;>refine hgS ?_)
       all_goals try (exfalso;omega)
       refine ⟨(a+g+m,ts++[⟨k,t,n,(a:Int)+g⟩]),⟨by dsimp only;omega,by simp only [List.length_append,List.length_singleton];omega,f,by dsimp only;omega,by rw [<-a4];simp only [Nat.add_assoc,Int.natCast_add]⟩,by dsimp only;omega,?_⟩;refine StH.back [0,5,6] 0 2 1 rfl rfl rfl rfl rfl (by kernel_rfl) ?_;simp only [List.map_append,List.map_cons,List.map_nil,Tk.C_eq]
       conv=>simp (maxSteps:=2000000) (disch:=omega) only [go_sem,Nat.reduceAdd,Nat.reduceSub,Nat.reduceMul,Int.reduceToNat,Nat.reduceEqDiff,Nat.reduceBEq,Nat.reduceBneDiff,Nat.reduceLT,Int.reduceEq,Int.reduceLT,Int.reduceLE,Int.reduceNeg,Int.reduceAdd,Int.reduceSub,Int.reduceMul,List.length_append,List.length_singleton]
       exact StH.same svl rfl
     . have t2:=e2 (by rw [hl];exact hgp) he;clear e1 e2 e3 nb;generalize x8i (((xw3 s).drop a).drop g)=r at *;obtain ⟨⟨k,t,n,q⟩,m,e⟩:=r;simp only at he t2 c3;rw [t2] at a4;clear t2;subst a4;refine hg ?_
       repeat' ((first | refine hfk ?_ ?_<;>intros | refine hik ?_ | with_reducible first | refine wud (c1) ?_ | refine vqe (c1) ?_ | refine wud (c3) ?_ | refine vqe (c3) ?_)<;>refine hgS ?_)
       all_goals try (exfalso;omega)
       exact .tup (.cons (.one (.nilSl _)) (.cons (.refl _) (.cons (.refl _) .nil)))
   . have t1:=e1 (by omega);rw [t1] at a4;clear t1 e1 e2 e3 nb c2;subst a4;refine hg ?_
     repeat' ((first | refine hfk ?_ ?_<;>intros | refine hik ?_ | with_reducible first | refine wud (c1) ?_ | refine vqe (c1) ?_)<;>refine hgS ?_)
     all_goals try (exfalso;omega)
     exact RLe.ofEq (by simp [apS,snR])
end Go.Hp.T
namespace Go.Hp.T
open Go Go.RowKit Go.Slot Go.Hp Go.Slot.T
open Go.Proofs.Tryz (prog)
set_option maxRecDepth 10000
set_option maxHeartbeats 8000000
variable {Γ:List (Nat×List Cell)}
theorem strOfNums_size (l:List Int):(strOfNums l).size=l.length:=by
 show ((l.map fun n=>UInt8.ofNat n.toNat).toArray).size=_;simp
theorem z7n (l:List Int):(x8i l).1.t.size<=l.length+401:=by
 have e0:(default:Tk).t.size=0:=rfl;unfold x8i
 cases yx6 (l.headD 0) with
 | true=>
  rw [cond_true]
  have:=xbb wj2 l
  cases decide (((l.takeWhile wj2).length:Int)<=20) with
  | true=>rw [cond_true];show (strOfNums _).size<=_;rw [strOfNums_size];omega
  | false=>rw [cond_false];show (default:Tk).t.size<=_;omega
 | false=>
  rw [cond_false]
  cases isDigit (l.headD 0) with
  | true=>
   rw [cond_true]
   have:=xbb isDigit l
   cases numO (l.takeWhile isDigit) with
   | true=>rw [cond_true];show (strOfNums _).size<=_;rw [strOfNums_size];omega
   | false=>rw [cond_false];show (default:Tk).t.size<=_;omega
  | false=>
   rw [cond_false]
   cases decide (l.headD 0=34) with
   | true=>
    rw [cond_true]
    cases quoL l.tail with
    | none=>show (default:Tk).t.size<=_;omega
    | some r=>
     obtain ⟨v,n⟩:=r;dsimp only;by_cases h:400<(v.length:Int)
     . rw [decide_eq_true h];show (default:Tk).t.size<=_;omega
     . rw [decide_eq_false h,cond_false];show (strOfNums _).size<=_;rw [strOfNums_size];omega
   | false=>
    rw [cond_false]
    cases x06 (l.headD 0) with
    | true=>rw [cond_true];show (strOfNums _).size<=_;rw [strOfNums_size,List.length_take];omega
    | false=>rw [cond_false];show (default:Tk).t.size<=_;omega
theorem vba:∀(f:Nat) (l:List Int) (a:Nat),(match zq5 f l a with
 | .inl ts=>ts.length<=f/\∀ x∈ts,x.t.size<=l.length+401
 | .inr x=>x.2≠0)
 | 0,l,a=>⟨Nat.le_refl _,fun x h=>by cases h⟩
 | f+1,l,a=>by
  rw [zq5];dsimp only;generalize gapL (l.length+1) l=g
  cases (l.drop g).isEmpty with
  | true=>exact ⟨Nat.zero_le _,fun x h=>by cases h⟩
  | false=>
   rw [cond_false];have h1:=z7n (l.drop g);generalize x8i (l.drop g)=r at *;obtain ⟨t,n,e⟩:=r;dsimp only at h1 ⊢;rw [List.length_drop] at h1;by_cases he:e=0
   . have h2:=vba f (l.drop (g+n)) (a+g+n);rw [decide_eq_false (fun h=>h he),cond_false];generalize zq5 f (l.drop (g+n)) (a+g+n)=s at *
     cases s with
     | inr x=>exact h2
     | inl ts=>
      dsimp only at h2 ⊢;refine ⟨by rw [List.length_cons];omega,fun x hx=>?_⟩
      rcases List.mem_cons.1 hx with rfl | hx
      . show t.t.size<=_;omega
      . have:=h2.2 x hx
        rw [List.length_drop] at this;omega
   . rw [decide_eq_true he,cond_true];exact he
end Go.Hp.T
