/- The proof, part Z23: P2, P3, P4, Pn, Pp. -/
import Derived.Test.YtkbkjjahlafhoaaGreatDoorZ15
import Derived.Test.YtkbkjjahlafhoaaGreatDoorZ20
import Derived.Test.YtkbkjjahlafhoaaGreatDoorZ22
namespace Go.Hp.T
open Go Go.RowKit Go.Slot Go.Hp Go.Slot.T
open Go.Proofs.Tryz
attribute [local irreducible] hide RH
set_option maxRecDepth 10000
set_option maxHeartbeats 8000000
variable {Γ:List (Nat×List Cell)}
theorem wyt (c:Int):CallsD Γ prog 180 [.one (c8 c)] (.one (cB (ym8 c))):=by
 refine hE [] func180 f180.eq_1 ?_
 repeat' first | refine hF ?_ ?_<;>intros | refine hI ?_
 all_goals refine lf1 @ym8.eq_def ?_;first | exact trivial | rfl
theorem wyp (l:List Int) (c:Int):numV (l++[c])=10*numV l+(c-48):=by
 unfold numV;rw [List.foldl_append];rfl
theorem vp2 {c:Int} (h:isDigit c=true):48<=c/\c<=57:=by
 unfold isDigit at h;rw [Bool.and_eq_true] at h;exact ⟨of_decide_eq_true h.1,of_decide_eq_true h.2⟩
theorem vwt (l:List Int) (h:∀ c∈l,isDigit c=true):∀ i,i<=l.length->0<=numV (l.take i)/\numV (l.take i)<10 ^ i
 | 0,_=>⟨by rw [List.take_zero];decide,by rw [List.take_zero];decide⟩
 | i+1,hi=>by
  obtain ⟨h1,h2⟩:=vwt l h i (by omega);have hc:=vp2 (h _ (List.getElem_mem (show i<l.length by omega)));rw [List.take_succ_eq_append_getElem (by omega),wyp,Int.pow_succ];omega
theorem xtk (l:List Int) (h:∀ c∈l,isDigit c=true) {i:Nat} (hi:i<=l.length) (hl:l.length<=13):0<=numV (l.take i)/\numV (l.take i)<10000000000000:=by
 obtain ⟨h1,h2⟩:=vwt l h i hi;refine ⟨h1,Int.lt_of_lt_of_le h2 ?_⟩
 have h3:∀ n:Nat,n<=13->(10:Int) ^ n<=10000000000000:=by decide
 exact h3 i (by omega)
def numR (l:List Int):Int×Bool:=bif numO l then (numV l,true) else (0,false)
theorem yrl (l:List Int):numR l=bif (decide (l.headD 0=48)&&!decide (l=[48]))||(decide (13<(l.length:Int))||decide (1099511627776<numV l)) then (0,false) else (numV l,true):=by
 unfold numR numO;rw [Bool.or_assoc]
 cases ((decide (l.headD 0=48)&&!decide (l=[48]))||(decide (13<(l.length:Int))||decide (1099511627776<numV l)))<;>rfl
theorem yj8 (s:ByteArray) (c:UInt8):seq s ⟨#[c]⟩=decide (wli s=[(c.toNat:Int)]):=by
 rw [xju];refine decide_eq_decide.2 ⟨fun h=>by rw [h];rfl,fun h=>?_⟩
 have:=wyd s
 rw [h] at this;rw [<-this];show (⟨([(c.toNat:Int)].map fun n=>UInt8.ofNat n.toNat).toArray⟩:ByteArray)=_;simp
theorem v83 {s:ByteArray} (h:ycl isDigit s=s.size):∀ c∈wli s,isDigit c=true:=by
 have:((wli s).takeWhile isDigit).length=(wli s).length:=by rw [wl6];exact h
 have e:(wli s).takeWhile isDigit=wli s:=List.IsPrefix.eq_of_length (List.takeWhile_prefix _) this;intro c hc;rw [<-e] at hc;exact List.all_eq_true.1 (List.all_takeWhile) c hc
theorem vrf (s:ByteArray) (hs:s.size<=1099511627776) (h0:s.size≠0) (hd:ycl isDigit s=s.size):CallsD Γ prog 181 [.one (cS s)] (.tup [.one (cI (numR (wli s)).1),.one (cB (numR (wli s)).2)]):=by
 have c1:=zgr (Γ:=Γ) s _ _ hs y66;rw [hd] at c1;have hm:=v83 hd;have hb:=z8n s (by omega);have hlen:=wl6 s;have hq:seq s ⟨#[48]⟩=decide (wli s=[48]):=yj8 s 48;refine hE [] func181 f181.eq_1 ?_
 repeat' first | refine hF ?_ ?_<;>intros | refine hI ?_ | (with_reducible first | refine w5a (c1) ?_ | refine xqd (c1) ?_)<;>refine hgS ?_
 all_goals first
  | (exfalso;omega)
  | (refine lf1 @yrl ?_;first | exact trivial | rfl)
  | skip
 all_goals
  have hnl:(wli s).length<=13:=by omega
  refine vi3 [0,30] (fun i:Nat=>[(4,.one (.dat (cI (numV ((wli s).take i))))),(31,.one (.dat (cI i)))]) (fun _=>[]) (fun i=>i<=s.size) (fun i=>s.size-i) 0 (Nat.zero_le _) ?_ ?_
  . refine hg ?_;exact sS
  intro i hi;have hv:=xtk (wli s) hm (i:=i) (by omega) hnl;refine hg ?_;refine vdi (fun hlt _=>?_) (fun hlt _=>?_)
  . have hi':i<s.size:=by omega
    have hge:=wen s i hi';have hc:=vp2 (hm (zk7 s i) (List.mem_of_mem_drop (by rw [hge];simp)))
    have e:numV ((wli s).take (i+1))=10*numV ((wli s).take i)+(zk7 s i-48):=by
     rw [<-wyp]
     congr 1
     rw [List.take_add_one,v97 s i hi'];rfl
    clear hm;refine hg ?_
    repeat' first | refine hF ?_ ?_<;>intros | refine hI ?_
    refine ⟨i+1,by omega,by omega,?_⟩;rw [e];exact sS
  . have e:(wli s).take i=wli s:=List.take_of_length_le (by omega);rw [e];rw [e] at hv;clear hm;refine hg ?_
    repeat' first | refine hF ?_ ?_<;>intros | refine hI ?_
    all_goals refine lf1 @yrl ?_;first | exact trivial | rfl
def quR:Option (List Int×Nat)->ByteArray×Int
 | none=>(⟨#[]⟩,0)
 | some r=>bif decide (400<(r.1.length:Int)) then (⟨#[]⟩,0) else (strOfNums r.1,(r.2:Int)+1)
theorem x9k:quR none=(⟨#[]⟩,0):=rfl
theorem xs9 (v:List Int) (n:Nat):quR (some (v,n))=bif decide (400<(v.length:Int)) then (⟨#[]⟩,0) else (strOfNums v,(n:Int)+1):=rfl
theorem w7b:quoL []=none:=rfl
theorem v34 {c:Int} {l:List Int} (h:y8r c=false):quoL (c::l)=none:=by rw [quoL.eq_def];simp only [h];rfl
theorem za8 {l:List Int}:quoL (34::l)=some ([],1):=by rw [quoL.eq_def];simp [y8r]
theorem xca {d:Int} {l:List Int} (h:d=34\/d=92):quoL (92::d::l)=(quoL l).map (fun r=>(d::r.1,r.2+2)):=by
 rw [quoL.eq_def]
 rcases h with rfl | rfl<;>rfl
theorem y8e:quoL [92]=none:=rfl
theorem xqp {d:Int} {l:List Int} (h:¬d=34) (h':¬d=92):quoL (92::d::l)=none:=by
 rw [quoL.eq_def];simp [h,h',y8r]
theorem yeo {c:Int} {l:List Int} (hp:y8r c=true) (h:¬c=34) (h':¬c=92):quoL (c::l)=(quoL l).map (fun r=>(c::r.1,r.2+1)):=by
 rw [quoL.eq_def];simp [h,h',hp]
theorem xsj (s:ByteArray) (hs:s.size<=1073741824) (h1:1<=s.size):CallsD Γ prog 182 [.one (cS s)] (.tup [.one (cS (quR (quoL ((wli s).drop 1))).1),.one (cI (quR (quoL ((wli s).drop 1))).2)]):=by
 generalize hR:quoL ((wli s).drop 1)=R;refine hE [] func182 f182.eq_1 ?_
 repeat' first | refine hF ?_ ?_<;>intros | refine hI ?_
 refine vi3 [0] (fun x:Nat×List Int=>[(4,.one (.sl 0 1 0 x.2.length)),(5,.one (.dat (cI x.1)))]) (fun x=>[.arr (.ints .u8 x.2) 0 (some 5)])
  (fun x=>1<=x.1/\x.1<=s.size/\x.2.length<x.1/\x.2.all xug=true/\(quoL ((wli s).drop x.1)).map (fun r=>(x.2++r.1,r.2+(x.1-1)))=R) (fun x=>s.size-x.1) (1,[]) ⟨Nat.le_refl _,h1,by decide,rfl,by rw [<-hR];simp⟩ ?_ ?_
 . refine hg ?_;refine StH.trans (StH.empty (d:=4) (es:=1) (c:=.ints .u8 []) (T:=some 5) rfl rfl trivial rfl) ?_;refine hg ?_;exact sS
 rintro ⟨n,vs⟩ ⟨a1,a2,a3,a4,a5⟩;simp only at a1 a2 a3 a4 a5;clear hR;have cp:=xb7 (Γ:=Γ) (zk7 s n);by_cases hn:n<s.size
 . rw [wen s n hn] at a5
   cases hp:y8r (zk7 s n) with
   | false=>
    rw [hp] at cp;rw [v34 hp] at a5;subst a5;refine hg ?_
    repeat' first | refine hF ?_ ?_<;>intros | refine hI ?_ | (with_reducible first | refine w5a (cp) ?_ | refine xqd (cp) ?_)<;>refine hgS ?_
    all_goals first
     | (exfalso;omega)
     | exact RLe.ofEq rfl
   | true=>
    rw [hp] at cp;by_cases h34:zk7 s n=34
    . rw [h34] at cp;rw [h34,za8] at a5;simp only [Option.map_some,List.append_nil] at a5;subst a5;rw [show 1+(n-1)=n by omega,xs9];refine hg ?_
      repeat' first | refine hF ?_ ?_<;>intros | refine hI ?_ | (with_reducible first | refine w5a (cp) ?_ | refine xqd (cp) ?_)<;>refine hgS ?_
      all_goals first
       | (exfalso;omega)
       | (refine lfE ?_;first | exact trivial | rfl)
    . by_cases h92:zk7 s n=92
      . rw [h92] at a5 cp;by_cases hn1:n+1<s.size
        . rw [wen s (n + 1) hn1] at a5;by_cases hd:zk7 s (n+1)=34\/zk7 s (n+1)=92
          . rw [xca hd,Option.map_map] at a5
            have a6:(vs++[zk7 s (n+1)]).all xug=true:=by rw [List.all_append,a4];simp [yfd]
            refine hg ?_
            repeat' first | refine hF ?_ ?_<;>intros | refine hI ?_ | (with_reducible first | refine w5a (cp) ?_ | refine xqd (cp) ?_)<;>refine hgS ?_
            all_goals first
             | (exfalso;omega)
             | (refine ⟨(n+1+1,vs++[zk7 s (n+1)]),⟨by dsimp only;omega,by dsimp only;omega,by simp only [List.length_append,List.length_singleton];omega,a6,?_⟩,by dsimp only;omega,?_⟩
                . rw [<-a5]
                  congr 1
                  funext r
                  simp only [Function.comp,List.append_assoc,List.singleton_append]
                  congr 1
                  omega
                . exact StH.back [0,4,5] 0 1 1 rfl rfl rfl rfl rfl (by kernel_rfl) (sS))
          . have hd1:¬zk7 s (n+1)=34:=fun h=>hd (.inl h)
            have hd2:¬zk7 s (n+1)=92:=fun h=>hd (.inr h)
            rw [xqp hd1 hd2] at a5;subst a5;clear hd;refine hg ?_
            repeat' first | refine hF ?_ ?_<;>intros | refine hI ?_ | (with_reducible first | refine w5a (cp) ?_ | refine xqd (cp) ?_)<;>refine hgS ?_
            all_goals first
             | (exfalso;omega)
             | exact RLe.ofEq rfl
        . rw [List.drop_eq_nil_of_le (by rw [wl6];omega),y8e] at a5;subst a5;refine hg ?_
          repeat' first | refine hF ?_ ?_<;>intros | refine hI ?_ | (with_reducible first | refine w5a (cp) ?_ | refine xqd (cp) ?_)<;>refine hgS ?_
          all_goals first
           | (exfalso;omega)
           | exact RLe.ofEq rfl
      . rw [yeo hp h34 h92,Option.map_map] at a5
        have a6:(vs++[zk7 s n]).all xug=true:=by rw [List.all_append,a4];simp [yfd]
        refine hg ?_
        repeat' first | refine hF ?_ ?_<;>intros | refine hI ?_ | (with_reducible first | refine w5a (cp) ?_ | refine xqd (cp) ?_)<;>refine hgS ?_
        all_goals first
         | (exfalso;omega)
         | (refine ⟨(n+1,vs++[zk7 s n]),⟨by dsimp only;omega,by dsimp only;omega,by simp only [List.length_append,List.length_singleton];omega,a6,?_⟩,by dsimp only;omega,?_⟩
            . rw [<-a5]
              congr 1
              funext r
              simp only [Function.comp,List.append_assoc,List.singleton_append]
              congr 1
              omega
            . exact StH.back [0,4,5] 0 1 1 rfl rfl rfl rfl rfl (by kernel_rfl) (sS))
 . rw [List.drop_eq_nil_of_le (by rw [wl6];omega),w7b] at a5;subst a5;refine hg ?_
   repeat' first | refine hF ?_ ?_<;>intros | refine hI ?_ | (with_reducible first | refine w5a (cp) ?_ | refine xqd (cp) ?_)<;>refine hgS ?_
   all_goals first
    | (exfalso;omega)
    | exact RLe.ofEq rfl
abbrev sgC:List Cell:=[.raw (.int .u8 40),.raw (.int .u8 41),.raw (.int .u8 44),.raw (.int .u8 59),.raw (.int .u8 58),.raw (.int .u8 61),.raw (.int .u8 60),.raw (.int .u8 43),.raw (.int .u8 45),.raw (.int .u8 42),.raw (.int .u8 47),.raw (.int .u8 123),.raw (.int .u8 125)]
theorem vfm (p:Int->Bool) (s:ByteArray):wli (y3n s (ycl p s))=(wli s).takeWhile p:=by
 rw [wzi,yyc p (wli s)];rfl
theorem w7z {α:Type} (p:α->Bool):∀ l:List α,(l.takeWhile p).takeWhile p=l.takeWhile p
 | []=>rfl
 | a::l=>by
  cases h:p a with
  | true=>rw [List.takeWhile_cons_of_pos h,List.takeWhile_cons_of_pos h,w7z p l]
  | false=>rw [List.takeWhile_cons_of_neg (by rw [h];decide)];rfl
theorem vz5 (p:Int->Bool) (s:ByteArray):ycl p (y3n s (ycl p s))=(y3n s (ycl p s)).size:=by
 show ((wli (y3n s (ycl p s))).takeWhile p).length=_;rw [<-wl6,vfm,w7z]
theorem xbv (p:Int->Bool) (s:ByteArray):(y3n s (ycl p s)).size=ycl p s:=vmz s _ (xd2 p s)
theorem zkt {p:Int->Bool} {s:ByteArray} (h1:0<s.size) (h:p (zk7 s 0)=true):0<ycl p s:=by
 show 0<((wli s).takeWhile p).length
 have:=wen s 0 h1
 rw [List.drop_zero] at this;rw [this,List.takeWhile_cons_of_pos h];simp
theorem vc7 {p:Int->Bool} {s:ByteArray} (h1:0<s.size) (h:p (zk7 s 0)=true):zk7 (y3n s (ycl p s)) 0=zk7 s 0:=by
 have h2:=zkt h1 h;rw [z8n _ (by rw [xbv];exact h2),vfm]
 have:=wen s 0 h1
 rw [List.drop_zero] at this;rw [this,List.takeWhile_cons_of_pos h];rfl
theorem xqm {c:Int} (h:xmn c=true):yb9 c=true:=by unfold yb9;rw [h];rfl
theorem zry {s:ByteArray} (h1:0<s.size) (h:xmn (zk7 s 0)=true):isName (y3n s (ycl yb9 s))=decide ((ycl yb9 s:Int)<=20):=by
 have h2:=zkt h1 (xqm h);unfold isName;rw [vz5,vc7 h1 (xqm h),xbv,h,decide_eq_true (show ¬ycl yb9 s=0 by omega),decide_eq_true rfl];simp
abbrev nxR (r:Tk×Nat×Int):AV:=.tup [.agg (tkC r.1),.one (cI (r.2.1:Nat)),.one (cI r.2.2)]
theorem wgv (s:ByteArray) (hG:w2q Γ 0=.elt sgC) (h1:0<s.size) (hs:s.size<=1073741824):CallsD Γ prog 158 [.one (cS s)] (nxR (yme (wli s))):=by
 have cl:=xe4 (Γ:=Γ) (zk7 s 0);have cd:=y66 (Γ:=Γ) (zk7 s 0);have ci:=zgr (Γ:=Γ) s _ _ (by omega) x5s;have ck:=zgr (Γ:=Γ) s _ _ (by omega) y66;have hh:=z8n s h1;have e1:((wli s).takeWhile yb9).length=ycl yb9 s:=rfl;have e2:((wli s).takeWhile isDigit).length=ycl isDigit s:=rfl;have e3:=wfr yb9 s;have e4:=wfr isDigit s;unfold yme;rw [<-hh];have z1:=xd2 yb9 s;have z2:=xd2 isDigit s
 cases hl:xmn (zk7 s 0) with
 | true=>
  rw [hl] at cl;have hnm:=zry h1 hl;have cn:=x2a (Γ:=Γ) (y3n s (ycl yb9 s)) (by rw [xbv];omega);have hz:=xbv yb9 s;rw [hnm] at cn;rw [cond_true,e1,<-e3];clear e3 e4 e1 e2 hnm hh ck cd;generalize ycl yb9 s=k at *;generalize decide ((k:Int)<=20)=b at *
  cases b
  all_goals
   refine hE [] func158 f158.eq_1 ?_
   repeat' first | refine hF ?_ ?_<;>intros | refine hI ?_ | (with_reducible first | refine w5a (cl) ?_ | refine xqd (cl) ?_ | refine w5a (ci) ?_ | refine xqd (ci) ?_ | refine w5a (cn) ?_ | refine xqd (cn) ?_)<;>refine hgS ?_
   all_goals refine lfE ?_;first | exact trivial | rfl
 | false=>
  rw [hl] at cl;rw [cond_false]
  cases hd:isDigit (zk7 s 0) with
  | true=>
   rw [hd] at cd;have hz:=xbv isDigit s;have hp:=zkt h1 hd;have cn:=vrf (Γ:=Γ) (y3n s (ycl isDigit s)) (by rw [hz];omega) (by rw [hz];omega) (vz5 isDigit s);rw [vfm] at cn;rw [cond_true,e2,<-e4];unfold numR at cn;generalize numO ((wli s).takeWhile isDigit)=b at *;generalize numV ((wli s).takeWhile isDigit)=v at *;clear e3 e4 e1 e2 hh ci;generalize ycl isDigit s=k at *
   cases b
   all_goals
    refine hE [] func158 f158.eq_1 ?_
    repeat' first | refine hF ?_ ?_<;>intros | refine hI ?_ | (with_reducible first | refine w5a (cl) ?_ | refine xqd (cl) ?_ | refine w5a (cd) ?_ | refine xqd (cd) ?_ | refine w5a (ck) ?_ | refine xqd (ck) ?_ | refine w5a (cn) ?_ | refine xqd (cn) ?_)<;>refine hgS ?_
    all_goals refine lfE ?_;first | exact trivial | rfl
  | false=>
   rw [hd] at cd;rw [cond_false];have cq:=xsj (Γ:=Γ) s hs h1;rw [List.drop_one] at cq;clear e3 e4 e1 e2 hh ci ck;by_cases h34:zk7 s 0=34
   . have cl':=cl;have cd':=cd;rw [h34] at cl' cd';rw [decide_eq_true h34,cond_true]
     cases hq:quoL (wli s).tail with
     | none=>
      rw [hq,x9k] at cq;refine hE [] func158 f158.eq_1 ?_
      repeat' first | refine hF ?_ ?_<;>intros | refine hI ?_ | (with_reducible first | refine w5a (cl) ?_ | refine xqd (cl) ?_ | refine w5a (cd) ?_ | refine xqd (cd) ?_ | refine w5a (cl') ?_ | refine xqd (cl') ?_ | refine w5a (cd') ?_ | refine xqd (cd') ?_ | refine w5a (cq) ?_ | refine xqd (cq) ?_)<;>refine hgS ?_
      all_goals refine lfE ?_;first | exact trivial | rfl
     | some r=>
      obtain ⟨v,n⟩:=r;rw [hq,xs9] at cq;simp only;generalize strOfNums v=t at *
      cases hv:decide (400<(v.length:Int)) with
      | true=>
       rw [hv] at cq;refine hE [] func158 f158.eq_1 ?_
       repeat' first | refine hF ?_ ?_<;>intros | refine hI ?_ | (with_reducible first | refine w5a (cl) ?_ | refine xqd (cl) ?_ | refine w5a (cd) ?_ | refine xqd (cd) ?_ | refine w5a (cl') ?_ | refine xqd (cl') ?_ | refine w5a (cd') ?_ | refine xqd (cd') ?_ | refine w5a (cq) ?_ | refine xqd (cq) ?_)<;>refine hgS ?_
       all_goals refine lfE ?_;first | exact trivial | rfl
      | false=>
       rw [hv] at cq;refine hE [] func158 f158.eq_1 ?_
       repeat' first | refine hF ?_ ?_<;>intros | refine hI ?_ | (with_reducible first | refine w5a (cl) ?_ | refine xqd (cl) ?_ | refine w5a (cd) ?_ | refine xqd (cd) ?_ | refine w5a (cl') ?_ | refine xqd (cl') ?_ | refine w5a (cd') ?_ | refine xqd (cd') ?_ | refine w5a (cq) ?_ | refine xqd (cq) ?_)<;>refine hgS ?_
       all_goals first
        | (exfalso;omega)
        | (refine lfE ?_;first | exact trivial | rfl)
   . rw [decide_eq_false h34,cond_false];clear cq;rw [<-yl5];unfold xh9;refine hE [] func158 f158.eq_1 ?_
     repeat' first | refine hF ?_ ?_<;>intros | refine hI ?_ | (first | with_reducible refine xwl ?_ | with_reducible refine yxz ?_)<;>refine hgS ?_ | (with_reducible first | refine w5a (cl) ?_ | refine xqd (cl) ?_ | refine w5a (cd) ?_ | refine xqd (cd) ?_)<;>refine hgS ?_
     all_goals first
      | exact RLe.ofEq rfl
      | exact RLe.ofEq (by simp [*];exact ⟨rfl,rfl,rfl,rfl⟩)
theorem xcx (f:Nat) (l:List Int):gapL (f+1) l=bif (l.drop (l.takeWhile ym8).length).headD 0==35 then
 ((l.takeWhile ym8).length+((l.drop (l.takeWhile ym8).length).takeWhile (fun c=>!decide (c=10))).length)+gapL f (l.drop ((l.takeWhile ym8).length+((l.drop (l.takeWhile ym8).length).takeWhile (fun c=>!decide (c=10))).length))
 else (l.takeWhile ym8).length:=rfl
theorem vai {α:Type} (p:α->Bool) (l:List α):(l.takeWhile p).length<=l.length:=(List.takeWhile_prefix p).length_le
theorem wjc:∀(f:Nat) (l:List Int),gapL f l<=l.length
 | 0,_=>Nat.zero_le _
 | f+1,l=>by
  rw [xcx];have a:=vai ym8 l;have b:=vai (fun c=>!decide (c=10)) (l.drop (l.takeWhile ym8).length);rw [List.length_drop] at b
  cases ((l.drop (l.takeWhile ym8).length).headD 0==35) with
  | false=>exact a
  | true=>
   have c:=wjc f (l.drop ((l.takeWhile ym8).length+((l.drop (l.takeWhile ym8).length).takeWhile (fun c=>!decide (c=10))).length));rw [List.length_drop] at c;rw [cond_true];omega
theorem v5n (s:ByteArray) (k i:Nat) (h:k+i<s.size):zk7 (zbk s k) i=zk7 s (k+i):=by
 have h':k+i<s.data.size:=h;unfold zk7 zbk;rw [ByteArray.data_extract,Array.getElem?_extract,if_pos (by simp only [Nat.min_def];split<;>simp_all<;>omega)]
def spB (s:ByteArray) (k:Nat):Nat:=ycl ym8 (zbk s k)
def spN (s:ByteArray) (k:Nat):Nat:=ycl (fun c=>!decide (c=10)) (zbk s k)
theorem ymf (s:ByteArray) {k:Nat} (h:k<=s.size):k+spB s k<=s.size:=by
 have:=xd2 ym8 (zbk s k)
 rw [xnh] at this;unfold spB;omega
theorem xdi (s:ByteArray) (n:Nat):((wli s).drop n).headD 0==35↔n<s.size/\zk7 s n=35:=by
 by_cases h:n<s.size
 . rw [wen s n h];show (zk7 s n==35)=true↔_;simp [h]
 . rw [List.drop_eq_nil_of_le (by rw [wl6];omega)];simp [h]
theorem yqg {s:ByteArray} {k:Nat} (f:Nat) (h:¬(k+spB s k<s.size/\zk7 s (k+spB s k)=35)):gapL (f+1) ((wli s).drop k)=spB s k:=by
 have e:(((wli s).drop k).takeWhile ym8).length=spB s k:=by unfold spB ycl;rw [xco]
 rw [xcx,e,List.drop_drop]
 cases hc:(((wli s).drop (k+spB s k)).headD 0==35) with
 | false=>rfl
 | true=>exact absurd ((xdi s _).1 hc) h
theorem vj9 {s:ByteArray} {k:Nat} (f:Nat) (h:k+spB s k<s.size/\zk7 s (k+spB s k)=35):gapL (f+1) ((wli s).drop k)=spB s k+spN s (k+spB s k)+gapL f ((wli s).drop (k+spB s k+spN s (k+spB s k))):=by
 have e:(((wli s).drop k).takeWhile ym8).length=spB s k:=by unfold spB ycl;rw [xco]
 have e2:(((wli s).drop (k+spB s k)).takeWhile (fun c=>!decide (c=10))).length=spN s (k+spB s k):=by unfold spN ycl;rw [xco]
 rw [xcx,e,List.drop_drop,(xdi s _).2 h,cond_true,e2,List.drop_drop,<-Nat.add_assoc]
theorem wbt {s:ByteArray} {n m:Nat} (hm:m<=s.size) (hnm:n<=m) (hj:∀ j,n<=j->j<m->¬zk7 s j=10) (h:m=s.size\/zk7 s m=10):spN s n=m-n:=by
 unfold spN;have hz:=xnh s n;refine xba (by omega) (fun j hj'=>?_) ?_
 . rw [v5n s n j (by omega)];simpa using hj (n+j) (by omega) (by omega)
 . rcases h with h | h
   . exact .inl (by omega)
   . by_cases e:m=s.size
     . exact .inl (by omega)
     . refine .inr ?_;rw [v5n s n _ (by omega),show n+(m-n)=m by omega,h];rfl
theorem cGap (s:ByteArray) (hs:s.size<=1073741824):CallsD Γ prog 157 [.one (cS s)] (.one (cI (gapL (s.size+1) (wli s)))):=by
 have cs:∀ n,CallsD Γ prog 149 [.one (cS (zbk s n)),fN 180] (.one (cI (spB s n))):=fun n=>zgr (Γ:=Γ) (zbk s n) _ _ (by rw [xnh];omega) wyt
 have c0:=cs 0;rw [show zbk s 0=s by unfold zbk;simp] at c0;have hz:=ymf s (Nat.zero_le _);rw [Nat.zero_add] at hz;generalize hR:gapL (s.size+1) (wli s)=R;refine hE [] func157 f157.eq_1 ?_
 repeat' first | refine hF ?_ ?_<;>intros | refine hI ?_ | (with_reducible first | refine w5a (c0) ?_ | refine xqd (c0) ?_)<;>refine hgS ?_
 clear c0;refine vi3 [0] (fun k:Nat=>[(3,.one (.dat (cI ((k+spB s k:Nat):Int))))]) (fun _=>[]) (fun k=>k<=s.size/\∃ f,s.size-k<=f/\k+gapL (f+1) ((wli s).drop k)=R) (fun k=>s.size-k) 0 ⟨Nat.zero_le _,s.size,Nat.le_refl _,by rw [Nat.zero_add,List.drop_zero];exact hR⟩ ?_ ?_
 . refine hg1 @Nat.zero_add ?_;exact sS
 rintro k ⟨hk,f,hf,he⟩;clear hR;have hb:=ymf s hk;by_cases hc:k+spB s k<s.size/\zk7 s (k+spB s k)=35
 . rw [vj9 f hc] at he;obtain ⟨g1,g2⟩:=hc;generalize hn:k+spB s k=n at *;refine hg ?_
   repeat' first | refine hF ?_ ?_<;>intros | refine hI ?_
   all_goals try (exfalso;omega)
   refine vi3 [0] (fun m:Nat=>[(3,.one (.dat (cI m)))]) (fun _=>[]) (fun m=>n<=m/\m<=s.size/\∀ j,n<=j->j<m->¬zk7 s j=10) (fun m=>s.size-m) n ⟨Nat.le_refl _,by omega,fun j h1 h2=>by omega⟩ ?_ ?_
   . refine hg ?_;exact sS
   rintro m ⟨m1,m2,m3⟩;have hstop:=wbt m2 m1 m3
   have hnext:¬zk7 s m=10->∀ j,n<=j->j<m+1->¬zk7 s j=10:=fun h j h1 h2=>by
    rcases Nat.lt_or_eq_of_le (Nat.le_of_lt_succ h2) with h3 | h3
    . exact m3 j h1 h3
    . rw [h3];exact h
   have hne:m=n->¬zk7 s m=10:=fun h=>by rw [h,g2];decide
   have cm:=cs m;clear m3 cs;by_cases hm:m=s.size\/zk7 s m=10
   . have e:=hstop hm
     have hn:¬m=n:=fun h=>by
      rcases hm with h' | h'
      . omega
      . exact hne h h'
     rw [e,show n+(m-n)=m by omega] at he;obtain ⟨f,rfl⟩:∃ g,f=g+1:=⟨f-1,by omega⟩;have hbm:=ymf s m2;clear hstop hnext hne;refine hg ?_
     repeat' first | refine hF ?_ ?_<;>intros | refine hI ?_ | (with_reducible first | refine w5a (cm) ?_ | refine xqd (cm) ?_)<;>refine hgS ?_
     all_goals first
      | (exfalso;omega)
      | (exfalso;rcases hm with h | h;omega;contradiction)
      | exact ⟨m,⟨m2,f,by omega,by omega⟩,by omega,sS⟩
   . have h1:¬m=s.size:=fun h=>hm (.inl h)
     have h2:¬zk7 s m=10:=fun h=>hm (.inr h)
     have hnext:=hnext h2;clear hstop hne cm hm;refine hg ?_
     repeat' first | refine hF ?_ ?_<;>intros | refine hI ?_
     all_goals first
      | (exfalso;omega)
      | exact ⟨m+1,⟨by omega,by omega,hnext⟩,by omega,sS⟩
 . rw [yqg f hc] at he;generalize k+spB s k=n at *;subst he;by_cases g1:n<s.size
   . have g2:¬zk7 s n=35:=fun h=>hc ⟨g1,h⟩
     clear hc;refine hg ?_
     repeat' first | refine hF ?_ ?_<;>intros | refine hI ?_
     all_goals first
      | (exfalso;omega)
      | contradiction
      | exact RLe.ofEq rfl
   . clear hc;refine hg ?_
     repeat' first | refine hF ?_ ?_<;>intros | refine hI ?_
     all_goals first
      | (exfalso;omega)
      | exact RLe.ofEq rfl
theorem wn2:∀(k:Nat) (l:List Int),l.length<=k->∀ r,quoL l=some r->r.2<=l.length
 | 0,l,h,r,hr=>by
  have e:l=[]:=List.eq_nil_of_length_eq_zero (by omega);rw [e,w7b] at hr;cases hr
 | k+1,[],_,r,hr=>by rw [w7b] at hr;cases hr
 | k+1,c::l,h,r,hr=>by
  have h:l.length<=k:=by simpa using h
  cases hp:y8r c with
  | false=>rw [v34 hp] at hr;cases hr
  | true=>
   by_cases h34:c=34
   . subst h34;rw [za8] at hr;cases hr;simp
   . by_cases h92:c=92
     . subst h92
       cases l with
       | nil=>rw [y8e] at hr;cases hr
       | cons d m=>
        by_cases hd:d=34\/d=92
        . rw [xca hd] at hr;obtain ⟨q,h1,rfl⟩:=Option.map_eq_some_iff.1 hr
          have:=wn2 k m (by simp at h;omega) q h1
          simp;omega
        . rw [xqp (fun h=>hd (.inl h)) (fun h=>hd (.inr h))] at hr;cases hr
     . rw [yeo hp h34 h92] at hr;obtain ⟨q,h1,rfl⟩:=Option.map_eq_some_iff.1 hr
       have:=wn2 k l h q h1
       simp;omega
theorem wlg {p:Int->Bool} {l:List Int} (hl:l≠[]) (h:p (l.headD 0)=true):1<=(l.takeWhile p).length:=by
 cases l with
 | nil=>exact absurd rfl hl
 | cons c l=>
  have h:p c=true:=h;rw [List.takeWhile_cons_of_pos h];simp
theorem ykk {l:List Int} (hl:l≠[]) (h:(yme l).2.2=0):1<=(yme l).2.1/\(yme l).2.1<=l.length:=by
 unfold yme at h ⊢
 cases h1:xmn (l.headD 0) with
 | true=>
  rw [h1] at h;rw [cond_true] at h ⊢
  cases h2:decide (((l.takeWhile yb9).length:Int)<=20) with
  | true=>exact ⟨wlg hl (xqm h1),vai _ _⟩
  | false=>rw [h2] at h;cases h
 | false=>
  rw [h1] at h;rw [cond_false] at h ⊢
  cases h3:isDigit (l.headD 0) with
  | true=>
   rw [h3] at h;rw [cond_true] at h ⊢
   cases h2:numO (l.takeWhile isDigit) with
   | true=>exact ⟨wlg hl h3,vai _ _⟩
   | false=>rw [h2] at h;cases h
  | false=>
   rw [h3] at h;rw [cond_false] at h ⊢
   cases h4:decide (l.headD 0=34) with
   | true=>
    rw [h4] at h;rw [cond_true] at h ⊢
    cases hq:quoL l.tail with
    | none=>rw [hq] at h;cases h
    | some r=>
     obtain ⟨v,n⟩:=r
     have:=wn2 _ _ (Nat.le_refl _) _ hq
     rw [hq] at h;simp only at h this ⊢
     cases h5:decide (400<(v.length:Int)) with
     | true=>rw [h5] at h;cases h
     | false=>
      rw [List.length_tail] at this
      have:0<l.length:=List.length_pos_iff.2 hl
      rw [cond_false];simp only;omega
   | false=>
    rw [h4] at h;rw [cond_false] at h ⊢
    cases h6:xh9 (l.headD 0) with
    | true=>exact ⟨Nat.le_refl _,List.length_pos_iff.2 hl⟩
    | false=>rw [h6] at h;cases h
def apS (acc:List Tk):Sn->Sn
 | .inl ts=>.inl (acc++ts)
 | .inr x=>.inr x
theorem y37 (a b:List Tk) (r:Sn):apS a (apS b r)=apS (a++b) r:=by
 cases r with
 | inl ts=>simp [apS]
 | inr x=>rfl
theorem z5z {f:Nat} {l:List Int} {a:Nat} (h:l.length<=gapL (l.length+1) l):x19 (f+1) l a=.inl []:=by
 rw [x19];simp only;rw [List.drop_eq_nil_of_le h];rfl
theorem vfg {f:Nat} {l:List Int} {a:Nat} (h:gapL (l.length+1) l<l.length) (he:¬(yme (l.drop (gapL (l.length+1) l))).2.2=0):x19 (f+1) l a=.inr (a+gapL (l.length+1) l,(yme (l.drop (gapL (l.length+1) l))).2.2):=by
 rw [x19];simp only;rw [show (l.drop (gapL (l.length+1) l)).isEmpty=false by rw [List.isEmpty_eq_false_iff_exists_mem];exact ⟨_,List.getElem_mem (show 0<(l.drop (gapL (l.length+1) l)).length by rw [List.length_drop];omega)⟩,cond_false,decide_eq_true he];rfl
theorem zix {f:Nat} {l:List Int} {a:Nat} (h:gapL (l.length+1) l<l.length) (he:(yme (l.drop (gapL (l.length+1) l))).2.2=0) :
 x19 (f+1) l a=apS [{ (yme (l.drop (gapL (l.length+1) l))).1 with p:=((a+gapL (l.length+1) l:Nat):Int) }] (x19 f (l.drop (gapL (l.length+1) l+(yme (l.drop (gapL (l.length+1) l))).2.1)) (a+gapL (l.length+1) l+(yme (l.drop (gapL (l.length+1) l))).2.1)):=by
 rw [x19];simp only;rw [show (l.drop (gapL (l.length+1) l)).isEmpty=false by rw [List.isEmpty_eq_false_iff_exists_mem];exact ⟨_,List.getElem_mem (show 0<(l.drop (gapL (l.length+1) l)).length by rw [List.length_drop];omega)⟩,cond_false,decide_eq_false (fun h=>h he),cond_false]
 cases x19 f (l.drop (gapL (l.length+1) l+(yme (l.drop (gapL (l.length+1) l))).2.1)) (a+gapL (l.length+1) l+(yme (l.drop (gapL (l.length+1) l))).2.1)<;>rfl
theorem zyw (s:ByteArray) (hG:w2q Γ 0=.elt sgC) (hs:s.size<=1073741824):CallsD Γ prog 109 [.one (cS s)] (snR (zbb s)):=by
 have cg:∀ a,a<=s.size->CallsD Γ prog 157 [.one (cS (zbk s a))] (.one (cI (gapL (((wli s).drop a).length+1) ((wli s).drop a)))):=fun a ha=>by
  have:=cGap (Γ:=Γ) (zbk s a) (by rw [xnh];omega)
  rw [xco,xnh,<-wl6,<-List.length_drop] at this;exact this
 have cn:∀ a,a<s.size->CallsD Γ prog 158 [.one (cS (zbk s a))] (nxR (yme ((wli s).drop a))):=fun a ha=>by
  have:=wgv (Γ:=Γ) (zbk s a) hG (by rw [xnh];omega) (by rw [xnh];omega)
  rw [xco] at this;exact this
 have hlen:∀ a,((wli s).drop a).length=s.size-a:=fun a=>by rw [List.length_drop,wl6]
 unfold zbb;by_cases h4:4000<(s.size:Int)
 . rw [decide_eq_true h4];clear cg cn hlen;refine hE [] func109 f109.eq_1 ?_
   repeat' ((first | refine hfk ?_ ?_<;>intros | refine hik ?_)<;>refine hgS ?_)
   all_goals first
    | (exfalso;omega)
    | exact .tup (.cons (.one (.nilSl _)) (.cons (.refl _) (.cons (.refl _) .nil)))
 . rw [decide_eq_false h4,cond_false];generalize hR:x19 (s.size+1) (wli s) 0=R;refine hE [] func109 f109.eq_1 ?_
   repeat' ((first | refine hfk ?_ ?_<;>intros | refine hik ?_)<;>refine hgS ?_)
   all_goals try (exfalso;omega)
   refine vi3 [0] (fun x:Nat×List Tk=>[(5,.one (.sl 0 4 0 x.2.length)),(6,.one (.dat (cI x.1)))]) (fun x=>[.arr (.sl 4 (x.2.map Tk.C)) 0 (some 200)])
    (fun x=>x.1<=s.size/\x.2.length<=x.1/\∃ f,s.size-x.1<f/\apS x.2 (x19 f ((wli s).drop x.1) x.1)=R) (fun x=>s.size-x.1) (0,[]) ⟨Nat.zero_le _,Nat.le_refl _,s.size+1,by omega,by rw [List.drop_zero,hR];cases R<;>rfl⟩ ?_ ?_
   . refine hg ?_;refine StH.trans (StH.empty (d:=5) (es:=4) (c:=.sl 4 []) (T:=some 200) rfl rfl (fun r hr=>by cases hr) rfl) ?_;refine hg ?_;exact sS
   rintro ⟨a,ts⟩ ⟨a1,a2,f,a3,a4⟩;simp only at a1 a2 a3 a4;clear hR h4;obtain ⟨f,rfl⟩:∃ g,f=g+1:=⟨f-1,by omega⟩;have c1:=cg a a1;have hgl:=wjc (((wli s).drop a).length+1) ((wli s).drop a);have hl:=hlen a
   have e1:=fun h=>z5z (f:=f) (a:=a) (l:=(wli s).drop a) h
   have e2:=fun h h'=>vfg (f:=f) (a:=a) (l:=(wli s).drop a) h h'
   have e3:=fun h h'=>zix (f:=f) (a:=a) (l:=(wli s).drop a) h h'
   have nb:=fun hne h=>ykk (l:=((wli s).drop a).drop (gapL (((wli s).drop a).length+1) ((wli s).drop a))) hne h
   have c2:=fun h=>cn (a+gapL (((wli s).drop a).length+1) ((wli s).drop a)) h
   clear cn cg;rw [<-List.drop_drop] at c2;generalize gapL (((wli s).drop a).length+1) ((wli s).drop a)=g at *;rw [hl] at hgl
   have et:((a:Int)+(g:Int)).toNat=a+g:=by omega
   by_cases hgp:g<((wli s).drop a).length
   . rw [hl] at hgp;have c3:=c2 (by omega);clear c2
     replace nb:=nb (fun h=>by have:=congrArg List.length h;rw [List.length_drop,hl] at this;simp at this;omega)
     by_cases he:(yme (((wli s).drop a).drop g)).2.2=0
     . have t3:=e3 (by rw [hl];exact hgp) he;have nn:=nb he;rw [List.length_drop,hl] at nn;clear e1 e2 e3 nb;generalize yme (((wli s).drop a).drop g)=r at *;obtain ⟨⟨k,t,n,q⟩,m,e⟩:=r;simp only at he nn t3 c3;subst he;rw [t3,y37,List.drop_drop] at a4;clear t3;refine hg ?_
       repeat' ((first | refine hfk ?_ ?_<;>intros | refine hik ?_ | with_reducible first | refine w5a (c1) ?_ | refine xqd (c1) ?_ | refine w5a (c3) ?_ | refine xqd (c3) ?_)<;>refine hgS ?_)
       all_goals try (exfalso;omega)
       refine ⟨(a+g+m,ts++[⟨k,t,n,(a:Int)+g⟩]),⟨by dsimp only;omega,by simp only [List.length_append,List.length_singleton];omega,f,by dsimp only;omega,by rw [<-a4];simp only [Nat.add_assoc,Int.natCast_add]⟩,by dsimp only;omega,?_⟩;refine StH.back [0,5,6] 0 2 1 rfl rfl rfl rfl rfl (by kernel_rfl) ?_;simp only [List.map_append,List.map_cons,List.map_nil,Tk.C_eq];refine hg2 @List.length_append.{0} @List.length_singleton.{0} ?_;exact sS
     . have t2:=e2 (by rw [hl];exact hgp) he;clear e1 e2 e3 nb;generalize yme (((wli s).drop a).drop g)=r at *;obtain ⟨⟨k,t,n,q⟩,m,e⟩:=r;simp only at he t2 c3;rw [t2] at a4;clear t2;subst a4;refine hg ?_
       repeat' ((first | refine hfk ?_ ?_<;>intros | refine hik ?_ | with_reducible first | refine w5a (c1) ?_ | refine xqd (c1) ?_ | refine w5a (c3) ?_ | refine xqd (c3) ?_)<;>refine hgS ?_)
       all_goals try (exfalso;omega)
       exact .tup (.cons (.one (.nilSl _)) (.cons (.refl _) (.cons (.refl _) .nil)))
   . have t1:=e1 (by omega);rw [t1] at a4;clear t1 e1 e2 e3 nb c2;subst a4;refine hg ?_
     repeat' ((first | refine hfk ?_ ?_<;>intros | refine hik ?_ | with_reducible first | refine w5a (c1) ?_ | refine xqd (c1) ?_)<;>refine hgS ?_)
     all_goals try (exfalso;omega)
     exact RLe.ofEq (by simp [apS,snR])
end Go.Hp.T
namespace Go.Hp.T
open Go Go.RowKit Go.Slot Go.Hp Go.Slot.T
open Go.Proofs.Tryz (prog)
set_option maxRecDepth 10000
set_option maxHeartbeats 8000000
variable {Γ:List (Nat×List Cell)}
theorem strOfNums_size (l:List Int):(strOfNums l).size=l.length:=by
 show ((l.map fun n=>UInt8.ofNat n.toNat).toArray).size=_;simp
theorem yck (l:List Int):(yme l).1.t.size<=l.length+401:=by
 have e0:(default:Tk).t.size=0:=rfl;unfold yme
 cases xmn (l.headD 0) with
 | true=>
  rw [cond_true]
  have:=vai yb9 l
  cases decide (((l.takeWhile yb9).length:Int)<=20) with
  | true=>rw [cond_true];show (strOfNums _).size<=_;rw [strOfNums_size];omega
  | false=>rw [cond_false];show (default:Tk).t.size<=_;omega
 | false=>
  rw [cond_false]
  cases isDigit (l.headD 0) with
  | true=>
   rw [cond_true]
   have:=vai isDigit l
   cases numO (l.takeWhile isDigit) with
   | true=>rw [cond_true];show (strOfNums _).size<=_;rw [strOfNums_size];omega
   | false=>rw [cond_false];show (default:Tk).t.size<=_;omega
  | false=>
   rw [cond_false]
   cases decide (l.headD 0=34) with
   | true=>
    rw [cond_true]
    cases quoL l.tail with
    | none=>show (default:Tk).t.size<=_;omega
    | some r=>
     obtain ⟨v,n⟩:=r;dsimp only;by_cases h:400<(v.length:Int)
     . rw [decide_eq_true h];show (default:Tk).t.size<=_;omega
     . rw [decide_eq_false h,cond_false];show (strOfNums _).size<=_;rw [strOfNums_size];omega
   | false=>
    rw [cond_false]
    cases xh9 (l.headD 0) with
    | true=>rw [cond_true];show (strOfNums _).size<=_;rw [strOfNums_size,List.length_take];omega
    | false=>rw [cond_false];show (default:Tk).t.size<=_;omega
theorem xet:∀(f:Nat) (l:List Int) (a:Nat),(match x19 f l a with
 | .inl ts=>ts.length<=f/\∀ x∈ts,x.t.size<=l.length+401
 | .inr x=>x.2≠0)
 | 0,l,a=>⟨Nat.le_refl _,fun x h=>by cases h⟩
 | f+1,l,a=>by
  rw [x19];dsimp only;generalize gapL (l.length+1) l=g
  cases (l.drop g).isEmpty with
  | true=>exact ⟨Nat.zero_le _,fun x h=>by cases h⟩
  | false=>
   rw [cond_false];have h1:=yck (l.drop g);generalize yme (l.drop g)=r at *;obtain ⟨t,n,e⟩:=r;dsimp only at h1 ⊢;rw [List.length_drop] at h1;by_cases he:e=0
   . have h2:=xet f (l.drop (g+n)) (a+g+n);rw [decide_eq_false (fun h=>h he),cond_false];generalize x19 f (l.drop (g+n)) (a+g+n)=s at *
     cases s with
     | inr x=>exact h2
     | inl ts=>
      dsimp only at h2 ⊢;refine ⟨by rw [List.length_cons];omega,fun x hx=>?_⟩
      rcases List.mem_cons.1 hx with rfl | hx
      . show t.t.size<=_;omega
      . have:=h2.2 x hx
        rw [List.length_drop] at this;omega
   . rw [decide_eq_true he,cond_true];exact he
end Go.Hp.T
namespace Go.Hp.T
open Go Go.RowKit Go.Slot Go.Hp Go.Slot.T
set_option maxRecDepth 10000
structure Imp where
 name:ByteArray
 unit:ByteArray
 amount:Int
 house:Int
 port:ByteArray
 version:Int
structure Inp where
 name:ByteArray
 unit:ByteArray
 kind:ByteArray
structure Prm where
 name:ByteArray
 unit:ByteArray
structure Fnc where
 name:ByteArray
 params:List Prm
 body:Ex
structure Cel where
 name:ByteArray
 unit:ByteArray
 x:Ex
structure Por where
 name:ByteArray
 unit:ByteArray
 amount:Int
structure Sto where
 name:ByteArray
 unit:ByteArray
 rule:Int
structure Stp where
 kind:Int
 inn:List ByteArray
 out:List ByteArray
 name:ByteArray
 cells:List ByteArray
 amount:Int
structure Rcp where
 kind:ByteArray
 steps:List Stp
structure Sht where
 name:ByteArray
 imports:List Imp
 inputs:List Inp
 tables:List Tb
 funcs:List Fnc
 cells:List Cel
 ports:List Por
 stores:List Sto
 recipes:List Rcp
abbrev wy9 (l:List ByteArray):Cell:=.sl 1 (l.map fun s=>[cS s])
def Imp.C (x:Imp):List Cell:=[cS x.name,cS x.unit,cI x.amount,cI x.house,cS x.port,cI x.version]
abbrev impC (x:Imp):List Cell:=[cS x.name,cS x.unit,cI x.amount,cI x.house,cS x.port,cI x.version]
theorem Imp.C_eq (x:Imp):x.C=impC x:=rfl
def Inp.C (x:Inp):List Cell:=[cS x.name,cS x.unit,cS x.kind]
abbrev inpC (x:Inp):List Cell:=[cS x.name,cS x.unit,cS x.kind]
theorem Inp.C_eq (x:Inp):x.C=inpC x:=rfl
def Prm.C (x:Prm):List Cell:=[cS x.name,cS x.unit]
abbrev prmC (x:Prm):List Cell:=[cS x.name,cS x.unit]
theorem Prm.C_eq (x:Prm):x.C=prmC x:=rfl
def Por.C (x:Por):List Cell:=[cS x.name,cS x.unit,cI x.amount]
abbrev porC (x:Por):List Cell:=[cS x.name,cS x.unit,cI x.amount]
theorem Por.C_eq (x:Por):x.C=porC x:=rfl
def Sto.C (x:Sto):List Cell:=[cS x.name,cS x.unit,cI x.rule]
abbrev stoC (x:Sto):List Cell:=[cS x.name,cS x.unit,cI x.rule]
theorem Sto.C_eq (x:Sto):x.C=stoC x:=rfl
def Stp.C (x:Stp):List Cell:=[cI x.kind,wy9 x.inn,wy9 x.out,cS x.name,wy9 x.cells,cI x.amount]
abbrev stpC (x:Stp):List Cell:=[cI x.kind,wy9 x.inn,wy9 x.out,cS x.name,wy9 x.cells,cI x.amount]
theorem Stp.C_eq (x:Stp):x.C=stpC x:=rfl
def Rcp.C (x:Rcp):List Cell:=[cS x.kind,.sl 6 (x.steps.map Stp.C)]
abbrev rcpC (x:Rcp):List Cell:=[cS x.kind,.sl 6 (x.steps.map Stp.C)]
theorem Rcp.C_eq (x:Rcp):x.C=rcpC x:=rfl
def Fnc.C (x:Fnc):List Cell:=[cS x.name,.sl 2 (x.params.map Prm.C),cI x.body.op,cI x.body.n,cS x.body.unit,cS x.body.name,.sl 5 (x.body.args.map Ex.cells)]
abbrev fncC (x:Fnc):List Cell:=[cS x.name,.sl 2 (x.params.map Prm.C),cI x.body.op,cI x.body.n,cS x.body.unit,cS x.body.name,.sl 5 (x.body.args.map Ex.cells)]
theorem Fnc.C_eq (x:Fnc):x.C=fncC x:=rfl
def Cel.C (x:Cel):List Cell:=[cS x.name,cS x.unit,cI x.x.op,cI x.x.n,cS x.x.unit,cS x.x.name,.sl 5 (x.x.args.map Ex.cells)]
abbrev celC (x:Cel):List Cell:=[cS x.name,cS x.unit,cI x.x.op,cI x.x.n,cS x.x.unit,cS x.x.name,.sl 5 (x.x.args.map Ex.cells)]
theorem Cel.C_eq (x:Cel):x.C=celC x:=rfl
attribute [go_sem] Imp.C_eq Inp.C_eq Prm.C_eq Por.C_eq Sto.C_eq Stp.C_eq Rcp.C_eq Fnc.C_eq Cel.C_eq
instance:Inhabited Imp:=⟨⟨⟨#[]⟩,⟨#[]⟩,0,0,⟨#[]⟩,0⟩⟩
instance:Inhabited Inp:=⟨⟨⟨#[]⟩,⟨#[]⟩,⟨#[]⟩⟩⟩
instance:Inhabited Prm:=⟨⟨⟨#[]⟩,⟨#[]⟩⟩⟩
instance:Inhabited Fnc:=⟨⟨⟨#[]⟩,[],default⟩⟩
instance:Inhabited Cel:=⟨⟨⟨#[]⟩,⟨#[]⟩,default⟩⟩
instance:Inhabited Por:=⟨⟨⟨#[]⟩,⟨#[]⟩,0⟩⟩
instance:Inhabited Sto:=⟨⟨⟨#[]⟩,⟨#[]⟩,0⟩⟩
instance:Inhabited Stp:=⟨⟨0,[],[],⟨#[]⟩,[],0⟩⟩
instance:Inhabited Rcp:=⟨⟨⟨#[]⟩,[]⟩⟩
def nxS (L:List Tk) (i:Nat) (k:Int):Bool:=decide ((i:Int)<L.length)&&decide ((L.getD i default).k=k)
def etS (L:List Tk) (i:Nat) (t:ByteArray):Bool:=decide ((i:Int)<L.length)&&(seq (L.getD i default).t t&&(decide ((L.getD i default).k=0)||decide ((L.getD i default).k=3)))
def etA (L:List Tk) (i:Nat) (t:ByteArray):Nat:=bif etS L i t then i+1 else i
theorem wks {L:List Tk} {i:Nat} {k:Int} (h:nxS L i k=true):i<L.length:=by
 unfold nxS at h;simp only [Bool.and_eq_true,decide_eq_true_eq] at h;omega
theorem y1o {L:List Tk} {i:Nat} {t:ByteArray} (h:etS L i t=true):i<L.length:=by
 unfold etS at h;simp only [Bool.and_eq_true,decide_eq_true_eq] at h;omega
def xte (L:List Tk):List ByteArray->Nat->Option Nat
 | [],i=>some i
 | t::l,i=>bif etS L i t then xte L l (i+1) else none
def znx (L:List Tk) (i:Nat):Option (ByteArray×Nat):=bif nxS L i 0&&!isWord (L.getD i default).t then some ((L.getD i default).t,i+1) else none
def yq1 (L:List Tk) (i:Nat):Option (ByteArray×Nat):=bif nxS L i 2 then some ((L.getD i default).t,i+1) else none
def numM (L:List Tk) (i:Nat):Option (Int×Nat):=bif nxS L i 1 then some ((L.getD i default).n,i+1) else none
def xur (L:List Tk) (i:Nat):Option (Int×Nat):=bif etS L i ⟨#[45]⟩ then (numM L (i+1)).map fun p=>(-p.1,p.2) else numM L i
def wnn (L:List Tk) (i:Nat) (l:List ByteArray):Option (Nat×Nat):=((List.range l.length).find? fun k=>nxS L i 0&&etS L i (l.getD k ⟨#[]⟩)).map fun k=>(k,i+1)
def xk5 (L:List Tk) (i:Nat):Option (Ex×Nat):=(xte L [⟨#[61]⟩] i).bind fun j=>bif decide ((x49 L j).2.2=0) then (xte L [⟨#[59]⟩] (x49 L j).2.1).map fun k=>((x49 L j).1,k) else none
def v9q (L:List Tk) (pairs:Bool):Nat->List ByteArray->List ByteArray->Nat->Option ((List ByteArray×List ByteArray)×Nat)
 | 0,_,_,_=>none
 | f+1,l,c,i=>(znx L i).bind fun p=>(bif pairs then (xte L [⟨#[58]⟩] p.2).bind fun j=>(znx L j).map fun q=>(c++[q.1],q.2) else some (c,p.2)).bind fun q=>
  bif etS L q.2 tCm then v9q L pairs f (l++[p.1]) q.1 (q.2+1) else some ((l++[p.1],q.1),q.2)
def vxj:ByteArray:=⟨#[109,101,116,101,114]⟩
def zat:ByteArray:=⟨#[116,97,107,101]⟩
def xts:ByteArray:=⟨#[100,114,97,119]⟩
def x3x:ByteArray:=⟨#[115,112,108,105,116]⟩
def v4q:ByteArray:=⟨#[106,111,105,110]⟩
def xmw:ByteArray:=⟨#[103,105,118,101]⟩
def wPut:ByteArray:=⟨#[112,117,116]⟩
def yzd:ByteArray:=⟨#[108,111,115,101]⟩
def vsx:ByteArray:=⟨#[114,101,115,116]⟩
def zcj:ByteArray:=⟨#[105,110,116,111]⟩
def wTo:ByteArray:=⟨#[116,111]⟩
def wAs:ByteArray:=⟨#[97,115]⟩
def yl4:List ByteArray:=[vxj,zat,xts,x3x,v4q,xmw,wPut,yzd,vsx]
def zg1 (L:List Tk) (i:Nat):Option (Stp×Nat):=(wnn L i yl4).bind fun w=>match w.1 with
 | 0 | 1 | 2=>(znx L w.2).bind fun o=>(xte L [⟨#[61]⟩] o.2).bind fun j=>(znx L j).bind fun n=>(bif decide (w.1=2) then numM L n.2 else some (0,n.2)).bind fun a=>(xte L [⟨#[59]⟩] a.2).map fun k=>(⟨w.1,[],[o.1],n.1,[],a.1⟩,k)
 | 3=>(znx L w.2).bind fun n=>(xte L [zcj] n.2).bind fun j=>(v9q L true L.length [] [] j).bind fun l=>(xte L [⟨#[59]⟩] l.2).map fun k=>(⟨3,[n.1],l.1.1,⟨#[]⟩,l.1.2,0⟩,k)
 | 4=>(v9q L false L.length [] [] w.2).bind fun l=>(xte L [zcj] l.2).bind fun j=>(znx L j).bind fun o=>(xte L [⟨#[59]⟩] o.2).map fun k=>(⟨4,l.1.1,[o.1],⟨#[]⟩,[],0⟩,k)
 | 8=>(znx L w.2).bind fun n=>(xte L [⟨#[59]⟩] n.2).map fun k=>(⟨8,[n.1],[],⟨#[]⟩,[],0⟩,k)
 | m=>(znx L w.2).bind fun n=>(xte L [bif decide (m=7) then wAs else wTo] n.2).bind fun j=>(znx L j).bind fun o=>(bif decide (m=6) then numM L o.2 else some (0,o.2)).bind fun a=>(xte L [⟨#[59]⟩] a.2).map fun k=>(⟨m,[n.1],[],o.1,[],a.1⟩,k)
def vi8 (L:List Tk):Nat->List Stp->Nat->Option (List Stp×Nat)
 | 0,_,_=>none
 | f+1,l,i=>bif etS L i ⟨#[125]⟩ then some (l,i+1) else (zg1 L i).bind fun s=>vi8 L f (l++[s.1]) s.2
def yeg (L:List Tk) (i:Nat):Option (Rcp×Nat):=(znx L i).bind fun n=>(xte L [⟨#[123]⟩] n.2).bind fun j=>(vi8 L L.length [] j).map fun s=>(⟨n.1,s.1⟩,s.2)
def wbx (L:List Tk) (i:Nat):Option (Imp×Nat):=(znx L i).bind fun n=>(yq1 L n.2).bind fun u=>(numM L u.2).bind fun a=>(xte L [⟨#[61]⟩] a.2).bind fun j=>(numM L j).bind fun h=>(xte L [⟨#[58]⟩] h.2).bind fun j=>(znx L j).bind fun p=>(xte L [⟨#[58]⟩] p.2).bind fun j=>(numM L j).bind fun v=>(xte L [⟨#[59]⟩] v.2).map fun k=>(⟨n.1,u.1,a.1,h.1,p.1,v.1⟩,k)
def wxc (L:List Tk) (i:Nat):Option (Inp×Nat):=(znx L i).bind fun n=>(yq1 L n.2).bind fun u=>(bif nxS L u.2 0 then znx L u.2 else some (⟨#[]⟩,u.2)).bind fun k=>(xte L [⟨#[59]⟩] k.2).map fun j=>(⟨n.1,u.1,k.1⟩,j)
def xec (L:List Tk):Nat->List Prm->Nat->Option (List Prm×Nat)
 | 0,_,_=>none
 | f+1,l,i=>(znx L i).bind fun n=>(yq1 L n.2).bind fun u=>bif etS L u.2 tCm then xec L f (l++[⟨n.1,u.1⟩]) (u.2+1) else some (l++[⟨n.1,u.1⟩],u.2)
def zd6 (L:List Tk) (i:Nat):Option (Fnc×Nat):=(znx L i).bind fun n=>(xte L [tLp] n.2).bind fun j=>(xec L L.length [] j).bind fun p=>(xte L [tRp] p.2).bind fun j=>(xk5 L j).map fun x=>(⟨n.1,p.1,x.1⟩,x.2)
def yws (L:List Tk):Nat->List Rw->Nat->Option (List Rw×Nat)
 | 0,_,_=>none
 | f+1,l,i=>bif etS L i ⟨#[125]⟩ then some (l,i+1) else (xur L i).bind fun k=>(xte L [⟨#[58]⟩] k.2).bind fun j=>(xur L j).bind fun v=>(xte L [⟨#[59]⟩] v.2).bind fun j=>yws L f (l++[⟨k.1,v.1⟩]) j
def x7u (L:List Tk) (i:Nat):Option (Tb×Nat):=(znx L i).bind fun n=>(yq1 L n.2).bind fun u=>(xte L [⟨#[123]⟩] u.2).bind fun j=>(yws L L.length [] j).map fun r=>(⟨n.1,u.1,r.1⟩,r.2)
def zrk:List ByteArray:=[⟨#[105,109,112,111,114,116]⟩,⟨#[105,110,112,117,116]⟩,⟨#[116,97,98,108,101]⟩,⟨#[102,117,110,99]⟩,⟨#[99,101,108,108]⟩,⟨#[112,111,114,116]⟩,⟨#[115,116,111,114,101]⟩,⟨#[114,101,99,105,112,101]⟩]
def x8r:List ByteArray:=[⟨#[102,105,114,115,116]⟩,⟨#[108,97,115,116]⟩,⟨#[109,101,97,110]⟩]
def w1e (L:List Tk) (s:Sht) (i:Nat):Option (Sht×Nat):=(wnn L i zrk).bind fun w=>match w.1 with
 | 0=>(wbx L w.2).map fun x=>({ s with imports:=s.imports++[x.1] },x.2)
 | 1=>(wxc L w.2).map fun x=>({ s with inputs:=s.inputs++[x.1] },x.2)
 | 2=>(x7u L w.2).map fun x=>({ s with tables:=s.tables++[x.1] },x.2)
 | 3=>(zd6 L w.2).map fun x=>({ s with funcs:=s.funcs++[x.1] },x.2)
 | 4=>(znx L w.2).bind fun n=>(yq1 L n.2).bind fun u=>(xk5 L u.2).map fun x=>({ s with cells:=s.cells++[⟨n.1,u.1,x.1⟩] },x.2)
 | 5=>(znx L w.2).bind fun n=>(yq1 L n.2).bind fun u=>(numM L u.2).bind fun a=>(xte L [⟨#[59]⟩] a.2).map fun j=>({ s with ports:=s.ports++[⟨n.1,u.1,a.1⟩] },j)
 | 6=>(znx L w.2).bind fun n=>(yq1 L n.2).bind fun u=>(wnn L u.2 x8r).bind fun r=>(xte L [⟨#[59]⟩] r.2).map fun j=>({ s with stores:=s.stores++[⟨n.1,u.1,r.1⟩] },j)
 | _=>(yeg L w.2).map fun x=>({ s with recipes:=s.recipes++[x.1] },x.2)
def y0c (L:List Tk):Nat->Sht->Nat->Option (Sht×Nat)
 | 0,_,_=>none
 | f+1,s,i=>bif etS L i ⟨#[125]⟩ then some (s,i+1) else (w1e L s i).bind fun r=>y0c L f r.1 r.2
def wtv (L:List Tk):Option Sht:=(xte L [⟨#[115,104,101,101,116]⟩] 0).bind fun j=>(znx L j).bind fun n=>(xte L [⟨#[123]⟩] n.2).bind fun j=>(y0c L L.length ⟨n.1,[],[],[],[],[],[],[],[]⟩ j).bind fun r=>bif decide (r.2=L.length) then some r.1 else none
end Go.Hp.T
