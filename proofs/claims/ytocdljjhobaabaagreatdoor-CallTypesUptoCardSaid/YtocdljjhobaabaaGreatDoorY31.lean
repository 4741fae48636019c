/- The proof, part Y31: Pm, P2, P3, P4. -/
import Derived.Test.YtocdljjhobaabaaGreatDoorY30
import Derived.Test.YtocdljjhobaabaaGreatDoorY23
import Derived.Test.YtocdljjhobaabaaGreatDoorY25
import Derived.Test.YtocdljjhobaabaaGreatDoorY19
namespace Go.Hp.T
open Go Go.RowKit Go.Slot Go.Hp Go.Slot.T
open Go.Proofs.Tryz (prog)
attribute [local irreducible] hide RH
set_option maxRecDepth 10000
set_option maxHeartbeats 8000000
variable {Γ:List (Nat×List Cell)}
theorem zrm:zE.Sm:=.mk _ (by decide) (by decide) (by decide) (fun y h=>by cases h)
theorem xdb {o n:Int} {u s:ByteArray} {l:List Ex} (hl:l.length<=1073741824) (hu:u.size<=1073741824) (hs:s.size<=1073741824) (h:∀ y∈l,y.Sm):(Ex.mk o n u s l).Sm:=.mk _ hl hu hs h
structure SmR (L:List Tk) (rec:Nat->Bool->Rd):Prop where
 len:L.length<=1048576
 tok:∀ a,(L.getD a default).t.size<=1048576
 mo:Mo L rec
 sm:∀ i c,(rec i c).1.Sm
theorem zdu {L:List Tk} {rec:Nat->Bool->Rd} (H:SmR L rec) (a:Nat) (b:Bool):(sm1 L rec a b).1.length<=1073741824/\∀ y∈(sm1 L rec a b).1,y.Sm:=by
 unfold sm1
 cases b with
 | true=>exact ⟨Nat.zero_le _,fun y h=>by cases h⟩
 | false=>exact ⟨by unfold clF;simp,fun y h=>by unfold clF at h;simp at h;rw [h];exact H.sm _ _⟩
theorem vyw {L:List Tk} {rec:Nat->Bool->Rd} (H:SmR L rec) (a:Nat) (b:Bool):(sm2 L rec a b).1.length<=1073741824/\∀ y∈(sm2 L rec a b).1,y.Sm:=by
 unfold sm2
 cases b with
 | true=>exact ⟨Nat.zero_le _,fun y h=>by cases h⟩
 | false=>
  rw [cond_false]
  cases (rec a false).2.2 with
  | true=>exact ⟨by simp,fun y h=>by simp at h;rw [h];exact H.sm _ _⟩
  | false=>exact ⟨by unfold clF;simp,fun y h=>by unfold clF at h;simp at h;rcases h with h | h<;>rw [h]<;>exact H.sm _ _⟩
theorem x6v {L : List Tk} {rec : Nat → Bool → Rd} (H : SmR L rec) : ∀ (n : Nat) (out : List Ex) (a : Nat) (b : Bool), (∀ y ∈ out, y.Sm) → (anL L rec n out a b).1.length ≤ out.length + n ∧ ∀ y ∈ (anL L rec n out a b).1, y.Sm
 | 0,out,a,b,h=>⟨Nat.le_refl _,h⟩
 | n + 1, out, a, b, h => by
  rw [anL]
  cases isF L a b 3 tCm with
  | true=>
   have h2:=x6v H n (out++[(rec (a+1) false).1]) (rec (a+1) false).2.1 (rec (a+1) false).2.2 (fun y hy=>by
    rcases List.mem_append.1 hy with hy | hy
    . exact h y hy
    . simp at hy;rw [hy];exact H.sm _ _)
   rw [List.length_append,List.length_singleton] at h2;exact ⟨by rw [cond_true];omega,h2.2⟩
  | false=>exact ⟨Nat.le_add_right _ _,h⟩
theorem wbd {L:List Tk} {rec:Nat->Bool->Rd} (H:SmR L rec) (a:Nat):(anF L rec a).1.length<=1073741824/\∀ y∈(anF L rec a).1,y.Sm:=by
 have h:=x6v H L.length [(rec a false).1] (rec a false).2.1 (rec a false).2.2 (fun y hy=>by simp at hy;rw [hy];exact H.sm _ _)
 have:=H.len
 exact ⟨Nat.le_trans h.1 (by simp;omega),h.2⟩
theorem vbk {L:List Tk} {rec:Nat->Bool->Rd} (H:SmR L rec) (a:Nat) (b:Bool):(nmS L a b).size<=1073741824:=by
 unfold nmS
 have:=H.tok a
 cases nmOk L a b with
 | true=>rw [cond_true];omega
 | false=>rw [cond_false];decide
theorem wpo {L:List Tk} {rec:Nat->Bool->Rd} (H:SmR L rec) (a:Nat) (b:Bool):(ydv L rec a b).1.Sm:=by
 have e0:(⟨#[]⟩:ByteArray).size<=1073741824:=by decide
 unfold ydv
 cases b with
 | true=>exact zrm
 | false=>
  rw [cond_false]
  cases kdF L a false 1 with
  | true=>
   rw [cond_true];unfold nbE;refine xdb (Nat.zero_le _) ?_ e0 (fun y h=>by cases h)
   have:=H.tok (a+1)
   cases kdF L (a+1) false 2 with
   | true=>rw [cond_true];omega
   | false=>rw [cond_false];exact e0
  | false=>
   rw [cond_false]
   cases isF L a false 3 tLp with
   | true=>
    have hs:=zdu H (a+1) false;rw [cond_true];unfold atP
    cases (sm1 L rec (a+1) false).2.2 with
    | true=>exact zrm
    | false=>
     rw [cond_false];dsimp only
     cases hl:(sm1 L rec (a+1) false).1 with
     | nil=>exact zrm
     | cons y l=>exact hs.2 y (by rw [hl];exact List.mem_cons_self)
   | false=>
    rw [cond_false]
    cases isF L a false 0 zyd with
    | true=>
     have hs:=zdu H (skF L (lkA L (a+1)) (lkB L (a+1)) 3 tCm) (!isF L (lkA L (a+1)) (lkB L (a+1)) 3 tCm);exact xdb hs.1 e0 (vbk H _ _) hs.2
    | false=>
     rw [cond_false];have hs:=vyw H (skF L (a+1) false 3 tLp) (!isF L (a+1) false 3 tLp)
     cases isF L a false 0 tMin with
     | true=>exact xdb hs.1 e0 e0 hs.2
     | false=>
      rw [cond_false]
      cases isF L a false 0 tMax with
      | true=>exact xdb hs.1 e0 e0 hs.2
      | false=>
       rw [cond_false];unfold atN
       cases isF L (nmA L a false) (nmB L a false) 3 tLp with
       | true=>
        have hs:=wbd H (nmA L a false+1);exact xdb hs.1 e0 (vbk H _ _) hs.2
       | false=>exact xdb (Nat.zero_le _) e0 (vbk H _ _) (fun y h=>by cases h)
theorem v4o {L:List Tk} {rec:Nat->Bool->Rd} (H:SmR L rec) (a:Nat) (b:Bool):(yi8 L rec a b).1.Sm:=by
 have e0:(⟨#[]⟩:ByteArray).size<=1073741824:=by decide
 unfold yi8
 cases b with
 | true=>exact zrm
 | false=>
  rw [cond_false]
  cases isF L a false 0 tNot with
  | true=>exact xdb (by simp) e0 e0 (fun y h=>by simp at h;rw [h];exact wpo H _ _)
  | false=>
   rw [cond_false]
   cases isF L a false 0 tIf with
   | true=>exact xdb (by simp) e0 e0 (fun y h=>by simp at h;rcases h with h | h | h<;>rw [h]<;>exact wpo H _ _)
   | false=>
    rw [cond_false];have hx:=wpo H a false;generalize ydv L rec a false=x at *;unfold opM
    cases opNx L x.2.1 x.2.2 with
    | none=>exact hx
    | some i=>exact xdb (by simp) e0 e0 (fun y h=>by simp at h;rcases h with h | h<;>rw [h];exact hx;exact wpo H _ _)
theorem vay {L:List Tk} (hl:L.length<=1048576) (ht:∀ a,(L.getD a default).t.size<=1048576):∀(n a:Nat) (b:Bool),(exF L n a b).1.Sm
 | 0,_a,_b=>zrm
 | n+1,a,b=>v4o ⟨hl,ht,xr6 L n,vay hl ht n⟩ a b
def y88 (L:List Tk) (a:Nat):Ex×Nat×Int:=
 bif (exF L (L.length+1) a false).2.2 then (zE,(exF L (L.length+1) a false).2.1,12) else
 bif z7n (exF L (L.length+1) a false).1 then ((exF L (L.length+1) a false).1,(exF L (L.length+1) a false).2.1,0) else (zE,(exF L (L.length+1) a false).2.1,6)
theorem xr0 (p q:AV):RLe (.tup [.agg [cI 0,cI 0,cS ⟨#[]⟩,cS ⟨#[]⟩,.zc],p,q]) (.tup [.agg (exC zE),p,q]):=.tup (.cons (.agg (.cons (.refl _) (.cons (.refl _) (.cons (.refl _) (.cons (.refl _) (.cons (.zcSl _) .nil)))))) (.cons (.refl _) (.cons (.refl _) .nil)))
theorem wnx (L:List Tk) (a:Nat) (hl:L.length<=1048576) (ht:∀ a,(L.getD a default).t.size<=1048576) (ha:a<=L.length):CallsD Γ prog 67 [.one (.sl 4 (L.map Tk.C)),.one (cI a)] (.tup [.agg (exC (y88 L a).1),.one (cI (y88 L a).2.1),.one (cI (y88 L a).2.2)]):=by
 have c:=x95 (Γ:=Γ) L (by omega) (L.length+1) a false ha (by omega);have hs:=vay hl ht (L.length+1) a false;unfold y88;generalize exF L (L.length+1) a false=r at *;obtain ⟨x,a1,b1⟩:=r;have cr:=x22 (Γ:=Γ) x hs;unfold zs5 at c;simp only at c;clear hs ht
 cases b1 with
 | true=>
  refine CallsD.run [] Go.Proofs.Tryz.func67 rfl rfl rfl ?_;simp only [Go.Proofs.Tryz.f67];refine hgR ?_
  repeat' ((first | refine hfk ?_ ?_<;>intros | refine hik ?_)<;>refine hgS ?_)
  all_goals try (exfalso;omega)
  refine xmn [1] c rfl (by decide) rfl rfl rfl ?_;refine hg ?_
  repeat' ((first | refine hfk ?_ ?_<;>intros | refine hik ?_)<;>refine hgS ?_)
  exact xr0 _ _
 | false=>
  cases h:z7n x with
  | true=>
   rw [h] at cr;refine CallsD.run [] Go.Proofs.Tryz.func67 rfl rfl rfl ?_;simp only [Go.Proofs.Tryz.f67];refine hgR ?_
   repeat' ((first | refine hfk ?_ ?_<;>intros | refine hik ?_)<;>refine hgS ?_)
   all_goals try (exfalso;omega)
   refine xmn [1] c rfl (by decide) rfl rfl rfl ?_;refine hg ?_
   repeat' ((first | refine hfk ?_ ?_<;>intros | refine hik ?_ | with_reducible first | refine v47 (cr) ?_ | refine vrf (cr) ?_)<;>refine hgS ?_)
   exact RLe.ofEq rfl
  | false=>
   rw [h] at cr;refine CallsD.run [] Go.Proofs.Tryz.func67 rfl rfl rfl ?_;simp only [Go.Proofs.Tryz.f67];refine hgR ?_
   repeat' ((first | refine hfk ?_ ?_<;>intros | refine hik ?_)<;>refine hgS ?_)
   all_goals try (exfalso;omega)
   refine xmn [1] c rfl (by decide) rfl rfl rfl ?_;refine hg ?_
   repeat' ((first | refine hfk ?_ ?_<;>intros | refine hik ?_ | with_reducible first | refine v47 (cr) ?_ | refine vrf (cr) ?_)<;>refine hgS ?_)
   exact xr0 _ _
theorem yqw (c:Int):CallsD Γ prog 118 [.one (c8 c)] (.one (cB (z9d c))):=by
 refine CallsD.run [] Go.Proofs.Tryz.func118 rfl rfl rfl ?_;simp only [Go.Proofs.Tryz.f118];refine hgR ?_
 repeat' ((first | refine hfk ?_ ?_<;>intros | refine hik ?_)<;>refine hgS ?_)
 all_goals refine lf1 @z9d.eq_def ?_;first | exact trivial | rfl
theorem yp8 (l:List Int) (c:Int):numV (l++[c])=10*numV l+(c-48):=by
 unfold numV;rw [List.foldl_append];rfl
theorem x7o {c:Int} (h:isDigit c=true):48<=c/\c<=57:=by
 unfold isDigit at h;rw [Bool.and_eq_true] at h;exact ⟨of_decide_eq_true h.1,of_decide_eq_true h.2⟩
theorem ybm (l:List Int) (h:∀ c∈l,isDigit c=true):∀ i,i<=l.length->0<=numV (l.take i)/\numV (l.take i)<10 ^ i
 | 0,_=>⟨by rw [List.take_zero];decide,by rw [List.take_zero];decide⟩
 | i+1,hi=>by
  obtain ⟨h1,h2⟩:=ybm l h i (by omega);have hc:=x7o (h _ (List.getElem_mem (show i<l.length by omega)));rw [List.take_succ_eq_append_getElem (by omega),yp8,Int.pow_succ];omega
theorem wb7 (l:List Int) (h:∀ c∈l,isDigit c=true) {i:Nat} (hi:i<=l.length) (hl:l.length<=13):0<=numV (l.take i)/\numV (l.take i)<10000000000000:=by
 obtain ⟨h1,h2⟩:=ybm l h i hi;refine ⟨h1,Int.lt_of_lt_of_le h2 ?_⟩
 have h3:∀ n:Nat,n<=13->(10:Int) ^ n<=10000000000000:=by decide
 exact h3 i (by omega)
def numR (l:List Int):Int×Bool:=bif numO l then (numV l,true) else (0,false)
theorem xb1 (l:List Int):numR l=bif (decide (l.headD 0=48)&&!decide (l=[48]))||(decide (13<(l.length:Int))||decide (1099511627776<numV l)) then (0,false) else (numV l,true):=by
 unfold numR numO;rw [Bool.or_assoc]
 cases ((decide (l.headD 0=48)&&!decide (l=[48]))||(decide (13<(l.length:Int))||decide (1099511627776<numV l)))<;>rfl
theorem v9l (s:ByteArray) (c:UInt8):seq s ⟨#[c]⟩=decide (z1x s=[(c.toNat:Int)]):=by
 rw [veo];refine decide_eq_decide.2 ⟨fun h=>by rw [h];rfl,fun h=>?_⟩
 have:=y3d s
 rw [h] at this;rw [<-this];show (⟨([(c.toNat:Int)].map fun n=>UInt8.ofNat n.toNat).toArray⟩:ByteArray)=_;simp
theorem vj8 {s:ByteArray} (h:vhr isDigit s=s.size):∀ c∈z1x s,isDigit c=true:=by
 have:((z1x s).takeWhile isDigit).length=(z1x s).length:=by rw [v54];exact h
 have e:(z1x s).takeWhile isDigit=z1x s:=List.IsPrefix.eq_of_length (List.takeWhile_prefix _) this;intro c hc;rw [<-e] at hc;exact List.all_eq_true.1 (List.all_takeWhile) c hc
theorem xid (s:ByteArray) (hs:s.size<=1099511627776) (h0:s.size≠0) (hd:vhr isDigit s=s.size):CallsD Γ prog 119 [.one (cS s)] (.tup [.one (cI (numR (z1x s)).1),.one (cB (numR (z1x s)).2)]):=by
 have c1:=wkc (Γ:=Γ) s _ _ hs x8y;rw [hd] at c1;have hm:=vj8 hd;have hb:=vk5 s (by omega);have hlen:=v54 s;have hq:seq s ⟨#[48]⟩=decide (z1x s=[48]):=v9l s 48;refine CallsD.run [] Go.Proofs.Tryz.func119 rfl rfl rfl ?_;simp only [Go.Proofs.Tryz.f119];refine hgR ?_
 repeat' ((first | refine hfk ?_ ?_<;>intros | refine hik ?_ | with_reducible first | refine v47 (c1) ?_ | refine vrf (c1) ?_)<;>refine hgS ?_)
 all_goals first
  | (exfalso;omega)
  | (refine lf1 @xb1 ?_;first | exact trivial | rfl)
  | skip
 all_goals
  have hnl:(z1x s).length<=13:=by omega
  refine yxw [0,30] (fun i:Nat=>[(4,.one (.dat (cI (numV ((z1x s).take i))))),(31,.one (.dat (cI i)))]) (fun _=>[]) (fun i=>i<=s.size) (fun i=>s.size-i) 0 (Nat.zero_le _) ?_ ?_
  . refine hg ?_;exact StH.same svl rfl
  intro i hi;have hv:=wb7 (z1x s) hm (i:=i) (by omega) hnl;refine hg ?_;refine xw4 (fun hlt _=>?_) (fun hlt _=>?_)
  . have hi':i<s.size:=by omega
    have hge:=yme s i hi';have hc:=x7o (hm (w7f s i) (List.mem_of_mem_drop (by rw [hge];simp)))
    have e:numV ((z1x s).take (i+1))=10*numV ((z1x s).take i)+(w7f s i-48):=by
     rw [<-yp8]
     congr 1
     rw [List.take_add_one,vh2 s i hi'];rfl
    clear hm;refine hg ?_
    repeat' ((first | refine hfk ?_ ?_<;>intros | refine hik ?_)<;>refine hgS ?_)
    refine ⟨i+1,by omega,by omega,?_⟩;rw [e];exact StH.same svl rfl
  . have e:(z1x s).take i=z1x s:=List.take_of_length_le (by omega);rw [e];rw [e] at hv;clear hm;refine hg ?_
    repeat' ((first | refine hfk ?_ ?_<;>intros | refine hik ?_)<;>refine hgS ?_)
    all_goals refine lf1 @xb1 ?_;first | exact trivial | rfl
def quR:Option (List Int×Nat)->ByteArray×Int
 | none=>(⟨#[]⟩,0)
 | some r=>bif decide (400<(r.1.length:Int)) then (⟨#[]⟩,0) else (strOfNums r.1,(r.2:Int)+1)
theorem zo4:quR none=(⟨#[]⟩,0):=rfl
theorem ycz (v:List Int) (n:Nat):quR (some (v,n))=bif decide (400<(v.length:Int)) then (⟨#[]⟩,0) else (strOfNums v,(n:Int)+1):=rfl
theorem xxh:quoL []=none:=rfl
theorem vgo {c:Int} {l:List Int} (h:yuk c=false):quoL (c::l)=none:=by rw [quoL.eq_def];simp only [h];rfl
theorem xz0 {l:List Int}:quoL (34::l)=some ([],1):=by rw [quoL.eq_def];simp [yuk]
theorem vhk {d:Int} {l:List Int} (h:d=34\/d=92):quoL (92::d::l)=(quoL l).map (fun r=>(d::r.1,r.2+2)):=by
 rw [quoL.eq_def]
 rcases h with rfl | rfl<;>rfl
theorem vnt:quoL [92]=none:=rfl
theorem xn8 {d:Int} {l:List Int} (h:¬d=34) (h':¬d=92):quoL (92::d::l)=none:=by
 rw [quoL.eq_def];simp [h,h',yuk]
theorem zji {c:Int} {l:List Int} (hp:yuk c=true) (h:¬c=34) (h':¬c=92):quoL (c::l)=(quoL l).map (fun r=>(c::r.1,r.2+1)):=by
 rw [quoL.eq_def];simp [h,h',hp]
theorem v66 (s:ByteArray) (hs:s.size<=1073741824) (h1:1<=s.size):CallsD Γ prog 120 [.one (cS s)] (.tup [.one (cS (quR (quoL ((z1x s).drop 1))).1),.one (cI (quR (quoL ((z1x s).drop 1))).2)]):=by
 generalize hR:quoL ((z1x s).drop 1)=R;refine CallsD.run [] Go.Proofs.Tryz.func120 rfl rfl rfl ?_;simp only [Go.Proofs.Tryz.f120];refine hgR ?_
 repeat' ((first | refine hfk ?_ ?_<;>intros | refine hik ?_)<;>refine hgS ?_)
 refine yxw [0] (fun x:Nat×List Int=>[(4,.one (.sl 0 1 0 x.2.length)),(5,.one (.dat (cI x.1)))]) (fun x=>[.arr (.ints .u8 x.2) 0 (some 5)])
  (fun x=>1<=x.1/\x.1<=s.size/\x.2.length<x.1/\x.2.all x5a=true/\(quoL ((z1x s).drop x.1)).map (fun r=>(x.2++r.1,r.2+(x.1-1)))=R) (fun x=>s.size-x.1) (1,[]) ⟨Nat.le_refl _,h1,by decide,rfl,by rw [<-hR];simp⟩ ?_ ?_
 . refine hg ?_;refine StH.trans (StH.empty (d:=4) (es:=1) (c:=.ints .u8 []) (T:=some 5) rfl rfl trivial rfl) ?_;refine hg ?_;exact StH.same svl rfl
 rintro ⟨n,vs⟩ ⟨a1,a2,a3,a4,a5⟩;simp only at a1 a2 a3 a4 a5;clear hR;have cp:=y0r (Γ:=Γ) (w7f s n);by_cases hn:n<s.size
 . rw [yme s n hn] at a5
   cases hp:yuk (w7f s n) with
   | false=>
    rw [hp] at cp;rw [vgo hp] at a5;subst a5;refine hg ?_
    repeat' ((first | refine hfk ?_ ?_<;>intros | refine hik ?_ | with_reducible first | refine v47 (cp) ?_ | refine vrf (cp) ?_)<;>refine hgS ?_)
    all_goals first
     | (exfalso;omega)
     | exact RLe.ofEq rfl
   | true=>
    rw [hp] at cp;by_cases h34:w7f s n=34
    . rw [h34] at cp;rw [h34,xz0] at a5;simp only [Option.map_some,List.append_nil] at a5;subst a5;rw [show 1+(n-1)=n by omega,ycz];refine hg ?_
      repeat' ((first | refine hfk ?_ ?_<;>intros | refine hik ?_ | with_reducible first | refine v47 (cp) ?_ | refine vrf (cp) ?_)<;>refine hgS ?_)
      all_goals first
       | (exfalso;omega)
       | (refine lfE ?_;first | exact trivial | rfl)
    . by_cases h92:w7f s n=92
      . rw [h92] at a5 cp;by_cases hn1:n+1<s.size
        . rw [yme s (n + 1) hn1] at a5;by_cases hd:w7f s (n+1)=34\/w7f s (n+1)=92
          . rw [vhk hd,Option.map_map] at a5
            have a6:(vs++[w7f s (n+1)]).all x5a=true:=by rw [List.all_append,a4];simp [zed]
            refine hg ?_
            repeat' ((first | refine hfk ?_ ?_<;>intros | refine hik ?_ | with_reducible first | refine v47 (cp) ?_ | refine vrf (cp) ?_)<;>refine hgS ?_)
            all_goals first
             | (exfalso;omega)
             | (refine ⟨(n+1+1,vs++[w7f s (n+1)]),⟨by dsimp only;omega,by dsimp only;omega,by simp only [List.length_append,List.length_singleton];omega,a6,?_⟩,by dsimp only;omega,?_⟩
                . rw [<-a5]
                  congr 1
                  funext r
                  simp only [Function.comp,List.append_assoc,List.singleton_append]
                  congr 1
                  omega
                . exact StH.back [0,4,5] 0 1 1 rfl rfl rfl rfl rfl (by kernel_rfl) (StH.same svl rfl))
          . have hd1:¬w7f s (n+1)=34:=fun h=>hd (.inl h)
            have hd2:¬w7f s (n+1)=92:=fun h=>hd (.inr h)
            rw [xn8 hd1 hd2] at a5;subst a5;clear hd;refine hg ?_
            repeat' ((first | refine hfk ?_ ?_<;>intros | refine hik ?_ | with_reducible first | refine v47 (cp) ?_ | refine vrf (cp) ?_)<;>refine hgS ?_)
            all_goals first
             | (exfalso;omega)
             | exact RLe.ofEq rfl
        . rw [List.drop_eq_nil_of_le (by rw [v54];omega),vnt] at a5;subst a5;refine hg ?_
          repeat' ((first | refine hfk ?_ ?_<;>intros | refine hik ?_ | with_reducible first | refine v47 (cp) ?_ | refine vrf (cp) ?_)<;>refine hgS ?_)
          all_goals first
           | (exfalso;omega)
           | exact RLe.ofEq rfl
      . rw [zji hp h34 h92,Option.map_map] at a5
        have a6:(vs++[w7f s n]).all x5a=true:=by rw [List.all_append,a4];simp [zed]
        refine hg ?_
        repeat' ((first | refine hfk ?_ ?_<;>intros | refine hik ?_ | with_reducible first | refine v47 (cp) ?_ | refine vrf (cp) ?_)<;>refine hgS ?_)
        all_goals first
         | (exfalso;omega)
         | (refine ⟨(n+1,vs++[w7f s n]),⟨by dsimp only;omega,by dsimp only;omega,by simp only [List.length_append,List.length_singleton];omega,a6,?_⟩,by dsimp only;omega,?_⟩
            . rw [<-a5]
              congr 1
              funext r
              simp only [Function.comp,List.append_assoc,List.singleton_append]
              congr 1
              omega
            . exact StH.back [0,4,5] 0 1 1 rfl rfl rfl rfl rfl (by kernel_rfl) (StH.same svl rfl))
 . rw [List.drop_eq_nil_of_le (by rw [v54];omega),xxh] at a5;subst a5;refine hg ?_
   repeat' ((first | refine hfk ?_ ?_<;>intros | refine hik ?_ | with_reducible first | refine v47 (cp) ?_ | refine vrf (cp) ?_)<;>refine hgS ?_)
   all_goals first
    | (exfalso;omega)
    | exact RLe.ofEq rfl
abbrev sgC:List Cell:=[.raw (.int .u8 40),.raw (.int .u8 41),.raw (.int .u8 44),.raw (.int .u8 59),.raw (.int .u8 58),.raw (.int .u8 61),.raw (.int .u8 60),.raw (.int .u8 43),.raw (.int .u8 45),.raw (.int .u8 42),.raw (.int .u8 47),.raw (.int .u8 123),.raw (.int .u8 125)]
theorem z0u (p:Int->Bool) (s:ByteArray):z1x (zlk s (vhr p s))=(z1x s).takeWhile p:=by
 rw [vnf,wbp p (z1x s)];rfl
theorem wh2 {α:Type} (p:α->Bool):∀ l:List α,(l.takeWhile p).takeWhile p=l.takeWhile p
 | []=>rfl
 | a::l=>by
  cases h:p a with
  | true=>rw [List.takeWhile_cons_of_pos h,List.takeWhile_cons_of_pos h,wh2 p l]
  | false=>rw [List.takeWhile_cons_of_neg (by rw [h];decide)];rfl
theorem y0x (p:Int->Bool) (s:ByteArray):vhr p (zlk s (vhr p s))=(zlk s (vhr p s)).size:=by
 show ((z1x (zlk s (vhr p s))).takeWhile p).length=_;rw [<-v54,z0u,wh2]
theorem yoa (p:Int->Bool) (s:ByteArray):(zlk s (vhr p s)).size=vhr p s:=wcz s _ (zhj p s)
theorem xyc {p:Int->Bool} {s:ByteArray} (h1:0<s.size) (h:p (w7f s 0)=true):0<vhr p s:=by
 show 0<((z1x s).takeWhile p).length
 have:=yme s 0 h1
 rw [List.drop_zero] at this;rw [this,List.takeWhile_cons_of_pos h];simp
theorem w1i {p:Int->Bool} {s:ByteArray} (h1:0<s.size) (h:p (w7f s 0)=true):w7f (zlk s (vhr p s)) 0=w7f s 0:=by
 have h2:=xyc h1 h;rw [vk5 _ (by rw [yoa];exact h2),z0u]
 have:=yme s 0 h1
 rw [List.drop_zero] at this;rw [this,List.takeWhile_cons_of_pos h];rfl
theorem wcf {c:Int} (h:zlq c=true):waz c=true:=by unfold waz;rw [h];rfl
theorem xvn {s:ByteArray} (h1:0<s.size) (h:zlq (w7f s 0)=true):isName (zlk s (vhr waz s))=decide ((vhr waz s:Int)<=20):=by
 have h2:=xyc h1 (wcf h);unfold isName;rw [y0x,w1i h1 (wcf h),yoa,h,decide_eq_true (show ¬vhr waz s=0 by omega),decide_eq_true rfl];simp
abbrev nxR (r:Tk×Nat×Int):AV:=.tup [.agg (tkC r.1),.one (cI (r.2.1:Nat)),.one (cI r.2.2)]
theorem vci (s:ByteArray) (hG:ws6 Γ 0=.elt sgC) (h1:0<s.size) (hs:s.size<=1073741824):CallsD Γ prog 100 [.one (cS s)] (nxR (w4x (z1x s))):=by
 have cl:=vcq (Γ:=Γ) (w7f s 0);have cd:=x8y (Γ:=Γ) (w7f s 0);have ci:=wkc (Γ:=Γ) s _ _ (by omega) wk1;have ck:=wkc (Γ:=Γ) s _ _ (by omega) x8y;have hh:=vk5 s h1;have e1:((z1x s).takeWhile waz).length=vhr waz s:=rfl;have e2:((z1x s).takeWhile isDigit).length=vhr isDigit s:=rfl;have e3:=wci waz s;have e4:=wci isDigit s;unfold w4x;rw [<-hh];have z1:=zhj waz s;have z2:=zhj isDigit s
 cases hl:zlq (w7f s 0) with
 | true=>
  rw [hl] at cl;have hnm:=xvn h1 hl;have cn:=wam (Γ:=Γ) (zlk s (vhr waz s)) (by rw [yoa];omega);have hz:=yoa waz s;rw [hnm] at cn;rw [cond_true,e1,<-e3];clear e3 e4 e1 e2 hnm hh ck cd;generalize vhr waz s=k at *;generalize decide ((k:Int)<=20)=b at *
  cases b
  all_goals
   refine CallsD.run [] Go.Proofs.Tryz.func100 rfl rfl rfl ?_;simp only [Go.Proofs.Tryz.f100];refine hgR ?_
   repeat' ((first | refine hfk ?_ ?_<;>intros | refine hik ?_ | with_reducible first | refine v47 (cl) ?_ | refine vrf (cl) ?_ | refine v47 (ci) ?_ | refine vrf (ci) ?_ | refine v47 (cn) ?_ | refine vrf (cn) ?_)<;>refine hgS ?_)
   all_goals refine lfE ?_;first | exact trivial | rfl
 | false=>
  rw [hl] at cl;rw [cond_false]
  cases hd:isDigit (w7f s 0) with
  | true=>
   rw [hd] at cd;have hz:=yoa isDigit s;have hp:=xyc h1 hd;have cn:=xid (Γ:=Γ) (zlk s (vhr isDigit s)) (by rw [hz];omega) (by rw [hz];omega) (y0x isDigit s);rw [z0u] at cn;rw [cond_true,e2,<-e4];unfold numR at cn;generalize numO ((z1x s).takeWhile isDigit)=b at *;generalize numV ((z1x s).takeWhile isDigit)=v at *;clear e3 e4 e1 e2 hh ci;generalize vhr isDigit s=k at *
   cases b
   all_goals
    refine CallsD.run [] Go.Proofs.Tryz.func100 rfl rfl rfl ?_;simp only [Go.Proofs.Tryz.f100];refine hgR ?_
    repeat' ((first | refine hfk ?_ ?_<;>intros | refine hik ?_ | with_reducible first | refine v47 (cl) ?_ | refine vrf (cl) ?_ | refine v47 (cd) ?_ | refine vrf (cd) ?_ | refine v47 (ck) ?_ | refine vrf (ck) ?_ | refine v47 (cn) ?_ | refine vrf (cn) ?_)<;>refine hgS ?_)
    all_goals refine lfE ?_;first | exact trivial | rfl
  | false=>
   rw [hd] at cd;rw [cond_false];have cq:=v66 (Γ:=Γ) s hs h1;rw [List.drop_one] at cq;clear e3 e4 e1 e2 hh ci ck;by_cases h34:w7f s 0=34
   . have cl':=cl;have cd':=cd;rw [h34] at cl' cd';rw [decide_eq_true h34,cond_true]
     cases hq:quoL (z1x s).tail with
     | none=>
      rw [hq,zo4] at cq;refine CallsD.run [] Go.Proofs.Tryz.func100 rfl rfl rfl ?_;simp only [Go.Proofs.Tryz.f100];refine hgR ?_
      repeat' ((first | refine hfk ?_ ?_<;>intros | refine hik ?_ | with_reducible first | refine v47 (cl) ?_ | refine vrf (cl) ?_ | refine v47 (cd) ?_ | refine vrf (cd) ?_ | refine v47 (cl') ?_ | refine vrf (cl') ?_ | refine v47 (cd') ?_ | refine vrf (cd') ?_ | refine v47 (cq) ?_ | refine vrf (cq) ?_)<;>refine hgS ?_)
      all_goals refine lfE ?_;first | exact trivial | rfl
     | some r=>
      obtain ⟨v,n⟩:=r;rw [hq,ycz] at cq;simp only;generalize strOfNums v=t at *
      cases hv:decide (400<(v.length:Int)) with
      | true=>
       rw [hv] at cq;refine CallsD.run [] Go.Proofs.Tryz.func100 rfl rfl rfl ?_;simp only [Go.Proofs.Tryz.f100];refine hgR ?_
       repeat' ((first | refine hfk ?_ ?_<;>intros | refine hik ?_ | with_reducible first | refine v47 (cl) ?_ | refine vrf (cl) ?_ | refine v47 (cd) ?_ | refine vrf (cd) ?_ | refine v47 (cl') ?_ | refine vrf (cl') ?_ | refine v47 (cd') ?_ | refine vrf (cd') ?_ | refine v47 (cq) ?_ | refine vrf (cq) ?_)<;>refine hgS ?_)
       all_goals refine lfE ?_;first | exact trivial | rfl
      | false=>
       rw [hv] at cq;refine CallsD.run [] Go.Proofs.Tryz.func100 rfl rfl rfl ?_;simp only [Go.Proofs.Tryz.f100];refine hgR ?_
       repeat' ((first | refine hfk ?_ ?_<;>intros | refine hik ?_ | with_reducible first | refine v47 (cl) ?_ | refine vrf (cl) ?_ | refine v47 (cd) ?_ | refine vrf (cd) ?_ | refine v47 (cl') ?_ | refine vrf (cl') ?_ | refine v47 (cd') ?_ | refine vrf (cd') ?_ | refine v47 (cq) ?_ | refine vrf (cq) ?_)<;>refine hgS ?_)
       all_goals first
        | (exfalso;omega)
        | (refine lfE ?_;first | exact trivial | rfl)
   . rw [decide_eq_false h34,cond_false];clear cq;rw [<-zvn];unfold yjn;refine CallsD.run [] Go.Proofs.Tryz.func100 rfl rfl rfl ?_;simp only [Go.Proofs.Tryz.f100];refine hgR ?_
     repeat' ((first | refine hfk ?_ ?_<;>intros | refine hik ?_ | with_reducible refine z7r ?_ | with_reducible refine wd2 ?_ | with_reducible first | refine v47 (cl) ?_ | refine vrf (cl) ?_ | refine v47 (cd) ?_ | refine vrf (cd) ?_)<;>refine hgS ?_)
     all_goals first
      | exact RLe.ofEq rfl
      | exact RLe.ofEq (by simp [*];exact ⟨rfl,rfl,rfl,rfl⟩)
theorem vip (f:Nat) (l:List Int):gapL (f+1) l=bif (l.drop (l.takeWhile z9d).length).headD 0==35 then
 ((l.takeWhile z9d).length+((l.drop (l.takeWhile z9d).length).takeWhile (fun c=>!decide (c=10))).length)+gapL f (l.drop ((l.takeWhile z9d).length+((l.drop (l.takeWhile z9d).length).takeWhile (fun c=>!decide (c=10))).length))
 else (l.takeWhile z9d).length:=rfl
theorem v8m {α:Type} (p:α->Bool) (l:List α):(l.takeWhile p).length<=l.length:=(List.takeWhile_prefix p).length_le
theorem zyo:∀(f:Nat) (l:List Int),gapL f l<=l.length
 | 0,_=>Nat.zero_le _
 | f+1,l=>by
  rw [vip];have a:=v8m z9d l;have b:=v8m (fun c=>!decide (c=10)) (l.drop (l.takeWhile z9d).length);rw [List.length_drop] at b
  cases ((l.drop (l.takeWhile z9d).length).headD 0==35) with
  | false=>exact a
  | true=>
   have c:=zyo f (l.drop ((l.takeWhile z9d).length+((l.drop (l.takeWhile z9d).length).takeWhile (fun c=>!decide (c=10))).length));rw [List.length_drop] at c;rw [cond_true];omega
theorem xqg (s:ByteArray) (k i:Nat) (h:k+i<s.size):w7f (ykb s k) i=w7f s (k+i):=by
 have h':k+i<s.data.size:=h;unfold w7f ykb;rw [ByteArray.data_extract,Array.getElem?_extract,if_pos (by simp only [Nat.min_def];split<;>simp_all<;>omega)]
def spB (s:ByteArray) (k:Nat):Nat:=vhr z9d (ykb s k)
def spN (s:ByteArray) (k:Nat):Nat:=vhr (fun c=>!decide (c=10)) (ykb s k)
theorem zs2 (s:ByteArray) {k:Nat} (h:k<=s.size):k+spB s k<=s.size:=by
 have:=zhj z9d (ykb s k)
 rw [wco] at this;unfold spB;omega
theorem zek (s:ByteArray) (n:Nat):((z1x s).drop n).headD 0==35↔n<s.size/\w7f s n=35:=by
 by_cases h:n<s.size
 . rw [yme s n h];show (w7f s n==35)=true↔_;simp [h]
 . rw [List.drop_eq_nil_of_le (by rw [v54];omega)];simp [h]
theorem v8p {s:ByteArray} {k:Nat} (f:Nat) (h:¬(k+spB s k<s.size/\w7f s (k+spB s k)=35)):gapL (f+1) ((z1x s).drop k)=spB s k:=by
 have e:(((z1x s).drop k).takeWhile z9d).length=spB s k:=by unfold spB vhr;rw [vgx]
 rw [vip,e,List.drop_drop]
 cases hc:(((z1x s).drop (k+spB s k)).headD 0==35) with
 | false=>rfl
 | true=>exact absurd ((zek s _).1 hc) h
theorem zcp {s:ByteArray} {k:Nat} (f:Nat) (h:k+spB s k<s.size/\w7f s (k+spB s k)=35):gapL (f+1) ((z1x s).drop k)=spB s k+spN s (k+spB s k)+gapL f ((z1x s).drop (k+spB s k+spN s (k+spB s k))):=by
 have e:(((z1x s).drop k).takeWhile z9d).length=spB s k:=by unfold spB vhr;rw [vgx]
 have e2:(((z1x s).drop (k+spB s k)).takeWhile (fun c=>!decide (c=10))).length=spN s (k+spB s k):=by unfold spN vhr;rw [vgx]
 rw [vip,e,List.drop_drop,(zek s _).2 h,cond_true,e2,List.drop_drop,<-Nat.add_assoc]
theorem z02 {s:ByteArray} {n m:Nat} (hm:m<=s.size) (hnm:n<=m) (hj:∀ j,n<=j->j<m->¬w7f s j=10) (h:m=s.size\/w7f s m=10):spN s n=m-n:=by
 unfold spN;have hz:=wco s n;refine w9k (by omega) (fun j hj'=>?_) ?_
 . rw [xqg s n j (by omega)];simpa using hj (n+j) (by omega) (by omega)
 . rcases h with h | h
   . exact .inl (by omega)
   . by_cases e:m=s.size
     . exact .inl (by omega)
     . refine .inr ?_;rw [xqg s n _ (by omega),show n+(m-n)=m by omega,h];rfl
theorem cGap (s:ByteArray) (hs:s.size<=1073741824):CallsD Γ prog 99 [.one (cS s)] (.one (cI (gapL (s.size+1) (z1x s)))):=by
 have cs:∀ n,CallsD Γ prog 90 [.one (cS (ykb s n)),fN 118] (.one (cI (spB s n))):=fun n=>wkc (Γ:=Γ) (ykb s n) _ _ (by rw [wco];omega) yqw
 have c0:=cs 0;rw [show ykb s 0=s by unfold ykb;simp] at c0;have hz:=zs2 s (Nat.zero_le _);rw [Nat.zero_add] at hz;generalize hR:gapL (s.size+1) (z1x s)=R;refine CallsD.run [] Go.Proofs.Tryz.func99 rfl rfl rfl ?_;simp only [Go.Proofs.Tryz.f99];refine hgR ?_
 repeat' ((first | refine hfk ?_ ?_<;>intros | refine hik ?_ | with_reducible first | refine v47 (c0) ?_ | refine vrf (c0) ?_)<;>refine hgS ?_)
 clear c0;refine yxw [0] (fun k:Nat=>[(3,.one (.dat (cI ((k+spB s k:Nat):Int))))]) (fun _=>[]) (fun k=>k<=s.size/\∃ f,s.size-k<=f/\k+gapL (f+1) ((z1x s).drop k)=R) (fun k=>s.size-k) 0 ⟨Nat.zero_le _,s.size,Nat.le_refl _,by rw [Nat.zero_add,List.drop_zero];exact hR⟩ ?_ ?_
 . conv=>simp (maxSteps:=2000000) (disch:=omega) only [go_sem,Nat.reduceAdd,Nat.reduceSub,Nat.reduceMul,Int.reduceToNat,Nat.reduceEqDiff,Nat.reduceBEq,Nat.reduceBneDiff,Nat.reduceLT,Int.reduceEq,Int.reduceLT,Int.reduceLE,Int.reduceNeg,Int.reduceAdd,Int.reduceSub,Int.reduceMul,Nat.zero_add]
   exact StH.same svl rfl
 rintro k ⟨hk,f,hf,he⟩;clear hR;have hb:=zs2 s hk;by_cases hc:k+spB s k<s.size/\w7f s (k+spB s k)=35
 . rw [zcp f hc] at he;obtain ⟨g1,g2⟩:=hc;generalize hn:k+spB s k=n at *;refine hg ?_
   repeat' ((first | refine hfk ?_ ?_<;>intros | refine hik ?_)<;>refine hgS ?_)
   all_goals try (exfalso;omega)
   refine yxw [0] (fun m:Nat=>[(3,.one (.dat (cI m)))]) (fun _=>[]) (fun m=>n<=m/\m<=s.size/\∀ j,n<=j->j<m->¬w7f s j=10) (fun m=>s.size-m) n ⟨Nat.le_refl _,by omega,fun j h1 h2=>by omega⟩ ?_ ?_
   . refine hg ?_;exact StH.same svl rfl
   rintro m ⟨m1,m2,m3⟩;have hstop:=z02 m2 m1 m3
   have hnext:¬w7f s m=10->∀ j,n<=j->j<m+1->¬w7f s j=10:=fun h j h1 h2=>by
    rcases Nat.lt_or_eq_of_le (Nat.le_of_lt_succ h2) with h3 | h3
    . exact m3 j h1 h3
    . rw [h3];exact h
   have hne:m=n->¬w7f s m=10:=fun h=>by rw [h,g2];decide
   have cm:=cs m;clear m3 cs;by_cases hm:m=s.size\/w7f s m=10
   . have e:=hstop hm
     have hn:¬m=n:=fun h=>by
      rcases hm with h' | h'
      . omega
      . exact hne h h'
     rw [e,show n+(m-n)=m by omega] at he;obtain ⟨f,rfl⟩:∃ g,f=g+1:=⟨f-1,by omega⟩;have hbm:=zs2 s m2;clear hstop hnext hne;refine hg ?_
     repeat' ((first | refine hfk ?_ ?_<;>intros | refine hik ?_ | with_reducible first | refine v47 (cm) ?_ | refine vrf (cm) ?_)<;>refine hgS ?_)
     all_goals first
      | (exfalso;omega)
      | (exfalso;rcases hm with h | h;omega;contradiction)
      | exact ⟨m,⟨m2,f,by omega,by omega⟩,by omega,StH.same svl rfl⟩
   . have h1:¬m=s.size:=fun h=>hm (.inl h)
     have h2:¬w7f s m=10:=fun h=>hm (.inr h)
     have hnext:=hnext h2;clear hstop hne cm hm;refine hg ?_
     repeat' ((first | refine hfk ?_ ?_<;>intros | refine hik ?_)<;>refine hgS ?_)
     all_goals first
      | (exfalso;omega)
      | exact ⟨m+1,⟨by omega,by omega,hnext⟩,by omega,StH.same svl rfl⟩
 . rw [v8p f hc] at he;generalize k+spB s k=n at *;subst he;by_cases g1:n<s.size
   . have g2:¬w7f s n=35:=fun h=>hc ⟨g1,h⟩
     clear hc;refine hg ?_
     repeat' ((first | refine hfk ?_ ?_<;>intros | refine hik ?_)<;>refine hgS ?_)
     all_goals first
      | (exfalso;omega)
      | contradiction
      | exact RLe.ofEq rfl
   . clear hc;refine hg ?_
     repeat' ((first | refine hfk ?_ ?_<;>intros | refine hik ?_)<;>refine hgS ?_)
     all_goals first
      | (exfalso;omega)
      | exact RLe.ofEq rfl
theorem v2p:∀(k:Nat) (l:List Int),l.length<=k->∀ r,quoL l=some r->r.2<=l.length
 | 0,l,h,r,hr=>by
  have e:l=[]:=List.eq_nil_of_length_eq_zero (by omega);rw [e,xxh] at hr;cases hr
 | k+1,[],_,r,hr=>by rw [xxh] at hr;cases hr
 | k+1,c::l,h,r,hr=>by
  have h:l.length<=k:=by simpa using h
  cases hp:yuk c with
  | false=>rw [vgo hp] at hr;cases hr
  | true=>
   by_cases h34:c=34
   . subst h34;rw [xz0] at hr;cases hr;simp
   . by_cases h92:c=92
     . subst h92
       cases l with
       | nil=>rw [vnt] at hr;cases hr
       | cons d m=>
        by_cases hd:d=34\/d=92
        . rw [vhk hd] at hr;obtain ⟨q,h1,rfl⟩:=Option.map_eq_some_iff.1 hr
          have:=v2p k m (by simp at h;omega) q h1
          simp;omega
        . rw [xn8 (fun h=>hd (.inl h)) (fun h=>hd (.inr h))] at hr;cases hr
     . rw [zji hp h34 h92] at hr;obtain ⟨q,h1,rfl⟩:=Option.map_eq_some_iff.1 hr
       have:=v2p k l h q h1
       simp;omega
theorem xyp {p:Int->Bool} {l:List Int} (hl:l≠[]) (h:p (l.headD 0)=true):1<=(l.takeWhile p).length:=by
 cases l with
 | nil=>exact absurd rfl hl
 | cons c l=>
  have h:p c=true:=h;rw [List.takeWhile_cons_of_pos h];simp
theorem xmj {l:List Int} (hl:l≠[]) (h:(w4x l).2.2=0):1<=(w4x l).2.1/\(w4x l).2.1<=l.length:=by
 unfold w4x at h ⊢
 cases h1:zlq (l.headD 0) with
 | true=>
  rw [h1] at h;rw [cond_true] at h ⊢
  cases h2:decide (((l.takeWhile waz).length:Int)<=20) with
  | true=>exact ⟨xyp hl (wcf h1),v8m _ _⟩
  | false=>rw [h2] at h;cases h
 | false=>
  rw [h1] at h;rw [cond_false] at h ⊢
  cases h3:isDigit (l.headD 0) with
  | true=>
   rw [h3] at h;rw [cond_true] at h ⊢
   cases h2:numO (l.takeWhile isDigit) with
   | true=>exact ⟨xyp hl h3,v8m _ _⟩
   | false=>rw [h2] at h;cases h
  | false=>
   rw [h3] at h;rw [cond_false] at h ⊢
   cases h4:decide (l.headD 0=34) with
   | true=>
    rw [h4] at h;rw [cond_true] at h ⊢
    cases hq:quoL l.tail with
    | none=>rw [hq] at h;cases h
    | some r=>
     obtain ⟨v,n⟩:=r
     have:=v2p _ _ (Nat.le_refl _) _ hq
     rw [hq] at h;simp only at h this ⊢
     cases h5:decide (400<(v.length:Int)) with
     | true=>rw [h5] at h;cases h
     | false=>
      rw [List.length_tail] at this
      have:0<l.length:=List.length_pos_iff.2 hl
      rw [cond_false];simp only;omega
   | false=>
    rw [h4] at h;rw [cond_false] at h ⊢
    cases h6:yjn (l.headD 0) with
    | true=>exact ⟨Nat.le_refl _,List.length_pos_iff.2 hl⟩
    | false=>rw [h6] at h;cases h
def apS (acc:List Tk):Sn->Sn
 | .inl ts=>.inl (acc++ts)
 | .inr x=>.inr x
theorem vfl (a b:List Tk) (r:Sn):apS a (apS b r)=apS (a++b) r:=by
 cases r with
 | inl ts=>simp [apS]
 | inr x=>rfl
theorem xya {f:Nat} {l:List Int} {a:Nat} (h:l.length<=gapL (l.length+1) l):wgu (f+1) l a=.inl []:=by
 rw [wgu];simp only;rw [List.drop_eq_nil_of_le h];rfl
theorem xrm {f:Nat} {l:List Int} {a:Nat} (h:gapL (l.length+1) l<l.length) (he:¬(w4x (l.drop (gapL (l.length+1) l))).2.2=0):wgu (f+1) l a=.inr (a+gapL (l.length+1) l,(w4x (l.drop (gapL (l.length+1) l))).2.2):=by
 rw [wgu];simp only;rw [show (l.drop (gapL (l.length+1) l)).isEmpty=false by rw [List.isEmpty_eq_false_iff_exists_mem];exact ⟨_,List.getElem_mem (show 0<(l.drop (gapL (l.length+1) l)).length by rw [List.length_drop];omega)⟩,cond_false,decide_eq_true he];rfl
theorem v3v {f:Nat} {l:List Int} {a:Nat} (h:gapL (l.length+1) l<l.length) (he:(w4x (l.drop (gapL (l.length+1) l))).2.2=0) :
 wgu (f+1) l a=apS [{ (w4x (l.drop (gapL (l.length+1) l))).1 with p:=((a+gapL (l.length+1) l:Nat):Int) }] (wgu f (l.drop (gapL (l.length+1) l+(w4x (l.drop (gapL (l.length+1) l))).2.1)) (a+gapL (l.length+1) l+(w4x (l.drop (gapL (l.length+1) l))).2.1)):=by
 rw [wgu];simp only;rw [show (l.drop (gapL (l.length+1) l)).isEmpty=false by rw [List.isEmpty_eq_false_iff_exists_mem];exact ⟨_,List.getElem_mem (show 0<(l.drop (gapL (l.length+1) l)).length by rw [List.length_drop];omega)⟩,cond_false,decide_eq_false (fun h=>h he),cond_false]
 cases wgu f (l.drop (gapL (l.length+1) l+(w4x (l.drop (gapL (l.length+1) l))).2.1)) (a+gapL (l.length+1) l+(w4x (l.drop (gapL (l.length+1) l))).2.1)<;>rfl
theorem vz1 (s:ByteArray) (hG:ws6 Γ 0=.elt sgC) (hs:s.size<=1073741824):CallsD Γ prog 66 [.one (cS s)] (snR (zna s)):=by
 have cg:∀ a,a<=s.size->CallsD Γ prog 99 [.one (cS (ykb s a))] (.one (cI (gapL (((z1x s).drop a).length+1) ((z1x s).drop a)))):=fun a ha=>by
  have:=cGap (Γ:=Γ) (ykb s a) (by rw [wco];omega)
  rw [vgx,wco,<-v54,<-List.length_drop] at this;exact this
 have cn:∀ a,a<s.size->CallsD Γ prog 100 [.one (cS (ykb s a))] (nxR (w4x ((z1x s).drop a))):=fun a ha=>by
  have:=vci (Γ:=Γ) (ykb s a) hG (by rw [wco];omega) (by rw [wco];omega)
  rw [vgx] at this;exact this
 have hlen:∀ a,((z1x s).drop a).length=s.size-a:=fun a=>by rw [List.length_drop,v54]
 unfold zna;by_cases h4:4000<(s.size:Int)
 . rw [decide_eq_true h4];clear cg cn hlen;refine CallsD.run [] Go.Proofs.Tryz.func66 rfl rfl rfl ?_;simp only [Go.Proofs.Tryz.f66];refine hgR ?_
   repeat' ((first | refine hfk ?_ ?_<;>intros | refine hik ?_)<;>refine hgS ?_)
   all_goals first
    | (exfalso;omega)
    | exact .tup (.cons (.one (.nilSl _)) (.cons (.refl _) (.cons (.refl _) .nil)))
 . rw [decide_eq_false h4,cond_false];generalize hR:wgu (s.size+1) (z1x s) 0=R;refine CallsD.run [] Go.Proofs.Tryz.func66 rfl rfl rfl ?_;simp only [Go.Proofs.Tryz.f66];refine hgR ?_
   repeat' ((first | refine hfk ?_ ?_<;>intros | refine hik ?_)<;>refine hgS ?_)
   all_goals try (exfalso;omega)
   refine yxw [0] (fun x:Nat×List Tk=>[(5,.one (.sl 0 4 0 x.2.length)),(6,.one (.dat (cI x.1)))]) (fun x=>[.arr (.sl 4 (x.2.map Tk.C)) 0 (some 134)])
    (fun x=>x.1<=s.size/\x.2.length<=x.1/\∃ f,s.size-x.1<f/\apS x.2 (wgu f ((z1x s).drop x.1) x.1)=R) (fun x=>s.size-x.1) (0,[]) ⟨Nat.zero_le _,Nat.le_refl _,s.size+1,by omega,by rw [List.drop_zero,hR];cases R<;>rfl⟩ ?_ ?_
   . refine hg ?_;refine StH.trans (StH.empty (d:=5) (es:=4) (c:=.sl 4 []) (T:=some 134) rfl rfl (fun r hr=>by cases hr) rfl) ?_;refine hg ?_;exact StH.same svl rfl
   rintro ⟨a,ts⟩ ⟨a1,a2,f,a3,a4⟩;simp only at a1 a2 a3 a4;clear hR h4;obtain ⟨f,rfl⟩:∃ g,f=g+1:=⟨f-1,by omega⟩;have c1:=cg a a1;have hgl:=zyo (((z1x s).drop a).length+1) ((z1x s).drop a);have hl:=hlen a
   have e1:=fun h=>xya (f:=f) (a:=a) (l:=(z1x s).drop a) h
   have e2:=fun h h'=>xrm (f:=f) (a:=a) (l:=(z1x s).drop a) h h'
   have e3:=fun h h'=>v3v (f:=f) (a:=a) (l:=(z1x s).drop a) h h'
   have nb:=fun hne h=>xmj (l:=((z1x s).drop a).drop (gapL (((z1x s).drop a).length+1) ((z1x s).drop a))) hne h
   have c2:=fun h=>cn (a+gapL (((z1x s).drop a).length+1) ((z1x s).drop a)) h
   clear cn cg;rw [<-List.drop_drop] at c2;generalize gapL (((z1x s).drop a).length+1) ((z1x s).drop a)=g at *;rw [hl] at hgl
   have et:((a:Int)+(g:Int)).toNat=a+g:=by omega
   by_cases hgp:g<((z1x s).drop a).length
   . rw [hl] at hgp;have c3:=c2 (by omega);clear c2
     replace nb:=nb (fun h=>by have:=congrArg List.length h;rw [List.length_drop,hl] at this;simp at this;omega)
     by_cases he:(w4x (((z1x s).drop a).drop g)).2.2=0
     . have t3:=e3 (by rw [hl];exact hgp) he;have nn:=nb he;rw [List.length_drop,hl] at nn;clear e1 e2 e3 nb;generalize w4x (((z1x s).drop a).drop g)=r at *;obtain ⟨⟨k,t,n,q⟩,m,e⟩:=r;simp only at he nn t3 c3;subst he;rw [t3,vfl,List.drop_drop] at a4;clear t3;refine hg ?_
       repeat' ((first | refine hfk ?_ ?_<;>intros | refine hik ?_ | with_reducible first | refine v47 (c1) ?_ | refine vrf (c1) ?_ | refine v47 (c3) ?_ | refine vrf (c3) ?_)<;>refine hgS ?_)
       all_goals try (exfalso;omega)
       refine ⟨(a+g+m,ts++[⟨k,t,n,(a:Int)+g⟩]),⟨by dsimp only;omega,by simp only [List.length_append,List.length_singleton];omega,f,by dsimp only;omega,by rw [<-a4];simp only [Nat.add_assoc,Int.natCast_add]⟩,by dsimp only;omega,?_⟩;refine StH.back [0,5,6] 0 2 1 rfl rfl rfl rfl rfl (by kernel_rfl) ?_;simp only [List.map_append,List.map_cons,List.map_nil,Tk.C_eq]
       conv=>simp (maxSteps:=2000000) (disch:=omega) only [go_sem,Nat.reduceAdd,Nat.reduceSub,Nat.reduceMul,Int.reduceToNat,Nat.reduceEqDiff,Nat.reduceBEq,Nat.reduceBneDiff,Nat.reduceLT,Int.reduceEq,Int.reduceLT,Int.reduceLE,Int.reduceNeg,Int.reduceAdd,Int.reduceSub,Int.reduceMul,List.length_append,List.length_singleton]
       exact StH.same svl rfl
     . have t2:=e2 (by rw [hl];exact hgp) he;clear e1 e2 e3 nb;generalize w4x (((z1x s).drop a).drop g)=r at *;obtain ⟨⟨k,t,n,q⟩,m,e⟩:=r;simp only at he t2 c3;rw [t2] at a4;clear t2;subst a4;refine hg ?_
       repeat' ((first | refine hfk ?_ ?_<;>intros | refine hik ?_ | with_reducible first | refine v47 (c1) ?_ | refine vrf (c1) ?_ | refine v47 (c3) ?_ | refine vrf (c3) ?_)<;>refine hgS ?_)
       all_goals try (exfalso;omega)
       exact .tup (.cons (.one (.nilSl _)) (.cons (.refl _) (.cons (.refl _) .nil)))
   . have t1:=e1 (by omega);rw [t1] at a4;clear t1 e1 e2 e3 nb c2;subst a4;refine hg ?_
     repeat' ((first | refine hfk ?_ ?_<;>intros | refine hik ?_ | with_reducible first | refine v47 (c1) ?_ | refine vrf (c1) ?_)<;>refine hgS ?_)
     all_goals try (exfalso;omega)
     exact RLe.ofEq (by simp [apS,snR])
end Go.Hp.T
