/- The proof, part Y35: Rl, Rf, Rg, Ub, Xa, Uc, Ud, Ue, Uf, Ug, Gb, Gc, Gn. -/
import Derived.Test.YtmegdbbbllffkaaGreatDoorY34
import Derived.Test.YtmegdbbbllffkaaGreatDoorY31
import Derived.Test.YtmegdbbbllffkaaGreatDoorY33
import Derived.Test.YtmegdbbbllffkaaGreatDoorY27
namespace Go.Slot.T
open Go Go.RowKit Go.Slot
open Go.Proofs.Tryz (prog)
set_option maxRecDepth 10000
set_option maxHeartbeats 4000000
theorem vsv (z:Int) (d:Nat) (hz:okZ z) (hd:d≠0) (hl:(dig d).length<=268435456) :
 zkh prog 92 [.agg [.raw (.int .i64 (sg z)),.ints .i64 (dig z.natAbs)],.agg [.raw (.int .i64 1),.ints .i64 (dig d)]]
  (.tup [.agg (Fc.of (mkRat z d)).C,.one (.raw (.int .i64 0))]):=by
 obtain ⟨p1,p2,p3⟩:=zbk z hd;have hden:=v1d (mkRat z d);rw [p2] at hden
 have hden2:(mkRat z d).den=((d:Int) / (Int.gcd z d:Int)).natAbs:=by omega
 have hgl:okZ (Int.gcd z d:Int):=by
  have:(Int.gcd z d:Int).natAbs<=d:=by
   have:Int.gcd z d ∣ d:=by have:=Int.gcd_dvd_natAbs_right z d;simpa using this
   exact Nat.le_of_dvd (Nat.pos_of_ne_zero hd) this
  exact Nat.le_trans (zui this) hl
 have hr:=yo8 (d:Int) hl;have hg:=v3z z d hz hl;have hd1:=y6f z (Int.gcd z d:Int) hz hgl p3;have hd2:=y6f d (Int.gcd z d:Int) hl hgl p3;rw [x69 hd] at hr hg hd2;rw [hden] at hd2;rw [show ((d:Nat):Int).natAbs=d from rfl] at hr hg hd2
 have hfin:(Fc.of (mkRat z d)).C=[.raw (.int .i64 (sg (z / (Int.gcd z d:Int)))),.ints .i64 (dig (z / (Int.gcd z d:Int)).natAbs),.raw (.int .i64 1),.ints .i64 (dig ((d:Int) / (Int.gcd z d:Int)).natAbs)]:=by
  rw [<-p1,<-hden2];rfl
 rw [hfin];generalize (Int.gcd z d:Int)=g at *
 refine zkh.run [] Go.Proofs.Tryz.func92 rfl rfl ?_;conv=>simp (maxSteps:=2000000) (disch:=omega) only [go_sem,Nat.reduceAdd,Nat.reduceSub,Nat.reduceMul,Int.reduceToNat,Nat.reduceEqDiff,Nat.reduceBEq,Nat.reduceBneDiff,Go.Proofs.Tryz.f92,List.replicate]
 refine vmb (yo8 z hz) ?_;refine rg ?_;refine vmb hr ?_;refine rg ?_;refine zs6 (fun h=>absurd h (by decide)) (fun _=>?_);refine rg ?_;refine zs6 (fun h=>absurd h (by decide)) (fun _=>?_);refine rg ?_;refine vmb hg ?_;refine rg ?_;refine vmb hd1 ?_;refine rg ?_;refine vmb hd2 ?_;refine rg ?_;exact ⟨_,rfl,.tup (.cons (.refl _) (.cons (.refl _) .nil))⟩
theorem mkRat_one (n:Int):mkRat n 1=(n:Rat):=by
 refine Rat.ext ?_ ?_
 . rw [Rat.num_mkRat,if_neg (by decide)];simp
 . rw [Rat.den_mkRat,if_neg (by decide)];simp
theorem z8q {n:Int} (h:inI n):okZ n:=by
 have:(dig n.natAbs).length<=4:=wbp (by unfold inI at h;omega)
 unfold okZ;omega
theorem wq9 (n:Int) (hn:inI n):zkh prog 17 [.one (.raw (.int .i64 n))] (.agg (Fc.of (n:Rat)).C):=by
 have h1:=rOf 1 (by decide);rw [show sg 1=1 from rfl] at h1;have hN:=vsv n 1 (z8q hn) (by decide) (by have:=wbp (n:=1) (by decide);omega);rw [mkRat_one] at hN
 have hof:zkh prog 45 [.one (.raw (.int .i64 n)),.one (.raw (.int .i64 1))] (.tup [.agg (Fc.of (n:Rat)).C,.one (.raw (.int .i64 0))]):=by
  refine zkh.run [] Go.Proofs.Tryz.func45 rfl rfl ?_;conv=>simp (maxSteps:=2000000) (disch:=omega) only [go_sem,Nat.reduceAdd,Nat.reduceSub,Nat.reduceMul,Int.reduceToNat,Nat.reduceEqDiff,Nat.reduceBEq,Nat.reduceBneDiff,Go.Proofs.Tryz.f45,List.replicate]
  refine vmb (rOf n hn) ?_;refine rg ?_;refine vmb h1 ?_;refine rg ?_;refine vmb hN ?_;refine rg ?_;exact ⟨_,rfl,.tup (.cons (.refl _) (.cons (.refl _) .nil))⟩
 refine zkh.run [] Go.Proofs.Tryz.func17 rfl rfl ?_;conv=>simp (maxSteps:=2000000) (disch:=omega) only [go_sem,Nat.reduceAdd,Nat.reduceSub,Nat.reduceMul,Int.reduceToNat,Nat.reduceEqDiff,Nat.reduceBEq,Nat.reduceBneDiff,Go.Proofs.Tryz.f17,List.replicate]
 refine vmb hof ?_;refine rg ?_;exact ⟨_,rfl,.one (.refl _)⟩
end Go.Slot.T
namespace Go.Hp.T
open Go Go.RowKit Go.Slot Go.Hp Go.Slot.T
open Go.Proofs.Tryz (prog)
set_option maxRecDepth 10000
set_option maxHeartbeats 4000000
variable {Γ:List (Nat×List Cell)}
theorem wqk (z:Int) (d:Nat) (hz:okZ z) (hd:d≠0) (hl:(dig d).length<=268435456):CallsD Γ prog 92 [.agg (zC z),.agg (zC d)] (.tup [.agg (Fc.of (Rat.divInt z d)).C,.one (cI 0)]):=by
 have:=toD (Γ:=Γ) (vsv z d hz hd hl)
 rw [Rat.divInt_ofNat];unfold zC;rw [x69 hd];exact this
theorem s5Of (p:Int) (q:Nat) (hp:inI p) (hq:inI q) (hq0:q≠0):CallsD Γ prog 45 [.one (cI p),.one (cI q)] (.tup [.agg (fQ (Rat.divInt p q)),.one (cI 0)]):=by
 have okI:∀ n:Int,inI n->okZ n:=fun n hn=>by
  unfold okZ
  have:=wbp (n:=n.natAbs) (by unfold inI at hn;omega)
  omega
 have hl:(dig q).length<=268435456:=by have:=okI q hq;unfold okZ at this;simpa using this
 refine CallsD.run [] Go.Proofs.Tryz.func45 rfl rfl rfl ?_;simp only [Go.Proofs.Tryz.f45];refine hgR ?_
 repeat' ((first | refine hfk ?_ ?_<;>intros | refine hik ?_ | with_reducible first | refine y5m (toD (rOf p hp)) ?_ | refine vtc (toD (rOf p hp)) ?_ | refine y5m (toD (rOf q hq)) ?_ | refine vtc (toD (rOf q hq)) ?_ | refine y5m (wqk p q (okI p hp) hq0 hl) ?_ | refine vtc (wqk p q (okI p hp) hq0 hl) ?_)<;>refine hgS ?_)
 exact RLe.ofEq rfl
theorem pInt (n:Int) (hn:inI n):CallsD Γ prog 17 [.one (cI n)] (.agg (qC (some (n:Rat)))):=toD (wq9 n hn)
theorem yj6:∀(l:List It) (u v:Un),v8n l u=some v->(∀ x∈l,x.ok)->qs v.f<=qs u.f+100*l.length
 | [],u,v,h,_=>by rw [v8n] at h;cases h;omega
 | x::l,u,v,h,hx=>by
  rw [v8n] at h;split at h
  . cases h
  . rename_i w hw;have h1:=yj6 l _ _ h (fun y hy=>hx y (by simp [hy]));obtain ⟨_,h2,_⟩:=yw3 hw;obtain ⟨_,_,h3,h4⟩:=hx x (by simp)
    have hq:qs (v8c u.f w.f x.e)<=qs u.f+9*(qs w.f+1):=by
     have:=wma u.f w.f x.e x.e.natAbs
     rw [<-wgm] at this;have h9:x.e.natAbs*(qs w.f+1)<=9*(qs w.f+1):=Nat.mul_le_mul_right _ (by omega);omega
    simp only at h1;rw [List.length_cons];omega
theorem xep (s:ByteArray):(∃ u,wrt s=(some u,0)/\qs u.f<=4200)\/(∃ e,e≠0/\wrt s=(none,e)):=by
 unfold wrt
 split
 . exact .inr ⟨12,by decide,rfl⟩
 . rename_i l hl
   split
   . exact .inr ⟨11,by decide,rfl⟩
   . rename_i u hu
     cases hd:wpm u.d with
     | false=>exact .inr ⟨3,by decide,rfl⟩
     | true=>
      refine .inl ⟨u,rfl,?_⟩;have h1:=zi4 hl;have h2:=yj6 _ _ _ hu h1.2
      have:=w5z
      simp only at h2;omega
def facO (s:ByteArray):Option Rat:=(wrt s).1.map (·.f)
theorem x7a (s:ByteArray):qz (facO s)<=4200:=by
 unfold facO
 rcases xep s with ⟨u,h,hq⟩ | ⟨e,_,h⟩
 . rw [h];exact hq
 . rw [h];exact Nat.zero_le _
def aft (q:Rat):List Rw->Nat
 | []=>0
 | r::l=>bif decide ((r.k:Rat)<=q) then aft q l+1 else 0
theorem w3i {q:Rat}:∀{l:List Rw} {i:Nat},i<=l.length->(∀ j,j<i->(((l.getD j default).k:Rat)<=q))->(i<l.length->¬(((l.getD i default).k:Rat)<=q))->aft q l=i
 | [],i,hi,_,_=>by simp at hi;subst hi;rfl
 | x::l,0,_,_,h=>by
  have h':¬(x.k:Rat)<=q:=h (by simp);unfold aft;rw [decide_eq_false h'];rfl
 | x::l,i+1,hi,hj,h=>by
  have h0:(x.k:Rat)<=q:=hj 0 (by omega)
  have:=w3i (l:=l) (i:=i) (by simpa using hi) (fun j hj'=>by simpa using hj (j+1) (by omega)) (fun h'=>by simpa using h (by simpa using h'))
  unfold aft;rw [decide_eq_true h0,this];rfl
theorem z8w (q:Rat):∀ l:List Rw,aft q l<=l.length
 | []=>Nat.le_refl _
 | x::l=>by
  have:=z8w q l
  unfold aft
  cases decide ((x.k:Rat)<=q) with
  | true=>rw [cond_true,List.length_cons];omega
  | false=>rw [cond_false];omega
def Rows (l:List Rw):Prop:=∀ i,i<l.length->inT (l.getD i default).k=true/\inT (l.getD i default).v=true/\(0<i->(l.getD (i-1) default).k<(l.getD i default).k)
theorem vdp {n:Int} (h:inT n=true):-1099511627776<=n/\n<=1099511627776:=by
 unfold inT at h;simpa using h
theorem y7s {l:List Rw} (h:zah l=true):Rows l:=fun i hi=>by
 have:=List.all_eq_true.1 h i (List.mem_range.2 hi)
 unfold rowAt at this;simp only [Bool.and_eq_true,Bool.not_eq_true',Bool.and_eq_false_iff,decide_eq_false_iff_not] at this;exact ⟨this.1.1,this.1.2,fun h0=>by rcases this.2 with h | h<;>omega⟩
theorem Rows.mono {l:List Rw} (h:Rows l):∀{i j:Nat},i<=j->j<l.length->(l.getD i default).k<=(l.getD j default).k:=by
 intro i j hij
 induction j with
 | zero => intro _; have : i = 0 := by omega
           subst this;exact Int.le_refl _
 | succ j ih=>
  intro hj
  rcases Nat.lt_or_eq_of_le hij with h1 | h1
  . have h2:=ih (by omega) (by omega);have h3:=(h (j+1) hj).2.2 (by omega);rw [Nat.add_sub_cancel] at h3;omega
  . subst h1;exact Int.le_refl _
theorem wkk {a b:Int} (h:a<=b):(a:Rat)<=(b:Rat):=Rat.intCast_le_intCast.2 h
theorem z8a {t:Tb} (h:wlo (fun s=>(wrt s).2) t=true):(∃ u,wrt t.unit=(some u,0)/\qs u.f<=4200)/\isName t.name=true/\t.rows.length<=100/\Rows t.rows:=by
 unfold wlo at h;simp only [Bool.and_eq_true,Bool.not_eq_true',decide_eq_false_iff_not,Classical.not_not] at h;obtain ⟨⟨⟨h1,h2⟩,h3⟩,h4⟩:=h;refine ⟨?_,h2,by omega,y7s h4⟩
 rcases xep t.unit with h | ⟨e,he,h⟩
 . exact h
 . rw [h] at h1;exact absurd h1 he
theorem xut {k:Int} {q:Rat}:decide (cmpO (some (k:Rat)) (some q)<=0)=decide ((k:Rat)<=q):=by
 apply decide_eq_decide.2;show Fc.ordQ _ _<=0↔_
 rcases Fc.xdl (k:Rat) q with ⟨h,e⟩ | ⟨h,e⟩ | ⟨h,e⟩<;>rw [e]
 . exact ⟨fun _=>Rat.le_of_lt h,fun _=>by decide⟩
 . rw [h];exact ⟨fun _=>Rat.le_refl,fun _=>by decide⟩
 . exact ⟨fun h'=>absurd h' (by decide),fun h'=>absurd h' (Rat.not_le.2 h)⟩
theorem vfw (r:Rw) (q:Rat) (hr:inT r.k=true) (hq:qs q<=67108864):CallsD Γ prog 191 [.agg (rwC r),.agg (qC (some q))] (.one (cI (bif decide ((r.k:Rat)<=q) then -1 else 1))):=by
 have hk:=vdp hr
 have hin:inI r.k:=by unfold inI;omega
 have h1:=oInt (Γ:=Γ) r.k hin;have hz:=wkd hin;have h2:=oCmp (Γ:=Γ) (some (r.k:Rat)) (some q) (by omega) hq;rw [<-xut];have hcr:=z3n (some (r.k:Rat)) (some q);generalize cmpO (some (r.k:Rat)) (some q)=c at *;refine CallsD.run [] Go.Proofs.Tryz.func191 rfl rfl rfl ?_;simp only [Go.Proofs.Tryz.f191];refine hgR ?_
 repeat' ((first | refine hfk ?_ ?_<;>intros | refine hik ?_ | with_reducible first | refine y5m (h1) ?_ | refine vtc (h1) ?_ | refine y5m (h2) ?_ | refine vtc (h2) ?_)<;>refine hgS ?_)
 all_goals (refine RLe.ofEq ?_;conv=>simp only [Bool.and_true,Bool.true_and,Bool.and_false,Bool.false_and,Bool.or_true,Bool.true_or,Bool.or_false,Bool.false_or,Bool.not_true,Bool.not_false,decide_true,decide_false,not_true_eq_false,not_false_eq_true,x9k,if_true,if_false,Bool.and_self,Bool.or_self,cond_true,cond_false,List.length_map,ne_eq,Int.reduceEq,Int.reduceLT,Int.reduceLE, *]);first | exact trivial | rfl
theorem vou {i j:Nat} (h:i+j<=4611686018427387904):IntKind.i64.wrap (ishr .u64 ((i:Int)+j) 1)=(((i+j) / 2:Nat):Int):=by
 have e:ishr .u64 ((i:Int)+j) 1=((i:Int)+j) / 2:=by
  unfold ishr;rw [show (min (1:Int).toNat IntKind.u64.bits)=1 by decide];rw [Int.fdiv_eq_ediv_of_nonneg _ (by decide)];rfl
 rw [e,w64 (by omega)];omega
abbrev unQ (u:Un):List Cell:=[cI u.d.a,cI u.d.b,cI u.d.c,cI u.d.d,cI u.d.e,cI u.d.f,.raw (.int .i64 (qF (some u.f)).s),.ints .i64 (qF (some u.f)).L,.raw (.int .i64 (qF (some u.f)).t),.ints .i64 (qF (some u.f)).M]
theorem w3b {s:ByteArray} {u:Un} (hs:s.size<=1073741824) (h:wrt s=(some u,0)):CallsD Γ prog 15 [.one (cS s)] (.tup [.agg (unQ u),.one (cI 0)]):=by
 have hr:=vtn (Γ:=Γ) s hs;rw [h] at hr;exact hr
theorem cBin (l:List Rw) (q:Rat) (f:FuncId) (hl:l.length<=1073741824) (hs:Rows l)
 (h:∀ r∈l,CallsD Γ prog f [.agg (rwC r),.agg (qC (some q))] (.one (cI (bif decide ((r.k:Rat)<=q) then -1 else 1)))) :
 CallsD Γ prog 190 [.one (.sl 2 (l.map Rw.C)),.agg (qC (some q)),fN f] (.tup [.one (cI (aft q l)),.one (cB false)]):=by
 generalize hR:aft q l=R;refine CallsD.run [] Go.Proofs.Tryz.func190 rfl rfl rfl ?_;simp only [Go.Proofs.Tryz.f190];refine hgR ?_;refine y31 [0,2,4,8] (fun p:Nat×Nat=>[(9,.one (.dat (cI p.1))),(10,.one (.dat (cI p.2)))]) (fun _=>[.box ((qC (some q)).map .dat) (some 33)])
  (fun p=>p.1<=p.2/\p.2<=l.length/\(∀ j,j<p.1->(((l.getD j default).k:Rat)<=q))/\(∀ j,p.2<=j->j<l.length->¬(((l.getD j default).k:Rat)<=q))) (fun p=>p.2-p.1) (0,l.length) ⟨Nat.zero_le _,Nat.le_refl _,fun j hj=>by omega,fun j h1 h2=>by omega⟩ ?_ ?_
 . refine hg ?_;exact StH.same svl rfl
 rintro ⟨i,j⟩ ⟨h1,h2,h3,h4⟩;simp only at h1 h2 h3 h4;refine hg ?_;refine zkv (fun hlt _=>?_) (fun hlt _=>?_)
 . have hw:=vou (i:=i) (j:=j) (by omega)
   have hm:(i+j) / 2<l.length:=by omega
   have hmi:i<=(i+j) / 2:=by omega
   have hmj:(i+j) / 2<j:=by omega
   have hc:=h _ (zkt hm)
   have hlo:decide (((l.getD ((i+j) / 2) default).k:Rat)<=q)=true->∀ k,k<(i+j) / 2+1->(((l.getD k default).k:Rat)<=q):=fun hq k hk=>Rat.le_trans (wkk (hs.mono (by omega) hm)) (of_decide_eq_true hq)
   have hhi:decide (((l.getD ((i+j) / 2) default).k:Rat)<=q)=false->∀ k,(i+j) / 2<=k->k<l.length->¬(((l.getD k default).k:Rat)<=q):=fun hq k hk hk2 hle=>of_decide_eq_false hq (Rat.le_trans (wkk (hs.mono hk hk2)) hle)
   clear h hs;generalize hM:(i+j) / 2=m at *;clear hM;generalize decide (((l.getD m default).k:Rat)<=q)=b at hc hlo hhi
   conv=>simp (maxSteps:=2000000) (disch:=omega) only [go_sem,Nat.reduceAdd,Nat.reduceSub,Nat.reduceMul,Int.reduceToNat,Nat.reduceEqDiff,Nat.reduceBEq,Nat.reduceBneDiff,Nat.reduceLT,Int.reduceEq,Int.reduceLT,Int.reduceLE,Int.reduceNeg,Int.reduceAdd,Int.reduceSub,Int.reduceMul,hw]
   cases b with
   | true=>
    repeat' ((first | refine hfk ?_ ?_<;>intros | refine hik ?_ | with_reducible first | refine y5m (hc) ?_ | refine vtc (hc) ?_)<;>refine hgS ?_)
    all_goals first
     | exact ⟨(m+1,j),⟨by dsimp only;omega,h2,hlo rfl,h4⟩,by dsimp only;omega,StH.same svl rfl⟩
     | (exfalso;simp_all;done)
   | false=>
    repeat' ((first | refine hfk ?_ ?_<;>intros | refine hik ?_ | with_reducible first | refine y5m (hc) ?_ | refine vtc (hc) ?_)<;>refine hgS ?_)
    all_goals first
     | exact ⟨(i,m),⟨by dsimp only;omega,by dsimp only;omega,h3,hhi rfl⟩,by dsimp only;omega,StH.same svl rfl⟩
     | (exfalso;simp_all;done)
 . have h4':∀ k,i<=k->k<l.length->¬(((l.getD k default).k:Rat)<=q):=fun k hk=>h4 k (by omega)
   have hR2:R=i:=by rw [<-hR];exact w3i (by omega) h3 (fun h=>h4' i (Nat.le_refl _) h)
   rw [hR2];refine hg ?_;by_cases hn:i<l.length
   . have hc:=h _ (zkt hn);rw [decide_eq_false (h4' i (Nat.le_refl _) hn),cond_false] at hc
     repeat' ((first | refine hfk ?_ ?_<;>intros | refine hik ?_ | with_reducible first | refine y5m (hc) ?_ | refine vtc (hc) ?_)<;>refine hgS ?_)
     all_goals (refine RLe.ofEq ?_;conv=>simp only [Bool.and_true,Bool.true_and,Bool.and_false,Bool.false_and,Bool.or_true,Bool.true_or,Bool.or_false,Bool.false_or,Bool.not_true,Bool.not_false,decide_true,decide_false,not_true_eq_false,not_false_eq_true,x9k,if_true,if_false,Bool.and_self,Bool.or_self,cond_true,cond_false,List.length_map,ne_eq,Int.reduceEq,Int.reduceLT,Int.reduceLE, *]);first | exact trivial | rfl
   . repeat' ((first | refine hfk ?_ ?_<;>intros | refine hik ?_)<;>refine hgS ?_)
     all_goals first
      | (exfalso;omega)
      | (refine RLe.ofEq ?_;conv=>simp only [Bool.and_true,Bool.true_and,Bool.and_false,Bool.false_and,Bool.or_true,Bool.true_or,Bool.or_false,Bool.false_or,Bool.not_true,Bool.not_false,decide_true,decide_false,not_true_eq_false,not_false_eq_true,x9k,if_true,if_false,Bool.and_self,Bool.or_self,cond_true,cond_false,List.length_map,ne_eq,Int.reduceEq,Int.reduceLT,Int.reduceLE, *]);first | exact trivial | rfl
theorem wy3 (t:Tb) (q:Rat) (ht:wlo (fun s=>(wrt s).2) t=true) (hq:qs q<=67108864):CallsD Γ prog 153 [.agg (tbC t),.agg (qC (some q))] (.tup [.one (cI (aft q t.rows)),.one (cB (decide (0<(aft q t.rows:Int))&&decide (cmpO (some (((t.rows.getD (aft q t.rows-1) default).k:Int):Rat)) (some q)=0)))]):=by
 obtain ⟨_,_,hl,hrows⟩:=z8a ht
 have hb:=cBin (Γ:=Γ) t.rows q 191 (by omega) hrows (fun r hr=>vfw r q (by
  obtain ⟨i,hi,rfl⟩:=List.getElem_of_mem hr
  have:=(hrows i hi).1
  rw [show t.rows.getD i default=t.rows[i] from by simp [hi]] at this
  exact this) hq)
 have hle:=z8w q t.rows;have hcr:=z3n (some (((t.rows.getD (aft q t.rows-1) default).k:Int):Rat)) (some q);by_cases h0:aft q t.rows=0
 . rw [h0] at hb ⊢;refine CallsD.run [] Go.Proofs.Tryz.func153 rfl rfl rfl ?_;simp only [Go.Proofs.Tryz.f153];refine hgR ?_
   repeat' ((first | refine hfk ?_ ?_<;>intros | refine hik ?_ | with_reducible first | refine y5m (hb) ?_ | refine vtc (hb) ?_)<;>refine hgS ?_)
   all_goals first
    | (exfalso;omega)
    | (refine RLe.ofEq ?_;conv=>simp only [Bool.and_true,Bool.true_and,Bool.and_false,Bool.false_and,Bool.or_true,Bool.true_or,Bool.or_false,Bool.false_or,Bool.not_true,Bool.not_false,decide_true,decide_false,not_true_eq_false,not_false_eq_true,x9k,if_true,if_false,Bool.and_self,Bool.or_self,cond_true,cond_false,List.length_map,ne_eq,Int.reduceEq,Int.reduceLT,Int.reduceLE, *]);first | exact trivial | rfl
 . have hk:=vdp (hrows (aft q t.rows-1) (by omega)).1
   have hin:inI (t.rows.getD (aft q t.rows-1) default).k:=by unfold inI;omega
   have hz:=wkd hin;have o1:=oInt (Γ:=Γ) (t.rows.getD (aft q t.rows-1) default).k hin;have o2:=oCmp (Γ:=Γ) (some (((t.rows.getD (aft q t.rows-1) default).k:Int):Rat)) (some q) (by omega) hq;generalize cmpO (some (((t.rows.getD (aft q t.rows-1) default).k:Int):Rat)) (some q)=c at *;generalize aft q t.rows=k at *;refine CallsD.run [] Go.Proofs.Tryz.func153 rfl rfl rfl ?_;simp only [Go.Proofs.Tryz.f153];refine hgR ?_
   repeat' ((first | refine hfk ?_ ?_<;>intros | refine hik ?_ | with_reducible first | refine y5m (hb) ?_ | refine vtc (hb) ?_ | refine y5m (o1) ?_ | refine vtc (o1) ?_ | refine y5m (o2) ?_ | refine vtc (o2) ?_)<;>refine hgS ?_)
   all_goals (refine RLe.ofEq ?_;conv=>simp only [Bool.and_true,Bool.true_and,Bool.and_false,Bool.false_and,Bool.or_true,Bool.true_or,Bool.or_false,Bool.false_or,Bool.not_true,Bool.not_false,decide_true,decide_false,not_true_eq_false,not_false_eq_true,x9k,if_true,if_false,Bool.and_self,Bool.or_self,cond_true,cond_false,List.length_map,ne_eq,Int.reduceEq,Int.reduceLT,Int.reduceLE, *]);first | exact trivial | rfl
def w8g (t:Tb) (n:Int):Option Rat:=mulO (some (n:Rat)) (facO t.unit)
theorem yi5 (t:Tb) (n:Int) (ht:wlo (fun s=>(wrt s).2) t=true) (hu:t.unit.size<=1073741824) (hn:inI n):CallsD Γ prog 154 [.agg (tbC t),.one (cI n)] (.agg (qC (w8g t n))):=by
 obtain ⟨u,h1,h2⟩:=(z8a ht).1;have hr:=w3b (Γ:=Γ) hu h1;have hz:=wkd hn;have hm:=oMul (Γ:=Γ) (some (n:Rat)) (some u.f) (by omega) (by show qs u.f<=_;omega);rw [show w8g t n=mulO (some (n:Rat)) (some u.f) by unfold w8g facO;rw [h1];rfl];refine CallsD.run [] Go.Proofs.Tryz.func154 rfl rfl rfl ?_;simp only [Go.Proofs.Tryz.f154];refine hgR ?_
 repeat' ((first | refine hfk ?_ ?_<;>intros | refine hik ?_ | with_reducible first | refine y5m (hr) ?_ | refine vtc (hr) ?_ | refine y5m (oInt n hn) ?_ | refine vtc (oInt n hn) ?_ | refine y5m (hm) ?_ | refine vtc (hm) ?_)<;>refine hgS ?_)
 all_goals (refine RLe.ofEq ?_;conv=>simp only [Bool.and_true,Bool.true_and,Bool.and_false,Bool.false_and,Bool.or_true,Bool.true_or,Bool.or_false,Bool.false_or,Bool.not_true,Bool.not_false,decide_true,decide_false,not_true_eq_false,not_false_eq_true,x9k,if_true,if_false,Bool.and_self,Bool.or_self,cond_true,cond_false,List.length_map,ne_eq,Int.reduceEq,Int.reduceLT,Int.reduceLE, *]);first | exact trivial | rfl
def z78 (t:Tb) (v:Option Rat):Option Rat×Int:=bif !wlo (fun s=>(wrt s).2) t then (none,1) else match v with
 | none=>(none,1)
 | some q=>bif decide (aft q t.rows=0) then (none,4) else (w8g t (t.rows.getD (aft q t.rows-1) default).v,0)
theorem xwq (t:Tb) (v:Option Rat) (hv:qz v<=67108864) (h1:t.name.size<=1073741824) (h2:t.unit.size<=1073741824) (h3:t.rows.length<=1073741824):CallsD Γ prog 102 [.agg (tbC t),.agg (qC v)] (qR (z78 t v).1 (z78 t v).2):=by
 have hr:=x3t (Γ:=Γ) t h1 h2 h3
 cases ht:wlo (fun s=>(wrt s).2) t with
 | false=>
  rw [ht] at hr;rw [show z78 t v=(none,1) by unfold z78;rw [ht];rfl];refine CallsD.run [] Go.Proofs.Tryz.func102 rfl rfl rfl ?_;simp only [Go.Proofs.Tryz.f102];refine hgR ?_
  repeat' ((first | refine hfk ?_ ?_<;>intros | refine hik ?_ | with_reducible first | refine y5m (hr) ?_ | refine vtc (hr) ?_)<;>refine hgS ?_)
  exact zg7
 | true=>
  rw [ht] at hr
  cases v with
  | none=>
   have hv2:CallsD Γ prog 26 [.agg (qC none)] (.one (cB false)):=vz0 none (by omega);rw [show z78 t none=(none,1) by unfold z78;rw [ht];rfl];refine CallsD.run [] Go.Proofs.Tryz.func102 rfl rfl rfl ?_;simp only [Go.Proofs.Tryz.f102];refine hgR ?_
   repeat' ((first | refine hfk ?_ ?_<;>intros | refine hik ?_ | with_reducible first | refine y5m (hr) ?_ | refine vtc (hr) ?_ | refine y5m (hv2) ?_ | refine vtc (hv2) ?_)<;>refine hgS ?_)
   exact zg7
  | some q=>
   have hv2:CallsD Γ prog 26 [.agg (qC (some q))] (.one (cB true)):=vz0 (some q) (by omega);have ha:=wy3 (Γ:=Γ) t q ht hv;have hle:=z8w q t.rows;by_cases h0:aft q t.rows=0
   . rw [show z78 t (some q)=(none,4) by unfold z78;rw [ht];simp only [Bool.not_true,cond_false,h0,decide_true,cond_true]];rw [h0] at ha;refine CallsD.run [] Go.Proofs.Tryz.func102 rfl rfl rfl ?_;simp only [Go.Proofs.Tryz.f102];refine hgR ?_
     repeat' ((first | refine hfk ?_ ?_<;>intros | refine hik ?_ | with_reducible first | refine y5m (hr) ?_ | refine vtc (hr) ?_ | refine y5m (hv2) ?_ | refine vtc (hv2) ?_ | refine y5m (ha) ?_ | refine vtc (ha) ?_)<;>refine hgS ?_)
     all_goals first
      | exact zg7
      | (exfalso;omega)
   . rw [show z78 t (some q)=(w8g t (t.rows.getD (aft q t.rows-1) default).v,0) by unfold z78;rw [ht];simp only [Bool.not_true,cond_false,decide_eq_false h0]];obtain ⟨_,_,hl,hrows⟩:=z8a ht;have hn:=vdp (hrows (aft q t.rows-1) (by omega)).2.1;have hw:=yi5 (Γ:=Γ) t (t.rows.getD (aft q t.rows-1) default).v ht h2 (by unfold inI;omega);generalize aft q t.rows=k at *;refine CallsD.run [] Go.Proofs.Tryz.func102 rfl rfl rfl ?_;simp only [Go.Proofs.Tryz.f102];refine hgR ?_
     repeat' ((first | refine hfk ?_ ?_<;>intros | refine hik ?_ | with_reducible first | refine y5m (hr) ?_ | refine vtc (hr) ?_ | refine y5m (hv2) ?_ | refine vtc (hv2) ?_ | refine y5m (ha) ?_ | refine vtc (ha) ?_ | refine y5m (hw) ?_ | refine vtc (hw) ?_)<;>refine hgS ?_)
     all_goals first
      | (exfalso;omega)
      | (refine RLe.ofEq ?_;conv=>simp only [Bool.and_true,Bool.true_and,Bool.and_false,Bool.false_and,Bool.or_true,Bool.true_or,Bool.or_false,Bool.false_or,Bool.not_true,Bool.not_false,decide_true,decide_false,not_true_eq_false,not_false_eq_true,x9k,if_true,if_false,Bool.and_self,Bool.or_self,cond_true,cond_false,List.length_map,ne_eq,Int.reduceEq,Int.reduceLT,Int.reduceLE, *]);first | exact trivial | rfl
structure Rs where
 t:Bool
 i:Bool
 v:Option Rat
deriving DecidableEq
def Rs.zero:Rs:=⟨false,false,none⟩
instance:Inhabited Rs:=⟨Rs.zero⟩
def Rs.C (x:Rs):List Cell:=cB x.t::cB x.i::qC x.v
abbrev rsC (x:Rs):List Cell:=[cB x.t,cB x.i,.raw (.int .i64 (qF x.v).s),.ints .i64 (qF x.v).L,.raw (.int .i64 (qF x.v).t),.ints .i64 (qF x.v).M]
theorem Rs.C_eq (x:Rs):x.C=rsC x:=rfl
attribute [go_sem] Rs.C_eq
abbrev rsR (r:Rs×Int):AV:=.tup [.agg (rsC r.1),.one (cI r.2)]
abbrev rsS (r:Rs×Int):SV:=.tup [.agg ((rsC r.1).map .dat),.one (.dat (cI r.2))]
abbrev rsZ (t i:Bool):List Cell:=[cB t,cB i,cI 0,.zc,cI 0,.zc]
theorem rsLe {t i:Bool}:AV.Le (.agg (rsZ t i)) (.agg (rsC ⟨t,i,none⟩)):=.agg (.cons (.refl _) (.cons (.refl _) (.cons (.refl _) (.cons (.yns _) (.cons (.refl _) (.cons (.yns _) .nil))))))
theorem rsEq {t i:Bool} {e:Int} {r:Rs×Int} (h:r=(⟨t,i,none⟩,e)):RLe (.tup [.agg (rsZ t i),.one (cI e)]) (rsR r):=by
 subst h;exact .tup (.cons rsLe (.cons (.refl _) .nil))
theorem StH.rsZ {e:List SB} {σ':List SV} {η:List SB} {t i:Bool} {n:Int} (h:StH Γ e [rsS (⟨t,i,none⟩,n)] η σ' e):StH Γ e [SV.tup [.agg ((T.rsZ t i).map .dat),.one (.dat (cI n))]] η σ' e:=
 StH.trans (StH.tup1 (l':=[.agg ((rsC ⟨t,i,none⟩).map .dat),.one (.dat (cI n))]) (.cons (.agg (.cons (.refl _) (.cons (.refl _) (.cons (.refl _) (.cons (.dat (.yns _)) (.cons (.refl _) (.cons (.dat (.yns _)) .nil))))))) (.cons (.refl _) .nil))) h
def numV (v:Option Rat) (e:Int):Rs×Int:=bif decide (¬e=0) then (Rs.zero,e) else (⟨false,false,v⟩,0)
def truV (b:Bool):Rs×Int:=(⟨true,b,none⟩,0)
def logV (o:Int) (l:List Rs):Rs×Int:=bif l.any (fun r=>!r.t) then (Rs.zero,13) else
 bif decide (o=14) then truV (l.all (·.i)) else bif decide (o=15) then truV (l.any (·.i)) else truV (!l.all (·.i))
def ariV (o:Int) (a b:Rs):Rs×Int:=bif a.t||b.t then (Rs.zero,13) else
 bif decide (o=6) then numV (addO a.v b.v) (erO a.v b.v) else
 bif decide (o=7) then numV (subO a.v b.v) (erO a.v b.v) else
 bif decide (o=8) then numV (mulO a.v b.v) (erO a.v b.v) else
 bif decide (o=9) then numV (divO a.v b.v) (divE a.v b.v) else
 bif decide (o=10) then numV (minO a.v b.v) (erO a.v b.v) else
 bif decide (o=11) then numV (maxO a.v b.v) (erO a.v b.v) else
 bif decide (o=12) then truV (decide (cmpO a.v b.v<0)) else truV (decide (cmpO a.v b.v=0))
theorem xcx (v:Option Rat) (e:Int):CallsD Γ prog 68 [.agg (qC v),.one (cI e)] (rsR (numV v e)):=by
 refine CallsD.run [] Go.Proofs.Tryz.func68 rfl rfl rfl ?_;simp only [Go.Proofs.Tryz.f68];refine hgR ?_
 repeat' ((first | refine hfk ?_ ?_<;>intros | refine hik ?_)<;>refine hgS ?_)
 all_goals first
  | exact rsEq (by ((conv=>simp only [Bool.and_true,Bool.true_and,Bool.and_false,Bool.false_and,Bool.or_true,Bool.true_or,Bool.or_false,Bool.false_or,Bool.not_true,Bool.not_false,decide_true,decide_false,not_true_eq_false,not_false_eq_true,x9k,if_true,if_false,Bool.and_self,Bool.or_self,cond_true,cond_false,List.length_map,ne_eq,Int.reduceEq,Int.reduceLT,Int.reduceLE, *,numV,Rs.zero])<;>try exact trivial))
  | (refine RLe.ofEq ?_;conv=>simp only [Bool.and_true,Bool.true_and,Bool.and_false,Bool.false_and,Bool.or_true,Bool.true_or,Bool.or_false,Bool.false_or,Bool.not_true,Bool.not_false,decide_true,decide_false,not_true_eq_false,not_false_eq_true,x9k,if_true,if_false,Bool.and_self,Bool.or_self,cond_true,cond_false,List.length_map,ne_eq,Int.reduceEq,Int.reduceLT,Int.reduceLE, *,numV]);first | exact trivial | rfl
theorem xiw (b:Bool):CallsD Γ prog 126 [.one (cB b)] (rsR (truV b)):=by
 refine CallsD.run [] Go.Proofs.Tryz.func126 rfl rfl rfl ?_;simp only [Go.Proofs.Tryz.f126];refine hgR ?_
 repeat' ((first | refine hfk ?_ ?_<;>intros | refine hik ?_)<;>refine hgS ?_)
 all_goals exact rsEq rfl
theorem vgf (o:Int) (a b:Rs) (ha:qz a.v<=67108864) (hb:qz b.v<=67108864):CallsD Γ prog 73 [.one (cI o),.agg (rsC a),.agg (rsC b)] (rsR (ariV o a b)):=by
 have hcr:=z3n a.v b.v;refine CallsD.run [] Go.Proofs.Tryz.func73 rfl rfl rfl ?_;simp only [Go.Proofs.Tryz.f73];refine hgR ?_
 repeat' ((first | refine hfk ?_ ?_<;>intros | refine hik ?_ | with_reducible first | refine y5m (oAdd _ _ ha hb) ?_ | refine vtc (oAdd _ _ ha hb) ?_ | refine y5m (oSub _ _ ha hb) ?_ | refine vtc (oSub _ _ ha hb) ?_ | refine y5m (oMul _ _ ha hb) ?_ | refine vtc (oMul _ _ ha hb) ?_ | refine y5m (oDiv _ _ ha hb) ?_ | refine vtc (oDiv _ _ ha hb) ?_ | refine y5m (oMin _ _ ha hb) ?_ | refine vtc (oMin _ _ ha hb) ?_ | refine y5m (oMax _ _ ha hb) ?_ | refine vtc (oMax _ _ ha hb) ?_ | refine y5m (oCmp _ _ ha hb) ?_ | refine vtc (oCmp _ _ ha hb) ?_ | refine y5m (xcx _ _) ?_ | refine vtc (xcx _ _) ?_ | refine y5m (xiw _) ?_ | refine vtc (xiw _) ?_)<;>refine hgS ?_)
 all_goals first
  | exact rsEq (by ((conv=>simp only [Bool.and_true,Bool.true_and,Bool.and_false,Bool.false_and,Bool.or_true,Bool.true_or,Bool.or_false,Bool.false_or,Bool.not_true,Bool.not_false,decide_true,decide_false,not_true_eq_false,not_false_eq_true,x9k,if_true,if_false,Bool.and_self,Bool.or_self,cond_true,cond_false,List.length_map,ne_eq,Int.reduceEq,Int.reduceLT,Int.reduceLE, *,ariV,Rs.zero])<;>try exact trivial))
  | (refine RLe.ofEq ?_;conv=>simp only [Bool.and_true,Bool.true_and,Bool.and_false,Bool.false_and,Bool.or_true,Bool.true_or,Bool.or_false,Bool.false_or,Bool.not_true,Bool.not_false,decide_true,decide_false,not_true_eq_false,not_false_eq_true,x9k,if_true,if_false,Bool.and_self,Bool.or_self,cond_true,cond_false,List.length_map,ne_eq,Int.reduceEq,Int.reduceLT,Int.reduceLE, *,ariV]);first | exact trivial | rfl
theorem x1g:∀ x:Ex,x.Sm->CallsD Γ prog 32 [.agg (exC x)] (.one (cB x.wqc)):=by
 refine Ex.ind (fun x ih hx=>?_);have hl:=hx.len;have hc:CallsD Γ prog 63 [.one (.sl 5 (x.args.map Ex.cells)),fN 32] (.one (cB (x.args.any Ex.wqc))):=yev x.args _ _ hl (fun y hy=>ih y hy (hx.arg y hy));refine CallsD.run [] Go.Proofs.Tryz.func32 rfl rfl rfl ?_;simp only [Go.Proofs.Tryz.f32];refine hgR ?_
 repeat' ((first | refine hfk ?_ ?_<;>intros | refine hik ?_ | with_reducible first | refine y5m (hc) ?_ | refine vtc (hc) ?_)<;>refine hgS ?_)
 all_goals refine RLe.ofEq ?_
 all_goals rw [Ex.zs3]
 all_goals ((conv=>simp only [Bool.and_true,Bool.true_and,Bool.and_false,Bool.false_and,Bool.or_true,Bool.true_or,Bool.or_false,Bool.false_or,Bool.not_true,Bool.not_false,decide_true,decide_false,not_true_eq_false,not_false_eq_true,x9k,if_true,if_false,Bool.and_self,Bool.or_self,cond_true,cond_false,List.length_map,ne_eq,Int.reduceEq,Int.reduceLT,Int.reduceLE, *])<;>try exact trivial)
end Go.Hp.T
namespace Go.Hp.T
open Go Go.RowKit Go.Slot Go.Hp
set_option maxRecDepth 10000
theorem x3y (s:ByteArray):seq s s=true:=by rw [z0d];exact decide_eq_true rfl
theorem v7z {a b:ByteArray} (h:seq a b=true):a=b:=by rw [z0d] at h;exact of_decide_eq_true h
theorem zsx {a b:ByteArray} (h:a≠b):seq a b=false:=by rw [z0d];exact decide_eq_false h
theorem wc2 {α:Type} (s:ByteArray) (v:α) (t:ByteArray):∀ l:List (ByteArray×α),y4u (updF l s v) t=bif seq t s then some v else y4u l t
 | []=>rfl
 | p::l=>by
  have ih:=wc2 s v t l;rw [updF]
  cases h:seq s p.1 with
  | true=>
   have e:s=p.1:=v7z h;rw [cond_true]
   show (bif seq t s then some v else y4u l t)=bif seq t s then some v else (bif seq t p.1 then some p.2 else y4u l t)
   rw [<-e];cases seq t s<;>rfl
  | false=>
   rw [cond_false]
   show (bif seq t p.1 then some p.2 else y4u (updF l s v) t)=bif seq t s then some v else (bif seq t p.1 then some p.2 else y4u l t)
   rw [ih]
   cases h1:seq t p.1 with
   | false=>rfl
   | true=>cases h2:seq t s with
    | false=>rfl
    | true=>
     have e1:t=p.1:=v7z h1;have e2:t=s:=v7z h2;rw [<-e1,e2,x3y] at h
     cases h
section
variable {α β:Type} (nm:β->ByteArray) (ok:β->Bool) (val:β->α) (out:ByteArray->Bool)
def gE (V:List (ByteArray×α)):List β->Option (List (ByteArray×α))
 | []=>some V
 | b::l=>bif (y4u V (nm b)).isSome||out (nm b)||!isName (nm b)||isWord (nm b)||!ok b then none else gE (updF V (nm b) (val b)) l
def fnd (l:List β) (s:ByteArray):Option β:=l.find? (fun b=>seq s (nm b))
end
section
variable {α β:Type} {nm:β->ByteArray} {ok:β->Bool} {val:β->α} {out:ByteArray->Bool}
theorem zn7 (s:ByteArray):fnd nm [] s=none:=rfl
theorem vst (b:β) (l:List β) (s:ByteArray):fnd nm (b::l) s=bif seq s (nm b) then some b else fnd nm l s:=by
 unfold fnd;rw [List.find?_cons];cases seq s (nm b)<;>rfl
theorem yl9 {l:List β} {s:ByteArray}:fnd nm l s=none↔s∉l.map nm:=by
 induction l with
 | nil=>simp [zn7]
 | cons b l ih=>
  rw [vst,List.map_cons,List.mem_cons,not_or]
  cases h:seq s (nm b) with
  | true=>rw [cond_true];exact ⟨fun h=>(by cases h),fun h2=>absurd (v7z h) h2.1⟩
  | false=>
   rw [cond_false,ih];exact ⟨fun h2=>⟨fun e=>(by rw [e,x3y] at h;cases h),h2⟩,fun h2=>h2.2⟩
theorem ybj {l:List β} {s:ByteArray} {b:β} (h:fnd nm l s=some b):b∈l/\s=nm b:=by
 unfold fnd at h;have h1:=List.find?_some h;exact ⟨List.mem_of_find?_eq_some h,v7z h1⟩
theorem wx9 {l:List β} {s:ByteArray}:(fnd nm l s).isSome=true↔s∈l.map nm:=by
 cases h:fnd nm l s with
 | none=>exact ⟨fun h=>(by cases h),fun hm=>absurd hm (yl9.1 h)⟩
 | some b=>
  have:=ybj h
  exact ⟨fun _=>(by rw [this.2];exact List.mem_map_of_mem this.1),fun _=>rfl⟩
def zdv (nm:β->ByteArray) (ok:β->Bool) (out:ByteArray->Bool) (V:List (ByteArray×α)) (b:β):Prop:=ok b=true/\isNamed (nm b)=true/\out (nm b)=false/\y4u V (nm b)=none
theorem y3t {V:List (ByteArray×α)} {b:β}:((y4u V (nm b)).isSome||out (nm b)||!isName (nm b)||isWord (nm b)||!ok b)=false↔zdv nm ok out V b:=by
 unfold zdv isNamed
 cases y4u V (nm b)<;>cases out (nm b)<;>cases isName (nm b)<;>cases isWord (nm b)<;>cases ok b<;>simp
theorem v4a:∀{l:List β} {V W:List (ByteArray×α)},gE nm ok val out V l=some W->(∀ b∈l,zdv nm ok out V b)/\(l.map nm).Nodup/\∀ s,y4u W s=(match fnd nm l s with
 | some b=>some (val b)
 | none=>y4u V s)
 | [],V,W,h=>by
  rw [gE] at h;cases h;exact ⟨fun b hb=>by (cases hb),List.nodup_nil,fun s=>rfl⟩
 | b::l,V,W,h=>by
  rw [gE] at h
  cases hc:((y4u V (nm b)).isSome||out (nm b)||!isName (nm b)||isWord (nm b)||!ok b) with
  | true=>rw [hc] at h;cases h
  | false=>
   rw [hc,cond_false] at h;have hb:=y3t.1 hc;obtain ⟨h1,h2,h3⟩:=v4a h
   have hnot:∀ c∈l,nm c≠nm b:=fun c hc' e=>by
    have:=(h1 c hc').2.2.2
    rw [e,wc2,x3y] at this
    cases this
   refine ⟨fun c hc'=>?_,?_,fun s=>?_⟩
   . rcases List.mem_cons.1 hc' with rfl | hc'
     . exact hb
     . obtain ⟨q1,q2,q3,q4⟩:=h1 c hc';rw [wc2,zsx (hnot c hc')] at q4;exact ⟨q1,q2,q3,q4⟩
   . rw [List.map_cons,List.nodup_cons];refine ⟨fun hm=>?_,h2⟩;obtain ⟨c,hc1,hc2⟩:=List.mem_map.1 hm;exact hnot c hc1 hc2
   . rw [h3 s, vst]
     cases hs:seq s (nm b) with
     | true=>
      have e:=v7z hs
      have:fnd nm l s=none:=yl9.2 (fun hm=>by
       obtain ⟨c,hc1,hc2⟩:=List.mem_map.1 hm
       exact hnot c hc1 (by rw [hc2,e]))
      rw [this];simp only [cond_true];rw [wc2,hs];rfl
     | false=>
      rw [cond_false]
      cases fnd nm l s with
      | some c=>rfl
      | none=>simp only;rw [wc2,hs];rfl
end
section
variable {α β:Type} (nm:β->ByteArray) (ok:β->Bool) (val:β->α) (tok:Tb->Bool)
def entG (bs:List β) (ms:List Tb):Option (List (ByteArray×α)×List (ByteArray×Tb)):=match gE nm ok val (fun _=>false) [] bs with
 | none=>none
 | some V=>(gE Tb.name tok id (fun s=>(y4u V s).isSome) [] ms).map fun T=>(V,T)
def xtl (l:List ByteArray):Prop:=(∀ s∈l,isNamed s=true)/\l.Nodup
instance (l:List ByteArray):Decidable (xtl l):=inferInstanceAs (Decidable (_/\_))
end
section
variable {α β:Type} {nm:β->ByteArray} {ok:β->Bool} {val:β->α} {tok:Tb->Bool}
theorem yks {bs:List β} {ms:List Tb} {V:List (ByteArray×α)} {T:List (ByteArray×Tb)} (h:entG nm ok val tok bs ms=some (V,T)) :
 (∀ b∈bs,ok b=true)/\(∀ t∈ms,tok t=true)/\xtl (bs.map nm++ms.map Tb.name)/\(∀ s,y4u V s=(fnd nm bs s).map val)/\(∀ s,y4u T s=fnd Tb.name ms s):=by
 unfold entG at h
 cases h1:gE nm ok val (fun _=>false) [] bs with
 | none=>rw [h1] at h;cases h
 | some W=>
  rw [h1] at h;simp only at h
  cases h2:gE Tb.name tok id (fun s=>(y4u W s).isSome) [] ms with
  | none=>rw [h2] at h;cases h
  | some U=>
   rw [h2] at h
   cases h;obtain ⟨a1,a2,a3⟩:=v4a h1;obtain ⟨b1,b2,b3⟩:=v4a h2
   have hV:∀ s,y4u V s=(fnd nm bs s).map val:=fun s=>by rw [a3 s];cases fnd nm bs s<;>rfl
   refine ⟨fun b hb=>(a1 b hb).1,fun t ht=>(b1 t ht).1,⟨fun s hs=>?_,?_⟩,hV,fun s=>by rw [b3 s];cases fnd Tb.name ms s<;>rfl⟩
   . rcases List.mem_append.1 hs with hs | hs
     . obtain ⟨b,hb,rfl⟩:=List.mem_map.1 hs;exact (a1 b hb).2.1
     . obtain ⟨t,ht,rfl⟩:=List.mem_map.1 hs;exact (b1 t ht).2.1
   . rw [List.nodup_append];refine ⟨a2,b2,fun x hx y hy e=>?_⟩;subst e;obtain ⟨t,ht,rfl⟩:=List.mem_map.1 hy
     have:=(b1 t ht).2.2.1
     simp only [hV,Option.isSome_map] at this;rw [wx9.2 hx] at this
     cases this
end
end Go.Hp.T
