import Derived.Test.YtpkininnjhbeaaaGreatDoorY30
import Derived.Test.YtpkininnjhbeaaaGreatDoorY28
namespace Go.Hp.T
open Go Go.RowKit Go.Slot Go.Hp Go.Slot.T
open Go.Proofs.Tryz (prog)
set_option maxRecDepth 10000
set_option maxHeartbeats 0
variable {Γ:List (Nat×List Cell)}
variable {l:List Rw}
theorem yx5:∀(l:List It) (u v:Un),xx0 l u=some v->(∀ x∈l,x.ok)->qs v.f<=qs u.f+100*l.length
 | [],u,v,h,_=>by rw [xx0] at h;cases h;omega
 | x::l,u,v,h,hx=>by
  rw [xx0] at h;split at h
  . cases h
  . rename_i w hw;have h1:=yx5 l _ _ h (fun y hy=>hx y (by simp [hy]));obtain ⟨_,h2,_⟩:=xie hw;obtain ⟨_,_,h3,h4⟩:=hx x (by simp)
    have hq:qs (vhc u.f w.f x.e)<=qs u.f+9*(qs w.f+1):=by
     have:=zcy u.f w.f x.e x.e.natAbs
     rw [<-zvw] at this;have h9:x.e.natAbs*(qs w.f+1)<=9*(qs w.f+1):=Nat.mul_le_mul_right _ (by omega);omega
    simp only at h1;rw [List.length_cons];omega
theorem veq (s:ByteArray):(∃ u,xx7 s=(some u,0)/\qs u.f<=4200)\/(∃ e,e≠0/\xx7 s=(none,e)):=by
 unfold xx7
 split
 . exact .inr ⟨12,by decide,rfl⟩
 . rename_i l hl
   split
   . exact .inr ⟨11,by decide,rfl⟩
   . rename_i u hu
     cases hd:ytl u.d with
     | false=>exact .inr ⟨3,by decide,rfl⟩
     | true=>
      refine .inl ⟨u,rfl,?_⟩;have h1:=v7b hl;have h2:=yx5 _ _ _ hu h1.2
      have:=vvp
      simp only at h2;omega
def facO (s:ByteArray):Option Rat:=(xx7 s).1.map (·.f)
theorem xne (s:ByteArray):qz (facO s)<=4200:=by
 unfold facO
 rcases veq s with ⟨u,h,hq⟩ | ⟨e,_,h⟩
 . rw [h];exact hq
 . rw [h];exact Nat.zero_le _
def aft (q:Rat):List Rw->Nat
 | []=>0
 | r::l=>bif decide ((r.k:Rat)<=q) then aft q l+1 else 0
theorem y5e {q:Rat}:∀{l:List Rw} {i:Nat},i<=l.length->(∀ j,j<i->(((l.getD j default).k:Rat)<=q))->(i<l.length->¬(((l.getD i default).k:Rat)<=q))->aft q l=i
 | [],i,hi,_,_=>by simp at hi;subst hi;rfl
 | x::l,0,_,_,h=>by
  have h':¬(x.k:Rat)<=q:=h (by simp);unfold aft;rw [decide_eq_false h'];rfl
 | x::l,i+1,hi,hj,h=>by
  have h0:(x.k:Rat)<=q:=hj 0 (by omega)
  have:=y5e (l:=l) (i:=i) (by simpa using hi) (fun j hj'=>by simpa using hj (j+1) (by omega)) (fun h'=>by simpa using h (by simpa using h'))
  unfold aft;rw [decide_eq_true h0,this];rfl
theorem wrt (q:Rat):∀ l:List Rw,aft q l<=l.length
 | []=>Nat.le_refl _
 | x::l=>by
  have:=wrt q l
  unfold aft
  cases decide ((x.k:Rat)<=q) with
  | true=>rw [cond_true,List.length_cons];omega
  | false=>rw [cond_false];omega
def Rows (l:List Rw):Prop:=∀ i,i<l.length->inT (l.getD i default).k=true/\inT (l.getD i default).v=true/\(0<i->(l.getD (i-1) default).k<(l.getD i default).k)
theorem zr8 {n:Int} (h:inT n=true):-1099511627776<=n/\n<=1099511627776:=by
 unfold inT at h;simpa using h
theorem w8x (h:wzj l=true):Rows l:=fun i hi=>by
 have:=List.all_eq_true.1 h i (List.mem_range.2 hi)
 unfold rowAt at this;simp only [Bool.and_eq_true,Bool.not_eq_true',Bool.and_eq_false_iff,decide_eq_false_iff_not] at this;exact ⟨this.1.1,this.1.2,fun h0=>by rcases this.2 with h | h<;>omega⟩
theorem Rows.mono (h:Rows l):∀{i j:Nat},i<=j->j<l.length->(l.getD i default).k<=(l.getD j default).k:=by
 intro i j hij
 induction j with
 | zero => intro _; have : i = 0 := by omega
           subst this;exact Int.le_refl _
 | succ j ih=>
  intro hj
  rcases Nat.lt_or_eq_of_le hij with h1 | h1
  . have h2:=ih (by omega) (by omega);have h3:=(h (j+1) hj).2.2 (by omega);rw [Nat.add_sub_cancel] at h3;omega
  . subst h1;exact Int.le_refl _
theorem z8y {a b:Int} (h:a<=b):(a:Rat)<=(b:Rat):=Rat.intCast_le_intCast.2 h
theorem yg5 {t:Tb} (h:vgr (fun s=>(xx7 s).2) t=true):(∃ u,xx7 t.unit=(some u,0)/\qs u.f<=4200)/\isName t.name=true/\t.rows.length<=100/\Rows t.rows:=by
 unfold vgr at h;simp only [Bool.and_eq_true,Bool.not_eq_true',decide_eq_false_iff_not,Classical.not_not] at h;obtain ⟨⟨⟨h1,h2⟩,h3⟩,h4⟩:=h;refine ⟨?_,h2,by omega,w8x h4⟩
 rcases veq t.unit with h | ⟨e,he,h⟩
 . exact h
 . rw [h] at h1;exact absurd h1 he
theorem xhd {k:Int} {q:Rat}:decide (cmpO (some (k:Rat)) (some q)<=0)=decide ((k:Rat)<=q):=by
 apply decide_eq_decide.2;show Fc.ordQ _ _<=0↔_
 rcases Fc.yyv (k:Rat) q with ⟨h,e⟩ | ⟨h,e⟩ | ⟨h,e⟩<;>rw [e]
 . exact ⟨fun _=>Rat.le_of_lt h,fun _=>by decide⟩
 . rw [h];exact ⟨fun _=>Rat.le_refl,fun _=>by decide⟩
 . exact ⟨fun h'=>absurd h' (by decide),fun h'=>absurd h' (Rat.not_le.2 h)⟩
theorem zpx (r:Rw) (q:Rat) (hr:inT r.k=true) (hq:qs q<=67108864):CallsD Γ prog 239 [.agg (rwC r),.agg (qC (some q))] (.one (cI (bif decide ((r.k:Rat)<=q) then -1 else 1))):=by
 have hk:=zr8 hr
 have hin:inI r.k:=by unfold inI;omega
 have h1:=oInt (Γ:=Γ) r.k hin;have hz:=x10 hin;have h2:=oCmp (Γ:=Γ) (some (r.k:Rat)) (some q) (by omega) hq;rw [<-xhd];have hcr:=yt8 (some (r.k:Rat)) (some q);generalize cmpO (some (r.k:Rat)) (some q)=c at *;refine CallsD.run [] Go.Proofs.Tryz.func239 rfl rfl rfl ?_;simp only [Go.Proofs.Tryz.f239];refine hgR ?_
 repeat' ((first | refine hfk ?_ ?_<;>intros | refine hik ?_ | with_reducible first | refine hcA ?_ | refine hcB ?_)<;>refine hgS ?_)
 all_goals refine lfE ?_;first | exact trivial | rfl
theorem ykx {i j:Nat} (h:i+j<=4611686018427387904):IntKind.i64.wrap (ishr .u64 ((i:Int)+j) 1)=(((i+j) / 2:Nat):Int):=by
 have e:ishr .u64 ((i:Int)+j) 1=((i:Int)+j) / 2:=by
  unfold ishr;rw [show (min (1:Int).toNat IntKind.u64.bits)=1 by decide];rw [Int.fdiv_eq_ediv_of_nonneg _ (by decide)];rfl
 rw [e,w64 (by omega)];omega
abbrev unQ (u:Un):List Cell:=[cI u.d.a,cI u.d.b,cI u.d.c,cI u.d.d,cI u.d.e,cI u.d.f,.raw (.int .i64 (qF (some u.f)).s),.ints .i64 (qF (some u.f)).L,.raw (.int .i64 (qF (some u.f)).t),.ints .i64 (qF (some u.f)).M]
theorem xyv {s:ByteArray} {u:Un} (hs:s.size<=1073741824) (h:xx7 s=(some u,0)):CallsD Γ prog 104 [.one (cS s)] (.tup [.agg (unQ u),.one (cI 0)]):=by
 have hr:=xmw (Γ:=Γ) s hs;rw [h] at hr;exact hr
theorem cBin (l:List Rw) (q:Rat) (f:FuncId) (hl:l.length<=1073741824) (hs:Rows l)
 (h:∀ r∈l,CallsD Γ prog f [.agg (rwC r),.agg (qC (some q))] (.one (cI (bif decide ((r.k:Rat)<=q) then -1 else 1)))) :
 CallsD Γ prog 238 [.one (.sl 2 (l.map Rw.C)),.agg (qC (some q)),fN f] (.tup [.one (cI (aft q l)),.one (cB false)]):=by
 generalize hR:aft q l=R;refine CallsD.run [] Go.Proofs.Tryz.func238 rfl rfl rfl ?_;simp only [Go.Proofs.Tryz.f238];refine hgR ?_;refine x20 [0,2,4,8] (fun p:Nat×Nat=>[(9,.one (.dat (cI p.1))),(10,.one (.dat (cI p.2)))]) (fun _=>[.box ((qC (some q)).map .dat) (some 33)])
  (fun p=>p.1<=p.2/\p.2<=l.length/\(∀ j,j<p.1->(((l.getD j default).k:Rat)<=q))/\(∀ j,p.2<=j->j<l.length->¬(((l.getD j default).k:Rat)<=q))) (fun p=>p.2-p.1) (0,l.length) ⟨Nat.zero_le _,Nat.le_refl _,fun j hj=>by omega,fun j h1 h2=>by omega⟩ ?_ ?_
 . refine hg ?_;exact StH.same svl rfl
 rintro ⟨i,j⟩ ⟨h1,h2,h3,h4⟩;simp only at h1 h2 h3 h4;refine hg ?_;refine vt2 (fun hlt _=>?_) (fun hlt _=>?_)
 . have hw:=ykx (i:=i) (j:=j) (by omega)
   have hm:(i+j) / 2<l.length:=by omega
   have hmi:i<=(i+j) / 2:=by omega
   have hmj:(i+j) / 2<j:=by omega
   have hc:=h _ (y7p hm)
   have hlo:decide (((l.getD ((i+j) / 2) default).k:Rat)<=q)=true->∀ k,k<(i+j) / 2+1->(((l.getD k default).k:Rat)<=q):=fun hq k hk=>Rat.le_trans (z8y (hs.mono (by omega) hm)) (of_decide_eq_true hq)
   have hhi:decide (((l.getD ((i+j) / 2) default).k:Rat)<=q)=false->∀ k,(i+j) / 2<=k->k<l.length->¬(((l.getD k default).k:Rat)<=q):=fun hq k hk hk2 hle=>of_decide_eq_false hq (Rat.le_trans (z8y (hs.mono hk hk2)) hle)
   clear h hs;generalize hM:(i+j) / 2=m at *;clear hM;generalize decide (((l.getD m default).k:Rat)<=q)=b at hc hlo hhi;refine hg1 @hw ?_
   cases b with
   | true=>
    repeat' ((first | refine hfk ?_ ?_<;>intros | refine hik ?_ | with_reducible first | refine hcA ?_ | refine hcB ?_)<;>refine hgS ?_)
    all_goals first
     | exact ⟨(m+1,j),⟨by dsimp only;omega,h2,hlo rfl,h4⟩,by dsimp only;omega,StH.same svl rfl⟩
     | (exfalso;simp_all;done)
   | false=>
    repeat' ((first | refine hfk ?_ ?_<;>intros | refine hik ?_ | with_reducible first | refine hcA ?_ | refine hcB ?_)<;>refine hgS ?_)
    all_goals first
     | exact ⟨(i,m),⟨by dsimp only;omega,by dsimp only;omega,h3,hhi rfl⟩,by dsimp only;omega,StH.same svl rfl⟩
     | (exfalso;simp_all;done)
 . have h4':∀ k,i<=k->k<l.length->¬(((l.getD k default).k:Rat)<=q):=fun k hk=>h4 k (by omega)
   have hR2:R=i:=by rw [<-hR];exact y5e (by omega) h3 (fun h=>h4' i (Nat.le_refl _) h)
   rw [hR2];refine hg ?_;by_cases hn:i<l.length
   . have hc:=h _ (y7p hn);rw [decide_eq_false (h4' i (Nat.le_refl _) hn),cond_false] at hc
     repeat' ((first | refine hfk ?_ ?_<;>intros | refine hik ?_ | with_reducible first | refine hcA ?_ | refine hcB ?_)<;>refine hgS ?_)
     all_goals refine lfE ?_;first | exact trivial | rfl
   . repeat' ((first | refine hfk ?_ ?_<;>intros | refine hik ?_)<;>refine hgS ?_)
     all_goals first
      | (exfalso;omega)
      | refine lfE ?_;first | exact trivial | rfl
theorem wps (t:Tb) (q:Rat) (ht:vgr (fun s=>(xx7 s).2) t=true) (hq:qs q<=67108864):CallsD Γ prog 203 [.agg (tbC t),.agg (qC (some q))] (.tup [.one (cI (aft q t.rows)),.one (cB (decide (0<(aft q t.rows:Int))&&decide (cmpO (some (((t.rows.getD (aft q t.rows-1) default).k:Int):Rat)) (some q)=0)))]):=by
 obtain ⟨_,_,hl,hrows⟩:=yg5 ht
 have hb:=cBin (Γ:=Γ) t.rows q 239 (by omega) hrows (fun r hr=>zpx r q (by
  obtain ⟨i,hi,rfl⟩:=List.getElem_of_mem hr
  have:=(hrows i hi).1
  rw [show t.rows.getD i default=t.rows[i] from by simp [hi]] at this
  exact this) hq)
 have hle:=wrt q t.rows;have hcr:=yt8 (some (((t.rows.getD (aft q t.rows-1) default).k:Int):Rat)) (some q);by_cases h0:aft q t.rows=0
 . rw [h0] at hb ⊢;refine CallsD.run [] Go.Proofs.Tryz.func203 rfl rfl rfl ?_;simp only [Go.Proofs.Tryz.f203];refine hgR ?_
   repeat' ((first | refine hfk ?_ ?_<;>intros | refine hik ?_ | with_reducible first | refine hcA ?_ | refine hcB ?_)<;>refine hgS ?_)
   all_goals first
    | (exfalso;omega)
    | refine lfE ?_;first | exact trivial | rfl
 . have hk:=zr8 (hrows (aft q t.rows-1) (by omega)).1
   have hin:inI (t.rows.getD (aft q t.rows-1) default).k:=by unfold inI;omega
   have hz:=x10 hin;have o1:=oInt (Γ:=Γ) (t.rows.getD (aft q t.rows-1) default).k hin;have o2:=oCmp (Γ:=Γ) (some (((t.rows.getD (aft q t.rows-1) default).k:Int):Rat)) (some q) (by omega) hq;generalize cmpO (some (((t.rows.getD (aft q t.rows-1) default).k:Int):Rat)) (some q)=c at *;generalize aft q t.rows=k at *;refine CallsD.run [] Go.Proofs.Tryz.func203 rfl rfl rfl ?_;simp only [Go.Proofs.Tryz.f203];refine hgR ?_
   repeat' ((first | refine hfk ?_ ?_<;>intros | refine hik ?_ | with_reducible first | refine hcA ?_ | refine hcB ?_)<;>refine hgS ?_)
   all_goals refine lfE ?_;first | exact trivial | rfl
def zfd (t:Tb) (n:Int):Option Rat:=mulO (some (n:Rat)) (facO t.unit)
theorem xg9 (t:Tb) (n:Int) (ht:vgr (fun s=>(xx7 s).2) t=true) (hu:t.unit.size<=1073741824) (hn:inI n):CallsD Γ prog 204 [.agg (tbC t),.one (cI n)] (.agg (qC (zfd t n))):=by
 obtain ⟨u,h1,h2⟩:=(yg5 ht).1;have hr:=xyv (Γ:=Γ) hu h1;have hz:=x10 hn;have hm:=oMul (Γ:=Γ) (some (n:Rat)) (some u.f) (by omega) (by show qs u.f<=_;omega);rw [show zfd t n=mulO (some (n:Rat)) (some u.f) by unfold zfd facO;rw [h1];rfl];refine CallsD.run [] Go.Proofs.Tryz.func204 rfl rfl rfl ?_;simp only [Go.Proofs.Tryz.f204];refine hgR ?_
 repeat' ((first | refine hfk ?_ ?_<;>intros | refine hik ?_ | with_reducible first | refine hcA ?_ | refine hcB ?_ | refine wml (oInt n hn) ?_ | refine ysj (oInt n hn) ?_)<;>refine hgS ?_)
 all_goals refine lfE ?_;first | exact trivial | rfl
def xwc (t:Tb) (v:Option Rat):Option Rat×Int:=bif !vgr (fun s=>(xx7 s).2) t then (none,1) else match v with
 | none=>(none,1)
 | some q=>bif decide (aft q t.rows=0) then (none,4) else (zfd t (t.rows.getD (aft q t.rows-1) default).v,0)
theorem vud (t:Tb) (v:Option Rat) (hv:qz v<=67108864) (h1:t.name.size<=1073741824) (h2:t.unit.size<=1073741824) (h3:t.rows.length<=1073741824):CallsD Γ prog 147 [.agg (tbC t),.agg (qC v)] (qR (xwc t v).1 (xwc t v).2):=by
 have hr:=w8d (Γ:=Γ) t h1 h2 h3
 cases ht:vgr (fun s=>(xx7 s).2) t with
 | false=>
  rw [ht] at hr;rw [show xwc t v=(none,1) by unfold xwc;rw [ht];rfl];refine CallsD.run [] Go.Proofs.Tryz.func147 rfl rfl rfl ?_;simp only [Go.Proofs.Tryz.f147];refine hgR ?_
  repeat' ((first | refine hfk ?_ ?_<;>intros | refine hik ?_ | with_reducible first | refine hcA ?_ | refine hcB ?_)<;>refine hgS ?_)
  exact zcz
 | true=>
  rw [ht] at hr
  cases v with
  | none=>
   have hv2:CallsD Γ prog 19 [.agg (qC none)] (.one (cB false)):=w7o none (by omega);rw [show xwc t none=(none,1) by unfold xwc;rw [ht];rfl];refine CallsD.run [] Go.Proofs.Tryz.func147 rfl rfl rfl ?_;simp only [Go.Proofs.Tryz.f147];refine hgR ?_
   repeat' ((first | refine hfk ?_ ?_<;>intros | refine hik ?_ | with_reducible first | refine hcA ?_ | refine hcB ?_)<;>refine hgS ?_)
   exact zcz
  | some q=>
   have hv2:CallsD Γ prog 19 [.agg (qC (some q))] (.one (cB true)):=w7o (some q) (by omega);have ha:=wps (Γ:=Γ) t q ht hv;have hle:=wrt q t.rows;by_cases h0:aft q t.rows=0
   . rw [show xwc t (some q)=(none,4) by unfold xwc;rw [ht];simp only [Bool.not_true,cond_false,h0,decide_true,cond_true]];rw [h0] at ha;refine CallsD.run [] Go.Proofs.Tryz.func147 rfl rfl rfl ?_;simp only [Go.Proofs.Tryz.f147];refine hgR ?_
     repeat' ((first | refine hfk ?_ ?_<;>intros | refine hik ?_ | with_reducible first | refine hcA ?_ | refine hcB ?_)<;>refine hgS ?_)
     all_goals first
      | exact zcz
      | (exfalso;omega)
   . rw [show xwc t (some q)=(zfd t (t.rows.getD (aft q t.rows-1) default).v,0) by unfold xwc;rw [ht];simp only [Bool.not_true,cond_false,decide_eq_false h0]];obtain ⟨_,_,hl,hrows⟩:=yg5 ht;have hn:=zr8 (hrows (aft q t.rows-1) (by omega)).2.1;have hw:=xg9 (Γ:=Γ) t (t.rows.getD (aft q t.rows-1) default).v ht h2 (by unfold inI;omega);generalize aft q t.rows=k at *;refine CallsD.run [] Go.Proofs.Tryz.func147 rfl rfl rfl ?_;simp only [Go.Proofs.Tryz.f147];refine hgR ?_
     repeat' ((first | refine hfk ?_ ?_<;>intros | refine hik ?_ | with_reducible first | refine hcA ?_ | refine hcB ?_)<;>refine hgS ?_)
     all_goals first
      | (exfalso;omega)
      | refine lfE ?_;first | exact trivial | rfl
end Go.Hp.T
namespace Go.Hp
open Go Go.RowKit Go.Slot
variable {P:Program} {Γ:List (Nat×List Cell)} {e:List SB}
variable {J:List SB}
theorem xpp.ro (φ:List Nat) {f:FuncId} {ηs:List SB} {args:List SV} {res:SV} (h:xpp Γ P f ηs args ηs res) (hs:∀ r,ηs.map (rnSB r)=ηs) (hn:φ.Nodup) (hb:(φ.all fun j=>Nat.blt j J.length)=true) (hp:φ.map (fun j=>J[j]?)=ηs.map some) :
 xpp Γ P f J (args.map (v3y (atR φ J.length))) J (rnSV (atR φ J.length) res):=by
 have hfix:∀(r:Nat->Nat) (x:SB),x∈ηs->rnSB r x=x:=fun r x hx=>by
  obtain ⟨i,hi,rfl⟩:=List.getElem_of_mem hx
  have:=congrArg (fun l=>l[i]?) (hs r)
  simp only [List.getElem?_map,List.getElem?_eq_getElem hi,Option.map_some] at this;exact Option.some.inj this
 have hb':∀ j∈φ,j<J.length:=fun j hj=>by simpa using List.all_eq_true.1 hb j hj
 have hp':φ.map (fun j=>J[j]?)=ηs.map (fun x=>some (rnSB (atR φ J.length) x)):=by
  rw [hp];exact List.map_congr_left (fun x hx=>by rw [hfix _ x hx])
 have hk:=xgt.of hp';have hc:=xpp.frame hn hb' hk (by rw [hk.1];exact Nat.le_refl _) h
 have hput:putR φ J ηs=J:=by
  apply List.ext_getElem?;intro i;by_cases hi2:i<J.length
  . by_cases hi:i∈φ
    . obtain ⟨k,hk2,rfl⟩:=List.getElem_of_mem hi
      have hkl:k<ηs.length:=by rw [hk.1];exact hk2
      have h1:=xje (ηs':=ηs) hn hb' (List.getElem?_eq_getElem hkl);rw [zj8 (List.getElem?_eq_getElem hk2),hfix _ _ (List.getElem_mem hkl)] at h1;rw [h1];have h2:=congrArg (fun l=>l[k]?) hp;simp only [List.getElem?_map,List.getElem?_eq_getElem hk2,List.getElem?_eq_getElem hkl,Option.map_some] at h2;exact (Option.some.inj h2).symm
    . exact zn3 hi2 hi
  . rw [List.getElem?_eq_none (by rw [wb2,hk.1];omega),List.getElem?_eq_none (by omega)]
 rw [hput] at hc;exact hc
theorem StH.tup1 {l l':List SV} (h:zt4 l l'):StH Γ e [.tup l] J [.tup l'] J:=fun E ρ a w hE hR=>⟨ρ,hR.hd,hR.hs,fun i x hi=>by
 cases i with
 | zero=>
  simp only [List.getElem?_cons_zero,Option.some.injEq] at hi;subst hi;obtain ⟨vs,hv,hr⟩:=hR.slot 0 (.tup l) rfl;exact ⟨vs,hv,SRL.le h hr⟩
 | succ i=>simp at hi,hR.went⟩
theorem ydm {a b:Nat}:Nat.blt a b=decide (a<b):=by
 by_cases h:a<b
 . rw [decide_eq_true h];simpa using h
 . rw [decide_eq_false h]
   cases hh:Nat.blt a b with
   | false=>rfl
   | true=>exact absurd (by simpa using hh) h
end Go.Hp
namespace Go.Hp.T
open Go Go.RowKit Go.Slot Go.Hp Go.Slot.T
open Go.Proofs.Tryz (prog)
set_option maxRecDepth 10000
set_option maxHeartbeats 0
variable {Γ:List (Nat×List Cell)}
theorem x2c {J:List SB} {h1 h2:HC}:StH Γ [] [SV.tup [.agg [h1,h2],.one (.dat (cB false))]] J [SV.tup [.agg [.any,.any],.one (.dat (cB false))]] []:=
 StH.trans (StH.tup1 (l':=[.agg [.any,.any],.one (.dat (cB false))]) (.cons (.agg (.cons (.any _) (.cons (.any _) .nil))) (.cons (.refl _) .nil))) (by
  have:=StH.cutB (Γ:=Γ) (e:=[]) (I:=[SV.tup [.agg [.any,.any],.one (.dat (cB false))]]) (J:=J) 0 (Nat.le_refl _) (by unfold yyj;rfl)
  exact this)
theorem ynq (l:List HC) (T:Option TypeId):vb5 (.box l T)=l.flatMap vax:=rfl
theorem vwr (c:Cell) (k:Nat) (T:Option TypeId):vb5 (.arr c k T)=[]:=rfl
theorem z2y:vb5 .dead=[]:=rfl
attribute [go_sem] yyj wj3 vax ynq vwr z2y ydm List.flatMap_cons List.flatMap_nil List.all_append
structure Tb.Sm (t:Tb):Prop where
 n:t.name.size<=1073741824
 u:t.unit.size<=1073741824
 r:t.rows.length<=1073741824
end Go.Hp.T
namespace Go.Hp.T
open Go Go.RowKit Go.Slot Go.Hp Go.Slot.T
open Go.Proofs.Tryz (prog)
set_option maxRecDepth 10000
set_option maxHeartbeats 0
variable {Γ:List (Nat×List Cell)}
variable {t i:Bool}
structure Rs where
 t:Bool
 i:Bool
 v:Option Rat
deriving DecidableEq
def Rs.zero:Rs:=⟨false,false,none⟩
instance:Inhabited Rs:=⟨Rs.zero⟩
def Rs.C (x:Rs):List Cell:=cB x.t::cB x.i::qC x.v
abbrev rsC (x:Rs):List Cell:=[cB x.t,cB x.i,.raw (.int .i64 (qF x.v).s),.ints .i64 (qF x.v).L,.raw (.int .i64 (qF x.v).t),.ints .i64 (qF x.v).M]
theorem Rs.C_eq (x:Rs):x.C=rsC x:=rfl
attribute [go_sem] Rs.C_eq
abbrev rsR (r:Rs×Int):AV:=.tup [.agg (rsC r.1),.one (cI r.2)]
abbrev rsS (r:Rs×Int):SV:=.tup [.agg ((rsC r.1).map .dat),.one (.dat (cI r.2))]
abbrev rsZ (t i:Bool):List Cell:=[cB t,cB i,cI 0,.zc,cI 0,.zc]
theorem rsLe:AV.Le (.agg (rsZ t i)) (.agg (rsC ⟨t,i,none⟩)):=.agg (.cons (.refl _) (.cons (.refl _) (.cons (.refl _) (.cons (.zuc _) (.cons (.refl _) (.cons (.zuc _) .nil))))))
theorem rsEq {e:Int} {r:Rs×Int} (h:r=(⟨t,i,none⟩,e)):RLe (.tup [.agg (rsZ t i),.one (cI e)]) (rsR r):=by
 subst h;exact .tup (.cons rsLe (.cons (.refl _) .nil))
theorem StH.rsZ {e:List SB} {I':List SV} {J:List SB} {t i:Bool} {n:Int} (h:StH Γ e [rsS (⟨t,i,none⟩,n)] J I' e):StH Γ e [SV.tup [.agg ((T.rsZ t i).map .dat),.one (.dat (cI n))]] J I' e:=
 StH.trans (StH.tup1 (l':=[.agg ((rsC ⟨t,i,none⟩).map .dat),.one (.dat (cI n))]) (.cons (.agg (.cons (.refl _) (.cons (.refl _) (.cons (.refl _) (.cons (.dat (.zuc _)) (.cons (.refl _) (.cons (.dat (.zuc _)) .nil))))))) (.cons (.refl _) .nil))) h
def numV (v:Option Rat) (e:Int):Rs×Int:=bif decide (¬e=0) then (Rs.zero,e) else (⟨false,false,v⟩,0)
def truV (b:Bool):Rs×Int:=(⟨true,b,none⟩,0)
def logV (o:Int) (l:List Rs):Rs×Int:=bif l.any (fun r=>!r.t) then (Rs.zero,13) else
 bif decide (o=14) then truV (l.all (·.i)) else bif decide (o=15) then truV (l.any (·.i)) else truV (!l.all (·.i))
def ariV (o:Int) (a b:Rs):Rs×Int:=bif a.t||b.t then (Rs.zero,13) else
 bif decide (o=6) then numV (addO a.v b.v) (erO a.v b.v) else
 bif decide (o=7) then numV (subO a.v b.v) (erO a.v b.v) else
 bif decide (o=8) then numV (mulO a.v b.v) (erO a.v b.v) else
 bif decide (o=9) then numV (divO a.v b.v) (divE a.v b.v) else
 bif decide (o=10) then numV (minO a.v b.v) (erO a.v b.v) else
 bif decide (o=11) then numV (maxO a.v b.v) (erO a.v b.v) else
 bif decide (o=12) then truV (decide (cmpO a.v b.v<0)) else truV (decide (cmpO a.v b.v=0))
theorem x7x (v:Option Rat) (e:Int):CallsD Γ prog 105 [.agg (qC v),.one (cI e)] (rsR (numV v e)):=by
 refine CallsD.run [] Go.Proofs.Tryz.func105 rfl rfl rfl ?_;simp only [Go.Proofs.Tryz.f105];refine hgR ?_
 repeat' ((first | refine hfk ?_ ?_<;>intros | refine hik ?_)<;>refine hgS ?_)
 all_goals first
  | exact rsEq (by (refine bs2 @numV.eq_def @Rs.zero.eq_def ?_;try exact trivial))
  | refine lf1 @numV.eq_def ?_;first | exact trivial | rfl
theorem wl0 (b:Bool):CallsD Γ prog 161 [.one (cB b)] (rsR (truV b)):=by
 refine CallsD.run [] Go.Proofs.Tryz.func161 rfl rfl rfl ?_;simp only [Go.Proofs.Tryz.f161];refine hgR ?_
 repeat' ((first | refine hfk ?_ ?_<;>intros | refine hik ?_)<;>refine hgS ?_)
 all_goals exact rsEq rfl
theorem yd6 (o:Int) (a b:Rs) (ha:qz a.v<=67108864) (hb:qz b.v<=67108864):CallsD Γ prog 109 [.one (cI o),.agg (rsC a),.agg (rsC b)] (rsR (ariV o a b)):=by
 have hcr:=yt8 a.v b.v;refine CallsD.run [] Go.Proofs.Tryz.func109 rfl rfl rfl ?_;simp only [Go.Proofs.Tryz.f109];refine hgR ?_
 repeat' ((first | refine hfk ?_ ?_<;>intros | refine hik ?_ | with_reducible first | refine wml (oAdd _ _ ha hb) ?_ | refine ysj (oAdd _ _ ha hb) ?_ | refine wml (oSub _ _ ha hb) ?_ | refine ysj (oSub _ _ ha hb) ?_ | refine wml (oMul _ _ ha hb) ?_ | refine ysj (oMul _ _ ha hb) ?_ | refine wml (oDiv _ _ ha hb) ?_ | refine ysj (oDiv _ _ ha hb) ?_ | refine wml (oMin _ _ ha hb) ?_ | refine ysj (oMin _ _ ha hb) ?_ | refine wml (oMax _ _ ha hb) ?_ | refine ysj (oMax _ _ ha hb) ?_ | refine wml (oCmp _ _ ha hb) ?_ | refine ysj (oCmp _ _ ha hb) ?_ | refine wml (x7x _ _) ?_ | refine ysj (x7x _ _) ?_ | refine wml (wl0 _) ?_ | refine ysj (wl0 _) ?_)<;>refine hgS ?_)
 all_goals first
  | exact rsEq (by (refine bs2 @ariV.eq_def @Rs.zero.eq_def ?_;try exact trivial))
  | refine lf1 @ariV.eq_def ?_;first | exact trivial | rfl
theorem xny:∀ x:Ex,x.Sm->CallsD Γ prog 57 [.agg (exC x)] (.one (cB x.wqm)):=by
 refine Ex.ind (fun x ih hx=>?_);have hl:=hx.len;have hc:CallsD Γ prog 77 [.one (.sl 5 (x.args.map Ex.cells)),fN 57] (.one (cB (x.args.any Ex.wqm))):=vps x.args _ _ hl (fun y hy=>ih y hy (hx.arg y hy));refine CallsD.run [] Go.Proofs.Tryz.func57 rfl rfl rfl ?_;simp only [Go.Proofs.Tryz.f57];refine hgR ?_
 repeat' ((first | refine hfk ?_ ?_<;>intros | refine hik ?_ | with_reducible first | refine hcA ?_ | refine hcB ?_)<;>refine hgS ?_)
 all_goals refine RLe.ofEq ?_
 all_goals rw [Ex.xrx]
 all_goals (refine bsE ?_;try exact trivial)
end Go.Hp.T
namespace Go.Hp.T
open Go Go.RowKit Go.Slot Go.Hp
set_option maxRecDepth 10000
variable {a b:ByteArray} {ms:List Tb}
theorem zfk (s:ByteArray):seq s s=true:=by rw [xww];exact decide_eq_true rfl
theorem vyd (h:seq a b=true):a=b:=by rw [xww] at h;exact of_decide_eq_true h
theorem x2w (h:a≠b):seq a b=false:=by rw [xww];exact decide_eq_false h
theorem ztq {α:Type} (s:ByteArray) (v:α) (t:ByteArray):∀ l:List (ByteArray×α),z2f (updF l s v) t=bif seq t s then some v else z2f l t
 | []=>rfl
 | p::l=>by
  have ih:=ztq s v t l;rw [updF]
  cases h:seq s p.1 with
  | true=>
   have e:s=p.1:=vyd h;rw [cond_true]
   show (bif seq t s then some v else z2f l t)=bif seq t s then some v else (bif seq t p.1 then some p.2 else z2f l t)
   rw [<-e];cases seq t s<;>rfl
  | false=>
   rw [cond_false]
   show (bif seq t p.1 then some p.2 else z2f (updF l s v) t)=bif seq t s then some v else (bif seq t p.1 then some p.2 else z2f l t)
   rw [ih]
   cases h1:seq t p.1 with
   | false=>rfl
   | true=>cases h2:seq t s with
    | false=>rfl
    | true=>
     have e1:t=p.1:=vyd h1;have e2:t=s:=vyd h2;rw [<-e1,e2,zfk] at h
     cases h
section
variable {α β:Type} (nm:β->ByteArray) (ok:β->Bool) (val:β->α) (out:ByteArray->Bool)
def gE (V:List (ByteArray×α)):List β->Option (List (ByteArray×α))
 | []=>some V
 | b::l=>bif (z2f V (nm b)).isSome||out (nm b)||!isName (nm b)||isWord (nm b)||!ok b then none else gE (updF V (nm b) (val b)) l
def fnd (l:List β) (s:ByteArray):Option β:=l.find? (fun b=>seq s (nm b))
end
section
variable {α β:Type} {nm:β->ByteArray} {ok:β->Bool} {val:β->α} {out:ByteArray->Bool}
theorem z7v (s:ByteArray):fnd nm [] s=none:=rfl
theorem vvu (b:β) (l:List β) (s:ByteArray):fnd nm (b::l) s=bif seq s (nm b) then some b else fnd nm l s:=by
 unfold fnd;rw [List.find?_cons];cases seq s (nm b)<;>rfl
theorem z2v {l:List β} {s:ByteArray}:fnd nm l s=none↔s∉l.map nm:=by
 induction l with
 | nil=>simp [z7v]
 | cons b l ih=>
  rw [vvu,List.map_cons,List.mem_cons,not_or]
  cases h:seq s (nm b) with
  | true=>rw [cond_true];exact ⟨fun h=>(by cases h),fun h2=>absurd (vyd h) h2.1⟩
  | false=>
   rw [cond_false,ih];exact ⟨fun h2=>⟨fun e=>(by rw [e,zfk] at h;cases h),h2⟩,fun h2=>h2.2⟩
theorem ypj {l:List β} {s:ByteArray} {b:β} (h:fnd nm l s=some b):b∈l/\s=nm b:=by
 unfold fnd at h;have h1:=List.find?_some h;exact ⟨List.mem_of_find?_eq_some h,vyd h1⟩
theorem xto {l:List β} {s:ByteArray}:(fnd nm l s).isSome=true↔s∈l.map nm:=by
 cases h:fnd nm l s with
 | none=>exact ⟨fun h=>(by cases h),fun hm=>absurd hm (z2v.1 h)⟩
 | some b=>
  have:=ypj h
  exact ⟨fun _=>(by rw [this.2];exact List.mem_map_of_mem this.1),fun _=>rfl⟩
def zc7 (nm:β->ByteArray) (ok:β->Bool) (out:ByteArray->Bool) (V:List (ByteArray×α)) (b:β):Prop:=ok b=true/\isNamed (nm b)=true/\out (nm b)=false/\z2f V (nm b)=none
theorem w5y {V:List (ByteArray×α)} {b:β}:((z2f V (nm b)).isSome||out (nm b)||!isName (nm b)||isWord (nm b)||!ok b)=false↔zc7 nm ok out V b:=by
 unfold zc7 isNamed
 cases z2f V (nm b)<;>cases out (nm b)<;>cases isName (nm b)<;>cases isWord (nm b)<;>cases ok b<;>simp
theorem xvn:∀{l:List β} {V W:List (ByteArray×α)},gE nm ok val out V l=some W->(∀ b∈l,zc7 nm ok out V b)/\(l.map nm).Nodup/\∀ s,z2f W s=(match fnd nm l s with
 | some b=>some (val b)
 | none=>z2f V s)
 | [],V,W,h=>by
  rw [gE] at h;cases h;exact ⟨fun b hb=>by (cases hb),List.nodup_nil,fun s=>rfl⟩
 | b::l,V,W,h=>by
  rw [gE] at h
  cases hc:((z2f V (nm b)).isSome||out (nm b)||!isName (nm b)||isWord (nm b)||!ok b) with
  | true=>rw [hc] at h;cases h
  | false=>
   rw [hc,cond_false] at h;have hb:=w5y.1 hc;obtain ⟨h1,h2,h3⟩:=xvn h
   have hnot:∀ c∈l,nm c≠nm b:=fun c hc' e=>by
    have:=(h1 c hc').2.2.2
    rw [e,ztq,zfk] at this
    cases this
   refine ⟨fun c hc'=>?_,?_,fun s=>?_⟩
   . rcases List.mem_cons.1 hc' with rfl | hc'
     . exact hb
     . obtain ⟨q1,q2,q3,q4⟩:=h1 c hc';rw [ztq,x2w (hnot c hc')] at q4;exact ⟨q1,q2,q3,q4⟩
   . rw [List.map_cons,List.nodup_cons];refine ⟨fun hm=>?_,h2⟩;obtain ⟨c,hc1,hc2⟩:=List.mem_map.1 hm;exact hnot c hc1 hc2
   . rw [h3 s, vvu]
     cases hs:seq s (nm b) with
     | true=>
      have e:=vyd hs
      have:fnd nm l s=none:=z2v.2 (fun hm=>by
       obtain ⟨c,hc1,hc2⟩:=List.mem_map.1 hm
       exact hnot c hc1 (by rw [hc2,e]))
      rw [this];simp only [cond_true];rw [ztq,hs];rfl
     | false=>
      rw [cond_false]
      cases fnd nm l s with
      | some c=>rfl
      | none=>simp only;rw [ztq,hs];rfl
theorem ych:∀{l:List β} {V:List (ByteArray×α)},(∀ b∈l,zc7 nm ok out V b)->(l.map nm).Nodup->∃ W,gE nm ok val out V l=some W
 | [],V,_,_=>⟨V,rfl⟩
 | b::l,V,h,hn=>by
  rw [List.map_cons,List.nodup_cons] at hn;rw [gE,w5y.2 (h b (by simp)),cond_false];refine ych (fun c hc=>?_) hn.2;obtain ⟨q1,q2,q3,q4⟩:=h c (by simp [hc]);refine ⟨q1,q2,q3,?_⟩;rw [ztq,x2w (fun e=>hn.1 (by rw [<-e];exact List.mem_map_of_mem hc))];exact q4
end
section
variable {α β:Type} (nm:β->ByteArray) (ok:β->Bool) (val:β->α) (tok:Tb->Bool)
def entG (bs:List β) (ms:List Tb):Option (List (ByteArray×α)×List (ByteArray×Tb)):=match gE nm ok val (fun _=>false) [] bs with
 | none=>none
 | some V=>(gE Tb.name tok id (fun s=>(z2f V s).isSome) [] ms).map fun T=>(V,T)
def x6g (l:List ByteArray):Prop:=(∀ s∈l,isNamed s=true)/\l.Nodup
instance (l:List ByteArray):Decidable (x6g l):=inferInstanceAs (Decidable (_/\_))
end
section
variable {α β:Type} {nm:β->ByteArray} {ok:β->Bool} {val:β->α} {tok:Tb->Bool}
theorem vxk {bs:List β} {V:List (ByteArray×α)} {T:List (ByteArray×Tb)} (h:entG nm ok val tok bs ms=some (V,T)) :
 (∀ b∈bs,ok b=true)/\(∀ t∈ms,tok t=true)/\x6g (bs.map nm++ms.map Tb.name)/\(∀ s,z2f V s=(fnd nm bs s).map val)/\(∀ s,z2f T s=fnd Tb.name ms s):=by
 unfold entG at h
 cases h1:gE nm ok val (fun _=>false) [] bs with
 | none=>rw [h1] at h;cases h
 | some W=>
  rw [h1] at h;simp only at h
  cases h2:gE Tb.name tok id (fun s=>(z2f W s).isSome) [] ms with
  | none=>rw [h2] at h;cases h
  | some U=>
   rw [h2] at h
   cases h;obtain ⟨a1,a2,a3⟩:=xvn h1;obtain ⟨b1,b2,b3⟩:=xvn h2
   have hV:∀ s,z2f V s=(fnd nm bs s).map val:=fun s=>by rw [a3 s];cases fnd nm bs s<;>rfl
   refine ⟨fun b hb=>(a1 b hb).1,fun t ht=>(b1 t ht).1,⟨fun s hs=>?_,?_⟩,hV,fun s=>by rw [b3 s];cases fnd Tb.name ms s<;>rfl⟩
   . rcases List.mem_append.1 hs with hs | hs
     . obtain ⟨b,hb,rfl⟩:=List.mem_map.1 hs;exact (a1 b hb).2.1
     . obtain ⟨t,ht,rfl⟩:=List.mem_map.1 hs;exact (b1 t ht).2.1
   . rw [List.nodup_append];refine ⟨a2,b2,fun x hx y hy e=>?_⟩;subst e;obtain ⟨t,ht,rfl⟩:=List.mem_map.1 hy
     have:=(b1 t ht).2.2.1
     simp only [hV,Option.isSome_map] at this;rw [xto.2 hx] at this
     cases this
theorem zuo {bs:List β} (h1:∀ b∈bs,ok b=true) (h2:∀ t∈ms,tok t=true) (h3:x6g (bs.map nm++ms.map Tb.name)):∃ p,entG nm ok val tok bs ms=some p:=by
 obtain ⟨h3,h4⟩:=h3;rw [List.nodup_append] at h4;obtain ⟨n1,n2,n3⟩:=h4;obtain ⟨V,hV⟩:=ych (val:=val) (V:=([]:List (ByteArray×α))) (out:=fun _=>false) (ok:=ok) (nm:=nm) (fun b hb=>⟨h1 b hb,h3 _ (by simp only [List.mem_append];exact .inl (List.mem_map_of_mem hb)),rfl,rfl⟩) n1
 have hlV:∀ s,z2f V s=(fnd nm bs s).map val:=fun s=>by rw [(xvn hV).2.2 s];cases fnd nm bs s<;>rfl
 obtain ⟨T,hT⟩:=ych (val:=id) (V:=([]:List (ByteArray×Tb))) (out:=fun s=>(z2f V s).isSome) (ok:=tok) (nm:=Tb.name) (l:=ms) (fun t ht=>⟨h2 t ht,h3 _ (by simp only [List.mem_append];exact .inr (List.mem_map_of_mem ht)),by
  simp only [hlV,Option.isSome_map];rw [Bool.eq_false_iff]
  exact fun hm=>n3 _ (xto.1 hm) _ (List.mem_map_of_mem ht) rfl,rfl⟩) n2
 exact ⟨(V,T),by unfold entG;rw [hV];simp only [hT];rfl⟩
end
end Go.Hp.T
namespace Go.Hp.T
open Go Go.RowKit Go.Slot Go.Hp Go.Slot.T
set_option maxRecDepth 10000
set_option maxHeartbeats 0
variable {B:Nat} {ms:List Tb}
structure Bd where
 name:ByteArray
 v:Fc
instance:Inhabited Bd:=⟨⟨⟨#[]⟩,Fc.zero⟩⟩
def Bd.C (x:Bd):List Cell:=[cS x.name,.raw (.int .i64 x.v.s),.ints .i64 x.v.L,.raw (.int .i64 x.v.t),.ints .i64 x.v.M]
abbrev bdC (x:Bd):List Cell:=[cS x.name,.raw (.int .i64 x.v.s),.ints .i64 x.v.L,.raw (.int .i64 x.v.t),.ints .i64 x.v.M]
theorem Bd.C_eq (x:Bd):x.C=bdC x:=rfl
attribute [go_sem] Bd.C_eq
abbrev Vq:=List (ByteArray×Rat)
abbrev Vt:=List (ByteArray×Tb)
variable {T:Vt}
def envQ (l:Vq):List (Value×SV):=envM (fun q=>.agg ((qC (some q)).map .dat)) l
def envB (l:Vt):List (Value×SV):=envM (fun t=>.agg ((tbC t).map .dat)) l
theorem yht {T:Vq} {s:ByteArray}:yvo (envQ T) (.string s)=some ((z2f T s).map fun q=>.agg ((qC (some q)).map .dat)):=x0f
theorem xwl {s:ByteArray}:yvo (envB T) (.string s)=some ((z2f T s).map fun t=>.agg ((tbC t).map .dat)):=x0f
theorem zx8 {T:Vq} {s:ByteArray} {q:Rat}:updM (envQ T) (.string s) (.agg [.dat (.raw (.int .i64 (qF (some q)).s)),.dat (.ints .i64 (qF (some q)).L),.dat (.raw (.int .i64 (qF (some q)).t)),.dat (.ints .i64 (qF (some q)).M)])=some (envQ (updF T s q)):=y5p (C:=fun q=>.agg ((qC (some q)).map .dat))
theorem w7z {s:ByteArray} {t:Tb}:updM (envB T) (.string s) (.agg [.dat (cS t.name),.dat (cS t.unit),.dat (.sl 2 (t.rows.map Rw.C))])=some (envB (updF T s t)):=y5p (C:=fun t=>.agg ((tbC t).map .dat))
attribute [go_sem] yht xwl zx8 w7z
abbrev tbOk (t:Tb):Bool:=vgr (fun s=>(xx7 s).2) t
abbrev rB (V:Vq) (l:List Bd):Option Vq:=gE Bd.name (fun b=>decide b.v.ok) (fun b=>b.v.val) (fun _=>false) V l
abbrev rTb (V:Vq) (T:Vt) (l:List Tb):Option Vt:=gE Tb.name tbOk id (fun s=>(z2f V s).isSome) T l
abbrev entF (bs:List Bd) (ms:List Tb):Option (Vq×Vt):=entG Bd.name (fun b=>decide b.v.ok) (fun b=>b.v.val) tbOk bs ms
def xoq (n:Int) (u:ByteArray):Rs×Int:=bif decide (¬(xx7 u).2=0) then (Rs.zero,14) else numV (mulO (some (n:Rat)) (facO u)) (erO (some (n:Rat)) (facO u))
def y21 (V:Vq) (s:ByteArray):Rs×Int:=match z2f V s with
 | none=>(Rs.zero,11)
 | some q=>numV (addO (some q) (some ((0:Int):Rat))) 0
def vi3 (T:Vt) (s:ByteArray) (k:Rs):Rs×Int:=match z2f T s with
 | none=>(Rs.zero,11)
 | some t=>bif k.t then (Rs.zero,13) else numV (xwc t k.v).1 (xwc t k.v).2
def chV (rs:List (Rs×Int)):Rs×Int:=bif decide (¬(rs.getD 0 default).2=0) then (Rs.zero,(rs.getD 0 default).2) else
 bif !(rs.getD 0 default).1.t then (Rs.zero,13) else bif (rs.getD 0 default).1.i then rs.getD 1 default else rs.getD 2 default
def seqV:List (Rs×Int)->Int ⊕ List Rs
 | []=>.inr []
 | (r,e)::l=>bif decide (¬e=0) then .inl e else match seqV l with
  | .inl e=>.inl e
  | .inr rs=>.inr (r::rs)
def opV (T:Vt) (o:Int) (s:ByteArray) (rs:List Rs):Rs×Int:=bif decide (o=2) then vi3 T s (rs.getD 0 default) else
 bif decide (o=4)||decide (o=14)||decide (o=15) then logV o rs else ariV o (rs.getD 0 default) (rs.getD 1 default)
def v24 (T:Vt) (o:Int) (s:ByteArray) (q:Int ⊕ List Rs):Rs×Int:=match q with
 | .inl e=>(Rs.zero,e)
 | .inr rs=>opV T o s rs
mutual
def Ex.cal (V:Vq) (T:Vt):Ex->Rs×Int
 | .mk o n u s l=>bif decide (o=0) then xoq n u else bif decide (o=1) then y21 V s else
  bif decide (o=5) then chV (Ex.calA V T l) else v24 T o s (seqV (Ex.calA V T l))
def Ex.calA (V:Vq) (T:Vt):List Ex->List (Rs×Int)
 | []=>[]
 | y::l=>Ex.cal V T y::Ex.calA V T l
end
theorem Ex.vnj (V:Vq) (T:Vt):∀ l:List Ex,Ex.calA V T l=l.map (Ex.cal V T)
 | []=>by rw [Ex.calA];rfl
 | y::l=>by rw [Ex.calA,Ex.vnj V T l];rfl
theorem Ex.yre (V:Vq) (T:Vt) (x:Ex):x.cal V T=bif decide (x.op=0) then xoq x.n x.unit else bif decide (x.op=1) then y21 V x.name else
 bif decide (x.op=5) then chV (x.args.map (Ex.cal V T)) else v24 T x.op x.name (seqV (x.args.map (Ex.cal V T))):=by cases x;rw [Ex.cal,Ex.vnj];rfl
def valF (x:Ex) (bs:List Bd) (ms:List Tb):Rs×Int:=bif !zqs x||x.wqm then (Rs.zero,2) else match entF bs ms with
 | none=>(Rs.zero,1)
 | some p=>x.cal p.1 p.2
mutual
def Ex.nd:Ex->Nat
 | .mk _ _ _ _ l=>Ex.ndL l+1
def Ex.ndL:List Ex->Nat
 | []=>0
 | y::l=>Ex.nd y+Ex.ndL l
end
theorem Ex.xk0 (x:Ex):x.nd=Ex.ndL x.args+1:=by cases x;rw [Ex.nd];rfl
theorem Ex.xka:∀{l:List Ex} {y:Ex},y∈l->y.nd<=Ex.ndL l
 | z::l,y,h=>by
  rw [Ex.ndL]
  rcases List.mem_cons.1 h with rfl | h
  . omega
  . have:=Ex.xka h;omega
theorem Ex.nd2 {l:List Ex} (h:2<=l.length):(l.getD 0 default).nd+(l.getD 1 default).nd<=Ex.ndL l:=by
 match l,h with
 | a::b::l,_=>rw [Ex.ndL,Ex.ndL];simp only [List.getD_cons_zero,List.getD_cons_succ];omega
theorem Ex.y73:∀(x:Ex) (n lv k:Int),x.cnt n lv=(true,k)->k=n+x.nd:=by
 have hL:∀ l:List Ex,(∀ y∈l,∀(n lv k:Int),y.cnt n lv=(true,k)->k=n+y.nd)->∀ n lv k:Int,Ex.cntL l n lv=(true,k)->k=n+Ex.ndL l:=by
  intro l
  induction l with
  | nil=>intro _ n lv k h;rw [Ex.cntL] at h;cases h;rw [Ex.ndL];omega
  | cons y l ih=>
   intro hy n lv k h;rw [Ex.cntL] at h;split at h
   . cases h
   . rename_i m hm;have h1:=hy y (by simp) _ _ _ hm;have h2:=ih (fun z hz=>hy z (by simp [hz])) _ _ _ h;rw [Ex.ndL];omega
 refine Ex.ind (fun x ih n lv k h=>?_);rw [Ex.yn2] at h;by_cases h1:200<n+1
 . simp [h1] at h
 . by_cases h2:20<lv
   . simp [h2] at h
   . simp only [h1,h2,decide_false,Bool.or_self,cond_false] at h
     have:=hL x.args ih _ _ _ h
     rw [Ex.xk0];omega
theorem zvr {x:Ex} (h:zqs x=true):x.nd<=200:=by
 unfold zqs at h;rw [Bool.and_eq_true] at h
 have h1:x.cnt 0 1=(true,(x.cnt 0 1).2):=by rw [<-h.1]
 have h2:=Ex.y73 _ _ _ _ h1;have h3:=Ex.xh3 _ _ _ _ h1;omega
theorem yts (v:Option Rat) (e:Int):qz (numV v e).1.v<=qz v:=by
 unfold numV
 cases decide (¬e=0) with
 | true=>exact Nat.zero_le _
 | false=>exact Nat.le_refl _
theorem zyb {c:Bool} {a b:Rs×Int} {n:Nat} (h1:qz a.1.v<=n) (h2:qz b.1.v<=n):qz (bif c then a else b).1.v<=n:=by cases c<;>assumption
theorem xes (o:Int) (l:List Rs):qz (logV o l).1.v<=0:=
 zyb (Nat.le_refl _) (zyb (Nat.le_refl _) (zyb (Nat.le_refl _) (Nat.le_refl _)))
theorem ypy (o:Int) (a b:Rs):qz (ariV o a b).1.v<=qz a.v+qz b.v+1:=by
 have h1:=yv3 a.v b.v;have h2:=yde a.v b.v;have h3:=zcu a.v b.v;have h4:=wzr a.v b.v;have h5:=yg2 a.v b.v;have h6:=vvx a.v b.v
 have n:∀(v:Option Rat) (e:Int),qz v<=qz a.v+qz b.v+1->qz (numV v e).1.v<=qz a.v+qz b.v+1:=fun v e h=>Nat.le_trans (yts v e) h
 exact zyb (Nat.zero_le _) (zyb (n _ _ h1) (zyb (n _ _ h2) (zyb (n _ _ (by omega)) (zyb (n _ _ h4) (zyb (n _ _ (by omega)) (zyb (n _ _ (by omega)) (zyb (Nat.zero_le _) (Nat.zero_le _))))))))
theorem vkw (t:Tb) {n:Int} (h:inI n):qz (zfd t n)<=4204:=by
 have h1:=zcu (some (n:Rat)) (facO t.unit);have h2:=x10 h;have h3:=xne t.unit;unfold zfd;omega
theorem x24 (t:Tb) (v:Option Rat):qz (xwc t v).1<=4204:=by
 unfold xwc
 cases ht:vgr (fun s=>(xx7 s).2) t with
 | false=>exact Nat.zero_le _
 | true=>
  cases v with
  | none=>exact Nat.zero_le _
  | some q=>
   simp only [Bool.not_true,cond_false];by_cases h0:aft q t.rows=0
   . rw [decide_eq_true h0];exact Nat.zero_le _
   . rw [decide_eq_false h0];obtain ⟨_,_,hl,hrows⟩:=yg5 ht;have hle:=wrt q t.rows;have hn:=zr8 (hrows (aft q t.rows-1) (by omega)).2.1;exact vkw t (by unfold inI;omega)
def Vsm (B:Nat) (V:Vq):Prop:=∀ s q,z2f V s=some q->qs q+10<=B
theorem xsm {x:Ex} (h:xer x=true) (h0:x.op=0):0<=x.n/\x.n<=1099511627776:=by
 unfold xer at h;rw [decide_eq_true h0] at h;simp only [cond_true,Bool.and_eq_true,decide_eq_true_eq] at h;omega
theorem zgf : ∀ {l : List (Rs × Int)} {rs : List Rs}, seqV l = .inr rs → rs.length = l.length ∧ ∀ i, i < l.length → l.getD i default = (rs.getD i default, 0)
 | [],rs,h=>by rw [seqV] at h;cases h;exact ⟨rfl,fun i hi=>by simp at hi⟩
 | (r, e) :: l, rs, h => by
  rw [seqV] at h;by_cases he:e=0
  . subst he;simp only [not_true_eq_false,decide_false,cond_false] at h
    cases hs:seqV l with
    | inl e=>rw [hs] at h;cases h
    | inr r2=>
     rw [hs] at h;cases h;obtain ⟨h1,h2⟩:=zgf hs;refine ⟨by simp [h1],fun i hi=>?_⟩
     cases i with
     | zero=>rfl
     | succ i=>simpa using h2 i (by simpa using hi)
  . rw [decide_eq_true he] at h;cases h
theorem zau {V:Vq} (hB:4300<=B) (hV:Vsm B V):∀ x:Ex,x.shaped=true->x.wqm=false->qz (x.cal V T).1.v<=B*x.nd:=by
 refine Ex.ind (fun x ih hsh hcl=>?_);rw [Ex.ypb,Bool.and_eq_true,List.all_eq_true] at hsh;rw [Ex.xrx,Bool.or_eq_false_iff,decide_eq_false_iff_not,List.any_eq_false] at hcl;obtain ⟨hnode,hargs⟩:=hsh;have hnd:=Ex.xk0 x;have h1:B<=B*x.nd:=Nat.le_mul_of_pos_right _ (by omega)
 have hmem:∀ i,i<x.args.length->qz (((x.args.map (Ex.cal V T)).getD i default)).1.v<=B*(x.args.getD i default).nd:=fun i hi=>by
  have hm:=y7p hi;rw [getD_map hi];exact ih _ hm (hargs _ hm) (by simpa using hcl.2 _ hm)
 have hle:∀ i,i<x.args.length->B*(x.args.getD i default).nd<=B*x.nd:=fun i hi=>Nat.mul_le_mul_left _ (by have:=Ex.xka (y7p hi);omega)
 rw [Ex.yre];by_cases h0:x.op=0
 . rw [decide_eq_true h0,cond_true];have hn:=xsm hnode h0;unfold xoq
   cases decide (¬(xx7 x.unit).2=0) with
   | true=>exact Nat.zero_le _
   | false=>
    have:=yts (mulO (some (x.n:Rat)) (facO x.unit)) (erO (some (x.n:Rat)) (facO x.unit))
    have h2:=zcu (some (x.n:Rat)) (facO x.unit);have h3:=x10 (n:=x.n) (by unfold inI;omega);have h4:=xne x.unit;rw [cond_false];omega
 rw [decide_eq_false h0,cond_false];by_cases h01:x.op=1
 . rw [decide_eq_true h01,cond_true];unfold y21
   cases hl:z2f V x.name with
   | none=>exact Nat.zero_le _
   | some q=>
    have:=hV _ _ hl
    have h2:=yts (addO (some q) (some ((0:Int):Rat))) 0;have h3:=yv3 (some q) (some ((0:Int):Rat));have h4:=x10 (n:=0) (by decide);simp only;have h5:qz (some q)=qs q:=rfl;omega
 rw [decide_eq_false h01,cond_false]
 have hne:x.args.length≠0:=fun h=>by
  unfold xer at hnode;rw [decide_eq_false h0,decide_eq_false h01,h] at hnode;simp at hnode
 obtain ⟨hl2,hl3⟩:=zd3 hnode hcl.1 hne;by_cases h5:x.op=5
 . rw [decide_eq_true h5, cond_true];have hl:=hl3 h5;unfold chV
   cases decide (¬((x.args.map (Ex.cal V T)).getD 0 default).2=0) with
   | true=>exact Nat.zero_le _
   | false=>
    cases ((x.args.map (Ex.cal V T)).getD 0 default).1.t with
    | false=>exact Nat.zero_le _
    | true=>
     cases ((x.args.map (Ex.cal V T)).getD 0 default).1.i with
     | true=>exact Nat.le_trans (hmem 1 (by omega)) (hle 1 (by omega))
     | false=>exact Nat.le_trans (hmem 2 (by omega)) (hle 2 (by omega))
 rw [decide_eq_false h5,cond_false]
 cases hs:seqV (x.args.map (Ex.cal V T)) with
 | inl e=>exact Nat.zero_le _
 | inr rs=>
  obtain ⟨hlen,hget⟩:=zgf hs;rw [List.length_map] at hlen hget;show qz (opV T x.op x.name rs).1.v<=_;unfold opV;by_cases h2:x.op=2
  . rw [decide_eq_true h2, cond_true];unfold vi3
    cases z2f T x.name with
    | none=>exact Nat.zero_le _
    | some t=>
     simp only
     cases (rs.getD 0 default).t with
     | true=>exact Nat.zero_le _
     | false=>
      have h3:=yts (xwc t (rs.getD 0 default).v).1 (xwc t (rs.getD 0 default).v).2;have h4:=x24 t (rs.getD 0 default).v;rw [cond_false];omega
  rw [decide_eq_false h2,cond_false]
  cases hlg:decide (x.op=4)||decide (x.op=14)||decide (x.op=15) with
  | true=>exact Nat.le_trans (xes _ _) (Nat.zero_le _)
  | false=>
   rw [cond_false]
   have h4:x.op≠4:=fun h=>by rw [decide_eq_true h] at hlg;simp at hlg
   have hl:=hl2 h2 h4;have ha:=ypy x.op (rs.getD 0 default) (rs.getD 1 default);have m0:=hmem 0 (by omega);have m1:=hmem 1 (by omega);rw [hget 0 (by omega)] at m0;rw [hget 1 (by omega)] at m1;have hn2:=Ex.nd2 hl;have hd:=Nat.mul_add B (x.args.getD 0 default).nd (x.args.getD 1 default).nd;have he:B*((x.args.getD 0 default).nd+(x.args.getD 1 default).nd+1)<=B*x.nd:=Nat.mul_le_mul_left _ (by omega);rw [Nat.mul_add,hd] at he;simp only at m0 m1;omega
theorem x98 {bs:List Bd} {V:Vq} (h:entF bs ms=some (V,T)) (hb:∀ b∈bs,b.v.sz+10<=B):Vsm B V:=fun s q hq=>by
 obtain ⟨h1,_,_,h4,_⟩:=vxk h;rw [h4 s] at hq
 cases hf:fnd Bd.name bs s with
 | none=>rw [hf] at hq;cases hq
 | some b=>
  rw [hf] at hq;cases hq;have hm:=(ypj hf).1;have e:=Fc.vin (of_decide_eq_true (h1 b hm));have h2:=hb b hm;rw [e] at h2;exact h2
theorem wed {bs:List Bd} {V:Vq} (h:entF bs ms=some (V,T)) (hb:∀ t∈ms,t.Sm):∀ s t,z2f T s=some t->t.Sm/\tbOk t=true:=fun s t ht=>by
 obtain ⟨_,h2,_,_,h5⟩:=vxk h;rw [h5 s] at ht;have hm:=(ypj ht).1;exact ⟨hb t hm,h2 t hm⟩
end Go.Hp.T
namespace Go.Hp.T
open Go Go.RowKit Go.Slot Go.Hp
set_option maxRecDepth 10000
theorem nc0:((0:Nat):Int)=0:=rfl
theorem nc1:((1:Nat):Int)=1:=rfl
theorem nc2:((2:Nat):Int)=2:=rfl
theorem nc3:((3:Nat):Int)=3:=rfl
attribute [go_sem] decide_true decide_false nc0 nc1 nc2 nc3
end Go.Hp.T
namespace Go.Slot
open Go Go.RowKit Go.Slot.T
def okS (l:List Sc):Prop:=∀ s∈l,s.ok
instance (l:List Sc):Decidable (okS l):=inferInstanceAs (Decidable (∀ s∈l,s.ok))
namespace Bk
def ok (f:Af) (l:List Sc):Prop:=f.ok l.length/\okS l
instance (f:Af) (l:List Sc):Decidable (ok f l):=inferInstanceAs (Decidable (_/\_))
def lo (c:Fc) (s:Sc):Fc:=if Fc.sign c<0 then Af.copy s.high else Af.copy s.low
def hi (c:Fc) (s:Sc):Fc:=if Fc.sign c<0 then Af.copy s.low else Af.copy s.high
def lows (f:Af) (l:List Sc):List Fc:=List.zipWith lo f.l l
def vwi (f:Af) (l:List Sc):List Fc:=List.zipWith hi f.l l
def bounds (f:Af) (l:List Sc):Sc:=if ok f l then ⟨f.at' (lows f l),f.at' (vwi f l)⟩ else Sc.zero
def okM (l:List Fc):Prop:=∀ m∈l,m.ok/\0<=Fc.sign m
instance (l:List Fc):Decidable (okM l):=inferInstanceAs (Decidable (∀ m∈l,_/\_))
end Bk
end Go.Slot
