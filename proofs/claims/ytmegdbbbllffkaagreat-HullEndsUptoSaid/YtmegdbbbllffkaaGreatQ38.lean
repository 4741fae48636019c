/- The proof, part Q38: Qb, Ua, Rf, Rg, Ub, Xa, Uc, Ud, Ue, Uf, Ug, Qc, Qd, Xb, Xd, Sr, Ss, Qe, Qf, Qh. -/
import Derived.Test.YtmegdbbbllffkaaGreatQ37
import Derived.Test.YtmegdbbbllffkaaGreatQ25
import Derived.Test.YtmegdbbbllffkaaGreatQ33
import Derived.Test.YtmegdbbbllffkaaGreatQ30
import Derived.Test.YtmegdbbbllffkaaGreatQ34
namespace Go.Hp.T
open Go Go.RowKit Go.Slot Go.Hp Go.Slot.T
open Go.Proofs.Tryz (prog)
set_option maxRecDepth 10000
set_option maxHeartbeats 4000000
variable {Γ:List (Nat×List Cell)}
def vvx (place:Nat->Option (Nat×Nat)) (cs:List HC) (ps:List (Nat×SV)):Option (List HC):=xl4 place cs ps
def zoi (place:Nat->Option (Nat×Nat)) (cs:List HC) (r:List (Nat×SV)) (a:Option (Nat×Nat)) (b:Option (List HC)):Option (List HC):=match a,b with
 | some (off,size),some us=>if us.length=size/\off+size<=cs.length then xl4 place (cs.take off++us++cs.drop (off+size)) r else none
 | _,_=>none
def v6k (place:Nat->Option (Nat×Nat)) (cs:List HC) (r:List (Nat×SV)) (b:Bool):Option (List HC):=bif b then xl4 place cs r else none
theorem xic {place:Nat->Option (Nat×Nat)} {cs:List HC} {ps:List (Nat×SV)}:xl4 place cs ps=vvx place cs ps:=rfl
theorem z7y {place:Nat->Option (Nat×Nat)} {cs:List HC}:vvx place cs []=some cs:=rfl
theorem yjk {place:Nat->Option (Nat×Nat)} {cs:List HC} {i:Nat} {x:SV} {r:List (Nat×SV)}:vvx place cs ((i,x)::r)=zoi place cs r (place i) (ymo x):=by
 unfold vvx;rw [xl4];rfl
theorem xhl {a b:Nat}:Nat.beq a b=decide (a=b):=by rw [Bool.eq_iff_iff,decide_eq_true_iff,Nat.beq_eq]
theorem wpe {a b:Nat}:Nat.ble a b=decide (a<=b):=by rw [Bool.eq_iff_iff,decide_eq_true_iff,Nat.ble_eq]
theorem vtb {a b:Nat} (h:a<=b):Nat.ble a b=true:=Nat.ble_eq_true_of_le h
theorem zsy {place:Nat->Option (Nat×Nat)} {cs us:List HC} {off size:Nat} {r:List (Nat×SV)}:zoi place cs r (some (off,size)) (some us)=v6k place (cs.take off++(us++cs.drop (off+size))) r (Nat.beq us.length size&&Nat.ble (off+size) cs.length):=by
 rw [<-List.append_assoc];show (if us.length=size/\off+size<=cs.length then xl4 place (cs.take off++us++cs.drop (off+size)) r else none)=_;rw [xhl,wpe];by_cases h1:us.length=size
 . by_cases h2:off+size<=cs.length
   . rw [if_pos ⟨h1,h2⟩,decide_eq_true h1,decide_eq_true h2];rfl
   . rw [if_neg (fun h=>h2 h.2),decide_eq_false h2,Bool.and_false];rfl
 . rw [if_neg (fun h=>h1 h.1),decide_eq_false h1];rfl
theorem vi4 {place:Nat->Option (Nat×Nat)} {cs:List HC} {r:List (Nat×SV)}:v6k place cs r true=vvx place cs r:=rfl
attribute [go_sem ↓ 30000] xic
attribute [go_sem] z7y yjk zsy vi4 xhl vtb
theorem n12:((12:Nat):Int)=12:=rfl
attribute [go_sem] n12
mutual
def Ex.rsz:Ex->Int->Int->Int
 | .mk _ _ _ _ l,n,lv=>bif decide (n<1)||decide (lv<1) then -1 else Ex.rszL l n lv 1
def Ex.rszL:List Ex->Int->Int->Int->Int
 | [],_,_,k=>k
 | y::l,n,lv,k=>bif decide (Ex.rsz y (n-k) (lv-1)<0) then -1 else Ex.rszL l n lv (k+Ex.rsz y (n-k) (lv-1))
end
theorem Ex.vj1 (x:Ex) (n lv:Int):x.rsz n lv=bif decide (n<1)||decide (lv<1) then -1 else Ex.rszL x.args n lv 1:=by cases x;rw [Ex.rsz];rfl
theorem Ex.wzs:∀(l:List Ex),(∀ y∈l,∀ n lv:Int,-1<=y.rsz n lv/\(0<=y.rsz n lv->y.rsz n lv<=n))->∀ n lv k:Int,1<=k->k<=n->-1<=Ex.rszL l n lv k/\(0<=Ex.rszL l n lv k->Ex.rszL l n lv k<=n)
 | [],_,n,lv,k,h1,h2=>by rw [Ex.rszL];omega
 | y::l,h,n,lv,k,h1,h2=>by
  rw [Ex.rszL];have hy:=h y (by simp) (n-k) (lv-1);generalize y.rsz (n-k) (lv-1)=m at hy;by_cases hm:m<0
  . rw [decide_eq_true hm];simp only [cond_true];omega
  . rw [decide_eq_false hm];exact Ex.wzs l (fun z hz=>h z (by simp [hz])) n lv (k+m) (by omega) (by omega)
theorem Ex.z2n:∀(x:Ex) (n lv:Int),-1<=x.rsz n lv/\(0<=x.rsz n lv->x.rsz n lv<=n):=by
 refine Ex.ind (fun x ih n lv=>?_);rw [Ex.vj1];by_cases h1:n<1
 . rw [decide_eq_true h1];simp only [Bool.true_or,cond_true];omega
 . by_cases h2:lv<1
   . rw [decide_eq_true h2];simp only [Bool.or_true,cond_true];omega
   . rw [decide_eq_false h1,decide_eq_false h2];exact Ex.wzs x.args ih n lv 1 (by omega) (by omega)
theorem xcl:∀ x:Ex,x.Sm->∀ n lv:Int,n<=1000->lv<=1000->0<=n->0<=lv->CallsD Γ prog 96 [.agg (exC x),.one (cI n),.one (cI lv)] (.one (cI (x.rsz n lv))):=by
 refine Ex.ind (fun x ih hx n lv hn hlv hn0 hlv0=>?_);have hl:=hx.len;refine CallsD.run [] Go.Proofs.Tryz.func96 rfl rfl rfl ?_;simp only [Go.Proofs.Tryz.f96];refine hgR ?_
 repeat' ((first | refine hfk ?_ ?_<;>intros | refine hik ?_)<;>refine hgS ?_)
 . rename_i h1 _ h2 _;exact RLe.ofEq (by rw [Ex.vj1,decide_eq_true h2,Bool.or_true];rfl)
 . rename_i h1 _ h2 _
   have e0:x.rsz n lv=Ex.rszL x.args n lv 1:=by rw [Ex.vj1,decide_eq_false h1,decide_eq_false h2];rfl
   refine y55 [1,2,3] (fun p:Nat×Int=>[(7,.one (.dat (cI p.2))),(8,.one (.dat (cI p.1)))]) (fun _=>[.box ((exC x).map .dat) (some 24)]) (fun p=>p.1<=x.args.length/\1<=p.2/\p.2<=n/\Ex.rszL (x.args.drop p.1) n lv p.2=Ex.rszL x.args n lv 1) (fun p=>x.args.length-p.1) (0,1) ⟨Nat.zero_le _,by simp only;omega,by simp only;omega,rfl⟩ ?_ ?_
   . refine hg ?_;exact StH.same svl rfl
   rintro ⟨i,k⟩ ⟨hi,hk1,hk2,hc⟩;simp only at hi hk1 hk2 hc;refine hg ?_;refine vnx (fun hlt hd=>?_) (fun hlt _=>?_)
   . have hlt':i<x.args.length:=by omega
     have hy:=w4t hlt';have hcc:=ih _ hy (hx.arg _ hy) (n-k) (lv-1) (by omega) (by omega) (by omega) (by omega);have hb:=Ex.z2n (x.args.getD i default) (n-k) (lv-1);rw [xqz hlt',Ex.rszL] at hc;generalize (x.args.getD i default).rsz (n-k) (lv-1)=m at hcc hb hc;rw [e0,<-hc];clear e0 hc;refine hg1 @hd ?_
     repeat' ((first | refine hfk ?_ ?_<;>intros | refine hik ?_ | with_reducible first | refine v6l (hcc) ?_ | refine vgi (hcc) ?_)<;>refine hgS ?_)
     . exact RLe.ofEq rfl
     . exact ⟨(i+1,k+m),⟨by simp only;omega,by simp only;omega,by simp only;omega,rfl⟩,by simp only;omega,StH.same svl rfl⟩
   . refine hg ?_;rw [e0,<-hc,List.drop_eq_nil_of_le (by omega),Ex.rszL];exact RLe.ofEq rfl
 . rename_i h1 _;exact RLe.ofEq (by rw [Ex.vj1,decide_eq_true h1];rfl)
theorem rFew (x:Ex) (hx:x.Sm) (n lv:Int) (hn:n<=1000) (hlv:lv<=1000) (hn0:0<=n) (hlv0:0<=lv):CallsD Γ prog 57 [.agg (exC x),.one (cI n),.one (cI lv)] (.one (cB (decide (0<=x.rsz n lv)))):=by
 have h:=xcl (Γ:=Γ) x hx n lv hn hlv hn0 hlv0;refine CallsD.run [] Go.Proofs.Tryz.func57 rfl rfl rfl ?_;simp only [Go.Proofs.Tryz.f57];refine hgR ?_
 repeat' ((first | refine hfk ?_ ?_<;>intros | refine hik ?_ | with_reducible first | refine v6l (h) ?_ | refine vgi (h) ?_)<;>refine hgS ?_)
 all_goals exact RLe.ofEq rfl
end Go.Hp.T
namespace Go.Slot.T
open Go Go.RowKit Go.Slot
open Go.Proofs.Tryz (prog)
set_option maxRecDepth 10000
set_option maxHeartbeats 4000000
end Go.Slot.T
namespace Go.Hp.T
open Go Go.RowKit Go.Slot Go.Hp Go.Slot.T
open Go.Proofs.Tryz (prog)
set_option maxRecDepth 10000
set_option maxHeartbeats 4000000
variable {Γ:List (Nat×List Cell)}
theorem vep {α:Type} [Inhabited α] {p:α->Bool} {l:List α} {n i:Nat} (h1:i<n) (h2:i<l.length) (h:p (l.getD i default)=false):(l.take n).all p=false:=by
 cases e:(l.take n).all p with
 | false=>rfl
 | true=>
  have hm:l.getD i default∈l.take n:=by
   rw [show l.getD i default=l[i] from by simp [h2]];exact List.mem_take_iff_getElem.2 ⟨i,by omega,rfl⟩
  rw [List.all_eq_true.1 e _ hm] at h;cases h
theorem zpv {α:Type} [Inhabited α] {p:α->Bool} {l:List α} {n i:Nat} (hj:∀ j,j<i->p (l.getD j default)=true) (h:i=n\/i=l.length):(l.take n).all p=true:=by
 rw [List.all_eq_true];intro y hy;obtain ⟨j,hj2,rfl⟩:=List.mem_take_iff_getElem.1 hy
 have:=hj j (by omega)
 rwa [show l.getD j default=l[j] from by simp [show j<l.length by omega]] at this
mutual
def Ex.has (op:Int) (nm:ByteArray):Ex->Bool
 | .mk o _ _ s l=>Ex.hasL op nm l||(decide (o=op)&&seq s nm)
def Ex.hasL (op:Int) (nm:ByteArray):List Ex->Bool
 | []=>false
 | y::l=>Ex.has op nm y||Ex.hasL op nm l
end
theorem vkw {B : Nat} (hB : 4300 ≤ B) {x : Ex} {bs : List Bd} {ms : List Tb} (hb : ∀ b ∈ bs, b.v.sz + 10 ≤ B) : qz (valF x bs ms).1.v ≤ B * 200 := by
 unfold valF
 cases h1:xub x with
 | false=>exact Nat.zero_le _
 | true=>cases h2:x.xi4 with
  | true=>exact Nat.zero_le _
  | false=>cases h3:entF bs ms with
   | none=>exact Nat.zero_le _
   | some p=>
    have hsh:x.shaped=true:=by unfold xub at h1;rw [Bool.and_eq_true] at h1;exact h1.2
    have h4:=v6n (V:=p.1) (T:=p.2) hB (y2d (V:=p.1) (T:=p.2) h3 hb) x hsh h2;have h5:=wl8 h1;exact Nat.le_trans h4 (Nat.mul_le_mul_left _ h5)
def zpp (t:Tb):Bool:=decide ((t.rows.length:Int)<=110)&&(decide ((t.name.size:Int)<=40)&&decide ((t.unit.size:Int)<=40))
theorem zbw (t:Tb) (_h3:t.rows.length<=1073741824):CallsD Γ prog 97 [.agg (tbC t)] (.one (cB (zpp t))):=by
 refine CallsD.run [] Go.Proofs.Tryz.func97 rfl rfl rfl ?_;simp only [Go.Proofs.Tryz.f97];refine hgR ?_
 repeat' ((first | refine hfk ?_ ?_<;>intros | refine hik ?_)<;>refine hgS ?_)
 all_goals refine lf1 @zpp.eq_def ?_;first | exact trivial | rfl
def y4d (ms:List Tb):Bool:=(ms.take 7).all zpp&&decide ((ms.length:Int)<=6)
theorem y0q (ms:List Tb) (_hm:ms.length<=1073741824) (hms:∀ t∈ms,t.Sm):CallsD Γ prog 58 [.one (.sl 3 (ms.map Tb.C))] (.one (cB (y4d ms))):=by
 refine CallsD.run [] Go.Proofs.Tryz.func58 rfl rfl rfl ?_;simp only [Go.Proofs.Tryz.f58];refine hgR ?_;refine y55 [0] (fun n:Nat=>[(3,.one (.dat (cI n)))]) (fun _=>[]) (fun n=>n<=ms.length/\n<=7/\∀ j,j<n->zpp (ms.getD j default)=true) (fun n=>ms.length-n) 0 ⟨Nat.zero_le _,by omega,fun j hj=>by omega⟩ ?_ ?_
 . refine hg ?_;exact StH.same svl rfl
 rintro n ⟨hn,hn7,hj⟩
 have hc:n<ms.length->CallsD Γ prog 97 [.agg (tbC (ms.getD n default))] (.one (cB (zpp (ms.getD n default)))):=fun h=>zbw _ (hms _ (w4t h)).r
 refine hg ?_
 repeat' ((first | refine hfk ?_ ?_<;>intros | refine hik ?_ | with_reducible first | refine v6l (hc (by omega)) ?_ | refine vgi (hc (by omega)) ?_)<;>refine hgS ?_)
 . rename_i h;exact RLe.ofEq (by unfold y4d;rw [vep (n:=7) (i:=n) (by omega) (by omega) h];rfl)
 . rename_i h;exact ⟨n+1,⟨by omega,by omega,xf4 hj h⟩,by omega,StH.same svl rfl⟩
 . have e:y4d ms=decide ((ms.length:Int)<=6):=by unfold y4d;rw [zpv hj (by omega)];rfl
   rw [e];exact RLe.ofEq rfl
 . have e:y4d ms=decide ((ms.length:Int)<=6):=by unfold y4d;rw [zpv hj (by omega)];rfl
   rw [e];exact RLe.ofEq rfl
def zi2 (b:Bd):Bool:=decide ((b.name.size:Int)<=40)&&decide (b.v.sz<=4)
def yta (x:Ex):Bool:=decide (0<=x.rsz 40 9)||(!decide (0<=x.rsz 200 20)&&decide (0<=x.rsz 260 30))
def wjp (x:Ex) (bs:List Bd) (ms:List Tb):Bool:=yta x&&((bs.take 13).all zi2&&(decide ((bs.length:Int)<=12)&&y4d ms))
structure Bd.Sm (b:Bd):Prop where
 n:b.name.size<=1073741824
 l:b.v.L.length<=1073741824
 m:b.v.M.length<=1073741824
theorem wc3 (x:Ex) (bs:List Bd) (ms:List Tb) (hx:x.Sm) (hb:bs.length<=1073741824) (hbs:∀ b∈bs,b.Sm) (hm:ms.length<=1073741824) (hms:∀ t∈ms,t.Sm):CallsD Γ prog 38 [.agg (exC x),.one (.sl 5 (bs.map Bd.C)),.one (.sl 3 (ms.map Tb.C))] (.one (cB (wjp x bs ms))):=by
 have f1:=rFew (Γ:=Γ) x hx 40 9 (by decide) (by decide) (by decide) (by decide);have f2:=rFew (Γ:=Γ) x hx 200 20 (by decide) (by decide) (by decide) (by decide);have f3:=rFew (Γ:=Γ) x hx 260 30 (by decide) (by decide) (by decide) (by decide);have f4:=y0q (Γ:=Γ) ms hm hms;unfold wjp yta;generalize decide (0<=x.rsz 40 9)=b1 at f1;generalize decide (0<=x.rsz 200 20)=b2 at f2;generalize decide (0<=x.rsz 260 30)=b3 at f3;generalize y4d ms=b4 at f4;clear hms hx
 have main:∀ R:Bool,((bs.take 13).all zi2&&(decide ((bs.length:Int)<=12)&&b4))=R->(b1||(!b2&&b3))=true->CallsD Γ prog 38 [.agg (exC x),.one (.sl 5 (bs.map Bd.C)),.one (.sl 3 (ms.map Tb.C))] (.one (cB R)):=by
  intro R hR hb1;refine CallsD.run [] Go.Proofs.Tryz.func38 rfl rfl rfl ?_;simp only [Go.Proofs.Tryz.f38];refine hgR ?_
  repeat' ((first | refine hfk ?_ ?_<;>intros | refine hik ?_ | with_reducible first | refine v6l (f1) ?_ | refine vgi (f1) ?_ | refine v6l (f2) ?_ | refine vgi (f2) ?_ | refine v6l (f3) ?_ | refine vgi (f3) ?_)<;>refine hgS ?_)
  all_goals try (exfalso;simp_all;done)
  all_goals
   clear hb1;refine y55 [1,2,3] (fun n:Nat=>[(7,.one (.dat (cI n)))]) (fun _=>[.box ((exC x).map .dat) (some 24)]) (fun n=>n<=bs.length/\n<=13/\∀ j,j<n->zi2 (bs.getD j default)=true) (fun n=>bs.length-n) 0 ⟨Nat.zero_le _,by omega,fun j hj=>by omega⟩ ?_ ?_
   . refine hg ?_;exact StH.same svl rfl
   rintro n ⟨hn,hn13,hj⟩
   have hc:n<bs.length->CallsD Γ prog 20 [.agg [.raw (.int .i64 (bs.getD n default).v.s),.ints .i64 (bs.getD n default).v.L,.raw (.int .i64 (bs.getD n default).v.t),.ints .i64 (bs.getD n default).v.M],.one (cI 4)] (.one (cB (decide ((bs.getD n default).v.sz<=4)))):=fun h=>toD (wr8 _ (by have:=(hbs _ (w4t h)).l;omega) (by have:=(hbs _ (w4t h)).m;omega))
   refine hg ?_
   repeat' ((first | refine hfk ?_ ?_<;>intros | refine hik ?_ | with_reducible first | refine v6l (hc (by omega)) ?_ | refine vgi (hc (by omega)) ?_ | refine v6l (f4) ?_ | refine vgi (f4) ?_)<;>refine hgS ?_)
   all_goals first
    | exact ⟨n+1,⟨by omega,by omega,xf4 hj (by unfold zi2;simp only [Bool.and_eq_true,decide_eq_true_eq];omega)⟩,by omega,StH.same svl rfl⟩
    | (rw [<-hR,vep (n:=13) (i:=n) (by omega) (by omega) (by unfold zi2;simp only [Bool.and_eq_false_iff,decide_eq_false_iff_not];omega)];exact RLe.ofEq rfl)
    | (rw [<-hR,zpv hj (by omega)];refine lfE ?_;first | exact trivial | rfl)
 cases h:(b1||(!b2&&b3)) with
 | true=>exact main _ rfl h
 | false=>
  refine CallsD.run [] Go.Proofs.Tryz.func38 rfl rfl rfl ?_;simp only [Go.Proofs.Tryz.f38];refine hgR ?_
  repeat' ((first | refine hfk ?_ ?_<;>intros | refine hik ?_ | with_reducible first | refine v6l (f1) ?_ | refine vgi (f1) ?_ | refine v6l (f2) ?_ | refine vgi (f2) ?_ | refine v6l (f3) ?_ | refine vgi (f3) ?_)<;>refine hgS ?_)
  all_goals first
   | exact RLe.ofEq rfl
   | (exfalso;simp_all;done)
end Go.Hp.T
namespace Go.Hp.T
open Go Go.RowKit Go.Slot Go.Hp Go.Slot.T
set_option maxRecDepth 10000
set_option maxHeartbeats 4000000
def InsK:Kn->Kn->Prop
 | .tru c d,.tru c' d'=>(c'=true->c=true)/\(d'=true->d=true)
 | .num v,.num w=>w.Le v
 | _,_=>False
theorem InsK.t:∀{k k':Kn},InsK k k'->k'.t=k.t
 | .tru _ _,.tru _ _,_=>rfl
 | .num _,.num _,_=>rfl
theorem InsK.trans:∀{a b c:Kn},InsK a b->InsK b c->InsK a c
 | .tru _ _,.tru _ _,.tru _ _,h1,h2=>⟨fun h=>h1.1 (h2.1 h),fun h=>h1.2 (h2.2 h)⟩
 | .num _,.num _,.num _,h1,h2=>Iv.Le.trans h2 h1
def Kn.some:Kn->Prop
 | .tru c d=>c=true\/d=true
 | .num _=>True
theorem xl2 {a b k:Kn} (h:xx9 a b=.inr k):InsK k a/\InsK k b:=by
 rcases a with ⟨c,d⟩ | a<;>rcases b with ⟨c',d'⟩ | b
 . cases h;exact ⟨⟨fun h=>by rw [h];rfl,fun h=>by rw [h];rfl⟩,⟨fun h=>by rw [h,Bool.or_true],fun h=>by rw [h,Bool.or_true]⟩⟩
 . cases h
 . cases h
 . cases h;exact ⟨z0z _ _,w7c _ _⟩
theorem vsn {a b a' b' k:Kn} (h:xx9 a b=.inr k) (ha:InsK a a') (hb:InsK b b') (sa:a'.some):∃ k',xx9 a' b'=.inr k'/\InsK k k'/\k'.some:=by
 rcases a with ⟨c,d⟩ | a<;>rcases b with ⟨e,f⟩ | b<;>rcases a' with ⟨c',d'⟩ | a'<;>rcases b' with ⟨e',f'⟩ | b'<;>cases h<;>first | exact ha.elim | exact hb.elim | skip
 . refine ⟨_,rfl,⟨fun h=>?_,fun h=>?_⟩,?_⟩
   . rcases Bool.or_eq_true _ _▸h with h | h
     . rw [ha.1 h];rfl
     . rw [hb.1 h,Bool.or_true]
   . rcases Bool.or_eq_true _ _▸h with h | h
     . rw [ha.2 h];rfl
     . rw [hb.2 h,Bool.or_true]
   . rcases sa with h | h
     . exact .inl (by rw [h];rfl)
     . exact .inr (by rw [h];rfl)
 . exact ⟨_,rfl,x9g ha hb,trivial⟩
theorem ycu {K C:Ex->Kr} {R:Kn->Kn->Prop}:∀{l:List Ex} {ks:List Kn},(∀ y∈l,∀ k,K y=.inr k->∃ r,C y=.inr r/\R k r)->seqH (l.map K)=.inr ks->
 ∃ rs,seqH (l.map C)=.inr rs/\rs.length=ks.length/\∀ i,i<ks.length->R (ks.getD i default) (rs.getD i default)
 | [],ks,_,h=>by rw [List.map_nil,seqH] at h;cases h;exact ⟨[],rfl,rfl,fun i hi=>absurd hi (Nat.not_lt_zero _)⟩
 | y::l,ks,hR,h=>by
  rw [List.map_cons] at h
  cases hy:K y with
  | inl e=>rw [hy,seqH] at h;cases h
  | inr k=>
   rw [hy,seqH] at h
   cases hs:seqH (l.map K) with
   | inl e=>rw [hs] at h;cases h
   | inr ks'=>
    rw [hs] at h;cases h;obtain ⟨r,h1,h2⟩:=hR y List.mem_cons_self k hy;obtain ⟨rs,h3,h4,h5⟩:=ycu (fun z hz=>hR z (List.mem_cons_of_mem _ hz)) hs;refine ⟨r::rs,?_,by simp [h4],fun i hi=>?_⟩
    . rw [List.map_cons,h1,seqH,h3]
    . cases i with
      | zero=>exact h2
      | succ i=>simpa using h5 i (by simpa using hi)
theorem zw9 {o:Int} (ho:6<=o/\o<=13) {a b a' b':Iv} (ha:a'.Le a) (hb:b'.Le b) {k:Kn} (h:numH o a b=.inr k):∃ k',numH o a' b'=.inr k'/\InsK k k'/\k'.some:=by
 unfold numH at h ⊢
 have:o=6\/o=7\/o=8\/o=9\/o=10\/o=11\/o=12\/o=13:=by omega
 rcases this with rfl | rfl | rfl | rfl | rfl | rfl | rfl | rfl<;>simp only [Int.reduceEq,decide_true,decide_false,cond_true,cond_false] at h ⊢
 . cases h;exact ⟨_,rfl,zot ha hb,trivial⟩
 . cases h;exact ⟨_,rfl,zg9 ha hb,trivial⟩
 . cases h;exact ⟨_,rfl,y4p ha hb,trivial⟩
 . cases h0:b.has 0 with
   | true=>rw [h0,cond_true] at h;cases h
   | false=>
    rw [h0,cond_false] at h;cases h;rw [ydq hb h0,cond_false];exact ⟨_,rfl,y4p ha (wfv hb h0),trivial⟩
 . cases h;exact ⟨_,rfl,x8g ha hb,trivial⟩
 . cases h;exact ⟨_,rfl,v6w ha hb,trivial⟩
 . cases h;refine ⟨_,rfl,⟨fun h=>?_,fun h=>?_⟩,?_⟩
   . rw [decide_eq_true_eq] at h ⊢;exact wgr ha.1 (v17 h hb.2)
   . rw [decide_eq_true_eq] at h ⊢;exact Rat.le_trans hb.1 (Rat.le_trans h ha.2)
   . show decide (a'.lo<b'.hi)=true\/decide (b'.lo<=a'.hi)=true;rw [decide_eq_true_eq,decide_eq_true_eq];by_cases h:a'.lo<b'.hi
     . exact .inl h
     . exact .inr (Rat.le_trans b'.h (Rat.le_trans (Rat.not_lt.1 h) a'.h))
 . cases h
   have key:a'=b'->a'.meets b'=true:=fun e=>wgo.2 ⟨a'.lo,a'.y76,e▸a'.y76⟩
   refine ⟨_,rfl,⟨fun h=>?_,fun h=>?_⟩,?_⟩
   . obtain ⟨q,h1,h2⟩:=wgo.1 h;exact wgo.2 ⟨q,ha.in h1,hb.in h2⟩
   . cases hd:decide (a=b)&&decide (a.lo=a.hi) with
     | false=>rfl
     | true=>
      rw [Bool.and_eq_true,decide_eq_true_eq,decide_eq_true_eq] at hd;obtain ⟨rfl,hp⟩:=hd
      have pin:∀{v:Iv},v.Le a->v.lo=a.lo/\v.hi=a.lo:=fun {v} hv=>⟨Rat.le_antisymm (Rat.le_trans v.h (hp▸hv.2)) hv.1,Rat.le_antisymm (hp▸hv.2) (Rat.le_trans hv.1 v.h)⟩
      obtain ⟨p1,p2⟩:=pin ha;obtain ⟨p3,p4⟩:=pin hb;have e1:a'=b':=Iv.ext' (p1.trans p3.symm) (p2.trans p4.symm);have e2:a'.lo=a'.hi:=p1.trans p2.symm;rw [decide_eq_true e1,decide_eq_true e2] at h
      cases h
   . by_cases e:a'=b'
     . exact .inl (key e)
     . exact .inr (by rw [decide_eq_false e];rfl)
theorem xd1 {T:Vt} (hT:∀ s t,ycr T s=some t->tbOk t=true) {o:Int} {s:ByteArray} {ks rs:List Kn} (hlen:rs.length=ks.length) (hsnd:∀ i,i<ks.length->InsK (ks.getD i default) (rs.getD i default)/\(rs.getD i default).some)
 (ho:2<=o/\o<=15) (h3:o≠3) (h5:o≠5) (l1:o=2\/o=4->ks.length=1) (l2:o≠2->o≠4->ks.length=2) {k:Kn} (h:opH T o s ks=.inr k):∃ k',opH T o s rs=.inr k'/\InsK k k'/\k'.some:=by
 unfold opH at h ⊢
 cases hA:decide (o=2)&&!(ycr T s).isSome with
 | true=>rw [hA,cond_true] at h;cases h
 | false=>
 rw [hA,cond_false] at h
 cases hany:ks.any (fun k=>!(k.t==ze4 o)) with
 | true=>rw [hany,cond_true] at h;cases h
 | false=>
 rw [hany,cond_false] at h
 have hkt:∀ i,i<ks.length->(ks.getD i default).t=ze4 o:=fun i hi=>by
  have:=anyF hany hi
  simpa using this
 have hany':rs.any (fun k=>!(k.t==ze4 o))=false:=by
  rw [List.any_eq_false];intro r hr;obtain ⟨i,hi,rfl⟩:=List.getElem_of_mem hr;have h1:=(hsnd i (by omega)).1.t;rw [hkt i (by omega),show rs.getD i default=rs[i] from by simp [hi]] at h1;simp [h1]
 rw [hany',cond_false,cond_false]
 cases hlg:ze4 o with
 | true=>
  rw [hlg,cond_true] at h;rw [cond_true]
  cases h;unfold truH;have s0:=hsnd 0 (by rcases v6i.1 hlg with h | h | h<;>(try (have:=l1 (.inr h)))<;>(try (have:=l2 (by omega) (by omega)))<;>omega);have t0:=hkt 0 (by rcases v6i.1 hlg with h | h | h<;>(try (have:=l1 (.inr h)))<;>(try (have:=l2 (by omega) (by omega)))<;>omega);rw [hlg] at t0;generalize ks.getD 0 default=k0 at s0 t0 ⊢;generalize rs.getD 0 default=r0 at s0 ⊢
  rcases k0 with ⟨c,d⟩ | v
  . rcases r0 with ⟨c0,d0⟩ | w
    . obtain ⟨⟨i1,i2⟩,i3⟩:=s0
      rcases v6i.1 hlg with rfl | rfl | rfl
      . exact ⟨_,rfl,⟨i2,i1⟩,Or.symm i3⟩
      . have hl:=l2 (by decide) (by decide);have s1:=hsnd 1 (by omega);have t1:=hkt 1 (by omega);rw [hlg] at t1;generalize ks.getD 1 default=k1 at s1 t1 ⊢;generalize rs.getD 1 default=r1 at s1 ⊢
        rcases k1 with ⟨c',d'⟩ | v
        . rcases r1 with ⟨c1,d1⟩ | w
          . obtain ⟨⟨j1,j2⟩,j3⟩:=s1;refine ⟨_,rfl,⟨fun h=>?_,fun h=>?_⟩,?_⟩
            . have h:(c0&&c1)=true:=h;rw [Bool.and_eq_true] at h;show (c&&c')=true;rw [i1 h.1,j1 h.2];rfl
            . have h:(d0||d1)=true:=h;rw [Bool.or_eq_true] at h;show (d||d')=true
              rcases h with h | h
              . rw [i2 h];rfl
              . rw [j2 h,Bool.or_true]
            . show (c0&&c1)=true\/(d0||d1)=true
              rcases i3 with h | h<;>rcases j3 with h' | h'<;>simp [h,h']
          . exact s1.1.elim
        . cases t1
      . have hl:=l2 (by decide) (by decide);have s1:=hsnd 1 (by omega);have t1:=hkt 1 (by omega);rw [hlg] at t1;generalize ks.getD 1 default=k1 at s1 t1 ⊢;generalize rs.getD 1 default=r1 at s1 ⊢
        rcases k1 with ⟨c',d'⟩ | v
        . rcases r1 with ⟨c1,d1⟩ | w
          . obtain ⟨⟨j1,j2⟩,j3⟩:=s1;refine ⟨_,rfl,⟨fun h=>?_,fun h=>?_⟩,?_⟩
            . have h:(c0||c1)=true:=h;rw [Bool.or_eq_true] at h;show (c||c')=true
              rcases h with h | h
              . rw [i1 h];rfl
              . rw [j1 h,Bool.or_true]
            . have h:(d0&&d1)=true:=h;rw [Bool.and_eq_true] at h;show (d&&d')=true;rw [i2 h.1,j2 h.2];rfl
            . show (c0||c1)=true\/(d0&&d1)=true
              rcases i3 with h | h<;>rcases j3 with h' | h'<;>simp [h,h']
          . exact s1.1.elim
        . cases t1
    . exact s0.1.elim
  . cases t0
 | false=>
  rw [hlg,cond_false] at h;rw [cond_false];by_cases h2:o=2
  . have hl:=l1 (.inl h2);rw [decide_eq_true h2] at hA h ⊢;rw [cond_true] at h ⊢;have s0:=hsnd 0 (by omega);have t0:=hkt 0 (by omega);rw [hlg] at t0;generalize ks.getD 0 default=k0 at s0 t0 h;generalize rs.getD 0 default=r0 at s0 ⊢
    cases hlk:ycr T s with
    | none=>rw [hlk] at hA;cases hA
    | some t=>
     rw [hlk] at h
     rcases k0 with ⟨c,d⟩ | v
     . cases t0
     . rcases r0 with ⟨c0,d0⟩ | w
       . exact s0.1.elim
       . have h:x7a t v=.inr k:=h
         rcases x24 (hT _ _ hlk) v with ⟨_,e⟩ | ⟨_,e⟩
         . rw [e] at h;cases h
         . rw [e] at h;cases h;obtain ⟨u,h6,h7⟩:=ylq (hT _ _ hlk) s0.1 e;exact ⟨.num u,h6,h7,trivial⟩
  . rw [decide_eq_false h2,cond_false] at h ⊢
    have hn4:o≠4:=fun e=>by rw [e] at hlg;cases hlg
    have hn14:o≠14:=fun e=>by rw [e] at hlg;cases hlg
    have hn15:o≠15:=fun e=>by rw [e] at hlg;cases hlg
    have hl:=l2 h2 hn4;have s0:=hsnd 0 (by omega);have t0:=hkt 0 (by omega);have s1:=hsnd 1 (by omega);have t1:=hkt 1 (by omega);rw [hlg] at t0 t1;generalize ks.getD 0 default=k0 at s0 t0 h;generalize rs.getD 0 default=r0 at s0 ⊢;generalize ks.getD 1 default=k1 at s1 t1 h;generalize rs.getD 1 default=r1 at s1 ⊢
    rcases k0 with ⟨c,d⟩ | v
    . cases t0
    . rcases k1 with ⟨c,d⟩ | v'
      . cases t1
      . rcases r0 with ⟨c,d⟩ | w
        . exact s0.1.elim
        . rcases r1 with ⟨c,d⟩ | w'
          . exact s1.1.elim
          . exact zw9 (by omega) s0.1 s1.1 h
theorem xit {Ie Je:Vi} {T:Vt} (hIJ:∀ s,(ycr Ie s=none/\ycr Je s=none)\/∃ v w,ycr Ie s=some v/\ycr Je s=some w/\w.Le v) (hT:∀ s t,ycr T s=some t->tbOk t=true) :
 ∀ x:Ex,x.shaped=true->x.xi4=false->∀ k,x.hul Ie T=.inr k->∃ k',x.hul Je T=.inr k'/\InsK k k'/\k'.some:=by
 refine Ex.ind (fun x ih hsh hcl k h=>?_);rw [Ex.xg3,Bool.and_eq_true,List.all_eq_true] at hsh;rw [Ex.wd9,Bool.or_eq_false_iff,decide_eq_false_iff_not,List.any_eq_false] at hcl;obtain ⟨hnode,hargs⟩:=hsh;obtain ⟨h3,hcalls⟩:=hcl
 have ih':∀ y∈x.args,∀ k,y.hul Ie T=.inr k->∃ k',y.hul Je T=.inr k'/\InsK k k'/\k'.some:=fun y hy=>ih y hy (hargs y hy) (by simpa using hcalls y hy)
 clear ih;rw [Ex.y5j] at h ⊢;by_cases h0:x.op=0
 . rw [decide_eq_true h0,cond_true] at h ⊢;refine ⟨k,h,?_⟩;unfold vlw at h
   cases hd:decide (¬(zth x.unit).2=0) with
   | true=>rw [hd] at h;cases h
   | false=>
    rw [hd,cond_false] at h;split at h
    . cases h;exact ⟨Iv.Le.refl _,trivial⟩
    . cases h
 rw [decide_eq_false h0,cond_false] at h ⊢;by_cases h1:x.op=1
 . rw [decide_eq_true h1,cond_true] at h ⊢;unfold yy3 at h ⊢
   rcases hIJ x.name with ⟨e1,e2⟩ | ⟨v,w,e1,e2,e3⟩
   . rw [e1] at h;cases h
   . rw [e1] at h;cases h;rw [e2];exact ⟨_,rfl,e3,trivial⟩
 rw [decide_eq_false h1,cond_false] at h ⊢;obtain ⟨o1,o2,a1,a2,a3⟩:=xab hnode h3 h0 h1;by_cases h5:x.op=5
 . rw [decide_eq_true h5,cond_true] at h ⊢;have hl:=a2 h5;have i0:=ih' _ (w4t (show 0<x.args.length by omega));have i1:=ih' _ (w4t (show 1<x.args.length by omega));have i2:=ih' _ (w4t (show 2<x.args.length by omega));rw [getD_map (show 0<x.args.length by omega),getD_map (show 1<x.args.length by omega),getD_map (show 2<x.args.length by omega)] at h ⊢;generalize (x.args.getD 0 default).hul Ie T=k0 at i0 h;generalize (x.args.getD 1 default).hul Ie T=k1 at i1 h;generalize (x.args.getD 2 default).hul Ie T=k2 at i2 h;generalize (x.args.getD 0 default).hul Je T=r0 at i0 ⊢;generalize (x.args.getD 1 default).hul Je T=r1 at i1 ⊢;generalize (x.args.getD 2 default).hul Je T=r2 at i2 ⊢;unfold chH at h ⊢
   rcases k0 with e | ⟨c,d⟩ | v
   . cases h
   . obtain ⟨w,rfl,e1,e2⟩:=i0 _ rfl
     rcases w with ⟨c',d'⟩ | w
     . obtain ⟨j1,j2⟩:=e1
       cases c with
       | false=>
        have h:k2=.inr k:=h
        cases c' with
        | true=>exact absurd (j1 rfl) (by decide)
        | false=>exact i2 k h
       | true=>
        rcases k1 with e | a
        . cases h
        . obtain ⟨a',rfl,e3,e4⟩:=i1 _ rfl
          cases d with
          | false=>
           cases h
           cases d' with
           | true=>exact absurd (j2 rfl) (by decide)
           | false=>
            cases c' with
            | false=>rcases e2 with e | e<;>cases e
            | true=>exact ⟨a',rfl,e3,e4⟩
          | true=>
           rcases k2 with e | b
           . cases h
           . have h:xx9 a b=.inr k:=h;obtain ⟨b',rfl,e5,e6⟩:=i2 _ rfl;obtain ⟨p,q⟩:=xl2 h
             cases c' with
             | false=>exact ⟨b',rfl,q.trans e5,e6⟩
             | true=>cases d' with
              | false=>exact ⟨a',rfl,p.trans e3,e4⟩
              | true=>exact vsn h e3 e5 e4
     . exact e1.elim
   . cases h
 rw [decide_eq_false h5,cond_false] at h ⊢
 cases hs:seqH (x.args.map (Ex.hul Ie T)) with
 | inl e=>rw [hs] at h;cases h
 | inr ks=>
  rw [hs] at h;have hlk:=(wym hs).1;rw [List.length_map] at hlk;obtain ⟨rs,h6,h7,h8⟩:=ycu (R:=fun k k'=>InsK k k'/\k'.some) ih' hs;rw [h6];exact xd1 hT h7 h8 ⟨o1,o2⟩ h3 h5 (fun h=>by rw [hlk];exact a1 h) (fun p q=>by rw [hlk];exact a3 p q h5) h
def PtK:Kn->Rs->Prop
 | .tru c d,r=>r.t=true/\c=r.i/\d = !r.i
 | .num v,r=>r.t=false/\∃ q,r.v=some q/\v=Iv.pt q
def PtR:Kr->Rs×Int->Prop
 | .inl e,r=>r.2=e/\e≠0
 | .inr k,r=>r.2=0/\PtK k r.1
theorem PtK.t:∀{k:Kn} {r:Rs},PtK k r->r.t=k.t
 | .tru _ _,_,h=>h.1
 | .num _,_,h=>h.1
theorem wrn (q:Rat):Iv.round q q q q=Iv.pt q:=by
 have h1:mn4 q q q q=q:=by rcases xv8 q q q q with h | h | h | h<;>exact h
 have h2:mx4 q q q q=q:=by rcases y66 q q q q with h | h | h | h<;>exact h
 exact Iv.ext' h1 h2
theorem zet (p q:Rat):(Iv.pt p).mul (Iv.pt q)=Iv.pt (p*q):=wrn _
theorem wne (p q:Rat):(Iv.pt p).sub (Iv.pt q)=Iv.pt (p-q):=by rw [Rat.sub_eq_add_neg];rfl
theorem vr6 {p q:Rat}:(Iv.pt p).has q=decide (q=p):=by
 apply Bool.eq_iff_iff.2;rw [Iv.yuc,Iv.y4t,decide_eq_true_eq]
theorem v2p {p:Rat} (h:p≠0):(Iv.pt p).inv=Iv.pt (1 / p):=dif_pos (by rw [vr6,decide_eq_false (Ne.symm h)])
theorem zow {K:Ex->Kr} {C:Ex->Rs×Int}:∀{l:List Ex},(∀ y∈l,PtR (K y) (C y))->
 (∃ e,seqH (l.map K)=.inl e/\seqV (l.map C)=.inl e/\e≠0)\/∃ ks rs,seqH (l.map K)=.inr ks/\seqV (l.map C)=.inr rs/\ks.length=l.length/\rs.length=l.length/\∀ i,i<l.length->PtK (ks.getD i default) (rs.getD i default)
 | [],_=>.inr ⟨[],[],rfl,rfl,rfl,rfl,fun i hi=>absurd hi (Nat.not_lt_zero _)⟩
 | y::l,hR=>by
  rw [List.map_cons,List.map_cons];have h1:=hR y List.mem_cons_self
  cases hc:C y with
  | mk r g=>
   rw [hc] at h1;rw [seqV]
   cases hy:K y with
   | inl e=>
    rw [hy] at h1;obtain ⟨rfl,h2⟩:=h1;rw [seqH,decide_eq_true h2];exact .inl ⟨_,rfl,rfl,h2⟩
   | inr k=>
    rw [hy] at h1;obtain ⟨rfl,h2⟩:=h1;rw [seqH];simp only [not_true_eq_false,decide_false,cond_false]
    rcases zow (fun z hz=>hR z (List.mem_cons_of_mem _ hz)) with ⟨e,h3,h4,h5⟩ | ⟨ks,rs,h3,h4,h5,h6,h7⟩
    . rw [h3,h4];exact .inl ⟨e,rfl,rfl,h5⟩
    . rw [h3,h4];refine .inr ⟨k::ks,r::rs,rfl,rfl,by simp [h5],by simp [h6],fun i hi=>?_⟩
      cases i with
      | zero=>exact h2
      | succ i=>simpa using h7 i (by simpa using hi)
theorem zmi {o:Int} (ho:6<=o/\o<=13) {a b:Iv} {r s:Rs} (hr:PtK (.num a) r) (hs:PtK (.num b) s):PtR (numH o a b) (ariV o r s):=by
 obtain ⟨ht,x,hx,rfl⟩:=hr;obtain ⟨hu,y,hy,rfl⟩:=hs;obtain ⟨t,i,v⟩:=r;obtain ⟨u,j,w⟩:=s;simp only at ht hu hx hy;subst ht;subst hu;subst hx;subst hy;unfold numH ariV;simp only [Bool.or_self,cond_false];have e0:erO (some x) (some y)=0:=rfl
 have:o=6\/o=7\/o=8\/o=9\/o=10\/o=11\/o=12\/o=13:=by omega
 rcases this with rfl | rfl | rfl | rfl | rfl | rfl | rfl | rfl<;>simp only [Int.reduceEq,decide_true,decide_false,cond_true,cond_false,e0]
 . exact ⟨rfl,rfl,_,rfl,rfl⟩
 . exact ⟨rfl,rfl,_,rfl,wne x y⟩
 . exact ⟨rfl,rfl,_,rfl,zet x y⟩
 . rw [vr6];by_cases h:y=0
   . subst h;rw [decide_eq_true rfl];exact ⟨rfl,by decide⟩
   . rw [decide_eq_false (Ne.symm h),cond_false,v2p h,zet,show divO (some x) (some y)=some (x / y) by simp only [divO,h,decide_false,cond_false],show divE (some x) (some y)=0 by simp only [divE,h,decide_false,cond_false]];refine ⟨rfl,rfl,_,rfl,?_⟩;rw [Rat.div_def,Rat.one_mul,<-Rat.div_def]
 . exact ⟨rfl,rfl,_,rfl,rfl⟩
 . exact ⟨rfl,rfl,_,rfl,rfl⟩
 . have h1:decide (cmpO (some x) (some y)<0)=decide (x<y):=vn7;refine ⟨rfl,rfl,h1.symm,?_⟩;show decide (y<=x) = !decide (cmpO (some x) (some y)<0);rw [h1,<-decide_not];exact decide_eq_decide.2 Rat.not_lt.symm
 . have h1:decide (cmpO (some x) (some y)=0)=decide (x=y):=by
    rcases Fc.ygb x y with ⟨q,e⟩ | ⟨q,e⟩ | ⟨q,e⟩<;>rw [show cmpO (some x) (some y)=Fc.ordQ x y from rfl,e]
    . rw [decide_eq_false (Rat.ne_of_lt q)];rfl
    . rw [decide_eq_true q];rfl
    . rw [decide_eq_false (Rat.ne_of_gt q)];rfl
   refine ⟨rfl,rfl,?_,?_⟩
   . show (Iv.pt x).meets (Iv.pt y)=decide (cmpO (some x) (some y)=0);rw [h1];apply Bool.eq_iff_iff.2;rw [wgo,decide_eq_true_eq];constructor
     . rintro ⟨q,p1,p2⟩;rw [<-Iv.y4t.1 p1,<-Iv.y4t.1 p2]
     . rintro rfl;exact ⟨x,Iv.y4t.2 rfl,Iv.y4t.2 rfl⟩
   . show (!(decide (Iv.pt x=Iv.pt y)&&decide (x=x))) = !decide (cmpO (some x) (some y)=0);rw [h1,decide_eq_true (rfl:x=x),Bool.and_true]
     congr 1
     exact decide_eq_decide.2 ⟨fun h=>congrArg Iv.lo h,fun h=>by rw [h]⟩
theorem zt8 {ks:List Kn} {rs:List Rs} {p:Bool} (hlen:rs.length=ks.length) (h:∀ i,i<ks.length->PtK (ks.getD i default) (rs.getD i default)):ks.any (fun k=>!(k.t==p))=rs.any (fun r=>!(r.t==p)):=by
 apply Bool.eq_iff_iff.2;rw [List.any_eq_true,List.any_eq_true];constructor
 . rintro ⟨k,hk,h1⟩;obtain ⟨i,hi,rfl⟩:=List.getElem_of_mem hk
   have:=(h i hi).t
   rw [show ks.getD i default=ks[i] by simp [hi]] at this;exact ⟨rs.getD i default,w4t (by omega),by rw [this];exact h1⟩
 . rintro ⟨r,hr,h1⟩;obtain ⟨i,hi,rfl⟩:=List.getElem_of_mem hr
   have:=(h i (by omega)).t
   rw [show rs.getD i default=rs[i] by simp [hi]] at this;exact ⟨ks.getD i default,w4t (by omega),by rw [<-this];exact h1⟩
theorem vzj {T:Vt} (hT:∀ s t,ycr T s=some t->tbOk t=true) {o:Int} {s:ByteArray} {ks:List Kn} {rs:List Rs} (hlen:rs.length=ks.length) (hsnd:∀ i,i<ks.length->PtK (ks.getD i default) (rs.getD i default))
 (ho:2<=o/\o<=15) (h3:o≠3) (h5:o≠5) (l1:o=2\/o=4->ks.length=1) (l2:o≠2->o≠4->ks.length=2):PtR (opH T o s ks) (opV T o s rs):=by
 unfold opH opV;have hany:=zt8 (p:=ze4 o) hlen hsnd;by_cases h2:o=2
 . have hl:=l1 (.inl h2)
   have hlg:ze4 o=false:=by rw [h2];rfl
   rw [decide_eq_true h2,cond_true,cond_true,Bool.true_and];unfold woh
   cases hlk:ycr T s with
   | none=>exact ⟨rfl,by decide⟩
   | some t=>
    simp only [Option.isSome,Bool.not_true,cond_false];rw [hany,hlg,cond_false];have hs:=hsnd 0 (by omega);rw [ygp (hlen.trans hl)];generalize ks.getD 0 default=k0 at hs ⊢;generalize rs.getD 0 default=r0 at hs ⊢
    rcases k0 with ⟨c,d⟩ | v
    . obtain ⟨e1,_⟩:=hs;simp only [List.any_cons,List.any_nil,List.getD_cons_zero,e1];exact ⟨rfl,by decide⟩
    . obtain ⟨e1,q,e2,rfl⟩:=hs;simp only [List.any_cons,List.any_nil,List.getD_cons_zero,e1];show PtR (x7a t (Iv.pt q)) (numV (wyo t r0.v).1 (wyo t r0.v).2);rw [e2,z9a (hT _ _ hlk),ysk (hT _ _ hlk)]
      cases decide (aft q t.rows=0) with
      | true=>exact ⟨rfl,by decide⟩
      | false=>exact ⟨rfl,rfl,_,rfl,rfl⟩
 rw [decide_eq_false h2,cond_false,Bool.false_and,cond_false,cond_false,hany]
 cases hlg:ze4 o with
 | true=>
  have hlg':(decide (o=4)||decide (o=14)||decide (o=15))=true:=hlg;rw [hlg',cond_true,cond_true];unfold logV truH;rw [show (rs.any fun r=>!(r.t==true))=rs.any fun r=>!r.t by congr 1;funext r;cases r.t<;>rfl]
  cases ha:rs.any (fun r=>!r.t) with
  | true=>exact ⟨rfl,by decide⟩
  | false=>
   rw [cond_false,cond_false]
   have ht:∀ i,i<ks.length->(ks.getD i default).t=true:=fun i hi=>by
    rw [<-(hsnd i hi).t];simpa using anyF ha (show i<rs.length by omega)
   rcases v6i.1 hlg with rfl | rfl | rfl
   . have hl:=l1 (.inr rfl);have hs:=hsnd 0 (by omega);have ht:=ht 0 (by omega);rw [ygp (hlen.trans hl)];generalize ks.getD 0 default=k0 at hs ht ⊢;generalize rs.getD 0 default=r0 at hs ⊢
     rcases k0 with ⟨c,d⟩ | v
     . obtain ⟨e1,rfl,rfl⟩:=hs
       refine ⟨rfl,rfl,?_,?_⟩<;>simp [truV,Kn.c,Kn.d]
     . cases ht
   all_goals
    have hl:=l2 h2 (by decide);have hs0:=hsnd 0 (by omega);have ht0:=ht 0 (by omega);have hs1:=hsnd 1 (by omega);have ht1:=ht 1 (by omega);rw [vpm (hlen.trans hl)];generalize ks.getD 0 default=k0 at hs0 ht0 ⊢;generalize rs.getD 0 default=r0 at hs0 ⊢;generalize ks.getD 1 default=k1 at hs1 ht1 ⊢;generalize rs.getD 1 default=r1 at hs1 ⊢
    rcases k0 with ⟨c,d⟩ | v
    . rcases k1 with ⟨c,d⟩ | v
      . obtain ⟨e1,rfl,rfl⟩:=hs0;obtain ⟨f1,rfl,rfl⟩:=hs1
        refine ⟨rfl,rfl,?_,?_⟩<;>simp [truV,Kn.c,Kn.d]
      . cases ht1
    . cases ht0
 | false=>
  have hlg':(decide (o=4)||decide (o=14)||decide (o=15))=false:=hlg;rw [hlg',cond_false,cond_false]
  have hn4:o≠4:=fun e=>by rw [e] at hlg;cases hlg
  have hn14:o≠14:=fun e=>by rw [e] at hlg;cases hlg
  have hn15:o≠15:=fun e=>by rw [e] at hlg;cases hlg
  have hl:=l2 h2 hn4;have hs0:=hsnd 0 (by omega);have hs1:=hsnd 1 (by omega);have e2:=vpm (hlen.trans hl)
  rw [show rs.any (fun r=>!(r.t==false))=((rs.getD 0 default).t||(rs.getD 1 default).t) by
   rw [e2];simp only [List.any_cons,List.any_nil,Bool.or_false,List.getD_cons_zero,List.getD_cons_succ]
   cases (rs.getD 0 default).t<;>cases (rs.getD 1 default).t<;>rfl]
  clear e2 hany;generalize ks.getD 0 default=k0 at hs0 ⊢;generalize rs.getD 0 default=r0 at hs0 ⊢;generalize ks.getD 1 default=k1 at hs1 ⊢;generalize rs.getD 1 default=r1 at hs1 ⊢
  rcases k0 with ⟨c,d⟩ | v
  . unfold ariV;rw [hs0.1];exact ⟨rfl,by decide⟩
  . rcases k1 with ⟨c',d'⟩ | v'
    . unfold ariV;rw [hs1.1,Bool.or_true];exact ⟨rfl,by decide⟩
    . rw [hs0.1,hs1.1];exact zmi (by omega) hs0 hs1
theorem xus {V:Vq} {Ie:Vi} {T:Vt} (hV:∀ s,(ycr V s=none/\ycr Ie s=none)\/∃ q,ycr V s=some q/\ycr Ie s=some (Iv.pt q)) (hT:∀ s t,ycr T s=some t->tbOk t=true) :
 ∀ x:Ex,x.shaped=true->x.xi4=false->PtR (x.hul Ie T) (x.cal V T):=by
 refine Ex.ind (fun x ih hsh hcl=>?_);rw [Ex.xg3,Bool.and_eq_true,List.all_eq_true] at hsh;rw [Ex.wd9,Bool.or_eq_false_iff,decide_eq_false_iff_not,List.any_eq_false] at hcl;obtain ⟨hnode,hargs⟩:=hsh;obtain ⟨h3,hcalls⟩:=hcl
 have ih':∀ y∈x.args,PtR (y.hul Ie T) (y.cal V T):=fun y hy=>ih y hy (hargs y hy) (by simpa using hcalls y hy)
 clear ih;rw [Ex.y5j,Ex.vwm];by_cases h0:x.op=0
 . rw [decide_eq_true h0,cond_true,cond_true];unfold vlw v43
   rcases v4u x.unit with ⟨u,hu,hq⟩ | ⟨e,he,hu⟩
   . unfold facO;rw [hu];exact ⟨rfl,rfl,_,rfl,rfl⟩
   . rw [hu,show decide (¬e=0)=true from decide_eq_true he,cond_true,cond_true];exact ⟨rfl,by decide⟩
 rw [decide_eq_false h0,cond_false,cond_false];by_cases h1:x.op=1
 . rw [decide_eq_true h1,cond_true,cond_true];unfold yy3 ztc
   rcases hV x.name with ⟨e1,e2⟩ | ⟨q,e1,e2⟩
   . rw [e1,e2];exact ⟨rfl,by decide⟩
   . rw [e1,e2];refine ⟨rfl,rfl,_,rfl,?_⟩;show Iv.pt q=Iv.pt (q+((0:Int):Rat));rw [show q+((0:Int):Rat)=q from Rat.add_zero q]
 rw [decide_eq_false h1,cond_false,cond_false];obtain ⟨o1,o2,a1,a2,a3⟩:=xab hnode h3 h0 h1;by_cases h5:x.op=5
 . rw [decide_eq_true h5,cond_true,cond_true];have hl:=a2 h5;have i0:=ih' _ (w4t (show 0<x.args.length by omega));have i1:=ih' _ (w4t (show 1<x.args.length by omega));have i2:=ih' _ (w4t (show 2<x.args.length by omega));unfold chV chH;rw [getD_map (show 0<x.args.length by omega),getD_map (show 1<x.args.length by omega),getD_map (show 2<x.args.length by omega),getD_map (show 0<x.args.length by omega),getD_map (show 1<x.args.length by omega),getD_map (show 2<x.args.length by omega)];generalize (x.args.getD 0 default).hul Ie T=k0 at i0 ⊢;generalize (x.args.getD 1 default).hul Ie T=k1 at i1 ⊢;generalize (x.args.getD 2 default).hul Ie T=k2 at i2 ⊢;generalize (x.args.getD 0 default).cal V T=r0 at i0 ⊢;generalize (x.args.getD 1 default).cal V T=r1 at i1 ⊢;generalize (x.args.getD 2 default).cal V T=r2 at i2 ⊢
   rcases k0 with e | ⟨c,d⟩ | v
   . obtain ⟨e1,e2⟩:=i0;rw [e1,decide_eq_true e2];exact ⟨rfl,e2⟩
   . obtain ⟨e1,e2,rfl,rfl⟩:=i0;rw [e1,e2];simp only [not_true_eq_false,decide_false,cond_false,Bool.not_true]
     cases r0.1.i with
     | false=>exact i2
     | true=>
      simp only [Bool.not_true,cond_false,cond_true]
      rcases k1 with e | a
      . exact i1
      . exact i1
   . obtain ⟨e1,e2,_⟩:=i0;rw [e1,e2];exact ⟨rfl,by decide⟩
 rw [decide_eq_false h5,cond_false,cond_false]
 rcases zow ih' with ⟨e,h6,h7,h8⟩ | ⟨ks,rs,h6,h7,h8,h9,h10⟩
 . rw [h6,h7];exact ⟨rfl,h8⟩
 . rw [h6,h7];exact vzj hT (h9.trans h8.symm) (by rw [h8];exact h10) ⟨o1,o2⟩ h3 h5 (fun h=>by rw [h8];exact a1 h) (fun p q=>by rw [h8];exact a3 p q h5)
end Go.Hp.T
namespace Go.Hp.T
open Go Go.RowKit Go.Slot Go.Hp Go.Slot.T
open Go.Proofs.Tryz (prog)
set_option maxRecDepth 10000
set_option maxHeartbeats 4000000
variable {Γ:List (Nat×List Cell)}
theorem n0:((0:Nat):Int)=0:=rfl
end Go.Hp.T
namespace Go.Hp.T
open Go Go.RowKit Go.Slot Go.Hp
set_option maxRecDepth 10000
theorem w9l (s:ByteArray):seq s s=true:=by rw [z9f];exact decide_eq_true rfl
theorem yl1 {α:Type} (d:α) (s:ByteArray):∀ V:List (ByteArray×α),ycr (updF V s d) s=some d
 | []=>by simp [updF,ycr,w9l]
 | p::V=>by
  unfold updF
  cases h:seq s p.1 with
  | true=>simp [ycr,w9l]
  | false=>simp [ycr,h,yl1 d s V]
theorem zxc {α:Type} (d:α) (s:ByteArray):∀ V:List (ByteArray×α),(updF V s d).length<=V.length+1/\((updF V s d).length=V.length+1->ycr V s=none)
 | []=>⟨by simp [updF],fun _=>rfl⟩
 | p::V=>by
  unfold updF
  cases h:seq s p.1 with
  | true=>exact ⟨by simp,fun h2=>by simp at h2⟩
  | false=>
   have:=zxc d s V
   exact ⟨by simp;omega,fun h2=>by simp at h2;simp [ycr,h,this.2 h2]⟩
end Go.Hp.T
