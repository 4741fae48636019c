/- The proof, part E32: Qb, Nb, Ih, Ne, Nf, Ua, Ra, Rb. -/
import Derived.Test.YtmegdbbbllffkaaGreatDoorE31
import Derived.Test.YtmegdbbbllffkaaGreatDoorE26
import Derived.Test.YtmegdbbbllffkaaGreatDoorE27
import Derived.Test.YtmegdbbbllffkaaGreatDoorE29
namespace Go.Hp.T
open Go Go.RowKit Go.Slot Go.Hp Go.Slot.T
open Go.Proofs.Tryz (prog)
set_option maxRecDepth 10000
set_option maxHeartbeats 4000000
variable {Γ:List (Nat×List Cell)}
variable {place:Nat->Option (Nat×Nat)} {cs:List HC} {r:List (Nat×SV)} {a b:Nat}
def vvx (place:Nat->Option (Nat×Nat)) (cs:List HC) (ps:List (Nat×SV)):Option (List HC):=xl4 place cs ps
def zoi (place:Nat->Option (Nat×Nat)) (cs:List HC) (r:List (Nat×SV)) (a:Option (Nat×Nat)) (b:Option (List HC)):Option (List HC):=match a,b with
 | some (off,size),some us=>if us.length=size/\off+size<=cs.length then xl4 place (cs.take off++us++cs.drop (off+size)) r else none
 | _,_=>none
def v6k (place:Nat->Option (Nat×Nat)) (cs:List HC) (r:List (Nat×SV)) (b:Bool):Option (List HC):=bif b then xl4 place cs r else none
theorem xic {ps:List (Nat×SV)}:xl4 place cs ps=vvx place cs ps:=rfl
theorem z7y:vvx place cs []=some cs:=rfl
theorem yjk {i:Nat} {x:SV}:vvx place cs ((i,x)::r)=zoi place cs r (place i) (ymo x):=by
 unfold vvx;rw [xl4];rfl
theorem xhl:Nat.beq a b=decide (a=b):=by rw [Bool.eq_iff_iff,decide_eq_true_iff,Nat.beq_eq]
theorem wpe:Nat.ble a b=decide (a<=b):=by rw [Bool.eq_iff_iff,decide_eq_true_iff,Nat.ble_eq]
theorem vtb (h:a<=b):Nat.ble a b=true:=Nat.ble_eq_true_of_le h
theorem zsy {us:List HC} {off size:Nat}:zoi place cs r (some (off,size)) (some us)=v6k place (cs.take off++(us++cs.drop (off+size))) r (Nat.beq us.length size&&Nat.ble (off+size) cs.length):=by
 rw [<-List.append_assoc];show (if us.length=size/\off+size<=cs.length then xl4 place (cs.take off++us++cs.drop (off+size)) r else none)=_;rw [xhl,wpe];by_cases h1:us.length=size
 . by_cases h2:off+size<=cs.length
   . rw [if_pos ⟨h1,h2⟩,decide_eq_true h1,decide_eq_true h2];rfl
   . rw [if_neg (fun h=>h2 h.2),decide_eq_false h2,Bool.and_false];rfl
 . rw [if_neg (fun h=>h1 h.1),decide_eq_false h1];rfl
theorem vi4:v6k place cs r true=vvx place cs r:=rfl
attribute [go_sem ↓ 30000] xic
attribute [go_sem] z7y yjk zsy vi4 xhl vtb
theorem n12:((12:Nat):Int)=12:=rfl
attribute [go_sem] n12
theorem yug (s:ByteArray):isWord s=(seq ⟨#[110,111,116]⟩ s||seq ⟨#[105,102]⟩ s||seq ⟨#[116,104,101,110]⟩ s||seq ⟨#[101,108,115,101]⟩ s||seq ⟨#[97,110,100]⟩ s||seq ⟨#[111,114]⟩ s||seq ⟨#[108,111,111,107]⟩ s||seq ⟨#[109,105,110]⟩ s||seq ⟨#[109,97,120]⟩ s||seq ⟨#[105,110,116,111]⟩ s||seq ⟨#[116,111]⟩ s||seq ⟨#[97,115]⟩ s):=by
 unfold isWord;simp only [@wda s]
theorem x1b (s:ByteArray):CallsD Γ prog 101 [.one (cS s)] (.one (cB (isWord s))):=by
 rw [yug];refine CallsD.run [] Go.Proofs.Tryz.func101 rfl rfl rfl ?_;simp only [Go.Proofs.Tryz.f101];refine hgR ?_
 repeat' ((first | refine hfk ?_ ?_<;>intros | refine hik ?_ | with_reducible refine zum ?_ | with_reducible refine v3j ?_)<;>refine hgS ?_)
 all_goals refine lfE ?_;first | exact trivial | rfl
def xyh (o:Int):Int:=bif decide (o=0)||decide (o=1) then 0 else bif decide (o=2)||decide (o=4) then 1 else bif decide (o=5) then 3 else bif decide (o=6)||decide (o=7)||decide (o=8)||decide (o=9)||decide (o=10)||decide (o=11)||decide (o=12)||decide (o=13)||decide (o=14)||decide (o=15) then 2 else -1
theorem yr8 (o:Int):CallsD Γ prog 177 [.one (cI o)] (.one (cI (xyh o))):=by
 refine CallsD.run [] Go.Proofs.Tryz.func177 rfl rfl rfl ?_;simp only [Go.Proofs.Tryz.f177];refine hgR ?_
 repeat' ((first | refine hfk ?_ ?_<;>intros | refine hik ?_)<;>refine hgS ?_)
 all_goals refine lf1 @xyh.eq_def ?_;first | exact trivial | rfl
theorem zx8 (s:ByteArray) (hs:s.size<=1073741824):CallsD Γ prog 176 [.one (cS s)] (.one (cB (isNamed s))):=by
 refine CallsD.run [] Go.Proofs.Tryz.func176 rfl rfl rfl ?_;simp only [Go.Proofs.Tryz.f176];refine hgR ?_
 repeat' ((first | refine hfk ?_ ?_<;>intros | refine hik ?_ | with_reducible first | refine v6l (z2u s hs) ?_ | refine vgi (z2u s hs) ?_ | refine v6l (x1b s) ?_ | refine vgi (x1b s) ?_)<;>refine hgS ?_)
 all_goals refine lf1 @isNamed.eq_def ?_;first | exact trivial | rfl
def xye (x:Ex):Bool:=
 bif decide (x.op=0) then wku x.unit&&decide (0<=x.n)&&decide (x.n<=1099511627776)&&decide (x.name.size=0)&&decide ((x.args.length:Int)=0) else
 bif decide (¬x.n=0)||decide (¬x.unit.size=0) then false else
 bif decide (x.op=3) then isNamed x.name&&decide (1<=(x.args.length:Int))&&decide ((x.args.length:Int)<=6) else
 bif decide (x.op=1)||decide (x.op=2) then isNamed x.name&&decide ((x.args.length:Int)=xyh x.op) else
 decide (x.name.size=0)&&decide (0<(x.args.length:Int))&&decide ((x.args.length:Int)=xyh x.op)
theorem wic (x:Ex) (hx:x.Sm):CallsD Γ prog 131 [.agg (exC x)] (.one (cB (xye x))):=by
 have hu:=hx.u;have hs:=hx.s;have hl:=hx.len;obtain ⟨q,hq⟩:∃ q,CallsD Γ prog 175 [.one (cS x.unit)] (.tup [.one (cS q),.one (cB (wku x.unit))]):=yza x.unit hu;refine CallsD.run [] Go.Proofs.Tryz.func131 rfl rfl rfl ?_;simp only [Go.Proofs.Tryz.f131];refine hgR ?_
 repeat' ((first | refine hfk ?_ ?_<;>intros | refine hik ?_ | with_reducible first | refine hcA ?_ | refine hcB ?_ | refine v6l (zx8 x.name hs) ?_ | refine vgi (zx8 x.name hs) ?_ | refine v6l (yr8 _) ?_ | refine vgi (yr8 _) ?_)<;>refine hgS ?_)
 all_goals refine lf1 @xye.eq_def ?_;first | exact trivial | rfl
mutual
def Ex.rsh:Ex->Bool
 | .mk o n u s l=>xye (.mk o n u s l)&&Ex.rshL l
def Ex.rshL:List Ex->Bool
 | []=>true
 | y::l=>Ex.rsh y&&Ex.rshL l
end
theorem Ex.wam:∀ l:List Ex,Ex.rshL l=l.all Ex.rsh
 | []=>by rw [Ex.rshL];rfl
 | y::l=>by rw [Ex.rshL,Ex.wam l];rfl
theorem Ex.xss (x:Ex):x.rsh=(xye x&&x.args.all Ex.rsh):=by cases x;rw [Ex.rsh,Ex.wam];rfl
theorem all_true {p:Ex->Bool} {l:List Ex} (h:∀ j,j<l.length->p (l.getD j default)=true):l.all p=true:=by
 rw [List.all_eq_true];intro y hy;obtain ⟨j,hj,rfl⟩:=List.getElem_of_mem hy
 have:=h j hj
 rwa [show l.getD j default=l[j] from by simp [hj]] at this
theorem all_false {p:Ex->Bool} {l:List Ex} {j:Nat} (hj:j<l.length) (h:p (l.getD j default)=false):l.all p=false:=by
 cases e:l.all p with
 | false=>rfl
 | true=>rw [List.all_eq_true.1 e _ (w4t hj)] at h;cases h
theorem zzr:∀ x:Ex,x.Sm->CallsD Γ prog 74 [.agg (exC x)] (.one (cB x.rsh)):=by
 refine Ex.ind (fun x ih hx=>?_);have hl:=hx.len;refine CallsD.run [] Go.Proofs.Tryz.func74 rfl rfl rfl ?_;simp only [Go.Proofs.Tryz.f74];refine hgR ?_
 repeat' ((first | refine hfk ?_ ?_<;>intros | refine hik ?_ | with_reducible first | refine v6l (wic x hx) ?_ | refine vgi (wic x hx) ?_)<;>refine hgS ?_)
 . rename_i h0;rw [Ex.xss,h0];exact RLe.ofEq rfl
 . rename_i h0;refine y55 [1] (fun n:Nat=>[(3,.one (.dat (cI n)))]) (fun _=>[.box ((exC x).map .dat) (some 24)]) (fun n=>n<=x.args.length/\∀ j,j<n->(x.args.getD j default).rsh=true) (fun n=>x.args.length-n) 0 ⟨Nat.zero_le _,fun j hj=>by omega⟩ ?_ ?_
   . refine hg ?_;exact StH.same svl rfl
   intro n hn;obtain ⟨hn,hj⟩:=hn;refine hg ?_
   repeat' ((first | refine hfk ?_ ?_<;>intros | refine hik ?_ | with_reducible first | refine v6l (ih _ (w4t (show n<x.args.length by omega)) (hx.arg _ (w4t (show n<x.args.length by omega)))) ?_ | refine vgi (ih _ (w4t (show n<x.args.length by omega)) (hx.arg _ (w4t (show n<x.args.length by omega)))) ?_)<;>refine hgS ?_)
   . rename_i h1;rw [Ex.xss,all_false (by omega) h1,Bool.and_false];exact RLe.ofEq rfl
   . rename_i h1;exact ⟨n+1,⟨by omega,xf4 hj h1⟩,by omega,StH.same svl rfl⟩
   . have e:n=x.args.length:=by omega
     subst e;rw [Ex.xss,h0,all_true hj];exact RLe.ofEq rfl
mutual
def Ex.rsz:Ex->Int->Int->Int
 | .mk _ _ _ _ l,n,lv=>bif decide (n<1)||decide (lv<1) then -1 else Ex.rszL l n lv 1
def Ex.rszL:List Ex->Int->Int->Int->Int
 | [],_,_,k=>k
 | y::l,n,lv,k=>bif decide (Ex.rsz y (n-k) (lv-1)<0) then -1 else Ex.rszL l n lv (k+Ex.rsz y (n-k) (lv-1))
end
theorem Ex.vj1 (x:Ex) (n lv:Int):x.rsz n lv=bif decide (n<1)||decide (lv<1) then -1 else Ex.rszL x.args n lv 1:=by cases x;rw [Ex.rsz];rfl
theorem Ex.wzs:∀(l:List Ex),(∀ y∈l,∀ n lv:Int,-1<=y.rsz n lv/\(0<=y.rsz n lv->y.rsz n lv<=n))->∀ n lv k:Int,1<=k->k<=n->-1<=Ex.rszL l n lv k/\(0<=Ex.rszL l n lv k->Ex.rszL l n lv k<=n)
 | [],_,n,lv,k,h1,h2=>by rw [Ex.rszL];omega
 | y::l,h,n,lv,k,h1,h2=>by
  rw [Ex.rszL];have hy:=h y (by simp) (n-k) (lv-1);generalize y.rsz (n-k) (lv-1)=m at hy;by_cases hm:m<0
  . rw [decide_eq_true hm];simp only [cond_true];omega
  . rw [decide_eq_false hm];exact Ex.wzs l (fun z hz=>h z (by simp [hz])) n lv (k+m) (by omega) (by omega)
theorem Ex.z2n:∀(x:Ex) (n lv:Int),-1<=x.rsz n lv/\(0<=x.rsz n lv->x.rsz n lv<=n):=by
 refine Ex.ind (fun x ih n lv=>?_);rw [Ex.vj1];by_cases h1:n<1
 . rw [decide_eq_true h1];simp only [Bool.true_or,cond_true];omega
 . by_cases h2:lv<1
   . rw [decide_eq_true h2];simp only [Bool.or_true,cond_true];omega
   . rw [decide_eq_false h1,decide_eq_false h2];exact Ex.wzs x.args ih n lv 1 (by omega) (by omega)
theorem xcl:∀ x:Ex,x.Sm->∀ n lv:Int,n<=1000->lv<=1000->0<=n->0<=lv->CallsD Γ prog 52 [.agg (exC x),.one (cI n),.one (cI lv)] (.one (cI (x.rsz n lv))):=by
 refine Ex.ind (fun x ih hx n lv hn hlv hn0 hlv0=>?_);have hl:=hx.len;refine CallsD.run [] Go.Proofs.Tryz.func52 rfl rfl rfl ?_;simp only [Go.Proofs.Tryz.f52];refine hgR ?_
 repeat' ((first | refine hfk ?_ ?_<;>intros | refine hik ?_)<;>refine hgS ?_)
 . rename_i h1 _ h2 _;exact RLe.ofEq (by rw [Ex.vj1,decide_eq_true h2,Bool.or_true];rfl)
 . rename_i h1 _ h2 _
   have e0:x.rsz n lv=Ex.rszL x.args n lv 1:=by rw [Ex.vj1,decide_eq_false h1,decide_eq_false h2];rfl
   refine y55 [1,2,3] (fun p:Nat×Int=>[(7,.one (.dat (cI p.2))),(8,.one (.dat (cI p.1)))]) (fun _=>[.box ((exC x).map .dat) (some 24)]) (fun p=>p.1<=x.args.length/\1<=p.2/\p.2<=n/\Ex.rszL (x.args.drop p.1) n lv p.2=Ex.rszL x.args n lv 1) (fun p=>x.args.length-p.1) (0,1) ⟨Nat.zero_le _,by simp only;omega,by simp only;omega,rfl⟩ ?_ ?_
   . refine hg ?_;exact StH.same svl rfl
   rintro ⟨i,k⟩ ⟨hi,hk1,hk2,hc⟩;simp only at hi hk1 hk2 hc;refine hg ?_;refine vnx (fun hlt hd=>?_) (fun hlt _=>?_)
   . have hlt':i<x.args.length:=by omega
     have hy:=w4t hlt';have hcc:=ih _ hy (hx.arg _ hy) (n-k) (lv-1) (by omega) (by omega) (by omega) (by omega);have hb:=Ex.z2n (x.args.getD i default) (n-k) (lv-1);rw [xqz hlt',Ex.rszL] at hc;generalize (x.args.getD i default).rsz (n-k) (lv-1)=m at hcc hb hc;rw [e0,<-hc];clear e0 hc;refine hg1 @hd ?_
     repeat' ((first | refine hfk ?_ ?_<;>intros | refine hik ?_ | with_reducible first | refine hcA ?_ | refine hcB ?_)<;>refine hgS ?_)
     . exact RLe.ofEq rfl
     . exact ⟨(i+1,k+m),⟨by simp only;omega,by simp only;omega,by simp only;omega,rfl⟩,by simp only;omega,StH.same svl rfl⟩
   . refine hg ?_;rw [e0,<-hc,List.drop_eq_nil_of_le (by omega),Ex.rszL];exact RLe.ofEq rfl
 . rename_i h1 _;exact RLe.ofEq (by rw [Ex.vj1,decide_eq_true h1];rfl)
theorem rFew (x:Ex) (hx:x.Sm) (n lv:Int) (hn:n<=1000) (hlv:lv<=1000) (hn0:0<=n) (hlv0:0<=lv):CallsD Γ prog 22 [.agg (exC x),.one (cI n),.one (cI lv)] (.one (cB (decide (0<=x.rsz n lv)))):=by
 have h:=xcl (Γ:=Γ) x hx n lv hn hlv hn0 hlv0;refine CallsD.run [] Go.Proofs.Tryz.func22 rfl rfl rfl ?_;simp only [Go.Proofs.Tryz.f22];refine hgR ?_
 repeat' ((first | refine hfk ?_ ?_<;>intros | refine hik ?_ | with_reducible first | refine hcA ?_ | refine hcB ?_)<;>refine hgS ?_)
 all_goals exact RLe.ofEq rfl
def ykf (x:Ex):Bool:=decide (0<=x.rsz 200 20)&&x.rsh
theorem zox (x:Ex) (hx:x.Sm):CallsD Γ prog 35 [.agg (exC x)] (.one (cB (ykf x))):=by
 have h:=rFew (Γ:=Γ) x hx 200 20 (by decide) (by decide) (by decide) (by decide);refine CallsD.run [] Go.Proofs.Tryz.func35 rfl rfl rfl ?_;simp only [Go.Proofs.Tryz.f35];refine hgR ?_
 repeat' ((first | refine hfk ?_ ?_<;>intros | refine hik ?_ | with_reducible first | refine hcA ?_ | refine hcB ?_ | refine v6l (zzr x hx) ?_ | refine vgi (zzr x hx) ?_)<;>refine hgS ?_)
 all_goals (refine RLe.ofEq ?_;conv=>simp only [Bool.and_true,Bool.true_and,Bool.and_false,Bool.false_and,Bool.or_true,Bool.true_or,Bool.or_false,Bool.false_or,Bool.not_true,Bool.not_false,decide_true,decide_false,not_true_eq_false,not_false_eq_true,wgp,if_true,if_false,Bool.and_self,Bool.or_self,cond_true,cond_false,List.length_map,ne_eq,Int.reduceEq,Int.reduceLT,Int.reduceLE, *,ykf]);first | exact trivial | rfl
theorem v7c (s:ByteArray):CallsD Γ prog 66 [.one (cS s)] (.one (cB (isWord s))):=by
 refine CallsD.run [] Go.Proofs.Tryz.func66 rfl rfl rfl ?_;simp only [Go.Proofs.Tryz.f66];refine hgR ?_
 repeat' ((first | refine hfk ?_ ?_<;>intros | refine hik ?_)<;>refine hgS ?_)
 all_goals refine lf1 @isWord.eq_def ?_;first | exact trivial | rfl
theorem xd2 (s:ByteArray) (hs:s.size<=1099511627776):CallsD Γ prog 145 [.one (cS s)] (.one (cB (isNamed s))):=by
 refine CallsD.run [] Go.Proofs.Tryz.func145 rfl rfl rfl ?_;simp only [Go.Proofs.Tryz.f145];refine hgR ?_
 repeat' ((first | refine hfk ?_ ?_<;>intros | refine hik ?_ | with_reducible first | refine v6l (vv6 s hs) ?_ | refine vgi (vv6 s hs) ?_ | refine v6l (v7c s) ?_ | refine vgi (v7c s) ?_)<;>refine hgS ?_)
 all_goals refine lf1 @isNamed.eq_def ?_;first | exact trivial | rfl
theorem w3e (o:Int):CallsD Γ prog 146 [.one (cI o)] (.tup [.one (cS (zgj o)),.one (cB (isOp o))]):=by
 refine CallsD.run [] Go.Proofs.Tryz.func146 rfl rfl rfl ?_;simp only [Go.Proofs.Tryz.f146];refine hgR ?_
 repeat' ((first | refine hfk ?_ ?_<;>intros | refine hik ?_)<;>refine hgS ?_)
 all_goals refine lf2 @isOp.eq_def @zgj.eq_def ?_;first | exact trivial | rfl
theorem zyp (x:Ex) (hx:x.Sm):CallsD Γ prog 95 [.agg (exC x)] (.one (cB (yxn x))):=by
 have hu:=hx.u;have hs:=hx.s;have hl:=hx.len;obtain ⟨q,hq⟩:∃ q,CallsD Γ prog 144 [.one (cS x.unit)] (.tup [.one (cS q),.one (cB (wku x.unit))]):=yph x.unit (by omega);refine CallsD.run [] Go.Proofs.Tryz.func95 rfl rfl rfl ?_;simp only [Go.Proofs.Tryz.f95];refine hgR ?_
 repeat' ((first | refine hfk ?_ ?_<;>intros | refine hik ?_ | with_reducible first | refine hcA ?_ | refine hcB ?_ | refine v6l (xd2 x.name (by omega)) ?_ | refine vgi (xd2 x.name (by omega)) ?_ | refine v6l (w3e _) ?_ | refine vgi (w3e _) ?_)<;>refine hgS ?_)
 all_goals refine lf1 @yxn.eq_def ?_;first | exact trivial | rfl
theorem xcj (l:List Ex) (f:FuncId) (p:Ex->Bool) (hl:l.length<=1073741824) (h:∀ y∈l,CallsD Γ prog f [.agg (exC y)] (.one (cB (p y)))) :
 CallsD Γ prog 120 [.one (.sl 5 (l.map Ex.cells)),fN f] (.one (cI (idxF p l))):=by
 refine CallsD.run [] Go.Proofs.Tryz.func120 rfl rfl rfl ?_;simp only [Go.Proofs.Tryz.f120];refine hgR ?_;refine y55 [0,1,7] (fun i:Nat=>[(8,.one (.dat (cI i)))]) (fun _=>[]) (fun i=>i<=l.length/\∀ j,j<i->p (l.getD j default)=false) (fun i=>l.length-i) 0 ⟨Nat.zero_le _,fun j hj=>by omega⟩ ?_ ?_
 . refine hg ?_;exact StH.same svl rfl
 intro i hi;obtain ⟨hi,hj⟩:=hi;refine hg ?_
 repeat' ((first | refine hfk ?_ ?_<;>intros | refine hik ?_ | with_reducible first | refine v6l (h _ (w4t (show i<l.length by omega))) ?_ | refine vgi (h _ (w4t (show i<l.length by omega))) ?_)<;>refine hgS ?_)
 . rename_i hp;rw [(yo6 hi hj).2 (by omega) hp];exact RLe.ofEq rfl
 . rename_i hp;refine ⟨i+1,⟨by omega,fun j hj'=>?_⟩,by omega,StH.same svl rfl⟩
   rcases Nat.lt_or_eq_of_le (Nat.le_of_lt_succ hj') with h2 | h2
   . exact hj j h2
   . rw [h2];exact hp
 . rw [(yo6 hi hj).1 (by omega)];exact RLe.ofEq rfl
theorem ynb (l:List Ex) (f:FuncId) (p:Ex->Bool) (hl:l.length<=1073741824) (h:∀ y∈l,CallsD Γ prog f [.agg (exC y)] (.one (cB (p y)))) :
 CallsD Γ prog 63 [.one (.sl 5 (l.map Ex.cells)),fN f] (.one (cB (l.any p))):=by
 refine CallsD.run [] Go.Proofs.Tryz.func63 rfl rfl rfl ?_;simp only [Go.Proofs.Tryz.f63];refine hgR ?_
 repeat' ((first | refine hfk ?_ ?_<;>intros | refine hik ?_ | with_reducible first | refine v6l (xcj l f p hl h) ?_ | refine vgi (xcj l f p hl h) ?_)<;>refine hgS ?_)
 exact RLe.ofEq (by rw [<-wb5])
theorem zl5:∀ x:Ex,x.Sm->CallsD Γ prog 47 [.agg (exC x)] (.one (cB x.shaped)):=by
 refine Ex.ind (fun x ih hx=>?_);have hl:=hx.len
 have hw:∀ y∈x.args,CallsD Γ prog 94 [.agg (exC y)] (.one (cB (!y.shaped))):=fun y hy=>by
  refine CallsD.run [] Go.Proofs.Tryz.func94 rfl rfl rfl ?_;simp only [Go.Proofs.Tryz.f94];refine hgR ?_
  repeat' ((first | refine hfk ?_ ?_<;>intros | refine hik ?_ | with_reducible first | refine v6l (ih y hy (hx.arg y hy)) ?_ | refine vgi (ih y hy (hx.arg y hy)) ?_)<;>refine hgS ?_)
  exact RLe.ofEq rfl
 refine CallsD.run [] Go.Proofs.Tryz.func47 rfl rfl rfl ?_;simp only [Go.Proofs.Tryz.f47];refine hgR ?_
 repeat' ((first | refine hfk ?_ ?_<;>intros | refine hik ?_ | with_reducible first | refine v6l (zyp x hx) ?_ | refine vgi (zyp x hx) ?_ | refine v6l (ynb x.args _ _ hl hw) ?_ | refine vgi (ynb x.args _ _ hl hw) ?_)<;>refine hgS ?_)
 all_goals refine RLe.ofEq ?_
 . rename_i h;rw [Ex.xg3,h];simp [List.all_eq_not_any_not]
 . rename_i h;rw [Ex.xg3,h];rfl
abbrev nB (n:Int) (T:Option TypeId):SB:=.box [.dat (cI n)] T
theorem xmk:∀ x:Ex,x.Sm->∀(n lv:Int) (T:Option TypeId),0<=n->n<=1000->0<=lv->lv<=1000->
 vfe Γ prog 46 [nB n T] [.agg ((exC x).map .dat),.one (.ptr 0 0),.one (.dat (cI lv))] [nB (x.cnt n lv).2 T] (.one (.dat (cB (x.cnt n lv).1))):=by
 refine Ex.ind (fun x ih hx n lv T h0 h1 h2 h3=>?_);have hl:=hx.len
 have fin:∀(b:Bool) (k:Int),x.cnt n lv=(b,k)->StH Γ [nB n T] [SV.one (.dat (cB b))] [nB k T,.box ((exC x).map .dat) (some 24)] [SV.one (.dat (cB (x.cnt n lv).1))] [nB (x.cnt n lv).2 T]:=fun b k h=>by
  rw [h];exact StH.done 1 rfl (by kernel_rfl) rfl rfl
 refine vfe.run [] Go.Proofs.Tryz.func46 rfl rfl ?_;simp only [Go.Proofs.Tryz.f46];refine hgR ?_
 repeat' ((first | refine hfk ?_ ?_<;>intros | refine hik ?_)<;>refine hgS ?_)
 . exact fin _ _ (by rw [Ex.vrw];simp only [*];rfl)
 . have e0:x.cnt n lv=Ex.cntL x.args (n+1) (lv+1):=by rw [Ex.vrw];simp only [*];rfl
   refine y55 [1,2,23,24] (fun p:Nat×Int=>[(25,.one (.dat (cI p.1)))]) (fun p=>[nB p.2 T,.box ((exC x).map .dat) (some 24)]) (fun p=>p.1<=x.args.length/\0<=p.2/\p.2<=200/\Ex.cntL (x.args.drop p.1) p.2 (lv+1)=Ex.cntL x.args (n+1) (lv+1)) (fun p=>x.args.length-p.1) (0,n+1) ⟨Nat.zero_le _,by simp only;omega,by simp only;omega,rfl⟩ ?_ ?_
   . refine hg ?_;exact StH.same svl rfl
   rintro ⟨i,m⟩ ⟨hi,hm0,hm1,hc⟩;simp only at hi hm0 hm1 hc;refine hg ?_;refine vnx (fun hlt hd=>?_) (fun hlt _=>?_)
   . have hlt':i<x.args.length:=by omega
     have hy:=w4t hlt';rw [xqz hlt'] at hc;refine hg ?_;refine z4m [0] (ih _ hy (hx.arg _ hy) m (lv+1) T (by omega) (by omega) (by omega) (by omega)) rfl (by decide) rfl rfl rfl ?_;have hstep:=hc;rw [Ex.cntL] at hstep;generalize hr:(x.args.getD i default).cnt m (lv+1)=r at hstep ⊢;obtain ⟨b,k⟩:=r;refine hg ?_
     cases b with
     | true=>
      have hk:=Ex.v24 _ _ _ _ hr;refine hg ?_;exact ⟨(i+1,k),⟨by simp only;omega,by simp only;omega,hk.2,hstep⟩,by simp only;omega,StH.back [1,2,23,24,25] 2 2 2 rfl rfl rfl rfl rfl (by kernel_rfl) (StH.same svl rfl)⟩
     | false=>
      refine hg ?_;rw [e0,<-hstep];exact StH.done 1 rfl (by kernel_rfl) rfl rfl
   . refine hg ?_;rw [e0,<-hc,List.drop_eq_nil_of_le (by omega),Ex.cntL];exact StH.done 1 rfl (by kernel_rfl) rfl rfl
 . exact fin _ _ (by rw [Ex.vrw];simp only [*];rfl)
theorem xz2 (x:Ex) (hx:x.Sm):CallsD Γ prog 18 [.agg (exC x)] (.one (cB (xub x))):=by
 refine CallsD.run [] Go.Proofs.Tryz.func18 rfl rfl rfl ?_;simp only [Go.Proofs.Tryz.f18];refine hgR ?_;refine z4m [1] (xmk x hx 0 1 _ (by decide) (by decide) (by decide) (by decide)) rfl (by decide) rfl rfl rfl ?_;refine hg ?_
 repeat' ((first | refine hfk ?_ ?_<;>intros | refine hik ?_ | with_reducible first | refine v6l (zl5 x hx) ?_ | refine vgi (zl5 x hx) ?_)<;>refine hgS ?_)
 all_goals refine lf1 @xub.eq_def ?_;first | exact trivial | rfl
end Go.Hp.T
namespace Go.Hp
open Go Go.RowKit Go.Slot
variable {P:Program} {Γ:List (Nat×List Cell)}
theorem x8i {n N i:Nat} (h:i<n):atR (List.range n) N i=i:=v84 (by simp [h])
theorem vfe.pre {f:FuncId} {ηs ξ:List SB} {args:List SV} {res:SV} (h:vfe Γ P f ηs args ηs res) (hs:∀ r,ηs.map (rnSB r)=ηs) (ha:args.map (yo9 (atR (List.range ηs.length) (ηs++ξ).length))=args) (hr:rnSV (atR (List.range ηs.length) (ηs++ξ).length) res=res):vfe Γ P f (ηs++ξ) args (ηs++ξ) res:=by
 have hfix:∀(r:Nat->Nat) (i:Nat) (x:SB),ηs[i]? = some x->rnSB r x=x:=fun r i x hx=>by
  have:=congrArg (fun l=>l[i]?) (hs r)
  simp only [List.getElem?_map,hx,Option.map_some] at this;exact Option.some.inj this
 have hlt:∀ j∈List.range ηs.length,j<(ηs++ξ).length:=fun j hj=>by
  rw [List.mem_range] at hj;rw [List.length_append];omega
 have hk:=vfe.frame (φ:=List.range ηs.length) (J:=ηs++ξ) List.nodup_range hlt ⟨by simp,fun i x hx=>by
  have hi:i<ηs.length:=(List.getElem?_eq_some_iff.1 hx).1
  exact ⟨i,by simp [hi],by rw [hfix _ i x hx,List.getElem?_append_left hi];exact hx⟩⟩ (by simp) h
 rw [ha,hr] at hk
 have hp:putR (List.range ηs.length) (ηs++ξ) ηs=ηs++ξ:=by
  apply List.ext_getElem?;intro i;by_cases hi:i<ηs.length
  . have h1:=y6r (φ:=List.range ηs.length) (J:=ηs++ξ) (ηs':=ηs) List.nodup_range hlt (List.getElem?_eq_getElem hi);rw [x8i hi,hfix _ i _ (List.getElem?_eq_getElem hi)] at h1;rw [h1,List.getElem?_append_left hi,List.getElem?_eq_getElem hi]
  . by_cases hi2:i<(ηs++ξ).length
    . exact xxa hi2 (by simpa using hi)
    . rw [List.getElem?_eq_none (by rw [yvj];simp at hi2 ⊢;omega),List.getElem?_eq_none (by omega)]
 rw [hp] at hk;exact hk
end Go.Hp
namespace Go.Hp.T
open Go Go.RowKit Go.Slot Go.Hp
theorem x6z {x:Ex} (h:yxn x=true) (h3:x.op≠3) (h0:x.args.length≠0):(x.op≠2->x.op≠4->2<=x.args.length)/\(x.op=5->3<=x.args.length):=by
 unfold yxn at h;by_cases a0:x.op=0
 . rw [decide_eq_true a0,cond_true] at h;simp only [Bool.and_eq_true,decide_eq_true_eq] at h;omega
 rw [decide_eq_false a0,cond_false] at h
 cases hb:(decide (¬x.n=0)||decide (¬x.unit.size=0)) with
 | true=>rw [hb,cond_true] at h;cases h
 | false=>
 rw [hb,cond_false] at h;by_cases a1:x.op=1
 . rw [decide_eq_true a1,cond_true] at h;simp only [Bool.and_eq_true,decide_eq_true_eq] at h;omega
 rw [decide_eq_false a1,cond_false] at h;by_cases a2:x.op=2
 . rw [decide_eq_true a2,cond_true] at h;simp only [Bool.and_eq_true,decide_eq_true_eq] at h;omega
 rw [decide_eq_false a2,cond_false] at h;by_cases a3:x.op=3
 . rw [decide_eq_true a3,cond_true] at h;simp only [Bool.and_eq_true,decide_eq_true_eq] at h;omega
 rw [decide_eq_false a3,cond_false] at h;by_cases a4:x.op=4
 . rw [decide_eq_true a4,cond_true] at h;simp only [Bool.and_eq_true,decide_eq_true_eq] at h;omega
 rw [decide_eq_false a4,cond_false] at h;by_cases a5:x.op=5
 . rw [decide_eq_true a5,cond_true] at h;simp only [Bool.and_eq_true,decide_eq_true_eq] at h;omega
 rw [decide_eq_false a5,cond_false] at h
 cases hc:(decide (x.op=10)||decide (x.op=11)) with
 | true=>rw [hc,cond_true] at h;simp only [Bool.and_eq_true,decide_eq_true_eq] at h;omega
 | false=>rw [hc,cond_false] at h;simp only [Bool.and_eq_true,decide_eq_true_eq] at h;omega
end Go.Hp.T
namespace Go.Hp.T
open Go Go.RowKit Go.Slot Go.Hp Go.Slot.T
open Go.Proofs.Tryz (prog)
set_option maxRecDepth 10000
set_option maxHeartbeats 4000000
variable {Γ:List (Nat×List Cell)}
theorem cTIn (n:Int):CallsD Γ prog 124 [.one (cI n)] (.one (cB (inT n))):=by
 refine CallsD.run [] Go.Proofs.Tryz.func124 rfl rfl rfl ?_;simp only [Go.Proofs.Tryz.f124];refine hgR ?_
 repeat' ((first | refine hfk ?_ ?_<;>intros | refine hik ?_)<;>refine hgS ?_)
 all_goals refine lf1 @inT.eq_def ?_;first | exact trivial | rfl
theorem vqa (s:ByteArray) (hs:s.size<=1073741824):CallsD Γ prog 15 [.one (cS s)] (.tup [.agg (unX (zte s).1),.one (cI (zte s).2)]):=by
 have:=zhn (Γ:=Γ) s hs
 rw [vtx] at this;exact this
theorem vv4 (t:Tb) (h1:t.name.size<=1073741824) (h2:t.unit.size<=1073741824) (h3:t.rows.length<=1073741824):CallsD Γ prog 67 [.agg (tbC t)] (.one (cB (zi4 (fun s=>(zte s).2) t))):=by
 refine CallsD.run [] Go.Proofs.Tryz.func67 rfl rfl rfl ?_;simp only [Go.Proofs.Tryz.f67];refine hgR ?_
 repeat' ((first | refine hfk ?_ ?_<;>intros | refine hik ?_ | with_reducible first | refine v6l (vqa t.unit h2) ?_ | refine vgi (vqa t.unit h2) ?_ | refine v6l (vv6 t.name (by omega)) ?_ | refine vgi (vv6 t.name (by omega)) ?_)<;>refine hgS ?_)
 . refine lf1 @zi4.eq_def ?_;first | exact trivial | rfl
 . refine y55 [1,28,29] (fun i:Nat=>[(30,.one (.dat (cI i)))]) (fun _=>[.box ((tbC t).map .dat) (some 60),.box ((unX (zte t.unit).1).map .dat) (some 44)]) (fun i=>i<=t.rows.length/\∀ j,j<i->rowAt t.rows j=true) (fun i=>t.rows.length-i) 0 ⟨Nat.zero_le _,fun j hj=>by omega⟩ ?_ ?_
   . refine hg ?_;exact StH.same svl rfl
   rintro i ⟨hi,hj⟩
   have hbad:rowAt t.rows i=false->i<t.rows.length->zi4 (fun s=>(zte s).2) t=false:=fun h h'=>by
    unfold zi4 zx5;rw [zch h' h,Bool.and_false]
   refine hg ?_
   repeat' ((first | refine hfk ?_ ?_<;>intros | refine hik ?_ | with_reducible first | refine v6l (cTIn _) ?_ | refine vgi (cTIn _) ?_)<;>refine hgS ?_)
   all_goals first
    | (rw [hbad (by (refine bs1 @rowAt.eq_def ?_;try exact trivial)) (by omega)];exact RLe.ofEq rfl)
    | (refine ⟨i+1,⟨by omega,xrx hj (by (refine bs1 @rowAt.eq_def ?_;try exact trivial))⟩,by omega,StH.back [1,28,29,30] 2 2 2 rfl rfl rfl rfl rfl (by kernel_rfl) (StH.same svl rfl)⟩)
    | (refine RLe.ofEq ?_;rw [show zi4 (fun s=>(zte s).2) t=true from by unfold zi4 zx5;rw [ye8 (fun j hj'=>hj j (by omega))];(refine bsE ?_;try exact trivial)])
 . refine lf1 @zi4.eq_def ?_;first | exact trivial | rfl
 . refine lf1 @zi4.eq_def ?_;first | exact trivial | rfl
def zgx (V:List (ByteArray×Dm)) (x:Ex):Ty×Int:=bif decide (x.op=1) then (match ycr V x.name with
 | none=>(Ty.zero,11)
 | some d=>(⟨false,d⟩,0)) else
 bif decide (¬(zte x.unit).2=0) then (Ty.zero,14) else (⟨false,dmO (zte x.unit).1⟩,0)
mutual
def Ex.ty (V T:List (ByteArray×Dm)):Ex->Ty×Int
 | .mk o n u s l=>bif decide ((l.length:Int)=0) then zgx V (.mk o n u s l) else
  match Ex.tyL V T l with
  | .inl e=>(Ty.zero,e)
  | .inr ts=>wqq T o s ts
def Ex.tyL (V T:List (ByteArray×Dm)):List Ex->Int ⊕ List Ty
 | []=>.inr []
 | y::l=>match Ex.ty V T y with
  | (t,e)=>bif decide (¬e=0) then .inl e else match Ex.tyL V T l with
   | .inl e=>.inl e
   | .inr ts=>.inr (t::ts)
end
end Go.Hp.T
namespace Go.Hp
open Go Go.RowKit Go.Slot
variable {P:Program} {Γ:List (Nat×List Cell)} {e:List SB}
variable {J:List SB}
theorem vfe.ro (φ:List Nat) {f:FuncId} {ηs:List SB} {args:List SV} {res:SV} (h:vfe Γ P f ηs args ηs res) (hs:∀ r,ηs.map (rnSB r)=ηs) (hn:φ.Nodup) (hb:(φ.all fun j=>Nat.blt j J.length)=true) (hp:φ.map (fun j=>J[j]?)=ηs.map some) :
 vfe Γ P f J (args.map (yo9 (atR φ J.length))) J (rnSV (atR φ J.length) res):=by
 have hfix:∀(r:Nat->Nat) (x:SB),x∈ηs->rnSB r x=x:=fun r x hx=>by
  obtain ⟨i,hi,rfl⟩:=List.getElem_of_mem hx
  have:=congrArg (fun l=>l[i]?) (hs r)
  simp only [List.getElem?_map,List.getElem?_eq_getElem hi,Option.map_some] at this;exact Option.some.inj this
 have hb':∀ j∈φ,j<J.length:=fun j hj=>by simpa using List.all_eq_true.1 hb j hj
 have hp':φ.map (fun j=>J[j]?)=ηs.map (fun x=>some (rnSB (atR φ J.length) x)):=by
  rw [hp];exact List.map_congr_left (fun x hx=>by rw [hfix _ x hx])
 have hk:=yp3.of hp';have hc:=vfe.frame hn hb' hk (by rw [hk.1];exact Nat.le_refl _) h
 have hput:putR φ J ηs=J:=by
  apply List.ext_getElem?;intro i;by_cases hi2:i<J.length
  . by_cases hi:i∈φ
    . obtain ⟨k,hk2,rfl⟩:=List.getElem_of_mem hi
      have hkl:k<ηs.length:=by rw [hk.1];exact hk2
      have h1:=y6r (ηs':=ηs) hn hb' (List.getElem?_eq_getElem hkl);rw [v84 (List.getElem?_eq_getElem hk2),hfix _ _ (List.getElem_mem hkl)] at h1;rw [h1];have h2:=congrArg (fun l=>l[k]?) hp;simp only [List.getElem?_map,List.getElem?_eq_getElem hk2,List.getElem?_eq_getElem hkl,Option.map_some] at h2;exact (Option.some.inj h2).symm
    . exact xxa hi2 hi
  . rw [List.getElem?_eq_none (by rw [yvj,hk.1];omega),List.getElem?_eq_none (by omega)]
 rw [hput] at hc;exact hc
theorem StH.cutN {I I':List SV} {J':List SB} (ks:List Nat) (m:Nat) (hm:Nat.ble e.length m=true) (h:x2g m (wue ks 0 I) J=true) (hk:StH Γ e (wue ks 0 I) (J.take m) I' J'):StH Γ e I J I' J':=
 StH.trans (StH.only ks) (StH.trans (StH.cutB m (by simpa using hm) h) hk)
theorem StH.tup1 {l l':List SV} (h:vma l l'):StH Γ e [.tup l] J [.tup l'] J:=fun E ρ a w hE hR=>⟨ρ,hR.hd,hR.hs,fun i x hi=>by
 cases i with
 | zero=>
  simp only [List.getElem?_cons_zero,Option.some.injEq] at hi;subst hi;obtain ⟨vs,hv,hr⟩:=hR.slot 0 (.tup l) rfl;exact ⟨vs,hv,SRL.le h hr⟩
 | succ i=>simp at hi,hR.went⟩
theorem vg7 {a b:Nat}:Nat.blt a b=decide (a<b):=by
 by_cases h:a<b
 . rw [decide_eq_true h];simpa using h
 . rw [decide_eq_false h]
   cases hh:Nat.blt a b with
   | false=>rfl
   | true=>exact absurd (by simpa using hh) h
end Go.Hp
namespace Go.Hp.T
open Go Go.RowKit Go.Slot Go.Hp Go.Slot.T
open Go.Proofs.Tryz (prog)
set_option maxRecDepth 10000
set_option maxHeartbeats 4000000
variable {Γ:List (Nat×List Cell)}
theorem wvc {J:List SB} {h1 h2:HC}:StH Γ [] [SV.tup [.agg [h1,h2],.one (.dat (cB false))]] J [SV.tup [.agg [.any,.any],.one (.dat (cB false))]] []:=
 StH.trans (StH.tup1 (l':=[.agg [.any,.any],.one (.dat (cB false))]) (.cons (.agg (.cons (.any _) (.cons (.any _) .nil))) (.cons (.refl _) .nil))) (by
  have:=StH.cutB (Γ:=Γ) (e:=[]) (I:=[SV.tup [.agg [.any,.any],.one (.dat (cB false))]]) (J:=J) 0 (Nat.le_refl _) (by unfold x2g;rfl)
  exact this)
theorem ysl (l:List HC) (T:Option TypeId):z0y (.box l T)=l.flatMap yj9:=rfl
theorem zsq (c:Cell) (k:Nat) (T:Option TypeId):z0y (.arr c k T)=[]:=rfl
theorem v2a:z0y .dead=[]:=rfl
attribute [go_sem] x2g vp6 yj9 ysl zsq v2a vg7 List.flatMap_cons List.flatMap_nil List.all_append
structure Tb.Sm (t:Tb):Prop where
 n:t.name.size<=1073741824
 u:t.unit.size<=1073741824
 r:t.rows.length<=1073741824
end Go.Hp.T
namespace Go.Hp.T
open Go Go.RowKit Go.Slot Go.Hp Go.Slot.T
open Go.Proofs.Tryz (prog)
set_option maxRecDepth 10000
set_option maxHeartbeats 4000000
variable {Γ:List (Nat×List Cell)}
theorem x5b (x:Dm):CallsD Γ prog 181 [.agg (dmC x)] (.one (cB (zmf x))):=by
 refine CallsD.run [] Go.Proofs.Tryz.func181 rfl rfl rfl ?_;simp only [Go.Proofs.Tryz.f181];refine hgR ?_
 repeat' ((first | refine hfk ?_ ?_<;>intros | refine hik ?_ | with_reducible refine zum ?_ | with_reducible refine v3j ?_)<;>refine hgS ?_)
 all_goals refine lf2 @zmf.eq_def @bad9.eq_def ?_;first | exact trivial | rfl
def Dm.neg (x:Dm):Dm:=⟨0-x.a,0-x.b,0-x.c,0-x.d,0-x.e,0-x.f⟩
theorem wqk (n:Int):CallsD Γ prog 150 [.one (cI n)] (.one (cB (inT n))):=by
 refine CallsD.run [] Go.Proofs.Tryz.func150 rfl rfl rfl ?_;simp only [Go.Proofs.Tryz.f150];refine hgR ?_
 repeat' ((first | refine hfk ?_ ?_<;>intros | refine hik ?_)<;>refine hgS ?_)
 all_goals refine lf1 @inT.eq_def ?_;first | exact trivial | rfl
end Go.Hp.T
namespace Go.Slot.T
open Go Go.RowKit Go.Slot
open Go.Proofs.Tryz (prog)
set_option maxRecDepth 10000
set_option maxHeartbeats 4000000
theorem zgb (L:List Int) (i:Nat) (_hL:L.length<=1099511627776) (hi:(i:Int)<=1099511627776) :
 yn2 prog 189 [.one (.ints .i64 L),.one (.raw (.int .i64 i))] (.one (.raw (.int .i64 (L.getD i 0)))):=by
 refine yn2.run [] Go.Proofs.Tryz.func189 rfl rfl ?_;simp only [Go.Proofs.Tryz.f189];refine rgR ?_;refine z08 (fun h=>?_) (fun h=>?_)
 . refine rg ?_;exact ⟨_,rfl,.one (.refl _)⟩
 . refine rg ?_;exact ⟨_,rfl,by rw [vv7 (by omega)];exact .one (.refl _)⟩
theorem vg8 (L:List Int) (hL:L.length<=1099511627776):yn2 prog 185 [.one (.ints .i64 L)] (.one (.ints .i64 (xun L))):=by
 refine yn2.run [] Go.Proofs.Tryz.func185 rfl rfl ?_;simp only [Go.Proofs.Tryz.f185];refine rgR ?_;refine vxs [0,2] (fun n:Nat=>[(3,.one (.raw (.int .i64 n)))])
  (fun n=>n<=L.length/\z4o L L.length=z4o L n) (fun n=>n) L.length ⟨Nat.le_refl _,rfl⟩ ?_ ?_
 . refine rg ?_;exact StLe.weaken (by repeat' first | exact .nil | refine .cons (by first | exact .refl _ | exact .any _) ?_) rfl
 rintro n ⟨hn,ht⟩;refine rg ?_
 have fin:z4o L L.length=n->xun L=L.take n:=fun h=>by unfold xun;rw [h]
 refine z4u (fun h=>?_) (fun h=>?_)
 . obtain ⟨m,rfl⟩:∃ m,n=m+1:=⟨n-1,by omega⟩
   have e:((m+1:Nat):Int)-1=(m:Nat):=by omega
   have h':=decide_eq_true h;refine rg2 @h' @e ?_;refine z08 (fun h2=>?_) (fun h2=>?_)
   . refine rg1 @e ?_;exact ⟨m,⟨by omega,by rw [ht];simp only [z4o];rw [if_pos h2]⟩,by omega,StLe.weaken (by repeat' first | exact .nil | refine .cons (by first | exact .refl _ | exact .any _) ?_) rfl⟩
   . have hfin:z4o L L.length=m+1:=by rw [ht];simp only [z4o];rw [if_neg h2]
     rw [fin hfin]
     conv=>simp (maxSteps:=2000000) (disch:=omega) only [go_sem,Nat.reduceAdd,Nat.reduceSub,Nat.reduceMul,Int.reduceToNat,Nat.reduceEqDiff,Nat.reduceBEq,Nat.reduceBneDiff,e,Nat.sub_zero,List.length_take]
     exact ⟨_,rfl,.own⟩
 . have h0:n=0:=by omega
   subst h0;rw [fin (by rw [ht];rfl)]
   conv=>simp (maxSteps:=2000000) (disch:=omega) only [go_sem,Nat.reduceAdd,Nat.reduceSub,Nat.reduceMul,Int.reduceToNat,Nat.reduceEqDiff,Nat.reduceBEq,Nat.reduceBneDiff,h,Nat.sub_zero,List.length_take,Int.reduceLT,decide_false]
   exact ⟨_,rfl,.one (.refl _)⟩
theorem vla (s:Int) (L:List Int) (hL:L.length<=1099511627776) :
 yn2 prog 143 [.one (.raw (.int .i64 s)),.one (.ints .i64 L)] (.agg (bigC (if xun L=[] then 0 else s) (xun L))):=by
 refine yn2.run [] Go.Proofs.Tryz.func143 rfl rfl ?_;simp only [Go.Proofs.Tryz.f143];refine rgR ?_;refine v1h (vg8 L hL) ?_;refine rg ?_;refine z08 (fun h=>?_) (fun h=>?_)
 . have h0:xun L=[]:=by have:(xun L).length=0:=(by omega);simpa using this
   refine rg ?_;refine ⟨_,rfl,?_⟩;rw [h0];exact .one (.agg (.cons (.refl _) (.cons (.ysc _) .nil)))
 . have h0:xun L≠[]:=fun e=>h (by rw [e];rfl)
   refine rg ?_;refine ⟨_,rfl,?_⟩
   try rw [if_neg h0]
   exact .one (.refl _)
theorem z4q (s z:Int) (hz:(dig z.natAbs).length<=1073741824) (h:(s=1/\0<=z)\/(s = -1/\z<=0)\/z=0) :
 yn2 prog 143 [.one (.raw (.int .i64 s)),.one (.ints .i64 (dig z.natAbs))] (.agg [.raw (.int .i64 (sg z)),.ints .i64 (dig z.natAbs)]):=by
 have h':=vla s (dig z.natAbs) (by omega);unfold bigC at h';rw [vam h] at h';exact h'
theorem vk9 (l:List Int) (i:Nat):num l=num (l.take i)+1048576 ^ i*num (l.drop i):=by
 rcases Nat.lt_or_ge l.length i with h | h
 . rw [List.drop_eq_nil_of_le (by omega),zvp (by omega)];simp [num]
 . have:=zlm l i
   rwa [List.length_take,Nat.min_eq_left h] at this
theorem wk6 {l:List Int} (h:digits l) (i:Nat):num (l.take i)<1048576 ^ i:=
 Int.lt_of_lt_of_le (xxq (h.take i)) (wqr (by simp;omega))
theorem yz6 {a b:List Int} (ha:digits a) (hb:digits b) (i:Nat) (h:num (a.drop (i+1))=num (b.drop (i+1))) (hlt:a.getD i 0<b.getD i 0):num a<num b:=by
 rw [vk9 a i,vk9 b i,win a,win b,h];have h1:=wk6 ha i;have h2:=num_nonneg (hb.take i);have hp:=zou i;generalize (1048576:Int) ^ i=P at *;generalize num (b.drop (i+1))=T;have h3:P*(a.getD i 0+1)<=P*b.getD i 0:=Int.mul_le_mul_of_nonneg_left (by omega) (by omega);rw [Int.mul_add,Int.mul_add];rw [Int.mul_add] at h3;omega
theorem wuz (a b:List Int) (ha:digits a) (hb:digits b) (la:a.length<=1099511627776) (lb:b.length<=1099511627776) :
 yn2 prog 149 [.one (.ints .i64 a),.one (.ints .i64 b)] (.one (.raw (.bool (decide (num a<num b))))):=by
 refine yn2.run [] Go.Proofs.Tryz.func149 rfl rfl ?_;simp only [Go.Proofs.Tryz.f149];refine rgR ?_;refine vxs [0,1,4] (fun n:Nat=>[(5,.one (.raw (.int .i64 ((n:Int)-1))))])
  (fun n=>n<=max a.length b.length/\num (a.drop n)=num (b.drop n)) (fun n=>n) (max a.length b.length)
  ⟨Nat.le_refl _,by rw [List.drop_eq_nil_of_le (by omega),List.drop_eq_nil_of_le (by omega)]⟩ ?_ ?_
 . refine rg ?_;rw [show (max (a.length:Int) b.length)=((max a.length b.length:Nat):Int) by omega];exact StLe.weaken (by repeat' first | exact .nil | refine .cons (by first | exact .refl _ | exact .any _) ?_) rfl
 rintro n ⟨hn,he⟩;refine rg ?_;refine z08 (fun h=>?_) (fun h=>?_)
 . obtain ⟨i,rfl⟩:∃ i,n=i+1:=⟨n-1,by omega⟩
   have ei:((i+1:Nat):Int)-1=(i:Nat):=by omega
   refine rg1 @ei ?_;refine v1h (zgb a i la (by omega)) ?_;refine rg1 @ei ?_;refine v1h (zgb b i lb (by omega)) ?_;refine rg1 @ei ?_;refine z08 (fun h2=>?_) (fun h2=>?_)
   . have h2:a.getD i 0≠b.getD i 0:=h2;refine rg1 @ei ?_;refine v1h (zgb a i la (by omega)) ?_;refine rg1 @ei ?_;refine v1h (zgb b i lb (by omega)) ?_;refine rg1 @ei ?_;refine ⟨_,rfl,?_⟩
     have:decide (a.getD i 0<b.getD i 0)=decide (num a<num b):=by
      apply decide_eq_decide.2
      rcases Int.lt_or_gt_of_ne h2 with h3 | h3
      . have:=yz6 ha hb i he h3
        exact ⟨fun _=>this,fun _=>h3⟩
      . have:=yz6 hb ha i he.symm h3
        exact ⟨fun _=>by omega,fun _=>by omega⟩
     rw [this];exact .one (.refl _)
   . have h2:a.getD i 0=b.getD i 0:=by omega
     refine rg1 @ei ?_;exact ⟨i,⟨by omega,by rw [win a,win b,he,h2]⟩,by omega,StLe.weaken (by repeat' first | exact .nil | refine .cons (by first | exact .refl _ | exact .any _) ?_) rfl⟩
 . have h0:n=0:=by omega
   subst h0
   have he:num a=num b:=by simpa using he
   refine rg ?_;exact ⟨_,rfl,by rw [decide_eq_false (by omega)];exact .one (.refl _)⟩
theorem yn9 (l:List Int) (x:Int):num (l++[x])=num l+1048576 ^ l.length*x:=by rw [xtv];simp [num]
theorem y9i (a b:List Int) (ha:digits a) (hb:digits b) (la:a.length<=1073741824) (lb:b.length<=1073741824) :
 yn2 prog 183 [.one (.ints .i64 a),.one (.ints .i64 b)] (.one (.ints .i64 (dig (num a+num b).toNat))):=by
 refine yn2.run [(6,[.join])] Go.Proofs.Tryz.func183 rfl rfl ?_;simp only [Go.Proofs.Tryz.f183];refine rgR ?_;refine vxs [0,1,4] (fun x:Nat×List Int×Int=>[(5,.one (.tok 38 (.ints .i64 x.2.1))),(6,.one (.raw (.int .i64 x.2.2))),(7,.one (.raw (.int .i64 x.1)))])
  (fun x=>x.1<=max a.length b.length+1/\x.2.1.length=x.1/\digits x.2.1/\(0<=x.2.2/\x.2.2<=1)/\(max a.length b.length<x.1->x.2.2=0)/\num x.2.1+1048576 ^ x.1*x.2.2=num (a.take x.1)+num (b.take x.1))
  (fun x=>max a.length b.length+1-x.1) (0,[],0)
  ⟨Nat.zero_le _,rfl,digits.nil,by simp,by simp,by simp [num]⟩ ?_ ?_
 . refine StLe.trans (StLe.tokI 5 38 (.ints .i64 []) rfl rfl rfl) ?_;refine rg ?_;exact StLe.weaken (by repeat' first | exact .nil | refine .cons (by first | exact .refl _ | exact .any _) ?_) rfl
 rintro ⟨k,l,c⟩ ⟨hk,hl,hd,hc,hc0,hn⟩;simp only at hk hl hd hc hc0 hn;refine rg ?_;refine zu4 [0,1,4,5,6,7] (fun _:Unit=>[]) (fun _=>k<a.length\/k<b.length\/0<c) ?_ ?_
 . refine rg ?_;refine xjr (fun h1=>?_) (fun h1=>?_)
   . refine rg1 @h1 ?_;refine xjr (fun h2=>?_) (fun h2=>?_)
     . refine rg1 @h2 ?_;refine z08 (fun h3=>?_) (fun h3=>?_)
       . refine rg ?_;exact ⟨(),.inr (.inr h3),StLe.weaken (by repeat' first | exact .nil | refine .cons (by first | exact .refl _ | exact .any _) ?_) rfl⟩
       . have hc1:c=0:=by omega
         rw [zvp (by omega),zvp (by omega),hc1,Int.mul_zero,Int.add_zero] at hn;refine rg ?_;refine v1h (vg8 l (by omega)) ?_;refine rg ?_;exact ⟨_,rfl,by rw [wah hd hn];exact .one (.refl _)⟩
     . have h2':=decide_eq_true h2;refine rg1 @h2' ?_;exact ⟨(),.inr (.inl (by omega)),StLe.weaken (by repeat' first | exact .nil | refine .cons (by first | exact .refl _ | exact .any _) ?_) rfl⟩
   . have h1':=decide_eq_true h1;refine rg1 @h1' ?_;exact ⟨(),.inl (by omega),StLe.weaken (by repeat' first | exact .nil | refine .cons (by first | exact .refl _ | exact .any _) ?_) rfl⟩
 rintro _ hgo;have hak:=ha.getD k;have hbk:=hb.getD k
 have hkm:k<=max a.length b.length:=by
  rcases Nat.lt_or_ge (max a.length b.length) k with h | h
  . have:=hc0 h;omega
  . exact h
 refine rg ?_;refine v1h (zgb a k (by omega) (by omega)) ?_;refine rg ?_;refine v1h (zgb b k (by omega) (by omega)) ?_;refine rg ?_;generalize hs:a.getD k 0+b.getD k 0+c=s at *;have hm:s.tmod 1048576=s % 1048576:=Int.tmod_eq_emod_of_nonneg (by omega);have hq:s.tdiv 1048576=s / 1048576:=Int.tdiv_eq_ediv_of_nonneg (by omega);refine rg2 @hm @hq ?_;refine ⟨(k+1,l++[s % 1048576],s / 1048576),⟨by dsimp only;omega,by simp [hl],hd.append (digits.cons (by omega) digits.nil),by dsimp only;omega,fun h=>?_,?_⟩,by dsimp only;omega,StLe.weaken (by repeat' first | exact .nil | refine .cons (by first | exact .refl _ | exact .any _) ?_) rfl⟩
 . dsimp only at h ⊢;have e1:=vv7 (l:=a) (i:=k) (by omega);have e2:=vv7 (l:=b) (i:=k) (by omega);omega
 . dsimp only;rw [yn9,hl,w4d,w4d,Int.pow_succ];have h:=Int.emod_add_mul_ediv s 1048576;generalize (1048576:Int) ^ k=P at *;generalize s % 1048576=r at *;generalize s / 1048576=q at *
   grind
theorem yt6 (x y:Nat) (hxy:y<=x) (la:(dig x).length<=1073741824) :
 yn2 prog 184 [.one (.ints .i64 (dig x)),.one (.ints .i64 (dig y))] (.one (.ints .i64 (dig (x-y)))):=by
 have hlb:(dig y).length<=(dig x).length:=wxv hxy;have hnx:=yn8 x;have hny:=yn8 y;have ha:=wo6 x;have hb:=wo6 y
 have hfin:(num (dig x)-num (dig y)).toNat=x-y:=by omega
 rw [<-hfin]
 have hle:num (dig y)<=num (dig x):=by omega
 clear hfin hnx hny hxy;generalize dig x=a at *;generalize dig y=b at *;refine yn2.run [(11,[.join])] Go.Proofs.Tryz.func184 rfl rfl ?_;simp only [Go.Proofs.Tryz.f184];refine rgR ?_;refine vxs [0,1,4] (fun x:Nat×List Int×Int=>[(5,.one (.tok 32 (.ints .i64 x.2.1))),(6,.one (.raw (.int .i64 x.2.2))),(7,.one (.raw (.int .i64 x.1)))])
  (fun x=>x.1<=a.length/\x.2.1.length=x.1/\digits x.2.1/\(0<=x.2.2/\x.2.2<=1)/\num x.2.1-1048576 ^ x.1*x.2.2=num (a.take x.1)-num (b.take x.1))
  (fun x=>a.length-x.1) (0,[],0)
  ⟨Nat.zero_le _,rfl,digits.nil,by simp,by simp [num]⟩ ?_ ?_
 . refine StLe.trans (StLe.tokI 5 32 (.ints .i64 []) rfl rfl rfl) ?_;refine rg ?_;exact StLe.weaken (by repeat' first | exact .nil | refine .cons (by first | exact .refl _ | exact .any _) ?_) rfl
 rintro ⟨k,l,c⟩ ⟨hk,hl,hd,hc,hn⟩;simp only at hk hl hd hc hn;refine rg ?_;refine z08 (fun h=>?_) (fun h=>?_)
 . have hak:=ha.getD k;have hbk:=hb.getD k;refine rg ?_;refine v1h (zgb b k (by omega) (by omega)) ?_;refine rg ?_;refine indk (by kernel_rfl) ?_;refine rg ?_;generalize hs:a.getD k 0-b.getD k 0-c=s at *;refine zu4 [0,1,4,5,7] (fun _:Unit=>[(6,.one (.raw (.int .i64 (if s<0 then 1 else 0)))),(8,.one (.raw (.int .i64 (if s<0 then s+1048576 else s))))]) (fun _=>True) ?_ ?_
   . refine rg ?_;refine z08 (fun h1=>?_) (fun h1=>?_)
     . refine rg ?_;exact ⟨(),StLe.weaken (by repeat' first | exact .nil | refine .cons (by first | exact .refl _ | exact .any _) ?_) rfl⟩
     . refine rg ?_;exact ⟨(),StLe.weaken (by repeat' first | exact .nil | refine .cons (by first | exact .refl _ | exact .any _) ?_) rfl⟩
   rintro _ _;generalize hr:(if s<0 then s+1048576 else s)=r;generalize hq:(if s<0 then (1:Int) else 0)=q
   have hrq:s=r-1048576*q/\0<=r/\r<=1048575/\0<=q/\q<=1:=by
    subst hr hq
    split<;>omega
   clear hr hq;refine rg ?_;refine ⟨(k+1,l++[r],q),⟨by dsimp only;omega,by simp [hl],hd.append (digits.cons (by omega) digits.nil),by dsimp only;omega,?_⟩,by dsimp only;omega,StLe.weaken (by repeat' first | exact .nil | refine .cons (by first | exact .refl _ | exact .any _) ?_) rfl⟩;dsimp only;rw [yn9,hl,w4d,w4d,Int.pow_succ];have h:=hrq.1;generalize (1048576:Int) ^ k=P at *
   grind
 . have hka:k=a.length:=by omega
   rw [hka,zvp (Nat.le_refl _),zvp hlb] at hn;have hd0:=xxq hd;rw [hl,hka] at hd0
   have hc0:c=0:=by
    have:=zou a.length
    rcases (show c=0\/c=1 by omega) with e | e
    . exact e
    . rw [e] at hn;omega
   rw [hc0,Int.mul_zero,Int.sub_zero] at hn;refine rg ?_;refine v1h (vg8 l (by omega)) ?_;refine rg ?_;exact ⟨_,rfl,by rw [wah hd hn];exact .one (.refl _)⟩
end Go.Slot.T
