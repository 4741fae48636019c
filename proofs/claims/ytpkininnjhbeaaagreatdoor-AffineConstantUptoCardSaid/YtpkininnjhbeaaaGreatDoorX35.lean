/- The proof, part X35: Qb, Qc, Ya, Yb, Yc, Yd, Yl, Ym, A7, Ii, Oj, Qra, Qrb, Qrc, Qrd, Qre, Qrf, Qrg, Qrh, Qri, Qrj, Qrk. -/
import Derived.Test.YtpkininnjhbeaaaGreatDoorX34
import Derived.Test.YtpkininnjhbeaaaGreatDoorX28
import Derived.Test.YtpkininnjhbeaaaGreatDoorX31
import Derived.Test.YtpkininnjhbeaaaGreatDoorX27
import Derived.Test.YtpkininnjhbeaaaGreatDoorX32
import Derived.Test.YtpkininnjhbeaaaGreatDoorX21
import Derived.Test.YtpkininnjhbeaaaGreatDoorChecked
namespace Go.Hp.T
open Go Go.RowKit Go.Slot Go.Hp Go.Slot.T
open Go.Proofs.Tryz (prog)
set_option maxRecDepth 10000
set_option maxHeartbeats 4000000
variable {Γ:List (Nat×List Cell)}
variable {place:Nat->Option (Nat×Nat)} {i a b:Nat} {r:List (Nat×SV)} {α:Type}
def vci (place:Nat->Option (Nat×Nat)) (cs:List HC) (ps:List (Nat×SV)):Option (List HC):=y31 place cs ps
def xjd (place:Nat->Option (Nat×Nat)) (cs:List HC) (r:List (Nat×SV)) (a:Option (Nat×Nat)) (b:Option (List HC)):Option (List HC):=match a,b with
 | some (off,size),some us=>if us.length=size/\off+size<=cs.length then y31 place (cs.take off++us++cs.drop (off+size)) r else none
 | _,_=>none
def yrd (place:Nat->Option (Nat×Nat)) (cs:List HC) (r:List (Nat×SV)) (b:Bool):Option (List HC):=bif b then y31 place cs r else none
theorem zlg {cs:List HC} {ps:List (Nat×SV)}:y31 place cs ps=vci place cs ps:=rfl
theorem z0c {cs:List HC}:vci place cs []=some cs:=rfl
theorem yq3 {cs:List HC} {x:SV}:vci place cs ((i,x)::r)=xjd place cs r (place i) (vg7 x):=by
 unfold vci;rw [y31];rfl
theorem yf7:Nat.beq a b=decide (a=b):=by rw [Bool.eq_iff_iff,decide_eq_true_iff,Nat.beq_eq]
theorem x88:Nat.ble a b=decide (a<=b):=by rw [Bool.eq_iff_iff,decide_eq_true_iff,Nat.ble_eq]
theorem xe4 (h:a<=b):Nat.ble a b=true:=Nat.ble_eq_true_of_le h
theorem v1a {cs us:List HC} {off size:Nat}:xjd place cs r (some (off,size)) (some us)=yrd place (cs.take off++(us++cs.drop (off+size))) r (Nat.beq us.length size&&Nat.ble (off+size) cs.length):=by
 rw [<-List.append_assoc];show (if us.length=size/\off+size<=cs.length then y31 place (cs.take off++us++cs.drop (off+size)) r else none)=_;rw [yf7,x88];by_cases h1:us.length=size
 . by_cases h2:off+size<=cs.length
   . rw [if_pos ⟨h1,h2⟩,decide_eq_true h1,decide_eq_true h2];rfl
   . rw [if_neg (fun h=>h2 h.2),decide_eq_false h2,Bool.and_false];rfl
 . rw [if_neg (fun h=>h1 h.1),decide_eq_false h1];rfl
theorem wte {cs:List HC}:yrd place cs r true=vci place cs r:=rfl
attribute [go_sem ↓ 30000] zlg
attribute [go_sem] z0c yq3 v1a wte yf7 xe4
theorem n12:((12:Nat):Int)=12:=rfl
attribute [go_sem] n12
theorem vn7 (s:ByteArray):isWord s=(seq ⟨#[110,111,116]⟩ s||seq ⟨#[105,102]⟩ s||seq ⟨#[116,104,101,110]⟩ s||seq ⟨#[101,108,115,101]⟩ s||seq ⟨#[97,110,100]⟩ s||seq ⟨#[111,114]⟩ s||seq ⟨#[108,111,111,107]⟩ s||seq ⟨#[109,105,110]⟩ s||seq ⟨#[109,97,120]⟩ s||seq ⟨#[105,110,116,111]⟩ s||seq ⟨#[116,111]⟩ s||seq ⟨#[97,115]⟩ s):=by
 unfold isWord;simp only [@wsk s]
theorem z6d (s:ByteArray):CallsD Γ prog 111 [.one (cS s)] (.one (cB (isWord s))):=by
 rw [vn7];refine CallsD.run [] Go.Proofs.Tryz.func111 rfl rfl rfl ?_;simp only [Go.Proofs.Tryz.f111];refine hgR ?_
 repeat' ((first | refine hfk ?_ ?_<;>intros | refine hik ?_ | with_reducible refine v6k ?_ | with_reducible refine yp8 ?_)<;>refine hgS ?_)
 all_goals refine lfE ?_;first | exact trivial | rfl
def xmx (o:Int):Int:=bif decide (o=0)||decide (o=1) then 0 else bif decide (o=2)||decide (o=4) then 1 else bif decide (o=5) then 3 else bif decide (o=6)||decide (o=7)||decide (o=8)||decide (o=9)||decide (o=10)||decide (o=11)||decide (o=12)||decide (o=13)||decide (o=14)||decide (o=15) then 2 else -1
theorem vgi (o:Int):CallsD Γ prog 194 [.one (cI o)] (.one (cI (xmx o))):=by
 refine CallsD.run [] Go.Proofs.Tryz.func194 rfl rfl rfl ?_;simp only [Go.Proofs.Tryz.f194];refine hgR ?_
 repeat' ((first | refine hfk ?_ ?_<;>intros | refine hik ?_)<;>refine hgS ?_)
 all_goals refine lf1 @xmx.eq_def ?_;first | exact trivial | rfl
theorem zfr (s:ByteArray) (hs:s.size<=1073741824):CallsD Γ prog 193 [.one (cS s)] (.one (cB (isNamed s))):=by
 refine CallsD.run [] Go.Proofs.Tryz.func193 rfl rfl rfl ?_;simp only [Go.Proofs.Tryz.f193];refine hgR ?_
 repeat' ((first | refine hfk ?_ ?_<;>intros | refine hik ?_ | with_reducible first | refine wml (wex s hs) ?_ | refine ysj (wex s hs) ?_ | refine wml (z6d s) ?_ | refine ysj (z6d s) ?_)<;>refine hgS ?_)
 all_goals refine lf1 @isNamed.eq_def ?_;first | exact trivial | rfl
def z9x (x:Ex):Bool:=
 bif decide (x.op=0) then yn7 x.unit&&decide (0<=x.n)&&decide (x.n<=1099511627776)&&decide (x.name.size=0)&&decide ((x.args.length:Int)=0) else
 bif decide (¬x.n=0)||decide (¬x.unit.size=0) then false else
 bif decide (x.op=3) then isNamed x.name&&decide (1<=(x.args.length:Int))&&decide ((x.args.length:Int)<=6) else
 bif decide (x.op=1)||decide (x.op=2) then isNamed x.name&&decide ((x.args.length:Int)=xmx x.op) else
 decide (x.name.size=0)&&decide (0<(x.args.length:Int))&&decide ((x.args.length:Int)=xmx x.op)
theorem x1g (x:Ex) (hx:x.Sm):CallsD Γ prog 136 [.agg (exC x)] (.one (cB (z9x x))):=by
 have hu:=hx.u;have hs:=hx.s;have hl:=hx.len;obtain ⟨q,hq⟩:∃ q,CallsD Γ prog 192 [.one (cS x.unit)] (.tup [.one (cS q),.one (cB (yn7 x.unit))]):=yrb x.unit hu;refine CallsD.run [] Go.Proofs.Tryz.func136 rfl rfl rfl ?_;simp only [Go.Proofs.Tryz.f136];refine hgR ?_
 repeat' ((first | refine hfk ?_ ?_<;>intros | refine hik ?_ | with_reducible first | refine wml (hq) ?_ | refine ysj (hq) ?_ | refine wml (zfr x.name hs) ?_ | refine ysj (zfr x.name hs) ?_ | refine wml (vgi _) ?_ | refine ysj (vgi _) ?_)<;>refine hgS ?_)
 all_goals refine lf1 @z9x.eq_def ?_;first | exact trivial | rfl
mutual
def Ex.rsh:Ex->Bool
 | .mk o n u s l=>z9x (.mk o n u s l)&&Ex.rshL l
def Ex.rshL:List Ex->Bool
 | []=>true
 | y::l=>Ex.rsh y&&Ex.rshL l
end
theorem Ex.ver:∀ l:List Ex,Ex.rshL l=l.all Ex.rsh
 | []=>by rw [Ex.rshL];rfl
 | y::l=>by rw [Ex.rshL,Ex.ver l];rfl
theorem Ex.zpu (x:Ex):x.rsh=(z9x x&&x.args.all Ex.rsh):=by cases x;rw [Ex.rsh,Ex.ver];rfl
theorem all_true {p:Ex->Bool} {l:List Ex} (h:∀ j,j<l.length->p (l.getD j default)=true):l.all p=true:=by
 rw [List.all_eq_true];intro y hy;obtain ⟨j,hj,rfl⟩:=List.getElem_of_mem hy
 have:=h j hj
 rwa [show l.getD j default=l[j] from by simp [hj]] at this
theorem all_false {p:Ex->Bool} {l:List Ex} {j:Nat} (hj:j<l.length) (h:p (l.getD j default)=false):l.all p=false:=by
 cases e:l.all p with
 | false=>rfl
 | true=>rw [List.all_eq_true.1 e _ (y7p hj)] at h;cases h
theorem ynp:∀ x:Ex,x.Sm->CallsD Γ prog 74 [.agg (exC x)] (.one (cB x.rsh)):=by
 refine Ex.ind (fun x ih hx=>?_);have hl:=hx.len;refine CallsD.run [] Go.Proofs.Tryz.func74 rfl rfl rfl ?_;simp only [Go.Proofs.Tryz.f74];refine hgR ?_
 repeat' ((first | refine hfk ?_ ?_<;>intros | refine hik ?_ | with_reducible first | refine wml (x1g x hx) ?_ | refine ysj (x1g x hx) ?_)<;>refine hgS ?_)
 . rename_i h0;rw [Ex.zpu,h0];exact RLe.ofEq rfl
 . rename_i h0;refine x20 [1] (fun n:Nat=>[(3,.one (.dat (cI n)))]) (fun _=>[.box ((exC x).map .dat) (some 24)]) (fun n=>n<=x.args.length/\∀ j,j<n->(x.args.getD j default).rsh=true) (fun n=>x.args.length-n) 0 ⟨Nat.zero_le _,fun j hj=>by omega⟩ ?_ ?_
   . refine hg ?_;exact StH.same svl rfl
   intro n hn;obtain ⟨hn,hj⟩:=hn;refine hg ?_
   repeat' ((first | refine hfk ?_ ?_<;>intros | refine hik ?_ | with_reducible first | refine wml (ih _ (y7p (show n<x.args.length by omega)) (hx.arg _ (y7p (show n<x.args.length by omega)))) ?_ | refine ysj (ih _ (y7p (show n<x.args.length by omega)) (hx.arg _ (y7p (show n<x.args.length by omega)))) ?_)<;>refine hgS ?_)
   . rename_i h1;rw [Ex.zpu,all_false (by omega) h1,Bool.and_false];exact RLe.ofEq rfl
   . rename_i h1;exact ⟨n+1,⟨by omega,vol hj h1⟩,by omega,StH.same svl rfl⟩
   . have e:n=x.args.length:=by omega
     subst e;rw [Ex.zpu,h0,all_true hj];exact RLe.ofEq rfl
mutual
def Ex.rsz:Ex->Int->Int->Int
 | .mk _ _ _ _ l,n,lv=>bif decide (n<1)||decide (lv<1) then -1 else Ex.rszL l n lv 1
def Ex.rszL:List Ex->Int->Int->Int->Int
 | [],_,_,k=>k
 | y::l,n,lv,k=>bif decide (Ex.rsz y (n-k) (lv-1)<0) then -1 else Ex.rszL l n lv (k+Ex.rsz y (n-k) (lv-1))
end
theorem Ex.vey (x:Ex) (n lv:Int):x.rsz n lv=bif decide (n<1)||decide (lv<1) then -1 else Ex.rszL x.args n lv 1:=by cases x;rw [Ex.rsz];rfl
theorem Ex.zba:∀(l:List Ex),(∀ y∈l,∀ n lv:Int,-1<=y.rsz n lv/\(0<=y.rsz n lv->y.rsz n lv<=n))->∀ n lv k:Int,1<=k->k<=n->-1<=Ex.rszL l n lv k/\(0<=Ex.rszL l n lv k->Ex.rszL l n lv k<=n)
 | [],_,n,lv,k,h1,h2=>by rw [Ex.rszL];omega
 | y::l,h,n,lv,k,h1,h2=>by
  rw [Ex.rszL];have hy:=h y (by simp) (n-k) (lv-1);generalize y.rsz (n-k) (lv-1)=m at hy;by_cases hm:m<0
  . rw [decide_eq_true hm];simp only [cond_true];omega
  . rw [decide_eq_false hm];exact Ex.zba l (fun z hz=>h z (by simp [hz])) n lv (k+m) (by omega) (by omega)
theorem Ex.wmi:∀(x:Ex) (n lv:Int),-1<=x.rsz n lv/\(0<=x.rsz n lv->x.rsz n lv<=n):=by
 refine Ex.ind (fun x ih n lv=>?_);rw [Ex.vey];by_cases h1:n<1
 . rw [decide_eq_true h1];simp only [Bool.true_or,cond_true];omega
 . by_cases h2:lv<1
   . rw [decide_eq_true h2];simp only [Bool.or_true,cond_true];omega
   . rw [decide_eq_false h1,decide_eq_false h2];exact Ex.zba x.args ih n lv 1 (by omega) (by omega)
theorem woy:∀ x:Ex,x.Sm->∀ n lv:Int,n<=1000->lv<=1000->0<=n->0<=lv->CallsD Γ prog 73 [.agg (exC x),.one (cI n),.one (cI lv)] (.one (cI (x.rsz n lv))):=by
 refine Ex.ind (fun x ih hx n lv hn hlv hn0 hlv0=>?_);have hl:=hx.len;refine CallsD.run [] Go.Proofs.Tryz.func73 rfl rfl rfl ?_;simp only [Go.Proofs.Tryz.f73];refine hgR ?_
 repeat' ((first | refine hfk ?_ ?_<;>intros | refine hik ?_)<;>refine hgS ?_)
 . rename_i h1 _ h2 _;exact RLe.ofEq (by rw [Ex.vey,decide_eq_true h2,Bool.or_true];rfl)
 . rename_i h1 _ h2 _
   have e0:x.rsz n lv=Ex.rszL x.args n lv 1:=by rw [Ex.vey,decide_eq_false h1,decide_eq_false h2];rfl
   refine x20 [1,2,3] (fun p:Nat×Int=>[(7,.one (.dat (cI p.2))),(8,.one (.dat (cI p.1)))]) (fun _=>[.box ((exC x).map .dat) (some 24)]) (fun p=>p.1<=x.args.length/\1<=p.2/\p.2<=n/\Ex.rszL (x.args.drop p.1) n lv p.2=Ex.rszL x.args n lv 1) (fun p=>x.args.length-p.1) (0,1) ⟨Nat.zero_le _,by simp only;omega,by simp only;omega,rfl⟩ ?_ ?_
   . refine hg ?_;exact StH.same svl rfl
   rintro ⟨i,k⟩ ⟨hi,hk1,hk2,hc⟩;simp only at hi hk1 hk2 hc;refine hg ?_;refine vt2 (fun hlt hd=>?_) (fun hlt _=>?_)
   . have hlt':i<x.args.length:=by omega
     have hy:=y7p hlt';have hcc:=ih _ hy (hx.arg _ hy) (n-k) (lv-1) (by omega) (by omega) (by omega) (by omega);have hb:=Ex.wmi (x.args.getD i default) (n-k) (lv-1);rw [xfc hlt',Ex.rszL] at hc;generalize (x.args.getD i default).rsz (n-k) (lv-1)=m at hcc hb hc;rw [e0,<-hc];clear e0 hc;refine hg1 @hd ?_
     repeat' ((first | refine hfk ?_ ?_<;>intros | refine hik ?_ | with_reducible first | refine wml (hcc) ?_ | refine ysj (hcc) ?_)<;>refine hgS ?_)
     . exact RLe.ofEq rfl
     . exact ⟨(i+1,k+m),⟨by simp only;omega,by simp only;omega,by simp only;omega,rfl⟩,by simp only;omega,StH.same svl rfl⟩
   . refine hg ?_;rw [e0,<-hc,List.drop_eq_nil_of_le (by omega),Ex.rszL];exact RLe.ofEq rfl
 . rename_i h1 _;exact RLe.ofEq (by rw [Ex.vey,decide_eq_true h1];rfl)
theorem rFew (x:Ex) (hx:x.Sm) (n lv:Int) (hn:n<=1000) (hlv:lv<=1000) (hn0:0<=n) (hlv0:0<=lv):CallsD Γ prog 36 [.agg (exC x),.one (cI n),.one (cI lv)] (.one (cB (decide (0<=x.rsz n lv)))):=by
 have h:=woy (Γ:=Γ) x hx n lv hn hlv hn0 hlv0;refine CallsD.run [] Go.Proofs.Tryz.func36 rfl rfl rfl ?_;simp only [Go.Proofs.Tryz.f36];refine hgR ?_
 repeat' ((first | refine hfk ?_ ?_<;>intros | refine hik ?_ | with_reducible first | refine wml (h) ?_ | refine ysj (h) ?_)<;>refine hgS ?_)
 all_goals exact RLe.ofEq rfl
def ygj (x:Ex):Bool:=decide (0<=x.rsz 200 20)&&x.rsh
theorem xsr (x:Ex) (hx:x.Sm):CallsD Γ prog 37 [.agg (exC x)] (.one (cB (ygj x))):=by
 have h:=rFew (Γ:=Γ) x hx 200 20 (by decide) (by decide) (by decide) (by decide);refine CallsD.run [] Go.Proofs.Tryz.func37 rfl rfl rfl ?_;simp only [Go.Proofs.Tryz.f37];refine hgR ?_
 repeat' ((first | refine hfk ?_ ?_<;>intros | refine hik ?_ | with_reducible first | refine wml (h) ?_ | refine ysj (h) ?_ | refine wml (ynp x hx) ?_ | refine ysj (ynp x hx) ?_)<;>refine hgS ?_)
 all_goals (refine RLe.ofEq ?_;conv=>simp only [Bool.and_true,Bool.true_and,Bool.and_false,Bool.false_and,Bool.or_true,Bool.true_or,Bool.or_false,Bool.false_or,Bool.not_true,Bool.not_false,decide_true,decide_false,not_true_eq_false,not_false_eq_true,wiu,if_true,if_false,Bool.and_self,Bool.or_self,cond_true,cond_false,List.length_map,ne_eq,Int.reduceEq,Int.reduceLT,Int.reduceLE, *,ygj]);first | exact trivial | rfl
mutual
def Ex.short:Ex->Bool
 | .mk _ _ u s l=>Ex.wb1 l&&(decide ((s.size:Int)<=30)&&decide ((u.size:Int)<=30))
def Ex.wb1:List Ex->Bool
 | []=>true
 | y::l=>Ex.short y&&Ex.wb1 l
end
theorem Ex.wdt:∀ l:List Ex,Ex.wb1 l=l.all Ex.short
 | []=>by rw [Ex.wb1];rfl
 | y::l=>by rw [Ex.wb1,Ex.wdt l];rfl
theorem Ex.ygf (x:Ex):x.short=(x.args.all Ex.short&&(decide ((x.name.size:Int)<=30)&&decide ((x.unit.size:Int)<=30))):=by cases x;rw [Ex.short,Ex.wdt];rfl
theorem x4w:∀ x:Ex,x.Sm->CallsD Γ prog 72 [.agg (exC x)] (.one (cB x.short)):=by
 refine Ex.ind (fun x ih hx=>?_);have hl:=hx.len;refine CallsD.run [] Go.Proofs.Tryz.func72 rfl rfl rfl ?_;simp only [Go.Proofs.Tryz.f72];refine hgR ?_;refine x20 [1] (fun n:Nat=>[(3,.one (.dat (cI n)))]) (fun _=>[.box ((exC x).map .dat) (some 24)]) (fun n=>n<=x.args.length/\∀ j,j<n->(x.args.getD j default).short=true) (fun n=>x.args.length-n) 0 ⟨Nat.zero_le _,fun j hj=>by omega⟩ ?_ ?_
 . refine hg ?_;exact StH.same svl rfl
 intro n hn;obtain ⟨hn,hj⟩:=hn;refine hg ?_
 repeat' ((first | refine hfk ?_ ?_<;>intros | refine hik ?_ | with_reducible first | refine wml (ih _ (y7p (show n<x.args.length by omega)) (hx.arg _ (y7p (show n<x.args.length by omega)))) ?_ | refine ysj (ih _ (y7p (show n<x.args.length by omega)) (hx.arg _ (y7p (show n<x.args.length by omega)))) ?_)<;>refine hgS ?_)
 . rename_i h1;rw [Ex.ygf,all_false (by omega) h1];exact RLe.ofEq rfl
 . rename_i h1;exact ⟨n+1,⟨by omega,vol hj h1⟩,by omega,StH.same svl rfl⟩
 all_goals
  have e:n=x.args.length:=by omega
  subst e;rw [Ex.ygf,all_true hj]
  refine lfE ?_;first | exact trivial | rfl
def fewX (x:Ex):Bool:=(decide (0<=x.rsz 60 12)||(decide (0<=x.rsz 220 24)&&!ygj x))&&x.short
def vrS (v:Vr):Bool:=decide ((v.name.size:Int)<=30)
def tbS (t:Tb):Bool:=decide ((t.name.size:Int)<=30)&&(decide ((t.unit.size:Int)<=30)&&decide ((t.rows.length:Int)<=8))
def v1w (x:Ex) (vs:List Vr) (ms:List Tb):Bool:=fewX x&&((vs.take 11).all vrS&&((ms.take 6).all tbS&&(decide ((vs.length:Int)<=10)&&decide ((ms.length:Int)<=5))))
theorem xdn [Inhabited α] {p:α->Bool} {l:List α} {n:Nat} (h1:i<n) (h2:i<l.length) (h:p (l.getD i default)=false):(l.take n).all p=false:=by
 cases e:(l.take n).all p with
 | false=>rfl
 | true=>
  have hm:l.getD i default∈l.take n:=by
   rw [show l.getD i default=l[i] from by simp [h2]];exact List.mem_take_iff_getElem.2 ⟨i,by omega,rfl⟩
  rw [List.all_eq_true.1 e _ hm] at h;cases h
theorem z8a [Inhabited α] {p:α->Bool} {l:List α} {n:Nat} (hj:∀ j,j<i->p (l.getD j default)=true) (h:i=n\/i=l.length):(l.take n).all p=true:=by
 rw [List.all_eq_true];intro y hy;obtain ⟨j,hj2,rfl⟩:=List.mem_take_iff_getElem.1 hy
 have:=hj j (by omega)
 rwa [show l.getD j default=l[j] from by simp [show j<l.length by omega]] at this
theorem znv (x:Ex) (hx:x.Sm) (vs:List Vr) (ms:List Tb) (hv:vs.length<=1073741824) (_hm:ms.length<=1073741824):CallsD Γ prog 35 [.agg (exC x),.one (.sl 7 (vs.map Vr.C)),.one (.sl 3 (ms.map Tb.C))] (.one (cB (v1w x vs ms))):=by
 have h1:=rFew (Γ:=Γ) x hx 60 12 (by decide) (by decide) (by decide) (by decide);have h2:=rFew (Γ:=Γ) x hx 220 24 (by decide) (by decide) (by decide) (by decide);have h3:=xsr (Γ:=Γ) x hx;have h4:=x4w (Γ:=Γ) x hx;have hf:fewX x=((decide (0<=x.rsz 60 12)||(decide (0<=x.rsz 220 24)&&!ygj x))&&x.short):=rfl;generalize decide (0<=x.rsz 60 12)=b1 at h1 hf;generalize decide (0<=x.rsz 220 24)=b2 at h2 hf;generalize ygj x=b3 at h3 hf;generalize x.short=b4 at h4 hf;generalize hR:v1w x vs ms=R;refine CallsD.run [] Go.Proofs.Tryz.func35 rfl rfl rfl ?_;simp only [Go.Proofs.Tryz.f35];refine hgR ?_
 repeat' ((first | refine hfk ?_ ?_<;>intros | refine hik ?_ | with_reducible first | refine wml (h1) ?_ | refine ysj (h1) ?_ | refine wml (h2) ?_ | refine ysj (h2) ?_ | refine wml (h3) ?_ | refine ysj (h3) ?_ | refine wml (h4) ?_ | refine ysj (h4) ?_)<;>refine hgS ?_)
 all_goals first
  | exact RLe.ofEq (by rw [<-hR];unfold v1w;rw [hf];simp [*])
  | skip
 all_goals
  have hX:fewX x=true:=by rw [hf];simp [*]
  clear hf h1 h2 h3 h4;refine x20 [1,2] (fun n:Nat=>[(7,.one (.dat (cI n)))]) (fun _=>[.box ((exC x).map .dat) (some 24)]) (fun n=>n<=vs.length/\n<=11/\∀ j,j<n->vrS (vs.getD j default)=true) (fun n=>vs.length-n) 0 ⟨Nat.zero_le _,Nat.zero_le _,fun j hj=>by omega⟩ ?_ ?_
  . refine hg ?_;exact StH.same svl rfl
  intro n hn;obtain ⟨hn,hn2,hj⟩:=hn;refine hg ?_
  repeat' ((first | refine hfk ?_ ?_<;>intros | refine hik ?_)<;>refine hgS ?_)
  . rename_i h _;exact RLe.ofEq (by rw [<-hR];unfold v1w;rw [xdn (i:=n) (by omega) (by omega) (by unfold vrS;exact decide_eq_false (by omega)),hX];rfl)
  . rename_i h _;exact ⟨n+1,⟨by omega,by omega,vol hj (by unfold vrS;exact decide_eq_true (by omega))⟩,by omega,StH.same svl rfl⟩
  all_goals
   have hV:(vs.take 11).all vrS=true:=z8a (i:=n) hj (by omega);clear hj;refine x20 [1,2] (fun n:Nat=>[(8,.one (.dat (cI n)))]) (fun _=>[.box ((exC x).map .dat) (some 24)]) (fun n=>n<=ms.length/\n<=6/\∀ j,j<n->tbS (ms.getD j default)=true) (fun n=>ms.length-n) 0 ⟨Nat.zero_le _,Nat.zero_le _,fun j hj=>by omega⟩ ?_ ?_
   . refine hg ?_;exact StH.same svl rfl
   intro k hk;obtain ⟨hk,hk2,hj⟩:=hk;refine hg ?_
   repeat' ((first | refine hfk ?_ ?_<;>intros | refine hik ?_)<;>refine hgS ?_)
   all_goals first
    | exact RLe.ofEq (by rw [<-hR];unfold v1w;rw [xdn (l:=ms) (i:=k) (by omega) (by omega) (by unfold tbS;first | (rw [decide_eq_false (show ¬((ms.getD k default).name.size:Int)<=30 by omega)];rfl) | (rw [decide_eq_false (show ¬((ms.getD k default).unit.size:Int)<=30 by omega),Bool.false_and,Bool.and_false]) | (rw [decide_eq_false (show ¬((ms.getD k default).rows.length:Int)<=8 by omega),Bool.and_false,Bool.and_false])),hX,hV];rfl)
    | exact RLe.ofEq (by rw [<-hR];unfold v1w;rw [z8a (l:=ms) (i:=k) hj (by omega),hX,hV];simp [*])
    | exact ⟨k+1,⟨by omega,by omega,vol hj (by unfold tbS;rw [decide_eq_true (show ((ms.getD k default).name.size:Int)<=30 by omega),decide_eq_true (show ((ms.getD k default).unit.size:Int)<=30 by omega),decide_eq_true (show ((ms.getD k default).rows.length:Int)<=8 by omega)];rfl)⟩,by omega,StH.same svl rfl⟩
    | skip
end Go.Hp.T
namespace Go.Hp.T
open Go Go.RowKit Go.Slot Go.Hp Go.Slot.T
open Go.Proofs.Tryz (prog)
set_option maxRecDepth 10000
set_option maxHeartbeats 8000000
variable {Γ:List (Nat×List Cell)}
theorem ya7 {α:Type} {l:List α} {i:Nat} (d:α) (h:i<l.length):l.take (i+1)=l.take i++[l.getD i d]:=by
 rw [List.take_add_one];simp [h]
theorem yge (f:Fc) (n:Int) (_h1:f.L.length<=1099511627776) (_h2:f.M.length<=1099511627776) :
 CallsD Γ prog 47 [.agg f.C,.one (.raw (.int .i64 n))] (.one (.raw (.bool (decide ((f.sz:Int)<=n))))):=by
 have e:((f.sz:Nat):Int)=max (f.L.length:Int) f.M.length:=by unfold Fc.sz;omega
 refine CallsD.run [] Go.Proofs.Tryz.func47 rfl rfl rfl ?_;simp only [Go.Proofs.Tryz.f47];refine hgR ?_;refine ywj (fun h _=>?_) (fun h _=>?_)
 . have h':=decide_eq_true h;refine hg1 @h' ?_;exact (by rw [show decide ((f.sz:Int)<=n)=decide ((f.M.length:Int)<=n) from decide_eq_decide.2 (by omega)];exact .one (.refl _))
 . have h':=decide_eq_false h;refine hg1 @h' ?_;exact (by rw [decide_eq_false (by omega)];exact .one (.refl _))
theorem xlr (f:Fc) (h1:f.L.length<=1099511627776) (h2:f.M.length<=1099511627776) :
 CallsD Γ prog 47 [.agg f.C,.one (.raw (.int .i64 4))] (.one (.raw (.bool (decide (f.sz<=4))))):=by
 have:=yge (Γ:=Γ) f 4 h1 h2
 rwa [decide_eq_decide.2 (show (f.sz:Int)<=4↔f.sz<=4 by omega)] at this
theorem wbl (s:Int) (L:List Int) (s':Int) (M:List Int) (lL:L.length<=1073741824) (_lM:M.length<=1073741824) :
 CallsD Γ prog 89 [.agg [.raw (.int .i64 s),.ints .i64 L],.agg [.raw (.int .i64 s'),.ints .i64 M]] (.one (.raw (.bool (decide (s=s'/\L=M))))):=by
 obtain ⟨r,hr⟩:∃ r,r=decide (s=s'/\L=M):=⟨_,rfl⟩;rw [<-hr]
 have bad:¬(s=s'/\L=M)->false=r:=fun h=>by rw [hr,decide_eq_false h]
 by_cases h1:s=s'
 . subst h1;by_cases h2:(L.length:Int)=M.length
   . have hl:L.length=M.length:=by omega
     have h2':¬((L.length:Int)≠M.length):=fun h=>h h2
     refine CallsD.run [] Go.Proofs.Tryz.func89 rfl rfl rfl ?_;simp only [Go.Proofs.Tryz.f89];refine hgR ?_;refine vt2 (fun h _=>absurd h h2') (fun _ _=>?_);refine hg ?_;refine x20 [2,3] (fun i:Nat=>[(5,.one (.dat (cI (i))))]) (fun _=>[.box [.dat (cI s),.dat (.ints .i64 L)] (some 31),.box [.dat (cI s),.dat (.ints .i64 M)] (some 31)]) (fun i=>i<=L.length/\L.take i=M.take i) (fun i=>L.length-i) 0 ⟨Nat.zero_le _,rfl⟩ ?_ ?_
     . refine hg ?_;exact StH.same svl rfl
     rintro i ⟨hi,he⟩;refine hg ?_;refine vt2 (fun h1 _=>?_) (fun h1 _=>?_)
     . have hgg:∀(l:List Int),i<l.length->l.take (i+1)=l.take i++[l.getD i 0]:=fun l h=>ya7 0 h
       refine hg ?_;refine hik ?_;refine hg ?_;refine vt2 (fun h2 _=>?_) (fun h2 _=>?_)
       . refine hg ?_;exact (by rw [bad (fun e=>h2 (by rw [e.2]))];exact .one (.refl _))
       . have h2:L.getD i 0=M.getD i 0:=by omega
         refine hg ?_;refine ⟨i+1,⟨by omega,?_⟩,by omega,StH.same svl rfl⟩;rw [hgg L (by omega),hgg M (by omega),he,h2]
     . have hi:i=L.length:=by omega
       subst hi;rw [List.take_length,hl,List.take_length] at he
       have e:true=r:=by rw [hr,decide_eq_true ⟨rfl,he⟩]
       refine hg ?_;exact (by rw [e];exact .one (.refl _))
   . have h2:(L.length:Int)≠M.length:=h2;refine CallsD.run [] Go.Proofs.Tryz.func89 rfl rfl rfl ?_;simp only [Go.Proofs.Tryz.f89];refine hgR ?_;refine vt2 (fun _ _=>?_) (fun h _=>absurd h2 h);refine hg ?_;exact (by rw [bad (fun e=>h2 (by rw [e.2]))];exact .one (.refl _))
 . have h1':=decide_eq_true (show s≠s' from h1);refine CallsD.run [] Go.Proofs.Tryz.func89 rfl rfl rfl ?_;simp only [Go.Proofs.Tryz.f89];refine hgR ?_;refine wj9 (fun h _=>absurd h1 h) (fun h _=>?_);refine hg1 @h1' ?_;exact (by rw [bad (fun e=>h1 e.1)];exact .one (.refl _))
theorem xz0 (a b:Fc) (ha:a.sz<=67108864) (hb:b.sz<=67108864):CallsD Γ prog 46 [.agg a.C,.agg b.C] (.one (.raw (.bool (decide (a=b))))):=by
 have la:=szL ha;have lb:=szL hb;obtain ⟨r,hr⟩:∃ r,r=decide (a=b):=⟨_,rfl⟩;rw [<-hr];by_cases h:a.s=b.s/\a.L=b.L
 . have h1:=wbl (Γ:=Γ) a.s a.L b.s b.L (by omega) (by omega);rw [decide_eq_true h] at h1;have h2:=wbl (Γ:=Γ) a.t a.M b.t b.M (by omega) (by omega)
   have e:decide (a.t=b.t/\a.M=b.M)=r:=by
    rw [hr];apply decide_eq_decide.2;constructor
    . intro h';cases a;cases b;simp at h h';simp [h,h']
    . intro h';rw [h'];exact ⟨rfl,rfl⟩
   rw [e] at h2;refine CallsD.run [] Go.Proofs.Tryz.func46 rfl rfl rfl ?_;simp only [Go.Proofs.Tryz.f46];refine hgR ?_
   first | refine wml h1 ?_ | refine ysj h1 ?_
   refine hg ?_
   first | refine wml h2 ?_ | refine ysj h2 ?_
   refine hg ?_;exact (.one (.refl _))
 . have h1:=wbl (Γ:=Γ) a.s a.L b.s b.L (by omega) (by omega);rw [decide_eq_false h] at h1
   have e:r=false:=by rw [hr,decide_eq_false (fun e=>h (by rw [e];exact ⟨rfl,rfl⟩))]
   subst e;refine CallsD.run [] Go.Proofs.Tryz.func46 rfl rfl rfl ?_;simp only [Go.Proofs.Tryz.f46];refine hgR ?_
   first | refine wml h1 ?_ | refine ysj h1 ?_
   refine hg ?_;exact (.one (.refl _))
def fewA (a:Af):Prop:=a.l.length<=6/\a.le 4
instance (a:Af):Decidable (fewA a):=inferInstanceAs (Decidable (a.l.length<=6/\(a.c.sz<=4/\∀ f∈a.l,f.sz<=4)))
theorem w5v (a:Af) (hl:a.l.length<=1048576) (hs:a.le 1048576):CallsD Γ prog 16 [.agg a.C] (.one (cB (decide (fewA a)))):=by
 have few:∀ f:Fc,f.sz<=1048576->CallsD Γ prog 47 [.agg f.C,.one (.raw (.int .i64 4))] (.one (.raw (.bool (decide (f.sz<=4))))):=fun f h=>by
  have h2:=szL h;exact xlr f (by omega) (by omega)
 simp only [Fc.C_eq] at few;have hc:=few a.c hs.1;generalize hR:decide (fewA a)=R;refine CallsD.run [] Go.Proofs.Tryz.func16 rfl rfl rfl ?_;simp only [Go.Proofs.Tryz.f16];refine hgR ?_;refine x20 [1] (fun i:Nat=>[(3,.one (.dat (cI i)))]) (fun _=>[.box (a.C.map .dat) (some 36)]) (fun i=>i<=a.l.length/\i<=7/\∀ j,j<i->(a.l.getD j Fc.zero).sz<=4) (fun i=>a.l.length-i) 0 ⟨Nat.zero_le _,Nat.zero_le _,fun j hj=>by omega⟩ ?_ ?_
 . refine hg ?_;exact StH.same svl rfl
 rintro i ⟨h1,h2,h3⟩;refine hg ?_;by_cases hlt:i<a.l.length
 . have hf:=few (a.l.getD i Fc.zero) (zmm hs.2 hlt)
   have bad:¬(a.l.getD i Fc.zero).sz<=4->R=false:=fun h=>by
    rw [<-hR];exact decide_eq_false (fun hh=>h (zmm hh.2.2 hlt))
   have big:¬a.l.length<=6->R=false:=fun h=>by
    rw [<-hR];exact decide_eq_false (fun hh=>h hh.1)
   repeat' ((first | refine hfk ?_ ?_<;>intros | refine hik ?_ | with_reducible first | refine wml (hf) ?_ | refine ysj (hf) ?_ | refine wml (hc) ?_ | refine ysj (hc) ?_)<;>refine hgS ?_)
   all_goals first
    | exact .one (.refl _)
    | (exfalso;omega)
    | (rw [bad (by assumption)];exact .one (.refl _))
    | (rw [big (by omega)];exact .one (.refl _))
    | exact ⟨i+1,⟨by omega,by omega,xm4 (p:=fun j=>(a.l.getD j Fc.zero).sz<=4) h3 (by first | assumption | exact of_decide_eq_true (by assumption) | exact Decidable.of_not_not (by assumption))⟩,by omega,StH.same svl rfl⟩
 . have hi:i=a.l.length:=by omega
   have e:a.l.length<=6->R=decide (a.c.sz<=4):=fun h=>by
    rw [<-hR]
    exact decide_eq_decide.2 ⟨fun hh=>hh.2.1,fun hh=>⟨h,hh,fun f hf=>by
     obtain ⟨j,hj,rfl⟩:=List.getElem_of_mem hf
     have:=h3 j (by omega)
     rwa [show a.l.getD j Fc.zero=a.l[j] from by simp [hj]] at this⟩⟩
   have big:¬a.l.length<=6->R=false:=fun h=>by
    rw [<-hR];exact decide_eq_false (fun hh=>h hh.1)
   repeat' ((first | refine hfk ?_ ?_<;>intros | refine hik ?_ | with_reducible first | refine wml (hc) ?_ | refine ysj (hc) ?_)<;>refine hgS ?_)
   all_goals first
    | exact .one (.refl _)
    | (exfalso;omega)
    | (rw [big (by omega)];exact .one (.refl _))
    | (rw [e (by omega)];exact .one (.refl _))
theorem CallsD.ws4 {Γ:List (Nat×List Cell)} {P:Program} {f:FuncId} {args args':List AV} {res:AV} (h:CallsD Γ P f args' res) (hle:LeS args args'):CallsD Γ P f args res:=⟨h.1,fun M w vs hM hg hr=>h.2 M w vs hM hg (RdBL.le hle hr)⟩
def yw7 (x:Ex) (ss:List Sl) (ms:List Tb):Bool:=(ss.take 7).all (fun s=>decide ((s.name.size:Int)<=30)&&decide (fewA s.f))&&(decide ((ss.length:Int)<=6)&&(v1w x [] ms&&(decide (0<=x.rsz 40 12)||!ygj x)))
theorem zt1 (x:Ex) (hx:x.Sm) (ss:List Sl) (ms:List Tb) (hl:ss.length<=1073741824) (hs:∀ s∈ss,s.f.l.length<=1048576/\s.f.le 1048576) (hm:ms.length<=1073741824):CallsD Γ prog 9 [.agg (exC x),.one (.sl 6 (ss.map Sl.C)),.one (.sl 3 (ms.map Tb.C))] (.one (cB (yw7 x ss ms))):=by
 have h1:=znv (Γ:=Γ) x hx [] ms (by decide) hm;have h2:=rFew (Γ:=Γ) x hx 40 12 (by decide) (by decide) (by decide) (by decide);have h3:=xsr (Γ:=Γ) x hx;generalize hR:yw7 x ss ms=R;have e:R=((ss.take 7).all (fun s=>decide ((s.name.size:Int)<=30)&&decide (fewA s.f))&&(decide ((ss.length:Int)<=6)&&(v1w x [] ms&&(decide (0<=x.rsz 40 12)||!ygj x)))):=hR.symm;clear hR;generalize v1w x [] ms=b1 at h1 e;generalize decide (0<=x.rsz 40 12)=b2 at h2 e;generalize ygj x=b3 at h3 e;rw [List.map_nil] at h1;have h1:=CallsD.ws4 h1 (args:=[.agg (exC x),.one (.raw (.slice none 0 0)),.one (.sl 3 (ms.map Tb.C))]) (.cons (.refl _) (.cons (.one (.nilSl _)) (.cons (.refl _) .nil)));refine CallsD.run [] Go.Proofs.Tryz.func9 rfl rfl rfl ?_;simp only [Go.Proofs.Tryz.f9];refine hgR ?_;refine x20 [1,2,3] (fun i:Nat=>[(7,.one (.dat (cI i)))]) (fun _=>[.box ((exC x).map .dat) (some 24)]) (fun i=>i<=ss.length/\i<=7/\∀ j,j<i->(decide (((ss.getD j default).name.size:Int)<=30)&&decide (fewA (ss.getD j default).f))=true) (fun i=>ss.length-i) 0 ⟨Nat.zero_le _,Nat.zero_le _,fun j hj=>by omega⟩ ?_ ?_
 . refine hg ?_;exact StH.same svl rfl
 rintro i ⟨k1,k2,k3⟩;refine hg ?_;by_cases hlt:i<ss.length/\i<7
 . have hm2:=hs _ (y7p hlt.1);have hf:=w5v (Γ:=Γ) (ss.getD i default).f hm2.1 hm2.2;simp only [Af.C_eq] at hf;have no:=xdn (p:=fun s:Sl=>decide ((s.name.size:Int)<=30)&&decide (fewA s.f)) hlt.2 hlt.1;generalize hb:decide (fewA (ss.getD i default).f)=b at hf no
   have yes1:¬30<((ss.getD i default).name.size:Int)->b=true->(decide (((ss.getD i default).name.size:Int)<=30)&&b)=true:=fun h k=>by rw [k,decide_eq_true (by omega)];rfl
   have no1:30<((ss.getD i default).name.size:Int)->(decide (((ss.getD i default).name.size:Int)<=30)&&b)=false:=fun h=>by rw [decide_eq_false (by omega)];rfl
   have no2:b=false->(decide (((ss.getD i default).name.size:Int)<=30)&&b)=false:=fun h=>by rw [h,Bool.and_false]
   repeat' ((first | refine hfk ?_ ?_<;>intros | refine hik ?_ | with_reducible first | refine wml (hf) ?_ | refine ysj (hf) ?_)<;>refine hgS ?_)
   all_goals first
    | (exfalso;omega)
    | (rw [no (by first | exact no1 (by assumption) | exact no2 (by assumption))];exact .one (.refl _))
    | (rw [e,no (by first | exact no1 (by assumption) | exact no2 (by assumption))];exact .one (.refl _))
    | exact ⟨i+1,⟨by omega,by omega,vol k3 (by rw [hb];exact yes1 (by assumption) (by assumption))⟩,by omega,StH.same svl rfl⟩
 . have yes:=z8a (p:=fun s:Sl=>decide ((s.name.size:Int)<=30)&&decide (fewA s.f)) (n:=7) k3 (by omega);rw [yes,Bool.true_and] at e
   repeat' ((first | refine hfk ?_ ?_<;>intros | refine hik ?_ | with_reducible first | refine wml (h1) ?_ | refine ysj (h1) ?_ | refine wml (h2) ?_ | refine ysj (h2) ?_ | refine wml (h3) ?_ | refine ysj (h3) ?_)<;>refine hgS ?_)
   all_goals first
    | (exfalso;omega)
    | exact RLe.ofEq rfl
    | exact RLe.ofEq (by simp [*])
    | exact RLe.ofEq (by rw [e];simp [*])
instance:DecidableEq Af:=fun a b=>decidable_of_iff (a.c=b.c/\a.l=b.l) ⟨fun h=>by cases a;cases b;simp at h;simp [h],fun h=>by rw [h];exact ⟨rfl,rfl⟩⟩
theorem z4n (a b:Af) (la:a.l.length<=1048576) (lb:b.l.length<=1048576) (ha:a.le 67108864) (hb:b.le 67108864):CallsD Γ prog 15 [.agg a.C,.agg b.C] (.one (cB (decide (a=b)))):=by
 have hc:=xz0 (Γ:=Γ) a.c b.c ha.1 hb.1
 have hx:∀ i,i<a.l.length->i<b.l.length->CallsD Γ prog 46 [.agg (a.l.getD i Fc.zero).C,.agg (b.l.getD i Fc.zero).C] (.one (.raw (.bool (decide (a.l.getD i Fc.zero=b.l.getD i Fc.zero))))):=fun i h k=>xz0 _ _ (zmm ha.2 h) (zmm hb.2 k)
 generalize hR:decide (a=b)=R
 have bad1:¬a.l.length=b.l.length->R=false:=fun h=>by rw [<-hR];exact decide_eq_false (fun hh=>h (by rw [hh]))
 have bad2:decide (a.c=b.c)=false->R=false:=fun h=>by rw [<-hR];exact decide_eq_false (fun hh=>of_decide_eq_false h (by rw [hh]))
 have bad3:∀ i,i<a.l.length->decide (a.l.getD i Fc.zero=b.l.getD i Fc.zero)=false->R=false:=fun i _ h=>by rw [<-hR];exact decide_eq_false (fun hh=>of_decide_eq_false h (by rw [hh]))
 have good:a.l.length=b.l.length->decide (a.c=b.c)=true->(∀ j,j<a.l.length->decide (a.l.getD j Fc.zero=b.l.getD j Fc.zero)=true)->R=true:=fun h1 h2 h3=>by
  rw [<-hR];refine decide_eq_true ?_
  have e:a.l=b.l:=List.ext_getElem h1 (fun j hj hk=>by
   have:=of_decide_eq_true (h3 j hj)
   simpa [List.getD_eq_getElem?_getD,hj,hk] using this)
  have e2:=of_decide_eq_true h2
  cases a;cases b;simp only at e e2;rw [e,e2]
 clear hR;simp only [Fc.C_eq] at hc hx;generalize decide (a.c=b.c)=q at hc bad2 good;refine CallsD.run [] Go.Proofs.Tryz.func15 rfl rfl rfl ?_;simp only [Go.Proofs.Tryz.f15];refine hgR ?_
 repeat' ((first | refine hfk ?_ ?_<;>intros | refine hik ?_ | with_reducible first | refine wml (hc) ?_ | refine ysj (hc) ?_)<;>refine hgS ?_)
 all_goals try (first
  | exact .one (.refl _)
  | (rw [bad1 (by omega)];exact .one (.refl _))
  | (rw [bad2 (by assumption)];exact .one (.refl _)))
 refine x20 [2,3] (fun i:Nat=>[(5,.one (.dat (cI i)))]) (fun _=>[.box (a.C.map .dat) (some 36),.box (b.C.map .dat) (some 36)]) (fun i=>i<=a.l.length/\∀ j,j<i->decide (a.l.getD j Fc.zero=b.l.getD j Fc.zero)=true) (fun i=>a.l.length-i) 0 ⟨Nat.zero_le _,fun j hj=>by omega⟩ ?_ ?_
 . refine hg ?_;exact StH.same svl rfl
 rintro i ⟨h1,h2⟩;refine hg ?_;refine vt2 (fun hlt _=>?_) (fun hlt _=>?_)
 . have h:=hx i (by omega) (by omega);have bad:=bad3 i (by omega)
   have next:=fun h=>xm4 (p:=fun j=>decide (a.l.getD j Fc.zero=b.l.getD j Fc.zero)=true) h2 h
   generalize decide (a.l.getD i Fc.zero=b.l.getD i Fc.zero)=r at h bad next;clear bad1 bad2 bad3 good hx h2;refine hg ?_
   repeat' ((first | refine hfk ?_ ?_<;>intros | refine hik ?_ | with_reducible first | refine wml (h) ?_ | refine ysj (h) ?_)<;>refine hgS ?_)
   all_goals first
    | exact .one (.refl _)
    | (rw [bad (by assumption)];exact .one (.refl _))
    | exact ⟨i+1,⟨by omega,next (by assumption)⟩,by omega,StH.same svl rfl⟩
 . have e:i=a.l.length:=by omega
   subst e;rw [good (by omega) (by assumption) h2];refine hg ?_;exact .one (.refl _)
end Go.Hp.T
namespace Go.Hp
open Go Go.RowKit Go.Slot
variable {P:Program} {Γ:List (Nat×List Cell)}
mutual
def uz (k:Nat):Cell->Cell
 | .zc=>.sl k []
 | .sl n rows=>.sl n (uzLL k rows)
 | c=>c
def uzL (k:Nat):List Cell->List Cell
 | []=>[]
 | c::l=>uz k c::uzL k l
def uzLL (k:Nat):List (List Cell)->List (List Cell)
 | []=>[]
 | r::l=>uzL k r::uzLL k l
end
theorem ysz (k:Nat):∀ l:List Cell,uzL k l=l.map (uz k)
 | []=>by rw [uzL];rfl
 | _::l=>by rw [uzL,ysz k l];rfl
theorem wqn (k:Nat):∀ l:List (List Cell),uzLL k l=l.map (uzL k)
 | []=>by rw [uzLL];rfl
 | _::l=>by rw [uzLL,wqn k l];rfl
theorem yxe (k:Nat) (l:List Cell):(uzL k l).length=l.length:=by rw [ysz,List.length_map]
theorem vh5 (k:Nat) (l:List (List Cell)):(uzLL k l).length=l.length:=by rw [wqn,List.length_map]
theorem xk6 (k:Nat) (l:List (List Cell)) (i:Nat) (h:i<(uzLL k l).length):(uzLL k l)[i]=uzL k (l[i]'(by rw [<-vh5 k];exact h)):=by
 simp only [wqn,List.getElem_map]
theorem zhb (k:Nat) (l:List Cell) (i:Nat) (h:i<(uzL k l).length):(uzL k l)[i]=uz k (l[i]'(by rw [<-yxe k];exact h)):=by
 simp only [ysz,List.getElem_map]
theorem RdC.uz {M:Nat->Nat->Prop} {w:World} {v:Value} {c:Cell} (k:Nat) (h:RdC M w v c):RdC M w v (uz k c):=by
 induction h with
 | raw h=>simp only [Go.Hp.uz];exact .raw h
 | zc=>rw [Go.Hp.uz];exact RdC.zcSl k
 | nn=>simp only [Go.Hp.uz];exact .nn
 | fnp h hp=>simp only [Go.Hp.uz];exact .fnp h hp
 | ints b off hl hc ha h=>simp only [Go.Hp.uz];exact .ints b off hl hc ha h
 | @sl a len cap n rows b off u hl hc ha hn hm hr ih =>
  rw [Go.Hp.uz];refine .sl b off u (by rw [vh5];exact hl) hc (fun hne=>ha (fun he=>hne (by rw [he];simp only [wqn,List.map_nil]))) (fun r hr'=>?_) (fun i hi j hj=>hm i (by rw [<-vh5 k];exact hi) j hj) (fun i hi j hj=>?_)
  . rw [wqn] at hr';obtain ⟨r0,h0,rfl⟩:=List.mem_map.1 hr';rw [yxe];exact hn _ h0
  . have hi2:i<rows.length:=by rw [<-vh5 k];exact hi
    have e1:((uzLL k rows)[i])=uzL k rows[i]:=xk6 k rows i hi
    have hj2:j<rows[i].length:=by rw [<-yxe k,<-e1];exact hj
    have e2:((uzLL k rows)[i])[j]=Go.Hp.uz k (rows[i][j]):=by
     have:=zhb k rows[i] j (by rw [yxe];exact hj2)
     rw [<-this];congr 1
    rw [e2];exact ih i hi2 j hj2
theorem RdD.uz {M:Nat->Nat->Prop} {w:World} (k:Nat):∀{vs:List Value} {cs:List Cell},RdD M w vs cs->RdD M w vs (uzL k cs)
 | [],[],h=>by rw [uzL];exact h
 | _::_,[],h=>h.elim
 | [],_::_,h=>h.elim
 | _::_,_::_,h=>by rw [uzL];exact ⟨RdC.uz k h.1,RdD.uz k h.2⟩
theorem CallsD.uz {f:FuncId} {args:List AV} {cs:List Cell} {l:List AV} (k:Nat) (h:CallsD Γ P f args (.tup (.agg cs::l))):CallsD Γ P f args (.tup (.agg (uzL k cs)::l)):=
 ⟨h.1,fun M w vs hM hg hr=>(h.2 M w vs hM hg hr).mono (fun _ _ ⟨v,h1,h2,h3,h4⟩=>by
  obtain ⟨us,hu,hl⟩:=h3
  match us,hl with
  | u::us,hl=>
   obtain ⟨ws,hw,hrd⟩:=hl.1
   exact ⟨v,h1,h2,⟨u::us,hu,⟨ws,hw,RdD.uz k hrd⟩,hl.2⟩,fun hh=>by cases hh⟩)⟩
end Go.Hp
namespace Go.Hp.T
open Go Go.RowKit Go.Slot Go.Hp
open Go.Proofs.Tryz (prog)
def Gs:List (Nat×List Cell):=[(0,[.raw (.int .u8 40),.raw (.int .u8 41),.raw (.int .u8 44),.raw (.int .u8 59),.raw (.int .u8 58),.raw (.int .u8 61),.raw (.int .u8 60),.raw (.int .u8 43),.raw (.int .u8 45),.raw (.int .u8 42),.raw (.int .u8 47),.raw (.int .u8 123),.raw (.int .u8 125)])]
def exOf (o n:Int) (u s:List UInt8) (l:List Ex):Ex:=.mk o n ⟨⟨u⟩⟩ ⟨⟨s⟩⟩ l
abbrev zS:Cell:=cS ⟨⟨[]⟩⟩
abbrev parR (x:Ex):AV:=.tup [.agg (exC x),.one (cI 0),.one (cI 0)]
theorem CallsD.uzE {f:FuncId} {args:List AV} {cs cs':List Cell} {l:List AV} (k:Nat) (h:CallsD Gs prog f args (.tup (.agg cs::l))) (e:uzL k cs=cs'):CallsD Gs prog f args (.tup (.agg cs'::l)):=e▸h.uz k
def sx0:List UInt8:=[40,50,32,42,32,97,41,32,43,32,40,98,32,47,32,99,41]
def ex0:Ex:=exOf 6 0 [] [] [(exOf 8 0 [] [] [(exOf 0 2 [] [] []),(exOf 1 0 [] [97] [])]),(exOf 9 0 [] [] [(exOf 1 0 [] [98] []),(exOf 1 0 [] [99] [])])]
def sx1:List UInt8:=[40,97,32,45,32,51,41,32,42,32,108,111,111,107,40,103,114,105,100,44,32,99,32,43,32,50,41]
def ex1:Ex:=exOf 8 0 [] [] [(exOf 7 0 [] [] [(exOf 1 0 [] [97] []),(exOf 0 3 [] [] [])]),(exOf 2 0 [] [103,114,105,100] [(exOf 6 0 [] [] [(exOf 1 0 [] [99] []),(exOf 0 2 [] [] [])])])]
def sx2:List UInt8:=[105,102,32,40,99,32,60,32,53,41,32,116,104,101,110,32,97,32,101,108,115,101,32,40,97,32,42,32,98,41]
def ex2:Ex:=exOf 5 0 [] [] [(exOf 12 0 [] [] [(exOf 1 0 [] [99] []),(exOf 0 5 [] [] [])]),(exOf 1 0 [] [97] []),(exOf 8 0 [] [] [(exOf 1 0 [] [97] []),(exOf 1 0 [] [98] [])])]
def sx3:List UInt8:=[97,32,47,32,40,99,32,45,32,52,41]
def ex3:Ex:=exOf 9 0 [] [] [(exOf 1 0 [] [97] []),(exOf 7 0 [] [] [(exOf 1 0 [] [99] []),(exOf 0 4 [] [] [])])]
def sx4:List UInt8:=[108,111,111,107,40,103,114,105,100,44,32,48,32,45,32,99,41]
def ex4:Ex:=exOf 2 0 [] [103,114,105,100] [(exOf 7 0 [] [] [(exOf 0 0 [] [] []),(exOf 1 0 [] [99] [])])]
def sx5:List UInt8:=[97,32,42,32,98]
def ex5:Ex:=exOf 8 0 [] [] [(exOf 1 0 [] [97] []),(exOf 1 0 [] [98] [])]
def sx6:List UInt8:=[49,32,47,32,97]
def ex6:Ex:=exOf 9 0 [] [] [(exOf 0 1 [] [] []),(exOf 1 0 [] [97] [])]
def sx7:List UInt8:=[109,105,110,40,97,44,32,49,41]
def ex7:Ex:=exOf 10 0 [] [] [(exOf 1 0 [] [97] []),(exOf 0 1 [] [] [])]
def sx8:List UInt8:=[97,32,60,32,49]
def ex8:Ex:=exOf 12 0 [] [] [(exOf 1 0 [] [97] []),(exOf 0 1 [] [] [])]
def sx9:List UInt8:=[108,111,111,107,40,103,114,105,100,44,32,97,41]
def ex9:Ex:=exOf 2 0 [] [103,114,105,100] [(exOf 1 0 [] [97] [])]
def sx10:List UInt8:=[99,32,60,32,53]
def ex10:Ex:=exOf 12 0 [] [] [(exOf 1 0 [] [99] []),(exOf 0 5 [] [] [])]
end Go.Hp.T
namespace Go.Hp.T
open Go Go.RowKit Go.Slot Go.Hp
open Go.Proofs.Tryz (prog)
set_option maxRecDepth 100000
theorem par0:CallsD Gs prog 71 [xv3 sx0] (parR ex0):=
 CallsD.uzE 5 (cs:=[cI 6,cI 0,zS,zS,(.sl 5 [[cI 8,cI 0,zS,zS,(.sl 5 [[cI 0,cI 2,zS,zS,.zc],[cI 1,cI 0,zS,cS ⟨⟨[97]⟩⟩,.zc]])],[cI 9,cI 0,zS,zS,(.sl 5 [[cI 1,cI 0,zS,cS ⟨⟨[98]⟩⟩,.zc],[cI 1,cI 0,zS,cS ⟨⟨[99]⟩⟩,.zc]])]])]) (CallsD.fv (N:=1000) (n:=60) OkD.none (by kernel_rfl)) (by kernel_rfl)
theorem par1:CallsD Gs prog 71 [xv3 sx1] (parR ex1):=
 CallsD.uzE 5 (cs:=[cI 8,cI 0,zS,zS,(.sl 5 [[cI 7,cI 0,zS,zS,(.sl 5 [[cI 1,cI 0,zS,cS ⟨⟨[97]⟩⟩,.zc],[cI 0,cI 3,zS,zS,.zc]])],[cI 2,cI 0,zS,cS ⟨⟨[103,114,105,100]⟩⟩,(.sl 5 [[cI 6,cI 0,zS,zS,(.sl 5 [[cI 1,cI 0,zS,cS ⟨⟨[99]⟩⟩,.zc],[cI 0,cI 2,zS,zS,.zc]])]])]])]) (CallsD.fv (N:=1000) (n:=60) OkD.none (by kernel_rfl)) (by kernel_rfl)
theorem par2:CallsD Gs prog 71 [xv3 sx2] (parR ex2):=
 CallsD.uzE 5 (cs:=[cI 5,cI 0,zS,zS,(.sl 5 [[cI 12,cI 0,zS,zS,(.sl 5 [[cI 1,cI 0,zS,cS ⟨⟨[99]⟩⟩,.zc],[cI 0,cI 5,zS,zS,.zc]])],[cI 1,cI 0,zS,cS ⟨⟨[97]⟩⟩,.zc],[cI 8,cI 0,zS,zS,(.sl 5 [[cI 1,cI 0,zS,cS ⟨⟨[97]⟩⟩,.zc],[cI 1,cI 0,zS,cS ⟨⟨[98]⟩⟩,.zc]])]])]) (CallsD.fv (N:=1000) (n:=60) OkD.none (by kernel_rfl)) (by kernel_rfl)
theorem par3:CallsD Gs prog 71 [xv3 sx3] (parR ex3):=
 CallsD.uzE 5 (cs:=[cI 9,cI 0,zS,zS,(.sl 5 [[cI 1,cI 0,zS,cS ⟨⟨[97]⟩⟩,.zc],[cI 7,cI 0,zS,zS,(.sl 5 [[cI 1,cI 0,zS,cS ⟨⟨[99]⟩⟩,.zc],[cI 0,cI 4,zS,zS,.zc]])]])]) (CallsD.fv (N:=1000) (n:=60) OkD.none (by kernel_rfl)) (by kernel_rfl)
theorem par4:CallsD Gs prog 71 [xv3 sx4] (parR ex4):=
 CallsD.uzE 5 (cs:=[cI 2,cI 0,zS,cS ⟨⟨[103,114,105,100]⟩⟩,(.sl 5 [[cI 7,cI 0,zS,zS,(.sl 5 [[cI 0,cI 0,zS,zS,.zc],[cI 1,cI 0,zS,cS ⟨⟨[99]⟩⟩,.zc]])]])]) (CallsD.fv (N:=1000) (n:=60) OkD.none (by kernel_rfl)) (by kernel_rfl)
theorem par5:CallsD Gs prog 71 [xv3 sx5] (parR ex5):=
 CallsD.uzE 5 (cs:=[cI 8,cI 0,zS,zS,(.sl 5 [[cI 1,cI 0,zS,cS ⟨⟨[97]⟩⟩,.zc],[cI 1,cI 0,zS,cS ⟨⟨[98]⟩⟩,.zc]])]) (CallsD.fv (N:=1000) (n:=60) OkD.none (by kernel_rfl)) (by kernel_rfl)
theorem par6:CallsD Gs prog 71 [xv3 sx6] (parR ex6):=
 CallsD.uzE 5 (cs:=[cI 9,cI 0,zS,zS,(.sl 5 [[cI 0,cI 1,zS,zS,.zc],[cI 1,cI 0,zS,cS ⟨⟨[97]⟩⟩,.zc]])]) (CallsD.fv (N:=1000) (n:=60) OkD.none (by kernel_rfl)) (by kernel_rfl)
theorem par7:CallsD Gs prog 71 [xv3 sx7] (parR ex7):=
 CallsD.uzE 5 (cs:=[cI 10,cI 0,zS,zS,(.sl 5 [[cI 1,cI 0,zS,cS ⟨⟨[97]⟩⟩,.zc],[cI 0,cI 1,zS,zS,.zc]])]) (CallsD.fv (N:=1000) (n:=60) OkD.none (by kernel_rfl)) (by kernel_rfl)
theorem par8:CallsD Gs prog 71 [xv3 sx8] (parR ex8):=
 CallsD.uzE 5 (cs:=[cI 12,cI 0,zS,zS,(.sl 5 [[cI 1,cI 0,zS,cS ⟨⟨[97]⟩⟩,.zc],[cI 0,cI 1,zS,zS,.zc]])]) (CallsD.fv (N:=1000) (n:=60) OkD.none (by kernel_rfl)) (by kernel_rfl)
theorem par9:CallsD Gs prog 71 [xv3 sx9] (parR ex9):=
 CallsD.uzE 5 (cs:=[cI 2,cI 0,zS,cS ⟨⟨[103,114,105,100]⟩⟩,(.sl 5 [[cI 1,cI 0,zS,cS ⟨⟨[97]⟩⟩,.zc]])]) (CallsD.fv (N:=1000) (n:=60) OkD.none (by kernel_rfl)) (by kernel_rfl)
theorem ycv:CallsD Gs prog 71 [xv3 sx10] (parR ex10):=
 CallsD.uzE 5 (cs:=[cI 12,cI 0,zS,zS,(.sl 5 [[cI 1,cI 0,zS,cS ⟨⟨[99]⟩⟩,.zc],[cI 0,cI 5,zS,zS,.zc]])]) (CallsD.fv (N:=1000) (n:=60) OkD.none (by kernel_rfl)) (by kernel_rfl)
end Go.Hp.T
