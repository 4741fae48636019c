/- The proof, part Z16: Qb, Qc, Qd, Qe, Qf, Ob, Pa, Pb, Pc, Pd, Pe, Pf, Pg, Ph, Pi, Pj, Oc, Qg, Qh, Qj, Qi. -/
import Derived.Test.YtjhbbadljohadaaGreatDoorZ15
import Derived.Test.YtjhbbadljohadaaGreatDoorZ12
namespace Go.Hp.T
open Go Go.RowKit Go.Slot Go.Hp Go.Slot.T
open Go.Proofs.Tryz (prog)
set_option maxRecDepth 10000
set_option maxHeartbeats 4000000
variable {Γ:List (Nat×List Cell)}
def fillS (place:Nat→Option (Nat×Nat)) (cs:List HC) (ps:List (Nat×SV)):Option (List HC):=fillH place cs ps
def fill1 (place:Nat→Option (Nat×Nat)) (cs:List HC) (r:List (Nat×SV)) (a:Option (Nat×Nat)) (b:Option (List HC)):Option (List HC):=match a,b with
 | some (off,size),some us=>if us.length=size∧off+size≤cs.length then fillH place (cs.take off++us++cs.drop (off+size)) r else none
 | _,_=>none
def fill2 (place:Nat→Option (Nat×Nat)) (cs:List HC) (r:List (Nat×SV)) (b:Bool):Option (List HC):=bif b then fillH place cs r else none
theorem fillS_in {place:Nat→Option (Nat×Nat)} {cs:List HC} {ps:List (Nat×SV)}:fillH place cs ps=fillS place cs ps:=rfl
theorem fillS_nil {place:Nat→Option (Nat×Nat)} {cs:List HC}:fillS place cs []=some cs:=rfl
theorem fillS_cons {place:Nat→Option (Nat×Nat)} {cs:List HC} {i:Nat} {x:SV} {r:List (Nat×SV)}:fillS place cs ((i,x)::r)=fill1 place cs r (place i) (cellsH x):=by
 unfold fillS;rw [fillH];rfl
theorem nat_beq {a b:Nat}:Nat.beq a b=decide (a=b):=by rw [Bool.eq_iff_iff,decide_eq_true_iff,Nat.beq_eq]
theorem nat_ble {a b:Nat}:Nat.ble a b=decide (a≤b):=by rw [Bool.eq_iff_iff,decide_eq_true_iff,Nat.ble_eq]
theorem nat_ble_t {a b:Nat} (h:a≤b):Nat.ble a b=true:=Nat.ble_eq_true_of_le h
theorem fill1_go {place:Nat→Option (Nat×Nat)} {cs us:List HC} {off size:Nat} {r:List (Nat×SV)}:fill1 place cs r (some (off,size)) (some us)=fill2 place (cs.take off++(us++cs.drop (off+size))) r (Nat.beq us.length size&&Nat.ble (off+size) cs.length):=by
 rw [←List.append_assoc]
 show (if us.length=size∧off+size≤cs.length then fillH place (cs.take off++us++cs.drop (off+size)) r else none)=_
 rw [nat_beq,nat_ble]
 by_cases h1:us.length=size
 · by_cases h2:off+size≤cs.length
   · rw [if_pos ⟨h1,h2⟩,decide_eq_true h1,decide_eq_true h2];rfl
   · rw [if_neg (fun h=>h2 h.2),decide_eq_false h2,Bool.and_false];rfl
 · rw [if_neg (fun h=>h1 h.1),decide_eq_false h1];rfl
theorem fill2_t {place:Nat→Option (Nat×Nat)} {cs:List HC} {r:List (Nat×SV)}:fill2 place cs r true=fillS place cs r:=rfl
attribute [go_sem ↓ 30000] fillS_in
attribute [go_sem] fillS_nil fillS_cons fill1_go fill2_t nat_beq nat_ble_t
theorem n12:((12:Nat):Int)=12:=rfl
attribute [go_sem] n12
theorem isWord_flip (s:ByteArray):isWord s=(seq ⟨#[110,111,116]⟩ s||seq ⟨#[105,102]⟩ s||seq ⟨#[116,104,101,110]⟩ s||seq ⟨#[101,108,115,101]⟩ s||seq ⟨#[97,110,100]⟩ s||seq ⟨#[111,114]⟩ s||seq ⟨#[108,111,111,107]⟩ s||seq ⟨#[109,105,110]⟩ s||seq ⟨#[109,97,120]⟩ s||seq ⟨#[105,110,116,111]⟩ s||seq ⟨#[116,111]⟩ s||seq ⟨#[97,115]⟩ s):=by
 unfold isWord
 simp only [@seq_comm s]
theorem rWord (s:ByteArray):CallsD Γ prog 46 [.one (cS s)] (.one (cB (isWord s))):=by
 rw [isWord_flip]
 refine CallsD.run [] Go.Proofs.Tryz.func46 rfl rfl rfl ?_;simp only [Go.Proofs.Tryz.f46];refine hgR ?_
 repeat' ((first | refine hfk ?_ ?_<;>intros | refine hik ?_ | with_reducible refine hunroll ?_ | with_reducible refine hround ?_)<;>refine hgS ?_)
 all_goals (refine RLe.ofEq ?_;conv=>simp only [Bool.and_true,Bool.true_and,Bool.and_false,Bool.false_and,Bool.or_true,Bool.true_or,Bool.or_false,Bool.false_or,Bool.not_true,Bool.not_false,decide_true,decide_false,not_true_eq_false,not_false_eq_true,bnot_decide,if_true,if_false,Bool.and_self,Bool.or_self,cond_true,cond_false,List.length_map,ne_eq,Int.reduceEq,Int.reduceLT,Int.reduceLE, *]);first | exact trivial | rfl
def arityF (o:Int):Int:=bif decide (o=0)||decide (o=1) then 0 else bif decide (o=2)||decide (o=4) then 1 else bif decide (o=5) then 3 else bif decide (o=6)||decide (o=7)||decide (o=8)||decide (o=9)||decide (o=10)||decide (o=11)||decide (o=12)||decide (o=13)||decide (o=14)||decide (o=15) then 2 else -1
theorem rArity (o:Int):CallsD Γ prog 99 [.one (cI o)] (.one (cI (arityF o))):=by
 refine CallsD.run [] Go.Proofs.Tryz.func99 rfl rfl rfl ?_;simp only [Go.Proofs.Tryz.f99];refine hgR ?_
 repeat' ((first | refine hfk ?_ ?_<;>intros | refine hik ?_)<;>refine hgS ?_)
 all_goals (refine RLe.ofEq ?_;conv=>simp only [Bool.and_true,Bool.true_and,Bool.and_false,Bool.false_and,Bool.or_true,Bool.true_or,Bool.or_false,Bool.false_or,Bool.not_true,Bool.not_false,decide_true,decide_false,not_true_eq_false,not_false_eq_true,bnot_decide,if_true,if_false,Bool.and_self,Bool.or_self,cond_true,cond_false,List.length_map,ne_eq,Int.reduceEq,Int.reduceLT,Int.reduceLE, *,arityF,cond_true,cond_false]);first | exact trivial | rfl
theorem rNamed (s:ByteArray) (hs:s.size≤1073741824):CallsD Γ prog 98 [.one (cS s)] (.one (cB (isNamed s))):=by
 refine CallsD.run [] Go.Proofs.Tryz.func98 rfl rfl rfl ?_;simp only [Go.Proofs.Tryz.f98];refine hgR ?_
 repeat' ((first | refine hfk ?_ ?_<;>intros | refine hik ?_ | with_reducible first | refine hcall (rName s hs) ?_ | refine hcalle (rName s hs) ?_ | refine hcall (rWord s) ?_ | refine hcalle (rWord s) ?_)<;>refine hgS ?_)
 all_goals (refine RLe.ofEq ?_;conv=>simp only [Bool.and_true,Bool.true_and,Bool.and_false,Bool.false_and,Bool.or_true,Bool.true_or,Bool.or_false,Bool.false_or,Bool.not_true,Bool.not_false,decide_true,decide_false,not_true_eq_false,not_false_eq_true,bnot_decide,if_true,if_false,Bool.and_self,Bool.or_self,cond_true,cond_false,List.length_map,ne_eq,Int.reduceEq,Int.reduceLT,Int.reduceLE, *,isNamed]);first | exact trivial | rfl
def rNode (x:Ex):Bool:=
 bif decide (x.op=0) then isQuote x.unit&&decide (0≤x.n)&&decide (x.n≤1099511627776)&&decide (x.name.size=0)&&decide ((x.args.length:Int)=0) else
 bif decide (¬x.n=0)||decide (¬x.unit.size=0) then false else
 bif decide (x.op=3) then isNamed x.name&&decide (1≤(x.args.length:Int))&&decide ((x.args.length:Int)≤6) else
 bif decide (x.op=1)||decide (x.op=2) then isNamed x.name&&decide ((x.args.length:Int)=arityF x.op) else
 decide (x.name.size=0)&&decide (0<(x.args.length:Int))&&decide ((x.args.length:Int)=arityF x.op)
theorem rNodeC (x:Ex) (hx:x.Sm):CallsD Γ prog 65 [.agg (exC x)] (.one (cB (rNode x))):=by
 have hu:=hx.u
 have hs:=hx.s
 have hl:=hx.len
 obtain ⟨q,hq⟩:∃ q,CallsD Γ prog 97 [.one (cS x.unit)] (.tup [.one (cS q),.one (cB (isQuote x.unit))]):=rQuote x.unit hu
 refine CallsD.run [] Go.Proofs.Tryz.func65 rfl rfl rfl ?_;simp only [Go.Proofs.Tryz.f65];refine hgR ?_
 repeat' ((first | refine hfk ?_ ?_<;>intros | refine hik ?_ | with_reducible first | refine hcall (hq) ?_ | refine hcalle (hq) ?_ | refine hcall (rNamed x.name hs) ?_ | refine hcalle (rNamed x.name hs) ?_ | refine hcall (rArity _) ?_ | refine hcalle (rArity _) ?_)<;>refine hgS ?_)
 all_goals (refine RLe.ofEq ?_;conv=>simp only [Bool.and_true,Bool.true_and,Bool.and_false,Bool.false_and,Bool.or_true,Bool.true_or,Bool.or_false,Bool.false_or,Bool.not_true,Bool.not_false,decide_true,decide_false,not_true_eq_false,not_false_eq_true,bnot_decide,if_true,if_false,Bool.and_self,Bool.or_self,cond_true,cond_false,List.length_map,ne_eq,Int.reduceEq,Int.reduceLT,Int.reduceLE, *,rNode]);first | exact trivial | rfl
mutual
def Ex.rsh:Ex→Bool
 | .mk o n u s l=>rNode (.mk o n u s l)&&Ex.rshL l
def Ex.rshL:List Ex→Bool
 | []=>true
 | y::l=>Ex.rsh y&&Ex.rshL l
end
theorem Ex.rshL_all:∀ l:List Ex,Ex.rshL l=l.all Ex.rsh
 | []=>by rw [Ex.rshL];rfl
 | y::l=>by rw [Ex.rshL,Ex.rshL_all l];rfl
theorem Ex.rsh_eq (x:Ex):x.rsh=(rNode x&&x.args.all Ex.rsh):=by cases x;rw [Ex.rsh,Ex.rshL_all];rfl
theorem all_true {p:Ex→Bool} {l:List Ex} (h:∀ j,j<l.length→p (l.getD j default)=true):l.all p=true:=by
 rw [List.all_eq_true]
 intro y hy
 obtain ⟨j,hj,rfl⟩:=List.getElem_of_mem hy
 have:=h j hj
 rwa [show l.getD j default=l[j] from by simp [hj]] at this
theorem all_false {p:Ex→Bool} {l:List Ex} {j:Nat} (hj:j<l.length) (h:p (l.getD j default)=false):l.all p=false:=by
 cases e:l.all p with
 | false=>rfl
 | true=>rw [List.all_eq_true.1 e _ (getD_mem hj)] at h;cases h
theorem rShaped:∀ x:Ex,x.Sm→CallsD Γ prog 38 [.agg (exC x)] (.one (cB x.rsh)):=by
 refine Ex.ind (fun x ih hx=>?_)
 have hl:=hx.len
 refine CallsD.run [] Go.Proofs.Tryz.func38 rfl rfl rfl ?_;simp only [Go.Proofs.Tryz.f38];refine hgR ?_
 repeat' ((first | refine hfk ?_ ?_<;>intros | refine hik ?_ | with_reducible first | refine hcall (rNodeC x hx) ?_ | refine hcalle (rNodeC x hx) ?_)<;>refine hgS ?_)
 · rename_i h0
   rw [Ex.rsh_eq,h0];exact RLe.ofEq rfl
 · rename_i h0
   refine hloop [1] (fun n:Nat=>[(3,.one (.dat (cI n)))]) (fun _=>[.box ((exC x).map .dat) (some 24)]) (fun n=>n≤x.args.length∧∀ j,j<n→(x.args.getD j default).rsh=true) (fun n=>x.args.length-n) 0 ⟨Nat.zero_le _,fun j hj=>by omega⟩ ?_ ?_
   · refine hg ?_
     exact StH.same (by repeat' first | exact .nil | refine .cons (by first | exact .refl _ | exact .any _) ?_) rfl
   intro n hn
   obtain ⟨hn,hj⟩:=hn
   refine hg ?_
   repeat' ((first | refine hfk ?_ ?_<;>intros | refine hik ?_ | with_reducible first | refine hcall (ih _ (getD_mem (show n<x.args.length by omega)) (hx.arg _ (getD_mem (show n<x.args.length by omega)))) ?_ | refine hcalle (ih _ (getD_mem (show n<x.args.length by omega)) (hx.arg _ (getD_mem (show n<x.args.length by omega)))) ?_)<;>refine hgS ?_)
   · rename_i h1
     rw [Ex.rsh_eq,all_false (by omega) h1,Bool.and_false];exact RLe.ofEq rfl
   · rename_i h1
     exact ⟨n+1,⟨by omega,lt_succ' hj h1⟩,by omega,StH.same (by repeat' first | exact .nil | refine .cons (by first | exact .refl _ | exact .any _) ?_) rfl⟩
   · have e:n=x.args.length:=by omega
     subst e
     rw [Ex.rsh_eq,h0,all_true hj];exact RLe.ofEq rfl
mutual
def Ex.rsz:Ex→Int→Int→Int
 | .mk _ _ _ _ l,n,lv=>bif decide (n<1)||decide (lv<1) then -1 else Ex.rszL l n lv 1
def Ex.rszL:List Ex→Int→Int→Int→Int
 | [],_,_,k=>k
 | y::l,n,lv,k=>bif decide (Ex.rsz y (n-k) (lv-1)<0) then -1 else Ex.rszL l n lv (k+Ex.rsz y (n-k) (lv-1))
end
theorem Ex.rsz_eq (x:Ex) (n lv:Int):x.rsz n lv=bif decide (n<1)||decide (lv<1) then -1 else Ex.rszL x.args n lv 1:=by cases x;rw [Ex.rsz];rfl
theorem Ex.rszL_le:∀(l:List Ex),(∀ y∈l,∀ n lv:Int,-1≤y.rsz n lv∧(0≤y.rsz n lv→y.rsz n lv≤n))→∀ n lv k:Int,1≤k→k≤n→-1≤Ex.rszL l n lv k∧(0≤Ex.rszL l n lv k→Ex.rszL l n lv k≤n)
 | [],_,n,lv,k,h1,h2=>by rw [Ex.rszL];omega
 | y::l,h,n,lv,k,h1,h2=>by
  rw [Ex.rszL]
  have hy:=h y (by simp) (n-k) (lv-1)
  generalize y.rsz (n-k) (lv-1)=m at hy
  by_cases hm:m<0
  · rw [decide_eq_true hm];simp only [cond_true];omega
  · rw [decide_eq_false hm]
    exact Ex.rszL_le l (fun z hz=>h z (by simp [hz])) n lv (k+m) (by omega) (by omega)
theorem Ex.rsz_le:∀(x:Ex) (n lv:Int),-1≤x.rsz n lv∧(0≤x.rsz n lv→x.rsz n lv≤n):=by
 refine Ex.ind (fun x ih n lv=>?_)
 rw [Ex.rsz_eq]
 by_cases h1:n<1
 · rw [decide_eq_true h1];simp only [Bool.true_or,cond_true];omega
 · by_cases h2:lv<1
   · rw [decide_eq_true h2];simp only [Bool.or_true,cond_true];omega
   · rw [decide_eq_false h1,decide_eq_false h2]
     exact Ex.rszL_le x.args ih n lv 1 (by omega) (by omega)
theorem rSize:∀ x:Ex,x.Sm→∀ n lv:Int,n≤1000→lv≤1000→0≤n→0≤lv→CallsD Γ prog 27 [.agg (exC x),.one (cI n),.one (cI lv)] (.one (cI (x.rsz n lv))):=by
 refine Ex.ind (fun x ih hx n lv hn hlv hn0 hlv0=>?_)
 have hl:=hx.len
 refine CallsD.run [] Go.Proofs.Tryz.func27 rfl rfl rfl ?_;simp only [Go.Proofs.Tryz.f27];refine hgR ?_
 repeat' ((first | refine hfk ?_ ?_<;>intros | refine hik ?_)<;>refine hgS ?_)
 · rename_i h1 _ h2 _
   exact RLe.ofEq (by rw [Ex.rsz_eq,decide_eq_true h2,Bool.or_true];rfl)
 · rename_i h1 _ h2 _
   have e0:x.rsz n lv=Ex.rszL x.args n lv 1:=by rw [Ex.rsz_eq,decide_eq_false h1,decide_eq_false h2];rfl
   refine hloop [1,2,3] (fun p:Nat×Int=>[(7,.one (.dat (cI p.2))),(8,.one (.dat (cI p.1)))]) (fun _=>[.box ((exC x).map .dat) (some 24)]) (fun p=>p.1≤x.args.length∧1≤p.2∧p.2≤n∧Ex.rszL (x.args.drop p.1) n lv p.2=Ex.rszL x.args n lv 1) (fun p=>x.args.length-p.1) (0,1) ⟨Nat.zero_le _,by simp only;omega,by simp only;omega,rfl⟩ ?_ ?_
   · refine hg ?_
     exact StH.same (by repeat' first | exact .nil | refine .cons (by first | exact .refl _ | exact .any _) ?_) rfl
   rintro ⟨i,k⟩ ⟨hi,hk1,hk2,hc⟩
   simp only at hi hk1 hk2 hc
   refine hg ?_
   refine condD (fun hlt hd=>?_) (fun hlt _=>?_)
   · have hlt':i<x.args.length:=by omega
     have hy:=getD_mem hlt'
     have hcc:=ih _ hy (hx.arg _ hy) (n-k) (lv-1) (by omega) (by omega) (by omega) (by omega)
     have hb:=Ex.rsz_le (x.args.getD i default) (n-k) (lv-1)
     rw [drop_getD hlt',Ex.rszL] at hc
     generalize (x.args.getD i default).rsz (n-k) (lv-1)=m at hcc hb hc
     rw [e0,←hc]
     clear e0 hc
     conv=>simp (maxSteps:=2000000) (disch:=omega) only [go_sem,Nat.reduceAdd,Nat.reduceSub,Nat.reduceMul,Int.reduceToNat,Nat.reduceEqDiff,Nat.reduceBEq,Nat.reduceBneDiff,Nat.reduceLT,Int.reduceEq,Int.reduceLT,Int.reduceLE,Int.reduceNeg,Int.reduceAdd,Int.reduceSub,Int.reduceMul,hd]
     repeat' ((first | refine hfk ?_ ?_<;>intros | refine hik ?_ | with_reducible first | refine hcall (hcc) ?_ | refine hcalle (hcc) ?_)<;>refine hgS ?_)
     · exact RLe.ofEq rfl
     · exact ⟨(i+1,k+m),⟨by simp only;omega,by simp only;omega,by simp only;omega,rfl⟩,by simp only;omega,StH.same (by repeat' first | exact .nil | refine .cons (by first | exact .refl _ | exact .any _) ?_) rfl⟩
   · refine hg ?_
     rw [e0,←hc,List.drop_eq_nil_of_le (by omega),Ex.rszL]
     exact RLe.ofEq rfl
 · rename_i h1 _
   exact RLe.ofEq (by rw [Ex.rsz_eq,decide_eq_true h1];rfl)
theorem rFew (x:Ex) (hx:x.Sm) (n lv:Int) (hn:n≤1000) (hlv:lv≤1000) (hn0:0≤n) (hlv0:0≤lv):CallsD Γ prog 11 [.agg (exC x),.one (cI n),.one (cI lv)] (.one (cB (decide (0≤x.rsz n lv)))):=by
 have h:=rSize (Γ:=Γ) x hx n lv hn hlv hn0 hlv0
 refine CallsD.run [] Go.Proofs.Tryz.func11 rfl rfl rfl ?_;simp only [Go.Proofs.Tryz.f11];refine hgR ?_
 repeat' ((first | refine hfk ?_ ?_<;>intros | refine hik ?_ | with_reducible first | refine hcall (h) ?_ | refine hcalle (h) ?_)<;>refine hgS ?_)
 all_goals exact RLe.ofEq rfl
def rRight (x:Ex):Bool:=decide (0≤x.rsz 200 20)&&x.rsh
theorem rRightC (x:Ex) (hx:x.Sm):CallsD Γ prog 19 [.agg (exC x)] (.one (cB (rRight x))):=by
 have h:=rFew (Γ:=Γ) x hx 200 20 (by decide) (by decide) (by decide) (by decide)
 refine CallsD.run [] Go.Proofs.Tryz.func19 rfl rfl rfl ?_;simp only [Go.Proofs.Tryz.f19];refine hgR ?_
 repeat' ((first | refine hfk ?_ ?_<;>intros | refine hik ?_ | with_reducible first | refine hcall (h) ?_ | refine hcalle (h) ?_ | refine hcall (rShaped x hx) ?_ | refine hcalle (rShaped x hx) ?_)<;>refine hgS ?_)
 all_goals (refine RLe.ofEq ?_;conv=>simp only [Bool.and_true,Bool.true_and,Bool.and_false,Bool.false_and,Bool.or_true,Bool.true_or,Bool.or_false,Bool.false_or,Bool.not_true,Bool.not_false,decide_true,decide_false,not_true_eq_false,not_false_eq_true,bnot_decide,if_true,if_false,Bool.and_self,Bool.or_self,cond_true,cond_false,List.length_map,ne_eq,Int.reduceEq,Int.reduceLT,Int.reduceLE, *,rRight]);first | exact trivial | rfl
mutual
def Ex.short:Ex→Bool
 | .mk _ _ u s l=>Ex.shortL l&&(decide ((s.size:Int)≤30)&&decide ((u.size:Int)≤30))
def Ex.shortL:List Ex→Bool
 | []=>true
 | y::l=>Ex.short y&&Ex.shortL l
end
theorem Ex.shortL_all:∀ l:List Ex,Ex.shortL l=l.all Ex.short
 | []=>by rw [Ex.shortL];rfl
 | y::l=>by rw [Ex.shortL,Ex.shortL_all l];rfl
theorem Ex.short_eq (x:Ex):x.short=(x.args.all Ex.short&&(decide ((x.name.size:Int)≤30)&&decide ((x.unit.size:Int)≤30))):=by cases x;rw [Ex.short,Ex.shortL_all];rfl
theorem rShort:∀ x:Ex,x.Sm→CallsD Γ prog 20 [.agg (exC x)] (.one (cB x.short)):=by
 refine Ex.ind (fun x ih hx=>?_)
 have hl:=hx.len
 refine CallsD.run [] Go.Proofs.Tryz.func20 rfl rfl rfl ?_;simp only [Go.Proofs.Tryz.f20];refine hgR ?_
 refine hloop [1] (fun n:Nat=>[(3,.one (.dat (cI n)))]) (fun _=>[.box ((exC x).map .dat) (some 24)]) (fun n=>n≤x.args.length∧∀ j,j<n→(x.args.getD j default).short=true) (fun n=>x.args.length-n) 0 ⟨Nat.zero_le _,fun j hj=>by omega⟩ ?_ ?_
 · refine hg ?_
   exact StH.same (by repeat' first | exact .nil | refine .cons (by first | exact .refl _ | exact .any _) ?_) rfl
 intro n hn
 obtain ⟨hn,hj⟩:=hn
 refine hg ?_
 repeat' ((first | refine hfk ?_ ?_<;>intros | refine hik ?_ | with_reducible first | refine hcall (ih _ (getD_mem (show n<x.args.length by omega)) (hx.arg _ (getD_mem (show n<x.args.length by omega)))) ?_ | refine hcalle (ih _ (getD_mem (show n<x.args.length by omega)) (hx.arg _ (getD_mem (show n<x.args.length by omega)))) ?_)<;>refine hgS ?_)
 · rename_i h1
   rw [Ex.short_eq,all_false (by omega) h1];exact RLe.ofEq rfl
 · rename_i h1
   exact ⟨n+1,⟨by omega,lt_succ' hj h1⟩,by omega,StH.same (by repeat' first | exact .nil | refine .cons (by first | exact .refl _ | exact .any _) ?_) rfl⟩
 all_goals
  have e:n=x.args.length:=by omega
  subst e
  rw [Ex.short_eq,all_true hj]
  (refine RLe.ofEq ?_;conv=>simp only [Bool.and_true,Bool.true_and,Bool.and_false,Bool.false_and,Bool.or_true,Bool.true_or,Bool.or_false,Bool.false_or,Bool.not_true,Bool.not_false,decide_true,decide_false,not_true_eq_false,not_false_eq_true,bnot_decide,if_true,if_false,Bool.and_self,Bool.or_self,cond_true,cond_false,List.length_map,ne_eq,Int.reduceEq,Int.reduceLT,Int.reduceLE, *]);first | exact trivial | rfl
end Go.Hp.T

namespace Go.Hp.T
open Go Go.RowKit Go.Slot Go.Hp Go.Slot.T
open Go.Proofs.Tryz (prog)
set_option maxRecDepth 10000
set_option maxHeartbeats 4000000
variable {Γ:List (Nat×List Cell)}
def fewX (x:Ex):Bool:=(decide (0≤x.rsz 60 12)||(decide (0≤x.rsz 220 24)&&!rRight x))&&x.short
def vrS (v:Vr):Bool:=decide ((v.name.size:Int)≤30)
def tbS (t:Tb):Bool:=decide ((t.name.size:Int)≤30)&&(decide ((t.unit.size:Int)≤30)&&decide ((t.rows.length:Int)≤8))
def few15 (x:Ex) (vs:List Vr) (ms:List Tb):Bool:=fewX x&&((vs.take 11).all vrS&&((ms.take 6).all tbS&&(decide ((vs.length:Int)≤10)&&decide ((ms.length:Int)≤5))))
theorem takeAll_no {α:Type} [Inhabited α] {p:α→Bool} {l:List α} {n i:Nat} (h1:i<n) (h2:i<l.length) (h:p (l.getD i default)=false):(l.take n).all p=false:=by
 cases e:(l.take n).all p with
 | false=>rfl
 | true=>
  have hm:l.getD i default∈l.take n:=by
   rw [show l.getD i default=l[i] from by simp [h2]]
   exact List.mem_take_iff_getElem.2 ⟨i,by omega,rfl⟩
  rw [List.all_eq_true.1 e _ hm] at h;cases h
theorem takeAll_yes {α:Type} [Inhabited α] {p:α→Bool} {l:List α} {n i:Nat} (hj:∀ j,j<i→p (l.getD j default)=true) (h:i=n∨i=l.length):(l.take n).all p=true:=by
 rw [List.all_eq_true]
 intro y hy
 obtain ⟨j,hj2,rfl⟩:=List.mem_take_iff_getElem.1 hy
 have:=hj j (by omega)
 rwa [show l.getD j default=l[j] from by simp [show j<l.length by omega]] at this
theorem rFew15 (x:Ex) (hx:x.Sm) (vs:List Vr) (ms:List Tb) (hv:vs.length≤1073741824) (_hm:ms.length≤1073741824):CallsD Γ prog 8 [.agg (exC x),.one (.sl 7 (vs.map Vr.C)),.one (.sl 3 (ms.map Tb.C))] (.one (cB (few15 x vs ms))):=by
 have h1:=rFew (Γ:=Γ) x hx 60 12 (by decide) (by decide) (by decide) (by decide)
 have h2:=rFew (Γ:=Γ) x hx 220 24 (by decide) (by decide) (by decide) (by decide)
 have h3:=rRightC (Γ:=Γ) x hx
 have h4:=rShort (Γ:=Γ) x hx
 have hf:fewX x=((decide (0≤x.rsz 60 12)||(decide (0≤x.rsz 220 24)&&!rRight x))&&x.short):=rfl
 generalize decide (0≤x.rsz 60 12)=b1 at h1 hf
 generalize decide (0≤x.rsz 220 24)=b2 at h2 hf
 generalize rRight x=b3 at h3 hf
 generalize x.short=b4 at h4 hf
 generalize hR:few15 x vs ms=R
 refine CallsD.run [] Go.Proofs.Tryz.func8 rfl rfl rfl ?_;simp only [Go.Proofs.Tryz.f8];refine hgR ?_
 repeat' ((first | refine hfk ?_ ?_<;>intros | refine hik ?_ | with_reducible first | refine hcall (h1) ?_ | refine hcalle (h1) ?_ | refine hcall (h2) ?_ | refine hcalle (h2) ?_ | refine hcall (h3) ?_ | refine hcalle (h3) ?_ | refine hcall (h4) ?_ | refine hcalle (h4) ?_)<;>refine hgS ?_)
 all_goals first
  | exact RLe.ofEq (by rw [←hR];unfold few15;rw [hf];simp [*])
  | skip
 all_goals
  have hX:fewX x=true:=by rw [hf];simp [*]
  clear hf h1 h2 h3 h4
  refine hloop [1,2] (fun n:Nat=>[(7,.one (.dat (cI n)))]) (fun _=>[.box ((exC x).map .dat) (some 24)]) (fun n=>n≤vs.length∧n≤11∧∀ j,j<n→vrS (vs.getD j default)=true) (fun n=>vs.length-n) 0 ⟨Nat.zero_le _,Nat.zero_le _,fun j hj=>by omega⟩ ?_ ?_
  · refine hg ?_
    exact StH.same (by repeat' first | exact .nil | refine .cons (by first | exact .refl _ | exact .any _) ?_) rfl
  intro n hn
  obtain ⟨hn,hn2,hj⟩:=hn
  refine hg ?_
  repeat' ((first | refine hfk ?_ ?_<;>intros | refine hik ?_)<;>refine hgS ?_)
  · rename_i h _
    exact RLe.ofEq (by rw [←hR];unfold few15;rw [takeAll_no (i:=n) (by omega) (by omega) (by unfold vrS;exact decide_eq_false (by omega)),hX];rfl)
  · rename_i h _
    exact ⟨n+1,⟨by omega,by omega,lt_succ' hj (by unfold vrS;exact decide_eq_true (by omega))⟩,by omega,StH.same (by repeat' first | exact .nil | refine .cons (by first | exact .refl _ | exact .any _) ?_) rfl⟩
  all_goals
   have hV:(vs.take 11).all vrS=true:=takeAll_yes (i:=n) hj (by omega)
   clear hj
   refine hloop [1,2] (fun n:Nat=>[(8,.one (.dat (cI n)))]) (fun _=>[.box ((exC x).map .dat) (some 24)]) (fun n=>n≤ms.length∧n≤6∧∀ j,j<n→tbS (ms.getD j default)=true) (fun n=>ms.length-n) 0 ⟨Nat.zero_le _,Nat.zero_le _,fun j hj=>by omega⟩ ?_ ?_
   · refine hg ?_
     exact StH.same (by repeat' first | exact .nil | refine .cons (by first | exact .refl _ | exact .any _) ?_) rfl
   intro k hk
   obtain ⟨hk,hk2,hj⟩:=hk
   refine hg ?_
   repeat' ((first | refine hfk ?_ ?_<;>intros | refine hik ?_)<;>refine hgS ?_)
   all_goals first
    | exact RLe.ofEq (by rw [←hR];unfold few15;rw [takeAll_no (l:=ms) (i:=k) (by omega) (by omega) (by unfold tbS;first | (rw [decide_eq_false (show ¬((ms.getD k default).name.size:Int)≤30 by omega)];rfl) | (rw [decide_eq_false (show ¬((ms.getD k default).unit.size:Int)≤30 by omega),Bool.false_and,Bool.and_false]) | (rw [decide_eq_false (show ¬((ms.getD k default).rows.length:Int)≤8 by omega),Bool.and_false,Bool.and_false])),hX,hV];rfl)
    | exact RLe.ofEq (by rw [←hR];unfold few15;rw [takeAll_yes (l:=ms) (i:=k) hj (by omega),hX,hV];simp [*])
    | exact ⟨k+1,⟨by omega,by omega,lt_succ' hj (by unfold tbS;rw [decide_eq_true (show ((ms.getD k default).name.size:Int)≤30 by omega),decide_eq_true (show ((ms.getD k default).unit.size:Int)≤30 by omega),decide_eq_true (show ((ms.getD k default).rows.length:Int)≤8 by omega)];rfl)⟩,by omega,StH.same (by repeat' first | exact .nil | refine .cons (by first | exact .refl _ | exact .any _) ?_) rfl⟩
    | skip
end Go.Hp.T

namespace Go.Hp.T
open Go Go.RowKit Go.Slot Go.Hp Go.Slot.T
open Go.Proofs.Tryz (prog)
set_option maxRecDepth 10000
set_option maxHeartbeats 4000000
variable {Γ:List (Nat×List Cell)}
mutual
def Ex.has (op:Int) (nm:ByteArray):Ex→Bool
 | .mk o _ _ s l=>Ex.hasL op nm l||(decide (o=op)&&seq s nm)
def Ex.hasL (op:Int) (nm:ByteArray):List Ex→Bool
 | []=>false
 | y::l=>Ex.has op nm y||Ex.hasL op nm l
end
end Go.Hp.T

namespace Go.Hp.T
open Go Go.RowKit Go.Slot Go.Hp Go.Slot.T
open Go.Proofs.Tryz (prog)
set_option maxRecDepth 10000
set_option maxHeartbeats 4000000
variable {Γ:List (Nat×List Cell)}
mutual
def Ex.repl (nm:ByteArray) (y:Ex):Ex→Ex
 | .mk o n u s l=>bif decide (o=1)&&seq s nm then y else .mk o n u s (Ex.replL nm y l)
def Ex.replL (nm:ByteArray) (y:Ex):List Ex→List Ex
 | []=>[]
 | z::l=>Ex.repl nm y z::Ex.replL nm y l
end
theorem Ex.replL_map (nm:ByteArray) (y:Ex):∀ l:List Ex,Ex.replL nm y l=l.map (Ex.repl nm y)
 | []=>by rw [Ex.replL];rfl
 | z::l=>by rw [Ex.replL,Ex.replL_map nm y l];rfl
theorem Ex.repl_eq (nm:ByteArray) (y x:Ex):Ex.repl nm y x=bif decide (x.op=1)&&seq x.name nm then y else .mk x.op x.n x.unit x.name (x.args.map (Ex.repl nm y)):=by cases x;rw [Ex.repl,Ex.replL_map];rfl
theorem n0:((0:Nat):Int)=0:=rfl
theorem CallsD.nil5 {f:FuncId} {args:List AV} {a b c d:Cell} (h:CallsD Γ prog f args (.agg [a,b,c,d,.raw (.slice none 0 0)])):CallsD Γ prog f args (.agg [a,b,c,d,.sl 5 []]):=
 ⟨h.1,fun M w vs hM hg hr=>(h.2 M w vs hM hg hr).mono (fun _ _ ⟨v,h1,h2,h3,h4⟩=>by
  obtain ⟨ws,hw,hrd⟩:=h3
  match ws,hrd with
  | [v1,v2,v3,v4,v5],⟨r1,r2,r3,r4,r5,r6⟩=>
   refine ⟨v,h1,h2,⟨_,hw,r1,r2,r3,r4,?_,r6⟩,fun hh=>by cases hh⟩
   cases r5
   exact RdC.zcSl 5)⟩
def rpB (nm:ByteArray) (y x:Ex):Nat→List SB
 | 0=>[.box ((exC x).map .dat) (some 24),.box ((exC y).map .dat) (some 24),.box [.dat (cI 0),.dat (cI 0),.dat (cS ⟨⟨[]⟩⟩),.dat (cS ⟨⟨[]⟩⟩),.dat .zc] (some 24),.box [.dat (cI x.op),.dat (cI x.n),.dat (cS x.unit),.dat (cS x.name),.dat (.raw (.slice none 0 0))] (some 24)]
 | n+1=>[.box ((exC x).map .dat) (some 24),.box ((exC y).map .dat) (some 24),.box [.dat (cI 0),.dat (cI 0),.dat (cS ⟨⟨[]⟩⟩),.dat (cS ⟨⟨[]⟩⟩),.dat .zc] (some 24),.box [.dat (cI x.op),.dat (cI x.n),.dat (cS x.unit),.dat (cS x.name),.sl 4 5 0 (n+1)] (some 24),.arr (.sl 5 ((x.args.take (n+1)).map (Ex.cells∘Ex.repl nm y))) 0 (some 24)]
theorem cReplaced (nm:ByteArray) (y:Ex):∀ x:Ex,x.Sm→CallsD Γ prog 12 [.agg (exC x),.one (cS nm),.agg (exC y)] (.agg (exC (Ex.repl nm y x))):=by
 refine Ex.ind (fun x ih hx=>?_)
 have hl:=hx.len
 by_cases hnil:x.args.length=0
 · have ha:x.args=[]:=List.eq_nil_of_length_eq_zero hnil
   by_cases hc:(decide (x.op=1)&&seq x.name nm)=true
   · rw [Ex.repl_eq,hc]
     rw [Bool.and_eq_true] at hc
     obtain ⟨hc1,hc2⟩:=hc
     refine CallsD.run [] Go.Proofs.Tryz.func12 rfl rfl rfl ?_;simp only [Go.Proofs.Tryz.f12];refine hgR ?_
     refine hgS ?_
     exact RLe.ofEq rfl
   · have hc':=Bool.eq_false_iff.2 hc
     rw [Ex.repl_eq,hc',ha]
     refine CallsD.nil5 ?_
     clear hnil
     refine CallsD.run [] Go.Proofs.Tryz.func12 rfl rfl rfl ?_;simp only [Go.Proofs.Tryz.f12];refine hgR ?_
     repeat' ((first | refine hfk ?_ ?_<;>intros | refine hik ?_)<;>refine hgS ?_)
     all_goals first
      | (exfalso;simp_all;done)
      | skip
     all_goals
      have hx2:cI 1=cI 1:=rfl
      try rw [show cI 1=cI x.op by simp [*]]
      first
       | (rename_i p q r;clear p q r)
       | skip
      refine hunroll ?_
      conv=>simp (maxSteps:=2000000) (disch:=omega) only [go_sem,Nat.reduceAdd,Nat.reduceSub,Nat.reduceMul,Int.reduceToNat,Nat.reduceEqDiff,Nat.reduceBEq,Nat.reduceBneDiff,Nat.reduceLT,Int.reduceEq,Int.reduceLT,Int.reduceLE,Int.reduceNeg,Int.reduceAdd,Int.reduceSub,Int.reduceMul,ha,List.length_nil,n0]
      exact RLe.ofEq rfl
 · generalize hR:Ex.repl nm y x=R
   refine CallsD.run [] Go.Proofs.Tryz.func12 rfl rfl rfl ?_;simp only [Go.Proofs.Tryz.f12];refine hgR ?_
   repeat' ((first | refine hfk ?_ ?_<;>intros | refine hik ?_)<;>refine hgS ?_)
   · exact RLe.ofEq (by rw [←hR,Ex.repl_eq];simp [*])
   all_goals
    have hc:(decide (x.op=1)&&seq x.name nm)=false:=by simp [*]
    try rw [show cI 1=cI x.op by simp [*]]
    first
     | (rename_i p q r;clear p q r)
     | skip
    refine hloop [1,3,5,6,7] (fun n:Nat=>[(8,.one (.dat (cI n)))]) (rpB nm y x) (fun n=>n≤x.args.length) (fun n=>x.args.length-n) 0 (Nat.zero_le _) ?_ ?_
    · refine hg ?_
      exact StH.same (by repeat' first | exact .nil | refine .cons (by first | exact .refl _ | exact .any _) ?_) rfl
    intro n hn
    rcases n with _ | n
    · simp only [rpB]
      refine hg ?_
      repeat' ((first | refine hfk ?_ ?_<;>intros | refine hik ?_ | with_reducible first | refine hcall (ih _ (getD_mem (show 0<x.args.length by omega)) (hx.arg _ (getD_mem (show 0<x.args.length by omega)))) ?_ | refine hcalle (ih _ (getD_mem (show 0<x.args.length by omega)) (hx.arg _ (getD_mem (show 0<x.args.length by omega)))) ?_)<;>refine hgS ?_)
      · refine ⟨1,by omega,by omega,StH.same (by repeat' first | exact .nil | refine .cons (by first | exact .refl _ | exact .any _) ?_) ?_⟩
        have ht:(x.args.take (0+1)).map (Ex.cells∘Ex.repl nm y)=[exC (Ex.repl nm y (x.args.getD 0 default))]:=by
         rw [take_getD (by omega),List.take_zero]
         simp only [List.nil_append,List.map_cons,List.map_nil,Function.comp,Ex.cells_eq]
        simp only [ht]
        try rfl
      · exfalso;omega
    · simp only [rpB]
      have hlen:(x.args.take (n+1)).length=n+1:=by rw [List.length_take];omega
      conv=>simp (maxSteps:=2000000) (disch:=omega) only [go_sem,Nat.reduceAdd,Nat.reduceSub,Nat.reduceMul,Int.reduceToNat,Nat.reduceEqDiff,Nat.reduceBEq,Nat.reduceBneDiff,Nat.reduceLT,Int.reduceEq,Int.reduceLT,Int.reduceLE,Int.reduceNeg,Int.reduceAdd,Int.reduceSub,Int.reduceMul,hlen]
      repeat' ((first | refine hfk ?_ ?_<;>intros | refine hik ?_ | with_reducible first | refine hcall (ih _ (getD_mem (show n+1<x.args.length by omega)) (hx.arg _ (getD_mem (show n+1<x.args.length by omega)))) ?_ | refine hcalle (ih _ (getD_mem (show n+1<x.args.length by omega)) (hx.arg _ (getD_mem (show n+1<x.args.length by omega)))) ?_)<;>refine hgS ?_)
      · refine ⟨n+1+1,by omega,by omega,StH.back [1,3,5,6,7,8] 4 5 5 rfl rfl rfl rfl rfl (by kernel_rfl) (StH.same (by repeat' first | exact .nil | refine .cons (by first | exact .refl _ | exact .any _) ?_) ?_)⟩
        have ht:(x.args.take (n+1+1)).map (Ex.cells∘Ex.repl nm y)=(x.args.take (n+1)).map (Ex.cells∘Ex.repl nm y)++[exC (Ex.repl nm y (x.args.getD (n+1) default))]:=by
         rw [take_getD (by omega)]
         simp only [List.map_append,List.map_cons,List.map_nil,Function.comp,Ex.cells_eq]
        simp only [ht,List.length_append,List.length_map,List.length_singleton,hlen]
        try rfl
      · have e:x.args.take (n+1)=x.args:=List.take_of_length_le (by omega)
        exact RLe.ofEq (by rw [←hR,Ex.repl_eq,hc,e,←List.map_map];rfl)
end Go.Hp.T

namespace Go.Hp.T
open Go Go.RowKit Go.Slot Go.Hp Go.Slot.T
open Go.Proofs.Tryz (prog)
set_option maxRecDepth 10000
set_option maxHeartbeats 4000000
variable {Γ:List (Nat×List Cell)}
mutual
def Ex.rewr (a b:ByteArray) (k:Int):Ex→Ex
 | .mk o n u s l=>.mk o (bif decide (o=0) then k else n) (bif decide (o=0)&&seq u a then b else u) s (Ex.rewrL a b k l)
def Ex.rewrL (a b:ByteArray) (k:Int):List Ex→List Ex
 | []=>[]
 | z::l=>Ex.rewr a b k z::Ex.rewrL a b k l
end
theorem Ex.rewrL_map (a b:ByteArray) (k:Int):∀ l:List Ex,Ex.rewrL a b k l=l.map (Ex.rewr a b k)
 | []=>by rw [Ex.rewrL];rfl
 | z::l=>by rw [Ex.rewrL,Ex.rewrL_map a b k l];rfl
theorem Ex.rewr_eq (a b:ByteArray) (k:Int) (x:Ex):Ex.rewr a b k x=.mk x.op (bif decide (x.op=0) then k else x.n) (bif decide (x.op=0)&&seq x.unit a then b else x.unit) x.name (x.args.map (Ex.rewr a b k)):=by cases x;rw [Ex.rewr,Ex.rewrL_map];rfl
theorem rewr_C (a b:ByteArray) (k:Int) (x:Ex):exC (Ex.rewr a b k x)=[cI x.op,cI (bif decide (x.op=0) then k else x.n),cS (bif decide (x.op=0)&&seq x.unit a then b else x.unit),cS x.name,.sl 5 ((x.args.map (Ex.rewr a b k)).map Ex.cells)]:=by rw [Ex.rewr_eq];rfl
def rwB (a b:ByteArray) (k:Int) (x:Ex) (o n':Int) (u':ByteArray):Nat→List SB
 | 0=>[.box [.dat (cI o),.dat (cI x.n),.dat (cS x.unit),.dat (cS x.name),.dat (.sl 5 (x.args.map Ex.cells))] (some 24),.box [.dat (cI 0),.dat (cI 0),.dat (cS ⟨⟨[]⟩⟩),.dat (cS ⟨⟨[]⟩⟩),.dat .zc] (some 24),.box [.dat (cI o),.dat (cI n'),.dat (cS u'),.dat (cS x.name),.dat (.raw (.slice none 0 0))] (some 24)]
 | n+1=>[.box [.dat (cI o),.dat (cI x.n),.dat (cS x.unit),.dat (cS x.name),.dat (.sl 5 (x.args.map Ex.cells))] (some 24),.box [.dat (cI 0),.dat (cI 0),.dat (cS ⟨⟨[]⟩⟩),.dat (cS ⟨⟨[]⟩⟩),.dat .zc] (some 24),.box [.dat (cI o),.dat (cI n'),.dat (cS u'),.dat (cS x.name),.sl 3 5 0 (n+1)] (some 24),.arr (.sl 5 ((x.args.take (n+1)).map (Ex.cells∘Ex.rewr a b k))) 0 (some 24)]
theorem cRewritten (a b:ByteArray) (k:Int):∀ x:Ex,x.Sm→CallsD Γ prog 15 [.agg (exC x),.one (cS a),.one (cS b),.one (cI k)] (.agg (exC (Ex.rewr a b k x))):=by
 refine Ex.ind (fun x ih hx=>?_)
 have hl:=hx.len
 by_cases hnil:x.args.length=0
 · have ha:x.args=[]:=List.eq_nil_of_length_eq_zero hnil
   have hR2:exC (Ex.rewr a b k x)=[cI x.op,cI (bif decide (x.op=0) then k else x.n),cS (bif decide (x.op=0)&&seq x.unit a then b else x.unit),cS x.name,.sl 5 []]:=by rw [rewr_C,ha];rfl
   rw [hR2]
   clear hR2 hnil
   refine CallsD.nil5 ?_
   refine CallsD.run [] Go.Proofs.Tryz.func15 rfl rfl rfl ?_;simp only [Go.Proofs.Tryz.f15];refine hgR ?_
   repeat' ((first | refine hfk ?_ ?_<;>intros | refine hik ?_)<;>refine hgS ?_)
   all_goals
    refine hunroll ?_
    conv=>simp (maxSteps:=2000000) (disch:=omega) only [go_sem,Nat.reduceAdd,Nat.reduceSub,Nat.reduceMul,Int.reduceToNat,Nat.reduceEqDiff,Nat.reduceBEq,Nat.reduceBneDiff,Nat.reduceLT,Int.reduceEq,Int.reduceLT,Int.reduceLE,Int.reduceNeg,Int.reduceAdd,Int.reduceSub,Int.reduceMul,ha,List.length_nil,n0]
    exact RLe.ofEq (by simp [*])
 · generalize hR:Ex.rewr a b k x=R
   refine CallsD.run [] Go.Proofs.Tryz.func15 rfl rfl rfl ?_;simp only [Go.Proofs.Tryz.f15];refine hgR ?_
   repeat' ((first | refine hfk ?_ ?_<;>intros | refine hik ?_)<;>refine hgS ?_)
   · refine hloop [1,2,3,4,8,9] (fun n:Nat=>[(10,.one (.dat (cI n)))]) (rwB a b k x 0 k b) (fun n=>n≤x.args.length) (fun n=>x.args.length-n) 0 (Nat.zero_le _) ?_ ?_
     · refine hg ?_
       exact StH.same (by repeat' first | exact .nil | refine .cons (by first | exact .refl _ | exact .any _) ?_) rfl
     intro n hn
     rcases n with _ | n
     · simp only [rwB]
       refine hg ?_
       repeat' ((first | refine hfk ?_ ?_<;>intros | refine hik ?_ | with_reducible first | refine hcall (ih _ (getD_mem (show 0<x.args.length by omega)) (hx.arg _ (getD_mem (show 0<x.args.length by omega)))) ?_ | refine hcalle (ih _ (getD_mem (show 0<x.args.length by omega)) (hx.arg _ (getD_mem (show 0<x.args.length by omega)))) ?_)<;>refine hgS ?_)
       · refine ⟨1,by omega,by omega,StH.same (by repeat' first | exact .nil | refine .cons (by first | exact .refl _ | exact .any _) ?_) ?_⟩
         have ht:(x.args.take (0+1)).map (Ex.cells∘Ex.rewr a b k)=[exC (Ex.rewr a b k (x.args.getD 0 default))]:=by
          rw [take_getD (by omega),List.take_zero]
          simp only [List.nil_append,List.map_cons,List.map_nil,Function.comp,Ex.cells_eq]
         simp only [ht]
         try rfl
       · exfalso;omega
     · simp only [rwB]
       have hlen:(x.args.take (n+1)).length=n+1:=by rw [List.length_take];omega
       conv=>simp (maxSteps:=2000000) (disch:=omega) only [go_sem,Nat.reduceAdd,Nat.reduceSub,Nat.reduceMul,Int.reduceToNat,Nat.reduceEqDiff,Nat.reduceBEq,Nat.reduceBneDiff,Nat.reduceLT,Int.reduceEq,Int.reduceLT,Int.reduceLE,Int.reduceNeg,Int.reduceAdd,Int.reduceSub,Int.reduceMul,hlen]
       repeat' ((first | refine hfk ?_ ?_<;>intros | refine hik ?_ | with_reducible first | refine hcall (ih _ (getD_mem (show n+1<x.args.length by omega)) (hx.arg _ (getD_mem (show n+1<x.args.length by omega)))) ?_ | refine hcalle (ih _ (getD_mem (show n+1<x.args.length by omega)) (hx.arg _ (getD_mem (show n+1<x.args.length by omega)))) ?_)<;>refine hgS ?_)
       · refine ⟨n+1+1,by omega,by omega,StH.back [1,2,3,4,8,9,10] 3 4 4 rfl rfl rfl rfl rfl (by kernel_rfl) (StH.same (by repeat' first | exact .nil | refine .cons (by first | exact .refl _ | exact .any _) ?_) ?_)⟩
         have ht:(x.args.take (n+1+1)).map (Ex.cells∘Ex.rewr a b k)=(x.args.take (n+1)).map (Ex.cells∘Ex.rewr a b k)++[exC (Ex.rewr a b k (x.args.getD (n+1) default))]:=by
          rw [take_getD (by omega)]
          simp only [List.map_append,List.map_cons,List.map_nil,Function.comp,Ex.cells_eq]
         simp only [ht,List.length_append,List.length_map,List.length_singleton,hlen]
         try rfl
       · have e:x.args.take (n+1)=x.args:=List.take_of_length_le (by omega)
         exact RLe.ofEq (by rw [←hR,rewr_C,e,←List.map_map];simp [*])
   · refine hloop [1,2,3,4,8,9] (fun n:Nat=>[(10,.one (.dat (cI n)))]) (rwB a b k x 0 k x.unit) (fun n=>n≤x.args.length) (fun n=>x.args.length-n) 0 (Nat.zero_le _) ?_ ?_
     · refine hg ?_
       exact StH.same (by repeat' first | exact .nil | refine .cons (by first | exact .refl _ | exact .any _) ?_) rfl
     intro n hn
     rcases n with _ | n
     · simp only [rwB]
       refine hg ?_
       repeat' ((first | refine hfk ?_ ?_<;>intros | refine hik ?_ | with_reducible first | refine hcall (ih _ (getD_mem (show 0<x.args.length by omega)) (hx.arg _ (getD_mem (show 0<x.args.length by omega)))) ?_ | refine hcalle (ih _ (getD_mem (show 0<x.args.length by omega)) (hx.arg _ (getD_mem (show 0<x.args.length by omega)))) ?_)<;>refine hgS ?_)
       · refine ⟨1,by omega,by omega,StH.same (by repeat' first | exact .nil | refine .cons (by first | exact .refl _ | exact .any _) ?_) ?_⟩
         have ht:(x.args.take (0+1)).map (Ex.cells∘Ex.rewr a b k)=[exC (Ex.rewr a b k (x.args.getD 0 default))]:=by
          rw [take_getD (by omega),List.take_zero]
          simp only [List.nil_append,List.map_cons,List.map_nil,Function.comp,Ex.cells_eq]
         simp only [ht]
         try rfl
       · exfalso;omega
     · simp only [rwB]
       have hlen:(x.args.take (n+1)).length=n+1:=by rw [List.length_take];omega
       conv=>simp (maxSteps:=2000000) (disch:=omega) only [go_sem,Nat.reduceAdd,Nat.reduceSub,Nat.reduceMul,Int.reduceToNat,Nat.reduceEqDiff,Nat.reduceBEq,Nat.reduceBneDiff,Nat.reduceLT,Int.reduceEq,Int.reduceLT,Int.reduceLE,Int.reduceNeg,Int.reduceAdd,Int.reduceSub,Int.reduceMul,hlen]
       repeat' ((first | refine hfk ?_ ?_<;>intros | refine hik ?_ | with_reducible first | refine hcall (ih _ (getD_mem (show n+1<x.args.length by omega)) (hx.arg _ (getD_mem (show n+1<x.args.length by omega)))) ?_ | refine hcalle (ih _ (getD_mem (show n+1<x.args.length by omega)) (hx.arg _ (getD_mem (show n+1<x.args.length by omega)))) ?_)<;>refine hgS ?_)
       · refine ⟨n+1+1,by omega,by omega,StH.back [1,2,3,4,8,9,10] 3 4 4 rfl rfl rfl rfl rfl (by kernel_rfl) (StH.same (by repeat' first | exact .nil | refine .cons (by first | exact .refl _ | exact .any _) ?_) ?_)⟩
         have ht:(x.args.take (n+1+1)).map (Ex.cells∘Ex.rewr a b k)=(x.args.take (n+1)).map (Ex.cells∘Ex.rewr a b k)++[exC (Ex.rewr a b k (x.args.getD (n+1) default))]:=by
          rw [take_getD (by omega)]
          simp only [List.map_append,List.map_cons,List.map_nil,Function.comp,Ex.cells_eq]
         simp only [ht,List.length_append,List.length_map,List.length_singleton,hlen]
         try rfl
       · have e:x.args.take (n+1)=x.args:=List.take_of_length_le (by omega)
         exact RLe.ofEq (by rw [←hR,rewr_C,e,←List.map_map];simp [*])
   · refine hloop [1,2,3,4,8,9] (fun n:Nat=>[(10,.one (.dat (cI n)))]) (rwB a b k x x.op x.n x.unit) (fun n=>n≤x.args.length) (fun n=>x.args.length-n) 0 (Nat.zero_le _) ?_ ?_
     · refine hg ?_
       exact StH.same (by repeat' first | exact .nil | refine .cons (by first | exact .refl _ | exact .any _) ?_) rfl
     intro n hn
     rcases n with _ | n
     · simp only [rwB]
       refine hg ?_
       repeat' ((first | refine hfk ?_ ?_<;>intros | refine hik ?_ | with_reducible first | refine hcall (ih _ (getD_mem (show 0<x.args.length by omega)) (hx.arg _ (getD_mem (show 0<x.args.length by omega)))) ?_ | refine hcalle (ih _ (getD_mem (show 0<x.args.length by omega)) (hx.arg _ (getD_mem (show 0<x.args.length by omega)))) ?_)<;>refine hgS ?_)
       · refine ⟨1,by omega,by omega,StH.same (by repeat' first | exact .nil | refine .cons (by first | exact .refl _ | exact .any _) ?_) ?_⟩
         have ht:(x.args.take (0+1)).map (Ex.cells∘Ex.rewr a b k)=[exC (Ex.rewr a b k (x.args.getD 0 default))]:=by
          rw [take_getD (by omega),List.take_zero]
          simp only [List.nil_append,List.map_cons,List.map_nil,Function.comp,Ex.cells_eq]
         simp only [ht]
         try rfl
       · exfalso;omega
     · simp only [rwB]
       have hlen:(x.args.take (n+1)).length=n+1:=by rw [List.length_take];omega
       conv=>simp (maxSteps:=2000000) (disch:=omega) only [go_sem,Nat.reduceAdd,Nat.reduceSub,Nat.reduceMul,Int.reduceToNat,Nat.reduceEqDiff,Nat.reduceBEq,Nat.reduceBneDiff,Nat.reduceLT,Int.reduceEq,Int.reduceLT,Int.reduceLE,Int.reduceNeg,Int.reduceAdd,Int.reduceSub,Int.reduceMul,hlen]
       repeat' ((first | refine hfk ?_ ?_<;>intros | refine hik ?_ | with_reducible first | refine hcall (ih _ (getD_mem (show n+1<x.args.length by omega)) (hx.arg _ (getD_mem (show n+1<x.args.length by omega)))) ?_ | refine hcalle (ih _ (getD_mem (show n+1<x.args.length by omega)) (hx.arg _ (getD_mem (show n+1<x.args.length by omega)))) ?_)<;>refine hgS ?_)
       · refine ⟨n+1+1,by omega,by omega,StH.back [1,2,3,4,8,9,10] 3 4 4 rfl rfl rfl rfl rfl (by kernel_rfl) (StH.same (by repeat' first | exact .nil | refine .cons (by first | exact .refl _ | exact .any _) ?_) ?_)⟩
         have ht:(x.args.take (n+1+1)).map (Ex.cells∘Ex.rewr a b k)=(x.args.take (n+1)).map (Ex.cells∘Ex.rewr a b k)++[exC (Ex.rewr a b k (x.args.getD (n+1) default))]:=by
          rw [take_getD (by omega)]
          simp only [List.map_append,List.map_cons,List.map_nil,Function.comp,Ex.cells_eq]
         simp only [ht,List.length_append,List.length_map,List.length_singleton,hlen]
         try rfl
       · have e:x.args.take (n+1)=x.args:=List.take_of_length_le (by omega)
         exact RLe.ofEq (by rw [←hR,rewr_C,e,←List.map_map];simp [*])
end Go.Hp.T

namespace Go.Hp.T
open Go Go.RowKit Go.Slot Go.Hp Go.Slot.T
open Go.Proofs.Tryz (prog)
set_option maxRecDepth 10000
set_option maxHeartbeats 4000000
def vs15:List Vr:=[⟨⟨⟨[109,97,115,115]⟩⟩,⟨1,0,0,0,0,0⟩⟩,⟨⟨⟨[119,97,121]⟩⟩,⟨0,1,0,0,0,0⟩⟩,⟨⟨⟨[104,111,117,114]⟩⟩,⟨0,0,0,0,0,0⟩⟩]
def ms15:List Tb:=[⟨⟨⟨[103,114,105,100]⟩⟩,⟨⟨[103,47,74]⟩⟩,[]⟩]
theorem cVars:CallsD Gs prog 36 [] (.one (.sl 7 (vs15.map Vr.C))):=
 CallsD.fv (N:=1000) (n:=60) OkD.none (by kernel_rfl)
theorem CallsD.uz1 {f:FuncId} {args:List AV} {c:Cell} (k:Nat) (h:CallsD Gs prog f args (.one c)):CallsD Gs prog f args (.one (uz k c)):=
 ⟨h.1,fun M w vs hM hg hr=>(h.2 M w vs hM hg hr).mono (fun _ _ ⟨v,h1,h2,h3,h4⟩=>⟨v,h1,h2,RdC.uz k h3,fun hh=>by cases hh⟩)⟩
theorem cTables0:CallsD Gs prog 37 [] (.one (.sl 3 [[cS ⟨⟨[103,114,105,100]⟩⟩,cS ⟨⟨[103,47,74]⟩⟩,.zc]])):=
 CallsD.fv (N:=1000) (n:=60) OkD.none (by kernel_rfl)
theorem cTables:CallsD Gs prog 37 [] (.one (.sl 3 (ms15.map Tb.C))):=by
 have h:=CallsD.uz1 2 cTables0
 have e:uz 2 (.sl 3 [[cS ⟨⟨[103,114,105,100]⟩⟩,cS ⟨⟨[103,47,74]⟩⟩,.zc]])=.sl 3 (ms15.map Tb.C):=by kernel_rfl
 exact e▸h
theorem cOf15 (x:Ex) (hx:x.Sm):CallsD Gs prog 9 [.agg (exC x),.one (.sl 7 (vs15.map Vr.C)),.one (.sl 3 (ms15.map Tb.C))] (tyR (ofF x vs15 ms15)):=
 cInferOf x vs15 ms15 hx (by decide) (by decide) (by decide) (fun t ht=>by
  cases List.mem_singleton.1 ht
  exact ⟨by decide,by decide,by decide⟩)
theorem flTy:(flatT prog 9 32=some 7)=True:=eq_true (by kernel_rfl)
theorem agTy:aggT prog 32=true:=by kernel_rfl
theorem egTy:prog.eqGuardType prog.depth 32=false:=by kernel_rfl
theorem fitTy (t:Bool) (a b c d e f:Int):fitT prog 9 32 [.bool t,.int .i64 a,.int .i64 b,.int .i64 c,.int .i64 d,.int .i64 e,.int .i64 f]=true:=by kernel_rfl
attribute [go_sem] flTy agTy egTy fitTy
def isF (r:Ty×Int) (t:Bool) (d:Dm):Bool:=decide (r.2=0)&&((r.1.t==t)&&decide (r.1.d=d))
def wrongF (r:Ty×Int) (e:Int):Bool:=decide (r.2=e)&&(!r.1.t&&decide (r.1.d=Dm.zero))
theorem cIs (s:ByteArray) (x:Ex) (hp:CallsD Gs prog 35 [.one (cS s)] (parR x)) (hx:x.Sm) (t:Bool) (d:Dm):CallsD Gs prog 17 [.one (cS s),.one (cB t),.agg (dmC d)] (.one (cB (isF (ofF x vs15 ms15) t d))):=by
 have h1:=cOf15 x hx
 generalize ofF x vs15 ms15=r at h1 ⊢
 refine CallsD.run [] Go.Proofs.Tryz.func17 rfl rfl rfl ?_;simp only [Go.Proofs.Tryz.f17];refine hgR ?_
 repeat' ((first | refine hfk ?_ ?_<;>intros | refine hik ?_ | with_reducible first | refine hcall (hp) ?_ | refine hcalle (hp) ?_ | refine hcall (cVars) ?_ | refine hcalle (cVars) ?_ | refine hcall (cTables) ?_ | refine hcalle (cTables) ?_ | refine hcall (h1) ?_ | refine hcalle (h1) ?_)<;>refine hgS ?_)
 all_goals (refine RLe.ofEq ?_;conv=>simp only [Bool.and_true,Bool.true_and,Bool.and_false,Bool.false_and,Bool.or_true,Bool.true_or,Bool.or_false,Bool.false_or,Bool.not_true,Bool.not_false,decide_true,decide_false,not_true_eq_false,not_false_eq_true,bnot_decide,if_true,if_false,Bool.and_self,Bool.or_self,cond_true,cond_false,List.length_map,ne_eq,Int.reduceEq,Int.reduceLT,Int.reduceLE, *,isF]);first | exact trivial | rfl
theorem cWrong (s:ByteArray) (x:Ex) (hp:CallsD Gs prog 35 [.one (cS s)] (parR x)) (hx:x.Sm) (e:Int):CallsD Gs prog 18 [.one (cS s),.one (cI e)] (.one (cB (wrongF (ofF x vs15 ms15) e))):=by
 have h1:=cOf15 x hx
 generalize ofF x vs15 ms15=r at h1 ⊢
 refine CallsD.run [] Go.Proofs.Tryz.func18 rfl rfl rfl ?_;simp only [Go.Proofs.Tryz.f18];refine hgR ?_
 repeat' ((first | refine hfk ?_ ?_<;>intros | refine hik ?_ | with_reducible first | refine hcall (hp) ?_ | refine hcalle (hp) ?_ | refine hcall (cVars) ?_ | refine hcalle (cVars) ?_ | refine hcall (cTables) ?_ | refine hcalle (cTables) ?_ | refine hcall (h1) ?_ | refine hcalle (h1) ?_)<;>refine hgS ?_)
 all_goals (refine RLe.ofEq ?_;conv=>simp only [Bool.and_true,Bool.true_and,Bool.and_false,Bool.false_and,Bool.or_true,Bool.true_or,Bool.or_false,Bool.false_or,Bool.not_true,Bool.not_false,decide_true,decide_false,not_true_eq_false,not_false_eq_true,bnot_decide,if_true,if_false,Bool.and_self,Bool.or_self,cond_true,cond_false,List.length_map,ne_eq,Int.reduceEq,Int.reduceLT,Int.reduceLE, *,wrongF]);first | exact trivial | rfl
end Go.Hp.T

namespace Go.Hp.T
open Go Go.RowKit Go.Slot Go.Hp
open Go.Proofs.Tryz (prog)
set_option maxRecDepth 100000
theorem par0:CallsD Gs prog 35 [strAV sx0] (parR ex0):=
 CallsD.uzE 5 (cs:=[(.raw (.int .i64 8)),(.raw (.int .i64 0)),(.raw (.string ⟨⟨[]⟩⟩)),(.raw (.string ⟨⟨[]⟩⟩)),(.sl 5 [[(.raw (.int .i64 1)),(.raw (.int .i64 0)),(.raw (.string ⟨⟨[]⟩⟩)),(.raw (.string ⟨⟨[109,97,115,115]⟩⟩)),.zc],[(.raw (.int .i64 1)),(.raw (.int .i64 0)),(.raw (.string ⟨⟨[]⟩⟩)),(.raw (.string ⟨⟨[119,97,121]⟩⟩)),.zc]])]) (CallsD.fv (N:=1000) (n:=60) OkD.none (by kernel_rfl)) (by kernel_rfl)
end Go.Hp.T

namespace Go.Hp.T
open Go Go.RowKit Go.Slot Go.Hp
open Go.Proofs.Tryz (prog)
set_option maxRecDepth 100000
theorem par1:CallsD Gs prog 35 [strAV sx1] (parR ex1):=
 CallsD.uzE 5 (cs:=[(.raw (.int .i64 6)),(.raw (.int .i64 0)),(.raw (.string ⟨⟨[]⟩⟩)),(.raw (.string ⟨⟨[]⟩⟩)),(.sl 5 [[(.raw (.int .i64 1)),(.raw (.int .i64 0)),(.raw (.string ⟨⟨[]⟩⟩)),(.raw (.string ⟨⟨[109,97,115,115]⟩⟩)),.zc],[(.raw (.int .i64 0)),(.raw (.int .i64 2)),(.raw (.string ⟨⟨[]⟩⟩)),(.raw (.string ⟨⟨[]⟩⟩)),.zc]])]) (CallsD.fv (N:=1000) (n:=60) OkD.none (by kernel_rfl)) (by kernel_rfl)
end Go.Hp.T

namespace Go.Hp.T
open Go Go.RowKit Go.Slot Go.Hp
open Go.Proofs.Tryz (prog)
set_option maxRecDepth 100000
theorem par2:CallsD Gs prog 35 [strAV sx2] (parR ex2):=
 CallsD.uzE 5 (cs:=[(.raw (.int .i64 2)),(.raw (.int .i64 0)),(.raw (.string ⟨⟨[]⟩⟩)),(.raw (.string ⟨⟨[103,114,105,100]⟩⟩)),(.sl 5 [[(.raw (.int .i64 1)),(.raw (.int .i64 0)),(.raw (.string ⟨⟨[]⟩⟩)),(.raw (.string ⟨⟨[109,97,115,115]⟩⟩)),.zc]])]) (CallsD.fv (N:=1000) (n:=60) OkD.none (by kernel_rfl)) (by kernel_rfl)
end Go.Hp.T

namespace Go.Hp.T
open Go Go.RowKit Go.Slot Go.Hp
open Go.Proofs.Tryz (prog)
set_option maxRecDepth 100000
theorem par3:CallsD Gs prog 35 [strAV sx3] (parR ex3):=
 CallsD.uzE 5 (cs:=[(.raw (.int .i64 2)),(.raw (.int .i64 0)),(.raw (.string ⟨⟨[]⟩⟩)),(.raw (.string ⟨⟨[109,97,115,115]⟩⟩)),(.sl 5 [[(.raw (.int .i64 1)),(.raw (.int .i64 0)),(.raw (.string ⟨⟨[]⟩⟩)),(.raw (.string ⟨⟨[104,111,117,114]⟩⟩)),.zc]])]) (CallsD.fv (N:=1000) (n:=60) OkD.none (by kernel_rfl)) (by kernel_rfl)
end Go.Hp.T

namespace Go.Hp.T
open Go Go.RowKit Go.Slot Go.Hp
open Go.Proofs.Tryz (prog)
set_option maxRecDepth 100000
theorem par4:CallsD Gs prog 35 [strAV sx4] (parR ex4):=
 CallsD.uzE 5 (cs:=[(.raw (.int .i64 5)),(.raw (.int .i64 0)),(.raw (.string ⟨⟨[]⟩⟩)),(.raw (.string ⟨⟨[]⟩⟩)),(.sl 5 [[(.raw (.int .i64 1)),(.raw (.int .i64 0)),(.raw (.string ⟨⟨[]⟩⟩)),(.raw (.string ⟨⟨[109,97,115,115]⟩⟩)),.zc],[(.raw (.int .i64 1)),(.raw (.int .i64 0)),(.raw (.string ⟨⟨[]⟩⟩)),(.raw (.string ⟨⟨[119,97,121]⟩⟩)),.zc],[(.raw (.int .i64 1)),(.raw (.int .i64 0)),(.raw (.string ⟨⟨[]⟩⟩)),(.raw (.string ⟨⟨[119,97,121]⟩⟩)),.zc]])]) (CallsD.fv (N:=1000) (n:=60) OkD.none (by kernel_rfl)) (by kernel_rfl)
end Go.Hp.T

namespace Go.Hp.T
open Go Go.RowKit Go.Slot Go.Hp
open Go.Proofs.Tryz (prog)
set_option maxRecDepth 100000
theorem par5:CallsD Gs prog 35 [strAV sx5] (parR ex5):=
 CallsD.uzE 5 (cs:=[(.raw (.int .i64 6)),(.raw (.int .i64 0)),(.raw (.string ⟨⟨[]⟩⟩)),(.raw (.string ⟨⟨[]⟩⟩)),(.sl 5 [[(.raw (.int .i64 1)),(.raw (.int .i64 0)),(.raw (.string ⟨⟨[]⟩⟩)),(.raw (.string ⟨⟨[109,97,115,115]⟩⟩)),.zc],[(.raw (.int .i64 0)),(.raw (.int .i64 2)),(.raw (.string ⟨⟨[107,103]⟩⟩)),(.raw (.string ⟨⟨[]⟩⟩)),.zc]])]) (CallsD.fv (N:=1000) (n:=60) OkD.none (by kernel_rfl)) (by kernel_rfl)
end Go.Hp.T

namespace Go.Hp.T
open Go Go.RowKit Go.Slot Go.Hp
open Go.Proofs.Tryz (prog)
set_option maxRecDepth 100000
theorem par6:CallsD Gs prog 35 [strAV sx6] (parR ex6):=
 CallsD.uzE 5 (cs:=[(.raw (.int .i64 8)),(.raw (.int .i64 0)),(.raw (.string ⟨⟨[]⟩⟩)),(.raw (.string ⟨⟨[]⟩⟩)),(.sl 5 [[(.raw (.int .i64 2)),(.raw (.int .i64 0)),(.raw (.string ⟨⟨[]⟩⟩)),(.raw (.string ⟨⟨[103,114,105,100]⟩⟩)),(.sl 5 [[(.raw (.int .i64 1)),(.raw (.int .i64 0)),(.raw (.string ⟨⟨[]⟩⟩)),(.raw (.string ⟨⟨[104,111,117,114]⟩⟩)),.zc]])],[(.raw (.int .i64 0)),(.raw (.int .i64 3)),(.raw (.string ⟨⟨[107,87,104]⟩⟩)),(.raw (.string ⟨⟨[]⟩⟩)),.zc]])]) (CallsD.fv (N:=1000) (n:=60) OkD.none (by kernel_rfl)) (by kernel_rfl)
end Go.Hp.T

namespace Go.Hp.T
open Go Go.RowKit Go.Slot Go.Hp
open Go.Proofs.Tryz (prog)
set_option maxRecDepth 100000
theorem par7:CallsD Gs prog 35 [strAV sx7] (parR ex7):=
 CallsD.uzE 5 (cs:=[(.raw (.int .i64 2)),(.raw (.int .i64 0)),(.raw (.string ⟨⟨[]⟩⟩)),(.raw (.string ⟨⟨[103,114,105,100]⟩⟩)),(.sl 5 [[(.raw (.int .i64 12)),(.raw (.int .i64 0)),(.raw (.string ⟨⟨[]⟩⟩)),(.raw (.string ⟨⟨[]⟩⟩)),(.sl 5 [[(.raw (.int .i64 1)),(.raw (.int .i64 0)),(.raw (.string ⟨⟨[]⟩⟩)),(.raw (.string ⟨⟨[109,97,115,115]⟩⟩)),.zc],[(.raw (.int .i64 1)),(.raw (.int .i64 0)),(.raw (.string ⟨⟨[]⟩⟩)),(.raw (.string ⟨⟨[109,97,115,115]⟩⟩)),.zc]])]])]) (CallsD.fv (N:=1000) (n:=60) OkD.none (by kernel_rfl)) (by kernel_rfl)
end Go.Hp.T

namespace Go.Hp.T
open Go Go.RowKit Go.Slot Go.Hp
open Go.Proofs.Tryz (prog)
set_option maxRecDepth 100000
theorem par8:CallsD Gs prog 35 [strAV sx8] (parR ex8):=
 CallsD.uzE 5 (cs:=[(.raw (.int .i64 5)),(.raw (.int .i64 0)),(.raw (.string ⟨⟨[]⟩⟩)),(.raw (.string ⟨⟨[]⟩⟩)),(.sl 5 [[(.raw (.int .i64 12)),(.raw (.int .i64 0)),(.raw (.string ⟨⟨[]⟩⟩)),(.raw (.string ⟨⟨[]⟩⟩)),(.sl 5 [[(.raw (.int .i64 1)),(.raw (.int .i64 0)),(.raw (.string ⟨⟨[]⟩⟩)),(.raw (.string ⟨⟨[109,97,115,115]⟩⟩)),.zc],[(.raw (.int .i64 0)),(.raw (.int .i64 1)),(.raw (.string ⟨⟨[116]⟩⟩)),(.raw (.string ⟨⟨[]⟩⟩)),.zc]])],[(.raw (.int .i64 1)),(.raw (.int .i64 0)),(.raw (.string ⟨⟨[]⟩⟩)),(.raw (.string ⟨⟨[119,97,121]⟩⟩)),.zc],[(.raw (.int .i64 0)),(.raw (.int .i64 5)),(.raw (.string ⟨⟨[109]⟩⟩)),(.raw (.string ⟨⟨[]⟩⟩)),.zc]])]) (CallsD.fv (N:=1000) (n:=60) OkD.none (by kernel_rfl)) (by kernel_rfl)
end Go.Hp.T

namespace Go.Hp.T
open Go Go.RowKit Go.Slot Go.Hp
open Go.Proofs.Tryz (prog)
set_option maxRecDepth 100000
theorem par9:CallsD Gs prog 35 [strAV sx9] (parR ex9):=
 CallsD.uzE 5 (cs:=[(.raw (.int .i64 14)),(.raw (.int .i64 0)),(.raw (.string ⟨⟨[]⟩⟩)),(.raw (.string ⟨⟨[]⟩⟩)),(.sl 5 [[(.raw (.int .i64 12)),(.raw (.int .i64 0)),(.raw (.string ⟨⟨[]⟩⟩)),(.raw (.string ⟨⟨[]⟩⟩)),(.sl 5 [[(.raw (.int .i64 1)),(.raw (.int .i64 0)),(.raw (.string ⟨⟨[]⟩⟩)),(.raw (.string ⟨⟨[109,97,115,115]⟩⟩)),.zc],[(.raw (.int .i64 1)),(.raw (.int .i64 0)),(.raw (.string ⟨⟨[]⟩⟩)),(.raw (.string ⟨⟨[119,97,121]⟩⟩)),.zc]])],[(.raw (.int .i64 1)),(.raw (.int .i64 0)),(.raw (.string ⟨⟨[]⟩⟩)),(.raw (.string ⟨⟨[104,111,117,114]⟩⟩)),.zc]])]) (CallsD.fv (N:=1000) (n:=60) OkD.none (by kernel_rfl)) (by kernel_rfl)
end Go.Hp.T

namespace Go.Hp.T
open Go Go.RowKit Go.Slot Go.Hp Go.Slot.T
open Go.Proofs.Tryz (prog)
set_option maxRecDepth 100000
set_option maxHeartbeats 4000000
mutual
def Ex.smB:Ex→Bool
 | .mk _ _ u s l=>Nat.ble l.length 1073741824&&Nat.ble u.size 1073741824&&Nat.ble s.size 1073741824&&Ex.smBL l
def Ex.smBL:List Ex→Bool
 | []=>true
 | x::l=>Ex.smB x&&Ex.smBL l
end
theorem Ex.smBL_all:∀ l:List Ex,Ex.smBL l=l.all Ex.smB
 | []=>by rw [Ex.smBL];rfl
 | x::l=>by rw [Ex.smBL,Ex.smBL_all l];rfl
theorem Ex.Sm.of:∀ x:Ex,x.smB=true→x.Sm:=by
 refine Ex.ind ?_
 intro x ih h
 cases x with
 | mk o n u s l=>
  rw [Ex.smB,Ex.smBL_all] at h
  simp only [Bool.and_eq_true,Nat.ble_eq,List.all_eq_true] at h
  obtain ⟨⟨⟨h1,h2⟩,h3⟩,h4⟩:=h
  exact .mk _ h1 h2 h3 (fun y hy=>ih y hy (h4 y hy))
theorem sn0:CallsD Gs prog 17 [.one (cS ⟨⟨[109,97,115,115,32,42,32,119,97,121]⟩⟩),.one (cB false),.agg [cI 1,cI 1,cI 0,cI 0,cI 0,cI 0]] (.one (cB true)):=by
 have e:isF (ofF ex0 vs15 ms15) false ⟨1,1,0,0,0,0⟩=true:=by kernel_rfl
 have h:=cIs ⟨⟨sx0⟩⟩ ex0 par0 (Ex.Sm.of _ (by kernel_rfl)) false ⟨1,1,0,0,0,0⟩
 rw [e] at h
 exact h
theorem sn1:CallsD Gs prog 17 [.one (cS ⟨⟨[109,97,115,115,32,43,32,50,32,34,107,103,34]⟩⟩),.one (cB false),.agg [cI 1,cI 0,cI 0,cI 0,cI 0,cI 0]] (.one (cB true)):=by
 have e:isF (ofF ex5 vs15 ms15) false ⟨1,0,0,0,0,0⟩=true:=by kernel_rfl
 have h:=cIs ⟨⟨sx5⟩⟩ ex5 par5 (Ex.Sm.of _ (by kernel_rfl)) false ⟨1,0,0,0,0,0⟩
 rw [e] at h
 exact h
theorem sn2:CallsD Gs prog 18 [.one (cS ⟨⟨[109,97,115,115,32,43,32,50]⟩⟩),.one (cI 14)] (.one (cB true)):=by
 have e:wrongF (ofF ex1 vs15 ms15) 14=true:=by kernel_rfl
 have h:=cWrong ⟨⟨sx1⟩⟩ ex1 par1 (Ex.Sm.of _ (by kernel_rfl)) 14
 rw [e] at h
 exact h
theorem sn3:CallsD Gs prog 17 [.one (cS ⟨⟨[108,111,111,107,40,103,114,105,100,44,32,104,111,117,114,41,32,42,32,51,32,34,107,87,104,34]⟩⟩),.one (cB false),.agg [cI 1,cI 0,cI 0,cI 0,cI 0,cI 0]] (.one (cB true)):=by
 have e:isF (ofF ex6 vs15 ms15) false ⟨1,0,0,0,0,0⟩=true:=by kernel_rfl
 have h:=cIs ⟨⟨sx6⟩⟩ ex6 par6 (Ex.Sm.of _ (by kernel_rfl)) false ⟨1,0,0,0,0,0⟩
 rw [e] at h
 exact h
theorem sn4:CallsD Gs prog 18 [.one (cS ⟨⟨[108,111,111,107,40,103,114,105,100,44,32,109,97,115,115,41]⟩⟩),.one (cI 14)] (.one (cB true)):=by
 have e:wrongF (ofF ex2 vs15 ms15) 14=true:=by kernel_rfl
 have h:=cWrong ⟨⟨sx2⟩⟩ ex2 par2 (Ex.Sm.of _ (by kernel_rfl)) 14
 rw [e] at h
 exact h
theorem sn5:CallsD Gs prog 18 [.one (cS ⟨⟨[108,111,111,107,40,103,114,105,100,44,32,109,97,115,115,32,60,32,109,97,115,115,41]⟩⟩),.one (cI 13)] (.one (cB true)):=by
 have e:wrongF (ofF ex7 vs15 ms15) 13=true:=by kernel_rfl
 have h:=cWrong ⟨⟨sx7⟩⟩ ex7 par7 (Ex.Sm.of _ (by kernel_rfl)) 13
 rw [e] at h
 exact h
theorem sn6:CallsD Gs prog 18 [.one (cS ⟨⟨[108,111,111,107,40,109,97,115,115,44,32,104,111,117,114,41]⟩⟩),.one (cI 11)] (.one (cB true)):=by
 have e:wrongF (ofF ex3 vs15 ms15) 11=true:=by kernel_rfl
 have h:=cWrong ⟨⟨sx3⟩⟩ ex3 par3 (Ex.Sm.of _ (by kernel_rfl)) 11
 rw [e] at h
 exact h
theorem sn7:CallsD Gs prog 17 [.one (cS ⟨⟨[105,102,32,40,109,97,115,115,32,60,32,49,32,34,116,34,41,32,116,104,101,110,32,119,97,121,32,101,108,115,101,32,53,32,34,109,34]⟩⟩),.one (cB false),.agg [cI 0,cI 1,cI 0,cI 0,cI 0,cI 0]] (.one (cB true)):=by
 have e:isF (ofF ex8 vs15 ms15) false ⟨0,1,0,0,0,0⟩=true:=by kernel_rfl
 have h:=cIs ⟨⟨sx8⟩⟩ ex8 par8 (Ex.Sm.of _ (by kernel_rfl)) false ⟨0,1,0,0,0,0⟩
 rw [e] at h
 exact h
theorem sn8:CallsD Gs prog 18 [.one (cS ⟨⟨[105,102,32,109,97,115,115,32,116,104,101,110,32,119,97,121,32,101,108,115,101,32,119,97,121]⟩⟩),.one (cI 13)] (.one (cB true)):=by
 have e:wrongF (ofF ex4 vs15 ms15) 13=true:=by kernel_rfl
 have h:=cWrong ⟨⟨sx4⟩⟩ ex4 par4 (Ex.Sm.of _ (by kernel_rfl)) 13
 rw [e] at h
 exact h
theorem sn9:CallsD Gs prog 18 [.one (cS ⟨⟨[40,109,97,115,115,32,60,32,119,97,121,41,32,97,110,100,32,104,111,117,114]⟩⟩),.one (cI 14)] (.one (cB true)):=by
 have e:wrongF (ofF ex9 vs15 ms15) 14=true:=by kernel_rfl
 have h:=cWrong ⟨⟨sx9⟩⟩ ex9 par9 (Ex.Sm.of _ (by kernel_rfl)) 14
 rw [e] at h
 exact h
theorem cSane:CallsD Gs prog 7 [] (.one (cB true)):=by
 refine CallsD.run [] Go.Proofs.Tryz.func7 rfl rfl rfl ?_;simp only [Go.Proofs.Tryz.f7];refine hgR ?_
 repeat' ((first | refine hfk ?_ ?_<;>intros | refine hik ?_ | with_reducible first | refine hcall (sn0) ?_ | refine hcalle (sn0) ?_ | refine hcall (sn1) ?_ | refine hcalle (sn1) ?_ | refine hcall (sn2) ?_ | refine hcalle (sn2) ?_ | refine hcall (sn3) ?_ | refine hcalle (sn3) ?_ | refine hcall (sn4) ?_ | refine hcalle (sn4) ?_ | refine hcall (sn5) ?_ | refine hcalle (sn5) ?_ | refine hcall (sn6) ?_ | refine hcalle (sn6) ?_ | refine hcall (sn7) ?_ | refine hcalle (sn7) ?_ | refine hcall (sn8) ?_ | refine hcalle (sn8) ?_ | refine hcall (sn9) ?_ | refine hcalle (sn9) ?_)<;>refine hgS ?_)
 all_goals (refine RLe.ofEq ?_;conv=>simp only [Bool.and_true,Bool.true_and,Bool.and_false,Bool.false_and,Bool.or_true,Bool.true_or,Bool.or_false,Bool.false_or,Bool.not_true,Bool.not_false,decide_true,decide_false,not_true_eq_false,not_false_eq_true,bnot_decide,if_true,if_false,Bool.and_self,Bool.or_self,cond_true,cond_false,List.length_map,ne_eq,Int.reduceEq,Int.reduceLT,Int.reduceLE, *]);first | exact trivial | rfl
end Go.Hp.T

namespace Go.Hp.T
open Go Go.RowKit Go.Slot Go.Hp Go.Slot.T
open Go.Proofs.Tryz (prog)
set_option maxRecDepth 10000
set_option maxHeartbeats 4000000
theorem wReplaces (x y:Ex) (w:Int) (vs:List Vr) (ms:List Tb) (hx:x.Sm) (hy:y.Sm) (hz:∀ nm,(Ex.repl nm y x).Sm) (hw:0≤w) (hw2:w≤255) (hv:vs.length≤1073741824) (hm:ms.length≤1073741824) (hvn:∀ v∈vs,v.name.size≤1073741824) (hms:∀ t∈ms,t.Sm)
 (H:∀ v∈vs,(ofF y vs ms).2=0→(ofF y vs ms).1=⟨false,v.d⟩→exRight x=true→exRight (Ex.repl v.name y x)=true→ofF (Ex.repl v.name y x) vs ms=ofF x vs ms) :
 CallsD Gs prog 4 [.agg (exC x),.agg (exC y),.one (.raw (.int .u8 w)),.one (.sl 7 (vs.map Vr.C)),.one (.sl 3 (ms.map Tb.C))] (.one (cB true)):=by
 have s1:=cSane
 have f1:=rFew15 (Γ:=Gs) x hx vs ms hv hm
 have f2:=rFew15 (Γ:=Gs) y hy vs ms hv hm
 have f3:=rFew (Γ:=Gs) x hx 30 12 (by decide) (by decide) (by decide) (by decide)
 have f4:=rFew (Γ:=Gs) y hy 30 12 (by decide) (by decide) (by decide) (by decide)
 generalize few15 x vs ms=b1 at f1
 generalize few15 y vs ms=b2 at f2
 generalize decide (0≤x.rsz 30 12)=b3 at f3
 generalize decide (0≤y.rsz 30 12)=b4 at f4
 refine CallsD.run [] Go.Proofs.Tryz.func4 rfl rfl rfl ?_;simp only [Go.Proofs.Tryz.f4];refine hgR ?_
 repeat' ((first | refine hfk ?_ ?_<;>intros | refine hik ?_ | with_reducible first | refine hcall (s1) ?_ | refine hcalle (s1) ?_ | refine hcall (f1) ?_ | refine hcalle (f1) ?_ | refine hcall (f2) ?_ | refine hcalle (f2) ?_ | refine hcall (f3) ?_ | refine hcalle (f3) ?_ | refine hcall (f4) ?_ | refine hcalle (f4) ?_)<;>refine hgS ?_)
 all_goals first
  | exact RLe.ofEq rfl
  | skip
 have hpos:0<vs.length:=by omega
 have q1:0≤w.tmod ↑vs.length:=Int.tmod_nonneg _ hw
 have q2:(w.tmod ↑vs.length).toNat<vs.length:=by
  have:=Int.tmod_lt_of_pos w (show (0:Int)<vs.length by omega)
  omega
 have hvm:=getD_mem q2
 have H2:=H _ hvm
 have o1:=cInferOf (Γ:=Gs) x vs ms hx hv hm hvn hms
 have o2:=cInferOf (Γ:=Gs) y vs ms hy hv hm hvn hms
 generalize (w.tmod ↑vs.length).toNat=j at q2 hvm H2
 clear H
 generalize vs.getD j default=v at H2 hvm ⊢
 have o3:=cInferOf (Γ:=Gs) (Ex.repl v.name y x) vs ms (hz _) hv hm hvn hms
 have p1:=cRight (Γ:=Gs) x hx
 have p2:=cRight (Γ:=Gs) (Ex.repl v.name y x) (hz _)
 have p3:=cReplaced (Γ:=Gs) v.name y x hx
 generalize ofF x vs ms=r1 at o1 H2
 generalize ofF y vs ms=r2 at o2 H2
 generalize ofF (Ex.repl v.name y x) vs ms=r3 at o3 H2
 generalize exRight x=e1 at p1 H2
 generalize exRight (Ex.repl v.name y x)=e2 at p2 H2
 generalize Ex.repl v.name y x=z at p2 p3 o3
 clear hz hvm hvn hms
 conv=>simp (maxSteps:=2000000) (disch:=omega) only [go_sem,Nat.reduceAdd,Nat.reduceSub,Nat.reduceMul,Int.reduceToNat,Nat.reduceEqDiff,Nat.reduceBEq,Nat.reduceBneDiff,Nat.reduceLT,Int.reduceEq,Int.reduceLT,Int.reduceLE,Int.reduceNeg,Int.reduceAdd,Int.reduceSub,Int.reduceMul,q1,q2]
 clear q1 q2
 obtain ⟨r1t,r1e⟩:=r1
 obtain ⟨⟨u,d⟩,ue⟩:=r2
 obtain ⟨r3t,r3e⟩:=r3
 simp only at H2 o1 o2 o3
 repeat' ((first | refine hfk ?_ ?_<;>intros | refine hik ?_ | with_reducible first | refine hcall (o1) ?_ | refine hcalle (o1) ?_ | refine hcall (o2) ?_ | refine hcalle (o2) ?_ | refine hcall (o3) ?_ | refine hcalle (o3) ?_ | refine hcall (p1) ?_ | refine hcalle (p1) ?_ | refine hcall (p2) ?_ | refine hcalle (p2) ?_ | refine hcall (p3) ?_ | refine hcalle (p3) ?_)<;>refine hgS ?_)
 all_goals first
  | exact RLe.ofEq rfl
  | (refine RLe.ofEq ?_;simp_all)
  | (exfalso;simp_all)
  | skip
end Go.Hp.T

namespace Go.Hp.T
open Go Go.RowKit Go.Slot Go.Hp
set_option maxRecDepth 10000
theorem seq_refl (s:ByteArray):seq s s=true:=by rw [seq_dec];exact decide_eq_true rfl
theorem seq_eq {a b:ByteArray} (h:seq a b=true):a=b:=by rw [seq_dec] at h;exact of_decide_eq_true h
theorem lookF_upd {α:Type} (d:α) (s:ByteArray):∀ V:List (ByteArray×α),lookF (updF V s d) s=some d
 | []=>by simp [updF,lookF,seq_refl]
 | p::V=>by
  unfold updF
  cases h:seq s p.1 with
  | true=>simp [lookF,seq_refl]
  | false=>simp [lookF,h,lookF_upd d s V]
theorem lookF_upd_ne {α:Type} (d:α) {s s':ByteArray} (hs:seq s' s=false):∀ V:List (ByteArray×α),lookF (updF V s d) s'=lookF V s'
 | []=>by simp [updF,lookF,hs]
 | p::V=>by
  unfold updF
  cases h:seq s p.1 with
  | true=>have e:=seq_eq h;subst e;simp [lookF,hs]
  | false=>simp [lookF,lookF_upd_ne d hs V]
theorem updF_len {α:Type} (d:α) (s:ByteArray):∀ V:List (ByteArray×α),(updF V s d).length≤V.length+1∧((updF V s d).length=V.length+1→lookF V s=none)
 | []=>⟨by simp [updF],fun _=>rfl⟩
 | p::V=>by
  unfold updF
  cases h:seq s p.1 with
  | true=>exact ⟨by simp,fun h2=>by simp at h2⟩
  | false=>
   have:=updF_len d s V
   exact ⟨by simp;omega,fun h2=>by simp at h2;simp [lookF,h,this.2 h2]⟩
theorem rV_len:∀(vs:List Vr) (V W:List (ByteArray×Dm)),rV V vs=some W→W.length≤V.length+vs.length
 | [],V,W,h=>by rw [rV] at h;cases h;simp
 | v::vs,V,W,h=>by
  rw [rV] at h
  cases hb:(!isName v.name||isWord v.name||!dRight v.d) with
  | true=>rw [hb] at h;cases h
  | false=>
   rw [hb] at h
   have h1:=rV_len vs _ W h
   have h2:=(updF_len v.d v.name V).1
   simp only [List.length_cons]
   omega
theorem rV_look:∀(vs:List Vr) (V W:List (ByteArray×Dm)),rV V vs=some W→W.length=V.length+vs.length→(∀ v∈vs,lookF W v.name=some v.d)∧(∀ s d,lookF V s=some d→lookF W s=some d)
 | [],V,W,h,_=>by rw [rV] at h;cases h;exact ⟨fun v hv=>by simp at hv,fun s d hd=>hd⟩
 | v::vs,V,W,h,hlen=>by
  rw [rV] at h
  cases hb:(!isName v.name||isWord v.name||!dRight v.d) with
  | true=>rw [hb] at h;cases h
  | false=>
   rw [hb] at h
   have h1:=rV_len vs _ W h
   have h2:=updF_len v.d v.name V
   simp only [List.length_cons] at hlen
   have h3:(updF V v.name v.d).length=V.length+1:=by omega
   obtain ⟨h4,h5⟩:=rV_look vs _ W h (by omega)
   have hn:=h2.2 h3
   refine ⟨fun u hu=>?_,fun s d hd=>?_⟩
   · rcases List.mem_cons.1 hu with rfl | hu
     · exact h5 _ _ (lookF_upd _ _ _)
     · exact h4 u hu
   · refine h5 s d ?_
     cases hs:seq s v.name with
     | true=>have e:=seq_eq hs;subst e;rw [hn] at hd;cases hd
     | false=>rw [lookF_upd_ne _ hs];exact hd
theorem readF_look {vs:List Vr} {ms:List Tb} {V T:List (ByteArray×Dm)} (h:readF vs ms=some (V,T)):∀ v∈vs,lookF V v.name=some v.d:=by
 unfold readF at h
 cases hV:rV [] vs with
 | none=>rw [hV] at h;cases h
 | some W=>
  rw [hV] at h
  simp only at h
  cases hT:rT W [] ms with
  | none=>rw [hT] at h;cases h
  | some U=>
   rw [hT] at h
   simp only at h
   cases hd:(decide ((W.length:Int)=vs.length)&&decide ((U.length:Int)=ms.length)) with
   | false=>rw [hd] at h;cases h
   | true=>
    rw [hd] at h
    cases h
    rw [Bool.and_eq_true,decide_eq_true_iff] at hd
    exact (rV_look vs [] V hV (by simp;omega)).1
theorem node_one {x:Ex} (h:exNode x=true) (ho:x.op=1):x.args=[]:=by
 unfold exNode at h
 rw [ho] at h
 simp at h
 exact h.2.2
theorem repl_call (nm:ByteArray) (y:Ex) (hy:y.hasCall=false):∀ x:Ex,x.shaped=true→(Ex.repl nm y x).hasCall=x.hasCall:=by
 refine Ex.ind (fun x ih hx=>?_)
 rw [Ex.shaped_eq,Bool.and_eq_true,List.all_eq_true] at hx
 rw [Ex.repl_eq]
 cases hc:(decide (x.op=1)&&seq x.name nm) with
 | true=>
  rw [Bool.and_eq_true,decide_eq_true_iff] at hc
  rw [Ex.hasCall_eq x,node_one hx.1 hc.1,hc.1]
  simpa using hy
 | false=>
  rw [cond_false,Ex.hasCall_eq,Ex.hasCall_eq x]
  congr 1
  show (x.args.map (Ex.repl nm y)).any Ex.hasCall=_
  rw [List.any_map]
  refine Bool.eq_iff_iff.2 ?_
  simp only [List.any_eq_true,Function.comp]
  exact ⟨fun ⟨z,h1,h2⟩=>⟨z,h1,by rw [←ih z h1 (hx.2 z h1)];exact h2⟩,fun ⟨z,h1,h2⟩=>⟨z,h1,by rw [ih z h1 (hx.2 z h1)];exact h2⟩⟩
theorem repl_ty (V T:List (ByteArray×Dm)) (nm:ByteArray) (y:Ex) (d:Dm) (hy:y.ty V T=(⟨false,d⟩,0)) (hl:lookF V nm=some d):∀ x:Ex,x.shaped=true→(Ex.repl nm y x).ty V T=x.ty V T:=by
 refine Ex.ind (fun x ih hx=>?_)
 rw [Ex.shaped_eq,Bool.and_eq_true,List.all_eq_true] at hx
 rw [Ex.repl_eq]
 cases hc:(decide (x.op=1)&&seq x.name nm) with
 | true=>
  rw [Bool.and_eq_true,decide_eq_true_iff] at hc
  have e:=seq_eq hc.2
  rw [cond_true,hy,Ex.ty_eq,node_one hx.1 hc.1]
  unfold leafF
  rw [hc.1,e,hl]
  rfl
 | false=>
  rw [cond_false,Ex.ty_eq,Ex.ty_eq V T x]
  have hL:∀ l:List Ex,(∀ z∈l,z∈x.args)→Ex.tyL V T (l.map (Ex.repl nm y))=Ex.tyL V T l:=by
   intro l
   induction l with
   | nil=>intro _;rfl
   | cons z l ihl=>
    intro h
    have hz:=h z (by simp)
    rw [List.map_cons,Ex.tyL,Ex.tyL,ih z hz (hx.2 z hz),ihl (fun w hw=>h w (by simp [hw]))]
  show (bif decide (((x.args.map (Ex.repl nm y)).length:Int)=0) then leafF V (.mk x.op x.n x.unit x.name (x.args.map (Ex.repl nm y))) else match Ex.tyL V T (x.args.map (Ex.repl nm y)) with | .inl e=>(Ty.zero,e) | .inr ts=>nodeF T x.op x.name ts)=_
  rw [List.length_map,hL x.args (fun z h=>h)]
  rfl
theorem lawReplaces (x y:Ex) (vs:List Vr) (ms:List Tb):∀ v∈vs,(ofF y vs ms).2=0→(ofF y vs ms).1=⟨false,v.d⟩→exRight x=true→exRight (Ex.repl v.name y x)=true→ofF (Ex.repl v.name y x) vs ms=ofF x vs ms:=by
 intro v hv h1 h2 h3 h4
 unfold ofF at h1 h2 ⊢
 cases hy:(!exRight y||y.hasCall) with
 | true=>rw [hy] at h1;cases h1
 | false=>
  rw [hy] at h1 h2
  simp only [Bool.or_eq_false_iff] at hy
  cases hr:readF vs ms with
  | none=>rw [hr] at h1;cases h1
  | some p=>
   obtain ⟨V,T⟩:=p
   rw [hr] at h1 h2
   simp only [cond_false] at h1 h2
   have hty:y.ty V T=(⟨false,v.d⟩,0):=Prod.ext h2 h1
   have hsh:x.shaped=true:=by unfold exRight at h3;rw [Bool.and_eq_true] at h3;exact h3.2
   rw [h3,h4,repl_call v.name y hy.2 x hsh]
   simp only
   rw [repl_ty V T v.name y v.d hty (readF_look hr v hv) x hsh]
end Go.Hp.T

namespace Go.Hp.T
open Go Go.RowKit Go.Slot Go.Hp
set_option maxRecDepth 10000
theorem byteAt_drop (s:ByteArray) (k i:Nat) (h:k+i<s.size):byteAt (sDrop s k) i=byteAt s (k+i):=by
 have h':k+i<s.data.size:=h
 unfold byteAt sDrop
 rw [ByteArray.data_extract,Array.getElem?_extract,if_pos (by simp only [Nat.min_def];split<;>simp_all<;>omega)]
theorem byteAt_take (s:ByteArray) (k i:Nat) (h:i<k) (h2:i<s.size):byteAt (sTake s k) i=byteAt s i:=by
 have h':i<s.data.size:=h2
 unfold byteAt sTake
 rw [ByteArray.data_extract,Array.getElem?_extract,if_pos (by simp only [Nat.min_def];split<;>simp_all<;>omega),Nat.zero_add]
theorem byteAt_cons (c:UInt8) (s:ByteArray) (i:Nat):byteAt (⟨#[c]⟩++s) (i+1)=byteAt s i:=by
 unfold byteAt
 have:(⟨#[c]⟩++s:ByteArray).data=#[c]++s.data:=by simp
 rw [this,Array.getElem?_append_right (by simp)]
 simp
theorem span_lt {p:Int→Bool} {s:ByteArray} {j:Nat} (h:j<spanF p s):p (byteAt s j)=true:=by
 have hj:j<s.size:=Nat.lt_of_lt_of_le h (spanF_le p s)
 have hj2:j<(bytesL s).length:=by rw [bytesL_length];exact hj
 have h1:p ((bytesL s).takeWhile p)[j]=true:=List.all_eq_true.1 List.all_takeWhile _ (List.getElem_mem h)
 have h2:((bytesL s).takeWhile p)[j]=(bytesL s)[j]:=(List.takeWhile_prefix p).getElem h
 rw [h2] at h1
 simpa [bytesL] using h1
theorem letter_plain {c:Int} (h:isLetter c=true):isPlain c=true:=by
 simp only [isLetter,isPlain,Bool.or_eq_true,Bool.and_eq_true,decide_eq_true_eq] at h ⊢
 omega
def Plain (s:ByteArray):Prop:=∀ j,j<s.size→isPlain (byteAt s j)=true
theorem plain_after {t:ByteArray} (h:Plain (cutAfter t)):Plain t:=by
 intro j hj
 rcases Nat.lt_or_ge j (spanF isLetter t) with h1 | h1
 · exact letter_plain (span_lt h1)
 have e1:byteAt (cutRest t) (j-spanF isLetter t)=byteAt t j:=by
  unfold cutRest
  rw [byteAt_drop _ _ _ (by omega)]
  congr 1;omega
 have s1:(cutRest t).size=t.size-spanF isLetter t:=by unfold cutRest;exact sDrop_size _ _
 unfold cutAfter at h
 cases hd:cutDig t with
 | false=>
  rw [hd,cond_false] at h
  have:=h (j-spanF isLetter t) (by omega)
  rwa [e1] at this
 | true=>
  rw [hd,cond_true] at h
  by_cases h0:j=spanF isLetter t
  · have hd':=hd
    simp only [cutDig,Bool.and_eq_true,decide_eq_true_eq] at hd'
    rw [show j-spanF isLetter t=0 by omega] at e1
    rw [←e1]
    simp only [isPlain,Bool.and_eq_true,decide_eq_true_eq]
    omega
  · have s2:(sDrop (cutRest t) 1).size=(cutRest t).size-1:=sDrop_size _ _
    have:=h (j-spanF isLetter t-1) (by omega)
    rw [byteAt_drop _ _ _ (by omega),show 1+(j-spanF isLetter t-1)=j-spanF isLetter t by omega,e1] at this
    exact this
theorem itemsL_plain:∀(n:Nat) (r:ByteArray) (acc l:List It),itemsL n r acc=some l→Plain r
 | 0,_,_,_,h=>by cases h
 | n+1,r,acc,l,h=>by
  rw [itemsL] at h
  by_cases h0:r.size=0
  · intro j hj;omega
  rw [decide_eq_false h0,cond_false] at h
  cases hb:(!cutOk' (sDrop r 1)||(decide (¬byteAt r 0=42)&&decide (¬byteAt r 0=47))) with
  | true=>rw [hb] at h;cases h
  | false=>
   rw [hb,cond_false] at h
   have h2:=plain_after (itemsL_plain n _ _ _ h)
   have s1:(sDrop r 1).size=r.size-1:=sDrop_size _ _
   intro j hj
   rcases j with _ | j
   · simp only [Bool.or_eq_false_iff,Bool.and_eq_false_iff,decide_eq_false_iff_not,Decidable.not_not] at hb
     simp only [isPlain,Bool.and_eq_true,decide_eq_true_eq]
     omega
   · have:=h2 j (by omega)
     rw [byteAt_drop _ _ _ (by omega),Nat.add_comm 1 j] at this
     exact this
theorem unit_plain {s:ByteArray} (h:(uReadF s).2=0):isQuote s=true:=by
 have hi:∃ l,itemsF s=some l:=by
  unfold uReadF at h
  cases hi:itemsF s with
  | none=>rw [hi] at h;cases h
  | some l=>exact ⟨l,rfl⟩
 obtain ⟨l,hi⟩:=hi
 unfold itemsF at hi
 by_cases h0:s.size=0
 · rw [quote_yes (fun j hj=>by omega)];exact decide_eq_true (by omega)
 rw [decide_eq_false h0,cond_false] at hi
 by_cases h1:40<(s.size:Int)
 · rw [decide_eq_true h1,cond_true] at hi;cases hi
 rw [decide_eq_false h1,cond_false] at hi
 have hp:=itemsL_plain _ _ _ _ hi
 rw [quote_yes]
 · exact decide_eq_true (by omega)
 intro j hj
 unfold itemsStart at hp
 cases h2:hasPre s ⟨#[49]⟩ with
 | false=>
  rw [h2,cond_false] at hp
  have:=hp (j+1) (by rw [ByteArray.size_append,show (⟨#[42]⟩:ByteArray).size=1 from rfl];omega)
  rwa [byteAt_cons] at this
 | true=>
  rw [h2,cond_true] at hp
  rcases j with _ | j
  · unfold hasPre at h2
    rw [Bool.and_eq_true] at h2
    have e:=seq_eq h2.2
    have e2:byteAt (sTake s 1) 0=49:=by
     have e':sTake s 1=⟨#[49]⟩:=e
     rw [e'];rfl
    rw [byteAt_take _ _ _ (by decide) hj] at e2
    rw [e2];rfl
  · have s1:(sDrop s 1).size=s.size-1:=sDrop_size _ _
    have:=hp j (by omega)
    rw [byteAt_drop _ _ _ (by omega),Nat.add_comm 1 j] at this
    exact this
theorem rewr_cnt (a b:ByteArray) (k:Int):∀ x:Ex,∀ n lv:Int,(Ex.rewr a b k x).cnt n lv=x.cnt n lv:=by
 refine Ex.ind (fun x ih n lv=>?_)
 rw [Ex.cnt_eq,Ex.cnt_eq x,Ex.rewr_eq]
 have hL:∀ l:List Ex,(∀ z∈l,z∈x.args)→∀ n lv:Int,Ex.cntL (l.map (Ex.rewr a b k)) n lv=Ex.cntL l n lv:=by
  intro l
  induction l with
  | nil=>intro _ _ _;rfl
  | cons z l ihl=>
   intro h n lv
   rw [List.map_cons,Ex.cntL,Ex.cntL,ih z (h z (by simp))]
   cases z.cnt n lv with
   | mk c m=>cases c with
    | false=>rfl
    | true=>exact ihl (fun w hw=>h w (by simp [hw])) m lv
 show (bif _ then _ else Ex.cntL (x.args.map (Ex.rewr a b k)) (n+1) (lv+1))=_
 rw [hL x.args (fun z h=>h)]
theorem rewr_node (a b:ByteArray) (k:Int) (hb:isQuote b=true) (hk:0≤k) (hk2:k≤65535) (x:Ex) (hx:exNode x=true):exNode (Ex.rewr a b k x)=true:=by
 rw [Ex.rewr_eq]
 cases x with
 | mk o n u s l=>
  unfold exNode at hx ⊢
  simp only [Ex.op,Ex.n,Ex.unit,Ex.name,Ex.args,List.length_map] at hx ⊢
  by_cases h0:o=0
  · subst h0
    simp only [decide_true,cond_true,Bool.true_and,Bool.and_eq_true] at hx ⊢
    refine ⟨⟨⟨⟨?_,decide_eq_true hk⟩,decide_eq_true (by omega)⟩,hx.1.2⟩,hx.2⟩
    cases seq u a with
    | true=>exact hb
    | false=>exact hx.1.1.1.1
  · simp only [h0,decide_false,cond_false,Bool.false_and] at hx ⊢
    exact hx
theorem rewr_shaped (a b:ByteArray) (k:Int) (hb:isQuote b=true) (hk:0≤k) (hk2:k≤65535):∀ x:Ex,x.shaped=true→(Ex.rewr a b k x).shaped=true:=by
 refine Ex.ind (fun x ih hx=>?_)
 rw [Ex.shaped_eq,Bool.and_eq_true,List.all_eq_true] at hx
 rw [Ex.shaped_eq,Bool.and_eq_true,List.all_eq_true]
 refine ⟨rewr_node a b k hb hk hk2 x hx.1,fun y hy=>?_⟩
 rw [Ex.rewr_eq] at hy
 obtain ⟨z,hz,rfl⟩:=List.mem_map.1 hy
 exact ih z hz (hx.2 z hz)
theorem rewr_call (a b:ByteArray) (k:Int):∀ x:Ex,(Ex.rewr a b k x).hasCall=x.hasCall:=by
 refine Ex.ind (fun x ih=>?_)
 rw [Ex.hasCall_eq,Ex.hasCall_eq x,Ex.rewr_eq]
 congr 1
 show (x.args.map (Ex.rewr a b k)).any Ex.hasCall=_
 rw [List.any_map]
 refine Bool.eq_iff_iff.2 ?_
 simp only [List.any_eq_true,Function.comp]
 exact ⟨fun ⟨z,h1,h2⟩=>⟨z,h1,by rw [←ih z h1];exact h2⟩,fun ⟨z,h1,h2⟩=>⟨z,h1,by rw [ih z h1];exact h2⟩⟩
theorem rewr_ty (V T:List (ByteArray×Dm)) (a b:ByteArray) (k:Int) (ha:(uReadF a).2=0) (hb:(uReadF b).2=0) (hd:dmO (uReadF a).1=dmO (uReadF b).1):∀ x:Ex,(Ex.rewr a b k x).ty V T=x.ty V T:=by
 refine Ex.ind (fun x ih=>?_)
 rw [Ex.ty_eq,Ex.ty_eq V T x,Ex.rewr_eq]
 have hL:∀ l:List Ex,(∀ z∈l,z∈x.args)→Ex.tyL V T (l.map (Ex.rewr a b k))=Ex.tyL V T l:=by
  intro l
  induction l with
  | nil=>intro _;rfl
  | cons z l ihl=>
   intro h
   rw [List.map_cons,Ex.tyL,Ex.tyL,ih z (h z (by simp)),ihl (fun w hw=>h w (by simp [hw]))]
 have hleaf:leafF V (.mk x.op (bif decide (x.op=0) then k else x.n) (bif decide (x.op=0)&&seq x.unit a then b else x.unit) x.name (x.args.map (Ex.rewr a b k)))=leafF V x:=by
  unfold leafF
  show (bif decide (x.op=1) then _ else bif decide (¬(uReadF (bif decide (x.op=0)&&seq x.unit a then b else x.unit)).2=0) then _ else _)=_
  cases hc:(decide (x.op=0)&&seq x.unit a) with
  | false=>rfl
  | true=>
   rw [Bool.and_eq_true] at hc
   have e:=seq_eq hc.2
   rw [cond_true,e,ha,hb,hd]
   rfl
 show (bif decide (((x.args.map (Ex.rewr a b k)).length:Int)=0) then _ else match Ex.tyL V T (x.args.map (Ex.rewr a b k)) with | .inl e=>(Ty.zero,e) | .inr ts=>nodeF T x.op x.name ts)=_
 rw [List.length_map,hL x.args (fun z h=>h),hleaf]
 rfl
theorem lawUnits1 (x:Ex) (a b:ByteArray) (k:Int) (vs:List Vr) (ms:List Tb) (hk:0≤k) (hk2:k≤65535) (ha:(uReadF a).2=0) (hb:(uReadF b).2=0) (hd:dmO (uReadF a).1=dmO (uReadF b).1) (hx:exRight x=true) :
 ofF (Ex.rewr a b k x) vs ms=ofF x vs ms:=by
 have hz:exRight (Ex.rewr a b k x)=true:=by
  unfold exRight at hx ⊢
  rw [Bool.and_eq_true] at hx ⊢
  exact ⟨by rw [rewr_cnt];exact hx.1,rewr_shaped a b k (unit_plain hb) hk hk2 x hx.2⟩
 unfold ofF
 rw [hx,hz,rewr_call]
 cases readF vs ms with
 | none=>rfl
 | some p=>simp only;rw [rewr_ty p.1 p.2 a b k ha hb hd]
def Tb.bare (t:Tb):Tb:=⟨t.name,t.unit,[]⟩
theorem tb_bare {f:ByteArray→Int} {t:Tb} (h:tbRight f t=true):tbRight f t.bare=true:=by
 unfold tbRight at h ⊢
 simp only [Bool.and_eq_true] at h
 obtain ⟨⟨⟨h1,h2⟩,_⟩,_⟩:=h
 show (!decide (¬f t.unit=0)&&isName t.name&&!decide (100<(([]:List Rw).length:Int))&&rowsF [])=true
 rw [h1,h2];rfl
theorem rT_bare (V:List (ByteArray×Dm)):∀(ms:List Tb) (T U:List (ByteArray×Dm)),rT V T ms=some U→rT V T (ms.map Tb.bare)=some U
 | [],T,U,h=>h
 | t::ms,T,U,h=>by
  rw [rT] at h
  cases hb:((lookF V t.name).isSome||decide (¬(uReadF t.unit).2=0)||!tbRight (fun s=>(uReadF s).2) t||isWord t.name) with
  | true=>rw [hb] at h;cases h
  | false=>
   rw [hb,cond_false] at h
   rw [List.map_cons,rT]
   simp only [Bool.or_eq_false_iff,Bool.not_eq_false'] at hb
   have hc:((lookF V t.bare.name).isSome||decide (¬(uReadF t.bare.unit).2=0)||!tbRight (fun s=>(uReadF s).2) t.bare||isWord t.bare.name)=false:=by
    rw [tb_bare hb.1.2]
    show ((lookF V t.name).isSome||decide (¬(uReadF t.unit).2=0)||!true||isWord t.name)=false
    rw [hb.1.1.1,hb.1.1.2,hb.2];rfl
   rw [hc,cond_false]
   exact rT_bare V ms _ U h
theorem lawUnits2 (x:Ex) (vs:List Vr) (ms:List Tb) (h:(ofF x vs ms).2≠1):ofF x vs (ms.map Tb.bare)=ofF x vs ms:=by
 unfold ofF at h ⊢
 cases hc:(!exRight x||x.hasCall) with
 | true=>rfl
 | false=>
  rw [hc] at h
  simp only [cond_false] at h ⊢
  cases hr:readF vs ms with
  | none=>rw [hr] at h;exact absurd rfl h
  | some p=>
   have:readF vs (ms.map Tb.bare)=some p:=by
    unfold readF at hr ⊢
    cases hV:rV [] vs with
    | none=>rw [hV] at hr;cases hr
    | some V=>
     rw [hV] at hr
     simp only at hr ⊢
     cases hT:rT V [] ms with
     | none=>rw [hT] at hr;cases hr
     | some T=>
      rw [hT] at hr
      rw [rT_bare V ms [] T hT,List.length_map]
      exact hr
   rw [this]
end Go.Hp.T

namespace Go.Hp.T
open Go Go.RowKit Go.Slot Go.Hp Go.Slot.T
open Go.Proofs.Tryz (prog)
set_option maxRecDepth 10000
set_option maxHeartbeats 4000000
def tbZ (t:Tb):List Cell:=[cS t.name,cS t.unit,.zc]
theorem uz_tbZ (ms:List Tb):uz 2 (.sl 3 (ms.map tbZ))=.sl 3 ((ms.map Tb.bare).map Tb.C):=by
 rw [uz,uzLL_eq,List.map_map,List.map_map]
 refine congrArg _ (List.map_congr_left fun t _=>?_)
 simp only [Function.comp,tbZ,Tb.bare,Tb.C,uzL,uz,List.map_nil]
theorem CallsD.uzArg {Γ:List (Nat×List Cell)} {f:FuncId} {a b res:AV} {c:Cell} (k:Nat) (h:CallsD Γ prog f [a,b,.one (uz k c)] res):CallsD Γ prog f [a,b,.one c] res:=
 ⟨h.1,fun M w vs hM hg hr=>h.2 M w vs hM hg (by
  match vs,hr with
  | [v1,v2,v3],⟨h1,h2,h3,h4⟩=>exact ⟨h1,h2,RdC.uz k h3,h4⟩)⟩
theorem wUnits (x:Ex) (a b:ByteArray) (n:Int) (vs:List Vr) (ms:List Tb) (hx:x.Sm) (hz:(Ex.rewr a b n x).Sm) (ha:a.size≤1073741824) (hb:b.size≤1073741824) (hn:0≤n) (hn2:n≤65535) (hv:vs.length≤1073741824) (hm:ms.length≤1073741824) (hvn:∀ v∈vs,v.name.size≤1073741824) (hms:∀ t∈ms,t.Sm)
 (H1:(uReadF a).2=0→(uReadF b).2=0→dmO (uReadF a).1=dmO (uReadF b).1→exRight x=true→ofF (Ex.rewr a b n x) vs ms=ofF x vs ms)
 (H2:(ofF x vs ms).2≠1→ofF x vs (ms.map Tb.bare)=ofF x vs ms) :
 CallsD Gs prog 5 [.agg (exC x),.one (cS a),.one (cS b),.one (.raw (.int .u16 n)),.one (.sl 7 (vs.map Vr.C)),.one (.sl 3 (ms.map Tb.C))] (.one (cB true)):=by
 have s1:=cSane
 have f1:=rFew15 (Γ:=Gs) x hx vs ms hv hm
 have u1:=cUReadX (Γ:=Gs) a ha
 have u2:=cUReadX (Γ:=Gs) b hb
 have p1:=cRight (Γ:=Gs) x hx
 have p3:=cRewritten (Γ:=Gs) a b n x hx
 have o1:=cInferOf (Γ:=Gs) x vs ms hx hv hm hvn hms
 have o2:=cInferOf (Γ:=Gs) (Ex.rewr a b n x) vs ms hz hv hm hvn hms
 have o3:=cInferOf (Γ:=Gs) x vs (ms.map Tb.bare) hx hv (by simpa using hm) hvn (fun t ht=>by
  obtain ⟨t',h1,rfl⟩:=List.mem_map.1 ht
  exact ⟨(hms t' h1).n,(hms t' h1).u,by simp [Tb.bare]⟩)
 have o4:CallsD Gs prog 9 [.agg (exC x),.one (.sl 7 (vs.map Vr.C)),.one (.sl 3 (ms.map tbZ))] (tyR (ofF x vs (ms.map Tb.bare))):=CallsD.uzArg 2 (by rw [uz_tbZ];exact o3)
 clear o3
 generalize few15 x vs ms=b1 at f1
 generalize exRight x=e1 at p1 H1
 generalize Ex.rewr a b n x=z at p3 o2 H1 hz
 generalize ofF x vs ms=r1 at o1 H1 H2
 generalize ofF z vs ms=r2 at o2 H1
 generalize ofF x vs (ms.map Tb.bare)=r3 at o4 H2
 generalize uReadF a=ua at u1 H1
 generalize uReadF b=ub at u2 H1
 obtain ⟨ua,uae⟩:=ua
 obtain ⟨ub,ube⟩:=ub
 obtain ⟨r1t,r1e⟩:=r1
 obtain ⟨r2t,r2e⟩:=r2
 obtain ⟨r3t,r3e⟩:=r3
 simp only at H1 H2 u1 u2 o1 o2 o4
 clear hvn hms hz
 refine CallsD.run [] Go.Proofs.Tryz.func5 rfl rfl rfl ?_;simp only [Go.Proofs.Tryz.f5];refine hgR ?_
 repeat' ((first | refine hfk ?_ ?_<;>intros | refine hik ?_ | with_reducible first | refine hcall (s1) ?_ | refine hcalle (s1) ?_ | refine hcall (f1) ?_ | refine hcalle (f1) ?_ | refine hcall (u1) ?_ | refine hcalle (u1) ?_ | refine hcall (u2) ?_ | refine hcalle (u2) ?_ | refine hcall (p1) ?_ | refine hcalle (p1) ?_ | refine hcall (o1) ?_ | refine hcalle (o1) ?_ | refine hcall (p3) ?_ | refine hcalle (p3) ?_ | refine hcall (o2) ?_ | refine hcalle (o2) ?_)<;>refine hgS ?_)
 all_goals first
  | exact RLe.ofEq rfl
  | skip
 obtain ⟨rfl,rfl⟩:r1t=r2t∧r1e=r2e:=by
  have:=H1 (by omega) (by omega) (Decidable.not_not.1 (by assumption)) (by assumption)
  exact ⟨(congrArg Prod.fst this).symm,(congrArg Prod.snd this).symm⟩
 clear H1
 all_goals
  refine hloop [4,5,6,13,18,19,20,21] (fun n:Nat=>[(22,.one (.sl 5 3 0 n)),(23,.one (.dat (cI n)))])
   (fun n=>[.box ((exC x).map .dat) (some 24),.box ((unX ua).map .dat) (some 49),.box ((unX ub).map .dat) (some 49),.box ((tyC r1t).map .dat) (some 32),.box ((tyC r1t).map .dat) (some 32),.arr (.sl 3 ((ms.take n).map tbZ)) 0 (some 55)])
   (fun n=>n≤ms.length) (fun n=>ms.length-n) 0 (Nat.zero_le _) ?_ ?_
 · refine hg ?_
   refine StH.trans (StH.empty (d:=22) (es:=3) (c:=.sl 3 []) (T:=some 55) rfl rfl (fun r hr=>by cases hr) rfl) ?_
   refine hg ?_
   exact StH.same (by repeat' first | exact .nil | refine .cons (by first | exact .refl _ | exact .any _) ?_) rfl
 intro n hn
 have hlen:(ms.take n).length=n:=by rw [List.length_take];omega
 conv=>simp (maxSteps:=2000000) (disch:=omega) only [go_sem,Nat.reduceAdd,Nat.reduceSub,Nat.reduceMul,Int.reduceToNat,Nat.reduceEqDiff,Nat.reduceBEq,Nat.reduceBneDiff,Nat.reduceLT,Int.reduceEq,Int.reduceLT,Int.reduceLE,Int.reduceNeg,Int.reduceAdd,Int.reduceSub,Int.reduceMul,hlen]
 repeat' ((first | refine hfk ?_ ?_<;>intros | refine hik ?_ | with_reducible first | refine hcall (o4) ?_ | refine hcalle (o4) ?_)<;>refine hgS ?_)
 · have ht:(ms.take (n+1)).map tbZ=(ms.take n).map tbZ++[tbZ (ms.getD n default)]:=by
    rw [take_getD (by omega)]
    simp only [List.map_append,List.map_cons,List.map_nil]
   refine ⟨n+1,by omega,by omega,?_⟩
   conv=>simp (maxSteps:=2000000) (disch:=omega) only [go_sem,Nat.reduceAdd,Nat.reduceSub,Nat.reduceMul,Int.reduceToNat,Nat.reduceEqDiff,Nat.reduceBEq,Nat.reduceBneDiff,Nat.reduceLT,Int.reduceEq,Int.reduceLT,Int.reduceLE,Int.reduceNeg,Int.reduceAdd,Int.reduceSub,Int.reduceMul,List.length_append,List.length_map,hlen,List.length_singleton]
   refine StH.back [4,5,6,13,18,19,20,21,22,23] 5 6 6 rfl rfl rfl rfl rfl (by kernel_rfl) (StH.same (by repeat' first | exact .nil | refine .cons (by first | exact .refl _ | exact .any _) ?_) ?_)
   rw [ht]
   rfl
 · rw [List.take_of_length_le (by omega)]
   repeat' ((first | refine hfk ?_ ?_<;>intros | refine hik ?_ | with_reducible first | refine hcall (o4) ?_ | refine hcalle (o4) ?_)<;>refine hgS ?_)
   all_goals first
    | exact RLe.ofEq rfl
    | (refine RLe.ofEq ?_;simp_all;done)
    | (exfalso;simp_all;done)
end Go.Hp.T
