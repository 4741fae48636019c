import Derived.Test.YtpkininnjhbeaaaGreatDoorY28
import Derived.Test.YtpkininnjhbeaaaGreatDoorY24
namespace Go.Hp.T
open Go Go.RowKit Go.Slot Go.Hp Go.Slot.T
open Go.Proofs.Tryz (prog)
set_option maxRecDepth 10000
set_option maxHeartbeats 0
variable {Γ:List (Nat×List Cell)}
variable {f:FuncId} {F:List AV->AV->Prop}
def FF (B:Nat) (op:Fc->Fc->Fc) (e:Fc->Fc->Int) (args:List AV) (res:AV):Prop:=
 ∃ x y:Fc,x.sz<=B/\y.sz<=B/\args=[.agg x.C,.agg y.C]/\res=.tup [.agg (op x y).C,.one (.raw (.int .i64 (e x y)))]
theorem xr0 {M:Nat->Nat->Prop} {w:World} {v:Value} (hc:yss prog f) (hF:∀ args res,F args res->CallsD Γ prog f args res) (h:RdC M w v (.raw (.func (.func f) #[] #[]))):RdC M w v (.fnp (zw4 Γ prog F)):=by
 have e:=RdC.x18 h;subst e;exact RdC.fnp rfl (fun M' w' hk=>⟨f,#[],rfl,hc,fun args res vs hres hb hgl hrd=>by simpa using (hF args res hres).2 M' w' vs hb hgl hrd⟩)
theorem CallsD.fn2 {g:FuncId} {a b res:AV} (h:CallsD Γ prog f [a,b,.one (.fnp (zw4 Γ prog F))] res) (hc:yss prog g) (hF:∀ args res,F args res->CallsD Γ prog g args res) :
 CallsD Γ prog f [a,b,.one (.raw (.func (.func g) #[] #[]))] res:=
 ⟨h.1,fun M w vs hM hgl hr=>h.2 M w vs hM hgl (by
  match vs,hr with
  | [u,v,x],hr=>exact ⟨hr.1,hr.2.1,xr0 hc hF hr.2.2.1,trivial⟩)⟩
theorem vnn {op:Fc->Fc->Fc} {l m:List Fc} {i:Nat} (h1:i<l.length) (h2:i<m.length) :
 (List.zipWith op (l.take i) (m.take i)).map Fc.C++[(op (l.getD i Fc.zero) (m.getD i Fc.zero)).C]=(List.zipWith op (l.take (i+1)) (m.take (i+1))).map Fc.C:=by
 have e1:l.take (i+1)=l.take i++[l.getD i Fc.zero]:=by rw [List.take_add_one];simp [h1]
 have e2:m.take (i+1)=m.take i++[m.getD i Fc.zero]:=by rw [List.take_add_one];simp [h2]
 rw [e1,e2,List.zipWith_append (by simp;omega)];simp
def eaB (op:Fc->Fc->Fc) (a b:Af):Nat->List SB
 | 0=>[.box (a.C.map .dat) (some 36),.box (b.C.map .dat) (some 36),.box [.dat (cI 0),.dat .zc,.dat (cI 0),.dat .zc,.dat .zc] (some 36),.box [.dat (.raw (.int .i64 (op a.c b.c).s)),.dat (.ints .i64 (op a.c b.c).L),.dat (.raw (.int .i64 (op a.c b.c).t)),.dat (.ints .i64 (op a.c b.c).M),.dat .zc] (some 36)]
 | n+1=>[.box (a.C.map .dat) (some 36),.box (b.C.map .dat) (some 36),.box [.dat (cI 0),.dat .zc,.dat (cI 0),.dat .zc,.dat .zc] (some 36),.box [.dat (.raw (.int .i64 (op a.c b.c).s)),.dat (.ints .i64 (op a.c b.c).L),.dat (.raw (.int .i64 (op a.c b.c).t)),.dat (.ints .i64 (op a.c b.c).M),.sl 4 4 0 (n+1)] (some 36),.arr (.sl 4 ((List.zipWith op (a.l.take (n+1)) (b.l.take (n+1))).map Fc.C)) 0 (some 33)]
theorem ylz (B:Nat) (op:Fc->Fc->Fc) (e:Fc->Fc->Int) (a b:Af) (hl:a.l.length<=b.l.length) (hb:a.l.length<=1048576) (ha:a.le B) (hbb:b.le B) :
 CallsD Γ prog 44 [.agg a.C,.agg b.C,.one (.fnp (zw4 Γ prog (FF B op e)))] (.agg (Af.each op a b).C):=by
 have body:∀ i,i<a.l.length->FF B op e [.agg (a.l.getD i Fc.zero).C,.agg (b.l.getD i Fc.zero).C] (.tup [.agg (op (a.l.getD i Fc.zero) (b.l.getD i Fc.zero)).C,.one (.raw (.int .i64 (e (a.l.getD i Fc.zero) (b.l.getD i Fc.zero))))]):=fun i h=>
  ⟨_,_,zmm ha.2 h,zmm hbb.2 (by omega),rfl,rfl⟩
 have fin:List.zipWith op (a.l.take a.l.length) (b.l.take a.l.length)=List.zipWith op a.l b.l:=by
  rw [List.take_length]
  conv=>rhs;rw [List.zipWith_eq_zipWith_take_min]
  rw [Nat.min_eq_left hl,List.take_length]
 refine CallsD.run [] Go.Proofs.Tryz.func44 rfl rfl rfl ?_;simp only [Go.Proofs.Tryz.f44];refine hgR ?_;refine hfn (F:=FF B op e) ⟨a.c,b.c,ha.1,hbb.1,rfl,rfl⟩ ?_;refine hg ?_
 repeat' ((first | refine hfk ?_ ?_<;>intros | refine hik ?_)<;>refine hgS ?_)
 refine x20 [2,3,4,6,7,23,24] (fun i:Nat=>[(25,.one (.dat (cI (i))))]) (eaB op a b)
  (fun i=>i<=a.l.length) (fun i=>a.l.length-i) 0 (Nat.zero_le _) ?_ ?_
 . refine hg ?_;exact StH.same svl rfl
 intro i hi
 rcases i with _ | i
 . simp only [eaB];refine hg ?_;refine vt2 (fun h _=>?_) (fun h _=>?_)
   . have hsn:=vnn (op:=op) (l:=a.l) (m:=b.l) (i:=0) (by omega) (by omega);simp only [List.take_zero,List.zipWith_nil_left,List.map_nil,List.nil_append] at hsn;refine hg ?_;refine hfn (F:=FF B op e) (body 0 (by omega)) ?_;refine hg ?_
     repeat' ((first | refine hfk ?_ ?_<;>intros | refine hik ?_)<;>refine hgS ?_)
     refine ⟨1,by omega,by omega,?_⟩;simp only;rw [<-hsn];exact StH.back [2,3,4,6,7,23,24,25] 4 6 5 rfl rfl rfl rfl rfl (by kernel_rfl) (StH.same svl rfl)
   . have h0:a.l=[]:=List.eq_nil_of_length_eq_zero (by omega);refine hg ?_;unfold Af.each;rw [h0];exact .one (.agg (.cons (.refl _) (.cons (.refl _) (.cons (.refl _) (.cons (.refl _) (.cons (.zcSl _) .nil))))))
 . simp only [eaB]
   have hz:(List.zipWith op (a.l.take (i+1)) (b.l.take (i+1))).length=i+1:=by simp;omega
   refine hg1 @hz ?_;refine vt2 (fun h _=>?_) (fun h _=>?_)
   . have hsn:=vnn (op:=op) (l:=a.l) (m:=b.l) (i:=i+1) (by omega) (by omega);refine hg1 @hz ?_;refine hfn (F:=FF B op e) (body (i+1) (by omega)) ?_;refine hg1 @hz ?_
     repeat' ((first | refine hfk ?_ ?_<;>intros | refine hik ?_)<;>refine hgS ?_)
     refine ⟨i+1+1,by omega,by omega,?_⟩;simp only;rw [<-hsn];refine StH.back [2,3,4,6,7,23,24,25] 4 7 5 rfl rfl rfl rfl rfl (by kernel_rfl) (StH.same svl ?_);simp only [List.length_append,List.length_map,List.length_singleton,hz];rfl
   . have e1:i+1=a.l.length:=by omega
     refine hg1 @hz ?_;unfold Af.each;rw [<-fin,e1];exact RLe.ofEq rfl
theorem z8v:AV.Le (.agg [.raw (.int .i64 0),.zc,.raw (.int .i64 0),.zc,.zc]) (.agg Af.zero.C):=
 .agg (.cons (.refl _) (.cons (.zuc _) (.cons (.refl _) (.cons (.zuc _) (.cons (.zcSl _) .nil)))))
abbrev frB (f:Fc):SB:=.box (f.C.map .dat) (some 33)
theorem xyo (x y f:Fc) (hx:x.sz<=67108864) (hf:f.sz<=67108864) :
 xpp Γ prog 45 [frB f] [.agg (x.C.map .dat),.agg (y.C.map .dat),.one (.ptr 0 0)] [frB f] (.tup [.agg ((Fc.mul x f).C.map .dat),.one (.dat (.raw (.int .i64 (Fc.er (x.ok/\f.ok)))))]):=by
 have h:=zu5 (Γ:=Γ) x f hx hf;generalize Fc.mul x f=m at h ⊢;simp only [Fc.C_eq] at h;refine xpp.run [] Go.Proofs.Tryz.func45 rfl rfl ?_;simp only [Go.Proofs.Tryz.f45];refine hgR ?_
 repeat' ((first | refine hfk ?_ ?_<;>intros | refine hik ?_ | with_reducible first | refine hcA ?_ | refine hcB ?_)<;>refine hgS ?_)
 exact StH.vzq rfl (by kernel_rfl) rfl
def etB (a:Af) (f:Fc):Nat->List SB
 | 0=>[frB f,.clo 45 [.one (.ptr 0 0)],.box (a.C.map .dat) (some 36),.box (a.C.map .dat) (some 36),.box [.dat (cI 0),.dat .zc,.dat (cI 0),.dat .zc,.dat .zc] (some 36),.box [.dat (.raw (.int .i64 (Fc.mul a.c f).s)),.dat (.ints .i64 (Fc.mul a.c f).L),.dat (.raw (.int .i64 (Fc.mul a.c f).t)),.dat (.ints .i64 (Fc.mul a.c f).M),.dat .zc] (some 36)]
 | n+1=>[frB f,.clo 45 [.one (.ptr 0 0)],.box (a.C.map .dat) (some 36),.box (a.C.map .dat) (some 36),.box [.dat (cI 0),.dat .zc,.dat (cI 0),.dat .zc,.dat .zc] (some 36),.box [.dat (.raw (.int .i64 (Fc.mul a.c f).s)),.dat (.ints .i64 (Fc.mul a.c f).L),.dat (.raw (.int .i64 (Fc.mul a.c f).t)),.dat (.ints .i64 (Fc.mul a.c f).M),.sl 6 4 0 (n+1)] (some 36),.arr (.sl 4 (((a.l.take (n+1)).map fun x=>Fc.mul x f).map Fc.C)) 0 (some 33)]
theorem wv1 (a:Af) (f:Fc):Af.each (fun x _=>Fc.mul x f) a a=⟨Fc.mul a.c f,a.l.map fun x=>Fc.mul x f⟩:=by
 unfold Af.each
 congr 1
 generalize a.l=l
 induction l with
 | nil=>rfl
 | cons x l ih=>rw [List.zipWith_cons_cons,List.map_cons,ih]
theorem v7o (a:Af) (f:Fc) (hb:a.l.length<=1048576) (ha:a.le 67108864) (hf:f.sz<=67108864) :
 xpp Γ prog 44 [frB f,.clo 45 [.one (.ptr 0 0)]] [.agg (a.C.map .dat),.agg (a.C.map .dat),.one (.fnr 1)] [frB f,.clo 45 [.one (.ptr 0 0)]] (.agg ((Af.each (fun x _=>Fc.mul x f) a a).C.map .dat)):=by
 have hfx:∀ r:Nat->Nat,[frB f].map (rnSB r)=[frB f]:=fun r=>rfl
 have h0:=xyo (Γ:=Γ) a.c a.c f ha.1 hf
 have body:∀ i,i<a.l.length->xpp Γ prog 45 [frB f] [.agg ((a.l.getD i Fc.zero).C.map .dat),.agg ((a.l.getD i Fc.zero).C.map .dat),.one (.ptr 0 0)] [frB f] (.tup [.agg ((Fc.mul (a.l.getD i Fc.zero) f).C.map .dat),.one (.dat (.raw (.int .i64 (Fc.er ((a.l.getD i Fc.zero).ok/\f.ok)))))]):=fun i h=>
  xyo _ _ f (zmm ha.2 h) hf
 rw [wv1];refine xpp.run [] Go.Proofs.Tryz.func44 rfl rfl ?_;simp only [Go.Proofs.Tryz.f44];refine hgR ?_
 repeat' ((first | refine hfk ?_ ?_<;>intros | refine hik ?_)<;>refine hgS ?_)
 refine x6x (xpp.pre h0 hfx rfl rfl) ?_;refine hg ?_
 repeat' ((first | refine hfk ?_ ?_<;>intros | refine hik ?_)<;>refine hgS ?_)
 refine x20 [2,3,4,6,7,23,24] (fun i:Nat=>[(25,.one (.dat (cI (i))))]) (etB a f)
  (fun i=>i<=a.l.length) (fun i=>a.l.length-i) 0 (Nat.zero_le _) ?_ ?_
 . refine hg ?_;exact StH.same svl rfl
 intro i hi
 rcases i with _ | i
 . simp only [etB];refine hg ?_;refine vt2 (fun h _=>?_) (fun h _=>?_)
   . have hsn:[(Fc.mul (a.l.getD 0 Fc.zero) f).C]=((a.l.take (0+1)).map fun x=>Fc.mul x f).map Fc.C:=by
      rw [List.take_add_one];simp [show 0<a.l.length by omega]
     have b0:=body 0 (by omega);clear body;refine hg ?_
     repeat' ((first | refine hfk ?_ ?_<;>intros | refine hik ?_)<;>refine hgS ?_)
     refine xhw 2 (fun ξ=>xpp.pre (ξ:=SB.clo 45 [.one (.ptr 0 0)]::ξ) b0 hfx rfl rfl) rfl rfl ?_;refine hg ?_
     repeat' ((first | refine hfk ?_ ?_<;>intros | refine hik ?_)<;>refine hgS ?_)
     refine ⟨1,by omega,by omega,?_⟩;simp only;rw [<-hsn];exact StH.z04 [2,3,4,6,7,23,24,25] 6 8 7 rfl rfl rfl rfl rfl rfl rfl (by kernel_rfl) (StH.same svl rfl)
   . have h0:a.l=[]:=List.eq_nil_of_length_eq_zero (by omega);refine hg ?_;rw [h0];exact StH.trans (StH.vzq rfl (by kernel_rfl) rfl) (StH.agg1 (.agg (.cons (.refl _) (.cons (.refl _) (.cons (.refl _) (.cons (.refl _) (.cons (.dat (.zcSl _)) .nil)))))))
 . simp only [etB]
   have hz:(a.l.take (i+1)).length=i+1:=by simp;omega
   refine hg1 @hz ?_;refine vt2 (fun h _=>?_) (fun h _=>?_)
   . have hsn:((a.l.take (i+1)).map fun x=>Fc.mul x f).map Fc.C++[(Fc.mul (a.l.getD (i+1) Fc.zero) f).C]=((a.l.take (i+1+1)).map fun x=>Fc.mul x f).map Fc.C:=by
      rw [show a.l.take (i+1+1)=a.l.take (i+1)++[a.l.getD (i+1) Fc.zero] by rw [List.take_add_one (i:=i+1)];simp [show i+1<a.l.length by omega],List.map_append,List.map_append];rfl
     have b0:=body (i+1) (by omega);clear body;refine hg1 @hz ?_
     repeat' ((first | refine hfk ?_ ?_<;>intros | refine hik ?_)<;>refine hgS ?_)
     refine xhw 2 (fun ξ=>xpp.pre (ξ:=SB.clo 45 [.one (.ptr 0 0)]::ξ) b0 hfx rfl rfl) rfl rfl ?_;refine hg1 @hz ?_
     repeat' ((first | refine hfk ?_ ?_<;>intros | refine hik ?_)<;>refine hgS ?_)
     refine ⟨i+1+1,by omega,by omega,?_⟩;simp only;rw [<-hsn];refine StH.z04 [2,3,4,6,7,23,24,25] 6 9 7 rfl rfl rfl rfl rfl rfl rfl (by kernel_rfl) (StH.same svl ?_);simp only [List.length_append,List.length_map,List.length_singleton,hz];rfl
   . have e1:i+1=a.l.length:=by omega
     have e2:a.l.take (i+1)=a.l:=by rw [e1,List.take_length]
     refine hg1 @hz ?_;rw [e2];refine StH.yww (av:=.agg (Af.C ⟨Fc.mul a.c f,a.l.map fun x=>Fc.mul x f⟩)) (bs:=[6]) ?_ rfl (fun l h=>by cases h) (fun l h=>by cases h) rfl rfl rfl;simp [zfb,argD,w8n,zyf,gB,Cell.esz,Cell.cnt,subC,e1];rw [Af.C_eq,List.map_map]
theorem zy8 (a:Af) (f:Fc) (la:a.l.length<=1048576) (ha:a.le 67108864) (hf:f.sz<=67108864) :
 CallsD Γ prog 13 [.agg a.C,.agg f.C] (.tup [.agg (Af.times a f).C,.one (.raw (.int .i64 (Fc.er (a.ok a.l.length/\f.ok))))]):=by
 have hra:=v1n (Γ:=Γ) a a.l.length la ha;have hw:=xam (Γ:=Γ) f hf;simp only [Af.C_eq] at hra;simp only [Fc.C_eq] at hw;by_cases h1:a.ok a.l.length
 . rw [decide_eq_true h1] at hra;by_cases h2:f.ok
   . rw [decide_eq_true h2] at hw;rw [Fc.wop ⟨h1,h2⟩,show Af.times a f=Af.each (fun x _=>Fc.mul x f) a a from if_pos ⟨h1,h2⟩];have hE:=v7o (Γ:=Γ) a f la ha hf;generalize Af.each (fun x _=>Fc.mul x f) a a=R at hE ⊢;have hE:xpp Γ prog 44 [.box [.dat (.raw (.int .i64 f.s)),.dat (.ints .i64 f.L),.dat (.raw (.int .i64 f.t)),.dat (.ints .i64 f.M)] (some 33),.clo 45 [.one (.ptr 0 0)]] _ _ _:=hE;refine CallsD.run [(3,[.clo])] Go.Proofs.Tryz.func13 rfl rfl rfl ?_;simp only [Go.Proofs.Tryz.f13];refine hgR ?_
     repeat' ((first | refine hfk ?_ ?_<;>intros | refine hik ?_ | with_reducible first | refine hcA ?_ | refine hcB ?_)<;>refine hgS ?_)
     refine vvn [1,3] hE rfl (by decide) rfl rfl rfl ?_;refine hg ?_
     repeat' ((first | refine hfk ?_ ?_<;>intros | refine hik ?_)<;>refine hgS ?_)
     exact RLe.ofEq rfl
   . rw [decide_eq_false h2] at hw;rw [Fc.w7p (fun h=>h2 h.2),show Af.times a f=Af.zero from if_neg (fun h=>h2 h.2)];refine CallsD.run [] Go.Proofs.Tryz.func13 rfl rfl rfl ?_;simp only [Go.Proofs.Tryz.f13];refine hgR ?_
     repeat' ((first | refine hfk ?_ ?_<;>intros | refine hik ?_ | with_reducible first | refine hcA ?_ | refine hcB ?_)<;>refine hgS ?_)
     exact (.tup (.cons z8v (.cons (.refl _) .nil)))
 . rw [decide_eq_false h1] at hra;rw [Fc.w7p (fun h=>h1 h.1),show Af.times a f=Af.zero from if_neg (fun h=>h1 h.1)];refine CallsD.run [] Go.Proofs.Tryz.func13 rfl rfl rfl ?_;simp only [Go.Proofs.Tryz.f13];refine hgR ?_
   repeat' ((first | refine hfk ?_ ?_<;>intros | refine hik ?_ | with_reducible first | refine hcA ?_ | refine hcB ?_)<;>refine hgS ?_)
   exact (.tup (.cons z8v (.cons (.refl _) .nil)))
end Go.Hp.T
namespace Go.Hp.T
open Go Go.RowKit Go.Slot Go.Hp Go.Slot.T
open Go.Proofs.Tryz (prog)
set_option maxRecDepth 10000
set_option maxHeartbeats 0
variable {Γ:List (Nat×List Cell)}
theorem wuc (x:Dm):CallsD Γ prog 160 [.agg (dmC x)] (.one (cB (ytl x))):=by
 refine CallsD.run [] Go.Proofs.Tryz.func160 rfl rfl rfl ?_;simp only [Go.Proofs.Tryz.f160];refine hgR ?_
 repeat' ((first | refine hfk ?_ ?_<;>intros | refine hik ?_ | with_reducible refine v6k ?_ | with_reducible refine yp8 ?_)<;>refine hgS ?_)
 all_goals refine lf2 @ytl.eq_def @bad9.eq_def ?_;first | exact trivial | rfl
theorem zbx (c:Int):CallsD Γ prog 140 [.one (c8 c)] (.one (cB (wxl c))):=by
 refine CallsD.run [] Go.Proofs.Tryz.func140 rfl rfl rfl ?_;simp only [Go.Proofs.Tryz.f140];refine hgR ?_
 repeat' ((first | refine hfk ?_ ?_<;>intros | refine hik ?_)<;>refine hgS ?_)
 all_goals refine lf1 @wxl.eq_def ?_;first | exact trivial | rfl
theorem xzs (c:Int):CallsD Γ prog 198 [.one (c8 c)] (.one (cB (isDigit c))):=by
 refine CallsD.run [] Go.Proofs.Tryz.func198 rfl rfl rfl ?_;simp only [Go.Proofs.Tryz.f198];refine hgR ?_
 repeat' ((first | refine hfk ?_ ?_<;>intros | refine hik ?_)<;>refine hgS ?_)
 all_goals refine lf1 @isDigit.eq_def ?_;first | exact trivial | rfl
theorem ywf (c:Int):CallsD Γ prog 236 [.one (c8 c)] (.one (cB (xtc c))):=by
 refine CallsD.run [] Go.Proofs.Tryz.func236 rfl rfl rfl ?_;simp only [Go.Proofs.Tryz.f236];refine hgR ?_
 repeat' ((first | refine hfk ?_ ?_<;>intros | refine hik ?_)<;>refine hgS ?_)
 all_goals refine lf1 @xtc.eq_def ?_;first | exact trivial | rfl
theorem w8o (c:Int):CallsD Γ prog 142 [.one (c8 c)] (.one (cB (xic c))):=by
 refine CallsD.run [] Go.Proofs.Tryz.func142 rfl rfl rfl ?_;simp only [Go.Proofs.Tryz.f142];refine hgR ?_
 repeat' ((first | refine hfk ?_ ?_<;>intros | refine hik ?_ | with_reducible first | refine wml (zbx _) ?_ | refine ysj (zbx _) ?_ | refine wml (xzs _) ?_ | refine ysj (xzs _) ?_)<;>refine hgS ?_)
 all_goals refine lf1 @xic.eq_def ?_;first | exact trivial | rfl
theorem vtn (s:ByteArray) (f:FuncId) (p:Int->Bool) (hs:s.size<=1099511627776) (h:∀ c,CallsD Γ prog f [.one (c8 c)] (.one (cB (p c)))):CallsD Γ prog 141 [.one (cS s),fN f] (.one (cI (xg6 p s))):=by
 refine CallsD.run [] Go.Proofs.Tryz.func141 rfl rfl rfl ?_;simp only [Go.Proofs.Tryz.f141];refine hgR ?_;refine x20 [0,1] (fun n:Nat=>[(5,.one (.dat (cI n)))]) (fun _=>[]) (fun n=>n<=s.size/\∀ j,j<n->p (yuk s j)=true) (fun n=>s.size-n) 0 ⟨Nat.zero_le _,fun j hj=>by omega⟩ ?_ ?_
 . refine hg ?_;exact StH.zri (by repeat' first | exact .nil | refine .cons (by first | exact .refl _ | exact .any _) ?_)
 intro n hn;obtain ⟨hn,hj⟩:=hn;refine hg ?_
 repeat' ((first | refine hfk ?_ ?_<;>intros | refine hik ?_ | with_reducible first | refine wml (h _) ?_ | refine ysj (h _) ?_)<;>refine hgS ?_)
 . rename_i h1;refine ⟨n+1,⟨by omega,fun j hj'=>?_⟩,by omega,by exact StH.zri (by repeat' first | exact .nil | refine .cons (by first | exact .refl _ | exact .any _) ?_)⟩
   rcases Nat.lt_or_eq_of_le (Nat.le_of_lt_succ hj') with h2 | h2
   . exact hj j h2
   . rw [h2];exact h1
 . rename_i h1;rw [yxq hn hj (.inr h1)];exact RLe.ofEq rfl
 . rw [yxq hn hj (.inl (by omega))];exact RLe.ofEq rfl
theorem vfk (s:ByteArray) (hs:s.size<=1099511627776):CallsD Γ prog 78 [.one (cS s)] (.one (cB (isName s))):=by
 refine CallsD.run [] Go.Proofs.Tryz.func78 rfl rfl rfl ?_;simp only [Go.Proofs.Tryz.f78];refine hgR ?_
 repeat' ((first | refine hfk ?_ ?_<;>intros | refine hik ?_ | with_reducible first | refine wml (zbx _) ?_ | refine ysj (zbx _) ?_ | refine wml (vtn s _ _ hs w8o) ?_ | refine ysj (vtn s _ _ hs w8o) ?_)<;>refine hgS ?_)
 all_goals refine lf1 @isName.eq_def ?_;first | exact trivial | rfl
abbrev bldB (n:Nat):SB:=.box [.ptr 0 0,.sl 1 1 0 n] (some 212)
abbrev bldA (l:List Int):SB:=.arr (.ints .u8 l) 0 (some 5)
theorem ybv:liesAt prog prog.depth 212 (2 / prog.cellsOf 212) 0 212 1=true:=by kernel_rfl
theorem coU8:prog.cellsOf 5=1:=by kernel_rfl
attribute [go_sem] ybv coU8
theorem wy8 (x:HC):xpp Γ prog 225 [.box [.dat (.raw (.pointer none)),x] (some 212)] [.one (.ptr 0 0)] [.box [.ptr 0 0,x] (some 212)] (.tup []):=by
 refine xpp.run [] Go.Proofs.Tryz.func225 rfl rfl ?_;simp only [Go.Proofs.Tryz.f225];refine hgR ?_;exact StH.refl
theorem zcd (x:HC) (T:Option TypeId) (y:SB):xpp Γ prog 225 [.box [.ptr 0 0,x] T,y] [.one (.ptr 0 0)] [.box [.ptr 0 0,x] T,y] (.tup []):=by
 refine xpp.run [] Go.Proofs.Tryz.func225 rfl rfl ?_;simp only [Go.Proofs.Tryz.f225];refine hgR ?_;exact StH.refl
theorem y47 (c:Int):xpp Γ prog 260 [.box [.dat (.raw (.pointer none)),.dat .zc] (some 212)] [.one (.ptr 0 0),.one (.dat (c8 c))] [bldB 1,bldA [c]] (.one (.dat (.raw .nilIface))):=by
 refine xpp.run [] Go.Proofs.Tryz.func260 rfl rfl ?_;simp only [Go.Proofs.Tryz.f260];refine hgR ?_;refine x6x (wy8 _) ?_;refine hg ?_;exact StH.refl
theorem wmx (l:List Int) (c:Int) (hl:l.length<=68719476736):xpp Γ prog 260 [bldB l.length,bldA l] [.one (.ptr 0 0),.one (.dat (c8 c))] [.box [.ptr 0 0,.sl 2 1 0 (l++[c]).length] (some 212),.dead,bldA (l++[c])] (.one (.dat (.raw .nilIface))):=by
 refine xpp.run [] Go.Proofs.Tryz.func260 rfl rfl ?_;simp only [Go.Proofs.Tryz.f260];refine hgR ?_;refine x6x (zcd _ _ _) ?_;refine hg ?_;exact StH.refl
theorem z7a (l:List Int) (hl:l.all x7g=true) (h0:0<l.length) (h1:l.length<=1099511627776):xpp Γ prog 188 [bldB l.length,bldA l] [.one (.ptr 0 0)] [bldB l.length,.dead] (.one (.dat (cS (strOfNums l)))):=by
 refine xpp.run [] Go.Proofs.Tryz.func188 rfl rfl ?_;simp only [Go.Proofs.Tryz.f188];refine hgR ?_
 conv=>simp (maxSteps:=2000000) (disch:=omega) only [go_sem,Nat.reduceAdd,Nat.reduceSub,Nat.reduceMul,Int.reduceToNat,Nat.reduceEqDiff,Nat.reduceBEq,Nat.reduceBneDiff,Nat.reduceLT,Int.reduceEq,Int.reduceLT,Int.reduceLE,Int.reduceNeg,Int.reduceAdd,Int.reduceSub,Int.reduceMul,hl,h0,true_and,show l.length<=9223372036854775807 from by omega]
 repeat' ((first | refine hfk ?_ ?_<;>intros | refine hik ?_)<;>refine hgS ?_)
 exact StH.refl
theorem vq3 (s:ByteArray) (hs:s.size<=1073741824):CallsD Γ prog 237 [.one (cS s)] (.one (cS (escS s))):=by
 refine CallsD.run [] Go.Proofs.Tryz.func237 rfl rfl rfl ?_;simp only [Go.Proofs.Tryz.f237];refine hgR ?_;refine x6x (y47 _) ?_;refine hg ?_;refine x20 [0,2,3,7] (fun i:Nat=>[(8,.one (.dat (cI i)))]) (fun i=>[bldB (escA s i).length,bldA (escA s i)]) (fun i=>i<=s.size) (fun i=>s.size-i) 0 (Nat.zero_le _) ?_ ?_
 . refine hg ?_;exact StH.same svl rfl
 intro i hi;have hlen:=y0a s i;refine hg ?_
 have two:∀ c,(c=34\/c=92)->i<s.size->yuk s i=c->escA s (i+1)=escA s i++[92]++[c]:=fun c h hi h2=>by
  rw [zh2 hi,List.append_assoc,h2];rcases h with h | h<;>rw [h]<;>rfl
 repeat' ((first | refine hfk ?_ ?_<;>intros | refine hik ?_)<;>refine hgS ?_)
 . rename_i h _;refine x6x (wmx _ _ (by omega)) ?_;refine hgS ?_;refine vvn [0,2] (wmx (escA s i++[92]) _ (by simp only [List.length_append,List.length_singleton];omega)) rfl (by decide) rfl rfl rfl ?_;refine hgS ?_;rw [<-two 92 (.inr rfl) (by omega) h];refine ⟨i+1,by omega,by omega,StH.back [0,2,3,7,8] 1 3 2 rfl rfl rfl rfl rfl (by kernel_rfl) ?_⟩;refine hg ?_;exact StH.same svl rfl
 . rename_i h1 _ h2 _ h3 _;refine x6x (wmx _ _ (by omega)) ?_;refine hgS ?_
   have one:escA s i++[yuk s i]=escA s (i+1):=by
    rw [zh2 (by omega)];unfold escB;rw [decide_eq_false h2,decide_eq_false h3];rfl
   rw [one];refine ⟨i+1,by omega,by omega,StH.back [0,2,3,7,8] 1 2 2 rfl rfl rfl rfl rfl (by kernel_rfl) ?_⟩;refine hg ?_;exact StH.same svl rfl
 . rename_i h _;refine x6x (wmx _ _ (by omega)) ?_;refine hgS ?_;refine vvn [0,2] (wmx (escA s i++[92]) _ (by simp only [List.length_append,List.length_singleton];omega)) rfl (by decide) rfl rfl rfl ?_;refine hgS ?_;rw [<-two 34 (.inl rfl) (by omega) h];refine ⟨i+1,by omega,by omega,StH.back [0,2,3,7,8] 1 3 2 rfl rfl rfl rfl rfl (by kernel_rfl) ?_⟩;refine hg ?_;exact StH.same svl rfl
 . have e:i=s.size:=by omega
   subst e;refine x6x (wmx _ _ (by omega)) ?_;refine hg ?_;refine vvn [0,2] (z7a (escA s s.size++[34]) (by rw [List.all_append,ybn];rfl) (by simp) (by simp only [List.length_append,List.length_singleton];omega)) rfl (by decide) rfl rfl rfl ?_;refine hg ?_;exact RLe.ofEq rfl
theorem yk6 (s:ByteArray) (hs:s.size<=1073741824):∃ t,CallsD Γ prog 195 [.one (cS s)] (.tup [.one (cS t),.one (cB (yn7 s))]):=by
 refine ⟨bif yn7 s then escS s else ⟨#[]⟩,?_⟩;refine CallsD.run [] Go.Proofs.Tryz.func195 rfl rfl rfl ?_;simp only [Go.Proofs.Tryz.f195];refine hgR ?_
 repeat' ((first | refine hfk ?_ ?_<;>intros | refine hik ?_ | with_reducible first | refine wml (vtn s _ _ (by omega) ywf) ?_ | refine ysj (vtn s _ _ (by omega) ywf) ?_ | refine wml (vq3 s hs) ?_ | refine ysj (vq3 s hs) ?_)<;>refine hgS ?_)
 all_goals refine lf1 @yn7.eq_def ?_;first | exact trivial | rfl
abbrev zC (z:Int):List Cell:=[.raw (.int .i64 (sg z)),.ints .i64 (dig z.natAbs)]
theorem zhe (z:Int) (d:Nat) (hz:okZ z) (hd:d≠0) (hl:(dig d).length<=268435456):CallsD Γ prog 55 [.agg (zC z),.agg (zC d)] (.tup [.agg (Fc.of (Rat.divInt z d)).C,.one (cI 0)]):=by
 have:=toD (Γ:=Γ) (w2g z d hz hd hl)
 rw [Rat.divInt_ofNat];unfold zC;rw [zy9 hd];exact this
theorem ykb (z:Int) (d:Nat) (hz:okZ z) (hd:d≠0) (hl:(dig d).length<=268435456):CallsD Γ prog 55 [.agg (zC z),.agg (zC (-(d:Int)))] (.tup [.agg (Fc.of (Rat.divInt z (-(d:Int)))).C,.one (cI 0)]):=by
 have hdd:okZ (-(d:Int)):=by unfold okZ;rw [show (-(d:Int)).natAbs=d by omega];exact hl
 have hzz:okZ (-z):=by unfold okZ at hz ⊢;rw [Int.natAbs_neg];exact hz
 have hdz:okZ (d:Int):=hl;have hs:sg (-(d:Int)) = -1:=xk9 (by omega);have hgp:0<(Int.gcd (-z) d:Int):=(ygp (-z) hd).2.2;obtain ⟨p1,p2,p3⟩:=ygp (-z) hd;have hden:=vn2 (mkRat (-z) d);rw [p2] at hden
 have hgl:okZ (Int.gcd (-z) d:Int):=by
  have:(Int.gcd (-z) d:Int).natAbs<=d:=by
   have:Int.gcd (-z) d ∣ d:=by have:=Int.gcd_dvd_natAbs_right (-z) d;simpa using this
   exact Nat.le_of_dvd (Nat.pos_of_ne_zero hd) this
  exact Nat.le_trans (xax this) hl
 have hn1:=zc3 (Γ:=Γ) z hz;have hn2:=zc3 (Γ:=Γ) (-(d:Int)) hdd;rw [Int.neg_neg,hs,zy9 hd] at hn2;have hr:=xt7 (Γ:=Γ) (-(d:Int)) hdd;rw [hs] at hr;have hg:=ydl (Γ:=Γ) (-z) d hzz hdz;have hd1:=xgs (Γ:=Γ) (-z) (Int.gcd (-z) d:Int) hzz hgl hgp;have hd2:=xgs (Γ:=Γ) d (Int.gcd (-z) d:Int) hdz hgl hgp;rw [zy9 hd] at hg hd2;rw [hden] at hd2
 have hden2:(mkRat (-z) d).den=((d:Int) / (Int.gcd (-z) d:Int)).natAbs:=by omega
 have hfin:(Fc.of (Rat.divInt z (-(d:Int)))).C=[.raw (.int .i64 (sg (-z / (Int.gcd (-z) d:Int)))),.ints .i64 (dig (-z / (Int.gcd (-z) d:Int)).natAbs),.raw (.int .i64 1),.ints .i64 (dig ((d:Int) / (Int.gcd (-z) d:Int)).natAbs)]:=by
  rw [Rat.divInt_neg',Rat.divInt_ofNat,<-p1,<-hden2];rfl
 rw [hfin];generalize (Int.gcd (-z) d:Int)=g at *;unfold zC;rw [hs];refine CallsD.run [] Go.Proofs.Tryz.func55 rfl rfl rfl ?_;simp only [Go.Proofs.Tryz.f55];refine hgR ?_
 repeat' ((first | refine hfk ?_ ?_<;>intros | refine hik ?_ | with_reducible first | refine wml (toD (xt7 z hz)) ?_ | refine ysj (toD (xt7 z hz)) ?_ | refine wml (toD hr) ?_ | refine ysj (toD hr) ?_ | refine wml (toD hn1) ?_ | refine ysj (toD hn1) ?_ | refine wml (toD hn2) ?_ | refine ysj (toD hn2) ?_ | refine wml (toD hg) ?_ | refine ysj (toD hg) ?_ | refine wml (toD hd1) ?_ | refine ysj (toD hd1) ?_ | refine wml (toD hd2) ?_ | refine ysj (toD hd2) ?_)<;>refine hgS ?_)
 exact RLe.ofEq rfl
theorem w1l (z q:Int) (hz:okZ z) (hq:q≠0) (hl:okZ q):CallsD Γ prog 55 [.agg (zC z),.agg (zC q)] (.tup [.agg (Fc.of (Rat.divInt z q)).C,.one (cI 0)]):=by
 unfold okZ at hl
 rcases Int.lt_or_gt_of_ne hq with h | h
 . have e:q = -((q.natAbs:Nat):Int):=by omega
   have:=ykb (Γ:=Γ) z q.natAbs hz (by omega) hl
   rw [<-e] at this;exact this
 . have e:((q.natAbs:Nat):Int)=q:=by omega
   have:=zhe (Γ:=Γ) z q.natAbs hz (by omega) hl
   rw [e] at this;exact this
theorem v33 (p q:Int) (hp:inI p) (hq:inI q) (hq0:q≠0):CallsD Γ prog 33 [.one (cI p),.one (cI q)] (.tup [.agg (Fc.of (Rat.divInt p q)).C,.one (cI 0)]):=by
 have okI:∀ n:Int,inI n->okZ n:=fun n hn=>by
  unfold okZ
  have:=y6j (n:=n.natAbs) (by unfold inI at hn;omega)
  omega
 refine CallsD.run [] Go.Proofs.Tryz.func33 rfl rfl rfl ?_;simp only [Go.Proofs.Tryz.f33];refine hgR ?_
 repeat' ((first | refine hfk ?_ ?_<;>intros | refine hik ?_ | with_reducible first | refine wml (toD (cOfZ p hp)) ?_ | refine ysj (toD (cOfZ p hp)) ?_ | refine wml (toD (cOfZ q hq)) ?_ | refine ysj (toD (cOfZ q hq)) ?_ | refine wml (w1l p q (okI p hp) hq0 (okI q hq)) ?_ | refine ysj (w1l p q (okI p hp) hq0 (okI q hq)) ?_)<;>refine hgS ?_)
 exact RLe.ofEq rfl
theorem vpm (x y:Rat):x / y=Rat.divInt (x.num*y.den) (x.den*y.num):=by
 rw [Rat.div_def,Rat.inv_def]
 conv=>lhs;rw [<-Rat.num_divInt_den x]
 rw [Rat.divInt_mul_divInt]
abbrev fQ (x:Rat):List Cell:=[.raw (.int .i64 (sg x.num)),.ints .i64 (dig x.num.natAbs),.raw (.int .i64 1),.ints .i64 (dig x.den)]
abbrev qs (x:Rat):Nat:=(Fc.of x).sz
theorem wlo (x:Rat) (h:qs x<=268435456):CallsD Γ prog 19 [.agg (fQ x)] (.one (cB true)):=toD (z6t x h)
theorem qMul (x y:Rat) (hx:qs x<=67108864) (hy:qs y<=67108864):CallsD Γ prog 23 [.agg (fQ x),.agg (fQ y)] (.tup [.agg (fQ (x*y)),.one (cI 0)]):=by
 have:=toD (Γ:=Γ) (zu5 (Fc.of x) (Fc.of y) hx hy)
 rw [Fc.x5c,Fc.wop ⟨Fc.xd3 x,Fc.xd3 y⟩] at this;exact this
theorem qInt (n:Int) (hn:inI n):CallsD Γ prog 12 [.one (cI n)] (.agg (fQ (n:Rat))):=toD (wma n hn)
theorem qOf (p q:Int) (hp:inI p) (hq:inI q) (hq0:q≠0):CallsD Γ prog 33 [.one (cI p),.one (cI q)] (.tup [.agg (fQ (Rat.divInt p q)),.one (cI 0)]):=v33 p q hp hq hq0
theorem qDiv (x y:Rat) (hy:y≠0) (hx:qs x<=67108864) (hyl:qs y<=67108864):CallsD Γ prog 150 [.agg (fQ x),.agg (fQ y)] (.tup [.agg (fQ (x / y)),.one (cI 0)]):=by
 have lx:=szO hx;have ly:=szO hyl;have l1:=z9n x.num y.den;have l4:=z9n (x.den:Int) y.num
 have hyn:y.num≠0:=fun h=>hy (Rat.num_eq_zero.1 h)
 have hsy:sg y.num≠0:=by have:=vvv y.num;omega
 have hD:okZ (x.den:Int):=by unfold okZ;have:=lx.2;simp only [Int.natAbs_natCast];omega
 have hDy:okZ (y.den:Int):=by unfold okZ;have:=ly.2;simp only [Int.natAbs_natCast];omega
 have t1:=vhe (Γ:=Γ) x.num y.den (by unfold okZ;omega) hDy;have t2:=vhe (Γ:=Γ) (x.den:Int) y.num hD (by unfold okZ;omega);rw [zy9 y.den_nz] at t1;rw [zy9 x.den_nz] at t2;simp only [Int.natAbs_natCast] at t1 t2;have hden:((x.den:Int)*y.num)≠0:=Int.mul_ne_zero (by have:=x.den_nz;omega) hyn;have hn:=w1l (Γ:=Γ) (x.num*y.den) (x.den*y.num) (by unfold okZ;simp only [Int.natAbs_natCast] at l1;omega) hden (by unfold okZ;simp only [Int.natAbs_natCast] at l4;omega);rw [vpm];refine CallsD.run [] Go.Proofs.Tryz.func150 rfl rfl rfl ?_;simp only [Go.Proofs.Tryz.f150];refine hgR ?_
 repeat' ((first | refine hfk ?_ ?_<;>intros | refine hik ?_ | with_reducible first | refine hcA ?_ | refine hcB ?_ | refine wml (wlo x (by omega)) ?_ | refine ysj (wlo x (by omega)) ?_ | refine wml (wlo y (by omega)) ?_ | refine ysj (wlo y (by omega)) ?_ | refine wml (toD t1) ?_ | refine ysj (toD t1) ?_ | refine wml (toD t2) ?_ | refine ysj (toD t2) ?_)<;>refine hgS ?_)
 exact RLe.ofEq rfl
end Go.Hp.T
namespace Go.Hp.T
open Go Go.RowKit Go.Slot Go.Hp
set_option maxRecDepth 10000
variable {q b e x:Int} {a f:Rat}
structure Un where
 d:Dm
 f:Rat
abbrev unC (u:Un):List Cell:=[cI u.d.a,cI u.d.b,cI u.d.c,cI u.d.d,cI u.d.e,cI u.d.f,.raw (.int .i64 (sg u.f.num)),.ints .i64 (dig u.f.num.natAbs),.raw (.int .i64 1),.ints .i64 (dig u.f.den)]
abbrev unZ:List Cell:=[cI 0,cI 0,cI 0,cI 0,cI 0,cI 0,cI 0,.zc,cI 0,.zc]
def unO:Option Un->List Cell
 | some u=>unC u
 | none=>unZ
def y5z (b e:Int):Dm:=⟨bif decide (b=0) then e else 0,bif decide (b=1) then e else 0,bif decide (b=2) then e else 0,bif decide (b=3) then e else 0,bif decide (b=4) then e else 0,bif decide (b=5) then e else 0⟩
def unOf (b e p q:Int):Un:=⟨y5z b e,Rat.divInt p q⟩
def symF (s:ByteArray):Option Un:=
 bif seq s ⟨#[103]⟩ then some (unOf 0 1 1 1) else
 bif seq s ⟨#[116]⟩ then some (unOf 0 1 1000000 1) else
 bif seq s ⟨#[109]⟩ then some (unOf 1 1 1 1) else
 bif seq s ⟨#[108]⟩ then some (unOf 1 3 1 1000) else
 bif seq s ⟨#[115]⟩ then some (unOf 2 1 1 1) else
 bif seq s ⟨#[104]⟩ then some (unOf 2 1 3600 1) else
 bif seq s ⟨#[100]⟩ then some (unOf 2 1 86400 1) else
 bif seq s ⟨#[74]⟩ then some (unOf 3 1 1 1) else
 bif seq s ⟨#[87,104]⟩ then some (unOf 3 1 3600 1) else
 bif seq s ⟨#[99,101,110,116]⟩ then some (unOf 4 1 1 1) else
 bif seq s ⟨#[101,117,114]⟩ then some (unOf 4 1 100 1) else
 bif seq s ⟨#[112,99]⟩ then some (unOf 5 1 1 1) else none
def vp6 (s:ByteArray) (i:Nat):ByteArray:=s.extract i s.size
def wrv (s:ByteArray) (i:Nat):ByteArray:=s.extract 0 i
def preF (c:Int):Option (Int×Int):=bif decide (c=107) then some (1000,1) else bif decide (c=77) then some (1000000,1) else bif decide (c=71) then some (1000000000,1) else bif decide (c=109) then some (1,1000) else none
def preO:Option (Int×Int)->Int×Int
 | some p=>p
 | none=>(0,0)
def v2f (s:ByteArray):Bool:=seq s ⟨#[103]⟩||seq s ⟨#[109]⟩||seq s ⟨#[108]⟩||seq s ⟨#[115]⟩||seq s ⟨#[74]⟩||seq s ⟨#[87,104]⟩
theorem xu1 (s:ByteArray) (i:Nat):(vp6 s i).size=s.size-i:=by unfold vp6;simp
theorem xsl (s:ByteArray) (i:Nat) (h:i<=s.size):(wrv s i).size=i:=by unfold wrv;simp;omega
structure It where
 w:ByteArray
 e:Int
instance:Inhabited It:=⟨⟨⟨#[]⟩,0⟩⟩
def It.C (x:It):List Cell:=[cS x.w,cI x.e]
abbrev itC (x:It):List Cell:=[cS x.w,cI x.e]
theorem It.C_eq (x:It):x.C=itC x:=rfl
attribute [go_sem] It.C_eq
def zj9 (s:ByteArray):ByteArray:=vp6 s (xg6 wxl s)
def x5d (s:ByteArray):Bool:=decide (¬(zj9 s).size=0)&&decide (50<=yuk (zj9 s) 0)&&decide (yuk (zj9 s) 0<=57)
def wfb (s:ByteArray):It:=⟨wrv s (xg6 wxl s),bif x5d s then yuk (zj9 s) 0-48 else 1⟩
def yu4 (s:ByteArray):ByteArray:=bif x5d s then vp6 (zj9 s) 1 else zj9 s
def wau (s:ByteArray):Bool:=decide (0<(xg6 wxl s:Int))
def xle (s:ByteArray):Option Un:=
 bif (symF s).isSome then symF s else
 bif !(preF (yuk s 0)).isSome||!(symF (vp6 s 1)).isSome||!v2f (vp6 s 1) then none else
 match preF (yuk s 0),symF (vp6 s 1) with
 | some p,some u=>some ⟨u.d,u.f*Rat.divInt p.1 p.2⟩
 | _,_=>none
def iter {α:Type} (g:α->α):Nat->α->α
 | 0,a=>a
 | n+1,a=>iter g n (g a)
theorem xez {α:Type} (g:α->α):∀(n:Nat) (a:α),iter g (n+1) a=g (iter g n a)
 | 0,_=>rfl
 | n+1,a=>by rw [iter,xez g n (g a),iter]
def vhc (a f:Rat) (e:Int):Rat:=bif decide (0<e) then iter (· * f) e.natAbs a else iter (· / f) e.natAbs a
theorem vmu (x y:Rat):qs (x*y)<=qs x+qs y:=Fc.yob x y
theorem zxu (x:Rat):qs x⁻¹<=qs x+1:=by
 by_cases h:x=0
 . subst h;rw [Rat.inv_zero];exact Nat.le_succ _
 . show (Fc.of x⁻¹).sz<=(Fc.of x).sz+1
   have hn:x.num≠0:=fun e=>h (Rat.num_eq_zero.1 e)
   rw [Fc.zom,Fc.zom,Rat.num_inv,Rat.den_inv,if_neg hn]
   have:(x.num.sign*(x.den:Int)).natAbs=x.den:=by
    rw [Int.natAbs_mul,Int.natAbs_sign];simp [hn]
   rw [this];omega
theorem x6h (x y:Rat):qs (x / y)<=qs x+qs y+1:=by
 rw [Rat.div_def]
 have:=vmu x y⁻¹
 have:=zxu y
 omega
def Dm.in03 (d:Dm):Prop:=(0<=d.a/\d.a<=3)/\(0<=d.b/\d.b<=3)/\(0<=d.c/\d.c<=3)/\(0<=d.d/\d.d<=3)/\(0<=d.e/\d.e<=3)/\(0<=d.f/\d.f<=3)
theorem ysa {p:Int} (hp:1<=p/\p<=1000000000) (hq:1<=q/\q<=1000000000):qs (Rat.divInt p q)<=4/\Rat.divInt p q≠0:=by
 obtain ⟨n,rfl⟩:∃ n:Nat,q=n:=⟨q.toNat,by omega⟩;rw [Rat.divInt_ofNat];refine ⟨?_,(Rat.mkRat_ne_zero (by omega)).2 (by omega)⟩
 have:=Fc.xpk p n (by omega)
 have h1:=y6j (n:=p.natAbs) (by omega);have h2:=y6j (n:=n) (by omega);show (Fc.of _).sz<=4;omega
theorem w6g (he:0<=e/\e<=3):(y5z b e).in03:=by
 have key:∀ p:Bool,0<=(bif p then e else 0)/\(bif p then e else 0)<=3:=fun p=>by cases p<;>simp<;>omega
 exact ⟨key _,key _,key _,key _,key _,key _⟩
theorem yqy {p:Int} (he:0<=e/\e<=3) (hp:1<=p/\p<=1000000000) (hq:1<=q/\q<=1000000000):(unOf b e p q).d.in03/\qs (unOf b e p q).f<=4/\(unOf b e p q).f≠0:=⟨w6g he,ysa hp hq⟩
theorem xnl {s:ByteArray} {u:Un} (h:symF s=some u):u.d.in03/\qs u.f<=4/\u.f≠0:=by
 unfold symF at h
 repeat' first
  | (cases h;exact yqy (by omega) (by omega) (by omega))
  | (cases hc:seq s _<;>rw [hc] at h<;>simp only [cond_true,cond_false] at h)
 cases h
theorem y3p {c:Int} {p:Int×Int} (h:preF c=some p):(1<=p.1/\p.1<=1000000000)/\(1<=p.2/\p.2<=1000000000):=by
 unfold preF at h
 repeat' first
  | (cases h;done)
  | (cases h;simp;done)
  | (cases hc:decide (c=_)<;>rw [hc] at h<;>simp only [cond_true,cond_false] at h)
theorem xie {s:ByteArray} {u:Un} (h:xle s=some u):u.d.in03/\qs u.f<=8/\u.f≠0:=by
 unfold xle at h
 cases h1:(symF s).isSome with
 | true=>
  rw [h1,cond_true] at h;obtain ⟨a,b,c⟩:=xnl h;exact ⟨a,by omega,c⟩
 | false=>
  rw [h1,cond_false] at h
  cases h2:(!(preF (yuk s 0)).isSome||!(symF (vp6 s 1)).isSome||!v2f (vp6 s 1)) with
  | true=>rw [h2,cond_true] at h;cases h
  | false=>
   rw [h2,cond_false] at h;split at h
   . rename_i p v hp hv
     cases h;obtain ⟨a,b,c⟩:=xnl hv;obtain ⟨d,e⟩:=y3p hp;obtain ⟨f,g⟩:=ysa d e;refine ⟨a,?_,?_⟩
     . have:=vmu v.f (Rat.divInt p.1 p.2)
       show qs (v.f*_)<=8;omega
     . exact fun h0=>by
        rcases Rat.mul_eq_zero.1 h0 with h0 | h0
        . exact c h0
        . exact g h0
   . cases h
def pw (a f:Rat) (x:Int) (i:Nat):Rat:=bif decide (0<x) then iter (· * f) i a else iter (· / f) i a
theorem w1n (a f:Rat) (x:Int):pw a f x 0=a:=by unfold pw;cases decide (0<x)<;>rfl
theorem zn4 (h:0<x) (i:Nat):pw a f x (i+1)=pw a f x i*f:=by unfold pw;rw [decide_eq_true h];exact xez _ _ _
theorem zik (h:¬0<x) (i:Nat):pw a f x (i+1)=pw a f x i / f:=by unfold pw;rw [decide_eq_false h];exact xez _ _ _
theorem zcy (a f:Rat) (x:Int):∀ i,qs (pw a f x i)<=qs a+i*(qs f+1)
 | 0=>by rw [w1n];omega
 | i+1=>by
  have ih:=zcy a f x i;rw [Nat.add_mul,Nat.one_mul];by_cases h:0<x
  . rw [zn4 h]
    have:=vmu (pw a f x i) f
    omega
  . rw [zik h]
    have:=x6h (pw a f x i) f
    omega
theorem zvw (a f:Rat) (x:Int):vhc a f x=pw a f x x.natAbs:=rfl
theorem xae (s:ByteArray):1<=(wfb s).e/\(wfb s).e<=9:=by
 unfold wfb
 cases h:x5d s with
 | false=>simp
 | true=>
  simp only [x5d,Bool.and_eq_true,decide_eq_true_eq] at h;simp only [cond_true];omega
theorem zhx (s:ByteArray):(yu4 s).size<=s.size:=by
 unfold yu4 zj9
 cases x5d s<;>simp only [cond_true,cond_false,xu1]<;>omega
def xsw (c:Int) (x:It):It:=bif decide (c=47) then ⟨x.w,0-x.e⟩ else x
def y88 (s p:ByteArray):Bool:=decide ((p.size:Int)<=s.size)&&seq (wrv s p.size) p
def y7w (s:ByteArray):ByteArray:=bif y88 s ⟨#[49]⟩ then vp6 s 1 else ⟨#[42]⟩++s
def zr7:Nat->ByteArray->List It->Option (List It)
 | 0,_,_=>none
 | n+1,r,acc=>bif decide (r.size=0) then some acc else
  bif !wau (vp6 r 1)||(decide (¬yuk r 0=42)&&decide (¬yuk r 0=47)) then none else
  zr7 n (yu4 (vp6 r 1)) (acc++[xsw (yuk r 0) (wfb (vp6 r 1))])
def w5k (s:ByteArray):Option (List It):=bif decide (s.size=0) then some [] else bif decide (40<(s.size:Int)) then none else zr7 (s.size+2) (y7w s) []
def itO:Option (List It)->List It
 | some l=>l
 | none=>[]
def It.ok (x:It):Prop:=1<=x.w.size/\x.w.size<=1000/\-9<=x.e/\x.e<=9
theorem w1e {r:ByteArray} (h:wau r=true) (hr:r.size<=1000) (c:Int):(xsw c (wfb r)).ok:=by
 have he:=xae r;have hw:(wfb r).w.size=xg6 wxl r:=xsl _ _ (wbx _ _);have hl:=wbx wxl r
 have h0:1<=xg6 wxl r:=by
  have:(0:Int)<(xg6 wxl r:Int):=by simpa [wau] using h
  omega
 unfold xsw
 cases decide (c=47)
 . exact ⟨by simp only [cond_false];omega,by simp only [cond_false];omega,by simp only [cond_false];omega,by simp only [cond_false];omega⟩
 . exact ⟨by simp only [cond_true];omega,by simp only [cond_true];omega,by simp only [cond_true];omega,by simp only [cond_true];omega⟩
theorem z6c : ∀ (n : Nat) (r : ByteArray) (acc l : List It), zr7 n r acc = some l → r.size ≤ 1000 → (∀ x ∈ acc, x.ok) → l.length ≤ acc.length + r.size ∧ ∀ x ∈ l, x.ok
 | 0,_,_,_,h,_,_=>by cases h
 | n + 1, r, acc, l, h, hr, ha => by
  rw [zr7] at h;by_cases h0:r.size=0
  . rw [decide_eq_true h0,cond_true] at h;cases h;exact ⟨by omega,ha⟩
  . rw [decide_eq_false h0, cond_false] at h
    cases hb:(!wau (vp6 r 1)||(decide (¬yuk r 0=42)&&decide (¬yuk r 0=47))) with
    | true=>rw [hb,cond_true] at h;cases h
    | false=>
     rw [hb,cond_false] at h
     have hok:wau (vp6 r 1)=true:=by
      cases hc:wau (vp6 r 1) with
      | true=>rfl
      | false=>rw [hc] at hb;simp at hb
     have hd:=xu1 r 1;have hcs:=zhx (vp6 r 1)
     obtain ⟨h1,h2⟩:=z6c n _ _ _ h (by omega) (fun x hx=>by
      rcases List.mem_append.1 hx with hx | hx
      . exact ha x hx
      . simp at hx;subst hx;exact w1e hok (by omega) _)
     refine ⟨?_,h2⟩;rw [List.length_append,List.length_singleton] at h1;omega
theorem v7b {s : ByteArray} {l : List It} (h : w5k s = some l) : l.length ≤ 41 ∧ ∀ x ∈ l, x.ok := by
 unfold w5k at h;by_cases h0:s.size=0
 . rw [decide_eq_true h0,cond_true] at h;cases h;simp
 . rw [decide_eq_false h0, cond_false] at h;by_cases h1:40<(s.size:Int)
   . rw [decide_eq_true h1,cond_true] at h;cases h
   . rw [decide_eq_false h1,cond_false] at h
     have hsz:(y7w s).size<=s.size+1:=by
      unfold y7w;have h42:(⟨#[42]⟩:ByteArray).size=1:=rfl
      cases y88 s ⟨#[49]⟩
      . simp only [cond_false,ByteArray.size_append];omega
      . simp only [cond_true,xu1];omega
     obtain ⟨a,b⟩:=z6c _ _ _ _ h (by omega) (fun x hx=>by cases hx);exact ⟨by simp at a;omega,b⟩
def Dm.acc (x y:Dm) (e:Int):Dm:=⟨x.a+y.a*e,x.b+y.b*e,x.c+y.c*e,x.d+y.d*e,x.e+y.e*e,x.f+y.f*e⟩
def xx0:List It->Un->Option Un
 | [],u=>some u
 | x::l,u=>match xle x.w with
  | none=>none
  | some v=>xx0 l ⟨u.d.acc v.d x.e,vhc u.f v.f x.e⟩
def xx7 (s:ByteArray):Option Un×Int:=match w5k s with
 | none=>(none,12)
 | some l=>match xx0 l ⟨Dm.zero,(1:Int)⟩ with
  | none=>(none,11)
  | some u=>bif ytl u.d then (some u,0) else (none,3)
def Dm.le (d:Dm) (n:Int):Prop:=(-n<=d.a/\d.a<=n)/\(-n<=d.b/\d.b<=n)/\(-n<=d.c/\d.c<=n)/\(-n<=d.d/\d.d<=n)/\(-n<=d.e/\d.e<=n)/\(-n<=d.f/\d.f<=n)
theorem xs8 {a:Int} (ha:0<=a/\a<=3) (he:-9<=e/\e<=9):-27<=a*e/\a*e<=27:=by
 have:a=0\/a=1\/a=2\/a=3:=by omega
 rcases this with rfl | rfl | rfl | rfl<;>omega
theorem Dm.z2x {x y:Dm} {n:Int} (hx:x.le n) (hy:y.in03) (he:-9<=e/\e<=9):(x.acc y e).le (n+27):=by
 obtain ⟨a1,a2,a3,a4,a5,a6⟩:=hx;obtain ⟨b1,b2,b3,b4,b5,b6⟩:=hy;have c1:=xs8 b1 he;have c2:=xs8 b2 he;have c3:=xs8 b3 he;have c4:=xs8 b4 he;have c5:=xs8 b5 he;have c6:=xs8 b6 he;unfold Dm.le Dm.acc;simp only;omega
theorem vvp:qs ((1:Int):Rat)<=1:=by
 show max (dig (1:Nat)).length (dig (1:Nat)).length<=1
 have:=w9k (n:=1) (k:=1) (by decide)
 omega
def dmO:Option Un->Dm
 | some u=>u.d
 | none=>Dm.zero
def fcO (i:Nat):Option Un->Cell
 | some u=>(fQ u.f).getD i .zc
 | none=>[cI 0,.zc,cI 0,.zc].getD i .zc
abbrev unX (o:Option Un):List Cell:=[cI (dmO o).a,cI (dmO o).b,cI (dmO o).c,cI (dmO o).d,cI (dmO o).e,cI (dmO o).f,fcO 0 o,fcO 1 o,fcO 2 o,fcO 3 o]
theorem zwu (o:Option Un):unO o=unX o:=by cases o<;>rfl
end Go.Hp.T
