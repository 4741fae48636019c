import Derived.Test.YtpkininnjhbeaaaGreatDoorY33
namespace Go.Hp.T
open Go Go.RowKit Go.Slot Go.Hp Go.Slot.T
set_option maxRecDepth 10000
set_option maxHeartbeats 0
variable {γ:Type} {ms:List Tb} {V:Va} {B:Nat} {x:Ex} {r:Th}
section
variable {α β:Type} (nm:β->ByteArray) (val:β->α) (bad:β->Bool)
def gN (V:List (ByteArray×α)):List β->Option (List (ByteArray×α))
 | []=>some V
 | b::l=>bif bad b then none else gN (updF V (nm b) (val b)) l
end
section
variable {α β:Type} {nm:β->ByteArray} {val:β->α} {bad:β->Bool} {ok:β->Bool} {out:ByteArray->Bool}
theorem vta (d:α) (s:ByteArray):∀ V:List (ByteArray×α),(updF V s d).length=bif (z2f V s).isSome then V.length else V.length+1
 | []=>rfl
 | p::V=>by
  have ih:=vta d s V;rw [updF,z2f]
  cases seq s p.1 with
  | true=>rfl
  | false=>
   simp only [cond_false,List.length_cons,ih]
   cases (z2f V s).isSome<;>rfl
theorem ypk:∀{l:List β} {V W:List (ByteArray×α)},gN nm val bad V l=some W->W.length<=V.length+l.length
 | [],V,W,h=>by rw [gN] at h;cases h;exact Nat.le_refl _
 | b::l,V,W,h=>by
  rw [gN] at h
  cases hb:bad b with
  | true=>rw [hb] at h;cases h
  | false=>
   rw [hb] at h;have h1:=ypk h;rw [vta] at h1;rw [List.length_cons]
   cases hl:(z2f V (nm b)).isSome<;>rw [hl] at h1<;>simp only [cond_true,cond_false] at h1<;>omega
theorem wvo:∀{l:List β} {V:List (ByteArray×α)},(∀ b∈l,bad b=(out (nm b)||!isName (nm b)||isWord (nm b)||!ok b))->gE nm ok val out V l=(match gN nm val bad V l with
 | none=>none
 | some W=>bif decide (W.length=V.length+l.length) then some W else none)
 | [],V,_=>by
  show some V=bif decide (V.length=V.length+0) then some V else none
  rw [Nat.add_zero,decide_eq_true rfl];rfl
 | b::l,V,h=>by
  have hb:=h b (by simp)
  have ih:=fun V=>wvo (V:=V) (fun c hc=>h c (by simp [hc]):∀ c∈l,_)
  rw [gE,gN]
  have e:((z2f V (nm b)).isSome||out (nm b)||!isName (nm b)||isWord (nm b)||!ok b)=((z2f V (nm b)).isSome||bad b):=by
   rw [hb];simp only [Bool.or_assoc]
  rw [e]
  cases bad b with
  | true=>rw [Bool.or_true];rfl
  | false=>
   rw [Bool.or_false];have hs:=vta (val b) (nm b) V
   cases hl:(z2f V (nm b)).isSome with
   | true=>
    rw [hl] at hs;simp only [cond_true,cond_false] at hs ⊢
    cases hg:gN nm val bad (updF V (nm b) (val b)) l with
    | none=>rfl
    | some W=>
     have:=ypk hg
     have hlt:¬W.length=V.length+(b::l).length:=by rw [List.length_cons];omega
     show none=bif decide (W.length=V.length+(b::l).length) then some W else none
     rw [decide_eq_false hlt];rfl
   | false=>
    rw [hl] at hs;simp only [cond_false] at hs ⊢;rw [ih]
    cases hg:gN nm val bad (updF V (nm b) (val b)) l with
    | none=>rfl
    | some W=>
     simp only [hs,List.length_cons,show V.length+1+l.length=V.length+(l.length+1) by omega]
theorem wp1 {out' : ByteArray → Bool} : ∀ {l : List β} {V W W' : List (ByteArray × α)}, gE nm ok val out V l = some W → gE nm ok val out' V l = some W' → W = W'
 | [],V,W,W',h,h'=>by rw [gE] at h h';cases h;cases h';rfl
 | b::l,V,W,W',h,h'=>by
  rw [gE] at h h'
  cases h1:((z2f V (nm b)).isSome||out (nm b)||!isName (nm b)||isWord (nm b)||!ok b) with
  | true=>rw [h1] at h;cases h
  | false=>cases h2:((z2f V (nm b)).isSome||out' (nm b)||!isName (nm b)||isWord (nm b)||!ok b) with
   | true=>rw [h2] at h';cases h'
   | false=>
    rw [h1] at h;rw [h2] at h';exact wp1 h h'
theorem zkk {α':Type} {nm':γ->ByteArray} {ok':γ->Bool} {val':γ->α'} {tok:Tb->Bool} {bs:List β} {cs:List γ} {V:List (ByteArray×α)} {V':List (ByteArray×α')} {T T':List (ByteArray×Tb)} (h:entG nm ok val tok bs ms=some (V,T)) (h':entG nm' ok' val' tok cs ms=some (V',T')):T=T':=by
 unfold entG at h h'
 cases h1:gE nm ok val (fun _=>false) [] bs with
 | none=>rw [h1] at h;cases h
 | some W=>cases h2:gE nm' ok' val' (fun _=>false) [] cs with
  | none=>rw [h2] at h';cases h'
  | some W'=>
   rw [h1] at h;rw [h2] at h';simp only at h h';obtain ⟨X,hX,e⟩:=Option.map_eq_some_iff.1 h;obtain ⟨X',hX',e'⟩:=Option.map_eq_some_iff.1 h'
   cases e;cases e';exact wp1 hX hX'
theorem zju {nm':γ->ByteArray} {F:β->γ} (h:∀ b,nm' (F b)=nm b) (l:List β) (s:ByteArray):fnd nm' (l.map F) s=(fnd nm l s).map F:=by
 induction l with
 | nil=>rfl
 | cons b l ih=>
  rw [List.map_cons,vvu,vvu,ih,h]
  cases seq s (nm b)<;>rfl
end
theorem vx2 (n:Nat):∀(l:List Sl) (V:Va),gS n V l=gN Sl.name Sl.val (fun s=>!isName s.name||isWord s.name||!decide (s.f.ok n)) V l
 | [],V=>rfl
 | s::l,V=>by rw [gS,gN,vx2 n l]
theorem zct (V:Va):∀(l:List Tb) (T:Vt),gTb V T l=gN Tb.name id (fun t=>(z2f V t.name).isSome||isWord t.name||!tbOk t) T l
 | [],T=>rfl
 | t::l,T=>by rw [gTb,gN,zct V l];rfl
theorem zey (a b:Nat):decide ((a:Int)=b)=decide (a=b):=decide_eq_decide.2 (by omega)
theorem y3j (ss:List Sl) (ms:List Tb):entA ss ms=entG Sl.name (fun s=>decide (s.f.ok (nOf ss))) Sl.val tbOk ss ms:=by
 unfold entA entG;rw [vx2,wvo (bad:=fun s:Sl=>!isName s.name||isWord s.name||!decide (s.f.ok (nOf ss))) (fun b _=>by rw [Bool.false_or])]
 cases gN Sl.name Sl.val (fun s=>!isName s.name||isWord s.name||!decide (s.f.ok (nOf ss))) [] ss with
 | none=>rfl
 | some V=>
  simp only [zct,zey,List.length_nil,Nat.zero_add]
  have hg:=wvo (nm:=Tb.name) (val:=id) (ok:=tbOk) (out:=fun s=>(z2f V s).isSome) (bad:=fun t:Tb=>(z2f V t.name).isSome||isWord t.name||!tbOk t) (l:=ms) (V:=[]) (fun t _=>by
   cases ht:tbOk t with
   | true=>rw [(yg5 ht).2.1];cases (z2f V t.name).isSome<;>cases isWord t.name<;>rfl
   | false=>simp only [Bool.not_false,Bool.or_true])
  simp only [List.length_nil,Nat.zero_add] at hg
  cases hd:decide (V.length=ss.length) with
  | false=>
   cases gN Tb.name id (fun t=>(z2f V t.name).isSome||isWord t.name||!tbOk t) [] ms<;>rfl
  | true=>
   simp only [Bool.true_and,cond_true,hg]
   cases gN Tb.name id (fun t=>(z2f V t.name).isSome||isWord t.name||!tbOk t) [] ms with
   | none=>rfl
   | some T=>
    simp only
    cases decide (T.length=ms.length)<;>rfl
theorem y9t {α γ:Type} (F:α->γ) (s:ByteArray):∀ V:List (ByteArray×α),z2f (V.map fun p=>(p.1,F p.2)) s=(z2f V s).map F
 | []=>rfl
 | p::V=>by
  rw [List.map_cons,z2f,z2f,y9t F s V]
  cases seq s p.1<;>rfl
theorem Sl.xd3 {s:Sl} {n:Nat} (h:s.f.ok n):s.f=Af.of s.val.1 s.val.2/\s.val.2.length=n:=by
 obtain ⟨k,cs,e,hl⟩:=Af.vy4 h
 have e2:s.val=(k,cs):=by
  unfold Sl.val;rw [e];show ((Fc.of k).val,(cs.map Fc.of).map Fc.val)=_;rw [List.map_map,Fc.xhg]
  congr 1
  conv=>rhs;rw [<-List.map_id cs]
  exact List.map_congr_left (fun q _=>Fc.xhg q)
 rw [e2];exact ⟨e,hl⟩
variable {ss:List Sl}
def Sl.sm (B:Nat) (s:Sl):Prop:=s.f.c.sz+10<=B/\∀ f∈s.f.l,f.sz+10<=B
theorem zd4 {T:Vt} (h:entA ss ms=some (V,T)) (hs:∀ s∈ss,s.sm B):Asm (nOf ss) B V:=fun s f hf=>by
 rw [y3j] at h;obtain ⟨h1,_,_,h4,_⟩:=vxk h;rw [h4 s] at hf;obtain ⟨x,hx,rfl⟩:=Option.map_eq_some_iff.1 hf;have hm:=(ypj hx).1;obtain ⟨e,hl⟩:=Sl.xd3 (of_decide_eq_true (h1 x hm));obtain ⟨b1,b2⟩:=hs x hm;rw [e] at b1 b2;exact ⟨hl,b1,fun q hq=>b2 (Fc.of q) (List.mem_map_of_mem hq)⟩
theorem yxy {T:Vt} (h:entA ss ms=some (V,T)) (hb:∀ t∈ms,t.Sm):∀ s t,z2f T s=some t->t.Sm/\tbOk t=true:=fun s t ht=>by
 rw [y3j] at h;obtain ⟨_,h2,_,_,h5⟩:=vxk h;rw [h5 s] at ht;have hm:=(ypj ht).1;exact ⟨hb t hm,h2 t hm⟩
theorem v57 (h:affF x ss ms=(r,0)):zqs x=true/\x.wqm=false/\∃ V T,entA ss ms=some (V,T)/\x.aff (nOf ss) V T=(r,0)/\r.t=false:=by
 unfold affF at h
 cases h1:!zqs x||x.wqm with
 | true=>rw [h1] at h;cases h
 | false=>
  rw [h1] at h;rw [Bool.or_eq_false_iff] at h1;refine ⟨by simpa using h1.1,h1.2,?_⟩
  cases he:entA ss ms with
  | none=>rw [he] at h;cases h
  | some p=>
   obtain ⟨V,T⟩:=p;rw [he] at h;refine ⟨V,T,rfl,?_⟩;simp only [cond_false] at h;generalize x.aff (nOf ss) V T=p at h;obtain ⟨t,e⟩:=p;by_cases hd:¬e=0
   . simp only [decide_eq_true hd,cond_true] at h;exact absurd (congrArg Prod.snd h) hd
   . have hd':=Classical.not_not.1 hd;subst hd';simp only [not_true_eq_false,decide_false,cond_false] at h
     cases ht:t.t with
     | true=>rw [ht] at h;cases h
     | false=>
      rw [ht] at h;simp only [cond_false] at h
      cases h;exact ⟨rfl,ht⟩
theorem yvx (h:zqs x=true):x.shaped=true:=by unfold zqs at h;rw [Bool.and_eq_true] at h;exact h.2
theorem zmz (hB:4300<=B) {vs:List Rat} (hs:∀ s∈ss,s.sm B) (hn:vs.length=nOf ss) (h:affF x ss ms=(r,0)) :
 ∃ q,r.c=some q/\r.t=false/\r.l.length=vs.length/\valF x (ss.map fun s=>⟨s.name,s.f.at' (vs.map Fc.of)⟩) ms=(⟨false,false,some (q+dot r.l vs)⟩,0):=by
 obtain ⟨h1,h2,V,T,he,ha,ht⟩:=v57 h;have hV:=zd4 he hs;have hG:=xni (T:=T) hB hV x (yvx h1) h2 (by rw [ha]);rw [ha] at hG;obtain ⟨hi,hl,⟨q,hq,_⟩,_⟩:=hG.form ht;refine ⟨q,hq,ht,by rw [hl,hn],?_⟩;have he':=he;rw [y3j] at he';obtain ⟨a1,a2,a3,a4,a5⟩:=vxk he'
 have hval:∀ s∈ss,s.f.at' (vs.map Fc.of)=Fc.of (s.val.1+dot s.val.2 vs):=fun s hm=>by
  obtain ⟨e,hl⟩:=Sl.xd3 (of_decide_eq_true (a1 s hm));rw [e,Af.vei _ _ _ (by rw [hl,hn]),zh9]
 obtain ⟨⟨W,T'⟩,hp⟩:=zuo (nm:=Bd.name) (ok:=fun b=>decide b.v.ok) (val:=fun b=>b.v.val) (tok:=tbOk) (bs:=ss.map fun s=>⟨s.name,s.f.at' (vs.map Fc.of)⟩) (ms:=ms)
  (fun b hb=>by
    obtain ⟨s,hm,rfl⟩:=List.mem_map.1 hb
    exact decide_eq_true (by show (s.f.at' _).ok;rw [hval s hm];exact Fc.xd3 _)) a2 (by rw [List.map_map];exact a3)
 have hT:=zkk he' hp;subst hT;obtain ⟨_,_,_,b4,_⟩:=vxk hp
 have hW:∀ s,z2f W s=(z2f (V.map fun p=>(p.1,(subC (vs.map fun v=>(v,[])) p.2.2 p.2.1,subL 0 (vs.map fun v=>(v,[])) p.2.2))) s).map (·.1):=fun s=>by
  rw [b4 s,zju (nm:=Sl.name) (F:=fun s:Sl=>(⟨s.name,s.f.at' (vs.map Fc.of)⟩:Bd)) (fun _=>rfl),y9t (fun f:Fm=>(subC (vs.map fun v=>(v,[])) f.2 f.1,subL 0 (vs.map fun v=>(v,[])) f.2)),a4 s]
  cases hf:fnd Sl.name ss s with
  | none=>rfl
  | some y=>
   show some ((y.f.at' _).val)=some (subC _ y.val.2 y.val.1);rw [hval y (ypj hf).1,Fc.xhg];unfold subC;rw [List.map_map,show ((fun f:Fm=>f.1)∘fun v:Rat=>((v,[]):Fm))=id from rfl,List.map_id]
 have hsub:=we1 (m:=0) (V':=V.map fun p=>(p.1,(subC (vs.map fun v=>(v,[])) p.2.2 p.2.1,subL 0 (vs.map fun v=>(v,[])) p.2.2))) (g:=vs.map fun v=>(v,[])) hB hV (fun s=>y9t (fun f:Fm=>(subC (vs.map fun v=>(v,[])) f.2 f.1,subL 0 (vs.map fun v=>(v,[])) f.2)) s V) x (yvx h1) h2 (by rw [ha]);rw [ha] at hsub
 have hq0:∀ y:Rat,∃ C,4300<=C/\qs y+10<=C:=fun y=>⟨4300+qs y,by omega,by omega⟩
 have hV0:∃ C,4300<=C/\Asm 0 C (V.map fun p=>(p.1,(subC (vs.map fun v=>(v,[])) p.2.2 p.2.1,subL 0 (vs.map fun v=>(v,[])) p.2.2))):=by
  have hb:∀ l:Va,∃ C,4300<=C/\∀ p∈l,qs (subC (vs.map fun v=>(v,[])) p.2.2 p.2.1)+10<=C:=fun l=>by
   induction l with
   | nil=>exact ⟨4300,Nat.le_refl _,fun p hp=>by cases hp⟩
   | cons p l ih=>
    obtain ⟨C,c1,c2⟩:=ih;refine ⟨C+(qs (subC (vs.map fun v=>(v,[])) p.2.2 p.2.1)+10),by omega,fun p' hp=>?_⟩
    rcases List.mem_cons.1 hp with rfl | hp
    . omega
    . have:=c2 p' hp;omega
  obtain ⟨C,c1,c2⟩:=hb V;refine ⟨C,c1,fun s f hf=>?_⟩;rw [y9t (fun f:Fm=>(subC (vs.map fun v=>(v,[])) f.2 f.1,subL 0 (vs.map fun v=>(v,[])) f.2))] at hf;obtain ⟨f0,hf0,rfl⟩:=Option.map_eq_some_iff.1 hf
  have hmem:∀ l:Va,z2f l s=some f0->∃ k,(k,f0)∈l:=fun l=>by
   induction l with
   | nil=>intro h;cases h
   | cons p l ih=>
    intro h;rw [z2f] at h
    cases hs2:seq s p.1 with
    | true=>rw [hs2] at h;cases h;exact ⟨p.1,by simp⟩
    | false=>
     rw [hs2] at h;obtain ⟨k,hk⟩:=ih h;exact ⟨k,by simp [hk]⟩
  obtain ⟨k,hk⟩:=hmem V hf0
  exact ⟨zdi _ _ _,c2 _ hk,fun q hq=>by
   have:=zdi 0 (vs.map fun v=>((v,[]):Fm)) f0.2
   rw [List.eq_nil_of_length_eq_zero this] at hq
   cases hq⟩
 obtain ⟨C,hC,hV0⟩:=hV0;have hcal:=y4y (T:=T) hC hV0 hW x (yvx h1) h2;rw [hsub] at hcal
 have e:valF x (ss.map fun s=>⟨s.name,s.f.at' (vs.map Fc.of)⟩) ms=x.cal W T:=by
  unfold valF;rw [h1,h2,show entF (ss.map fun s=>⟨s.name,s.f.at' (vs.map Fc.of)⟩) ms=some (W,T) from hp];rfl
 rw [e,hcal];show (Rs.mk r.t r.i (r.c.map (subC _ r.l)),(0:Int))=_;rw [ht,hi,hq];show (Rs.mk false false (some (subC _ r.l q)),(0:Int))=_;unfold subC;rw [List.map_map,show ((fun f:Fm=>f.1)∘fun v:Rat=>((v,[]):Fm))=id from rfl,List.map_id]
end Go.Hp.T
namespace Go.Hp.T
open Go Go.RowKit Go.Slot Go.Hp Go.Slot.T
open Go.Proofs.Tryz (prog)
set_option maxRecDepth 10000
set_option maxHeartbeats 0
variable {Γ:List (Nat×List Cell)}
theorem v58 (q:Rat) (h:qs q<=67108864):CallsD Γ prog 52 [.agg (qC (some q))] (.agg (qC (some q))):=by
 have:=vrk (Γ:=Γ) (Fc.of q) h
 rw [Af.zvt] at this;exact this
theorem zex (n:Nat) (V:Va) (T:Vt) (x:Ex) (hl:3<=x.args.length) (hl2:x.args.length<=1073741824)
 (h:∀ i,i<3->xpp Γ prog 41 (rdE n V T) [.one (.ptr 0 0),.agg ((exC (x.args.getD i default)).map .dat)] (rdE n V T) (thS ((x.args.getD i default).aff n V T))) :
 xpp Γ prog 82 (rdE n V T) [.one (.ptr 0 0),.agg ((exC x).map .dat)] (rdE n V T) (thS (chA (x.args.map (Ex.aff n V T)))):=by
 have h0:=h 0 (by decide);have h1:=h 1 (by decide);have h2:=h 2 (by decide);clear h
 have e:chA (x.args.map (Ex.aff n V T))=bif decide (¬((x.args.getD 0 default).aff n V T).2=0) then (Th.zero,((x.args.getD 0 default).aff n V T).2) else bif !((x.args.getD 0 default).aff n V T).1.t then (Th.zero,13) else bif ((x.args.getD 0 default).aff n V T).1.i then (x.args.getD 1 default).aff n V T else (x.args.getD 2 default).aff n V T:=by
  unfold chA;rw [getD_map (show 0<x.args.length by omega),getD_map (show 1<x.args.length by omega),getD_map (show 2<x.args.length by omega)]
 rw [e];generalize (x.args.getD 0 default).aff n V T=r0 at h0;generalize (x.args.getD 1 default).aff n V T=r1 at h1;generalize (x.args.getD 2 default).aff n V T=r2 at h2;obtain ⟨⟨t0,i0,v0,l0⟩,e0⟩:=r0;simp only at h0 ⊢;refine xpp.run [] Go.Proofs.Tryz.func82 rfl rfl ?_;simp only [Go.Proofs.Tryz.f82];refine hgR ?_;refine hg ?_;refine x6x (xpp.preN h0 (zt9 n V T) rfl rfl) ?_;clear h0;refine hg ?_
 repeat' ((first | refine hfk ?_ ?_<;>intros | refine hik ?_)<;>refine hgS ?_)
 . exact StH.z9p rfl (by kernel_rfl) rfl rfl
 . exact StH.z9p rfl (by kernel_rfl) rfl rfl
 . refine x6x (xpp.preN h1 (zt9 n V T) rfl rfl) ?_;refine hg ?_
   repeat' ((first | refine hfk ?_ ?_<;>intros | refine hik ?_)<;>refine hgS ?_)
   exact StH.vzq rfl (by kernel_rfl) (by simp [*])
 . refine x6x (xpp.preN h2 (zt9 n V T) rfl rfl) ?_;refine hg ?_
   repeat' ((first | refine hfk ?_ ?_<;>intros | refine hik ?_)<;>refine hgS ?_)
   exact StH.vzq rfl (by kernel_rfl) (by simp [*])
theorem wzo (n:Nat) (V:Va) (T:Vt) (x:Ex) (hx:x.Sm) (hn:inI x.n) (h0:x.op=0) (h6:n<=6):xpp Γ prog 81 (rdE n V T) [.one (.ptr 0 0),.agg ((exC x).map .dat)] (rdE n V T) (thS (wfn n x.n x.unit)):=by
 have hu:=hx.u;have hz:=x10 hn;have ho:=oInt (Γ:=Γ) x.n hn
 rcases veq x.unit with ⟨u,h,hq⟩ | ⟨e,he,h⟩
 . have hr:=xyv (Γ:=Γ) hu h;obtain ⟨r1,r2⟩:=yv0 h;have hf:=zdl (Γ:=Γ) (x.n:Rat) u r1 r2 (Nat.le_trans hz (by decide)) (by omega);have hnum:=yfa (Γ:=Γ) n V T (some ((x.n:Rat)*u.f)) h6
   have e1:wfn n x.n x.unit=(numA n (some ((x.n:Rat)*u.f)),0):=by unfold wfn facO;rw [h];rfl
   rw [e1];refine xpp.run [] Go.Proofs.Tryz.func81 rfl rfl ?_;simp only [Go.Proofs.Tryz.f81];refine hgR ?_
   repeat' ((first | refine hfk ?_ ?_<;>intros | refine hik ?_ | with_reducible first | refine hcA ?_ | refine hcB ?_)<;>refine hgS ?_)
   all_goals try (exfalso;omega)
   refine x6x (xpp.preN hnum (zt9 n V T) rfl rfl) ?_;refine hg ?_
   repeat' ((first | refine hfk ?_ ?_<;>intros | refine hik ?_)<;>refine hgS ?_)
   exact StH.vzq rfl (by kernel_rfl) rfl
 . have hr:=xmw (Γ:=Γ) x.unit hu;rw [h] at hr
   have e1:wfn n x.n x.unit=(⟨false,false,none,[]⟩,14):=by unfold wfn;rw [h];simp only [decide_eq_true he,cond_true];rfl
   rw [e1];refine xpp.run [] Go.Proofs.Tryz.func81 rfl rfl ?_;simp only [Go.Proofs.Tryz.f81];refine hgR ?_
   repeat' ((first | refine hfk ?_ ?_<;>intros | refine hik ?_ | with_reducible first | refine hcA ?_ | refine hcB ?_)<;>refine hgS ?_)
   all_goals first
    | (exfalso;omega)
    | exact StH.z9p rfl (by kernel_rfl) rfl rfl
def lfB (n:Nat) (V:Va) (T:Vt) (x:SB) (k:Rat) (cs:List Rat):Nat->List SB
 | 0=>rdE n V T++[x,.box ((thZ false false).map .dat) (some 80),.box ((afC (k,cs)).map .dat) (some 36),.box [.dat (.raw (.int .i64 (qF (some k)).s)),.dat (.ints .i64 (qF (some k)).L),.dat (.raw (.int .i64 (qF (some k)).t)),.dat (.ints .i64 (qF (some k)).M),.dat .zc] (some 36)]
 | i+1=>rdE n V T++[x,.box ((thZ false false).map .dat) (some 80),.box ((afC (k,cs)).map .dat) (some 36),.box [.dat (.raw (.int .i64 (qF (some k)).s)),.dat (.ints .i64 (qF (some k)).L),.dat (.raw (.int .i64 (qF (some k)).t)),.dat (.ints .i64 (qF (some k)).M),.sl 7 4 0 (i+1)] (some 36),.arr (.sl 4 ((cs.take (i+1)).map rowQ)) 0 (some 33)]
theorem xuk (n:Nat) (V:Va) (T:Vt) (x:Ex) (_hx:x.Sm) (h1:x.op=1) (hV:∀ s f,z2f V s=some f->f.2.length<=1048576/\qs f.1<=67108864/\∀ q∈f.2,qs q<=67108864):xpp Γ prog 81 (rdE n V T) [.one (.ptr 0 0),.agg ((exC x).map .dat)] (rdE n V T) (thS (x5b V x.name)):=by
 unfold x5b
 cases hlk:z2f V x.name with
 | none=>
  show xpp _ _ _ _ _ _ (thS (⟨false,false,none,[]⟩,11));refine xpp.run [] Go.Proofs.Tryz.func81 rfl rfl ?_;simp only [Go.Proofs.Tryz.f81];refine hgR ?_
  repeat' ((first | refine hfk ?_ ?_<;>intros | refine hik ?_)<;>refine hgS ?_)
  all_goals try (exfalso;omega)
  refine hg1 @hlk ?_
  repeat' ((first | refine hfk ?_ ?_<;>intros | refine hik ?_)<;>refine hgS ?_)
  all_goals first
   | (exfalso;omega)
   | exact StH.z9p rfl (by kernel_rfl) rfl rfl
 | some f=>
  obtain ⟨k,cs⟩:=f;obtain ⟨v1,v2,v3⟩:=hV _ _ hlk;simp only at v1 v2 v3;have c0:=v58 (Γ:=Γ) k v2
  have ci:∀ i,i<cs.length->CallsD Γ prog 52 [.agg (qC (some (cs.getD i default)))] (.agg (qC (some (cs.getD i default)))):=fun i hi=>v58 (Γ:=Γ) _ (v3 _ (by simp [hi]))
  show xpp _ _ _ _ _ _ (thS (⟨false,false,some k,cs⟩,0));refine xpp.run [] Go.Proofs.Tryz.func81 rfl rfl ?_;simp only [Go.Proofs.Tryz.f81];refine hgR ?_
  repeat' ((first | refine hfk ?_ ?_<;>intros | refine hik ?_)<;>refine hgS ?_)
  all_goals try (exfalso;omega)
  refine hg1 @hlk ?_
  repeat' ((first | refine hfk ?_ ?_<;>intros | refine hik ?_ | with_reducible first | refine hcA ?_ | refine hcB ?_)<;>refine hgS ?_)
  all_goals try (exfalso;omega)
  refine x20 [3,4,6,8,35,36] (fun i:Nat=>[(37,.one (.dat (cI (i))))]) (lfB n V T (.box [.dat (cI 1),.dat (cI x.n),.dat (cS x.unit),.dat (cS x.name),.dat (.sl 5 (x.args.map Ex.cells))] (some 24)) k cs)
   (fun i=>i<=cs.length) (fun i=>cs.length-i) 0 (Nat.zero_le _) ?_ ?_
  . refine hg ?_;exact StH.same svl rfl
  intro i hi
  rcases i with _ | i
  . simp only [lfB];refine hg ?_;refine vt2 (fun h _=>?_) (fun h _=>?_)
    . have hsn:[rowQ (cs.getD 0 default)]=(cs.take (0+1)).map rowQ:=by
       rw [wcz (by omega)];rfl
      have c1:=ci 0 (by omega);refine hg ?_
      repeat' ((first | refine hfk ?_ ?_<;>intros | refine hik ?_ | with_reducible first | refine hcA ?_ | refine hcB ?_)<;>refine hgS ?_)
      refine ⟨1,by omega,by omega,?_⟩;simp only;rw [<-hsn];exact StH.z04 [3,4,6,8,35,36,37] 7 8 8 rfl rfl rfl rfl rfl rfl rfl (by kernel_rfl) (StH.same svl rfl)
    . have h0:cs=[]:=List.eq_nil_of_length_eq_zero (by omega);subst h0;refine hg ?_
      repeat' ((first | refine hfk ?_ ?_<;>intros | refine hik ?_)<;>refine hgS ?_)
      exact StH.trans (StH.vzq rfl (by kernel_rfl) rfl) (StH.tup1 (.cons (.agg (.cons (.refl _) (.cons (.refl _) (.cons (.refl _) (.cons (.refl _) (.cons (.refl _) (.cons (.refl _) (.cons (.dat (.zcSl _)) .nil)))))))) (.cons (.refl _) .nil)))
  . simp only [lfB]
    have hz:(cs.take (i+1)).length=i+1:=by simp;omega
    refine hg1 @hz ?_;refine vt2 (fun h _=>?_) (fun h _=>?_)
    . have hsn:(cs.take (i+1)).map rowQ++[rowQ (cs.getD (i+1) default)]=(cs.take (i+1+1)).map rowQ:=by
       rw [wcz (l:=cs) (i:=i+1) (by omega),List.map_append];rfl
      have c1:=ci (i+1) (by omega);refine hg1 @hz ?_
      repeat' ((first | refine hfk ?_ ?_<;>intros | refine hik ?_ | with_reducible first | refine hcA ?_ | refine hcB ?_)<;>refine hgS ?_)
      refine ⟨i+1+1,by omega,by omega,?_⟩;simp only;rw [<-hsn];refine StH.z04 [3,4,6,8,35,36,37] 7 9 8 rfl rfl rfl rfl rfl rfl rfl (by kernel_rfl) (StH.same svl ?_);simp only [List.length_append,List.length_map,List.length_singleton,hz];rfl
    . have e1:cs.take (i+1)=cs:=List.take_of_length_le (by omega);refine hg1 @hz ?_
      repeat' ((first | refine hfk ?_ ?_<;>intros | refine hik ?_)<;>refine hgS ?_)
      rw [e1];refine StH.v0g (avs:=[.agg (thC ⟨false,false,some k,cs⟩),.one (cI 0)]) (bs:=[7]) ?_ rfl rfl (by kernel_rfl) rfl;rw [e1] at hz;simp [zfb,argD,w8n,zyf,gB,Cell.esz,Cell.cnt,Hp.subC,hz]
theorem wto {n B:Nat} (hB:4300<=B) (V:Va) (T:Vt) (hV:Asm n B V) (hT:∀ s t,z2f T s=some t->t.Sm/\tbOk t=true) (h6:n<=6):∀ x:Ex,x.Sm->x.shaped=true->x.wqm=false->B*x.nd<=33554432->xpp Γ prog 41 (rdE n V T) [.one (.ptr 0 0),.agg ((exC x).map .dat)] (rdE n V T) (thS (x.aff n V T)):=by
 refine Ex.ind (fun x ih hx hsh hcl hnd=>?_);have hl:=hx.len;have haff:=Ex.xpb n V T x
 have hnode:xer x=true:=by rw [Ex.ypb,Bool.and_eq_true] at hsh;exact hsh.1
 have hargs:∀ y∈x.args,y.shaped=true:=by rw [Ex.ypb,Bool.and_eq_true,List.all_eq_true] at hsh;exact hsh.2
 have hcalls:x.op≠3/\∀ y∈x.args,y.wqm=false:=by
  rw [Ex.xrx,Bool.or_eq_false_iff,decide_eq_false_iff_not,List.any_eq_false] at hcl;exact ⟨hcl.1,fun y hy=>by simpa using hcl.2 y hy⟩
 have hnds:∀ y∈x.args,B*y.nd<=33554432:=fun y hy=>Nat.le_trans (Nat.mul_le_mul_left _ (by have:=Ex.xka hy;have:=Ex.xk0 x;omega)) hnd
 have hB2:B<=B*x.nd:=Nat.le_mul_of_pos_right _ (by rw [Ex.xk0];omega);by_cases hne:x.args.length=0
 . have hlf:xpp Γ prog 81 (rdE n V T) [.one (.ptr 0 0),.agg ((exC x).map .dat)] (rdE n V T) (thS (x.aff n V T)):=by
    by_cases h0:x.op=0
    . rw [decide_eq_true h0,cond_true] at haff;have hn:=xsm hnode h0;rw [haff];exact wzo n V T x hx (by unfold inI;omega) h0 h6
    . rw [decide_eq_false h0, cond_false] at haff;by_cases h1:x.op=1
      . rw [decide_eq_true h1,cond_true] at haff;rw [haff]
        exact xuk n V T x hx h1 (fun s f hf=>by
         obtain ⟨a1,a2,a3⟩:=hV s f hf
         exact ⟨by omega,by omega,fun q hq=>by have:=a3 q hq;omega⟩)
      . exfalso;unfold xer at hnode;rw [decide_eq_false h0,decide_eq_false h1,hne] at hnode;simp at hnode
   refine xpp.run [] Go.Proofs.Tryz.func41 rfl rfl ?_;simp only [Go.Proofs.Tryz.f41];refine hgR ?_
   repeat' ((first | refine hfk ?_ ?_<;>intros | refine hik ?_)<;>refine hgS ?_)
   all_goals try (exfalso;omega)
   refine x6x (xpp.preN hlf (zt9 n V T) rfl rfl) ?_;refine hg ?_
   repeat' ((first | refine hfk ?_ ?_<;>intros | refine hik ?_)<;>refine hgS ?_)
   exact StH.vzq rfl (by kernel_rfl) rfl
 have h0:x.op≠0:=fun h=>by
  unfold xer at hnode;rw [decide_eq_true h] at hnode;simp only [cond_true,Bool.and_eq_true,decide_eq_true_eq] at hnode;omega
 have h1:x.op≠1:=fun h=>by
  unfold xer at hnode;rw [decide_eq_false h0,cond_false] at hnode
  cases hc:(decide (¬x.n=0)||decide (¬x.unit.size=0)) with
  | true=>rw [hc] at hnode;cases hnode
  | false=>
   rw [hc,decide_eq_true h] at hnode;simp only [cond_true,cond_false,Bool.and_eq_true,decide_eq_true_eq] at hnode;omega
 rw [decide_eq_false h0,cond_false,decide_eq_false h1,cond_false] at haff;obtain ⟨hl2,hl3⟩:=zd3 hnode hcalls.1 hne;by_cases h5:x.op=5
 . rw [decide_eq_true h5,cond_true] at haff;rw [haff];have hl3':=hl3 h5
   have hch:=zex (Γ:=Γ) n V T x hl3' hl (fun i hi=>by
    have hm:=y7p (show i<x.args.length by omega)
    exact ih _ hm (hx.arg _ hm) (hargs _ hm) (hcalls.2 _ hm) (hnds _ hm))
   refine xpp.run [] Go.Proofs.Tryz.func41 rfl rfl ?_;simp only [Go.Proofs.Tryz.f41];refine hgR ?_
   repeat' ((first | refine hfk ?_ ?_<;>intros | refine hik ?_)<;>refine hgS ?_)
   all_goals try (exfalso;omega)
   rw [show cI 5=cI x.op by rw [h5]];refine x6x (xpp.preN hch (zt9 n V T) rfl rfl) ?_;refine hg ?_
   repeat' ((first | refine hfk ?_ ?_<;>intros | refine hik ?_)<;>refine hgS ?_)
   exact StH.vzq rfl (by kernel_rfl) rfl
 rw [decide_eq_false h5,cond_false] at haff
 have hG:∀ y∈x.args,(y.aff n V T).2=0->(y.aff n V T).1.G n 33554432:=fun y hy h=>(xni (T:=T) hB hV y (hargs y hy) (hcalls.2 y hy) h).mono (by have:=hnds y hy;omega)
 rw [haff];clear haff hnd hV hB2;generalize hS:seqA (x.args.map (Ex.aff n V T))=S;refine xpp.run [] Go.Proofs.Tryz.func41 rfl rfl ?_;simp only [Go.Proofs.Tryz.f41];refine hgR ?_
 repeat' ((first | refine hfk ?_ ?_<;>intros | refine hik ?_)<;>refine hgS ?_)
 all_goals try (exfalso;omega)
 refine x20 [0,3,4,29,30] (fun p:Nat×List Th=>[(6,.one (.sl 5 7 0 p.2.length)),(31,.one (.dat (cI p.1)))])
  (fun p=>rdE n V T++[.box ((exC x).map .dat) (some 24),.box ((thZ false false).map .dat) (some 80),.arr (.sl 7 (p.2.map Th.C)) 0 (some 80)])
  (fun p=>p.1<=x.args.length/\p.2.length=p.1/\(∀ r∈p.2,r.G n 33554432)/\S=match seqA ((x.args.drop p.1).map (Ex.aff n V T)) with
    | .inl e=>.inl e
    | .inr r=>.inr (p.2++r)) (fun p=>x.args.length-p.1) (0,[]) ⟨Nat.zero_le _,rfl,fun r hr=>(by cases hr),by simp only [List.drop_zero,List.nil_append];rw [hS];cases S<;>rfl⟩ ?_ ?_
 . refine hg ?_;refine StH.trans (StH.empty (d:=6) (es:=7) (c:=.sl 7 []) (T:=some 80) rfl rfl (fun r hr=>by cases hr) rfl) ?_;refine hg ?_;exact StH.same svl rfl
 clear hS;rintro ⟨i,rs⟩ ⟨q1,q2,q3,q4⟩;simp only at q1 q2 q3 q4;refine hg ?_;refine vt2 (fun hlt _=>?_) (fun hlt _=>?_)
 . have hlt':i<x.args.length:=by omega
   have hy:=y7p hlt';rw [xfc hlt',List.map_cons] at q4;have hGy:=hG _ hy;refine hg ?_;refine x6x (xpp.preN (ih _ hy (hx.arg _ hy) (hargs _ hy) (hcalls.2 _ hy) (hnds _ hy)) (zt9 n V T) rfl rfl) ?_;generalize hr:Ex.aff n V T (x.args.getD i default)=r at q4 hGy ⊢;obtain ⟨t,e⟩:=r;rw [seqA] at q4;simp only at q4 hGy;refine hg ?_;refine vt2 (fun he hd=>?_) (fun he hd=>?_)
   . refine hg ?_
     have q4':S=.inl e:=by rw [q4,show decide (¬e=0)=true from hd];rfl
     rw [q4'];exact StH.z9p rfl (by kernel_rfl) rfl rfl
   . refine hg ?_;rw [show decide (¬e=0)=false from hd,cond_false] at q4;have hGt:=hGy (by omega)
     have q4':S=match seqA ((x.args.drop (i+1)).map (Ex.aff n V T)) with
      | .inl e=>.inl e
      | .inr r=>.inr ((rs++[t])++r):=by
      rw [q4]
      cases seqA ((x.args.drop (i+1)).map (Ex.aff n V T)) with
      | inl e=>rfl
      | inr r=>simp only [List.append_assoc,List.singleton_append]
     have hmap:rs.map Th.C++[thC t]=(rs++[t]).map Th.C:=by simp;rfl
     rw [hmap]
     refine ⟨(i+1,rs++[t]),⟨by dsimp only;omega,by dsimp only;rw [List.length_append,List.length_singleton,q2],fun r hr'=>by
      rcases List.mem_append.1 hr' with h | h
      . exact q3 r h
      . rw [List.mem_singleton.1 h];exact hGt,q4'⟩,by dsimp only;omega,?_⟩
     refine StH.z04 [0,3,4,6,29,30,31] 5 8 6 rfl rfl rfl rfl rfl rfl rfl (by kernel_rfl) ?_;refine hg ?_;exact StH.same svl rfl
 . have q4':S=.inr rs:=by rw [q4,List.drop_eq_nil_of_le (by omega)];show (match seqA [] with | .inl e=>Sum.inl e | .inr r=>Sum.inr (rs++r))=_;rw [seqA];simp only [List.append_nil]
   rw [q4'];clear q4 q4' ih hG
   have hlen:rs.length=x.args.length:=by omega
   have hlen0:0<rs.length:=by omega
   have hr0:=q3 _ (y7p (show 0<rs.length by omega));by_cases h2:x.op=2
   . have hk:=yyg (Γ:=Γ) V T x.name (rs.getD 0 default) hr0 h6 (by decide) hT;rw [show wxq n T x.op x.name (.inr rs)=xu8 n T x.name (rs.getD 0 default) by show opA n T x.op x.name rs=_;unfold opA;rw [decide_eq_true h2];rfl];refine hg ?_
     repeat' ((first | refine hfk ?_ ?_<;>intros | refine hik ?_)<;>refine hgS ?_)
     all_goals try (exfalso;omega)
     refine xhw 3 (fun ξ=>xpp.preN hk (zt9 n V T) rfl rfl) rfl rfl ?_;generalize xu8 n T x.name (rs.getD 0 default)=r;obtain ⟨⟨t,i,v,l⟩,e⟩:=r;refine hg ?_
     repeat' ((first | refine hfk ?_ ?_<;>intros | refine hik ?_)<;>refine hgS ?_)
     exact StH.vzq rfl (by kernel_rfl) rfl
   have hlg:∀ h:x.op=4\/x.op=14\/x.op=15,wxq n T x.op x.name (.inr rs)=logA x.op rs:=fun h4=>by
    show opA n T x.op x.name rs=_;unfold opA;rw [decide_eq_false h2,show (decide (x.op=4)||decide (x.op=14)||decide (x.op=15))=true by rcases h4 with h | h | h<;>simp [h]];rfl
   by_cases h4:x.op=4\/x.op=14\/x.op=15
   . have hk:=y34 (Γ:=Γ) x.op rs hlen0 (by omega) (fun h=>by
      have:=hl2 h2 (fun h4=>by omega)
      omega)
     rw [hlg h4];generalize logA x.op rs=r at hk;obtain ⟨⟨t,i,v,l⟩,e⟩:=r;refine hg ?_
     rcases h4 with h4 | h4 | h4
     all_goals
      rw [h4] at hk
      repeat' ((first | refine hfk ?_ ?_<;>intros | refine hik ?_ | with_reducible first | refine hcA ?_ | refine hcB ?_)<;>refine hgS ?_)
      all_goals first
       | (exfalso;omega)
       | exact StH.vzq rfl (by kernel_rfl) rfl
   clear hlg;have hl:=hl2 h2 (fun h=>h4 (.inl h))
   have hlen1:1<rs.length:=by omega
   have hr1:=q3 _ (y7p hlen1)
   have hop:wxq n T x.op x.name (.inr rs)=bif decide (x.op=8)||decide (x.op=9) then scaA x.op (rs.getD 0 default) (rs.getD 1 default) else
    bif decide (x.op=6)||decide (x.op=7) then sumA x.op (rs.getD 0 default) (rs.getD 1 default) else cmpA x.op (rs.getD 0 default) (rs.getD 1 default):=by
    show opA n T x.op x.name rs=_;unfold opA;rw [decide_eq_false h2,show (decide (x.op=4)||decide (x.op=14)||decide (x.op=15))=false by simp only [Bool.or_eq_false_iff,decide_eq_false_iff_not];exact ⟨⟨fun h=>h4 (.inl h),fun h=>h4 (.inr (.inl h))⟩,fun h=>h4 (.inr (.inr h))⟩];rfl
   rw [hop];clear hop;by_cases h8:x.op=8\/x.op=9
   . have hk:=zda (Γ:=Γ) x.op h8 (rs.getD 0 default) (rs.getD 1 default) hr0 hr1 (by omega) (by decide);rw [show (decide (x.op=8)||decide (x.op=9))=true by rcases h8 with h | h<;>simp [h],cond_true];generalize scaA x.op (rs.getD 0 default) (rs.getD 1 default)=r at hk;obtain ⟨⟨t,i,v,l⟩,e⟩:=r;refine hg ?_
     rcases h8 with h8 | h8
     all_goals
      rw [h8] at hk
      repeat' ((first | refine hfk ?_ ?_<;>intros | refine hik ?_ | with_reducible first | refine hcA ?_ | refine hcB ?_)<;>refine hgS ?_)
      all_goals first
       | (exfalso;omega)
       | exact StH.vzq rfl (by kernel_rfl) rfl
   rw [show (decide (x.op=8)||decide (x.op=9))=false by simp only [Bool.or_eq_false_iff,decide_eq_false_iff_not];exact ⟨fun h=>h8 (.inl h),fun h=>h8 (.inr h)⟩,cond_false];by_cases h7:x.op=6\/x.op=7
   . have hk:=zlw (Γ:=Γ) x.op (rs.getD 0 default) (rs.getD 1 default) hr0 hr1 (by omega) (by decide);rw [show (decide (x.op=6)||decide (x.op=7))=true by rcases h7 with h | h<;>simp [h],cond_true];generalize sumA x.op (rs.getD 0 default) (rs.getD 1 default)=r at hk;obtain ⟨⟨t,i,v,l⟩,e⟩:=r;refine hg ?_
     rcases h7 with h7 | h7
     all_goals
      rw [h7] at hk
      repeat' ((first | refine hfk ?_ ?_<;>intros | refine hik ?_ | with_reducible first | refine hcA ?_ | refine hcB ?_)<;>refine hgS ?_)
      all_goals first
       | (exfalso;omega)
       | exact StH.vzq rfl (by kernel_rfl) rfl
   . have hk:=x7p (Γ:=Γ) V T x.op (rs.getD 0 default) (rs.getD 1 default) hr0 hr1 (by omega) (by decide);rw [show (decide (x.op=6)||decide (x.op=7))=false by simp only [Bool.or_eq_false_iff,decide_eq_false_iff_not];exact ⟨fun h=>h7 (.inl h),fun h=>h7 (.inr h)⟩,cond_false];refine hg ?_
     repeat' ((first | refine hfk ?_ ?_<;>intros | refine hik ?_)<;>refine hgS ?_)
     all_goals try (exfalso;omega)
     refine xhw 3 (fun ξ=>xpp.preN hk (zt9 n V T) rfl rfl) rfl rfl ?_;generalize cmpA x.op (rs.getD 0 default) (rs.getD 1 default)=r;obtain ⟨⟨t,i,v,l⟩,e⟩:=r;refine hg ?_
     repeat' ((first | refine hfk ?_ ?_<;>intros | refine hik ?_)<;>refine hgS ?_)
     exact StH.vzq rfl (by kernel_rfl) rfl
end Go.Hp.T
