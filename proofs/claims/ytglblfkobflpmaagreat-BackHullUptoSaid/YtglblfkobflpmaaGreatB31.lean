/- The proof, part B31: Am, An, Sb, A0. -/
import Derived.Test.YtglblfkobflpmaaGreatB30
import Derived.Test.YtglblfkobflpmaaGreatB29
import Derived.Test.YtglblfkobflpmaaGreatB23
namespace Go.Hp.T
open Go Go.RowKit Go.Slot Go.Hp Go.Slot.T
set_option maxRecDepth 10000
set_option maxHeartbeats 4000000
def thR (x:Th):Rs:=⟨x.t,x.i,x.c⟩
def thP (p:Th×Int):Rs×Int:=(thR p.1,p.2)
theorem v59 {B:Nat} {x:Th} (h:x.G 0 B):(∃ i,x=⟨true,i,none,[]⟩)\/∃ q,x=⟨false,false,some q,[]⟩:=by
 obtain ⟨t,i,c,l⟩:=x
 rcases h with ⟨h1,h2,h3⟩ | ⟨h1,h2,h3,⟨q,h4,_⟩,_⟩
 . simp only at h1 h2 h3;subst h1;subst h2;subst h3;exact .inl ⟨i,rfl⟩
 . simp only at h1 h2 h3 h4;subst h1;subst h2;subst h4;rw [List.eq_nil_of_length_eq_zero h3];exact .inr ⟨q,rfl⟩
theorem ynx (q p:Rat):decide (cmpO (some q) (some p)<=0)=decide (q<=p):=decide_eq_decide.2 (zkr q p)
theorem vyv {B C:Nat} {o:Int} {a b:Th} (ha:a.G 0 B) (hb:b.G 0 C) (ho:6<=o/\o<=13):ariV o (thR a) (thR b)=thP (bif decide (o=8)||decide (o=9) then scaA o a b else bif decide (o=6)||decide (o=7) then sumA o a b else cmpA o a b):=by
 have h:o=6\/o=7\/o=8\/o=9\/o=10\/o=11\/o=12\/o=13:=by omega
 rcases v59 ha with ⟨i,rfl⟩ | ⟨q,rfl⟩
 . rcases v59 hb with ⟨j,rfl⟩ | ⟨p,rfl⟩<;>rcases h with rfl | rfl | rfl | rfl | rfl | rfl | rfl | rfl<;>rfl
 . rcases v59 hb with ⟨j,rfl⟩ | ⟨p,rfl⟩
   . rcases h with rfl | rfl | rfl | rfl | rfl | rfl | rfl | rfl<;>rfl
   . rcases h with rfl | rfl | rfl | rfl | rfl | rfl | rfl | rfl
     . rfl
     . rfl
     . rfl
     . show numV (divO (some q) (some p)) (divE (some q) (some p))=thP (bif decide (¬divE (some ((1:Int):Rat)) (some p)=0) then (Th.zero,15) else (timA ⟨false,false,some q,[]⟩ (divO (some ((1:Int):Rat)) (some p)),0));by_cases hp:p=0
       . subst hp;rfl
       . simp only [divO,divE,hp,decide_false,cond_false];show (Rs.mk false false (some (q / p)),(0:Int))=(Rs.mk false false (some (q*(((1:Int):Rat) / p))),0)
         have e:q / p=q*(((1:Int):Rat) / p):=by
          rw [Rat.div_def,Rat.div_def,show ((1:Int):Rat)=1 from rfl,Rat.one_mul]
         rw [e]
     . show numV (some (min q p)) 0=thP (bif decide ((10:Int)=10)==decide (cmpO (some q) (some p)<=0) then (⟨false,false,some q,[]⟩,0) else (⟨false,false,some p,[]⟩,0));rw [ynx,Rat.min_def];by_cases h:q<=p
       . rw [decide_eq_true h,if_pos h];rfl
       . rw [decide_eq_false h,if_neg h];rfl
     . show numV (some (max q p)) 0=thP (bif decide ((11:Int)=10)==decide (cmpO (some q) (some p)<=0) then (⟨false,false,some q,[]⟩,0) else (⟨false,false,some p,[]⟩,0));rw [ynx,Rat.max_def];by_cases h:q<=p
       . rw [decide_eq_true h,if_pos h];rfl
       . rw [decide_eq_false h,if_neg h];rfl
     . rfl
     . rfl
theorem zm2 {o:Int} {l:List Th} (h:(o=4/\l.length=1)\/((o=14\/o=15)/\l.length=2)):logV o (l.map thR)=thP (logA o l):=by
 rcases h with ⟨rfl,h⟩ | ⟨h,hl⟩
 . match l,h with
   | [⟨t,i,c,m⟩],_=>cases t<;>cases i<;>rfl
 . match l,hl with
   | [⟨t,i,c,m⟩,⟨u,j,d,k⟩],_=>rcases h with rfl | rfl<;>cases t<;>cases u<;>cases i<;>cases j<;>rfl
theorem vx1 {B:Nat} {T:Vt} {s:ByteArray} {k:Th} (h:k.G 0 B):vi3 T s (thR k)=thP (xu8 0 T s k):=by
 unfold vi3 xu8
 cases z2f T s with
 | none=>rfl
 | some t=>
  rcases v59 h with ⟨i,rfl⟩ | ⟨q,rfl⟩
  . rfl
  . show numV (xwc t (some q)).1 (xwc t (some q)).2=thP (bif decide (¬(xwc t (some q)).2=0) then (Th.zero,(xwc t (some q)).2) else (numA 0 (xwc t (some q)).1,0));unfold numV
    cases decide (¬(xwc t (some q)).2=0)<;>rfl
theorem v97 (z:Int) (u:ByteArray):xoq z u=thP (wfn 0 z u):=by
 unfold xoq wfn;by_cases h:¬(xx7 u).2=0
 . rw [decide_eq_true h];rfl
 . rw [decide_eq_false h]
   rcases ver u with ⟨v,h1,_⟩ | ⟨e,he,h1⟩
   . have e1:facO u=some v.f:=by unfold facO;rw [h1];rfl
     rw [e1];rfl
   . rw [h1] at h;exact absurd he h
theorem zr4 {α:Type} {f:α->Th×Int} {f':α->Rs×Int}:∀{l:List α},(∀ y∈l,f' y=thP (f y))->seqV (l.map f')=(match seqA (l.map f) with
 | .inl e=>.inl e
 | .inr rs=>.inr (rs.map thR))
 | [],_=>rfl
 | y::l,h=>by
  rw [List.map_cons,List.map_cons,h y (by simp)];generalize f y=p;obtain ⟨r,e⟩:=p
  show seqV ((thR r,e)::l.map f')=match seqA ((r,e)::l.map f) with
   | .inl e=>.inl e
   | .inr rs=>.inr (rs.map thR)
  rw [seqV,seqA,zr4 (fun z hz=>h z (by simp [hz]))]
  cases decide (¬e=0) with
  | true=>rfl
  | false=>cases seqA (l.map f)<;>rfl
theorem y4y {B:Nat} {V:Va} {W:Vq} {T:Vt} (hB:4300<=B) (hV:Asm 0 B V) (hW:∀ s,z2f W s=(z2f V s).map (·.1)):∀ x:Ex,x.shaped=true->x.wqm=false->x.cal W T=thP (x.aff 0 V T):=by
 refine Ex.ind (fun x ih hsh hcl=>?_);have hG:=xni (T:=T) hB hV;rw [Ex.ypb,Bool.and_eq_true,List.all_eq_true] at hsh;rw [Ex.xrx,Bool.or_eq_false_iff,decide_eq_false_iff_not,List.any_eq_false] at hcl;obtain ⟨hnode,hargs⟩:=hsh
 have ih':∀ y∈x.args,y.cal W T=thP (y.aff 0 V T):=fun y hy=>ih y hy (hargs y hy) (by simpa using hcl.2 y hy)
 rw [Ex.xpb,Ex.yre];by_cases h0:x.op=0
 . rw [decide_eq_true h0,cond_true,cond_true];exact v97 _ _
 rw [decide_eq_false h0,cond_false,cond_false];by_cases h01:x.op=1
 . rw [decide_eq_true h01,cond_true,cond_true];unfold x5a y21;rw [hW x.name]
   cases z2f V x.name with
   | none=>rfl
   | some f=>
    show (Rs.mk false false (some (f.1+((0:Int):Rat))),(0:Int))=_;rw [show ((0:Int):Rat)=0 from rfl,Rat.add_zero];rfl
 rw [decide_eq_false h01,cond_false,cond_false]
 have hne:x.args.length≠0:=fun h=>by
  unfold xes at hnode;rw [decide_eq_false h0,decide_eq_false h01,h] at hnode;simp at hnode
 obtain ⟨hl2,hl3⟩:=zd3 hnode hcl.1 hne;by_cases h5:x.op=5
 . rw [decide_eq_true h5,cond_true,cond_true];have hl:=hl3 h5;unfold chA chV;rw [getD_map (show 0<x.args.length by omega),getD_map (show 1<x.args.length by omega),getD_map (show 2<x.args.length by omega),getD_map (show 0<x.args.length by omega),getD_map (show 1<x.args.length by omega),getD_map (show 2<x.args.length by omega)];rw [ih' _ (y7p (show 0<x.args.length by omega)),ih' _ (y7p (show 1<x.args.length by omega)),ih' _ (y7p (show 2<x.args.length by omega))];generalize (x.args.getD 0 default).aff 0 V T=p;obtain ⟨⟨t,i,c,l⟩,e⟩:=p;show (bif decide (¬e=0) then _ else bif !t then _ else bif i then _ else _)=thP (bif decide (¬e=0) then _ else bif !t then _ else bif i then _ else _)
   cases decide (¬e=0)<;>cases t<;>cases i<;>rfl
 rw [decide_eq_false h5,cond_false,cond_false,zr4 ih']
 cases hs:seqA (x.args.map (Ex.aff 0 V T)) with
 | inl e=>rfl
 | inr rs=>
  obtain ⟨hlen,hget⟩:=z8d hs;rw [List.length_map] at hlen hget;show opV T x.op x.name (rs.map thR)=thP (opA 0 T x.op x.name rs)
  have g:∀ i,i<x.args.length->(rs.getD i default).G 0 (B*(x.args.getD i default).nd-5):=fun i hi=>by
   have h1:=hget i hi;rw [getD_map hi] at h1;have hm:=y7p hi
   have:=hG _ (hargs _ hm) (by simpa using hcl.2 _ hm) (by rw [h1])
   rwa [h1] at this
  unfold opV opA;have r0:(rs.map thR).getD 0 default=thR (rs.getD 0 default):=getD_map (by omega);rw [r0];by_cases h2:x.op=2
  . rw [decide_eq_true h2,cond_true,cond_true];exact vx1 (g 0 (by omega))
  rw [decide_eq_false h2,cond_false,cond_false];have har:=wav hnode hne h2 hcl.1 h5
  cases hlg:decide (x.op=4)||decide (x.op=14)||decide (x.op=15) with
  | true=>
   rw [cond_true,cond_true];simp only [Bool.or_eq_true,decide_eq_true_eq] at hlg;exact zm2 (by omega)
  | false=>
   rw [cond_false,cond_false];simp only [Bool.or_eq_false_iff,decide_eq_false_iff_not] at hlg;have r1:(rs.map thR).getD 1 default=thR (rs.getD 1 default):=getD_map (by omega);rw [r1];exact vyv (g 0 (by omega)) (g 1 (by omega)) (by omega)
section
variable {α β:Type} (nm:β->ByteArray) (val:β->α) (bad:β->Bool)
def gN (V:List (ByteArray×α)):List β->Option (List (ByteArray×α))
 | []=>some V
 | b::l=>bif bad b then none else gN (updF V (nm b) (val b)) l
end
section
variable {α β:Type} {nm:β->ByteArray} {val:β->α} {bad:β->Bool} {ok:β->Bool} {out:ByteArray->Bool}
theorem vta (d:α) (s:ByteArray):∀ V:List (ByteArray×α),(updF V s d).length=bif (z2f V s).isSome then V.length else V.length+1
 | []=>rfl
 | p::V=>by
  have ih:=vta d s V;rw [updF,z2f]
  cases seq s p.1 with
  | true=>rfl
  | false=>
   simp only [cond_false,List.length_cons,ih]
   cases (z2f V s).isSome<;>rfl
theorem ypk:∀{l:List β} {V W:List (ByteArray×α)},gN nm val bad V l=some W->W.length<=V.length+l.length
 | [],V,W,h=>by rw [gN] at h;cases h;exact Nat.le_refl _
 | b::l,V,W,h=>by
  rw [gN] at h
  cases hb:bad b with
  | true=>rw [hb] at h;cases h
  | false=>
   rw [hb] at h;have h1:=ypk h;rw [vta] at h1;rw [List.length_cons]
   cases hl:(z2f V (nm b)).isSome<;>rw [hl] at h1<;>simp only [cond_true,cond_false] at h1<;>omega
theorem wvo:∀{l:List β} {V:List (ByteArray×α)},(∀ b∈l,bad b=(out (nm b)||!isName (nm b)||isWord (nm b)||!ok b))->gE nm ok val out V l=(match gN nm val bad V l with
 | none=>none
 | some W=>bif decide (W.length=V.length+l.length) then some W else none)
 | [],V,_=>by
  show some V=bif decide (V.length=V.length+0) then some V else none
  rw [Nat.add_zero,decide_eq_true rfl];rfl
 | b::l,V,h=>by
  have hb:=h b (by simp)
  have ih:=fun V=>wvo (V:=V) (fun c hc=>h c (by simp [hc]):∀ c∈l,_)
  rw [gE,gN]
  have e:((z2f V (nm b)).isSome||out (nm b)||!isName (nm b)||isWord (nm b)||!ok b)=((z2f V (nm b)).isSome||bad b):=by
   rw [hb];simp only [Bool.or_assoc]
  rw [e]
  cases bad b with
  | true=>rw [Bool.or_true];rfl
  | false=>
   rw [Bool.or_false];have hs:=vta (val b) (nm b) V
   cases hl:(z2f V (nm b)).isSome with
   | true=>
    rw [hl] at hs;simp only [cond_true,cond_false] at hs ⊢
    cases hg:gN nm val bad (updF V (nm b) (val b)) l with
    | none=>rfl
    | some W=>
     have:=ypk hg
     have hlt:¬W.length=V.length+(b::l).length:=by rw [List.length_cons];omega
     show none=bif decide (W.length=V.length+(b::l).length) then some W else none
     rw [decide_eq_false hlt];rfl
   | false=>
    rw [hl] at hs;simp only [cond_false] at hs ⊢;rw [ih]
    cases hg:gN nm val bad (updF V (nm b) (val b)) l with
    | none=>rfl
    | some W=>
     simp only [hs,List.length_cons,show V.length+1+l.length=V.length+(l.length+1) by omega]
theorem wp1 {out' : ByteArray → Bool} : ∀ {l : List β} {V W W' : List (ByteArray × α)}, gE nm ok val out V l = some W → gE nm ok val out' V l = some W' → W = W'
 | [],V,W,W',h,h'=>by rw [gE] at h h';cases h;cases h';rfl
 | b::l,V,W,W',h,h'=>by
  rw [gE] at h h'
  cases h1:((z2f V (nm b)).isSome||out (nm b)||!isName (nm b)||isWord (nm b)||!ok b) with
  | true=>rw [h1] at h;cases h
  | false=>cases h2:((z2f V (nm b)).isSome||out' (nm b)||!isName (nm b)||isWord (nm b)||!ok b) with
   | true=>rw [h2] at h';cases h'
   | false=>
    rw [h1] at h;rw [h2] at h';exact wp1 h h'
theorem zkk {γ:Type} {α':Type} {nm':γ->ByteArray} {ok':γ->Bool} {val':γ->α'} {tok:Tb->Bool} {bs:List β} {cs:List γ} {ms:List Tb} {V:List (ByteArray×α)} {V':List (ByteArray×α')} {T T':List (ByteArray×Tb)} (h:entG nm ok val tok bs ms=some (V,T)) (h':entG nm' ok' val' tok cs ms=some (V',T')):T=T':=by
 unfold entG at h h'
 cases h1:gE nm ok val (fun _=>false) [] bs with
 | none=>rw [h1] at h;cases h
 | some W=>cases h2:gE nm' ok' val' (fun _=>false) [] cs with
  | none=>rw [h2] at h';cases h'
  | some W'=>
   rw [h1] at h;rw [h2] at h';simp only at h h';obtain ⟨X,hX,e⟩:=Option.map_eq_some_iff.1 h;obtain ⟨X',hX',e'⟩:=Option.map_eq_some_iff.1 h'
   cases e;cases e';exact wp1 hX hX'
theorem zju {γ:Type} {nm':γ->ByteArray} {F:β->γ} (h:∀ b,nm' (F b)=nm b) (l:List β) (s:ByteArray):fnd nm' (l.map F) s=(fnd nm l s).map F:=by
 induction l with
 | nil=>rfl
 | cons b l ih=>
  rw [List.map_cons,vvu,vvu,ih,h]
  cases seq s (nm b)<;>rfl
end
theorem vx2 (n:Nat):∀(l:List Sl) (V:Va),gS n V l=gN Sl.name Sl.val (fun s=>!isName s.name||isWord s.name||!decide (s.f.ok n)) V l
 | [],V=>rfl
 | s::l,V=>by rw [gS,gN,vx2 n l]
theorem zct (V:Va):∀(l:List Tb) (T:Vt),gTb V T l=gN Tb.name id (fun t=>(z2f V t.name).isSome||isWord t.name||!tbOk t) T l
 | [],T=>rfl
 | t::l,T=>by rw [gTb,gN,zct V l];rfl
theorem zey (a b:Nat):decide ((a:Int)=b)=decide (a=b):=decide_eq_decide.2 (by omega)
theorem y3j (ss:List Sl) (ms:List Tb):entA ss ms=entG Sl.name (fun s=>decide (s.f.ok (nOf ss))) Sl.val tbOk ss ms:=by
 unfold entA entG;rw [vx2,wvo (bad:=fun s:Sl=>!isName s.name||isWord s.name||!decide (s.f.ok (nOf ss))) (fun b _=>by rw [Bool.false_or])]
 cases gN Sl.name Sl.val (fun s=>!isName s.name||isWord s.name||!decide (s.f.ok (nOf ss))) [] ss with
 | none=>rfl
 | some V=>
  simp only [zct,zey,List.length_nil,Nat.zero_add]
  have hg:=wvo (nm:=Tb.name) (val:=id) (ok:=tbOk) (out:=fun s=>(z2f V s).isSome) (bad:=fun t:Tb=>(z2f V t.name).isSome||isWord t.name||!tbOk t) (l:=ms) (V:=[]) (fun t _=>by
   cases ht:tbOk t with
   | true=>rw [(yg5 ht).2.1];cases (z2f V t.name).isSome<;>cases isWord t.name<;>rfl
   | false=>simp only [Bool.not_false,Bool.or_true])
  simp only [List.length_nil,Nat.zero_add] at hg
  cases hd:decide (V.length=ss.length) with
  | false=>
   cases gN Tb.name id (fun t=>(z2f V t.name).isSome||isWord t.name||!tbOk t) [] ms<;>rfl
  | true=>
   simp only [Bool.true_and,cond_true,hg]
   cases gN Tb.name id (fun t=>(z2f V t.name).isSome||isWord t.name||!tbOk t) [] ms with
   | none=>rfl
   | some T=>
    simp only
    cases decide (T.length=ms.length)<;>rfl
theorem y9t {α γ:Type} (F:α->γ) (s:ByteArray):∀ V:List (ByteArray×α),z2f (V.map fun p=>(p.1,F p.2)) s=(z2f V s).map F
 | []=>rfl
 | p::V=>by
  rw [List.map_cons,z2f,z2f,y9t F s V]
  cases seq s p.1<;>rfl
theorem Sl.xd3 {s:Sl} {n:Nat} (h:s.f.ok n):s.f=Af.of s.val.1 s.val.2/\s.val.2.length=n:=by
 obtain ⟨k,cs,e,hl⟩:=Af.vy4 h
 have e2:s.val=(k,cs):=by
  unfold Sl.val;rw [e];show ((Fc.of k).val,(cs.map Fc.of).map Fc.val)=_;rw [List.map_map,Fc.xhg]
  congr 1
  conv=>rhs;rw [<-List.map_id cs]
  exact List.map_congr_left (fun q _=>Fc.xhg q)
 rw [e2];exact ⟨e,hl⟩
def Sl.sm (B:Nat) (s:Sl):Prop:=s.f.c.sz+10<=B/\∀ f∈s.f.l,f.sz+10<=B
theorem zd5 {B:Nat} {ss:List Sl} {ms:List Tb} {V:Va} {T:Vt} (h:entA ss ms=some (V,T)) (hs:∀ s∈ss,s.sm B):Asm (nOf ss) B V:=fun s f hf=>by
 rw [y3j] at h;obtain ⟨h1,_,_,h4,_⟩:=vxk h;rw [h4 s] at hf;obtain ⟨x,hx,rfl⟩:=Option.map_eq_some_iff.1 hf;have hm:=(ypj hx).1;obtain ⟨e,hl⟩:=Sl.xd3 (of_decide_eq_true (h1 x hm));obtain ⟨b1,b2⟩:=hs x hm;rw [e] at b1 b2;exact ⟨hl,b1,fun q hq=>b2 (Fc.of q) (List.mem_map_of_mem hq)⟩
theorem yxy {ss:List Sl} {ms:List Tb} {V:Va} {T:Vt} (h:entA ss ms=some (V,T)) (hb:∀ t∈ms,t.Sm):∀ s t,z2f T s=some t->t.Sm/\tbOk t=true:=fun s t ht=>by
 rw [y3j] at h;obtain ⟨_,h2,_,_,h5⟩:=vxk h;rw [h5 s] at ht;have hm:=(ypj ht).1;exact ⟨hb t hm,h2 t hm⟩
theorem v57 {x:Ex} {ss:List Sl} {ms:List Tb} {r:Th} (h:affF x ss ms=(r,0)):zqs x=true/\x.wqm=false/\∃ V T,entA ss ms=some (V,T)/\x.aff (nOf ss) V T=(r,0)/\r.t=false:=by
 unfold affF at h
 cases h1:!zqs x||x.wqm with
 | true=>rw [h1] at h;cases h
 | false=>
  rw [h1] at h;rw [Bool.or_eq_false_iff] at h1;refine ⟨by simpa using h1.1,h1.2,?_⟩
  cases he:entA ss ms with
  | none=>rw [he] at h;cases h
  | some p=>
   obtain ⟨V,T⟩:=p;rw [he] at h;refine ⟨V,T,rfl,?_⟩;simp only [cond_false] at h;generalize x.aff (nOf ss) V T=p at h;obtain ⟨t,e⟩:=p;by_cases hd:¬e=0
   . simp only [decide_eq_true hd,cond_true] at h;exact absurd (congrArg Prod.snd h) hd
   . have hd':=Classical.not_not.1 hd;subst hd';simp only [not_true_eq_false,decide_false,cond_false] at h
     cases ht:t.t with
     | true=>rw [ht] at h;cases h
     | false=>
      rw [ht] at h;simp only [cond_false] at h
      cases h;exact ⟨rfl,ht⟩
theorem yvx {x:Ex} (h:zqs x=true):x.shaped=true:=by unfold zqs at h;rw [Bool.and_eq_true] at h;exact h.2
theorem zmz {B:Nat} (hB:4300<=B) {x:Ex} {ss:List Sl} {ms:List Tb} {vs:List Rat} {r:Th} (hs:∀ s∈ss,s.sm B) (hn:vs.length=nOf ss) (h:affF x ss ms=(r,0)) :
 ∃ q,r.c=some q/\r.t=false/\r.l.length=vs.length/\valF x (ss.map fun s=>⟨s.name,s.f.at' (vs.map Fc.of)⟩) ms=(⟨false,false,some (q+dot r.l vs)⟩,0):=by
 obtain ⟨h1,h2,V,T,he,ha,ht⟩:=v57 h;have hV:=zd5 he hs;have hG:=xni (T:=T) hB hV x (yvx h1) h2 (by rw [ha]);rw [ha] at hG;obtain ⟨hi,hl,⟨q,hq,_⟩,_⟩:=hG.form ht;refine ⟨q,hq,ht,by rw [hl,hn],?_⟩;have he':=he;rw [y3j] at he';obtain ⟨a1,a2,a3,a4,a5⟩:=vxk he'
 have hval:∀ s∈ss,s.f.at' (vs.map Fc.of)=Fc.of (s.val.1+dot s.val.2 vs):=fun s hm=>by
  obtain ⟨e,hl⟩:=Sl.xd3 (of_decide_eq_true (a1 s hm));rw [e,Af.vei _ _ _ (by rw [hl,hn]),zh9]
 obtain ⟨⟨W,T'⟩,hp⟩:=zuo (nm:=Bd.name) (ok:=fun b=>decide b.v.ok) (val:=fun b=>b.v.val) (tok:=tbOk) (bs:=ss.map fun s=>⟨s.name,s.f.at' (vs.map Fc.of)⟩) (ms:=ms)
  (fun b hb=>by
    obtain ⟨s,hm,rfl⟩:=List.mem_map.1 hb
    exact decide_eq_true (by show (s.f.at' _).ok;rw [hval s hm];exact Fc.xd3 _)) a2 (by rw [List.map_map];exact a3)
 have hT:=zkk he' hp;subst hT;obtain ⟨_,_,_,b4,_⟩:=vxk hp
 have hW:∀ s,z2f W s=(z2f (V.map fun p=>(p.1,(subC (vs.map fun v=>(v,[])) p.2.2 p.2.1,subL 0 (vs.map fun v=>(v,[])) p.2.2))) s).map (·.1):=fun s=>by
  rw [b4 s,zju (nm:=Sl.name) (F:=fun s:Sl=>(⟨s.name,s.f.at' (vs.map Fc.of)⟩:Bd)) (fun _=>rfl),y9t (fun f:Fm=>(subC (vs.map fun v=>(v,[])) f.2 f.1,subL 0 (vs.map fun v=>(v,[])) f.2)),a4 s]
  cases hf:fnd Sl.name ss s with
  | none=>rfl
  | some y=>
   show some ((y.f.at' _).val)=some (subC _ y.val.2 y.val.1);rw [hval y (ypj hf).1,Fc.xhg];unfold subC;rw [List.map_map,show ((fun f:Fm=>f.1)∘fun v:Rat=>((v,[]):Fm))=id from rfl,List.map_id]
 have hsub:=we1 (m:=0) (V':=V.map fun p=>(p.1,(subC (vs.map fun v=>(v,[])) p.2.2 p.2.1,subL 0 (vs.map fun v=>(v,[])) p.2.2))) (g:=vs.map fun v=>(v,[])) hB hV (fun s=>y9t (fun f:Fm=>(subC (vs.map fun v=>(v,[])) f.2 f.1,subL 0 (vs.map fun v=>(v,[])) f.2)) s V) x (yvx h1) h2 (by rw [ha]);rw [ha] at hsub
 have hq0:∀ y:Rat,∃ C,4300<=C/\qs y+10<=C:=fun y=>⟨4300+qs y,by omega,by omega⟩
 have hV0:∃ C,4300<=C/\Asm 0 C (V.map fun p=>(p.1,(subC (vs.map fun v=>(v,[])) p.2.2 p.2.1,subL 0 (vs.map fun v=>(v,[])) p.2.2))):=by
  have hb:∀ l:Va,∃ C,4300<=C/\∀ p∈l,qs (subC (vs.map fun v=>(v,[])) p.2.2 p.2.1)+10<=C:=fun l=>by
   induction l with
   | nil=>exact ⟨4300,Nat.le_refl _,fun p hp=>by cases hp⟩
   | cons p l ih=>
    obtain ⟨C,c1,c2⟩:=ih;refine ⟨C+(qs (subC (vs.map fun v=>(v,[])) p.2.2 p.2.1)+10),by omega,fun p' hp=>?_⟩
    rcases List.mem_cons.1 hp with rfl | hp
    . omega
    . have:=c2 p' hp;omega
  obtain ⟨C,c1,c2⟩:=hb V;refine ⟨C,c1,fun s f hf=>?_⟩;rw [y9t (fun f:Fm=>(subC (vs.map fun v=>(v,[])) f.2 f.1,subL 0 (vs.map fun v=>(v,[])) f.2))] at hf;obtain ⟨f0,hf0,rfl⟩:=Option.map_eq_some_iff.1 hf
  have hmem:∀ l:Va,z2f l s=some f0->∃ k,(k,f0)∈l:=fun l=>by
   induction l with
   | nil=>intro h;cases h
   | cons p l ih=>
    intro h;rw [z2f] at h
    cases hs2:seq s p.1 with
    | true=>rw [hs2] at h;cases h;exact ⟨p.1,by simp⟩
    | false=>
     rw [hs2] at h;obtain ⟨k,hk⟩:=ih h;exact ⟨k,by simp [hk]⟩
  obtain ⟨k,hk⟩:=hmem V hf0
  exact ⟨zdi _ _ _,c2 _ hk,fun q hq=>by
   have:=zdi 0 (vs.map fun v=>((v,[]):Fm)) f0.2
   rw [List.eq_nil_of_length_eq_zero this] at hq
   cases hq⟩
 obtain ⟨C,hC,hV0⟩:=hV0;have hcal:=y4y (T:=T) hC hV0 hW x (yvx h1) h2;rw [hsub] at hcal
 have e:valF x (ss.map fun s=>⟨s.name,s.f.at' (vs.map Fc.of)⟩) ms=x.cal W T:=by
  unfold valF;rw [h1,h2,show entF (ss.map fun s=>⟨s.name,s.f.at' (vs.map Fc.of)⟩) ms=some (W,T) from hp];rfl
 rw [e,hcal];show (Rs.mk r.t r.i (r.c.map (subC _ r.l)),(0:Int))=_;rw [ht,hi,hq];show (Rs.mk false false (some (subC _ r.l q)),(0:Int))=_;unfold subC;rw [List.map_map,show ((fun f:Fm=>f.1)∘fun v:Rat=>((v,[]):Fm))=id from rfl,List.map_id]
def vy0 (i n:Nat):List Rat:=(List.range n).map fun k=>if i=k then 1 else 0
theorem xse (n:Nat):vy0 0 (n+1)=1::List.replicate n 0:=by
 unfold vy0;rw [List.range_succ_eq_map,List.map_cons,List.map_map,if_pos rfl]
 congr 1
 apply List.ext_getElem
 . simp
 . intro i h1 h2;simp
theorem w5m (i n:Nat):vy0 (i+1) (n+1)=0::vy0 i n:=by
 unfold vy0;rw [List.range_succ_eq_map,List.map_cons,List.map_map,if_neg (by omega)]
 congr 1
 exact List.map_congr_left (fun k _=>by simp only [Function.comp,Nat.succ_eq_add_one,Nat.add_right_cancel_iff])
theorem x6r:∀(vs:List Rat) (i:Nat),i<vs.length->dot (vy0 i vs.length) vs=vs.getD i 0
 | [],i,h=>by simp at h
 | v::vs,0,_=>by
  rw [List.length_cons,xse,wkb,vcw _ (fun q hq=>List.eq_of_mem_replicate hq),Rat.one_mul,Rat.add_zero];rfl
 | v::vs,i+1,h=>by
  rw [List.length_cons,w5m,wkb,x6r vs i (by simpa using h),Rat.zero_mul,Rat.zero_add];rfl
end Go.Hp.T
namespace Go.Hp.T
open Go Go.RowKit Go.Slot Go.Hp Go.Slot.T
open Go.Proofs.Tryz (prog)
attribute [local irreducible] hide RH
set_option maxRecDepth 10000
set_option maxHeartbeats 4000000
variable {Γ:List (Nat×List Cell)}
theorem yqd {a b c:Rat} (h1:a<b) (h2:b<=c):a<c:=Rat.not_le.1 (fun h=>Rat.not_le.2 h1 (Rat.le_trans h2 h))
theorem x0d {a b c:Rat} (h1:a<=b) (h2:b<c):a<c:=Rat.not_le.1 (fun h=>Rat.not_le.2 h2 (Rat.le_trans h h1))
theorem yvt {a b c d:Rat} (h1:a<=c) (h2:b<=d):a+b<=c+d:=Rat.le_trans (Rat.add_le_add_right.2 h1) (Rat.add_le_add_left.2 h2)
theorem wsu {x:Rat} (h:x≠0):(-x)⁻¹ = -x⁻¹:=by
 have h':-x≠0:=fun e=>h (by have:=congrArg (fun y=>-y) e;simp only [Rat.neg_neg,Rat.neg_zero] at this;exact this)
 have e1:-x * -x⁻¹=1:=by rw [Rat.neg_mul,Rat.mul_neg,Rat.neg_neg,Rat.mul_inv_cancel _ h]
 have e2:(-x)⁻¹*(-x * -x⁻¹) = -x⁻¹:=by rw [<-Rat.mul_assoc,Rat.inv_mul_cancel _ h',Rat.one_mul]
 rw [<-e2,e1,Rat.mul_one]
structure Iv where
 lo:Rat
 hi:Rat
 h:lo<=hi
theorem Iv.ext' {a b:Iv} (h1:a.lo=b.lo) (h2:a.hi=b.hi):a=b:=by
 cases a;cases b;cases h1;cases h2;rfl
instance:DecidableEq Iv:=fun a b=>decidable_of_iff (a.lo=b.lo/\a.hi=b.hi) ⟨fun h=>Iv.ext' h.1 h.2,fun h=>by rw [h];exact ⟨rfl,rfl⟩⟩
def Iv.pt (q:Rat):Iv:=⟨q,q,Rat.le_refl⟩
instance:Inhabited Iv:=⟨Iv.pt 0⟩
def Iv.neg (a:Iv):Iv:=⟨-a.hi,-a.lo,Rat.neg_le_neg a.h⟩
def Iv.add (a b:Iv):Iv:=⟨a.lo+b.lo,a.hi+b.hi,yvt a.h b.h⟩
def Iv.sub (a b:Iv):Iv:=a.add b.neg
def mn4 (a b c d:Rat):Rat:=min (min (min a b) c) d
def mx4 (a b c d:Rat):Rat:=max (max (max a b) c) d
theorem x95 (a b:Rat):min a b<=a:=by
 rw [Rat.min_def];split
 . exact Rat.le_refl
 . rename_i h;exact Rat.le_of_lt (Rat.not_le.1 h)
theorem v82 (a b:Rat):min a b<=b:=by
 rw [Rat.min_def];split
 . assumption
 . exact Rat.le_refl
theorem z2m (a b:Rat):a<=max a b:=by
 rw [Rat.max_def];split
 . assumption
 . exact Rat.le_refl
theorem xta (a b:Rat):b<=max a b:=by
 rw [Rat.max_def];split
 . exact Rat.le_refl
 . rename_i h;exact Rat.le_of_lt (Rat.not_le.1 h)
theorem xed {a b c:Rat} (h1:c<=a) (h2:c<=b):c<=min a b:=by
 rw [Rat.min_def];split<;>assumption
theorem wja {a b c:Rat} (h1:a<=c) (h2:b<=c):max a b<=c:=by
 rw [Rat.max_def];split<;>assumption
theorem w8f (a b:Rat):min a b=a\/min a b=b:=by
 rw [Rat.min_def];split
 . exact .inl rfl
 . exact .inr rfl
theorem xzd (a b:Rat):max a b=a\/max a b=b:=by
 rw [Rat.max_def];split
 . exact .inr rfl
 . exact .inl rfl
theorem xx9 (a b c d:Rat):mn4 a b c d<=a/\mn4 a b c d<=b/\mn4 a b c d<=c/\mn4 a b c d<=d:=by
 have h1:=x95 (min (min a b) c) d;have h2:=v82 (min (min a b) c) d;have h3:=x95 (min a b) c;have h4:=v82 (min a b) c;exact ⟨Rat.le_trans h1 (Rat.le_trans h3 (x95 a b)),Rat.le_trans h1 (Rat.le_trans h3 (v82 a b)),Rat.le_trans h1 h4,h2⟩
theorem zl0 (a b c d:Rat):a<=mx4 a b c d/\b<=mx4 a b c d/\c<=mx4 a b c d/\d<=mx4 a b c d:=by
 have h1:=z2m (max (max a b) c) d;have h2:=xta (max (max a b) c) d;have h3:=z2m (max a b) c;have h4:=xta (max a b) c;exact ⟨Rat.le_trans (z2m a b) (Rat.le_trans h3 h1),Rat.le_trans (xta a b) (Rat.le_trans h3 h1),Rat.le_trans h4 h1,h2⟩
theorem wik (a b c d:Rat):mn4 a b c d=a\/mn4 a b c d=b\/mn4 a b c d=c\/mn4 a b c d=d:=by
 unfold mn4
 rcases w8f (min (min a b) c) d with h | h<;>rw [h]
 . rcases w8f (min a b) c with h | h<;>rw [h]
   . rcases w8f a b with h | h<;>rw [h]<;>simp
   . simp
 . simp
theorem vve (a b c d:Rat):mx4 a b c d=a\/mx4 a b c d=b\/mx4 a b c d=c\/mx4 a b c d=d:=by
 unfold mx4
 rcases xzd (max (max a b) c) d with h | h<;>rw [h]
 . rcases xzd (max a b) c with h | h<;>rw [h]
   . rcases xzd a b with h | h<;>rw [h]<;>simp
   . simp
 . simp
def Iv.round (a b c d:Rat):Iv:=⟨mn4 a b c d,mx4 a b c d,Rat.le_trans (xx9 a b c d).1 (zl0 a b c d).1⟩
def Iv.mul (a b:Iv):Iv:=Iv.round (a.lo*b.lo) (a.lo*b.hi) (a.hi*b.lo) (a.hi*b.hi)
def Iv.hull (a b:Iv):Iv:=Iv.round a.lo a.hi b.lo b.hi
def Iv.has (a:Iv) (q:Rat):Bool:=decide (a.lo<=q)&&decide (q<=a.hi)
theorem xku {x y:Rat} (h:x<=y) (hp:0<x):1 / y<=1 / x:=by
 have hy:0<y:=yqd hp h;rw [Rat.div_def,Rat.div_def,Rat.one_mul,Rat.one_mul];have h1:0<x⁻¹:=Rat.inv_pos.2 hp;have h2:0<y⁻¹:=Rat.inv_pos.2 hy;have h3:=Rat.mul_le_mul_of_nonneg_right (Rat.mul_le_mul_of_nonneg_left h (Rat.le_of_lt h1)) (Rat.le_of_lt h2)
 rwa [Rat.inv_mul_cancel _ (Rat.ne_of_gt hp),Rat.one_mul,Rat.mul_assoc,Rat.mul_inv_cancel _ (Rat.ne_of_gt hy),Rat.mul_one] at h3
theorem vu0 {x y:Rat} (h:x<=y) (hn:y<0):1 / y<=1 / x:=by
 have h1:=xku (x:=-y) (y:=-x) (Rat.neg_le_neg h) (by have:=Rat.neg_lt_neg hn;rwa [Rat.neg_zero] at this);have hx:x≠0:=Rat.ne_of_lt (x0d h hn);have hy:y≠0:=Rat.ne_of_lt hn;rw [Rat.div_def,Rat.div_def,Rat.one_mul,Rat.one_mul,wsu hx,wsu hy] at h1;rw [Rat.div_def,Rat.div_def,Rat.one_mul,Rat.one_mul]
 have:=Rat.neg_le_neg h1
 rwa [Rat.neg_neg,Rat.neg_neg] at this
theorem Iv.v7v {b:Iv} (h:b.has 0=false):1 / b.hi<=1 / b.lo:=by
 unfold Iv.has at h;rw [Bool.and_eq_false_iff] at h
 rcases h with h | h
 . exact xku b.h (Rat.not_le.1 (of_decide_eq_false h))
 . exact vu0 b.h (Rat.not_le.1 (of_decide_eq_false h))
def Iv.inv (b:Iv):Iv:=if h:b.has 0=false then ⟨1 / b.hi,1 / b.lo,Iv.v7v h⟩ else b
def Iv.minI (a b:Iv):Iv:=⟨min a.lo b.lo,min a.hi b.hi,xed (Rat.le_trans (x95 _ _) a.h) (Rat.le_trans (v82 _ _) b.h)⟩
def Iv.maxI (a b:Iv):Iv:=⟨max a.lo b.lo,max a.hi b.hi,wja (Rat.le_trans a.h (z2m _ _)) (Rat.le_trans b.h (xta _ _))⟩
def Iv.meets (a b:Iv):Bool:=decide (max a.lo b.lo<=min a.hi b.hi)
abbrev ivC (v:Iv):List Cell:=[.raw (.int .i64 (qF (some v.lo)).s),.ints .i64 (qF (some v.lo)).L,.raw (.int .i64 (qF (some v.lo)).t),.ints .i64 (qF (some v.lo)).M,.raw (.int .i64 (qF (some v.hi)).s),.ints .i64 (qF (some v.hi)).L,.raw (.int .i64 (qF (some v.hi)).t),.ints .i64 (qF (some v.hi)).M]
def ivS (v:Iv):Sc:=⟨qF (some v.lo),qF (some v.hi)⟩
abbrev ivZ (v:Iv):Nat:=max (qz (some v.lo)) (qz (some v.hi))
theorem zlo {v:Iv} {n m:Nat} (h:ivZ v<=n) (hm:n<=m:=by decide):qz (some v.lo)<=m:=Nat.le_trans (Nat.le_max_left _ _) (Nat.le_trans h hm)
theorem zhi {v:Iv} {n m:Nat} (h:ivZ v<=n) (hm:n<=m:=by decide):qz (some v.hi)<=m:=Nat.le_trans (Nat.le_max_right _ _) (Nat.le_trans h hm)
theorem wrj (v:Iv):(ivS v).ok:=⟨Fc.xd3 _,Fc.xd3 _,by
 have:=v.h
 show Fc.cmp (Fc.of v.lo) (Fc.of v.hi)<=0;rw [Fc.w7n]
 rcases Fc.yyw v.lo v.hi with ⟨_,e⟩ | ⟨_,e⟩ | ⟨q,e⟩<;>rw [e]
 . decide
 . decide
 . exact absurd q (Rat.not_lt.2 this)⟩
theorem vcc {x y:Rat}:decide (Fc.ordQ x y<=0)=decide (x<=y):=by
 apply decide_eq_decide.2
 rcases Fc.yyw x y with ⟨q,e⟩ | ⟨q,e⟩ | ⟨q,e⟩<;>rw [e]
 . exact ⟨fun _=>Rat.le_of_lt q,fun _=>by decide⟩
 . exact ⟨fun _=>by rw [q];exact Rat.le_refl,fun _=>by decide⟩
 . exact ⟨fun h=>absurd h (by decide),fun h=>absurd q (Rat.not_lt.2 h)⟩
theorem y0b {x y:Rat}:decide (Fc.ordQ x y<0)=decide (x<y):=by
 apply decide_eq_decide.2
 rcases Fc.yyw x y with ⟨q,e⟩ | ⟨q,e⟩ | ⟨q,e⟩<;>rw [e]
 . exact ⟨fun _=>q,fun _=>by decide⟩
 . exact ⟨fun h=>absurd h (by decide),fun h=>absurd (q▸h) Rat.lt_irrefl⟩
 . exact ⟨fun h=>absurd h (by decide),fun h=>absurd (Rat.le_of_lt h) (Rat.not_le.2 q)⟩
theorem vnd {s:Sc} (h:s.ok):∃ v:Iv,s=ivS v:=by
 obtain ⟨h1,h2,h3⟩:=h;obtain ⟨p,hp⟩:=zr1 h1;obtain ⟨q,hq⟩:=zr1 h2;obtain ⟨l,u⟩:=s;simp only at hp hq;subst hp;subst hq
 have h4:Fc.ordQ p q<=0:=by rw [<-Fc.w7n];exact h3
 exact ⟨⟨p,q,of_decide_eq_true (vcc▸decide_eq_true h4)⟩,rfl⟩
theorem yy8 (m:Rat):∀ l:List Rat,Sc.least (Fc.of m) (l.map Fc.of)=Fc.of (l.foldl min m)
 | []=>rfl
 | x::l=>by
  have e:(if Fc.cmp (Fc.of x) (Fc.of m)<0 then Fc.of x else Fc.of m)=Fc.of (min m x):=by
   rw [Fc.w7n,Rat.min_def]
   rcases Fc.yyw x m with ⟨q,e⟩ | ⟨q,e⟩ | ⟨q,e⟩<;>rw [e]
   . rw [if_pos (by decide),if_neg (Rat.not_le.2 q)]
   . rw [if_neg (by decide),q,if_pos Rat.le_refl]
   . rw [if_neg (by decide),if_pos (Rat.le_of_lt q)]
  show Sc.least (if Fc.cmp (Fc.of x) (Fc.of m)<0 then Fc.of x else Fc.of m) (l.map Fc.of)=_;rw [e];exact yy8 (min m x) l
theorem zu7 (m:Rat):∀ l:List Rat,Sc.viq (Fc.of m) (l.map Fc.of)=Fc.of (l.foldl max m)
 | []=>rfl
 | x::l=>by
  have e:(if Fc.cmp (Fc.of x) (Fc.of m) > 0 then Fc.of x else Fc.of m)=Fc.of (max m x):=by
   rw [Fc.w7n,Rat.max_def]
   rcases Fc.yyw x m with ⟨q,e⟩ | ⟨q,e⟩ | ⟨q,e⟩<;>rw [e]
   . rw [if_neg (by decide),if_neg (Rat.not_le.2 q)]
   . rw [if_neg (by decide),q,if_pos Rat.le_refl]
   . rw [if_pos (by decide),if_pos (Rat.le_of_lt q)]
  show Sc.viq (if Fc.cmp (Fc.of x) (Fc.of m) > 0 then Fc.of x else Fc.of m) (l.map Fc.of)=_;rw [e];exact zu7 (max m x) l
theorem v2d (a b c d:Rat):Sc.wm5 [Fc.of a,Fc.of b,Fc.of c,Fc.of d]=ivS (Iv.round a b c d):=by
 have h1:=yy8 a [b,c,d];have h2:=zu7 a [b,c,d];show (⟨Sc.least (Fc.of a) ([b,c,d].map Fc.of),Sc.viq (Fc.of a) ([b,c,d].map Fc.of)⟩:Sc)=_;rw [h1,h2];rfl
theorem yp4 (v:Iv) (h:ivZ v<=67108864):CallsD Γ prog 35 [.agg (ivC v)] (.one (cB true)):=toD (zp1 (ivS v) h (wrj v))
theorem ztr (q:Rat) (h:qs q<=67108864):CallsD Γ prog 148 [.agg (qC (some q))] (.agg (ivC (Iv.pt q))):=by
 have h:=toD (Γ:=Γ) (xa0 (qF (some q)) h);rw [show Sc.zwy (qF (some q))=ivS (Iv.pt q) from if_pos (Fc.xd3 q)] at h;exact h
theorem yxo (v:Iv) (q:Rat):decide ((ivS v).has (qF (some q)))=v.has q:=by
 unfold Iv.has;rw [<-vcc,<-vcc,<-Fc.w7n,<-Fc.w7n,<-Bool.decide_and];exact decide_eq_decide.2 ⟨fun h=>h.2.2,fun h=>⟨wrj v,Fc.xd3 q,h⟩⟩
theorem iHas (v:Iv) (q:Rat) (h:ivZ v<=67108864) (hq:qs q<=67108864):CallsD Γ prog 150 [.agg (ivC v),.agg (qC (some q))] (.one (cB (v.has q))):=by
 have h:=toD (Γ:=Γ) (wb6 (ivS v) (qF (some q)) h hq);rw [yxo] at h;exact h
theorem oNeg (q:Rat) (h:qs q<=67108864):CallsD Γ prog 41 [.agg (qC (some q))] (.agg (qC (some (-q)))):=by
 have h:=toD (Γ:=Γ) (vhh (qF (some q)) h);rw [show Fc.neg (qF (some q))=qF (some (-q)) from Fc.ymu q] at h;exact h
theorem wpd (a b:Option Rat) (ha:qz a<=67108864) (hb:qz b<=67108864):CallsD Γ prog 48 [.agg (qC a),.agg (qC b)] (.one (cB (decide (a=b)))):=by
 have h:=toD (Γ:=Γ) (xb9 (qF a) (qF b) ha hb);rw [show decide (qF a=qF b)=decide (a=b) from decide_eq_decide.2 ⟨wcn,fun h=>by rw [h]⟩] at h;exact h
theorem iNeg (v:Iv) (h:ivZ v<=67108864):CallsD Γ prog 31 [.agg (ivC v)] (.agg (ivC v.neg)):=by
 have h1:=yp4 (Γ:=Γ) v h;have h2:=oNeg (Γ:=Γ) v.lo (zlo h);have h3:=oNeg (Γ:=Γ) v.hi (zhi h);refine CallsD.run [] Go.Proofs.Tryz.func31 rfl rfl rfl ?_;simp only [Go.Proofs.Tryz.f31];refine hgR ?_
 repeat' ((first | refine hfk ?_ ?_<;>intros | refine hik ?_ | with_reducible first | refine wml (h1) ?_ | refine ysi (h1) ?_ | refine wml (h2) ?_ | refine ysi (h2) ?_ | refine wml (h3) ?_ | refine ysi (h3) ?_)<;>refine hgS ?_)
 exact RLe.ofEq rfl
abbrev ivR (v:Iv):AV:=.tup [.agg (ivC v),.one (cI 0)]
theorem iAdd (a b:Iv) (ha:ivZ a<=67108864) (hb:ivZ b<=67108864):CallsD Γ prog 151 [.agg (ivC a),.agg (ivC b)] (ivR (a.add b)):=by
 have h:=toD (Γ:=Γ) (ybf (ivS a) (ivS b) ha hb)
 have e:Sc.add (ivS a) (ivS b)=ivS (a.add b):=by
  show (if (ivS a).ok/\(ivS b).ok then (⟨Fc.add (qF (some a.lo)) (qF (some b.lo)),Fc.add (qF (some a.hi)) (qF (some b.hi))⟩:Sc) else Sc.zero)=_;rw [if_pos ⟨wrj a,wrj b⟩,show Fc.add (qF (some a.lo)) (qF (some b.lo))=_ from ykr _ _ _,show Fc.add (qF (some a.hi)) (qF (some b.hi))=_ from ykr _ _ _];rfl
 rw [e,show Fc.er ((ivS a).ok/\(ivS b).ok)=0 from if_pos ⟨wrj a,wrj b⟩] at h;exact h
theorem wx7 (v:Iv):ivZ v.neg=ivZ v:=by
 show max (qs (-v.hi)) (qs (-v.lo))=max (qs v.lo) (qs v.hi);have e:∀ x:Rat,qs (-x)=qs x:=Fc.v83;rw [e,e];exact Nat.max_comm _ _
theorem iSub (a b:Iv) (ha:ivZ a<=67108864) (hb:ivZ b<=67108864):CallsD Γ prog 152 [.agg (ivC a),.agg (ivC b)] (ivR (a.sub b)):=by
 have h1:=iNeg (Γ:=Γ) b hb;have h2:=iAdd (Γ:=Γ) a b.neg ha (by rw [wx7];exact hb);refine CallsD.run [] Go.Proofs.Tryz.func152 rfl rfl rfl ?_;simp only [Go.Proofs.Tryz.f152];refine hgR ?_
 repeat' ((first | refine hfk ?_ ?_<;>intros | refine hik ?_ | with_reducible first | refine wml (h1) ?_ | refine ysi (h1) ?_ | refine wml (h2) ?_ | refine ysi (h2) ?_)<;>refine hgS ?_)
 exact RLe.ofEq rfl
theorem iMul (a b:Iv) (ha:ivZ a<=33554432) (hb:ivZ b<=33554432):CallsD Γ prog 153 [.agg (ivC a),.agg (ivC b)] (ivR (a.mul b)):=by
 have h:=toD (Γ:=Γ) (zua (ivS a) (ivS b) ha hb)
 have e:Sc.mul (ivS a) (ivS b)=ivS (a.mul b):=by
  show (if (ivS a).ok/\(ivS b).ok then Sc.wm5 [Fc.mul (qF (some a.lo)) (qF (some b.lo)),Fc.mul (qF (some a.lo)) (qF (some b.hi)),Fc.mul (qF (some a.hi)) (qF (some b.lo)),Fc.mul (qF (some a.hi)) (qF (some b.hi))] else Sc.zero)=_;rw [if_pos ⟨wrj a,wrj b⟩,show Fc.mul (qF (some a.lo)) (qF (some b.lo))=_ from ykr _ _ _,show Fc.mul (qF (some a.lo)) (qF (some b.hi))=_ from ykr _ _ _,show Fc.mul (qF (some a.hi)) (qF (some b.lo))=_ from ykr _ _ _,show Fc.mul (qF (some a.hi)) (qF (some b.hi))=_ from ykr _ _ _];exact v2d _ _ _ _
 rw [e,show Fc.er ((ivS a).ok/\(ivS b).ok)=0 from if_pos ⟨wrj a,wrj b⟩] at h;exact h
theorem vrt {p q:Int} (hp:1<=p) (hq:1<=q):0<Rat.divInt p q:=by
 rw [Rat.divInt_eq_div,Rat.div_def];exact Rat.mul_pos (Rat.intCast_pos.2 (by omega)) (Rat.inv_pos.2 (Rat.intCast_pos.2 (by omega)))
theorem yhd {s:ByteArray} {u:Un} (h:symF s=some u):0<u.f:=by
 unfold symF at h
 repeat' first
  | (cases h;exact vrt (by omega) (by omega))
  | (cases hc:seq s _<;>rw [hc] at h<;>simp only [cond_true,cond_false] at h)
 cases h
theorem zuc {s:ByteArray} {u:Un} (h:xle s=some u):0<u.f:=by
 unfold xle at h
 cases h1:(symF s).isSome with
 | true=>rw [h1,cond_true] at h;exact yhd h
 | false=>
  rw [h1,cond_false] at h
  cases h2:(!(preF (yuk s 0)).isSome||!(symF (vp5 s 1)).isSome||!v2f (vp5 s 1)) with
  | true=>rw [h2,cond_true] at h;cases h
  | false=>
   rw [h2,cond_false] at h;split at h
   . rename_i p v hp hv
     cases h;obtain ⟨d,e⟩:=y3p hp;exact Rat.mul_pos (yhd hv) (vrt d.1 e.1)
   . cases h
theorem v63 {g:Rat->Rat} (h:∀ x,0<x->0<g x):∀(n:Nat) (a:Rat),0<a->0<iter g n a
 | 0,_,ha=>ha
 | n+1,a,ha=>v63 h n (g a) (h a ha)
theorem wom:∀(l:List It) (u v:Un),xx0 l u=some v->0<u.f->0<v.f
 | [],u,v,h,hu=>by cases h;exact hu
 | x::l,u,v,h,hu=>by
  unfold xx0 at h;split at h
  . cases h
  . rename_i w hw;have hp:=zuc hw;refine wom l _ v h ?_;show 0<vhc u.f w.f x.e;unfold vhc
    cases decide (0<x.e) with
    | true=>exact v63 (fun y hy=>Rat.mul_pos hy hp) _ _ hu
    | false=>exact v63 (fun y hy=>by rw [Rat.div_def];exact Rat.mul_pos hy (Rat.inv_pos.2 hp)) _ _ hu
theorem yv0 {s : ByteArray} {u : Un} (h : xx7 s = (some u, 0)) : ytl u.d = true ∧ 0 < u.f := by
 unfold xx7 at h;split at h
 . cases h
 . split at h
   . cases h
   . rename_i l hl w hw
     cases hd:ytl w.d with
     | false=>rw [hd,cond_false] at h;cases h
     | true=>
      rw [hd,cond_true] at h
      cases h;exact ⟨hd,wom _ _ _ hw (show (0:Rat)<((1:Int):Rat) by decide)⟩
theorem zdl (n:Rat) (u:Un) (hd:ytl u.d=true) (hf:0<u.f) (h1:qs n<=67108864) (h2:qs u.f<=67108864):CallsD Γ prog 100 [.agg (qC (some n)),.agg (unQ u)] (qR (some (n*u.f)) 0):=by
 have c1:=wuc (Γ:=Γ) u.d;rw [hd] at c1;have c2:CallsD Γ prog 44 [.agg (qC (some u.f))] (.one (cB true)):=w7o (some u.f) (by show qs u.f<=_;omega);have c3:=xhi (Γ:=Γ) (qF (some u.f)) h2
 have e:Fc.sign (qF (some u.f))=1:=by
  have h:=Fc.w9s u.f
  have h':sg u.f.num=1:=by
   have h:=(Rat.lt_iff _ _).1 hf;simp only [Rat.zero_num,Rat.zero_den] at h
   have:=vvv u.f.num
   omega
  exact h.trans h'
 rw [e] at c3;have c3:CallsD Γ prog 45 [.agg (qC (some u.f))] (.one (cI 1)):=c3
 have cR:CallsD Γ prog 141 [.agg (unQ u)] (.one (cB true)):=by
  refine CallsD.run [] Go.Proofs.Tryz.func141 rfl rfl rfl ?_;simp only [Go.Proofs.Tryz.f141];refine hgR ?_
  repeat' ((first | refine hfk ?_ ?_<;>intros | refine hik ?_ | with_reducible first | refine wml (c1) ?_ | refine ysi (c1) ?_ | refine wml (c2) ?_ | refine ysi (c2) ?_ | refine wml (c3) ?_ | refine ysi (c3) ?_)<;>refine hgS ?_)
  all_goals first
   | exact RLe.ofEq rfl
   | (exfalso;omega)
 have c4:CallsD Γ prog 44 [.agg (qC (some n))] (.one (cB true)):=w7o (some n) (by show qs n<=_;omega);have c5:=oMul (Γ:=Γ) (some n) (some u.f) h1 h2;have c5:CallsD Γ prog 38 [.agg (qC (some n)),.agg (qC (some u.f))] (qR (some (n*u.f)) 0):=c5;clear c1 c2 c3;refine CallsD.run [] Go.Proofs.Tryz.func100 rfl rfl rfl ?_;simp only [Go.Proofs.Tryz.f100];refine hgR ?_
 repeat' ((first | refine hfk ?_ ?_<;>intros | refine hik ?_ | with_reducible first | refine wml (cR) ?_ | refine ysi (cR) ?_ | refine wml (c4) ?_ | refine ysi (c4) ?_ | refine wml (c5) ?_ | refine ysi (c5) ?_)<;>refine hgS ?_)
 all_goals first
  | exact RLe.ofEq rfl
  | (exfalso;omega)
end Go.Hp.T
