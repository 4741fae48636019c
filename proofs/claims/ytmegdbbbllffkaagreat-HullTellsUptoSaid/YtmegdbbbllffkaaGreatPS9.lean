/- HullTells: the walk. -/
import Derived.Test.YtmegdbbbllffkaaGreatP15
namespace Go.Hp.T
open Go Go.RowKit Go.Slot Go.Hp Go.Slot.T
open Go.Proofs.Tryz (prog)
set_option maxRecDepth 10000
set_option maxHeartbeats 4000000
theorem q5 (x:Ex) (zs:List Zn) (ms:List Tb) (h:Ar17 x zs ms) :
    CallsD [] prog 3 [.agg (exC x),.one (.sl 9 (zs.map Zn.C)),.one (.sl 3 (ms.map Tb.C))] (.one (cB true)):=by
  have s1:=wub (Γ:=[])
  have f1:=yin (Γ:=[]) x zs ms h
  cases hf:wsk x zs ms with
  | false=>
    rw [hf] at f1
    refine CallsD.run [] Go.Proofs.Tryz.func3 rfl rfl rfl ?_;simp only [Go.Proofs.Tryz.f3];refine hgR ?_
    repeat' ((first | refine hfk ?_ ?_<;>intros | refine hik ?_ | with_reducible first | refine hcA ?_ | refine hcB ?_)<;>refine hgS ?_)
    exact RLe.ofEq rfl
  | true=>
  rw [hf] at f1
  obtain ⟨hz4,hz8⟩:=vtj hf
  have hzl:=h.b
  have o1:=vbh (Γ:=[]) x zs ms h.x (by omega) (by have:=h.m;omega) (fun b hb=>⟨(h.bs b hb).n,by have:=hz4 b hb;omega⟩) h.ms
  have t1:=zn3 (Γ:=[]) x zs ms h.x (by omega) (by have:=h.m;omega) (fun b hb=>⟨(h.bs b hb).n,by have:=hz4 b hb;omega⟩) h.ms
  have o2:=ywj (Γ:=[]) x zs ms h hz4
  have t2:=yg3 (Γ:=[]) x zs ms h hz4
  have k1:=z5d (x:=x) (zs:=zs) (ms:=ms) (B:=4300) (by decide) (fun b hb=>by have:=hz4 b hb;omega) h.ms
  clear h hz4
  have same:∀ s:Sc,s.sz<=67108864->CallsD [] prog 15 [.agg (scC s),.agg (scC s)] (.one (cB true)):=fun s hs=>by
    have:=toD (Γ:=[]) (x94 s s hs hs)
    rw [decide_eq_true rfl] at this
    exact this
  generalize hulF x zs ms=r1 at o1 t1 o2 t2 k1
  rcases r1 with e | ⟨c,d⟩ | v
  · change CallsD _ _ _ _ (.tup [.agg (scC Sc.zero),.one (cI e)]) at o1
    change CallsD _ _ _ _ (.tup [.one (cB false),.one (cB false),.one (cI e)]) at t1
    change CallsD _ _ _ _ (.tup [.agg (scC Sc.zero),.one (cI e)]) at o2
    change CallsD _ _ _ _ (.tup [.one (cB false),.one (cB false),.one (cI e)]) at t2
    have sm:=same Sc.zero (by decide)
    have sm:CallsD [] prog 15 [.agg [cI 0,.ints .i64 [],cI 0,.ints .i64 [],cI 0,.ints .i64 [],cI 0,.ints .i64 []],.agg [cI 0,.ints .i64 [],cI 0,.ints .i64 [],cI 0,.ints .i64 [],cI 0,.ints .i64 []]] (.one (cB true)):=sm
    clear k1 same
    refine CallsD.run [] Go.Proofs.Tryz.func3 rfl rfl rfl ?_;simp only [Go.Proofs.Tryz.f3];refine hgR ?_
    repeat' ((first | refine hfk ?_ ?_<;>intros | refine hik ?_ | with_reducible first | refine hcA ?_ | refine hcB ?_)<;>refine hgS ?_)
    all_goals first
      | exact RLe.ofEq rfl
      | (exfalso;omega)
      | refine lfE ?_;first | exact trivial | rfl
  · change CallsD _ _ _ _ (.tup [.agg (scC Sc.zero),.one (cI 13)]) at o1
    change CallsD _ _ _ _ (.tup [.one (cB c),.one (cB d),.one (cI 0)]) at t1
    change CallsD _ _ _ _ (.tup [.agg (scC Sc.zero),.one (cI 13)]) at o2
    change CallsD _ _ _ _ (.tup [.one (cB c),.one (cB d),.one (cI 0)]) at t2
    have sm:=same Sc.zero (by decide)
    have sm:CallsD [] prog 15 [.agg [cI 0,.ints .i64 [],cI 0,.ints .i64 [],cI 0,.ints .i64 [],cI 0,.ints .i64 []],.agg [cI 0,.ints .i64 [],cI 0,.ints .i64 [],cI 0,.ints .i64 [],cI 0,.ints .i64 []]] (.one (cB true)):=sm
    clear k1 same
    cases c<;>cases d
    all_goals
      refine CallsD.run [] Go.Proofs.Tryz.func3 rfl rfl rfl ?_;simp only [Go.Proofs.Tryz.f3];refine hgR ?_
      repeat' ((first | refine hfk ?_ ?_<;>intros | refine hik ?_ | with_reducible first | refine hcA ?_ | refine hcB ?_)<;>refine hgS ?_)
      all_goals first
        | exact RLe.ofEq rfl
        | (exfalso;omega)
  · change CallsD _ _ _ _ (.tup [.agg (ivC v),.one (cI 0)]) at o1
    change CallsD _ _ _ _ (.tup [.one (cB false),.one (cB false),.one (cI 13)]) at t1
    change CallsD _ _ _ _ (.tup [.agg (ivC v),.one (cI 0)]) at o2
    change CallsD _ _ _ _ (.tup [.one (cB false),.one (cB false),.one (cI 13)]) at t2
    have k1:ivZ v<=860000:=k1
    have sm:=same (ivS v) (Nat.le_trans k1 (by decide))
    have sm:CallsD [] prog 15 [.agg (ivC v),.agg (ivC v)] (.one (cB true)):=sm
    clear k1 same
    refine CallsD.run [] Go.Proofs.Tryz.func3 rfl rfl rfl ?_;simp only [Go.Proofs.Tryz.f3];refine hgR ?_
    repeat' ((first | refine hfk ?_ ?_<;>intros | refine hik ?_ | with_reducible first | refine hcA ?_ | refine hcB ?_)<;>refine hgS ?_)
    all_goals first
      | exact RLe.ofEq rfl
      | (exfalso;omega)
end Go.Hp.T
