/-
  Parts: SolL1 SolL2 SolL3 SolL4 SolL5 SolL6 SolC5 SolM4 SolC6 SolC7.
-/
import Derived.Test.YtbinfhpngacfgaaGreatCk10
import Derived.Test.YtbinfhpngacfgaaGreatCk11
set_option linter.all false
set_option linter.unusedSimpArgs false
set_option linter.unusedVariables false
section
namespace Go.Proofs
open Go Go.Abs
set_option maxRecDepth 100000
set_option maxHeartbeats 4000000
set_option linter.unusedSimpArgs false
set_option linter.unusedVariables false
theorem want_eq (t : Bool) : wantR (flawV 2) t = .ok (wantO (flawV 2) t) := wantR_eq _ _
theorem par_get {l : List Spot} {i : Int} {s : Spot} (h : l[i.toNat]? = some s) : parent l i = s.in_ := by simp [parent, h]
theorem tree_kl (l : List Spot) (hl : l.length ≤ 1000) : askN (KL Tryz.prog cfg) 61 [.d (.lst (l.map encSpot))] [] = wantR (flawV 2) (treeB l) := by
  rw [want_eq]
  (refine KN_wp rfl Tryz.func61 rfl rfl rfl ?_; show Wp _ _ _ _ (Tryz.f61.body.get rfl) _ _; simp only [Tryz.f61, Option.get_some])
  by_cases h0 : (0 : Int) < l.length
  · obtain ⟨s0, hs0⟩ := get_some (l := l) (i := 0) (by omega);have hp0 : parent l 0 = s0.in_ := par_get hs0
    (repeat' (first | simp only [go_sem, *] | (refine sx ?_ ?_ <;> intro hc) | (refine sy (by omega) fun x hx => ?_ <;> have hm := List.mem_of_getElem? hx) | simp (disch := first | assumption | omega) only [wrap_id, le_max, le_maxI, slice_int]))
    · refine rounds_len l _ (S := fun m i (_ : Unit) => ⟨[(0, .d (.lst (l.map encSpot))), (17, .d (.int .i64 m)), (18, .d (.int .i64 i))], [], 0, []⟩)
        (Inv := fun i rest _ => Later (treeB l = climbAll l i rest.length)) (b0 := ()) rfl ⟨?_⟩ ?_ ?_
      · simp only [treeB];rw [decide_eq_true (show 0 < l.length by omega), decide_eq_true (show parent l 0 = -1 by rw [hp0]; assumption)];rfl
      · rintro i y _ hy hi him hr IH;rw [List.length_cons, climbAll] at hr
        (repeat' (first | simp only [go_sem, *] | (refine sx ?_ ?_ <;> intro hc) | (refine sy (by omega) fun x hx => ?_ <;> have hm := List.mem_of_getElem? hx) | simp (disch := first | assumption | omega) only [wrap_id, le_max, le_maxI, slice_int]))
        have hr0 := hr;refine rounds (S := fun a : Int × Nat => ⟨[(0, .d (.lst (l.map encSpot))), (3, .d (.int .i64 (a.1))), (4, .d (.int .i64 (a.2))), (17, .d (.int .i64 (l.length))), (18, .d (.int .i64 (i)))], [], 0, []⟩)
          (Inv := fun a => inR l a.1 ∧ a.2 ≤ l.length ∧ Later (climb l l.length i = climb l (l.length - a.2) a.1)) (m := fun a => l.length + 1 - a.2) (a := (i, 0)) ⟨⟨by omega, by omega⟩, by omega, ⟨rfl⟩⟩ ?_
        rintro ⟨at_, n⟩ ⟨⟨hr1, hr2⟩, hn, hcl⟩ IH2;dsimp only at *;have hlt : at_.toNat < l.length := by omega
        obtain ⟨s, hs⟩ := get_some hlt;have hps := Later.mk (par_get hs)
        (repeat' (first | simp only [go_sem, *] | (refine sx ?_ ?_ <;> intro hc) | (refine sy (by omega) fun x hx => ?_ <;> have hm := List.mem_of_getElem? hx) | simp (disch := first | assumption | omega) only [wrap_id, le_max, le_maxI, slice_int]))
        · refine IH.out () ⟨?_⟩;rw [hr.out, hcl.out, show at_ = 0 by assumption, climb_zero, Bool.true_and]
        · refine IH2.out (s.in_, n + 1) (by dsimp only; omega) ⟨⟨by assumption, by assumption⟩, by dsimp only; omega, ⟨?_⟩⟩;dsimp only;rw [hcl.out];obtain ⟨j, hj⟩ : ∃ j, l.length - n = j + 1 := ⟨l.length - n - 1, by omega⟩;rw [hj, show l.length - (n + 1) = j by omega, climb, hps.out];simp only [decide_eq_false (show ¬ at_ = 0 by assumption), Bool.false_or];rw [decide_eq_true (show inR l s.in_ from ⟨by assumption, by assumption⟩), Bool.true_and]
        all_goals
          have hf : treeB l = false := by
            rw [hr0.out, hcl.out];rcases Nat.eq_zero_or_pos (l.length - n) with hz | hz
            · rw [hz, climb];simp only [decide_eq_false (show ¬ at_ = 0 by assumption), Bool.false_and]
            · obtain ⟨j, hj⟩ : ∃ j, l.length - n = j + 1 := ⟨l.length - n - 1, by omega⟩;rw [hj, climb, hps.out];simp only [decide_eq_false (show ¬ at_ = 0 by assumption), Bool.false_or];rw [decide_eq_false (show ¬ inR l s.in_ from fun h => by have := h.1; have := h.2; omega), Bool.false_and, Bool.false_and]
          rw [hf];rfl
      · rintro i _ hi him hr
        (repeat' (first | simp only [go_sem, *] | (refine sx ?_ ?_ <;> intro hc) | (refine sy (by omega) fun x hx => ?_ <;> have hm := List.mem_of_getElem? hx) | simp (disch := first | assumption | omega) only [wrap_id, le_max, le_maxI, slice_int]))
        rw [hr.out];rfl
    · have : treeB l = false := by
        simp only [treeB, hp0, decide_eq_false (show ¬ s0.in_ = -1 by assumption), Bool.false_and, Bool.and_false]
      rw [this];rfl
  · have : treeB l = false := by simp [treeB]; omega
    rw [this]
    (repeat' (first | simp only [go_sem, *] | (refine sx ?_ ?_ <;> intro hc) | (refine sy (by omega) fun x hx => ?_ <;> have hm := List.mem_of_getElem? hx) | simp (disch := first | assumption | omega) only [wrap_id, le_max, le_maxI, slice_int]))
    rfl
theorem treeR_kl (l : List Spot) (x y z : Dat) (hl : l.length ≤ 1000) : askN (KL Tryz.prog cfg) 64 [.agg [.d (.lst (l.map encSpot)), .d x, .d y, .d z]] [] = .ok (.ret (.d (.bool (treeB l))), []) := by
  have hb : treeB l = (decide (0 < l.length) && (decide (parent l 0 = -1) && climbAll l 0 l.length)) := rfl;replace hb := Later.mk hb
  (refine KN_wp rfl Tryz.func64 rfl rfl rfl ?_; show Wp _ _ _ _ (Tryz.f64.body.get rfl) _ _; simp only [Tryz.f64, Option.get_some])
  (repeat' (first | simp only [go_sem, *] | (refine sx ?_ ?_ <;> intro hc) | (refine sy (by omega) fun x hx => ?_ <;> have hm := List.mem_of_getElem? hx) | simp (disch := first | assumption | omega) only [wrap_id, le_max, le_maxI, slice_int]))
  refine rounds_list l (S := fun i (_ : Unit) => ⟨[(1, .ptr [0, 0] 0), (3, .d (.int .i64 (i)))], [([0, 0], .box [.d (.lst (l.map encSpot)), .d x, .d y, .d z])], 1, []⟩)
    (Inv := fun i rest _ => Later (climbAll l 0 l.length = climbAll l i rest.length)) (b0 := ()) ⟨rfl⟩ ?_ ?_
  · rintro i yy _ hy hi him hr IH;rw [List.length_cons, climbAll] at hr
    (repeat' (first | simp only [go_sem, *] | (refine sx ?_ ?_ <;> intro hc) | (refine sy (by omega) fun x hx => ?_ <;> have hm := List.mem_of_getElem? hx) | simp (disch := first | assumption | omega) only [wrap_id, le_max, le_maxI, slice_int]))
    refine rounds (S := fun a : Int × Nat => ⟨[(1, .ptr [0, 0] 0), (3, .d (.int .i64 (i))), (4, .d (.int .i64 (a.1))), (5, .d (.int .i64 (a.2)))], [([0, 0], .box [.d (.lst (l.map encSpot)), .d x, .d y, .d z])], 1, []⟩)
      (Inv := fun a => inR l a.1 ∧ a.2 ≤ l.length + 1 ∧ Later (climb l (l.length + 1) i = climb l (l.length + 1 - a.2) a.1)) (m := fun a => l.length + 1 - a.2) (a := (i, 0)) ⟨⟨by omega, by omega⟩, by omega, ⟨rfl⟩⟩ ?_
    rintro ⟨at_, n⟩ ⟨⟨hr1, hr2⟩, hn, hcl⟩ IH2;dsimp only at *;have hlt : at_.toNat < l.length := by omega
    obtain ⟨s, hs⟩ := get_some hlt;have hps := Later.mk (par_get hs);have hmo := Later.mk (climb_more (l := l) (i := i) ⟨by omega, by omega⟩);have hok : Later (at_ = 0 → climb l l.length i = true) := ⟨fun h => by rw [← hmo.out, hcl.out, h, climb_zero]⟩;have hno : Later (climb l l.length i = false → treeB l = false) := ⟨fun h => by rw [hb.out, hr.out, h, Bool.false_and, Bool.and_false, Bool.and_false]⟩
    (repeat' (first | simp only [go_sem, *] | (refine sx ?_ ?_ <;> intro hc) | (refine sy (by omega) fun x hx => ?_ <;> have hm := List.mem_of_getElem? hx) | simp (disch := first | assumption | omega) only [wrap_id, le_max, le_maxI, slice_int]))
    all_goals first
    | (refine IH.out () ⟨?_⟩
       rw [hr.out, hok.out (by assumption), Bool.true_and])
    | (refine IH2.out (s.in_, n + 1) (by dsimp only; omega) ⟨⟨by dsimp only; omega, by dsimp only; omega⟩, by dsimp only; omega, ⟨?_⟩⟩
       dsimp only;rw [hcl.out];obtain ⟨j, hj⟩ : ∃ j, l.length + 1 - n = j + 1 := ⟨l.length + 1 - n - 1, by omega⟩;rw [hj, show l.length + 1 - (n + 1) = j by omega, climb, hps.out];simp only [decide_eq_false (show ¬ at_ = 0 by assumption), Bool.false_or];rw [decide_eq_true (show inR l s.in_ from ⟨by omega, by omega⟩), Bool.true_and])
    | (rw [hno.out]
       rw [← hmo.out, hcl.out];rcases Nat.eq_zero_or_pos (l.length + 1 - n) with hz | hz
       · rw [hz, climb];simp only [decide_eq_false (show ¬ at_ = 0 by assumption)]
       · obtain ⟨j, hj⟩ : ∃ j, l.length + 1 - n = j + 1 := ⟨l.length + 1 - n - 1, by omega⟩;rw [hj, climb, hps.out];simp only [decide_eq_false (show ¬ at_ = 0 by assumption), Bool.false_or];rw [decide_eq_false (show ¬ inR l s.in_ from fun h => by have := h.1; have := h.2; omega), Bool.false_and])
  · rintro i _ hi him hr;have hb1 : Later (climbAll l 0 l.length = true) := ⟨by rw [hr.out]; rfl⟩;by_cases h0 : (0 : Int) < l.length
    · obtain ⟨s0, hs0⟩ := get_some (l := l) (i := 0) (by omega);have hp0 := Later.mk (show parent l 0 = s0.in_ from par_get hs0)
      (repeat' (first | simp only [go_sem, *] | (refine sx ?_ ?_ <;> intro hc) | (refine sy (by omega) fun x hx => ?_ <;> have hm := List.mem_of_getElem? hx) | simp (disch := first | assumption | omega) only [wrap_id, le_max, le_maxI, slice_int]))
      rw [hb.out, hb1.out, hp0.out, decide_eq_true (show 0 < l.length by omega), Bool.true_and, Bool.and_true]
    · (repeat' (first | simp only [go_sem, *] | (refine sx ?_ ?_ <;> intro hc) | (refine sy (by omega) fun x hx => ?_ <;> have hm := List.mem_of_getElem? hx) | simp (disch := first | assumption | omega) only [wrap_id, le_max, le_maxI, slice_int]))
      rw [hb.out, decide_eq_false (show ¬ 0 < l.length by omega), Bool.false_and]
theorem valueIn_kl (p : Prog) (sp ch : List (List Dat)) (g w : Dat) (v : Val) (h1 : sp.length ≤ 1000000) (h2 : ch.length ≤ 1000000) (h3 : p.free.length ≤ 1000000) : askN (KL Tryz.prog cfg) 117 [.agg [.d (.lst (p.free.map encStr)), .d (.lst (p.nodes.map encNode)), .d (.lst (p.defs.map encDef)), .d (.int .i64 (p.main))], .agg [.d (.lst sp), .d g, .d (.lst ch), .d w], .agg [.d (.int .i64 (v.kind)), .d (.int .i64 (v.n))]] [] = .ok (.ret (.d (.bool (v.inB p ch.length sp.length))), []) := by
  (refine KN_wp rfl Tryz.func117 rfl rfl rfl ?_; show Wp _ _ _ _ (Tryz.f117.body.get rfl) _ _; simp only [Tryz.f117, Option.get_some])
  (repeat' (first | simp only [go_sem, *] | (refine sx ?_ ?_ <;> intro hc) | (refine sy (by omega) fun x hx => ?_ <;> have hm := List.mem_of_getElem? hx) | simp (disch := first | assumption | omega) only [wrap_id, le_max, le_maxI, slice_int]))
  all_goals simp [Val.inB, *]
theorem valuesIn_kl (p : Prog) (sp ch : List (List Dat)) (g w : Dat) (l : List Val) (h1 : sp.length ≤ 1000000) (h2 : ch.length ≤ 1000000) (h3 : p.free.length ≤ 1000000) (hl : l.length ≤ 1000000) : askN (KL Tryz.prog cfg) 70 [.agg [.d (.lst (p.free.map encStr)), .d (.lst (p.nodes.map encNode)), .d (.lst (p.defs.map encDef)), .d (.int .i64 (p.main))], .agg [.d (.lst sp), .d g, .d (.lst ch), .d w], .d (.lst (l.map encVal))] [] = .ok (.ret (.d (.bool (l.all (Val.inB p ch.length sp.length)))), []) := by
  (refine KN_wp rfl Tryz.func70 rfl rfl rfl ?_; show Wp _ _ _ _ (Tryz.f70.body.get rfl) _ _; simp only [Tryz.f70, Option.get_some])
  (repeat' (first | simp only [go_sem, *] | (refine sx ?_ ?_ <;> intro hc) | (refine sy (by omega) fun x hx => ?_ <;> have hm := List.mem_of_getElem? hx) | simp (disch := first | assumption | omega) only [wrap_id, le_max, le_maxI, slice_int]))
  refine rounds_list l (S := fun i (_ : Unit) => ⟨[(2, .d (.lst (l.map encVal))), (3, .ptr [0, 0] 0), (4, .ptr [0, 1] 0), (7, .d (.int .i64 (i)))], [([0, 0], .box [.d (.lst (p.free.map encStr)), .d (.lst (p.nodes.map encNode)), .d (.lst (p.defs.map encDef)), .d (.int .i64 (p.main))]), ([0, 1], .box [.d (.lst sp), .d g, .d (.lst ch), .d w])], 2, []⟩)
    (Inv := fun i rest _ => Later (l.all (Val.inB p ch.length sp.length) = rest.all (Val.inB p ch.length sp.length))) (b0 := ()) ⟨rfl⟩ ?_ ?_
  · rintro i y _ hy hi him hr IH;have hv := valueIn_kl p sp ch g w y h1 h2 h3
    (repeat' (first | simp only [go_sem, *] | (refine sx ?_ ?_ <;> intro hc) | (refine sy (by omega) fun x hx => ?_ <;> have hm := List.mem_of_getElem? hx) | simp (disch := first | assumption | omega) only [wrap_id, le_max, le_maxI, slice_int]))
    all_goals first
    | (refine IH.out () ⟨?_⟩; rw [hr.out, List.all_cons]; simp only [*, Bool.true_and]; done)
    | (rw [hr.out, List.all_cons]; simp only [*, Bool.false_and]; done)
  · rintro i _ hi him hr
    (repeat' (first | simp only [go_sem, *] | (refine sx ?_ ?_ <;> intro hc) | (refine sy (by omega) fun x hx => ?_ <;> have hm := List.mem_of_getElem? hx) | simp (disch := first | assumption | omega) only [wrap_id, le_max, le_maxI, slice_int]))
    rw [hr.out];rfl
end Go.Proofs
end
section
namespace Go.Proofs
open Go Go.Abs
set_option maxRecDepth 100000
set_option maxHeartbeats 4000000
set_option linter.unusedSimpArgs false
set_option linter.unusedVariables false
theorem waitsOp_kl (op : Int) : askN (KL Tryz.prog cfg) 69 [.d (.int .i64 (op))] [] = .ok (.ret (.d (.bool (waitsOp op))), []) := by
  (refine KN_wp rfl Tryz.func69 rfl rfl rfl ?_; show Wp _ _ _ _ (Tryz.f69.body.get rfl) _ _; simp only [Tryz.f69, Option.get_some])
  (repeat' (first | simp only [go_sem, *] | (refine sx ?_ ?_ <;> intro hc) | (refine sy (by omega) fun x hx => ?_ <;> have hm := List.mem_of_getElem? hx) | simp (disch := first | assumption | omega) only [wrap_id, le_max, le_maxI, slice_int]))
  all_goals simp [waitsOp, *]
theorem placeR_kl (p : Prog) (g : Group) (d : Def) (n : Int) (h0 : 0 ≤ g.def_) (hd : p.defs[g.def_.toNat]? = some d) (c1 : d.chans.length ≤ 30) (c2 : d.spots.length ≤ 30) (he : d.own ≤ g.env.length) (hl : g.env.length ≤ 10000) (hn : 0 ≤ n) (hn2 : n ≤ d.spots.length) : askN (KL Tryz.prog cfg) 118 [.agg [.d (.lst (p.free.map encStr)), .d (.lst (p.nodes.map encNode)), .d (.lst (p.defs.map encDef)), .d (.int .i64 (p.main))], .agg [.d (.int .i64 (g.def_)), .d (.int .i64 (g.at_)), .d (.lst (g.env.map encVal))], .d (.int .i64 (n))] [] = .ok (.ret (.d (.int .i64 (g.place d n))), []) := by
  unfold Def.own at he
  (refine KN_wp rfl Tryz.func118 rfl rfl rfl ?_; show Wp _ _ _ _ (Tryz.f118.body.get rfl) _ _; simp only [Tryz.f118, Option.get_some])
  by_cases hn0 : n = 0
  · (repeat' (first | simp only [go_sem, *, Group.place] | (refine sx ?_ ?_ <;> intro hc) | (refine sy (by omega) fun x hx => ?_ <;> have hm := List.mem_of_getElem? hx) | simp (disch := first | assumption | omega) only [wrap_id, le_max, le_maxI, slice_int]))
  · have hlt : g.env.length - d.spots.length - 0 + (n - 1).toNat < g.env.length := by omega
    obtain ⟨v, hv⟩ := get_some hlt;have hpl : Later (g.place d n = v.n) := ⟨by
      rw [Group.place, if_neg hn0, Group.own];simp only [Bool.false_eq_true, if_false];rw [hv];rfl⟩
    have e1 : ((g.env.length : Int) - (d.spots.length : Int) + n - 1).toNat = g.env.length - d.spots.length - 0 + (n - 1).toNat := by omega
    rw [← e1] at hv;replace e1 := Later.mk e1;have e2 : 0 ≤ (g.env.length : Int) - (d.spots.length : Int) + n - 1 := by omega
    (repeat' (first | simp only [go_sem, *] | (refine sx ?_ ?_ <;> intro hc) | (refine sy (by omega) fun x hx => ?_ <;> have hm := List.mem_of_getElem? hx) | simp (disch := first | assumption | omega) only [wrap_id, le_max, le_maxI, slice_int]))
    rw [hpl.out]
theorem kidSizes_kl {p : Prog} {st : LSt} (hlk : looks p = some st) : askN (KL Tryz.prog cfg) 115 [.agg [.d (.lst (p.free.map encStr)), .d (.lst (p.nodes.map encNode)), .d (.lst (p.defs.map encDef)), .d (.int .i64 (p.main))]] [] = .ok (.ret (.d (.lst ((groupsT p st.sizes).map encInt))), []) := by
  have hso := SizesOf_kl hlk;have hF := looks_formed hlk;have hsm := hF.small;simp only [Prog.small, Bool.and_eq_true, decide_eq_true_eq] at hsm;obtain ⟨c1, c2, c3⟩ := hsm;have hF2 := Later.mk hF;clear hF
  (refine KN_wp rfl Tryz.func115 rfl rfl rfl ?_; show Wp _ _ _ _ (Tryz.f115.body.get rfl) _ _; simp only [Tryz.f115, Option.get_some])
  by_cases hD0 : p.defs.length = 0
  · (repeat' (first | simp only [go_sem, *] | (refine sx ?_ ?_ <;> intro hc) | (refine sy (by omega) fun x hx => ?_ <;> have hm := List.mem_of_getElem? hx) | simp (disch := first | assumption | omega) only [wrap_id, le_max, le_maxI, slice_int, make_int]))
    refine rounds_list p.nodes (S := fun i (_ : Unit) => ⟨[(1, .ptr [0, 0] 0), (3, .emp), (4, .d (.lst (st.sizes.map encInt))), (5, .d (.int .i64 (i)))], [([0, 0], .box [.d (.lst (p.free.map encStr)), .d (.lst (p.nodes.map encNode)), .d (.lst (p.defs.map encDef)), .d (.int .i64 (p.main))])], 1, []⟩)
      (Inv := fun i rest _ => True) (b0 := ()) trivial ?_ ?_
    · rintro i y _ hy hi him _ IH;have ho : ¬ y.op = 4 := fun ho => by
        have := def_node hF2.out hy ho;omega
      (repeat' (first | simp only [go_sem, *] | (refine sx ?_ ?_ <;> intro hc) | (refine sy (by omega) fun x hx => ?_ <;> have hm := List.mem_of_getElem? hx) | simp (disch := first | assumption | omega) only [wrap_id, le_max, le_maxI, slice_int]))
      exact IH.out () trivial
    · rintro i _ hi him _;have : groupsT p st.sizes = [] := by
        refine List.eq_nil_of_length_eq_zero ?_;rw [groupsT, groupsGo_len];simpa using hD0
      rw [this]
      (repeat' (first | simp only [go_sem, *] | (refine sx ?_ ?_ <;> intro hc) | (refine sy (by omega) fun x hx => ?_ <;> have hm := List.mem_of_getElem? hx) | simp (disch := first | assumption | omega) only [wrap_id, le_max, le_maxI, slice_int]))
  · (repeat' (first | simp only [go_sem, *] | (refine sx ?_ ?_ <;> intro hc) | (refine sy (by omega) fun x hx => ?_ <;> have hm := List.mem_of_getElem? hx) | simp (disch := first | assumption | omega) only [wrap_id, le_max, le_maxI, slice_int, make_int]))
    refine rounds_list p.nodes (S := fun i (out : List Int) => ⟨[(1, .ptr [0, 0] 0), (3, .osl [1, 1] 0 p.defs.length), (4, .d (.lst (st.sizes.map encInt))), (5, .d (.int .i64 (i)))], [([0, 0], .box [.d (.lst (p.free.map encStr)), .d (.lst (p.nodes.map encNode)), .d (.lst (p.defs.map encDef)), .d (.int .i64 (p.main))]), ([1, 1], .darr 1 (out.map encInt))], 2, []⟩)
      (Inv := fun i rest out => out.length = p.defs.length ∧ Later (groupsT p st.sizes = groupsGo st.sizes out rest)) (b0 := List.replicate p.defs.length 0) ⟨by simp, ⟨rfl⟩⟩ ?_ ?_
    · rintro i y out hy hi him ⟨hol, hr⟩ IH;by_cases ho : y.op = 4
      · obtain ⟨n1, n2, k, v, hk, hk0, hkv, hks, _, _⟩ := def_node hF2.out hy ho;obtain ⟨o, hoo⟩ := get_some (l := out) (i := y.n.toNat) (by omega);have hyn : y.n.toNat < p.defs.length := by omega
        have hks := Later.mk hks
        (repeat' (first | simp only [go_sem, *] | (refine sx ?_ ?_ <;> intro hc) | (refine sy (by omega) fun x hx => ?_ <;> have hm := List.mem_of_getElem? hx) | simp (disch := first | assumption | omega) only [wrap_id, le_max, le_maxI, slice_int]))
        have e : (out.map encInt).set y.n.toNat [.int .i64 v] = (out.set y.n.toNat v).map encInt := by rw [List.map_set]; rfl
        rw [e];refine IH.out (out.set y.n.toNat v) ⟨by simpa using hol, ⟨?_⟩⟩;rw [hr.out, groupsGo, if_pos ho, hks.out]
      · (repeat' (first | simp only [go_sem, *] | (refine sx ?_ ?_ <;> intro hc) | (refine sy (by omega) fun x hx => ?_ <;> have hm := List.mem_of_getElem? hx) | simp (disch := first | assumption | omega) only [wrap_id, le_max, le_maxI, slice_int]))
        refine IH.out out ⟨hol, ⟨?_⟩⟩;rw [hr.out, groupsGo, if_neg ho]
    · rintro i out hi him ⟨hol, hr⟩;have tk : List.take p.defs.length (List.map encInt out) = List.map encInt out := List.take_of_length_le (by simp [hol])
      (repeat' (first | simp only [go_sem, *] | (refine sx ?_ ?_ <;> intro hc) | (refine sy (by omega) fun x hx => ?_ <;> have hm := List.mem_of_getElem? hx) | simp (disch := first | assumption | omega) only [wrap_id, le_max, le_maxI, slice_int]))
      rw [hr.out];rfl
theorem chan_kl (p : Prog) (s : Sol) (g : Group) (d : Def) (ch : Chan) (c i j : Nat) (hc : c ≤ 10000) (hi : i ≤ 10000) (hg : s.groups[i]? = some g) (h0 : 0 ≤ g.def_) (hd : p.defs[g.def_.toNat]? = some d) (hdo : DefOk d) (hch : d.chans[j]? = some ch) (he : d.own ≤ g.env.length) (hl : g.env.length ≤ 10000) (hp0 : 0 ≤ g.place d ch.at_) (hp1 : g.place d ch.at_ < s.spots.length) (hf : p.free.length ≤ 12) (hs1 : s.spots.length ≤ 24) (hs2 : s.chans.length ≤ 60) :
    askN (KL Tryz.prog cfg) 116 [.agg [.d (.lst (p.free.map encStr)), .d (.lst (p.nodes.map encNode)), .d (.lst (p.defs.map encDef)), .d (.int .i64 (p.main))], .agg [.d (.lst (s.spots.map encSpot)), .d (.lst (s.groups.map encGroup)), .d (.lst (s.chans.map encChn)), .d (.lst (s.waits.map encWait))], .d (.int .i64 (c)), .d (.int .i64 (i)), .d (.int .i64 (j))] [] = .ok (.ret (.d (.bool (chnAt p s d g i j c ch))), []) := by
  unfold chnAt;have hj := lt_of_get hch;have c1 := hdo.chans;have c2 := hdo.spots;have hca := hdo.chan ch (List.mem_of_getElem? hch);have hpl := placeR_kl p g d ch.at_ h0 hd c1 c2 he hl hca.1 hca.2.1;have hgi := lt_of_get hg;have hdi := lt_of_get hd;replace hdo := Later.mk hdo;by_cases hcc : (s.chans.length : Int) ≤ c
  · rw [List.getElem?_eq_none (by omega)]
    (refine KN_wp rfl Tryz.func116 rfl rfl rfl ?_; show Wp _ _ _ _ (Tryz.f116.body.get rfl) _ _; simp only [Tryz.f116, Option.get_some])
    (repeat' (first | simp only [go_sem, *] | (refine sx ?_ ?_ <;> intro hc) | (refine sy (by omega) fun x hx => ?_ <;> have hm := List.mem_of_getElem? hx) | simp (disch := first | assumption | omega) only [wrap_id, le_max, le_maxI, slice_int]))
  · have hcl : c < s.chans.length := by omega
    obtain ⟨q, hq⟩ := get_some hcl;rw [hq];dsimp only;obtain ⟨sp, hsp⟩ := get_some (l := s.spots) (i := (g.place d ch.at_).toNat) (by omega);have hda : Later (deadAt s.spots (g.place d ch.at_) = sp.dead) := ⟨by simp [deadAt, hsp]⟩;have hck : Later (chnOk p s d g i j q ch = (decide (q.group = i) && (decide (q.index = j) && (decide (q.at_ = g.place d ch.at_) && (decide (q.queue.length ≤ 12) && ((decide (q.queue.length = 0) || !deadAt s.spots q.at_) && q.queue.all (msgOk p s.chans.length s.spots.length ch.many))))))) := ⟨rfl⟩
    (refine KN_wp rfl Tryz.func116 rfl rfl rfl ?_; show Wp _ _ _ _ (Tryz.f116.body.get rfl) _ _; simp only [Tryz.f116, Option.get_some])
    (repeat' (first | simp only [go_sem, *] | (refine sx ?_ ?_ <;> intro hc) | (refine sy (by omega) fun x hx => ?_ <;> have hm := List.mem_of_getElem? hx) | simp (disch := first | assumption | omega) only [wrap_id, le_max, le_maxI, slice_int]))
    all_goals try
      have e1 := hck.out;have e2 := hda.out;clear hpl hck hda;congr 3;grind
    all_goals
      have hfin : Later (chnOk p s d g i j q ch = q.queue.all (msgOk p s.chans.length s.spots.length ch.many)) := ⟨by
        have e1 := hck.out;have e2 := hda.out;clear hpl hck hda;grind⟩
      refine rounds_list q.queue (S := fun i' (_ : Unit) => ⟨[(5, .ptr [0, 0] 0), (6, .ptr [0, 1] 0), (11, .ptr [0, 2] 0), (13, .ptr [0, 3] 0), (14, .d (.int .i64 (i')))], [([0, 0], .box [.d (.lst (p.free.map encStr)), .d (.lst (p.nodes.map encNode)), .d (.lst (p.defs.map encDef)), .d (.int .i64 (p.main))]), ([0, 1], .box [.d (.lst (s.spots.map encSpot)), .d (.lst (s.groups.map encGroup)), .d (.lst (s.chans.map encChn)), .d (.lst (s.waits.map encWait))]), ([0, 2], .box [.d (.int .i64 (i)), .d (.int .i64 (j)), .d (.int .i64 (g.place d ch.at_)), .d (.lst (q.queue.map encMsg))]), ([0, 3], .box [.d (.int .i64 (ch.at_)), .d (.int .i64 (ch.many))])], 4, []⟩)
        (Inv := fun _ rest _ => Later (q.queue.all (msgOk p s.chans.length s.spots.length ch.many) = rest.all (msgOk p s.chans.length s.spots.length ch.many))) (b0 := ()) ⟨rfl⟩ ?_ ?_
      · rintro i' y _ hy hi' him hr IH;have hvs := fun h => valuesIn_kl p (s.spots.map encSpot) (s.chans.map encChn) (.lst (s.groups.map encGroup)) (.lst (s.waits.map encWait)) y (by simp; omega) (by simp; omega) (by omega) h;rw [List.length_map, List.length_map] at hvs;by_cases hym : (y.length : Int) = ch.many
        · have hvs := hvs (by omega);have hmk : Later (msgOk p s.chans.length s.spots.length ch.many y = y.all (Val.inB p s.chans.length s.spots.length)) := ⟨by
            rw [msgOk, decide_eq_true hym, Bool.true_and]⟩
          (repeat' (first | simp only [go_sem, *] | (refine sx ?_ ?_ <;> intro hc) | (refine sy (by omega) fun x hx => ?_ <;> have hm := List.mem_of_getElem? hx) | simp (disch := first | assumption | omega) only [wrap_id, le_max, le_maxI, slice_int]))
          all_goals first
          | (refine IH.out () ⟨?_⟩; rw [hr.out, List.all_cons, hmk.out]; simp only [*, Bool.true_and]; done)
          | (rw [hfin.out, hr.out, List.all_cons, hmk.out]; simp only [*, Bool.false_and]; done)
        · have hmk : Later (msgOk p s.chans.length s.spots.length ch.many y = false) := ⟨by
            rw [msgOk, decide_eq_false hym, Bool.false_and]⟩
          clear hvs
          (repeat' (first | simp only [go_sem, *] | (refine sx ?_ ?_ <;> intro hc) | (refine sy (by omega) fun x hx => ?_ <;> have hm := List.mem_of_getElem? hx) | simp (disch := first | assumption | omega) only [wrap_id, le_max, le_maxI, slice_int]))
          rw [hfin.out, hr.out, List.all_cons, hmk.out, Bool.false_and]
      · rintro i' _ hi' him hr
        (repeat' (first | simp only [go_sem, *] | (refine sx ?_ ?_ <;> intro hc) | (refine sy (by omega) fun x hx => ?_ <;> have hm := List.mem_of_getElem? hx) | simp (disch := first | assumption | omega) only [wrap_id, le_max, le_maxI, slice_int]))
        rw [hfin.out, hr.out];rfl
end Go.Proofs
end
section
namespace Go.Proofs
open Go Go.Abs
set_option maxRecDepth 100000
set_option maxHeartbeats 4000000
set_option linter.unusedSimpArgs false
set_option linter.unusedVariables false
theorem groupsR_kl (p : Prog) (st : LSt) (s : Sol) (hlk : looks p = some st) (hss : s.small = true) : askN (KL Tryz.prog cfg) 67 [.agg [.d (.lst (p.free.map encStr)), .d (.lst (p.nodes.map encNode)), .d (.lst (p.defs.map encDef)), .d (.int .i64 (p.main))], .agg [.d (.lst (s.spots.map encSpot)), .d (.lst (s.groups.map encGroup)), .d (.lst (s.chans.map encChn)), .d (.lst (s.waits.map encWait))]] [] = .ok (.ret (.d (.bool (grpsOk p (groupsT p st.sizes) s 0 0 1 s.groups))), []) := by
  have hks := kidSizes_kl hlk;have hF := Later.mk (looks_formed hlk);have hsm := hF.out.small;simp only [Prog.small, Bool.and_eq_true, decide_eq_true_eq] at hsm;obtain ⟨c1, c2, c3⟩ := hsm;simp only [Sol.small, Bool.and_eq_true, decide_eq_true_eq] at hss;obtain ⟨s1, s2, s3, s4⟩ := hss;have hgl : (groupsT p st.sizes).length = p.defs.length := by rw [groupsT, groupsGo_len]; simp
  generalize hgs : groupsT p st.sizes = gs at *;replace hgs := Later.mk hgs
  (refine KN_wp rfl Tryz.func67 rfl rfl rfl ?_; show Wp _ _ _ _ (Tryz.f67.body.get rfl) _ _; simp only [Tryz.f67, Option.get_some])
  (repeat' (first | simp only [go_sem, *] | (refine sx ?_ ?_ <;> intro hc) | (refine sy (by omega) fun x hx => ?_ <;> have hm := List.mem_of_getElem? hx) | simp (disch := first | assumption | omega) only [wrap_id, le_max, le_maxI, slice_int]))
  refine rounds_list s.groups (S := fun i (a : Nat × Nat) => ⟨[(2, .ptr [0, 0] 0), (3, .ptr [0, 1] 0), (5, .d (.lst (gs.map encInt))), (6, .d (.int .i64 (a.1))), (7, .d (.int .i64 (a.2))), (8, .d (.int .i64 (i)))], [([0, 0], .box [.d (.lst (p.free.map encStr)), .d (.lst (p.nodes.map encNode)), .d (.lst (p.defs.map encDef)), .d (.int .i64 (p.main))]), ([0, 1], .box [.d (.lst (s.spots.map encSpot)), .d (.lst (s.groups.map encGroup)), .d (.lst (s.chans.map encChn)), .d (.lst (s.waits.map encWait))])], 2, []⟩)
    (Inv := fun i rest a => a.1 ≤ 30 * i ∧ a.2 ≤ 30 * i + 1 ∧ Later (grpsOk p gs s 0 0 1 s.groups = grpsOk p gs s i a.1 a.2 rest)) (b0 := (0, 1)) ⟨by simp, by simp, ⟨rfl⟩⟩ ?_ ?_
  · rintro i g ⟨c, k⟩ hy hi him ⟨b1, b2, hr⟩ IH;dsimp only at *;by_cases x0 : g.def_ < 0
    · have hf : Later (grpsOk p gs s 0 0 1 s.groups = false) := ⟨by rw [hr.out, grpsOk, Prog.def?, if_neg (by omega)]⟩
      (repeat' (first | simp only [go_sem, *] | (refine sx ?_ ?_ <;> intro hc) | (refine sy (by omega) fun x hx => ?_ <;> have hm := List.mem_of_getElem? hx) | simp (disch := first | assumption | omega) only [wrap_id, le_max, le_maxI, slice_int]))
      rw [hf.out]
    by_cases x1 : (p.defs.length : Int) ≤ g.def_
    · have hf : Later (grpsOk p gs s 0 0 1 s.groups = false) := ⟨by rw [hr.out, grpsOk, Prog.def?, if_pos (by omega), List.getElem?_eq_none (by omega)]⟩
      (repeat' (first | simp only [go_sem, *] | (refine sx ?_ ?_ <;> intro hc) | (refine sy (by omega) fun x hx => ?_ <;> have hm := List.mem_of_getElem? hx) | simp (disch := first | assumption | omega) only [wrap_id, le_max, le_maxI, slice_int]))
      rw [hf.out]
    have x2 : 0 ≤ g.def_ := by omega
    have hdl : g.def_.toNat < p.defs.length := by omega
    obtain ⟨d, hd⟩ := get_some hdl;have hdf := def_fact hF.out hd;obtain ⟨v, hv⟩ := get_some (l := gs) (i := g.def_.toNat) (by omega);have hv2 : d.own ≤ v ∧ v ≤ 5060 := by
      obtain ⟨_, _, s0, _, _, _, _, q0, q1, q2, _⟩ := hdf.node;rw [hgs.out, hv] at q2;cases q2;have := own_le hdf.ok;omega
    have hstep : Later (grpsOk p gs s 0 0 1 s.groups = (grpOk p gs s i c k g d && grpsOk p gs s (i + 1) (c + d.chans.length) (k + d.spots.length) (s.groups.drop (i + 1)))) := ⟨by
      rw [hr.out, grpsOk, Prog.def?, if_pos x2, hd]⟩
    have hgo : Later (grpOk p gs s i c k g d = (decide (inR s.spots g.at_) && (decide ((g.env.length : Int) = v) && (g.env.all (Val.inB p s.chans.length s.spots.length) && (mineOk d c k g && chnsOk p s d g i c 0 d.chans))))) := ⟨by
      rw [grpOk, hv]; rfl⟩
    have hdo := hdf.ok;have e1 := hdo.chans;have e2 := hdo.spots;have e3 : d.own = d.chans.length + d.spots.length := rfl;replace hdo := Later.mk hdo;replace hdf := Later.mk hdf;by_cases hlen : (g.env.length : Int) = v
    · have hvs := valuesIn_kl p (s.spots.map encSpot) (s.chans.map encChn) (.lst (s.groups.map encGroup)) (.lst (s.waits.map encWait)) g.env (by simp; omega) (by simp; omega) (by omega) (by omega);rw [List.length_map, List.length_map] at hvs;have hlt2 : g.env.length ≤ 5060 := by omega
      have hown : d.own ≤ g.env.length := by omega
      replace hlen := Later.mk hlen;have hgv := Later.mk (show gs[g.def_.toNat]? = some v from hv);rw [← hlen.out] at hv;have w1 : IntKind.i64.wrap ((g.env.length : Int) - (d.spots.length : Int)) = (g.env.length : Int) - (d.spots.length : Int) := wrap_id (by omega) (by omega);have w2 : IntKind.i64.wrap ((g.env.length : Int) - (d.spots.length : Int) - (d.chans.length : Int)) = ((g.env.length - d.chans.length - d.spots.length : Nat) : Int) := by rw [wrap_id (by omega) (by omega)]; omega
      have w5 : IntKind.i64.wrap ((d.chans.length : Int) + (d.spots.length : Int)) = (d.chans.length : Int) + (d.spots.length : Int) := wrap_id (by omega) (by omega)
      (repeat' (first | simp only [go_sem, *] | (refine sx ?_ ?_ <;> intro hc) | (refine sy (by omega) fun x hx => ?_ <;> have hm := List.mem_of_getElem? hx) | simp (disch := first | assumption | omega) only [wrap_id, le_max, le_maxI, slice_int]))
      all_goals try
        have q1 := hstep.out;have q2 := hgo.out;clear hks hgo hstep IH;congr 3;grind [inR]
      have hin : inR s.spots g.at_ := ⟨by omega, by omega⟩;have hall : g.env.all (Val.inB p s.chans.length s.spots.length) = true := by assumption
      have hg2 : Later (grpsOk p gs s 0 0 1 s.groups = ((mineOk d c k g && chnsOk p s d g i c 0 d.chans) && grpsOk p gs s (i + 1) (c + d.chans.length) (k + d.spots.length) (s.groups.drop (i + 1)))) := ⟨by
        rw [hstep.out, hgo.out, decide_eq_true hin, decide_eq_true hlen.out, hall];simp⟩
      replace hin := Later.mk hin;replace hall := Later.mk hall;have hm0 : Later (mineOk d c k g = decide (g.env.drop (g.env.length - d.chans.length - d.spots.length + 0) = mineOf c k d)) := ⟨rfl⟩;clear hvs hgo hstep;refine rounds_list (mineOf c k d) (S := fun i2 (a : Nat × Nat) => ⟨[(2, .ptr [0, 0] 0), (3, .ptr [0, 1] 0), (5, .d (.lst (gs.map encInt))), (6, .d (.int .i64 (a.1))), (7, .d (.int .i64 (a.2))), (8, .d (.int .i64 (i))), (9, .ptr [0, 2] 0), (10, .ptr [0, 3] 0), (11, .d (.int .i64 (((g.env.length - d.chans.length - d.spots.length : Nat) : Int)))), (12, .d (.int .i64 (i2)))], [([0, 0], .box [.d (.lst (p.free.map encStr)), .d (.lst (p.nodes.map encNode)), .d (.lst (p.defs.map encDef)), .d (.int .i64 (p.main))]), ([0, 1], .box [.d (.lst (s.spots.map encSpot)), .d (.lst (s.groups.map encGroup)), .d (.lst (s.chans.map encChn)), .d (.lst (s.waits.map encWait))]), ([0, 2], .box [.d (.int .i64 (g.def_)), .d (.int .i64 (g.at_)), .d (.lst (g.env.map encVal))]), ([0, 3], .box [.d (.lst (d.chans.map encChan)), .d (.lst (d.spots.map encDSpot)), .d (.lst (d.rules.map encRule))])], 4, []⟩)
        (Inv := fun i2 rest a => a.1 = c + min i2 d.chans.length ∧ a.2 = k + (i2 - d.chans.length) ∧ Later (mineOk d c k g = decide (g.env.drop (g.env.length - d.chans.length - d.spots.length + i2) = rest))) (b0 := (c, k)) ⟨by simp, by simp, hm0⟩ ?_ ?_
      · rintro i2 y ⟨c', k'⟩ hy2 hi2 him2 ⟨ha1, ha2, hr2⟩ IH2;dsimp only at *;rw [mineOf_len] at hi2;obtain ⟨u, hu, hdr⟩ := drop_own hown hi2;have hr3 : Later (mineOk d c k g = (decide (u = y) && decide (g.env.drop (g.env.length - d.chans.length - d.spots.length + (i2 + 1)) = (mineOf c k d).drop (i2 + 1)))) := ⟨by
          rw [hr2.out, hdr, Bool.eq_iff_iff];simp⟩
        have cnd : (i2 : Int) < (d.chans.length : Int) + (d.spots.length : Int) := by omega
        have ix : (((g.env.length - d.chans.length - d.spots.length : Nat) : Int) + (i2 : Int)).toNat = g.env.length - d.chans.length - d.spots.length + i2 := by omega
        rw [← ix] at hu;have ix2 : 0 ≤ ((g.env.length - d.chans.length - d.spots.length : Nat) : Int) + (i2 : Int) := by omega
        replace ix := Later.mk ix;have w3 : IntKind.i64.wrap (((g.env.length - d.chans.length - d.spots.length : Nat) : Int) + (i2 : Int)) = ((g.env.length - d.chans.length - d.spots.length : Nat) : Int) + (i2 : Int) := wrap_id (by omega) (by omega);have hlt : Later (g.env.length ≤ 10000) := ⟨by have := hlen.out; omega⟩;by_cases hch : i2 < d.chans.length
        · have hge : ¬ (d.chans.length : Int) ≤ (i2 : Int) := by omega
          rw [mineOf_chan _ _ _ hch] at hy2;cases hy2;obtain rfl : c' = c + i2 := by omega
          have ha := Later.mk ha2;clear ha1 ha2;rw [← Int.natCast_add] at hr3;by_cases hu2 : u = ⟨3, ((c + i2 : Nat) : Int)⟩
          · subst hu2
            (repeat' (first | simp only [go_sem, *] | (refine sx ?_ ?_ <;> intro hc) | (refine sy (by omega) fun x hx => ?_ <;> have hm := List.mem_of_getElem? hx) | simp (disch := first | assumption | omega) only [wrap_id, le_max, le_maxI, slice_int]))
            refine IH2.out (c + i2 + 1, k') ⟨by dsimp only; have := ha.out; omega, by dsimp only; have := ha.out; omega, ⟨?_⟩⟩;rw [hr3.out];simp
          · have hne : (decide (u.kind = 3) && decide (u.n = ((c + i2 : Nat) : Int))) = false := by
              rw [← Bool.not_eq_true, Bool.and_eq_true, decide_eq_true_eq, decide_eq_true_eq];rintro ⟨h1, h2⟩;exact hu2 (by cases u; simp_all)
            have hbad : Later (grpsOk p gs s 0 0 1 s.groups = false) := ⟨by
              rw [hg2.out, hr3.out, decide_eq_false hu2];simp⟩
            (repeat' (first | simp only [go_sem, *] | (refine sx ?_ ?_ <;> intro hc) | (refine sy (by omega) fun x hx => ?_ <;> have hm := List.mem_of_getElem? hx) | simp (disch := first | assumption | omega) only [wrap_id, le_max, le_maxI, slice_int]))
            rw [hbad.out]
        · have hge : (d.chans.length : Int) ≤ (i2 : Int) := by omega
          have hy3 := mineOf_spot c k d (j := i2 - d.chans.length) (by omega);rw [show d.chans.length + (i2 - d.chans.length) = i2 by omega, hy2] at hy3;cases hy3;obtain rfl : k' = k + (i2 - d.chans.length) := by omega
          have ha := Later.mk ha1;clear ha1 ha2;rw [← Int.natCast_add] at hr3;by_cases hu2 : u = ⟨4, ((k + (i2 - d.chans.length) : Nat) : Int)⟩
          · subst hu2
            (repeat' (first | simp only [go_sem, *] | (refine sx ?_ ?_ <;> intro hc) | (refine sy (by omega) fun x hx => ?_ <;> have hm := List.mem_of_getElem? hx) | simp (disch := first | assumption | omega) only [wrap_id, le_max, le_maxI, slice_int]))
            refine IH2.out (c', k + (i2 - d.chans.length) + 1) ⟨by dsimp only; have := ha.out; omega, by dsimp only; have := ha.out; omega, ⟨?_⟩⟩;rw [hr3.out];simp
          · have hne : (decide (u.kind = 4) && decide (u.n = ((k + (i2 - d.chans.length) : Nat) : Int))) = false := by
              rw [← Bool.not_eq_true, Bool.and_eq_true, decide_eq_true_eq, decide_eq_true_eq];rintro ⟨h1, h2⟩;exact hu2 (by cases u; simp_all)
            have hbad : Later (grpsOk p gs s 0 0 1 s.groups = false) := ⟨by
              rw [hg2.out, hr3.out, decide_eq_false hu2];simp⟩
            (repeat' (first | simp only [go_sem, *] | (refine sx ?_ ?_ <;> intro hc) | (refine sy (by omega) fun x hx => ?_ <;> have hm := List.mem_of_getElem? hx) | simp (disch := first | assumption | omega) only [wrap_id, le_max, le_maxI, slice_int]))
            rw [hbad.out]
      · rintro i2 ⟨c', k'⟩ hi2 him2 ⟨ha1, ha2, hr2⟩;dsimp only at *;have hi3 := hi2.out;rw [mineOf_len] at hi3;obtain rfl : c' = c + d.chans.length := by omega
        obtain rfl : k' = k + d.spots.length := by omega
        clear ha1 ha2;have cnd : ¬ (i2 : Int) < (d.chans.length : Int) + (d.spots.length : Int) := by omega
        replace hi3 := Later.mk hi3;have hmine : Later (mineOk d c k g = true) := ⟨by
          rw [hr2.out, List.drop_eq_nil_of_le (by have := hi3.out; omega)];simp⟩
        have hg3 : Later (grpsOk p gs s 0 0 1 s.groups = (chnsOk p s d g i c 0 d.chans && grpsOk p gs s (i + 1) (c + d.chans.length) (k + d.spots.length) (s.groups.drop (i + 1)))) := ⟨by
          rw [hg2.out, hmine.out, Bool.true_and]⟩
        (repeat' (first | simp only [go_sem, *] | (refine sx ?_ ?_ <;> intro hc) | (refine sy (by omega) fun x hx => ?_ <;> have hm := List.mem_of_getElem? hx) | simp (disch := first | assumption | omega) only [wrap_id, le_max, le_maxI, slice_int]))
        clear hr2 hi2 hi3 him2 cnd hm0 hg2 i2;refine rounds_list d.chans (S := fun j (_ : Unit) => ⟨[(2, .ptr [0, 0] 0), (3, .ptr [0, 1] 0), (5, .d (.lst (gs.map encInt))), (6, .d (.int .i64 (((c + d.chans.length : Nat) : Int)))), (7, .d (.int .i64 (((k + d.spots.length : Nat) : Int)))), (8, .d (.int .i64 (i))), (10, .ptr [0, 2] 0), (14, .d (.int .i64 (j)))], [([0, 0], .box [.d (.lst (p.free.map encStr)), .d (.lst (p.nodes.map encNode)), .d (.lst (p.defs.map encDef)), .d (.int .i64 (p.main))]), ([0, 1], .box [.d (.lst (s.spots.map encSpot)), .d (.lst (s.groups.map encGroup)), .d (.lst (s.chans.map encChn)), .d (.lst (s.waits.map encWait))]), ([0, 2], .box [.d (.lst (d.chans.map encChan)), .d (.lst (d.spots.map encDSpot)), .d (.lst (d.rules.map encRule))])], 3, []⟩)
          (Inv := fun j rest _ => Later (chnsOk p s d g i c 0 d.chans = chnsOk p s d g i c j rest)) (b0 := ()) ⟨rfl⟩ ?_ ?_
        · rintro j ch _ hyj hij himj hrj IHj;have hpi := place_in hmine.out hown hin.out hall.out (n := ch.at_) (hdo.out.chan ch (List.mem_of_getElem? hyj)).1 (hdo.out.chan ch (List.mem_of_getElem? hyj)).2.1;have hck := chan_kl p s g d ch (c + j) i j (by omega) (by omega) hy x2 hd hdo.out hyj hown (by omega) hpi.1 hpi.2 c1 s1 s3;have w6 : IntKind.i64.wrap (((c + d.chans.length : Nat) : Int) - (d.chans.length : Int)) = (c : Int) := by rw [wrap_id (by omega) (by omega)]; omega
          have w7 : IntKind.i64.wrap ((c : Int) + (j : Int)) = ((c + j : Nat) : Int) := by rw [wrap_id (by omega) (by omega)]; omega
          replace hpi := Later.mk hpi;rw [chnsOk] at hrj;cases hv3 : chnAt p s d g i j (c + j) ch with
          | true =>
            rw [hv3] at hck hrj
            (repeat' (first | simp only [go_sem, *] | (refine sx ?_ ?_ <;> intro hc) | (refine sy (by omega) fun x hx => ?_ <;> have hm := List.mem_of_getElem? hx) | simp (disch := first | assumption | omega) only [wrap_id, le_max, le_maxI, slice_int]))
            refine IHj.out () ⟨?_⟩;rw [hrj.out, Bool.true_and]
          | false =>
            rw [hv3] at hck hrj
            (repeat' (first | simp only [go_sem, *] | (refine sx ?_ ?_ <;> intro hc) | (refine sy (by omega) fun x hx => ?_ <;> have hm := List.mem_of_getElem? hx) | simp (disch := first | assumption | omega) only [wrap_id, le_max, le_maxI, slice_int]))
            rw [hg3.out, hrj.out, Bool.false_and, Bool.false_and]
        · rintro j _ hij himj hrj
          (repeat' (first | simp only [go_sem, *] | (refine sx ?_ ?_ <;> intro hc) | (refine sy (by omega) fun x hx => ?_ <;> have hm := List.mem_of_getElem? hx) | simp (disch := first | assumption | omega) only [wrap_id, le_max, le_maxI, slice_int]))
          refine IH.out (c + d.chans.length, k + d.spots.length) ⟨by dsimp only; omega, by dsimp only; omega, ⟨?_⟩⟩;dsimp only;rw [hg3.out, hrj.out, chnsOk, Bool.true_and]
    · (repeat' (first | simp only [go_sem, *] | (refine sx ?_ ?_ <;> intro hc) | (refine sy (by omega) fun x hx => ?_ <;> have hm := List.mem_of_getElem? hx) | simp (disch := first | assumption | omega) only [wrap_id, le_max, le_maxI, slice_int]))
      all_goals
        have q1 := hstep.out;have q2 := hgo.out;clear hks hgo hstep IH;congr 3;grind [inR]
  · rintro i ⟨c, k⟩ hi him ⟨b1, b2, hr⟩;dsimp only at *;have hfin : Later (grpsOk p gs s 0 0 1 s.groups = (decide (c = s.chans.length) && decide (k = s.spots.length))) := ⟨by rw [hr.out, grpsOk]⟩
    (repeat' (first | simp only [go_sem, *] | (refine sx ?_ ?_ <;> intro hc) | (refine sy (by omega) fun x hx => ?_ <;> have hm := List.mem_of_getElem? hx) | simp (disch := first | assumption | omega) only [wrap_id, le_max, le_maxI, slice_int]))
    all_goals
      rw [hfin.out];congr 3;grind
end Go.Proofs
end
section
namespace Go.Proofs
open Go Go.Abs
set_option maxRecDepth 100000
set_option maxHeartbeats 4000000
set_option linter.unusedSimpArgs false
set_option linter.unusedVariables false
def solErr (p : Prog) (s : Sol) : Int := match looks p with | some st => if solOk p st.sizes s = true then 0 else 2 | none => 2
theorem CheckR_kl (p : Prog) (s : Sol) : askN (KL Tryz.prog cfg) 32 [.agg [.d (.lst (p.free.map encStr)), .d (.lst (p.nodes.map encNode)), .d (.lst (p.defs.map encDef)), .d (.int .i64 (p.main))], .agg [.d (.lst (s.spots.map encSpot)), .d (.lst (s.groups.map encGroup)), .d (.lst (s.chans.map encChn)), .d (.lst (s.waits.map encWait))]] [] = .ok (.ret (.d (.int .i64 (solErr p s))), []) := by
  have hcp := CheckP_kl p;cases hlk : looks p with
  | none =>
    have he : solErr p s = 2 := by rw [solErr, hlk]
    have he2 : errP p = 2 := by rw [errP, hlk]
    rw [he2] at hcp;rw [he]
    (refine KN_wp rfl Tryz.func32 rfl rfl rfl ?_; show Wp _ _ _ _ (Tryz.f32.body.get rfl) _ _; simp only [Tryz.f32, Option.get_some])
    (repeat' (first | simp only [go_sem, *] | (refine sx ?_ ?_ <;> intro hc) | (refine sy (by omega) fun x hx => ?_ <;> have hm := List.mem_of_getElem? hx) | simp (disch := first | assumption | omega) only [wrap_id, le_max, le_maxI, slice_int]))
  | some st =>
    have he2 : errP p = 0 := by rw [errP, hlk]
    rw [he2] at hcp;have he : Later (solErr p s = if solOk p st.sizes s = true then 0 else 2) := ⟨by rw [solErr, hlk]⟩;by_cases hss : s.small = true
    · have hbad : Later (solOk p st.sizes s = false → solErr p s = 2) := ⟨fun h => by rw [he.out, h]; rfl⟩;have hF := Later.mk (looks_formed hlk);have hsm := hF.out.small;simp only [Prog.small, Bool.and_eq_true, decide_eq_true_eq] at hsm;obtain ⟨c1, c2, c3⟩ := hsm;have hok : Later (solOk p st.sizes s = (treeB s.spots && (deadOk s.spots (s.spots.drop 1) && (grpsOk p (groupsT p st.sizes) s 0 0 1 s.groups && s.waits.all (waitOk p st.sizes s))))) := ⟨by rw [solOk, hss, Bool.true_and]⟩;have hgr := groupsR_kl p st s hlk hss;have hsz := SizesOf_kl hlk;simp only [Sol.small, Bool.and_eq_true, decide_eq_true_eq] at hss;obtain ⟨s1, s2, s3, s4⟩ := hss;have z1 : ¬ (24 : Int) < s.spots.length := by omega
      have z2 : ¬ (40 : Int) < s.groups.length := by omega
      have z3 : ¬ (60 : Int) < s.chans.length := by omega
      have z4 : ¬ (40 : Int) < s.waits.length := by omega
      have htr := treeR_kl s.spots (.lst (s.groups.map encGroup)) (.lst (s.chans.map encChn)) (.lst (s.waits.map encWait)) (by omega);cases htb : treeB s.spots with
      | false =>
        rw [htb] at htr hok
        (refine KN_wp rfl Tryz.func32 rfl rfl rfl ?_; show Wp _ _ _ _ (Tryz.f32.body.get rfl) _ _; simp only [Tryz.f32, Option.get_some])
        (repeat' (first | simp only [go_sem, *] | (refine sx ?_ ?_ <;> intro hc) | (refine sy (by omega) fun x hx => ?_ <;> have hm := List.mem_of_getElem? hx) | simp (disch := first | assumption | omega) only [wrap_id, le_max, le_maxI, slice_int]))
        all_goals first
        | (exfalso; omega)
        | rw [hbad.out (by rw [hok.out]; rfl)]
      | true =>
        rw [htb, Bool.true_and] at hok;rw [htb] at htr;have hT := treeB_ok htb;have htop := hT.top;replace hT := Later.mk hT
        (refine KN_wp rfl Tryz.func32 rfl rfl rfl ?_; show Wp _ _ _ _ (Tryz.f32.body.get rfl) _ _; simp only [Tryz.f32, Option.get_some])
        (repeat' (first | simp only [go_sem, *] | (refine sx ?_ ?_ <;> intro hc) | (refine sy (by omega) fun x hx => ?_ <;> have hm := List.mem_of_getElem? hx) | simp (disch := first | assumption | omega) only [wrap_id, le_max, le_maxI, slice_int]))
        refine rounds_list (s.spots.drop 1) (S := fun i (_ : Unit) => ⟨[(2, .ptr [0, 0] 0), (3, .ptr [0, 1] 0), (5, .d (.int .i64 ((i : Int) + 1)))], [([0, 0], .box [.d (.lst (p.free.map encStr)), .d (.lst (p.nodes.map encNode)), .d (.lst (p.defs.map encDef)), .d (.int .i64 (p.main))]), ([0, 1], .box [.d (.lst (s.spots.map encSpot)), .d (.lst (s.groups.map encGroup)), .d (.lst (s.chans.map encChn)), .d (.lst (s.waits.map encWait))])], 2, []⟩)
          (Inv := fun i rest _ => Later (deadOk s.spots (s.spots.drop 1) = deadOk s.spots rest)) (b0 := ()) ⟨rfl⟩ ?_ ?_
        · rintro i y _ hy hi him hr IH;rw [List.getElem?_drop] at hy;rw [List.length_drop] at hi;have ix : ((i : Int) + 1).toNat = 1 + i := by omega
          rw [← ix] at hy;replace ix := Later.mk ix;have hi2 : (i : Int) + 1 < s.spots.length := by omega
          have hi3 : 0 ≤ (i : Int) + 1 := by omega
          have hpar : inR s.spots y.in_ := by
            have h1 := hT.out.climbs ((i : Int) + 1) ⟨by omega, by omega⟩;obtain ⟨k, hk⟩ : ∃ k, s.spots.length = k + 1 := ⟨s.spots.length - 1, by omega⟩;rw [hk] at h1;have h2 := (climb_step (by omega) h1).1
            rwa [par_get hy] at h2
          obtain ⟨p1, p2⟩ := hpar;obtain ⟨z, hz⟩ := get_some (l := s.spots) (i := y.in_.toNat) (by omega);have hda : Later (deadAt s.spots y.in_ = z.dead) := ⟨by simp [deadAt, hz]⟩;rw [deadOk] at hr;cases hyd : y.dead <;> cases hzd : z.dead;all_goals ((repeat' (first | simp only [go_sem, *] | (refine sx ?_ ?_ <;> intro hc) | (refine sy (by omega) fun x hx => ?_ <;> have hm := List.mem_of_getElem? hx) | simp (disch := first | assumption | omega) only [wrap_id, le_max, le_maxI, slice_int])))
          all_goals first
          | (refine IH.out () ⟨?_⟩; rw [hr.out, hda.out, hyd, hzd]; rfl)
          | (refine IH.out () ⟨?_⟩; rw [hr.out, hyd]; rfl)
          | (rw [hbad.out (by rw [hok.out, hr.out, hda.out, hyd, hzd]; rfl)])
        · rintro i _ hi him hr;have hi' := hi.out;rw [List.length_drop] at hi';have hi2 : ¬ (i : Int) + 1 < s.spots.length := by omega
          replace hi' := Later.mk hi';rw [deadOk] at hr;cases hgv : grpsOk p (groupsT p st.sizes) s 0 0 1 s.groups with
          | false =>
            rw [hgv] at hgr
            (repeat' (first | simp only [go_sem, *] | (refine sx ?_ ?_ <;> intro hc) | (refine sy (by omega) fun x hx => ?_ <;> have hm := List.mem_of_getElem? hx) | simp (disch := first | assumption | omega) only [wrap_id, le_max, le_maxI, slice_int]))
            rw [hbad.out (by rw [hok.out, hgv, Bool.false_and, Bool.and_false])]
          | true =>
            rw [hgv] at hgr hok
            (repeat' (first | simp only [go_sem, *] | (refine sx ?_ ?_ <;> intro hc) | (refine sy (by omega) fun x hx => ?_ <;> have hm := List.mem_of_getElem? hx) | simp (disch := first | assumption | omega) only [wrap_id, le_max, le_maxI, slice_int]))
            have hr0 := hr;clear hr hi hi' him hi2;refine rounds_list s.waits (S := fun i (_ : Unit) => ⟨[(2, .ptr [0, 0] 0), (3, .ptr [0, 1] 0), (6, .d (.lst (st.sizes.map encInt))), (7, .d (.int .i64 (i)))], [([0, 0], .box [.d (.lst (p.free.map encStr)), .d (.lst (p.nodes.map encNode)), .d (.lst (p.defs.map encDef)), .d (.int .i64 (p.main))]), ([0, 1], .box [.d (.lst (s.spots.map encSpot)), .d (.lst (s.groups.map encGroup)), .d (.lst (s.chans.map encChn)), .d (.lst (s.waits.map encWait))])], 2, []⟩)
              (Inv := fun i rest _ => Later (solOk p st.sizes s = rest.all (waitOk p st.sizes s))) (b0 := ()) ⟨?_⟩ ?_ ?_
            · rw [hok.out, hr0.out, Bool.true_and, Bool.true_and]
            · rintro i w _ hy hi him hr IH;have hwo : Later (waitOk p st.sizes s w = (decide (inR s.spots w.at_) && (!deadAt s.spots w.at_ && (decide (0 ≤ w.node) && ((match p.nodes[w.node.toNat]? with | some x => waitsOp x.op | none => false) && (decide ((w.env.length : Int) = (st.sizes[w.node.toNat]?).getD 0) && w.env.all (Val.inB p s.chans.length s.spots.length))))))) := ⟨rfl⟩
              have hbw : Later (waitOk p st.sizes s w = false → solErr p s = 2) := ⟨fun h => hbad.out (by rw [hr.out, List.all_cons, h, Bool.false_and])⟩;by_cases a0 : w.at_ < 0
              · have hz : Later (solErr p s = 2) := ⟨hbw.out (by rw [hwo.out, decide_eq_false (show ¬ inR s.spots w.at_ from fun h => by have := h.1; omega)]; simp)⟩
                (repeat' (first | simp only [go_sem, *] | (refine sx ?_ ?_ <;> intro hc) | (refine sy (by omega) fun x hx => ?_ <;> have hm := List.mem_of_getElem? hx) | simp (disch := first | assumption | omega) only [wrap_id, le_max, le_maxI, slice_int]))
                all_goals rw [hz.out]
              by_cases a1 : (s.spots.length : Int) ≤ w.at_
              · have hz : Later (solErr p s = 2) := ⟨hbw.out (by rw [hwo.out, decide_eq_false (show ¬ inR s.spots w.at_ from fun h => by have := h.2; omega)]; simp)⟩
                (repeat' (first | simp only [go_sem, *] | (refine sx ?_ ?_ <;> intro hc) | (refine sy (by omega) fun x hx => ?_ <;> have hm := List.mem_of_getElem? hx) | simp (disch := first | assumption | omega) only [wrap_id, le_max, le_maxI, slice_int]))
                all_goals rw [hz.out]
              have a2 : 0 ≤ w.at_ := by omega
              obtain ⟨sp, hsp⟩ := get_some (l := s.spots) (i := w.at_.toNat) (by omega);have hda : Later (deadAt s.spots w.at_ = sp.dead) := ⟨by simp [deadAt, hsp]⟩;have hin : Later (decide (inR s.spots w.at_) = true) := ⟨decide_eq_true ⟨by omega, by omega⟩⟩;by_cases n0 : w.node < 0
              · have hz : Later (solErr p s = 2) := ⟨hbw.out (by rw [hwo.out, decide_eq_false (show ¬ 0 ≤ w.node by omega)]; simp)⟩
                (repeat' (first | simp only [go_sem, *] | (refine sx ?_ ?_ <;> intro hc) | (refine sy (by omega) fun x hx => ?_ <;> have hm := List.mem_of_getElem? hx) | simp (disch := first | assumption | omega) only [wrap_id, le_max, le_maxI, slice_int]))
                all_goals rw [hz.out]
              by_cases n1 : (p.nodes.length : Int) ≤ w.node
              · have hz : Later (solErr p s = 2) := ⟨hbw.out (by rw [hwo.out, List.getElem?_eq_none (show p.nodes.length ≤ w.node.toNat by omega)]; simp)⟩
                (repeat' (first | simp only [go_sem, *] | (refine sx ?_ ?_ <;> intro hc) | (refine sy (by omega) fun x hx => ?_ <;> have hm := List.mem_of_getElem? hx) | simp (disch := first | assumption | omega) only [wrap_id, le_max, le_maxI, slice_int]))
                all_goals rw [hz.out]
              have n2 : 0 ≤ w.node := by omega
              obtain ⟨x, hx⟩ := get_some (l := p.nodes) (i := w.node.toNat) (by omega);obtain ⟨v, _, hv, v0, v1, _⟩ := hF.out.node _ x hx;have hln := Later.mk hF.out.len;have hlv := lt_of_get hv;by_cases hlen : (w.env.length : Int) = v
              · have hvs := valuesIn_kl p (s.spots.map encSpot) (s.chans.map encChn) (.lst (s.groups.map encGroup)) (.lst (s.waits.map encWait)) w.env (by simp; omega) (by simp; omega) (by omega) (by omega);rw [List.length_map, List.length_map] at hvs;have hwo2 : Later (waitOk p st.sizes s w = (decide (inR s.spots w.at_) && (!deadAt s.spots w.at_ && (waitsOp x.op && w.env.all (Val.inB p s.chans.length s.spots.length))))) := ⟨by
                  rw [hwo.out, decide_eq_true (show 0 ≤ w.node by omega), hx, hv];simp [hlen]⟩
                rw [← hlen] at hv;replace hlen := Later.mk hlen;cases hsd : sp.dead with
                | true =>
                  have hz : Later (solErr p s = 2) := ⟨hbw.out (by rw [hwo2.out, hda.out, hsd]; simp)⟩
                  (repeat' (first | simp only [go_sem, *, waitsOp_kl] | (refine sx ?_ ?_ <;> intro hc) | (refine sy (by omega) fun x hx => ?_ <;> have hm := List.mem_of_getElem? hx) | simp (disch := first | assumption | omega) only [wrap_id, le_max, le_maxI, slice_int]))
                  all_goals rw [hz.out]
                | false =>
                  have hwo3 : Later (waitOk p st.sizes s w = (waitsOp x.op && w.env.all (Val.inB p s.chans.length s.spots.length))) := ⟨by
                    rw [hwo2.out, hin.out, hda.out, hsd]; simp⟩
                  (repeat' (first | simp only [go_sem, *, waitsOp_kl] | (refine sx ?_ ?_ <;> intro hc) | (refine sy (by omega) fun x hx => ?_ <;> have hm := List.mem_of_getElem? hx) | simp (disch := first | assumption | omega) only [wrap_id, le_max, le_maxI, slice_int]))
                  all_goals first
                  | (refine IH.out () ⟨?_⟩; rw [hr.out, List.all_cons, hwo3.out]; simp only [*, Bool.true_and]; done)
                  | (rw [hbw.out (by rw [hwo3.out]; simp only [*, Bool.false_and, Bool.and_false])]; done)
              · have hz : Later (solErr p s = 2) := ⟨hbw.out (by rw [hwo.out, hv, decide_eq_false (show ¬ (w.env.length : Int) = (some v).getD 0 from hlen)]; simp)⟩
                (repeat' (first | simp only [go_sem, *, waitsOp_kl] | (refine sx ?_ ?_ <;> intro hc) | (refine sy (by omega) fun x hx => ?_ <;> have hm := List.mem_of_getElem? hx) | simp (disch := first | assumption | omega) only [wrap_id, le_max, le_maxI, slice_int]))
                all_goals rw [hz.out]
            · rintro i _ hi him hr;have hz : Later (solErr p s = 0) := ⟨by rw [he.out, hr.out]; rfl⟩
              (repeat' (first | simp only [go_sem, *] | (refine sx ?_ ?_ <;> intro hc) | (refine sy (by omega) fun x hx => ?_ <;> have hm := List.mem_of_getElem? hx) | simp (disch := first | assumption | omega) only [wrap_id, le_max, le_maxI, slice_int]))
              rw [hz.out]
    · have he3 : solErr p s = 2 := by
        rw [he.out, solOk];simp [hss]
      rw [he3];have hss : Later (¬ (s.spots.length ≤ 24 ∧ s.groups.length ≤ 40 ∧ s.chans.length ≤ 60 ∧ s.waits.length ≤ 40)) := ⟨by simpa [Sol.small] using hss⟩;clear he3
      (refine KN_wp rfl Tryz.func32 rfl rfl rfl ?_; show Wp _ _ _ _ (Tryz.f32.body.get rfl) _ _; simp only [Tryz.f32, Option.get_some])
      (repeat' (first | simp only [go_sem, *] | (refine sx ?_ ?_ <;> intro hc) | (refine sy (by omega) fun x hx => ?_ <;> have hm := List.mem_of_getElem? hx) | simp (disch := first | assumption | omega) only [wrap_id, le_max, le_maxI, slice_int]))
      all_goals (have := hss.out; exfalso; omega)
end Go.Proofs
end
section
namespace Go.Proofs
open Go Go.Abs
set_option maxRecDepth 100000
set_option maxHeartbeats 4000000
set_option linter.unusedSimpArgs false
set_option linter.unusedVariables false
theorem own_kl5 {h : Heap} {π : List Nat} {m : Abs.Id} {x0 x1 x2 x3 x4 x5 x7 x8 x9 x10 x11 x12 : AV} {ds : List Def} {g : Group} {d : Def} (hm : h.get m = some (.box [x0, x1, x2, x3, x4, x5, .d (.lst (ds.map encDef)), x7, x8, x9, x10, x11, x12])) (um : Id.under π m = false) (h0 : 0 ≤ g.def_) (hd : ds[g.def_.toNat]? = some d) (c1 : d.chans.length ≤ 30) (c2 : d.spots.length ≤ 30) (he : d.own ≤ g.env.length) (hl : g.env.length ≤ 10000) (c : Bool) (n : Int) (hn : 0 ≤ n) (hn2 : n < if c then (d.chans.length : Int) else d.spots.length) :
    ∃ o h', KL Tryz.prog cfg (.fn 95) [.ptr m 0, .agg [.d (.int .i64 (g.def_)), .d (.int .i64 (g.at_)), .d (.lst (g.env.map encVal))], .d (.bool (c)), .d (.int .i64 (n))] h π true (some π) = .ok (o, h') ∧ o = .ret (.d (.int .i64 (g.own d c n))) := by
  have hdl := lt_of_get hd;have e1 := not_is um;have e2 := not_is' um;unfold Def.own at he;cases c with
  | true =>
    simp only [if_true] at hn2;have hlt : g.env.length - d.spots.length - d.chans.length + n.toNat < g.env.length := by omega
    obtain ⟨v, hv⟩ := get_some hlt;have hpl : Later (g.own d true n = v.n) := ⟨by
      rw [Group.own];simp only [if_true];rw [hv];rfl⟩
    have q1 : ((g.env.length : Int) - (d.spots.length : Int) - (d.chans.length : Int) + n).toNat = g.env.length - d.spots.length - d.chans.length + n.toNat := by omega
    rw [← q1] at hv;replace q1 := Later.mk q1;have q2 : 0 ≤ (g.env.length : Int) - (d.spots.length : Int) - (d.chans.length : Int) + n := by omega
    (refine KL_post rfl Tryz.func95 rfl rfl rfl ?_; show Wp _ _ _ _ (Tryz.f95.body.get rfl) _ _; simp only [Tryz.f95, Option.get_some])
    (repeat' (first | simp only [go_sem, *] | (refine sx ?_ ?_ <;> intro hc) | (refine sy (by omega) fun x hx => ?_ <;> have hm := List.mem_of_getElem? hx) | simp (disch := first | assumption | omega) only [wrap_id, le_max, le_maxI, slice_int]))
    rw [hpl.out]
  | false =>
    simp only [Bool.false_eq_true, if_false] at hn2;have hlt : g.env.length - d.spots.length - 0 + n.toNat < g.env.length := by omega
    obtain ⟨v, hv⟩ := get_some hlt;have hpl : Later (g.own d false n = v.n) := ⟨by
      rw [Group.own];simp only [Bool.false_eq_true, if_false];rw [hv];rfl⟩
    have q1 : ((g.env.length : Int) - (d.spots.length : Int) + n).toNat = g.env.length - d.spots.length - 0 + n.toNat := by omega
    rw [← q1] at hv;replace q1 := Later.mk q1;have q2 : 0 ≤ (g.env.length : Int) - (d.spots.length : Int) + n := by omega
    (refine KL_post rfl Tryz.func95 rfl rfl rfl ?_; show Wp _ _ _ _ (Tryz.f95.body.get rfl) _ _; simp only [Tryz.f95, Option.get_some])
    (repeat' (first | simp only [go_sem, *] | (refine sx ?_ ?_ <;> intro hc) | (refine sy (by omega) fun x hx => ?_ <;> have hm := List.mem_of_getElem? hx) | simp (disch := first | assumption | omega) only [wrap_id, le_max, le_maxI, slice_int]))
    rw [hpl.out]
theorem place_kl5 {h : Heap} {π : List Nat} {m : Abs.Id} {x0 x1 x2 x3 x4 x5 x7 x8 x9 x10 x11 x12 : AV} {ds : List Def} {g : Group} {d : Def} (hm : h.get m = some (.box [x0, x1, x2, x3, x4, x5, .d (.lst (ds.map encDef)), x7, x8, x9, x10, x11, x12])) (um : Id.under π m = false) (h0 : 0 ≤ g.def_) (hd : ds[g.def_.toNat]? = some d) (c1 : d.chans.length ≤ 30) (c2 : d.spots.length ≤ 30) (he : d.own ≤ g.env.length) (hl : g.env.length ≤ 10000) (n : Int) (hn : 0 ≤ n) (hn2 : n ≤ d.spots.length) :
    ∃ o h', KL Tryz.prog cfg (.fn 94) [.ptr m 0, .agg [.d (.int .i64 (g.def_)), .d (.int .i64 (g.at_)), .d (.lst (g.env.map encVal))], .d (.int .i64 (n))] h π true (some π) = .ok (o, h') ∧ o = .ret (.d (.int .i64 (g.place d n))) := by
  have e1 := not_is um;have e2 := not_is' um;have e3 := under_ext um;by_cases hn0 : n = 0
  · (refine KL_post rfl Tryz.func94 rfl rfl rfl ?_; show Wp _ _ _ _ (Tryz.f94.body.get rfl) _ _; simp only [Tryz.f94, Option.get_some])
    (repeat' (first | simp only [go_sem, *, Group.place] | (refine sx ?_ ?_ <;> intro hc) | (refine sy (by omega) fun x hx => ?_ <;> have hm := List.mem_of_getElem? hx) | simp (disch := first | assumption | omega) only [wrap_id, le_max, le_maxI, slice_int]))
  · have w : IntKind.i64.wrap (n - 1) = n - 1 := wrap_id (by omega) (by omega);have hp : g.place d n = g.own d false (n - 1) := by rw [Group.place, if_neg hn0]
    rw [hp]
    (refine KL_post rfl Tryz.func94 rfl rfl rfl ?_; show Wp _ _ _ _ (Tryz.f94.body.get rfl) _ _; simp only [Tryz.f94, Option.get_some])
    (repeat' (first | simp only [go_sem, *] | (refine sx ?_ ?_ <;> intro hc) | (refine sy (by omega) fun x hx => ?_ <;> have hm := List.mem_of_getElem? hx) | simp (disch := first | assumption | omega) only [wrap_id, le_max, le_maxI, slice_int]))
    refine roP_post (own_kl5 (d := d) (Eq.trans (b := h.get m) ?_ hm) (e3 _) h0 hd c1 c2 he hl false (n - 1) (by omega) (by simp only [Bool.false_eq_true, if_false]; omega)) (fun o1 g1 p1 => ?_)
    · simp only [go_sem, e1, Bool.false_eq_true]
    subst p1
    (repeat' (first | simp only [go_sem, *] | (refine sx ?_ ?_ <;> intro hc) | (refine sy (by omega) fun x hx => ?_ <;> have hm := List.mem_of_getElem? hx) | simp (disch := first | assumption | omega) only [wrap_id, le_max, le_maxI, slice_int]))
theorem spot_kl5 {h : Heap} {π : List Nat} {m : Abs.Id} {x1 x2 x3 x4 x5 x6 x7 x8 x9 x10 x11 x12 : AV} {sp : List (List Dat)} (hm : h.get m = some (.box [.d (.lst sp), x1, x2, x3, x4, x5, x6, x7, x8, x9, x10, x11, x12])) (hl : sp.length ≤ 1000000) (n : Int) :
    ∃ o h', KL Tryz.prog cfg (.fn 146) [.ptr m 0, .d (.int .i64 (n))] h π true (some π) = .ok (o, h') ∧ o = (wantO (flawV 2) (decide (0 ≤ n) && decide (n < sp.length))).1 := by
  (refine KL_post rfl Tryz.func146 rfl rfl rfl ?_; show Wp _ _ _ _ (Tryz.f146.body.get rfl) _ _; simp only [Tryz.f146, Option.get_some])
  (repeat' (first | simp only [go_sem, *] | (refine sx ?_ ?_ <;> intro hc) | (refine sy (by omega) fun x hx => ?_ <;> have hm := List.mem_of_getElem? hx) | simp (disch := first | assumption | omega) only [wrap_id, le_max, le_maxI, slice_int]))
  all_goals simp [wantO, *]
theorem fine_kl5 {h : Heap} {π : List Nat} {m : Abs.Id} {p : Prog} {x1 x3 x5 x6 x7 x8 x9 x10 x11 x12 : AV} {sp ch : List (List Dat)} (hm : h.get m = some (.box [.d (.lst sp), x1, .d (.lst ch), x3, .d (.lst (p.free.map encStr)), x5, x6, x7, x8, x9, x10, x11, x12])) (um : Id.under π m = false) (h1 : sp.length ≤ 1000000) (h2 : ch.length ≤ 1000000) (h3 : p.free.length ≤ 1000000) (v : Val) :
    ∃ o h', KL Tryz.prog cfg (.fn 180) [.ptr m 0, .agg [.d (.int .i64 (v.kind)), .d (.int .i64 (v.n))]] h π true (some π) = .ok (o, h') ∧ o = (wantO (flawV 2) (v.inB p ch.length sp.length)).1 := by
  have e1 := not_is um;have e2 := not_is' um;have w1 : IntKind.i64.wrap ((p.free.length : Int) - 1) = (p.free.length : Int) - 1 := wrap_id (by omega) (by omega);have w2 : IntKind.i64.wrap ((ch.length : Int) - 1) = (ch.length : Int) - 1 := wrap_id (by omega) (by omega);have w3 : IntKind.i64.wrap ((sp.length : Int) - 1) = (sp.length : Int) - 1 := wrap_id (by omega) (by omega)
  (refine KL_post rfl Tryz.func180 rfl rfl rfl ?_; show Wp _ _ _ _ (Tryz.f180.body.get rfl) _ _; simp only [Tryz.f180, Option.get_some])
  (repeat' (first | simp only [go_sem, *] | (refine sx ?_ ?_ <;> intro hc) | (refine sy (by omega) fun x hx => ?_ <;> have hm := List.mem_of_getElem? hx) | simp (disch := first | assumption | omega) only [wrap_id, le_max, le_maxI, slice_int]))
  all_goals clear hm e1 e2 w1 w2 w3
  all_goals first
  | (have hz : v.inB p ch.length sp.length = true := by (unfold Val.inB; grind)
     rw [hz]; rfl)
  | (have hz : v.inB p ch.length sp.length = false := by (unfold Val.inB; grind)
     rw [hz]; rfl)
theorem env_kl5 {h : Heap} {π : List Nat} {m : Abs.Id} {p : Prog} {x1 x3 x5 x6 x7 x8 x9 x10 x11 x12 : AV} {sp ch : List (List Dat)} (hm : h.get m = some (.box [.d (.lst sp), x1, .d (.lst ch), x3, .d (.lst (p.free.map encStr)), x5, x6, x7, x8, x9, x10, x11, x12])) (um : Id.under π m = false) (h1 : sp.length ≤ 1000000) (h2 : ch.length ≤ 1000000) (h3 : p.free.length ≤ 1000000) (l : List Val) (n : Int) (hn : n ≤ 1000000) :
    ∃ o h', KL Tryz.prog cfg (.fn 147) [.ptr m 0, .d (.lst (l.map encVal)), .d (.int .i64 (n))] h π true (some π) = .ok (o, h') ∧ o = (wantO (flawV 2) (decide ((l.length : Int) = n) && l.all (Val.inB p ch.length sp.length))).1 := by
  have e1 := not_is um;have e2 := not_is' um;have e3 := under_ext um;by_cases hl : (l.length : Int) = n
  · have hl2 : l.length ≤ 1000000 := by omega
    rw [decide_eq_true hl, Bool.true_and]
    (refine KL_post rfl Tryz.func147 rfl rfl rfl ?_; show Wp _ _ _ _ (Tryz.f147.body.get rfl) _ _; simp only [Tryz.f147, Option.get_some])
    (repeat' (first | simp only [go_sem, *] | (refine sx ?_ ?_ <;> intro hc) | (refine sy (by omega) fun x hx => ?_ <;> have hm := List.mem_of_getElem? hx) | simp (disch := first | assumption | omega) only [wrap_id, le_max, le_maxI, slice_int]))
    refine rounds_len l _ (S := fun m' i (a : Heap × Nat) => ⟨[(0, .ptr m 0), (13, .d (.lst (l.map encVal))), (14, .d (.int .i64 (m'))), (15, .d (.int .i64 (i)))], a.1, a.2 + 7, []⟩)
      (Inv := fun i rest a => a.1.get m = h.get m ∧ Later (l.all (Val.inB p ch.length sp.length) = rest.all (Val.inB p ch.length sp.length))) (b0 := (h, _)) ?_ ⟨rfl, ⟨rfl⟩⟩ ?_ ?_
    · omega
    · rintro i y ⟨g, c⟩ hy hi him ⟨hg, hr⟩ IH;dsimp only at *
      (repeat' (first | simp only [go_sem, *] | (refine sx ?_ ?_ <;> intro hc) | (refine sy (by omega) fun x hx => ?_ <;> have hm := List.mem_of_getElem? hx) | simp (disch := first | assumption | omega) only [wrap_id, le_max, le_maxI, slice_int]))
      refine roP_post (fine_kl5 (p := p) (sp := sp) (ch := ch) (Eq.trans (b := h.get m) ?_ hm) (e3 _) h1 h2 h3 y) (fun o1 g1 p1 => ?_)
      · simp only [go_sem, e1, hg, Bool.false_eq_true]
      cases hv : y.inB p ch.length sp.length with
      | true =>
        rw [hv] at p1;obtain rfl : o1 = .ret (.tup []) := p1
        (repeat' (first | simp only [go_sem, *] | (refine sx ?_ ?_ <;> intro hc) | (refine sy (by omega) fun x hx => ?_ <;> have hm := List.mem_of_getElem? hx) | simp (disch := first | assumption | omega) only [wrap_id, le_max, le_maxI, slice_int]))
        refine IH.out (_, _) ⟨?_, ⟨?_⟩⟩
        · simp only [go_sem, e1, hg, Bool.false_eq_true]
        · rw [hr.out, List.all_cons, hv, Bool.true_and]
      | false =>
        rw [hv] at p1;obtain rfl : o1 = .pan (flawV 2) := p1
        (repeat' (first | simp only [go_sem, *] | (refine sx ?_ ?_ <;> intro hc) | (refine sy (by omega) fun x hx => ?_ <;> have hm := List.mem_of_getElem? hx) | simp (disch := first | assumption | omega) only [wrap_id, le_max, le_maxI, slice_int]))
        rw [hr.out, List.all_cons, hv, Bool.false_and];rfl
    · rintro i ⟨g, c⟩ hi him ⟨hg, hr⟩;dsimp only at *
      (repeat' (first | simp only [go_sem, *] | (refine sx ?_ ?_ <;> intro hc) | (refine sy (by omega) fun x hx => ?_ <;> have hm := List.mem_of_getElem? hx) | simp (disch := first | assumption | omega) only [wrap_id, le_max, le_maxI, slice_int]))
      rw [hr.out];rfl
  · rw [decide_eq_false hl, Bool.false_and]
    (refine KL_post rfl Tryz.func147 rfl rfl rfl ?_; show Wp _ _ _ _ (Tryz.f147.body.get rfl) _ _; simp only [Tryz.f147, Option.get_some])
    (repeat' (first | simp only [go_sem, *] | (refine sx ?_ ?_ <;> intro hc) | (refine sy (by omega) fun x hx => ?_ <;> have hm := List.mem_of_getElem? hx) | simp (disch := first | assumption | omega) only [wrap_id, le_max, le_maxI, slice_int]))
    rfl
end Go.Proofs
end
section
namespace Go.Abs
theorem slice_from {α : Type} {f : α → List Dat} {l : List α} {g : G} {sz : Nat} {k : IntKind} {m : Int} (hf : ∀ a, (f a).length = sz) (h0 : 0 ≤ m) (hm : m ≤ l.length) : sliceV g .slice sz (.d (.lst (l.map f))) (some (.d (.int k m))) none none = some (.d (.lst ((l.drop m.toNat).map f))) := by
  have hb : bounds (some (.d (.int k m))) none none (l.map f).length = some (m.toNat, (l.map f).length, none) := by
    simp [bounds, bound?, intOf?, h0, hm]
  have he : eachLen sz (l.map f) = true := by
    cases l with
    | nil => rfl
    | cons a l => simp only [List.map_cons, eachLen, beq_dec, decide_eq_true_eq]; exact hf a
  show sliceL sz (l.map f) (bounds (some (.d (.int k m))) none none (l.map f).length) = _;rw [hb];have hr : Nat.ble m.toNat (l.map f).length = true := by rw [ble_dec]; simp; omega
  have h2 : Nat.ble (l.map f).length (l.map f).length = true := by rw [ble_dec]; simp
  simp only [sliceL, hr, h2, he, Bool.and_self, if_true, List.map_drop];rw [List.take_of_length_le (by simp)]
end Go.Abs
namespace Go.Proofs
open Go Go.Abs
set_option maxRecDepth 100000
set_option maxHeartbeats 4000000
set_option linter.unusedSimpArgs false
set_option linter.unusedVariables false
theorem slice_spot {l : List Spot} {g : G} {k : IntKind} {m : Int} (h0 : 0 ≤ m) (hm : m ≤ l.length) : sliceV g .slice 2 (.d (.lst (l.map encSpot))) (some (.d (.int k m))) none none = some (.d (.lst ((l.drop m.toNat).map encSpot))) := slice_from (fun _ => rfl) h0 hm
theorem slice_val {l : List Val} {g : G} {k : IntKind} {m : Int} (h0 : 0 ≤ m) (hm : m ≤ l.length) : sliceV g .slice 2 (.d (.lst (l.map encVal))) (some (.d (.int k m))) none none = some (.d (.lst ((l.drop m.toNat).map encVal))) := slice_from (fun _ => rfl) h0 hm
theorem formedM_kl {h : Heap} {π : List Nat} {m gid : Abs.Id} {p : Prog} {s : Sol} {st : LSt} {x9 x10 x11 x12 : AV} (hlk : looks p = some st)
    (hm : h.get m = some (.box [.d (.lst (s.spots.map encSpot)), .d (.lst (s.groups.map encGroup)), .d (.lst (s.chans.map encChn)), .d (.lst (s.waits.map encWait)), .d (.lst (p.free.map encStr)), .d (.lst (p.nodes.map encNode)), .d (.lst (p.defs.map encDef)), .d (.int .i64 (p.main)), .d (.lst (st.sizes.map encInt)), x9, x10, x11, x12])) (um : Id.under π m = false) (h9 : x9 = slv gid p.defs.length) (hg : p.defs.length ≠ 0 → h.get gid = some (.darr 1 ((groupsT p st.sizes).map encInt))) (ug : Id.under π gid = false) :
    ∃ o h', KL Tryz.prog cfg (.fn 91) [.ptr m 0] h π true (some π) = .ok (o, h') ∧ o = (wantO (flawV 2) (solOk p st.sizes s)).1 := by
  have e1 := not_is um;have e2 := not_is' um;have e3 := under_ext um;have e4 := not_is ug;have e5 := not_is' ug;have e6 := under_ext ug;have hF := Later.mk (looks_formed hlk);have hsm := hF.out.small;simp only [Prog.small, Bool.and_eq_true, decide_eq_true_eq] at hsm;obtain ⟨c1, c2, c3⟩ := hsm;have hgl : (groupsT p st.sizes).length = p.defs.length := by rw [groupsT, groupsGo_len]; simp
  by_cases hss : s.small = true
  · have hok : Later (solOk p st.sizes s = (treeB s.spots && (deadOk s.spots (s.spots.drop 1) && (grpsOk p (groupsT p st.sizes) s 0 0 1 s.groups && s.waits.all (waitOk p st.sizes s))))) := ⟨by rw [solOk, hss, Bool.true_and]⟩;simp only [Sol.small, Bool.and_eq_true, decide_eq_true_eq] at hss;obtain ⟨s1, s2, s3, s4⟩ := hss;have y1 : (s.spots.length : Int) ≤ 24 := by omega
    have y2 : (s.groups.length : Int) ≤ 40 := by omega
    have y3 : (s.chans.length : Int) ≤ 60 := by omega
    have y4 : (s.waits.length : Int) ≤ 40 := by omega
    have htr := tree_kl s.spots (by omega);cases htb : treeB s.spots with
    | false =>
      rw [htb] at hok htr;rw [hok.out]
      (refine KL_post rfl Tryz.func91 rfl rfl rfl ?_; show Wp _ _ _ _ (Tryz.f91.body.get rfl) _ _; simp only [Tryz.f91, Option.get_some])
      (repeat' (first | simp only [go_sem, *] | (refine sx ?_ ?_ <;> intro hc) | (refine sy (by omega) fun x hx => ?_ <;> have hm := List.mem_of_getElem? hx) | simp (disch := first | assumption | omega) only [wrap_id, le_max, le_maxI, slice_int]))
      rfl
    | true =>
      rw [htb, Bool.true_and] at hok;rw [htb] at htr;have hT := treeB_ok htb;have htop := hT.top;have hn0 : (1 : Int) ≤ s.spots.length := by have := hT.pos; omega
      replace hT := Later.mk hT
      (refine KL_post rfl Tryz.func91 rfl rfl rfl ?_; show Wp _ _ _ _ (Tryz.f91.body.get rfl) _ _; simp only [Tryz.f91, Option.get_some])
      (repeat' (first | simp only [go_sem, *] | (refine sx ?_ ?_ <;> intro hc) | (refine sy (by omega) fun x hx => ?_ <;> have hm := List.mem_of_getElem? hx) | simp (disch := first | assumption | omega) only [wrap_id, le_max, le_maxI, slice_int, slice_spot]))
      refine rounds_len (s.spots.drop 1) _ (S := fun m' i (a : Heap × Nat) => ⟨[(0, .ptr m 0), (65, .d (.lst ((s.spots.drop 1).map encSpot))), (66, .d (.int .i64 (m'))), (67, .d (.int .i64 (i)))], a.1, a.2 + 49, []⟩)
        (Inv := fun i rest a => a.1.get m = h.get m ∧ a.1.get gid = h.get gid ∧ Later (deadOk s.spots (s.spots.drop 1) = deadOk s.spots rest)) (b0 := (h, _)) rfl ⟨rfl, rfl, ⟨rfl⟩⟩ ?_ ?_
      · rintro i y ⟨g, c⟩ hy hi him ⟨hgm, hgg, hr⟩ IH;dsimp only at *;have hy0 := hy;rw [List.getElem?_drop] at hy;have hi0 := hi;rw [List.length_drop] at hi;have hbad : Later (deadOk s.spots (s.spots.drop 1) = false → COut.pan (flawV 2) = (wantO (flawV 2) (solOk p st.sizes s)).1) := ⟨fun h => by rw [hok.out, h]; rfl⟩;have hpar : inR s.spots y.in_ := by
          have h1 := hT.out.climbs (((1 + i : Nat) : Int)) ⟨by omega, by omega⟩;obtain ⟨k, hk⟩ : ∃ k, s.spots.length = k + 1 := ⟨s.spots.length - 1, by omega⟩;rw [hk] at h1;have h2 := (climb_step (by omega) h1).1
          rwa [par_get (s := y) (by rw [← hy]; congr 1)] at h2
        obtain ⟨p1, p2⟩ := hpar;obtain ⟨z, hz⟩ := get_some (l := s.spots) (i := y.in_.toNat) (by omega);have hda : Later (deadAt s.spots y.in_ = z.dead) := ⟨by simp [deadAt, hz]⟩;rw [deadOk] at hr;replace hy := Later.mk hy;cases hyd : y.dead <;> cases hzd : z.dead;all_goals ((repeat' (first | simp only [go_sem, *] | (refine sx ?_ ?_ <;> intro hc) | (refine sy (by omega) fun x hx => ?_ <;> have hm := List.mem_of_getElem? hx) | simp (disch := first | assumption | omega) only [wrap_id, le_max, le_maxI, slice_int])))
        all_goals first
        | (refine IH.out (_, _) ⟨?_, ?_, ⟨?_⟩⟩
           · simp only [go_sem, e1, hgm, Bool.false_eq_true]
           · simp only [go_sem, e4, hgg, Bool.false_eq_true]
           · rw [hr.out, hyd, hda.out, hzd]; simp)
        | (refine IH.out (_, _) ⟨?_, ?_, ⟨?_⟩⟩
           · simp only [go_sem, e1, hgm, Bool.false_eq_true]
           · simp only [go_sem, e4, hgg, Bool.false_eq_true]
           · rw [hr.out, hyd]; simp)
        | exact hbad.out (by rw [hr.out, hyd, hda.out, hzd]; rfl)
      · rintro i ⟨g, c⟩ hi him ⟨hgm, hgg, hr⟩;dsimp only at *;rw [deadOk] at hr
        (repeat' (first | simp only [go_sem, *] | (refine sx ?_ ?_ <;> intro hc) | (refine sy (by omega) fun x hx => ?_ <;> have hm := List.mem_of_getElem? hx) | simp (disch := first | assumption | omega) only [wrap_id, le_max, le_maxI, slice_int]))
        clear hi him;have hok2 : Later (solOk p st.sizes s = (grpsOk p (groupsT p st.sizes) s 0 0 1 s.groups && s.waits.all (waitOk p st.sizes s))) := ⟨by rw [hok.out, hr.out, Bool.true_and]⟩;clear hok hr i;refine rounds_len s.groups _ (S := fun m' i (a : Heap × Nat × Nat × Nat) => ⟨[(0, .ptr m 0), (4, .d (.int .i64 (a.2.2.1))), (5, .d (.int .i64 (a.2.2.2))), (92, .d (.lst (s.groups.map encGroup))), (93, .d (.int .i64 (m'))), (94, .d (.int .i64 (i)))], a.1, a.2.1 + 59, []⟩)
          (Inv := fun i rest a => a.1.get m = h.get m ∧ a.1.get gid = h.get gid ∧ a.2.2.1 ≤ 30 * i ∧ a.2.2.2 ≤ 30 * i + 1 ∧ Later (solOk p st.sizes s = (grpsOk p (groupsT p st.sizes) s i a.2.2.1 a.2.2.2 rest && s.waits.all (waitOk p st.sizes s)))) (b0 := (g, _, 0, 1)) rfl ⟨hgm, hgg, by simp, by simp, hok2⟩ ?_ ?_
        · clear hgm hgg hok2 g c;rintro i gr ⟨g, n, c, k⟩ hy hi him ⟨hgm, hgg, b1, b2, hr⟩ IH;dsimp only at *;by_cases x0 : gr.def_ < 0
          · have x0 : ¬ 0 ≤ gr.def_ := by omega
            have hf : Later (solOk p st.sizes s = false) := ⟨by rw [hr.out, grpsOk, Prog.def?, if_neg (by omega), Bool.false_and]⟩
            (repeat' (first | simp only [go_sem, *] | (refine sx ?_ ?_ <;> intro hc) | (refine sy (by omega) fun x hx => ?_ <;> have hm := List.mem_of_getElem? hx) | simp (disch := first | assumption | omega) only [wrap_id, le_max, le_maxI, slice_int]))
            all_goals (rw [hf.out]; rfl)
          by_cases x1 : (p.defs.length : Int) ≤ gr.def_
          · have x1 : ¬ gr.def_ < p.defs.length := by omega
            have x0 : 0 ≤ gr.def_ := by omega
            have hf : Later (solOk p st.sizes s = false) := ⟨by rw [hr.out, grpsOk, Prog.def?, if_pos (by omega), List.getElem?_eq_none (by omega), Bool.false_and]⟩
            (repeat' (first | simp only [go_sem, *] | (refine sx ?_ ?_ <;> intro hc) | (refine sy (by omega) fun x hx => ?_ <;> have hm := List.mem_of_getElem? hx) | simp (disch := first | assumption | omega) only [wrap_id, le_max, le_maxI, slice_int]))
            all_goals (rw [hf.out]; rfl)
          have x2 : 0 ≤ gr.def_ := by omega
          have x3 : gr.def_ < p.defs.length := by omega
          have hdl : gr.def_.toNat < p.defs.length := by omega
          have hD : p.defs.length ≠ 0 := by omega
          obtain ⟨d, hd⟩ := get_some hdl;have hdf := def_fact hF.out hd;obtain ⟨v, hv⟩ := get_some (l := groupsT p st.sizes) (i := gr.def_.toNat) (by omega);have hv2 : d.own ≤ v ∧ v ≤ 5060 := by
            obtain ⟨_, _, s0, _, _, _, _, q0, q1, q2, _⟩ := hdf.node;rw [hv] at q2;cases q2;have := own_le hdf.ok;omega
          have hstep : Later (solOk p st.sizes s = ((grpOk p (groupsT p st.sizes) s i c k gr d && grpsOk p (groupsT p st.sizes) s (i + 1) (c + d.chans.length) (k + d.spots.length) (s.groups.drop (i + 1))) && s.waits.all (waitOk p st.sizes s))) := ⟨by
            rw [hr.out, grpsOk, Prog.def?, if_pos x2, hd]⟩
          have hgo : Later (grpOk p (groupsT p st.sizes) s i c k gr d = (decide (inR s.spots gr.at_) && (decide ((gr.env.length : Int) = v) && (gr.env.all (Val.inB p s.chans.length s.spots.length) && (mineOk d c k gr && chnsOk p s d gr i c 0 d.chans))))) := ⟨by
            rw [grpOk, hv]; rfl⟩
          have hbad : Later (grpOk p (groupsT p st.sizes) s i c k gr d = false → COut.pan (flawV 2) = (wantO (flawV 2) (solOk p st.sizes s)).1) := ⟨fun h => by rw [hstep.out, h]; rfl⟩;have hdo := hdf.ok;have d1 := hdo.chans;have d2 := hdo.spots;have d3 : d.own = d.chans.length + d.spots.length := rfl;replace hdo := Later.mk hdo;replace hdf := Later.mk hdf;have hg2 := hg hD;rw [slv_pos hD] at h9
          (repeat' (first | simp only [go_sem, *] | (refine sx ?_ ?_ <;> intro hc) | (refine sy (by omega) fun x hx => ?_ <;> have hm := List.mem_of_getElem? hx) | simp (disch := first | assumption | omega) only [wrap_id, le_max, le_maxI, slice_int]))
          refine roP_post (spot_kl5 (sp := s.spots.map encSpot) (Eq.trans (b := h.get m) ?_ hm) (by simp; omega) gr.at_) (fun o1 g1 p1 => ?_)
          · simp only [go_sem, e1, hgm, Bool.false_eq_true]
          by_cases hin : inR s.spots gr.at_
          · have hin2 := hin;replace p1 : o1 = .ret (.tup []) := by
              rw [p1, decide_eq_true hin.1, List.length_map, decide_eq_true hin.2]; rfl
            subst p1;replace hin := Later.mk hin;have hge : h.get gid = some (.darr 1 ((groupsT p st.sizes).map encInt)) := hg2
            (repeat' (first | simp only [go_sem, *] | (refine sx ?_ ?_ <;> intro hc) | (refine sy (by omega) fun x hx => ?_ <;> have hm := List.mem_of_getElem? hx) | simp (disch := first | assumption | omega) only [wrap_id, le_max, le_maxI, slice_int]))
            refine roP_post (env_kl5 (p := p) (sp := s.spots.map encSpot) (ch := s.chans.map encChn) (Eq.trans (b := h.get m) ?_ hm) (e3 _) (by simp; omega) (by simp; omega) (by omega) gr.env v (by omega)) (fun o2 g2 p2 => ?_)
            · simp only [go_sem, e1, hgm, Bool.false_eq_true]
            rw [List.length_map, List.length_map] at p2;by_cases hev : (decide ((gr.env.length : Int) = v) && gr.env.all (Val.inB p s.chans.length s.spots.length)) = true
            · rw [hev] at p2;replace p2 : o2 = .ret (.tup []) := p2;subst p2;rw [Bool.and_eq_true, decide_eq_true_eq] at hev;obtain ⟨hlen, hall⟩ := hev;have hlt : gr.env.length ≤ 5060 := by omega
              have hown : d.own ≤ gr.env.length := by omega
              have hgo2 : Later (grpOk p (groupsT p st.sizes) s i c k gr d = (mineOk d c k gr && chnsOk p s d gr i c 0 d.chans)) := ⟨by
                rw [hgo.out, decide_eq_true hin.out, decide_eq_true hlen, hall, Bool.true_and, Bool.true_and, Bool.true_and]⟩
              clear hgo;replace hlen := Later.mk hlen;replace hall := Later.mk hall;obtain ⟨E, hE⟩ : ∃ E, E = gr.env.drop (gr.env.length - d.chans.length - d.spots.length) := ⟨_, rfl⟩;have hEl : E.length = d.chans.length + d.spots.length := by rw [hE, List.length_drop]; omega
              have w1 : IntKind.i64.wrap ((gr.env.length : Int) - (d.chans.length : Int)) = (gr.env.length : Int) - (d.chans.length : Int) := wrap_id (by omega) (by omega);have w2 : IntKind.i64.wrap ((gr.env.length : Int) - (d.chans.length : Int) - (d.spots.length : Int)) = ((gr.env.length - d.chans.length - d.spots.length : Nat) : Int) := by rw [wrap_id (by omega) (by omega)]; omega
              have w3 : ∀ g0 : G, sliceV g0 .slice 2 (.d (.lst (gr.env.map encVal))) (some (.d (.int .i64 ((gr.env.length - d.chans.length - d.spots.length : Nat) : Int)))) none none = some (.d (.lst ((gr.env.drop (gr.env.length - d.chans.length - d.spots.length)).map encVal))) := fun g0 => slice_val (by omega) (by omega);rw [← hE] at w3;have hm0 : Later (mineOk d c k gr = decide (E.drop 0 = (mineOf c k d).drop 0)) := ⟨by rw [hE]; rfl⟩;replace hE := Later.mk hE;have q43 : ¬ n = n + 43 := by omega
              have r43 : ¬ n + 43 = n := by omega
              (repeat' (first | simp only [go_sem, *, Bool.false_eq_true] | (refine sx ?_ ?_ <;> intro hc) | (refine sy (by omega) fun x hx => ?_ <;> have hm := List.mem_of_getElem? hx) | simp (disch := first | assumption | omega) only [wrap_id, le_max, le_maxI, slice_int]))
              clear w1 w2 w3 q43 r43;refine rounds_len d.chans _ (S := fun m' i2 (a : Heap × Nat) => ⟨[(0, .ptr m 0), (4, .d (.int .i64 (c))), (5, .d (.int .i64 (k))), (6, .d (.int .i64 (i))), (7, .ptr (0 :: (n + 63) :: π) 0), (8, .ptr (0 :: (n + 106) :: π) 0), (9, .d (.lst (E.map encVal))), (92, .d (.lst (s.groups.map encGroup))), (93, .d (.int .i64 (s.groups.length))), (94, .d (.int .i64 (i))), (155, .d (.int .i64 (m'))), (156, .d (.int .i64 (i2)))], a.1, a.2 + 127, []⟩)
                (Inv := fun i2 rest a => a.1.get m = h.get m ∧ a.1.get gid = h.get gid ∧ a.1.get (0 :: (n + 63) :: π) = some (.box [.d (.int .i64 (gr.def_)), .d (.int .i64 (gr.at_)), .d (.lst (gr.env.map encVal))]) ∧ a.1.get (0 :: (n + 106) :: π) = some (.box [.d (.lst (d.chans.map encChan)), .d (.lst (d.spots.map encDSpot)), .d (.lst (d.rules.map encRule))]) ∧ n ≤ a.2 ∧ Later (mineOk d c k gr = decide (E.drop i2 = (mineOf c k d).drop i2))) (b0 := (_, _)) rfl ⟨?_, ?_, ?_, ?_, ?_, hm0⟩ ?_ ?_
              · simp only [go_sem, e1, hgm, Bool.false_eq_true]
              · simp only [go_sem, e4, hgg, Bool.false_eq_true]
              · have q43 : ¬ n = n + 43 := by omega
                have r43 : ¬ n + 43 = n := by omega
                simp only [go_sem, q43, r43, Bool.false_eq_true]
              · simp only [go_sem, Bool.false_eq_true]
              · exact Nat.le_refl _
              · clear hm0 hgm hgg g;rintro i2 y ⟨g, n2⟩ hy2 hi2 him2 ⟨hgm, hgg, g63, g106, hn2, hr2⟩ IH2;dsimp only at *;obtain ⟨u, hu⟩ := get_some (l := E) (i := i2) (by omega);have hE2 : (i2 : Int) < E.length := by omega
                have hr3 : Later (mineOk d c k gr = (decide (u = ⟨3, (c : Int) + (i2 : Int)⟩) && decide (E.drop (i2 + 1) = (mineOf c k d).drop (i2 + 1)))) := ⟨by
                  rw [hr2.out, drop_cons' hu, drop_cons' (mineOf_chan c k d hi2), Bool.eq_iff_iff];simp⟩
                have w4 : IntKind.i64.wrap ((c : Int) + (i2 : Int)) = (c : Int) + (i2 : Int) := wrap_id (by omega) (by omega);by_cases hu2 : u = ⟨3, (c : Int) + (i2 : Int)⟩
                · subst hu2
                  (repeat' (first | simp only [go_sem, *, Bool.false_eq_true] | (refine sx ?_ ?_ <;> intro hc) | (refine sy (by omega) fun x hx => ?_ <;> have hm := List.mem_of_getElem? hx) | simp (disch := first | assumption | omega) only [wrap_id, le_max, le_maxI, slice_int]))
                  refine IH2.out (_, _) ⟨hgm, hgg, g63, g106, ?_, ⟨?_⟩⟩
                  · dsimp only; omega
                  · rw [hr3.out, decide_eq_true rfl, Bool.true_and]
                · have hne : (decide (u.kind = 3) && decide (u.n = (c : Int) + (i2 : Int))) = false := by
                    rw [← Bool.not_eq_true, Bool.and_eq_true, decide_eq_true_eq, decide_eq_true_eq];rintro ⟨h1, h2⟩;exact hu2 (by cases u; simp_all)
                  (repeat' (first | simp only [go_sem, *, Bool.false_eq_true] | (refine sx ?_ ?_ <;> intro hc) | (refine sy (by omega) fun x hx => ?_ <;> have hm := List.mem_of_getElem? hx) | simp (disch := first | assumption | omega) only [wrap_id, le_max, le_maxI, slice_int]))
                  exact hbad.out (by rw [hgo2.out, hr3.out, decide_eq_false hu2]; rfl)
              · clear hm0 hgm hgg g;rintro i2 ⟨g, n2⟩ hi2 him2 ⟨hgm, hgg, g63, g106, hn2, hr2⟩;dsimp only at *;rw [hi2.out] at hr2
                (repeat' (first | simp only [go_sem, *, Bool.false_eq_true] | (refine sx ?_ ?_ <;> intro hc) | (refine sy (by omega) fun x hx => ?_ <;> have hm := List.mem_of_getElem? hx) | simp (disch := first | assumption | omega) only [wrap_id, le_max, le_maxI, slice_int]))
                clear hi2 him2 i2;refine rounds_len d.spots _ (S := fun m' j (a : Heap × Nat) => ⟨[(0, .ptr m 0), (4, .d (.int .i64 (c))), (5, .d (.int .i64 (k))), (6, .d (.int .i64 (i))), (7, .ptr (0 :: (n + 63) :: π) 0), (8, .ptr (0 :: (n + 106) :: π) 0), (9, .d (.lst (E.map encVal))), (92, .d (.lst (s.groups.map encGroup))), (93, .d (.int .i64 (s.groups.length))), (94, .d (.int .i64 (i))), (172, .d (.int .i64 (m'))), (173, .d (.int .i64 (j)))], a.1, a.2 + 132, []⟩)
                  (Inv := fun j rest a => a.1.get m = h.get m ∧ a.1.get gid = h.get gid ∧ a.1.get (0 :: (n + 63) :: π) = some (.box [.d (.int .i64 (gr.def_)), .d (.int .i64 (gr.at_)), .d (.lst (gr.env.map encVal))]) ∧ a.1.get (0 :: (n + 106) :: π) = some (.box [.d (.lst (d.chans.map encChan)), .d (.lst (d.spots.map encDSpot)), .d (.lst (d.rules.map encRule))]) ∧ n ≤ a.2 ∧ Later (mineOk d c k gr = decide (E.drop (d.chans.length + j) = (mineOf c k d).drop (d.chans.length + j)))) (b0 := (g, n2)) rfl ⟨hgm, hgg, g63, g106, hn2, hr2⟩ ?_ ?_
                · clear hr2 hgm hgg g63 g106 g hn2 n2;rintro j y ⟨g, n2⟩ hyj hij himj ⟨hgm, hgg, g63, g106, hn2, hr2⟩ IH2;dsimp only at *;obtain ⟨u, hu⟩ := get_some (l := E) (i := d.chans.length + j) (by omega);have hr3 : Later (mineOk d c k gr = (decide (u = ⟨4, (k : Int) + (j : Int)⟩) && decide (E.drop (d.chans.length + (j + 1)) = (mineOf c k d).drop (d.chans.length + (j + 1))))) := ⟨by
                    rw [hr2.out, drop_cons' hu, drop_cons' (mineOf_spot c k d hij), Bool.eq_iff_iff];simp [Nat.add_assoc]⟩
                  have w4 : IntKind.i64.wrap ((k : Int) + (j : Int)) = (k : Int) + (j : Int) := wrap_id (by omega) (by omega);have w5 : IntKind.i64.wrap ((d.chans.length : Int) + (j : Int)) = (d.chans.length : Int) + (j : Int) := wrap_id (by omega) (by omega);have ix : ((d.chans.length : Int) + (j : Int)).toNat = d.chans.length + j := by omega
                  rw [← ix] at hu;replace ix := Later.mk ix;have ix2 : 0 ≤ (d.chans.length : Int) + (j : Int) := by omega
                  have ix3 : (d.chans.length : Int) + (j : Int) < E.length := by omega
                  by_cases hu2 : u = ⟨4, (k : Int) + (j : Int)⟩
                  · subst hu2
                    (repeat' (first | simp only [go_sem, *, Bool.false_eq_true] | (refine sx ?_ ?_ <;> intro hc) | (refine sy (by omega) fun x hx => ?_ <;> have hm := List.mem_of_getElem? hx) | simp (disch := first | assumption | omega) only [wrap_id, le_max, le_maxI, slice_int]))
                    refine IH2.out (_, _) ⟨hgm, hgg, g63, g106, ?_, ⟨?_⟩⟩
                    · dsimp only; omega
                    · rw [hr3.out, decide_eq_true rfl, Bool.true_and]
                  · have hne : (decide (u.kind = 4) && decide (u.n = (k : Int) + (j : Int))) = false := by
                      rw [← Bool.not_eq_true, Bool.and_eq_true, decide_eq_true_eq, decide_eq_true_eq];rintro ⟨h1, h2⟩;exact hu2 (by cases u; simp_all)
                    (repeat' (first | simp only [go_sem, *, Bool.false_eq_true] | (refine sx ?_ ?_ <;> intro hc) | (refine sy (by omega) fun x hx => ?_ <;> have hm := List.mem_of_getElem? hx) | simp (disch := first | assumption | omega) only [wrap_id, le_max, le_maxI, slice_int]))
                    exact hbad.out (by rw [hgo2.out, hr3.out, decide_eq_false hu2]; rfl)
                · clear hr2 hgm hgg g63 g106 g hn2 n2;rintro j ⟨g, n2⟩ hij himj ⟨hgm, hgg, g63, g106, hn2, hr2⟩;dsimp only at *;have hmine : mineOk d c k gr = true := by
                    have hjj := hij.out;rw [hr2.out, List.drop_eq_nil_of_le (by omega), List.drop_eq_nil_of_le (by rw [mineOf_len]; omega)];rfl
                  have hgo3 : Later (grpOk p (groupsT p st.sizes) s i c k gr d = chnsOk p s d gr i c 0 d.chans) := ⟨by rw [hgo2.out, hmine, Bool.true_and]⟩;replace hmine := Later.mk hmine;clear hr2 hgo2
                  (repeat' (first | simp only [go_sem, *, Bool.false_eq_true] | (refine sx ?_ ?_ <;> intro hc) | (refine sy (by omega) fun x hx => ?_ <;> have hm := List.mem_of_getElem? hx) | simp (disch := first | assumption | omega) only [wrap_id, le_max, le_maxI, slice_int]))
                  clear hij himj j;refine rounds_len d.chans _ (S := fun m' j (a : Heap × Nat) => ⟨[(0, .ptr m 0), (4, .d (.int .i64 (c))), (5, .d (.int .i64 (k))), (6, .d (.int .i64 (i))), (7, .ptr (0 :: (n + 63) :: π) 0), (8, .ptr (0 :: (n + 106) :: π) 0), (92, .d (.lst (s.groups.map encGroup))), (93, .d (.int .i64 (s.groups.length))), (94, .d (.int .i64 (i))), (192, .d (.lst (d.chans.map encChan))), (193, .d (.int .i64 (m'))), (194, .d (.int .i64 (j)))], a.1, a.2 + 137, []⟩)
                    (Inv := fun j rest a => a.1.get m = h.get m ∧ a.1.get gid = h.get gid ∧ a.1.get (0 :: (n + 63) :: π) = some (.box [.d (.int .i64 (gr.def_)), .d (.int .i64 (gr.at_)), .d (.lst (gr.env.map encVal))]) ∧ a.1.get (0 :: (n + 106) :: π) = some (.box [.d (.lst (d.chans.map encChan)), .d (.lst (d.spots.map encDSpot)), .d (.lst (d.rules.map encRule))]) ∧ n ≤ a.2 ∧ Later (chnsOk p s d gr i c 0 d.chans = chnsOk p s d gr i c j rest)) (b0 := (g, n2)) rfl ⟨hgm, hgg, g63, g106, hn2, ⟨rfl⟩⟩ ?_ ?_
                  · clear hgm hgg g63 g106 g hn2 n2;rintro j ch ⟨g, n2⟩ hyj hij himj ⟨hgm, hgg, g63, g106, hn2, hrj⟩ IHj;dsimp only at *;have hcj : c + j < s.chans.length := by
                      have := List.all_eq_true.1 hall.out _ (List.mem_of_getElem? (mine_chan hmine.out hij));simp [Val.inB] at this;omega
                    obtain ⟨q, hq⟩ := get_some hcj;have hca := hdo.out.chan ch (List.mem_of_getElem? hyj);have hpi := place_in hmine.out hown hin.out hall.out (n := ch.at_) hca.1 hca.2.1;obtain ⟨hp1, hp2⟩ := hpi;obtain ⟨sp, hsp⟩ := get_some (l := s.spots) (i := (gr.place d ch.at_).toNat) (by omega);have hda : Later (deadAt s.spots (gr.place d ch.at_) = sp.dead) := ⟨by simp [deadAt, hsp]⟩;have hck : Later (chnAt p s d gr i j (c + j) ch = (decide (q.group = i) && (decide (q.index = j) && (decide (q.at_ = gr.place d ch.at_) && (decide (q.queue.length ≤ 12) && ((decide (q.queue.length = 0) || !deadAt s.spots q.at_) && q.queue.all (msgOk p s.chans.length s.spots.length ch.many))))))) := ⟨by rw [chnAt, hq]; rfl⟩;have hbc : Later (chnAt p s d gr i j (c + j) ch = false → COut.pan (flawV 2) = (wantO (flawV 2) (solOk p st.sizes s)).1) := ⟨fun h => hbad.out (by rw [hgo3.out, hrj.out, chnsOk, h, Bool.false_and])⟩;have w4 : IntKind.i64.wrap ((c : Int) + (j : Int)) = (c : Int) + (j : Int) := wrap_id (by omega) (by omega);have ix : ((c : Int) + (j : Int)).toNat = c + j := by omega
                    rw [← ix] at hq;replace ix := Later.mk ix;have ix2 : 0 ≤ (c : Int) + (j : Int) := by omega
                    have ix3 : (c : Int) + (j : Int) < s.chans.length := by omega
                    have q1 : ¬ n2 + 78 = n := by omega
                    have q2 : ¬ n = n2 + 78 := by omega
                    have q3 : ¬ n2 + 91 = n := by omega
                    have q4 : ¬ n = n2 + 91 := by omega
                    have q5 : ¬ n2 + 35 = n := by omega
                    have q6 : ¬ n = n2 + 35 := by omega
                    have q7 : ¬ n2 + 48 = n := by omega
                    have q8 : ¬ n = n2 + 48 := by omega
                    have q9 : ¬ n2 + 13 = n2 := by omega
                    have q0 : ¬ n2 = n2 + 13 := by omega
                    by_cases g1 : q.group = i
                    · by_cases g2 : q.index = j
                      · (repeat' (first | simp only [go_sem, *, Bool.false_eq_true] | (refine sx ?_ ?_ <;> intro hc) | (refine sy (by omega) fun x hx => ?_ <;> have hm := List.mem_of_getElem? hx) | simp (disch := first | assumption | omega) only [wrap_id, le_max, le_maxI, slice_int]))
                        refine roF_post (place_kl5 (d := d) (ds := p.defs) (Eq.trans (b := h.get m) ?_ hm) (e3 _) x2 hd d1 d2 hown (by omega) ch.at_ hca.1 hca.2.1) (fun o3 g3 p3 => ?_)
                        · simp only [go_sem, e1, hgm, Bool.false_eq_true]
                        subst p3;by_cases g4 : q.at_ = gr.place d ch.at_
                        · rw [g4]
                          (repeat' (first | simp only [go_sem, *, Bool.false_eq_true] | (refine sx ?_ ?_ <;> intro hc) | (refine sy (by omega) fun x hx => ?_ <;> have hm := List.mem_of_getElem? hx) | simp (disch := first | assumption | omega) only [wrap_id, le_max, le_maxI, slice_int]))
                          all_goals try
                            refine hbc.out ?_;rw [hck.out, g4, hda.out];clear IH IHj hr hstep hbad hbc hck hgo3 hrj hy hd hv hT hF hm hg htr hlk hgm hgg g63 g106;grind
                          all_goals
                            have hfin : Later (chnAt p s d gr i j (c + j) ch = q.queue.all (msgOk p s.chans.length s.spots.length ch.many)) := ⟨by
                              rw [hck.out, g4, hda.out];clear IH IHj hr hstep hbad hbc hck hgo3 hrj hy hd hv hT hF hm hg htr hlk hgm hgg g63 g106;grind⟩
                            refine rounds_len q.queue _ (S := fun m' l (a : Heap × Nat) => ⟨[(0, .ptr m 0), (4, .d (.int .i64 (c))), (5, .d (.int .i64 (k))), (6, .d (.int .i64 (i))), (7, .ptr (0 :: (n + 63) :: π) 0), (8, .ptr (0 :: (n + 106) :: π) 0), (13, .ptr (0 :: (n2 + 141) :: π) 0), (92, .d (.lst (s.groups.map encGroup))), (93, .d (.int .i64 (s.groups.length))), (94, .d (.int .i64 (i))), (192, .d (.lst (d.chans.map encChan))), (193, .d (.int .i64 (d.chans.length))), (194, .d (.int .i64 (j))), (255, .d (.lst (q.queue.map encMsg))), (256, .d (.int .i64 (m'))), (257, .d (.int .i64 (l)))], a.1, a.2 + 205, []⟩)
                              (Inv := fun l rest a => a.1.get m = h.get m ∧ a.1.get gid = h.get gid ∧ a.1.get (0 :: (n + 63) :: π) = some (.box [.d (.int .i64 (gr.def_)), .d (.int .i64 (gr.at_)), .d (.lst (gr.env.map encVal))]) ∧ a.1.get (0 :: (n + 106) :: π) = some (.box [.d (.lst (d.chans.map encChan)), .d (.lst (d.spots.map encDSpot)), .d (.lst (d.rules.map encRule))]) ∧ a.1.get (0 :: (n2 + 141) :: π) = some (.box [.d (.int .i64 (ch.at_)), .d (.int .i64 (ch.many))]) ∧ n2 ≤ a.2 ∧ Later (q.queue.all (msgOk p s.chans.length s.spots.length ch.many) = rest.all (msgOk p s.chans.length s.spots.length ch.many))) (b0 := (_, n2)) ?_ ⟨?_, ?_, ?_, ?_, ?_, ?_, ⟨rfl⟩⟩ ?_ ?_
                            · omega
                            · simp only [go_sem, e1, hgm, Bool.false_eq_true]
                            · simp only [go_sem, e4, hgg, Bool.false_eq_true]
                            · simp only [go_sem, g63, q1, q2, q3, q4, Bool.false_eq_true]
                            · simp only [go_sem, g106, q5, q6, q7, q8, Bool.false_eq_true]
                            · simp only [go_sem, q9, q0, Bool.false_eq_true]
                            · exact Nat.le_refl _
                            · clear hgm hgg g63 g106 g q1 q2 q3 q4 q5 q6 q7 q8 q9 q0;rintro l y ⟨g, n3⟩ hyl hil himl ⟨hgm, hgg, g63, g106, g141, hn3, hrl⟩ IHl;dsimp only at *;have q1 : ¬ n3 + 67 = n2 := by omega
                              have q2 : ¬ n2 = n3 + 67 := by omega
                              (repeat' (first | simp only [go_sem, *, Bool.false_eq_true] | (refine sx ?_ ?_ <;> intro hc) | (refine sy (by omega) fun x hx => ?_ <;> have hm := List.mem_of_getElem? hx) | simp (disch := first | assumption | omega) only [wrap_id, le_max, le_maxI, slice_int]))
                              refine roP_post (env_kl5 (p := p) (sp := s.spots.map encSpot) (ch := s.chans.map encChn) (Eq.trans (b := h.get m) ?_ hm) (e3 _) (by simp; omega) (by simp; omega) (by omega) y ch.many (by omega)) (fun o4 g4' p4 => ?_)
                              · simp only [go_sem, e1, hgm, Bool.false_eq_true]
                              rw [List.length_map, List.length_map] at p4;have hmk : (decide ((y.length : Int) = ch.many) && y.all (Val.inB p s.chans.length s.spots.length)) = msgOk p s.chans.length s.spots.length ch.many y := rfl;rw [hmk] at p4;clear hmk;cases hmo : msgOk p s.chans.length s.spots.length ch.many y with
                              | true =>
                                rw [hmo] at p4;replace p4 : o4 = .ret (.tup []) := p4;subst p4
                                (repeat' (first | simp only [go_sem, *, Bool.false_eq_true] | (refine sx ?_ ?_ <;> intro hc) | (refine sy (by omega) fun x hx => ?_ <;> have hm := List.mem_of_getElem? hx) | simp (disch := first | assumption | omega) only [wrap_id, le_max, le_maxI, slice_int]))
                                refine IHl.out (_, _) ⟨?_, ?_, ?_, ?_, ?_, ?_, ⟨?_⟩⟩
                                · simp only [go_sem, e1, hgm, Bool.false_eq_true]
                                · simp only [go_sem, e4, hgg, Bool.false_eq_true]
                                · have q3 : ¬ n3 + 145 = n := by omega
                                  have q4 : ¬ n = n3 + 145 := by omega
                                  simp only [go_sem, g63, q3, q4, Bool.false_eq_true]
                                · have q3 : ¬ n3 + 102 = n := by omega
                                  have q4 : ¬ n = n3 + 102 := by omega
                                  simp only [go_sem, g106, q3, q4, Bool.false_eq_true]
                                · simp only [go_sem, g141, q1, q2, Bool.false_eq_true]
                                · dsimp only; omega
                                · rw [hrl.out, List.all_cons, hmo, Bool.true_and]
                              | false =>
                                rw [hmo] at p4;replace p4 : o4 = .pan (flawV 2) := p4;subst p4
                                (repeat' (first | simp only [go_sem, *, Bool.false_eq_true] | (refine sx ?_ ?_ <;> intro hc) | (refine sy (by omega) fun x hx => ?_ <;> have hm := List.mem_of_getElem? hx) | simp (disch := first | assumption | omega) only [wrap_id, le_max, le_maxI, slice_int]))
                                exact hbc.out (by rw [hfin.out, hrl.out, List.all_cons, hmo, Bool.false_and])
                            · clear hgm hgg g63 g106 g q1 q2 q3 q4 q5 q6 q7 q8 q9 q0;rintro l ⟨g, n3⟩ hil himl ⟨hgm, hgg, g63, g106, g141, hn3, hrl⟩;dsimp only at *
                              (repeat' (first | simp only [go_sem, *, Bool.false_eq_true] | (refine sx ?_ ?_ <;> intro hc) | (refine sy (by omega) fun x hx => ?_ <;> have hm := List.mem_of_getElem? hx) | simp (disch := first | assumption | omega) only [wrap_id, le_max, le_maxI, slice_int]))
                              refine IHj.out (_, _) ⟨hgm, hgg, g63, g106, ?_, ⟨?_⟩⟩
                              · dsimp only; omega
                              · rw [hrj.out, chnsOk, hfin.out, hrl.out]; rfl
                        · (repeat' (first | simp only [go_sem, *, Bool.false_eq_true] | (refine sx ?_ ?_ <;> intro hc) | (refine sy (by omega) fun x hx => ?_ <;> have hm := List.mem_of_getElem? hx) | simp (disch := first | assumption | omega) only [wrap_id, le_max, le_maxI, slice_int]))
                          exact hbc.out (by rw [hck.out, decide_eq_false g4]; simp)
                      · (repeat' (first | simp only [go_sem, *, Bool.false_eq_true] | (refine sx ?_ ?_ <;> intro hc) | (refine sy (by omega) fun x hx => ?_ <;> have hm := List.mem_of_getElem? hx) | simp (disch := first | assumption | omega) only [wrap_id, le_max, le_maxI, slice_int]))
                        exact hbc.out (by rw [hck.out, decide_eq_false g2]; simp)
                    · (repeat' (first | simp only [go_sem, *, Bool.false_eq_true] | (refine sx ?_ ?_ <;> intro hc) | (refine sy (by omega) fun x hx => ?_ <;> have hm := List.mem_of_getElem? hx) | simp (disch := first | assumption | omega) only [wrap_id, le_max, le_maxI, slice_int]))
                      exact hbc.out (by rw [hck.out, decide_eq_false g1]; simp)
                  · clear hgm hgg g63 g106 g hn2 n2;rintro j ⟨g, n2⟩ hij himj ⟨hgm, hgg, g63, g106, hn2, hrj⟩;dsimp only at *;have hgok : Later (grpOk p (groupsT p st.sizes) s i c k gr d = true) := ⟨by rw [hgo3.out, hrj.out]; rfl⟩
                    (repeat' (first | simp only [go_sem, *, Bool.false_eq_true] | (refine sx ?_ ?_ <;> intro hc) | (refine sy (by omega) fun x hx => ?_ <;> have hm := List.mem_of_getElem? hx) | simp (disch := first | assumption | omega) only [wrap_id, le_max, le_maxI, slice_int]))
                    refine IH.out (g, _, c + d.chans.length, k + d.spots.length) ⟨hgm, hgg, ?_, ?_, ⟨?_⟩⟩
                    · dsimp only; omega
                    · dsimp only; omega
                    · dsimp only; rw [hstep.out, hgok.out, Bool.true_and]
            · rw [Bool.not_eq_true] at hev;rw [hev] at p2;replace p2 : o2 = .pan (flawV 2) := p2;subst p2
              (repeat' (first | simp only [go_sem, *] | (refine sx ?_ ?_ <;> intro hc) | (refine sy (by omega) fun x hx => ?_ <;> have hm := List.mem_of_getElem? hx) | simp (disch := first | assumption | omega) only [wrap_id, le_max, le_maxI, slice_int]))
              refine hbad.out ?_;rw [hgo.out];clear IH hr hstep hbad hgo hy hd hv hT hF hm hg htr hlk hgm hgg;grind
          · replace p1 : o1 = .pan (flawV 2) := by
              rw [p1, List.length_map];have : (decide (0 ≤ gr.at_) && decide (gr.at_ < (s.spots.length : Int))) = false := by
                rw [← Bool.not_eq_true, Bool.and_eq_true, decide_eq_true_eq, decide_eq_true_eq];exact hin
              rw [this]; rfl
            subst p1
            (repeat' (first | simp only [go_sem, *] | (refine sx ?_ ?_ <;> intro hc) | (refine sy (by omega) fun x hx => ?_ <;> have hm := List.mem_of_getElem? hx) | simp (disch := first | assumption | omega) only [wrap_id, le_max, le_maxI, slice_int]))
            exact hbad.out (by rw [hgo.out, decide_eq_false hin, Bool.false_and])
        · rintro i ⟨g, n, c, k⟩ hi him ⟨hgm, hgg, b1, b2, hr⟩;dsimp only at *;have hfin : Later (solOk p st.sizes s = ((decide (c = s.chans.length) && decide (k = s.spots.length)) && s.waits.all (waitOk p st.sizes s))) := ⟨by rw [hr.out, grpsOk]⟩;by_cases g1 : c = s.chans.length
          · by_cases g2 : k = s.spots.length
            · have hf2 : Later (solOk p st.sizes s = s.waits.all (waitOk p st.sizes s)) := ⟨by rw [hfin.out, decide_eq_true g1, decide_eq_true g2]; rfl⟩;clear hfin hr
              (repeat' (first | simp only [go_sem, *] | (refine sx ?_ ?_ <;> intro hc) | (refine sy (by omega) fun x hx => ?_ <;> have hm := List.mem_of_getElem? hx) | simp (disch := first | assumption | omega) only [wrap_id, le_max, le_maxI, slice_int]))
              clear hi him i b1 b2;refine rounds_len s.waits _ (S := fun m' i (a : Heap × Nat) => ⟨[(0, .ptr m 0), (303, .d (.lst (s.waits.map encWait))), (304, .d (.int .i64 (m'))), (305, .d (.int .i64 (i)))], a.1, a.2 + 86, []⟩)
                (Inv := fun i rest a => a.1.get m = h.get m ∧ Later (solOk p st.sizes s = rest.all (waitOk p st.sizes s))) (b0 := (g, n)) rfl ⟨hgm, hf2⟩ ?_ ?_
              · clear hgm hgg hf2 g n;rintro i w ⟨g, n⟩ hy hi him ⟨hgm, hr⟩ IH;dsimp only at *;have hwo : Later (waitOk p st.sizes s w = (decide (inR s.spots w.at_) && (!deadAt s.spots w.at_ && (decide (0 ≤ w.node) && ((match p.nodes[w.node.toNat]? with | some x => waitsOp x.op | none => false) && (decide ((w.env.length : Int) = (st.sizes[w.node.toNat]?).getD 0) && w.env.all (Val.inB p s.chans.length s.spots.length))))))) := ⟨rfl⟩
                have hbad : Later (waitOk p st.sizes s w = false → COut.pan (flawV 2) = (wantO (flawV 2) (solOk p st.sizes s)).1) := ⟨fun h => by rw [hr.out, List.all_cons, h]; rfl⟩
                (repeat' (first | simp only [go_sem, *, Bool.false_eq_true] | (refine sx ?_ ?_ <;> intro hc) | (refine sy (by omega) fun x hx => ?_ <;> have hm := List.mem_of_getElem? hx) | simp (disch := first | assumption | omega) only [wrap_id, le_max, le_maxI, slice_int]))
                refine roP_post (spot_kl5 (sp := s.spots.map encSpot) (Eq.trans (b := h.get m) ?_ hm) (by simp; omega) w.at_) (fun o1 g1 p1 => ?_)
                · simp only [go_sem, e1, hgm, Bool.false_eq_true]
                by_cases hin : inR s.spots w.at_
                · replace p1 : o1 = .ret (.tup []) := by
                    rw [p1, decide_eq_true hin.1, List.length_map, decide_eq_true hin.2]; rfl
                  subst p1;obtain ⟨i1, i2⟩ := hin;obtain ⟨sp, hsp⟩ := get_some (l := s.spots) (i := w.at_.toNat) (by omega);have hda : Later (deadAt s.spots w.at_ = sp.dead) := ⟨by simp [deadAt, hsp]⟩;by_cases n0 : 0 ≤ w.node
                  · by_cases n1 : w.node < p.nodes.length
                    · obtain ⟨x, hx⟩ := get_some (l := p.nodes) (i := w.node.toNat) (by omega);obtain ⟨v, _, hv, v0, v1, _⟩ := hF.out.node _ x hx;have hln := Later.mk hF.out.len;have hlv := lt_of_get hv;have hwo2 : Later (waitOk p st.sizes s w = (!deadAt s.spots w.at_ && (waitsOp x.op && (decide ((w.env.length : Int) = v) && w.env.all (Val.inB p s.chans.length s.spots.length))))) := ⟨by
                        rw [hwo.out, hx, hv, decide_eq_true n0, decide_eq_true ⟨i1, i2⟩]; rfl⟩
                      clear hwo;cases hsd : sp.dead with
                      | true =>
                        (repeat' (first | simp only [go_sem, *, Bool.false_eq_true] | (refine sx ?_ ?_ <;> intro hc) | (refine sy (by omega) fun x hx => ?_ <;> have hm := List.mem_of_getElem? hx) | simp (disch := first | assumption | omega) only [wrap_id, le_max, le_maxI, slice_int]))
                        all_goals exact hbad.out (by rw [hwo2.out, hda.out, hsd]; rfl)
                      | false =>
                        by_cases ho : waitsOp x.op = true
                        · have hwo3 : Later (waitOk p st.sizes s w = (decide ((w.env.length : Int) = v) && w.env.all (Val.inB p s.chans.length s.spots.length))) := ⟨by
                            rw [hwo2.out, hda.out, hsd, ho]; rfl⟩
                          simp only [waitsOp, Bool.or_eq_true, decide_eq_true_eq] at ho;replace ho := Later.mk ho
                          (repeat' (first | simp only [go_sem, *, Bool.false_eq_true] | (refine sx ?_ ?_ <;> intro hc) | (refine sy (by omega) fun x hx => ?_ <;> have hm := List.mem_of_getElem? hx) | simp (disch := first | assumption | omega) only [wrap_id, le_max, le_maxI, slice_int]))
                          all_goals try (exfalso; have := ho.out; omega)
                          all_goals
                            refine roP_post (env_kl5 (p := p) (sp := s.spots.map encSpot) (ch := s.chans.map encChn) (Eq.trans (b := h.get m) ?_ hm) (e3 _) (by simp; omega) (by simp; omega) (by omega) w.env v (by omega)) (fun o4 g4' p4 => ?_)
                            · simp only [go_sem, e1, hgm, Bool.false_eq_true]
                            rw [List.length_map, List.length_map] at p4;rw [← hwo3.out] at p4;cases hmo : waitOk p st.sizes s w with
                            | true =>
                              rw [hmo] at p4;replace p4 : o4 = .ret (.tup []) := p4;subst p4
                              (repeat' (first | simp only [go_sem, *, Bool.false_eq_true] | (refine sx ?_ ?_ <;> intro hc) | (refine sy (by omega) fun x hx => ?_ <;> have hm := List.mem_of_getElem? hx) | simp (disch := first | assumption | omega) only [wrap_id, le_max, le_maxI, slice_int]))
                              refine IH.out (_, _) ⟨?_, ⟨?_⟩⟩
                              · simp only [go_sem, e1, hgm, Bool.false_eq_true]
                              · rw [hr.out, List.all_cons, hmo, Bool.true_and]
                            | false =>
                              rw [hmo] at p4;replace p4 : o4 = .pan (flawV 2) := p4;subst p4
                              (repeat' (first | simp only [go_sem, *, Bool.false_eq_true] | (refine sx ?_ ?_ <;> intro hc) | (refine sy (by omega) fun x hx => ?_ <;> have hm := List.mem_of_getElem? hx) | simp (disch := first | assumption | omega) only [wrap_id, le_max, le_maxI, slice_int]))
                              exact hbad.out hmo
                        · have hof : Later (waitsOp x.op = false) := ⟨by simpa using ho⟩;simp only [waitsOp, Bool.or_eq_true, decide_eq_true_eq, not_or] at ho;obtain ⟨u1, u2, u3⟩ := ho
                          (repeat' (first | simp only [go_sem, *, Bool.false_eq_true] | (refine sx ?_ ?_ <;> intro hc) | (refine sy (by omega) fun x hx => ?_ <;> have hm := List.mem_of_getElem? hx) | simp (disch := first | assumption | omega) only [wrap_id, le_max, le_maxI, slice_int]))
                          all_goals exact hbad.out (by rw [hwo2.out, hda.out, hof.out]; simp)
                    · (repeat' (first | simp only [go_sem, *, Bool.false_eq_true] | (refine sx ?_ ?_ <;> intro hc) | (refine sy (by omega) fun x hx => ?_ <;> have hm := List.mem_of_getElem? hx) | simp (disch := first | assumption | omega) only [wrap_id, le_max, le_maxI, slice_int]))
                      all_goals exact hbad.out (by rw [hwo.out, List.getElem?_eq_none (show p.nodes.length ≤ w.node.toNat by omega)]; simp)
                  · (repeat' (first | simp only [go_sem, *, Bool.false_eq_true] | (refine sx ?_ ?_ <;> intro hc) | (refine sy (by omega) fun x hx => ?_ <;> have hm := List.mem_of_getElem? hx) | simp (disch := first | assumption | omega) only [wrap_id, le_max, le_maxI, slice_int]))
                    all_goals exact hbad.out (by rw [hwo.out, decide_eq_false n0]; simp)
                · replace p1 : o1 = .pan (flawV 2) := by
                    rw [p1, List.length_map];have : (decide (0 ≤ w.at_) && decide (w.at_ < (s.spots.length : Int))) = false := by
                      rw [← Bool.not_eq_true, Bool.and_eq_true, decide_eq_true_eq, decide_eq_true_eq];exact hin
                    rw [this]; rfl
                  subst p1
                  (repeat' (first | simp only [go_sem, *, Bool.false_eq_true] | (refine sx ?_ ?_ <;> intro hc) | (refine sy (by omega) fun x hx => ?_ <;> have hm := List.mem_of_getElem? hx) | simp (disch := first | assumption | omega) only [wrap_id, le_max, le_maxI, slice_int]))
                  exact hbad.out (by rw [hwo.out, decide_eq_false hin]; rfl)
              · rintro i ⟨g, n⟩ hi him ⟨hgm, hr⟩;dsimp only at *
                (repeat' (first | simp only [go_sem, *] | (refine sx ?_ ?_ <;> intro hc) | (refine sy (by omega) fun x hx => ?_ <;> have hm := List.mem_of_getElem? hx) | simp (disch := first | assumption | omega) only [wrap_id, le_max, le_maxI, slice_int]))
                rw [hr.out];rfl
            · have g3 : ¬ (k : Int) = s.spots.length := by omega
              (repeat' (first | simp only [go_sem, *] | (refine sx ?_ ?_ <;> intro hc) | (refine sy (by omega) fun x hx => ?_ <;> have hm := List.mem_of_getElem? hx) | simp (disch := first | assumption | omega) only [wrap_id, le_max, le_maxI, slice_int]))
              rw [hfin.out, decide_eq_false g2];simp [wantO]
          · have g3 : ¬ (c : Int) = s.chans.length := by omega
            (repeat' (first | simp only [go_sem, *] | (refine sx ?_ ?_ <;> intro hc) | (refine sy (by omega) fun x hx => ?_ <;> have hm := List.mem_of_getElem? hx) | simp (disch := first | assumption | omega) only [wrap_id, le_max, le_maxI, slice_int]))
            rw [hfin.out, decide_eq_false g1];rfl
  · have hk0 : solOk p st.sizes s = false := by rw [solOk]; simp [hss]
    rw [hk0];have hss : Later (¬ (s.spots.length ≤ 24 ∧ s.groups.length ≤ 40 ∧ s.chans.length ≤ 60 ∧ s.waits.length ≤ 40)) := ⟨by simpa [Sol.small] using hss⟩
    (refine KL_post rfl Tryz.func91 rfl rfl rfl ?_; show Wp _ _ _ _ (Tryz.f91.body.get rfl) _ _; simp only [Tryz.f91, Option.get_some])
    (repeat' (first | simp only [go_sem, *] | (refine sx ?_ ?_ <;> intro hc) | (refine sy (by omega) fun x hx => ?_ <;> have hm := List.mem_of_getElem? hx) | simp (disch := first | assumption | omega) only [wrap_id, le_max, le_maxI, slice_int]))
    all_goals first
    | rfl
    | (have := hss.out; exfalso; omega)
end Go.Proofs
end
section
namespace Go.Abs
def mputE (id : Id) (x : Dat) (v : AV) (es : List (Dat × AV)) : Option (Option AV) → Option Eff
  | some _ => some ⟨.undef, [(id, .map (mapSet es x v))]⟩
  | none => none
def mputO (id : Id) (x : Dat) (v : AV) : Option Obj → Option Eff
  | some (.map es) => mputE id x v es (mapGet es x)
  | _ => none
def mputK (x : Dat) (v : AV) (id : Id) (o : Option Obj) : Option TI → Option Eff
  | some j => if (keyOk j.kind x && v.isCell) = true then mputO id x v o else none
  | none => none
theorem mapPut_mp (T : TypeId → Option TI) (g : G) (i : TI) (id : Id) (x : Dat) (v : AV) (hk : i.kind = .map) : mapPut T g (some i) (.mp id) (.d x) v = mputK x v id (g id) (T i.key) := by
  unfold mapPut;simp only [datOf, hk];cases T i.key with
  | none => rfl
  | some j =>
    simp only [mputK];cases keyOk j.kind x && v.isCell with
    | false => rfl
    | true =>
      simp only [if_true];cases g id with
      | none => rfl
      | some o =>
        cases o with
        | map es =>
          simp only [mputO];cases mapGet es x <;> rfl
        | _ => rfl
theorem mputK_some (x : Dat) (v : AV) (id : Id) (o : Option Obj) (j : TI) : mputK x v id o (some j) = if (keyOk j.kind x && v.isCell) = true then mputO id x v o else none := rfl
theorem mputO_map (id : Id) (x : Dat) (v : AV) (es : List (Dat × AV)) : mputO id x v (some (.map es)) = mputE id x v es (mapGet es x) := rfl
theorem mputE_some (id : Id) (x : Dat) (v : AV) (es : List (Dat × AV)) (o : Option AV) : mputE id x v es (some o) = some ⟨.undef, [(id, .map (mapSet es x v))]⟩ := rfl
theorem mapGet_int (k : IntKind) (a b : Int) (v : AV) (es : List (Dat × AV)) : mapGet ((.int k a, v) :: es) (.int k b) = if a = b then some (some v) else mapGet es (.int k b) := by
  rw [mapGet];by_cases h : a = b
  · have hb : (a == b) = decide (a = b) := by rw [Bool.eq_iff_iff]; simp
    simp [datEq, h, hb]
  · have hb : (a == b) = decide (a = b) := by rw [Bool.eq_iff_iff]; simp
    simp [datEq, h, hb]
theorem mapSet_nil (x : Dat) (v : AV) : mapSet [] x v = [(x, v)] := rfl
theorem mapSet_int (k : IntKind) (a b : Int) (v w : AV) (es : List (Dat × AV)) : mapSet ((.int k a, w) :: es) (.int k b) v = if a = b then (.int k a, v) :: es else (.int k a, w) :: mapSet es (.int k b) v := by
  rw [mapSet];by_cases h : a = b
  · have hb : (a == b) = decide (a = b) := by rw [Bool.eq_iff_iff]; simp
    simp [datEq, h, hb]
  · have hb : (a == b) = decide (a = b) := by rw [Bool.eq_iff_iff]; simp
    simp [datEq, h, hb]
attribute [go_sem] mapPut_mp mputK_some mputO_map mputE_some mapGet_int mapSet_nil mapSet_int
end Go.Abs
namespace Go.Proofs
open Go Go.Abs
set_option maxRecDepth 100000
set_option maxHeartbeats 4000000
set_option linter.unusedSimpArgs false
set_option linter.unusedVariables false
def prepHeap (π : List Nat) (p : Prog) (st : LSt) : Heap := if p.defs.length = 0 then
    [(0 :: 0 :: π, .box [.nils, .nils, .nils, .nils, .d (.lst (p.free.map encStr)), .d (.lst (p.nodes.map encNode)), .d (.lst (p.defs.map encDef)), .d (.int .i64 (p.main)), .d (.lst (st.sizes.map encInt)), .emp, .mp (1 :: 3 :: π), .nils, .d (.int .i64 (0))]), (1 :: 3 :: π, .map actsT)]
  else [(0 :: 0 :: π, .box [.nils, .nils, .nils, .nils, .d (.lst (p.free.map encStr)), .d (.lst (p.nodes.map encNode)), .d (.lst (p.defs.map encDef)), .d (.int .i64 (p.main)), .d (.lst (st.sizes.map encInt)), .osl (1 :: 1 :: π) 0 p.defs.length, .mp (1 :: 4 :: π), .nils, .d (.int .i64 (0))]), (1 :: 1 :: π, .darr 1 ((groupsT p st.sizes).map encInt)), (1 :: 4 :: π, .map actsT)]
structure PrepPost (π : List Nat) (p : Prog) (r : COut × Heap) : Prop where
  pan : looks p = none → r = (.pan (flawV 2), [])
  ret : ∀ st, looks p = some st → r = (.ret (.ptr (0 :: 0 :: π) 0), prepHeap π p st)
theorem prepared_kl (p : Prog) (hp : ∀ s ∈ p.free, s.size ≤ maxLen) (k : Nat) (ρ : List Nat) : ∃ r, askN (KL Tryz.prog cfg) 65 [.agg [.d (.lst (p.free.map encStr)), .d (.lst (p.nodes.map encNode)), .d (.lst (p.defs.map encDef)), .d (.int .i64 (p.main))]] (k :: ρ) = .ok r ∧ PrepPost (k :: ρ) p r := by
  have hsz := Sizes_kl p hp;replace hp := Later.mk hp;cases hlk : looks p with
  | none =>
    rw [hlk] at hsz;simp only [sizesV] at hsz
    (refine KN_post rfl Tryz.func65 rfl rfl rfl ?_; show Wp _ _ _ _ (Tryz.f65.body.get rfl) _ _; simp only [Tryz.f65, Option.get_some])
    (repeat' (first | simp only [go_sem, *] | (refine sx ?_ ?_ <;> intro hc) | (refine sy (by omega) fun x hx => ?_ <;> have hm := List.mem_of_getElem? hx) | simp (disch := first | assumption | omega) only [wrap_id, le_max, le_maxI, slice_int]))
    exact ⟨fun _ => rfl, fun st h => by rw [hlk] at h; cases h⟩
  | some st =>
    rw [hlk] at hsz;simp only [sizesV] at hsz;have hF := Later.mk (looks_formed hlk);have hsm := hF.out.small;simp only [Prog.small, Bool.and_eq_true, decide_eq_true_eq] at hsm;obtain ⟨c1, c2, c3⟩ := hsm
    (refine KN_post rfl Tryz.func65 rfl rfl rfl ?_; show Wp _ _ _ _ (Tryz.f65.body.get rfl) _ _; simp only [Tryz.f65, Option.get_some])
    by_cases hD0 : p.defs.length = 0
    · (repeat' (first | simp only [go_sem, *] | (refine sx ?_ ?_ <;> intro hc) | (refine sy (by omega) fun x hx => ?_ <;> have hm := List.mem_of_getElem? hx) | simp (disch := first | assumption | omega) only [wrap_id, le_max, le_maxI, slice_int, make_int]))
      refine rounds_len p.nodes _ (S := fun m i (_ : Unit) => ⟨[(3, .d (.lst (st.sizes.map encInt))), (5, .ptr (0 :: 0 :: k :: ρ) 0), (25, .d (.lst (p.nodes.map encNode))), (26, .d (.int .i64 (m))), (27, .d (.int .i64 (i)))], [(0 :: 0 :: k :: ρ, .box [.nils, .nils, .nils, .nils, .d (.lst (p.free.map encStr)), .d (.lst (p.nodes.map encNode)), .d (.lst (p.defs.map encDef)), .d (.int .i64 (p.main)), .d (.lst (st.sizes.map encInt)), .emp, .d .nilm, .nils, .d (.int .i64 (0))])], 1, []⟩)
        (Inv := fun i rest _ => True) (b0 := ()) rfl trivial ?_ ?_
      · rintro i y _ hy hi him _ IH;have ho : ¬ y.op = 4 := fun ho => by
          have := def_node hF.out hy ho;omega
        (repeat' (first | simp only [go_sem, *] | (refine sx ?_ ?_ <;> intro hc) | (refine sy (by omega) fun x hx => ?_ <;> have hm := List.mem_of_getElem? hx) | simp (disch := first | assumption | omega) only [wrap_id, le_max, le_maxI, slice_int]))
        exact IH.out () trivial
      · rintro i _ hi him _;have hD1 := Later.mk hD0
        (repeat' (first | simp only [go_sem, *] | (refine sx ?_ ?_ <;> intro hc) | (refine sy (by omega) fun x hx => ?_ <;> have hm := List.mem_of_getElem? hx) | simp (disch := first | assumption | omega) only [wrap_id, le_max, le_maxI, slice_int]))
        exact ⟨fun h => (by rw [hlk] at h; cases h), fun st h => by rw [hlk] at h; cases h; rw [prepHeap, if_pos hD1.out]; rfl⟩
    · (repeat' (first | simp only [go_sem, *] | (refine sx ?_ ?_ <;> intro hc) | (refine sy (by omega) fun x hx => ?_ <;> have hm := List.mem_of_getElem? hx) | simp (disch := first | assumption | omega) only [wrap_id, le_max, le_maxI, slice_int, make_int]))
      refine rounds_len p.nodes _ (S := fun m i (out : List Int) => ⟨[(3, .d (.lst (st.sizes.map encInt))), (5, .ptr (0 :: 0 :: k :: ρ) 0), (25, .d (.lst (p.nodes.map encNode))), (26, .d (.int .i64 (m))), (27, .d (.int .i64 (i)))], [(0 :: 0 :: k :: ρ, .box [.nils, .nils, .nils, .nils, .d (.lst (p.free.map encStr)), .d (.lst (p.nodes.map encNode)), .d (.lst (p.defs.map encDef)), .d (.int .i64 (p.main)), .d (.lst (st.sizes.map encInt)), .osl (1 :: 1 :: k :: ρ) 0 p.defs.length, .d .nilm, .nils, .d (.int .i64 (0))]), (1 :: 1 :: k :: ρ, .darr 1 (out.map encInt))], 2, []⟩)
        (Inv := fun i rest out => out.length = p.defs.length ∧ Later (groupsT p st.sizes = groupsGo st.sizes out rest)) (b0 := List.replicate p.defs.length 0) rfl ⟨by simp, ⟨rfl⟩⟩ ?_ ?_
      · rintro i y out hy hi him ⟨hol, hr⟩ IH;by_cases ho : y.op = 4
        · obtain ⟨n1, n2, kk, v, hk, hk0, hkv, hks, _, _⟩ := def_node hF.out hy ho;obtain ⟨o, hoo⟩ := get_some (l := out) (i := y.n.toNat) (by omega);have hyn : y.n.toNat < p.defs.length := by omega
          have hks := Later.mk hks
          (repeat' (first | simp only [go_sem, *] | (refine sx ?_ ?_ <;> intro hc) | (refine sy (by omega) fun x hx => ?_ <;> have hm := List.mem_of_getElem? hx) | simp (disch := first | assumption | omega) only [wrap_id, le_max, le_maxI, slice_int]))
          have e : (out.map encInt).set y.n.toNat [.int .i64 v] = (out.set y.n.toNat v).map encInt := by rw [List.map_set]; rfl
          rw [e];refine IH.out (out.set y.n.toNat v) ⟨by simpa using hol, ⟨?_⟩⟩;rw [hr.out, groupsGo, if_pos ho, hks.out]
        · (repeat' (first | simp only [go_sem, *] | (refine sx ?_ ?_ <;> intro hc) | (refine sy (by omega) fun x hx => ?_ <;> have hm := List.mem_of_getElem? hx) | simp (disch := first | assumption | omega) only [wrap_id, le_max, le_maxI, slice_int]))
          refine IH.out out ⟨hol, ⟨?_⟩⟩;rw [hr.out, groupsGo, if_neg ho]
      · rintro i out hi him ⟨hol, hr⟩;have hgr : Later (groupsT p st.sizes = out) := ⟨by rw [hr.out]; rfl⟩
        (repeat' (first | simp only [go_sem, *] | (refine sx ?_ ?_ <;> intro hc) | (refine sy (by omega) fun x hx => ?_ <;> have hm := List.mem_of_getElem? hx) | simp (disch := first | assumption | omega) only [wrap_id, le_max, le_maxI, slice_int]))
        exact ⟨fun h => (by rw [hlk] at h; cases h), fun st h => by rw [hlk] at h; cases h; rw [prepHeap, if_neg hD0, hgr.out]; rfl⟩
end Go.Proofs
end
section
namespace Go.Proofs
open Go Go.Abs
set_option linter.unusedSimpArgs false
set_option linter.unusedVariables false
theorem chnsOk_at {p : Prog} {s : Sol} {d : Def} {g : Group} {i c : Nat} : ∀ {l : List Chan} {j : Nat}, chnsOk p s d g i c j l = true → ∀ (t : Nat) (ch : Chan), l[t]? = some ch → chnAt p s d g i (j + t) (c + (j + t)) ch = true
  | x :: l, j, h, t, ch, ht => by
    rw [chnsOk, Bool.and_eq_true] at h;cases t with
    | zero =>
      simp only [List.getElem?_cons_zero, Option.some.injEq] at ht;subst ht;exact h.1
    | succ t =>
      rw [List.getElem?_cons_succ] at ht;have := chnsOk_at h.2 t ch ht
      rwa [show j + 1 + t = j + (t + 1) by omega] at this
theorem grpsOk_all {p : Prog} {sizes : List Int} (hF : Formed p sizes) {s : Sol} : ∀ (l : List Group) (i c k : Nat), grpsOk p (groupsT p sizes) s i c k l = true →
    (∀ g ∈ l, g.env.length ≤ 10000) ∧ ∀ a, c ≤ a → a < s.chans.length → ∃ q g d ch i j, s.chans[a]? = some q ∧ chnOk p s d g i j q ch = true ∧ ch.many ≤ 3
  | [], i, c, k, h => by
    rw [grpsOk, Bool.and_eq_true, decide_eq_true_eq] at h;exact ⟨fun g hg => (by cases hg), fun a h1 h2 => by omega⟩
  | g :: l, i, c, k, h => by
    rw [grpsOk] at h;cases hd : p.def? g.def_ with
    | none => rw [hd] at h; cases h
    | some d =>
      rw [hd] at h;simp only [Bool.and_eq_true] at h;obtain ⟨h1, h2⟩ := h;obtain ⟨i1, i2⟩ := grpsOk_all hF l _ _ _ h2;rw [Prog.def?] at hd;split at hd
      · rename_i h0;have hdf := def_fact hF hd;rw [grpOk] at h1;simp only [Bool.and_eq_true, decide_eq_true_eq] at h1;obtain ⟨_, hl, _, _, hch⟩ := h1;obtain ⟨_, _, s0, _, _, _, _, q0, q1, q2, _⟩ := hdf.node;rw [q2] at hl;have hown := own_le hdf.ok;simp only [Option.getD_some] at hl;refine ⟨fun y hy => ?_, fun a ha hb => ?_⟩
        · rcases List.mem_cons.1 hy with rfl | hy
          · omega
          · exact i1 y hy
        · by_cases hac : a < c + d.chans.length
          · obtain ⟨ch, hch2⟩ := get_some (l := d.chans) (i := a - c) (by omega);have := chnsOk_at hch (a - c) ch hch2;rw [show c + (0 + (a - c)) = a by omega, chnAt] at this;cases hq : s.chans[a]? with
            | none => rw [hq] at this; cases this
            | some q =>
              rw [hq] at this;exact ⟨q, g, d, ch, _, _, rfl, this, (hdf.ok.chan ch (List.mem_of_getElem? hch2)).2.2.2⟩
          · exact i2 a (by omega) hb
      · cases hd
theorem solOk_fits {p : Prog} {st : LSt} (hlk : looks p = some st) {s : Sol} (h : solOk p st.sizes s = true) : s.Fits := by
  have hF := looks_formed hlk;simp only [solOk, Sol.small, Bool.and_eq_true, decide_eq_true_eq] at h;obtain ⟨⟨a1, a2, a3, a4⟩, _, _, hg, hw⟩ := h;obtain ⟨g1, g2⟩ := grpsOk_all hF _ _ _ _ hg;refine ⟨by omega, by omega, a3, by omega, fun x hx => by have := g1 x hx; omega, fun x hx => ?_, fun x hx => ?_⟩
  · obtain ⟨a, ha⟩ := List.getElem?_of_mem hx;have hal := (List.getElem?_eq_some_iff.1 ha).1;obtain ⟨q, g, d, ch, i, j, hq, hok, hm⟩ := g2 a (by omega) hal;rw [ha] at hq;cases hq;simp only [chnOk, Bool.and_eq_true, decide_eq_true_eq, List.all_eq_true] at hok;obtain ⟨_, _, _, h12, _, hall⟩ := hok;refine ⟨by omega, fun y hy => ?_⟩;have := hall y hy;simp only [msgOk, Bool.and_eq_true, decide_eq_true_eq] at this;omega
  · have := List.all_eq_true.1 hw x hx;simp only [waitOk, Bool.and_eq_true, decide_eq_true_eq] at this;obtain ⟨_, _, _, hn, hl, _⟩ := this;cases hxn : p.nodes[x.node.toNat]? with
    | none => rw [hxn] at hn; cases hn
    | some y =>
      obtain ⟨v, _, hv, v0, v1, _⟩ := hF.node _ y hxn;rw [hv] at hl;simp only [Option.getD_some] at hl;omega
end Go.Proofs
end
section
namespace Go.Proofs
open Go Go.Abs
set_option maxRecDepth 100000
set_option maxHeartbeats 4000000
set_option linter.unusedSimpArgs false
set_option linter.unusedVariables false
structure LoadPost (π : List Nat) (p : Prog) (s : Sol) (r : COut × Heap) : Prop where
  bad : solErr p s ≠ 0 → r = (.pan (flawV 2), [])
  good : solErr p s = 0 → ∃ id g, r = (.ret (.ptr id 0), g) ∧ ∀ id', Id.under π id' = false → g.get id' = none
theorem loaded_kl (p : Prog) (s : Sol) (hp : ∀ s ∈ p.free, s.size ≤ maxLen) (k : Nat) (ρ : List Nat) : ∃ r, askN (KL Tryz.prog cfg) 51 [.agg [.d (.lst (p.free.map encStr)), .d (.lst (p.nodes.map encNode)), .d (.lst (p.defs.map encDef)), .d (.int .i64 (p.main))], .agg [.d (.lst (s.spots.map encSpot)), .d (.lst (s.groups.map encGroup)), .d (.lst (s.chans.map encChn)), .d (.lst (s.waits.map encWait))]] (k :: ρ) = .ok r ∧ LoadPost (k :: ρ) p s r := by
  obtain ⟨r, hr, hpost⟩ := prepared_kl p hp 4 (k :: ρ);replace hp := Later.mk hp;cases hlk : looks p with
  | none =>
    obtain rfl := hpost.pan hlk
    (refine KN_post rfl Tryz.func51 rfl rfl rfl ?_; show Wp _ _ _ _ (Tryz.f51.body.get rfl) _ _; simp only [Tryz.f51, Option.get_some])
    (repeat' (first | simp only [go_sem, *] | (refine sx ?_ ?_ <;> intro hc) | (refine sy (by omega) fun x hx => ?_ <;> have hm := List.mem_of_getElem? hx) | simp (disch := first | assumption | omega) only [wrap_id, le_max, le_maxI, slice_int]))
    exact ⟨fun _ => rfl, fun h => by rw [solErr, hlk] at h; cases h⟩
  | some st =>
    obtain rfl := hpost.ret st hlk;have hse : Later (solErr p s = if solOk p st.sizes s = true then 0 else 2) := ⟨by rw [solErr, hlk]⟩;have hfit := fun h => copied_kl s (solOk_fits hlk h);by_cases hD0 : p.defs.length = 0
    · simp only [prepHeap, hD0, if_true, if_false, actsT] at hr
      (refine KN_post rfl Tryz.func51 rfl rfl rfl ?_; show Wp _ _ _ _ (Tryz.f51.body.get rfl) _ _; simp only [Tryz.f51, Option.get_some])
      (repeat' (first | simp only [go_sem, *] | (refine sx ?_ ?_ <;> intro hc) | (refine sy (by omega) fun x hx => ?_ <;> have hm := List.mem_of_getElem? hx) | simp (disch := first | assumption | omega) only [wrap_id, le_max, le_maxI, slice_int]))
      refine roP_post (formedM_kl (s := s) (x9 := .emp) (x10 := .mp (1 :: 3 :: 4 :: k :: ρ)) (x11 := .nils) (x12 := .d (.int .i64 (0))) (gid := 1 :: 1 :: 4 :: k :: ρ) hlk ?_ ?_ ?_ ?_ ?_) (fun o1 g1 p1 => ?_)
      · simp only [go_sem]
      · exact under_id2 _ _ _ _ _ (by decide)
      · simp only [slv, hD0, if_true, if_false]
      · intro hh;first
        | exact absurd hD0 hh
        | (simp only [go_sem]; done)
        | (simp only [go_sem]; rfl)
      · exact under_id2 _ _ _ _ _ (by decide)
      cases hso : solOk p st.sizes s with
      | false =>
        rw [hso] at p1;replace p1 : o1 = .pan (flawV 2) := p1;subst p1;replace hfit := Later.mk hfit
        (repeat' (first | simp only [go_sem, *] | (refine sx ?_ ?_ <;> intro hc) | (refine sy (by omega) fun x hx => ?_ <;> have hm := List.mem_of_getElem? hx) | simp (disch := first | assumption | omega) only [wrap_id, le_max, le_maxI, slice_int]))
        exact ⟨fun _ => rfl, fun h => by rw [hse.out, hso] at h; cases h⟩
      | true =>
        rw [hso] at p1;replace p1 : o1 = .ret (.tup []) := p1;subst p1;obtain ⟨r2, hr2, v1, v2, v3, v4, g, rfl, hv1, hv2, hv3, hv4, hgn⟩ := hfit hso 15 (k :: ρ);clear hfit;have hgm : ∀ L, Heap.get (g ++ L) (0 :: 0 :: 4 :: k :: ρ) = Heap.get L (0 :: 0 :: 4 :: k :: ρ) := fun L => get_app_none (hgn _ (under_id2 _ _ _ _ _ (by decide)));replace hgn := Later.mk hgn;have hsp : s.spots.length ≠ 0 := by
          simp only [solOk, treeB, Bool.and_eq_true, decide_eq_true_eq] at hso;omega
        obtain ⟨i1, n1, rfl⟩ := hv1 hsp;have hgood : Later (solErr p s = 0) := ⟨by rw [hse.out, hso]; rfl⟩;rcases hv2 with rfl | ⟨i2, n2, rfl⟩;all_goals rcases hv3 with rfl | ⟨i3, n3, rfl⟩
        all_goals rcases hv4 with rfl | ⟨i4, n4, rfl⟩
        all_goals
          (repeat' (first | simp only [go_sem, *] | (refine sx ?_ ?_ <;> intro hc) | (refine sy (by omega) fun x hx => ?_ <;> have hm := List.mem_of_getElem? hx) | simp (disch := first | assumption | omega) only [wrap_id, le_max, le_maxI, slice_int]))
          refine ⟨fun h => absurd hgood.out h, fun _ => ⟨_, _, rfl, fun id hu => ?_⟩⟩;have a1 := not_is hu;have a2 := not_is (under_ext hu 4);have a3 : ∀ L, Heap.get (g ++ L) id = Heap.get L id := fun L => get_app_none (hgn.out id (under_ext hu 15));simp only [go_sem, a1, a2, a3, Bool.false_eq_true]
    · simp only [prepHeap, hD0, if_true, if_false, actsT] at hr
      (refine KN_post rfl Tryz.func51 rfl rfl rfl ?_; show Wp _ _ _ _ (Tryz.f51.body.get rfl) _ _; simp only [Tryz.f51, Option.get_some])
      (repeat' (first | simp only [go_sem, *] | (refine sx ?_ ?_ <;> intro hc) | (refine sy (by omega) fun x hx => ?_ <;> have hm := List.mem_of_getElem? hx) | simp (disch := first | assumption | omega) only [wrap_id, le_max, le_maxI, slice_int]))
      refine roP_post (formedM_kl (s := s) (x9 := .osl (1 :: 1 :: 4 :: k :: ρ) 0 p.defs.length) (x10 := .mp (1 :: 4 :: 4 :: k :: ρ)) (x11 := .nils) (x12 := .d (.int .i64 (0))) (gid := 1 :: 1 :: 4 :: k :: ρ) hlk ?_ ?_ ?_ ?_ ?_) (fun o1 g1 p1 => ?_)
      · simp only [go_sem]
      · exact under_id2 _ _ _ _ _ (by decide)
      · simp only [slv, hD0, if_true, if_false]
      · intro hh;first
        | exact absurd hD0 hh
        | (simp only [go_sem]; done)
        | (simp only [go_sem]; rfl)
      · exact under_id2 _ _ _ _ _ (by decide)
      cases hso : solOk p st.sizes s with
      | false =>
        rw [hso] at p1;replace p1 : o1 = .pan (flawV 2) := p1;subst p1;replace hfit := Later.mk hfit
        (repeat' (first | simp only [go_sem, *] | (refine sx ?_ ?_ <;> intro hc) | (refine sy (by omega) fun x hx => ?_ <;> have hm := List.mem_of_getElem? hx) | simp (disch := first | assumption | omega) only [wrap_id, le_max, le_maxI, slice_int]))
        exact ⟨fun _ => rfl, fun h => by rw [hse.out, hso] at h; cases h⟩
      | true =>
        rw [hso] at p1;replace p1 : o1 = .ret (.tup []) := p1;subst p1;obtain ⟨r2, hr2, v1, v2, v3, v4, g, rfl, hv1, hv2, hv3, hv4, hgn⟩ := hfit hso 15 (k :: ρ);clear hfit;have hgm : ∀ L, Heap.get (g ++ L) (0 :: 0 :: 4 :: k :: ρ) = Heap.get L (0 :: 0 :: 4 :: k :: ρ) := fun L => get_app_none (hgn _ (under_id2 _ _ _ _ _ (by decide)));replace hgn := Later.mk hgn;have hsp : s.spots.length ≠ 0 := by
          simp only [solOk, treeB, Bool.and_eq_true, decide_eq_true_eq] at hso;omega
        obtain ⟨i1, n1, rfl⟩ := hv1 hsp;have hgood : Later (solErr p s = 0) := ⟨by rw [hse.out, hso]; rfl⟩;rcases hv2 with rfl | ⟨i2, n2, rfl⟩;all_goals rcases hv3 with rfl | ⟨i3, n3, rfl⟩
        all_goals rcases hv4 with rfl | ⟨i4, n4, rfl⟩
        all_goals
          (repeat' (first | simp only [go_sem, *] | (refine sx ?_ ?_ <;> intro hc) | (refine sy (by omega) fun x hx => ?_ <;> have hm := List.mem_of_getElem? hx) | simp (disch := first | assumption | omega) only [wrap_id, le_max, le_maxI, slice_int]))
          refine ⟨fun h => absurd hgood.out h, fun _ => ⟨_, _, rfl, fun id hu => ?_⟩⟩;have a1 := not_is hu;have a2 := not_is (under_ext hu 4);have a3 : ∀ L, Heap.get (g ++ L) id = Heap.get L id := fun L => get_app_none (hgn.out id (under_ext hu 15));simp only [go_sem, a1, a2, a3, Bool.false_eq_true]
end Go.Proofs
end
section
namespace Go.Proofs
open Go Go.Abs
set_option maxRecDepth 100000
set_option maxHeartbeats 4000000
set_option linter.unusedSimpArgs false
set_option linter.unusedVariables false
theorem CheckM_kl (p : Prog) (s : Sol) (hp : ∀ s ∈ p.free, s.size ≤ maxLen) : askN (KL Tryz.prog cfg) 39 [.agg [.d (.lst (p.free.map encStr)), .d (.lst (p.nodes.map encNode)), .d (.lst (p.defs.map encDef)), .d (.int .i64 (p.main))], .agg [.d (.lst (s.spots.map encSpot)), .d (.lst (s.groups.map encGroup)), .d (.lst (s.chans.map encChn)), .d (.lst (s.waits.map encWait))]] [] = .ok (.ret (.d (.int .i64 (solErr p s))), []) := by
  obtain ⟨r, hr, hpost⟩ := loaded_kl p s hp 6 [];replace hp := Later.mk hp;by_cases h0 : solErr p s = 0
  · obtain ⟨id, g, rfl, hg⟩ := hpost.good h0;have g0 : ∀ L, Heap.get (g ++ L) [0, 0] = Heap.get L [0, 0] := fun L => get_app_none (hg _ (by decide));have g1 : ∀ L, Heap.get (g ++ L) [0, 1] = Heap.get L [0, 1] := fun L => get_app_none (hg _ (by decide));have g2 : ∀ L, Heap.get (g ++ L) [0, 2] = Heap.get L [0, 2] := fun L => get_app_none (hg _ (by decide));replace hg := Later.mk hg
    (refine KN_wp rfl Tryz.func39 rfl rfl rfl ?_; show Wp _ _ _ _ (Tryz.f39.body.get rfl) _ _; simp only [Tryz.f39, Option.get_some])
    (repeat' (first | simp only [go_sem, *] | (refine sx ?_ ?_ <;> intro hc) | (refine sy (by omega) fun x hx => ?_ <;> have hm := List.mem_of_getElem? hx) | simp (disch := first | assumption | omega) only [wrap_id, le_max, le_maxI, slice_int]))
  · obtain rfl := hpost.bad h0;have h2 : Later (solErr p s = 2) := ⟨by
      rw [solErr] at h0 ⊢;split at h0
      · split at h0
        · exact absurd rfl h0
        · rename_i hh; simp [hh]
      · rfl⟩
    (refine KN_wp rfl Tryz.func39 rfl rfl rfl ?_; show Wp _ _ _ _ (Tryz.f39.body.get rfl) _ _; simp only [Tryz.f39, Option.get_some])
    (repeat' (first | simp only [go_sem, *, flawV] | (refine sx ?_ ?_ <;> intro hc) | (refine sy (by omega) fun x hx => ?_ <;> have hm := List.mem_of_getElem? hx) | simp (disch := first | assumption | omega) only [wrap_id, le_max, le_maxI, slice_int]))
    rw [h2.out]
end Go.Proofs
end
