/-
  Parts: SolS3 SolS4 SolP3 SolP4 SolP5 SolM2 SolM3 SolC2b SolC3 SolC4 SolS5 SolS6 SolS7 SolS9 SolS8 SolP6 SolS10 SolS11.
-/
import Derived.Test.YtbinfhpngacfgaaGreatCk10
set_option linter.all false
set_option linter.unusedSimpArgs false
set_option linter.unusedVariables false
section
namespace Go.Proofs
open Go Go.Abs
set_option maxRecDepth 100000
set_option maxHeartbeats 4000000
set_option linter.unusedSimpArgs false
set_option linter.unusedVariables false
def idxI (x : Int) : List Int → Int → Int
  | [], _ => -1
  | y :: l, i => if x = y then i else idxI x l (i + 1)
@[go_sem] theorem index_kl (l : List Int) (v : Int) (hl : l.length ≤ 1000000) : askN (KL Tryz.prog cfg) 220 [.d (.lst (l.map encInt)), .d (.int .i64 v)] [] = .ok (.ret (.d (.int .i64 (idxI v l 0))), []) := by
  (refine KN_wp rfl Tryz.func220 rfl rfl rfl ?_; show Wp _ _ _ _ (Tryz.f220.body.get rfl) _ _; simp only [Tryz.f220, Option.get_some])
  (repeat' (first | simp only [go_sem, *] | (refine sx ?_ ?_ <;> intro hc) | (refine sy (by omega) fun x hx => ?_ <;> have hm := List.mem_of_getElem? hx) | simp (disch := first | assumption | omega) only [wrap_id, le_max, le_maxI, slice_int]))
  refine rounds (S := fun i : Nat => ⟨[(0, .d (.lst (l.map encInt))), (1, .d (.int .i64 v)), (7, .d (.int .i64 l.length)), (8, .d (.int .i64 i))], [], 0, []⟩) (Inv := fun i => i ≤ l.length ∧ Later (idxI v l 0 = idxI v (l.drop i) i)) (m := fun i => l.length - i) (a := 0) ⟨by simp, ⟨by simp⟩⟩ ?_;rintro i ⟨k1, k2⟩ IH
  (repeat' (first | simp only [go_sem, *] | (refine sx ?_ ?_ <;> intro hc) | (refine sy (by omega) fun x hx => ?_ <;> have hm := List.mem_of_getElem? hx) | simp (disch := first | assumption | omega) only [wrap_id, le_max, le_maxI, slice_int]))
  · subst hc;rw [k2.out, drop_cons hx, idxI, if_pos rfl]
  · refine IH.out (i + 1) (by omega) ⟨by omega, ⟨?_⟩⟩;rw [k2.out, drop_cons hx, idxI, if_neg (by assumption)];rfl
  · rw [k2.out, List.drop_eq_nil_of_le (by omega), idxI]
theorem idxI_mem (v : Int) : ∀ (l : List Int) (i : Int), 0 ≤ i → (0 ≤ idxI v l i ↔ v ∈ l)
  | [], i, h => by simp [idxI]
  | y :: l, i, h => by
    rw [idxI];split
    · rename_i e; simp [e, h]
    · rename_i e; rw [idxI_mem v l (i + 1) (by omega)]; simp [e]
@[go_sem] theorem contains_kl (l : List Int) (v : Int) (hl : l.length ≤ 1000000) : askN (KL Tryz.prog cfg) 219 [.d (.lst (l.map encInt)), .d (.int .i64 v)] [] = .ok (.ret (.d (.bool (decide (v ∈ l)))), []) := by
  have h := idxI_mem v l 0 (by omega)
  (refine KN_wp rfl Tryz.func219 rfl rfl rfl ?_; show Wp _ _ _ _ (Tryz.f219.body.get rfl) _ _; simp only [Tryz.f219, Option.get_some])
  (repeat' (first | simp only [go_sem, *] | (refine sx ?_ ?_ <;> intro hc) | (refine sy (by omega) fun x hx => ?_ <;> have hm := List.mem_of_getElem? hx) | simp (disch := first | assumption | omega) only [wrap_id, le_max, le_maxI, slice_int]))
theorem place_kl (d : Def) (n : Int) (h : Heap) (π : List Nat) (id : Abs.Id) (hg : h.get id = some (.box [.d (.lst (d.chans.map encChan)), .d (.lst (d.spots.map encDSpot)), .d (.lst (d.rules.map encRule))])) :
    ∃ o h', KL Tryz.prog cfg (.fn 218) [.d (.int .i64 n), .ptr id 0] h π true none = .ok (o, h') ∧ h' = h ∧ o = if 0 ≤ n ∧ n ≤ d.spots.length then .ret (.tup []) else .pan flawS := by
  (refine KL_post rfl Tryz.func218 rfl rfl rfl ?_; show Wp _ _ _ _ (Tryz.f218.body.get rfl) _ _; simp only [Tryz.f218, Option.get_some])
  (repeat' (first | simp only [go_sem, *] | (refine sx ?_ ?_ <;> intro hc) | (refine sy (by omega) fun x hx => ?_ <;> have hm := List.mem_of_getElem? hx) | simp (disch := first | assumption | omega) only [wrap_id, le_max, le_maxI, slice_int]))
  all_goals simp
def chanOk (d : Def) (c : Chan) : Bool := decide (0 ≤ c.at_ ∧ c.at_ ≤ d.spots.length) && (decide (0 ≤ c.many) && decide (c.many ≤ 3))
def spotsOk : Nat → List DSpot → Bool
  | _, [] => true
  | i, s :: l => decide (0 ≤ s.in_) && (decide (s.in_ ≤ i) && spotsOk (i + 1) l)
def joinOk (d : Def) (r : Rule) (i : Nat) (c : Int) : Bool := decide (0 ≤ c) && (decide (c < d.chans.length) && (decide (((d.chans[c.toNat]?).map Chan.at_).getD 0 = r.at_) && !decide (c ∈ r.joins.take i)))
def joinsOk (d : Def) (r : Rule) : Nat → List Int → Bool
  | _, [] => true
  | i, c :: l => joinOk d r i c && joinsOk d r (i + 1) l
def ruleOk (d : Def) (r : Rule) : Bool := decide (0 ≤ r.at_ ∧ r.at_ ≤ d.spots.length) && (decide (0 < r.joins.length) && (decide (r.joins.length ≤ 3) && joinsOk d r 0 r.joins))
def insI (l : List Int) (c : Int) : List Int := if c ∈ l then l else l ++ [c]
def standM (l : List Int) : List (Dat × AV) := l.map fun c => (.int .i64 c, .d (.bool true))
def standsR (l : List Int) (rs : List Rule) : List Int := rs.foldl (fun l r => r.joins.foldl insI l) l
def Def.okG (d : Def) : Bool := decide (d.chans.length ≤ 30) && (decide (d.spots.length ≤ 30) && (decide (d.rules.length ≤ 30) && (d.chans.all (chanOk d) && (spotsOk 0 d.spots && (d.rules.all (ruleOk d) && decide ((standsR [] d.rules).length = d.chans.length))))))
def wantO (v : AV) (t : Bool) : COut × Heap := if t = true then (.ret (.tup []), []) else (.pan v, [])
theorem wantO_true (v : AV) : wantO v true = (.ret (.tup []), []) := rfl
theorem wantO_false (v : AV) : wantO v false = (.pan v, []) := rfl
theorem wantR_eq (v : AV) (t : Bool) : wantR v t = .ok (wantO v t) := by cases t <;> rfl
theorem standM_get (st : List Int) (c : Int) : mapGet (standM st) (.int .i64 c) = some (if c ∈ st then some (.d (.bool true)) else none) := by
  induction st with
  | nil => rfl
  | cons a st ih =>
    show mapGet ((.int .i64 a, .d (.bool true)) :: standM st) _ = _;rw [mapGet, datEq];simp only [if_true];by_cases h : a = c
    · subst h; simp
    · have h1 : (a == c) = false := by simpa using h
      have h2 : ¬ c = a := fun e => h e.symm;rw [h1, ih];simp [h2]
theorem standM_set (st : List Int) (c : Int) : mapSet (standM st) (.int .i64 c) (.d (.bool true)) = standM (insI st c) := by
  induction st with
  | nil => rfl
  | cons a st ih =>
    show mapSet ((.int .i64 a, .d (.bool true)) :: standM st) _ _ = _;rw [mapSet, datEq];simp only [if_true];by_cases h : a = c
    · subst h; simp [insI, standM]
    · have h1 : (a == c) = false := by simpa using h
      have h2 : ¬ c = a := fun e => h e.symm;rw [h1];simp only;rw [ih];simp only [insI, List.mem_cons, h2, false_or];split <;> rfl
theorem ins_int {id : Abs.Id} {st : List Int} {c : Int} {h : Heap} (hg : h.get id = some (.map (standM st))) : mapPut cfg.T h.get (cfg.T 315) (.mp id) (.d (.int .i64 c)) (.d (.bool true)) = some ⟨.undef, [(id, .map (standM (insI st c)))]⟩ := by
  unfold mapPut;simp only [T315, datOf, T3, keyOk, AV.isCell, Bool.and_self, hg, standM_get, standM_set]
@[go_sem] theorem standM_ids (st : List Int) : (standM st).flatMap (fun p => idsOf p.2) = [] := by
  induction st with
  | nil => rfl
  | cons a st ih => exact ih
@[go_sem] theorem standM_ren (ν : Abs.Id → Option Abs.Id) (st : List Int) : (standM st).map (fun p => (p.1, ren ν p.2)) = standM st := by
  induction st with
  | nil => rfl
  | cons a st ih => exact congrArg (List.cons _) ih
theorem okG_ch {d : Def} (h : d.chans.all (chanOk d) = false) : d.okG = false := by simp only [Def.okG, h, Bool.false_and, Bool.and_false]
theorem okG_sp {d : Def} (h : spotsOk 0 d.spots = false) : d.okG = false := by simp only [Def.okG, h, Bool.false_and, Bool.and_false]
theorem okG_ru {d : Def} (h : d.rules.all (ruleOk d) = false) : d.okG = false := by simp only [Def.okG, h, Bool.false_and, Bool.and_false]
theorem okG_st {d : Def} (h : ¬ (standsR [] d.rules).length = d.chans.length) : d.okG = false := by simp only [Def.okG, decide_eq_false h, Bool.and_false]
theorem def_kl (d : Def) : askN (KL Tryz.prog cfg) 213 [.agg [.d (.lst (d.chans.map encChan)), .d (.lst (d.spots.map encDSpot)), .d (.lst (d.rules.map encRule))]] [] = .ok (wantO flawS d.okG) := by
  (refine KN_wp rfl Tryz.func213 rfl rfl rfl ?_; show Wp _ _ _ _ (Tryz.f213.body.get rfl) _ _; simp only [Tryz.f213, Option.get_some])
  (repeat' (first | simp only [go_sem, *] | (refine sx ?_ ?_ <;> intro hc) | (refine sy (by omega) fun x hx => ?_ <;> have hm := List.mem_of_getElem? hx) | simp (disch := first | assumption | omega) only [wrap_id, le_max, le_maxI, slice_int]))
  all_goals try (rw [show d.okG = false by simp [Def.okG]; omega, wantO_false])
  have c1 : d.chans.length ≤ 30 := by omega
  have c2 : d.spots.length ≤ 30 := by omega
  have c3 : d.rules.length ≤ 30 := by omega
  refine rounds (S := fun i : Nat => ⟨[(1, .ptr [0, 0] 0), (2, .fn 218 [] [.ptr [0, 0] 0]), (31, .d (.lst (d.chans.map encChan))), (32, .d (.int .i64 d.chans.length)), (33, .d (.int .i64 i))], [([0, 0], .box [.d (.lst (d.chans.map encChan)), .d (.lst (d.spots.map encDSpot)), .d (.lst (d.rules.map encRule))])], 1, []⟩)
    (Inv := fun i => i ≤ d.chans.length ∧ Later (d.chans.all (chanOk d) = (d.chans.drop i).all (chanOk d))) (m := fun i => d.chans.length - i) (a := 0) ⟨by simp, ⟨by simp⟩⟩ ?_
  clear hc;rintro i ⟨k1, k2⟩ IH
  (repeat' (first | simp only [go_sem, *] | (refine sx ?_ ?_ <;> intro hc) | (refine sy (by omega) fun x hx => ?_ <;> have hm := List.mem_of_getElem? hx) | simp (disch := first | assumption | omega) only [wrap_id, le_max, le_maxI, slice_int]))
  · refine rawP_post (place_kl d x.at_ _ _ _ ?_) (fun o1 g1 p1 => ?_)
    · simp only [go_sem]
    obtain ⟨rfl, rfl⟩ := p1;by_cases kp : 0 ≤ x.at_ ∧ x.at_ ≤ d.spots.length
    · rw [if_pos kp]
      (repeat' (first | simp only [go_sem, *] | (refine sx ?_ ?_ <;> intro hc) | (refine sy (by omega) fun x hx => ?_ <;> have hm := List.mem_of_getElem? hx) | simp (disch := first | assumption | omega) only [wrap_id, le_max, le_maxI, slice_int]))
      · refine IH.out (i + 1) (by omega) ⟨by omega, ⟨?_⟩⟩;rw [k2.out, drop_cons hx, List.all_cons, show chanOk d x = true by simp [chanOk, *], Bool.true_and]
      · rw [okG_ch, wantO_false];rw [k2.out, drop_cons hx, List.all_cons, show chanOk d x = false by simp [chanOk, *], Bool.false_and]
      · rw [okG_ch, wantO_false];rw [k2.out, drop_cons hx, List.all_cons, show chanOk d x = false by simp [chanOk, *], Bool.false_and]
    · rw [if_neg kp]
      (repeat' (first | simp only [go_sem, *] | (refine sx ?_ ?_ <;> intro hc) | (refine sy (by omega) fun x hx => ?_ <;> have hm := List.mem_of_getElem? hx) | simp (disch := first | assumption | omega) only [wrap_id, le_max, le_maxI, slice_int]))
      rw [okG_ch, wantO_false];rw [k2.out, drop_cons hx, List.all_cons, show chanOk d x = false by simp only [chanOk, decide_eq_false kp, Bool.false_and], Bool.false_and]
  have hch : d.chans.all (chanOk d) = true := by rw [k2.out, List.drop_eq_nil_of_le (by omega)]; rfl
  clear hc k1 k2 IH i;refine rounds (S := fun i : Nat => ⟨[(1, .ptr [0, 0] 0), (2, .fn 218 [] [.ptr [0, 0] 0]), (52, .d (.lst (d.spots.map encDSpot))), (53, .d (.int .i64 d.spots.length)), (54, .d (.int .i64 i))], [([0, 0], .box [.d (.lst (d.chans.map encChan)), .d (.lst (d.spots.map encDSpot)), .d (.lst (d.rules.map encRule))])], 1, []⟩)
    (Inv := fun i => i ≤ d.spots.length ∧ Later (spotsOk 0 d.spots = spotsOk i (d.spots.drop i))) (m := fun i => d.spots.length - i) (a := 0) ⟨by simp, ⟨by simp⟩⟩ ?_
  rintro i ⟨k1, k2⟩ IH
  (repeat' (first | simp only [go_sem, *] | (refine sx ?_ ?_ <;> intro hc) | (refine sy (by omega) fun x hx => ?_ <;> have hm := List.mem_of_getElem? hx) | simp (disch := first | assumption | omega) only [wrap_id, le_max, le_maxI, slice_int]))
  · refine IH.out (i + 1) (by omega) ⟨by omega, ⟨?_⟩⟩;rw [k2.out, drop_cons hx, spotsOk]; simp [*]
  · rw [okG_sp, wantO_false];rw [k2.out, drop_cons hx, spotsOk]; simp [*]
  · rw [okG_sp, wantO_false];rw [k2.out, drop_cons hx, spotsOk]; simp [*]
  have hsp : spotsOk 0 d.spots = true := by rw [k2.out, List.drop_eq_nil_of_le (by omega)]; rfl
  clear hc k1 k2 IH i;refine rounds (S := fun a : Nat × List Int => ⟨[(1, .ptr [0, 0] 0), (2, .fn 218 [] [.ptr [0, 0] 0]), (7, .mp [1, 1]), (72, .d (.lst (d.rules.map encRule))), (73, .d (.int .i64 d.rules.length)), (74, .d (.int .i64 a.1))], [([0, 0], .box [.d (.lst (d.chans.map encChan)), .d (.lst (d.spots.map encDSpot)), .d (.lst (d.rules.map encRule))]), ([1, 1], .map (standM a.2))], 2, []⟩)
    (Inv := fun a => a.1 ≤ d.rules.length ∧ Later (d.rules.all (ruleOk d) = (d.rules.drop a.1).all (ruleOk d)) ∧ Later (standsR [] d.rules = standsR a.2 (d.rules.drop a.1))) (m := fun a => d.rules.length - a.1) (a := (0, [])) ⟨by simp, ⟨by simp⟩, ⟨by simp⟩⟩ ?_
  rintro ⟨i, st⟩ ⟨k1, k2, k3⟩ IH;dsimp only at *;by_cases hi : i < d.rules.length
  · obtain ⟨r, hx⟩ := get_some hi;have hi' : (i : Int) < d.rules.length := by omega
    (repeat' (first | simp only [go_sem, *] | (refine sx ?_ ?_ <;> intro hc) | (refine sy (by omega) fun x hx => ?_ <;> have hm := List.mem_of_getElem? hx) | simp (disch := first | assumption | omega) only [wrap_id, le_max, le_maxI, slice_int]))
    refine rawP_post (place_kl d r.at_ _ _ _ ?_) (fun o1 g1 p1 => ?_)
    · simp only [go_sem]
    obtain ⟨rfl, rfl⟩ := p1;by_cases kp : 0 ≤ r.at_ ∧ r.at_ ≤ d.spots.length
    · rw [if_pos kp]
      (repeat' (first | simp only [go_sem, *] | (refine sx ?_ ?_ <;> intro hc) | (refine sy (by omega) fun x hx => ?_ <;> have hm := List.mem_of_getElem? hx) | simp (disch := first | assumption | omega) only [wrap_id, le_max, le_maxI, slice_int]))
      ·
        refine rounds (S := fun a : Nat × List Int => ⟨[(1, .ptr [0, 0] 0), (2, .fn 218 [] [.ptr [0, 0] 0]), (7, .mp [1, 1]), (9, .ptr [0, 2] 0), (72, .d (.lst (d.rules.map encRule))), (73, .d (.int .i64 d.rules.length)), (74, .d (.int .i64 i)), (94, .d (.lst (r.joins.map encInt))), (95, .d (.int .i64 r.joins.length)), (96, .d (.int .i64 a.1))], [([0, 0], .box [.d (.lst (d.chans.map encChan)), .d (.lst (d.spots.map encDSpot)), .d (.lst (d.rules.map encRule))]), ([1, 1], .map (standM a.2)), ([0, 2], .box [.d (.int .i64 r.at_), .d (.lst (r.joins.map encInt)), .d (.int .i64 r.node)])], 3, []⟩)
          (Inv := fun a => a.1 ≤ r.joins.length ∧ Later (joinsOk d r 0 r.joins = joinsOk d r a.1 (r.joins.drop a.1)) ∧ Later (standsR [] d.rules = standsR ((r.joins.drop a.1).foldl insI a.2) (d.rules.drop (i + 1)))) (m := fun a => r.joins.length - a.1) (a := (0, st)) ⟨by simp, ⟨by simp⟩, ⟨by rw [k3.out, drop_cons hx]; rfl⟩⟩ ?_
        rintro ⟨k, st2⟩ ⟨j1, j2, j3⟩ IH2;dsimp only at *;by_cases hk : k < r.joins.length
        · obtain ⟨c, hy⟩ := get_some hk;have hk' : (k : Int) < r.joins.length := by omega
          have hlt : (r.joins.take k).length ≤ 1000000 := by simp; omega
          have hbad : Later (joinOk d r k c = false → (COut.pan flawS, ([] : Heap)) = wantO flawS d.okG) := .mk fun hb => by
            have hj : joinsOk d r 0 r.joins = false := by rw [j2.out, drop_cons hy, joinsOk, hb, Bool.false_and]
            rw [okG_ru, wantO_false];rw [k2.out, drop_cons hx, List.all_cons, show ruleOk d r = false by simp only [ruleOk, hj, Bool.and_false], Bool.false_and]
          by_cases hc0 : 0 ≤ c
          · by_cases hc1 : c < d.chans.length
            · obtain ⟨y, hyc⟩ := get_some (l := d.chans) (i := c.toNat) (by omega);have hjo : joinOk d r k c = (decide (y.at_ = r.at_) && !decide (c ∈ r.joins.take k)) := by
                simp only [joinOk, hyc, Option.map_some, Option.getD_some, decide_eq_true hc0, decide_eq_true hc1, Bool.true_and]
              (repeat' (first | simp only [go_sem, *] | (refine sx ?_ ?_ <;> intro hc) | (refine sy (by omega) fun x hx => ?_ <;> have hm := List.mem_of_getElem? hx) | simp (disch := first | assumption | omega) only [wrap_id, le_max, le_maxI, slice_int, contains_kl]))
              · rw [← T315, ins_int (st := st2) (by simp only [go_sem])]
                (repeat' (first | simp only [go_sem, *] | (refine sx ?_ ?_ <;> intro hc) | (refine sy (by omega) fun x hx => ?_ <;> have hm := List.mem_of_getElem? hx) | simp (disch := first | assumption | omega) only [wrap_id, le_max, le_maxI, slice_int]))
                refine IH2.out (k + 1, insI st2 c) (by dsimp only; omega) ⟨by dsimp only; omega, ⟨?_⟩, ⟨?_⟩⟩
                · dsimp only;rw [j2.out, drop_cons hy, joinsOk, hjo];simp only [*, decide_true, decide_false, Bool.not_true, Bool.not_false, Bool.true_and, Bool.false_and]
                · dsimp only;rw [j3.out, drop_cons hy, List.foldl_cons]
              · exact hbad.out (by rw [hjo]; simp only [*, decide_true, decide_false, Bool.not_true, Bool.not_false, Bool.true_and, Bool.false_and])
              · exact hbad.out (by rw [hjo, decide_eq_false (by assumption), Bool.false_and])
            · (repeat' (first | simp only [go_sem, *] | (refine sx ?_ ?_ <;> intro hc) | (refine sy (by omega) fun x hx => ?_ <;> have hm := List.mem_of_getElem? hx) | simp (disch := first | assumption | omega) only [wrap_id, le_max, le_maxI, slice_int]))
              exact hbad.out (by simp only [joinOk, decide_eq_false hc1, Bool.false_and, Bool.and_false])
          · (repeat' (first | simp only [go_sem, *] | (refine sx ?_ ?_ <;> intro hc) | (refine sy (by omega) fun x hx => ?_ <;> have hm := List.mem_of_getElem? hx) | simp (disch := first | assumption | omega) only [wrap_id, le_max, le_maxI, slice_int]))
            exact hbad.out (by simp only [joinOk, decide_eq_false hc0, Bool.false_and])
        · have hk' : ¬ (k : Int) < r.joins.length := by omega
          (repeat' (first | simp only [go_sem, *] | (refine sx ?_ ?_ <;> intro hc) | (refine sy (by omega) fun x hx => ?_ <;> have hm := List.mem_of_getElem? hx) | simp (disch := first | assumption | omega) only [wrap_id, le_max, le_maxI, slice_int]))
          refine IH.out (i + 1, st2) (by dsimp only; omega) ⟨by dsimp only; omega, ⟨?_⟩, ⟨?_⟩⟩
          · dsimp only;rw [k2.out, drop_cons hx, List.all_cons, show ruleOk d r = true by
              rw [List.drop_eq_nil_of_le (by omega)] at j2;simp only [ruleOk, decide_eq_true kp, j2.out, joinsOk];simp; omega, Bool.true_and]
          · dsimp only;rw [j3.out, List.drop_eq_nil_of_le (by omega)];rfl
      · rw [okG_ru, wantO_false];rw [k2.out, drop_cons hx, List.all_cons, show ruleOk d r = false by simp [ruleOk]; omega, Bool.false_and]
      · rw [okG_ru, wantO_false];rw [k2.out, drop_cons hx, List.all_cons, show ruleOk d r = false by simp [ruleOk]; omega, Bool.false_and]
    · rw [if_neg kp]
      (repeat' (first | simp only [go_sem, *] | (refine sx ?_ ?_ <;> intro hc) | (refine sy (by omega) fun x hx => ?_ <;> have hm := List.mem_of_getElem? hx) | simp (disch := first | assumption | omega) only [wrap_id, le_max, le_maxI, slice_int]))
      rw [okG_ru, wantO_false];rw [k2.out, drop_cons hx, List.all_cons, show ruleOk d r = false by simp only [ruleOk, decide_eq_false kp, Bool.false_and], Bool.false_and]
  · have hi' : ¬ (i : Int) < d.rules.length := by omega
    have hru : d.rules.all (ruleOk d) = true := by rw [k2.out, List.drop_eq_nil_of_le (by omega)]; rfl
    have hst : (standsR [] d.rules).length = (standM st).length := by
      rw [k3.out, List.drop_eq_nil_of_le (by omega)];simp [standsR, standM]
    (repeat' (first | simp only [go_sem, *] | (refine sx ?_ ?_ <;> intro hc) | (refine sy (by omega) fun x hx => ?_ <;> have hm := List.mem_of_getElem? hx) | simp (disch := first | assumption | omega) only [wrap_id, le_max, le_maxI, slice_int]))
    · rw [show d.okG = true by
        simp only [Def.okG, hch, hsp, hru, decide_eq_true c1, decide_eq_true c2, decide_eq_true c3, Bool.true_and, decide_eq_true_eq];omega, wantO_true]
    · rw [okG_st (by omega), wantO_false]
end Go.Proofs
end
section
namespace Go.Proofs
open Go Go.Abs
set_option maxRecDepth 100000
set_option maxHeartbeats 4000000
set_option linter.unusedSimpArgs false
set_option linter.unusedVariables false
def encBool (t : Bool) : List Dat := [.bool t]
attribute [go_sem] encBool
def useI (u : List Bool) (c : Int) : List Bool := u.set c.toNat true
def usedR (u : List Bool) (rs : List Rule) : List Bool := rs.foldl (fun u r => r.joins.foldl useI u) u
def Def.okR (d : Def) : Bool := decide (d.chans.length ≤ 30) && (decide (d.spots.length ≤ 30) && (decide (d.rules.length ≤ 30) && (d.chans.all (chanOk d) && (spotsOk 0 d.spots && (d.rules.all (ruleOk d) && (usedR (List.replicate d.chans.length false) d.rules).all id)))))
theorem okR_ch {d : Def} (h : d.chans.all (chanOk d) = false) : d.okR = false := by simp only [Def.okR, h, Bool.false_and, Bool.and_false]
theorem okR_sp {d : Def} (h : spotsOk 0 d.spots = false) : d.okR = false := by simp only [Def.okR, h, Bool.false_and, Bool.and_false]
theorem okR_ru {d : Def} (h : d.rules.all (ruleOk d) = false) : d.okR = false := by simp only [Def.okR, h, Bool.false_and, Bool.and_false]
theorem okR_us {d : Def} (h : (usedR (List.replicate d.chans.length false) d.rules).all id = false) : d.okR = false := by simp only [Def.okR, h, Bool.and_false]
theorem defR_kl (d : Def) : askN (KL Tryz.prog cfg) 128 [.agg [.d (.lst (d.chans.map encChan)), .d (.lst (d.spots.map encDSpot)), .d (.lst (d.rules.map encRule))]] [] = .ok (.ret (.d (.bool d.okR)), []) := by
  (refine KN_wp rfl Tryz.func128 rfl rfl rfl ?_; show Wp _ _ _ _ (Tryz.f128.body.get rfl) _ _; simp only [Tryz.f128, Option.get_some])
  (repeat' (first | simp only [go_sem, *] | (refine sx ?_ ?_ <;> intro hc) | (refine sy (by omega) fun x hx => ?_ <;> have hm := List.mem_of_getElem? hx) | simp (disch := first | assumption | omega) only [wrap_id, le_max, le_maxI, slice_int]))
  all_goals try (rw [show d.okR = false by simp [Def.okR]; omega])
  have c1 : d.chans.length ≤ 30 := by omega
  have c2 : d.spots.length ≤ 30 := by omega
  have c3 : d.rules.length ≤ 30 := by omega
  refine rounds (S := fun i : Nat => ⟨[(1, .ptr [0, 0] 0), (3, .d (.int .i64 i))], [([0, 0], .box [.d (.lst (d.chans.map encChan)), .d (.lst (d.spots.map encDSpot)), .d (.lst (d.rules.map encRule))])], 1, []⟩)
    (Inv := fun i => i ≤ d.chans.length ∧ Later (d.chans.all (chanOk d) = (d.chans.drop i).all (chanOk d))) (m := fun i => d.chans.length - i) (a := 0) ⟨by simp, ⟨by simp⟩⟩ ?_
  clear hc;rintro i ⟨k1, k2⟩ IH
  (repeat' (first | simp only [go_sem, *] | (refine sx ?_ ?_ <;> intro hc) | (refine sy (by omega) fun x hx => ?_ <;> have hm := List.mem_of_getElem? hx) | simp (disch := first | assumption | omega) only [wrap_id, le_max, le_maxI, slice_int]))
  · rw [okR_ch];rw [k2.out, drop_cons hx, List.all_cons, show chanOk d x = false by simp [chanOk]; omega, Bool.false_and]
  · rw [okR_ch];rw [k2.out, drop_cons hx, List.all_cons, show chanOk d x = false by simp [chanOk]; omega, Bool.false_and]
  · rw [okR_ch];rw [k2.out, drop_cons hx, List.all_cons, show chanOk d x = false by simp [chanOk]; omega, Bool.false_and]
  · rw [okR_ch];rw [k2.out, drop_cons hx, List.all_cons, show chanOk d x = false by simp [chanOk]; omega, Bool.false_and]
  · refine IH.out (i + 1) (by omega) ⟨by omega, ⟨?_⟩⟩;rw [k2.out, drop_cons hx, List.all_cons, show chanOk d x = true by simp [chanOk]; omega, Bool.true_and]
  have hch : d.chans.all (chanOk d) = true := by rw [k2.out, List.drop_eq_nil_of_le (by omega)]; rfl
  clear hc k1 k2 IH i;refine rounds (S := fun i : Nat => ⟨[(1, .ptr [0, 0] 0), (4, .d (.int .i64 i))], [([0, 0], .box [.d (.lst (d.chans.map encChan)), .d (.lst (d.spots.map encDSpot)), .d (.lst (d.rules.map encRule))])], 1, []⟩)
    (Inv := fun i => i ≤ d.spots.length ∧ Later (spotsOk 0 d.spots = spotsOk i (d.spots.drop i))) (m := fun i => d.spots.length - i) (a := 0) ⟨by simp, ⟨by simp⟩⟩ ?_
  rintro i ⟨k1, k2⟩ IH
  (repeat' (first | simp only [go_sem, *] | (refine sx ?_ ?_ <;> intro hc) | (refine sy (by omega) fun x hx => ?_ <;> have hm := List.mem_of_getElem? hx) | simp (disch := first | assumption | omega) only [wrap_id, le_max, le_maxI, slice_int]))
  · rw [okR_sp];rw [k2.out, drop_cons hx, spotsOk]; simp; omega
  · rw [okR_sp];rw [k2.out, drop_cons hx, spotsOk]; simp; omega
  · refine IH.out (i + 1) (by omega) ⟨by omega, ⟨?_⟩⟩;rw [k2.out, drop_cons hx, spotsOk, decide_eq_true (by omega), decide_eq_true (by omega), Bool.true_and, Bool.true_and]
  have hsp : spotsOk 0 d.spots = true := by rw [k2.out, List.drop_eq_nil_of_le (by omega)]; rfl
  by_cases hz : d.chans = []
  · rw [hz];clear hc k1 k2 IH
    (repeat' (first | simp only [go_sem, *] | (refine sx ?_ ?_ <;> intro hc) | (refine sy (by omega) fun x hx => ?_ <;> have hm := List.mem_of_getElem? hx) | simp (disch := first | assumption | omega) only [wrap_id, le_max, le_maxI, slice_int]))
    rw [WpL_run];have hcl : d.chans.length = 0 := by rw [hz]; rfl
    rcases hr : d.rules with _ | ⟨r, rs⟩
    · (repeat' (first | simp only [go_sem, *] | (refine sx ?_ ?_ <;> intro hc) | (refine sy (by omega) fun x hx => ?_ <;> have hm := List.mem_of_getElem? hx) | simp (disch := first | assumption | omega) only [wrap_id, le_max, le_maxI, slice_int]))
      rw [WpL_run]
      (repeat' (first | simp only [go_sem, *] | (refine sx ?_ ?_ <;> intro hc) | (refine sy (by omega) fun x hx => ?_ <;> have hm := List.mem_of_getElem? hx) | simp (disch := first | assumption | omega) only [wrap_id, le_max, le_maxI, slice_int]))
      rw [show d.okR = true by
        simp only [Def.okR, hch, hsp, hr, hz, usedR]; simp; exact c2]
    · have hno : Later (ruleOk d r = false → false = d.okR) := .mk fun h => by
        rw [okR_ru];rw [hr, List.all_cons, h, Bool.false_and]
      clear hch;rcases hj : r.joins with _ | ⟨c, cs⟩
      · (repeat' (first | simp only [go_sem, *] | (refine sx ?_ ?_ <;> intro hc) | (refine sy (by omega) fun x hx => ?_ <;> have hm := List.mem_of_getElem? hx) | simp (disch := first | assumption | omega) only [wrap_id, le_max, le_maxI, slice_int]))
        all_goals first | (rw [← hno.out (by simp [ruleOk, hj])]; done) | (exfalso; omega)
      · have hno := Later.mk (hno.out (by
          have : joinsOk d r 0 r.joins = false := by
            rw [hj, joinsOk, joinOk, hcl];by_cases h0 : 0 ≤ c
            · rw [decide_eq_false (p := c < ((0 : Nat) : Int)) (by omega)]; simp
            · rw [decide_eq_false h0]; simp
          simp only [ruleOk, this, Bool.and_false]))
        (repeat' (first | simp only [go_sem, *] | (refine sx ?_ ?_ <;> intro hc) | (refine sy (by omega) fun x hx => ?_ <;> have hm := List.mem_of_getElem? hx) | simp (disch := first | assumption | omega) only [wrap_id, le_max, le_maxI, slice_int]))
        all_goals try first | (rw [← hno.out]; done) | (exfalso; omega)
        rw [WpL_run]
        (repeat' (first | simp only [go_sem, *] | (refine sx ?_ ?_ <;> intro hc) | (refine sy (by omega) fun x hx => ?_ <;> have hm := List.mem_of_getElem? hx) | simp (disch := first | assumption | omega) only [wrap_id, le_max, le_maxI, slice_int]))
        all_goals first | (rw [← hno.out]; done) | (exfalso; omega)
  have hpos : 0 < d.chans.length := List.length_pos_iff.2 hz;rw [make_flat (zs := [.bool false]) hpos (by unfold maxList; omega) rfl rfl (by decide) rfl];clear hc k1 k2 IH
  (repeat' (first | simp only [go_sem, *] | (refine sx ?_ ?_ <;> intro hc) | (refine sy (by omega) fun x hx => ?_ <;> have hm := List.mem_of_getElem? hx) | simp (disch := first | assumption | omega) only [wrap_id, le_max, le_maxI, slice_int]))
  have hrep : (List.replicate d.chans.length [Dat.bool false]) = (List.replicate d.chans.length false).map encBool := by rw [List.map_replicate]; rfl
  rw [hrep];have hul : (List.replicate d.chans.length false).length = d.chans.length := List.length_replicate;refine rounds (S := fun a : Nat × List Bool => ⟨[(1, .ptr [0, 0] 0), (5, .osl [1, 1] 0 d.chans.length), (6, .d (.int .i64 a.1))], [([0, 0], .box [.d (.lst (d.chans.map encChan)), .d (.lst (d.spots.map encDSpot)), .d (.lst (d.rules.map encRule))]), ([1, 1], .darr 1 (a.2.map encBool))], 2, []⟩)
    (Inv := fun a => a.1 ≤ d.rules.length ∧ a.2.length = d.chans.length ∧ Later (d.rules.all (ruleOk d) = (d.rules.drop a.1).all (ruleOk d)) ∧ Later (usedR (List.replicate d.chans.length false) d.rules = usedR a.2 (d.rules.drop a.1))) (m := fun a => d.rules.length - a.1) (a := (0, List.replicate d.chans.length false)) ⟨by simp, hul, ⟨by simp⟩, ⟨by simp⟩⟩ ?_
  clear hrep hul;rintro ⟨i, u⟩ ⟨k1, k0, k2, k3⟩ IH;dsimp only at *;by_cases hi : i < d.rules.length
  · obtain ⟨r, hx⟩ := get_some hi;have hi' : (i : Int) < d.rules.length := by omega
    (repeat' (first | simp only [go_sem, *] | (refine sx ?_ ?_ <;> intro hc) | (refine sy (by omega) fun x hx => ?_ <;> have hm := List.mem_of_getElem? hx) | simp (disch := first | assumption | omega) only [wrap_id, le_max, le_maxI, slice_int]))
    · rw [okR_ru];rw [k2.out, drop_cons hx, List.all_cons, show ruleOk d r = false by simp [ruleOk]; omega, Bool.false_and]
    · rw [okR_ru];rw [k2.out, drop_cons hx, List.all_cons, show ruleOk d r = false by simp [ruleOk]; omega, Bool.false_and]
    · rw [okR_ru];rw [k2.out, drop_cons hx, List.all_cons, show ruleOk d r = false by simp [ruleOk]; omega, Bool.false_and]
    · rw [okR_ru];rw [k2.out, drop_cons hx, List.all_cons, show ruleOk d r = false by simp [ruleOk]; omega, Bool.false_and]
    refine rounds (S := fun a : Nat × List Bool => ⟨[(1, .ptr [0, 0] 0), (5, .osl [1, 1] 0 d.chans.length), (6, .d (.int .i64 i)), (7, .ptr [0, 2] 0), (8, .d (.int .i64 a.1))], [([0, 0], .box [.d (.lst (d.chans.map encChan)), .d (.lst (d.spots.map encDSpot)), .d (.lst (d.rules.map encRule))]), ([1, 1], .darr 1 (a.2.map encBool)), ([0, 2], .box [.d (.int .i64 r.at_), .d (.lst (r.joins.map encInt)), .d (.int .i64 r.node)])], 3, []⟩)
      (Inv := fun a => a.1 ≤ r.joins.length ∧ a.2.length = d.chans.length ∧ Later (joinsOk d r 0 r.joins = joinsOk d r a.1 (r.joins.drop a.1)) ∧ Later (usedR (List.replicate d.chans.length false) d.rules = usedR ((r.joins.drop a.1).foldl useI a.2) (d.rules.drop (i + 1)))) (m := fun a => r.joins.length - a.1) (a := (0, u)) ⟨by simp, k0, ⟨by simp⟩, ⟨by rw [k3.out, drop_cons hx]; rfl⟩⟩ ?_
    rintro ⟨k, u2⟩ ⟨j1, j0, j2, j3⟩ IH2;dsimp only at *;by_cases hk : k < r.joins.length
    · obtain ⟨c, hy⟩ := get_some hk;have hk' : (k : Int) < r.joins.length := by omega
      have hbad : Later (joinOk d r k c = false → false = d.okR) := .mk fun hb => by
        have hj : joinsOk d r 0 r.joins = false := by rw [j2.out, drop_cons hy, joinsOk, hb, Bool.false_and]
        rw [okR_ru];rw [k2.out, drop_cons hx, List.all_cons, show ruleOk d r = false by simp only [ruleOk, hj, Bool.and_false], Bool.false_and]
      by_cases hc0 : c < 0
      · (repeat' (first | simp only [go_sem, *] | (refine sx ?_ ?_ <;> intro hc) | (refine sy (by omega) fun x hx => ?_ <;> have hm := List.mem_of_getElem? hx) | simp (disch := first | assumption | omega) only [wrap_id, le_max, le_maxI, slice_int]))
        rw [← hbad.out (by simp only [joinOk, decide_eq_false (show ¬ 0 ≤ c by omega), Bool.false_and])]
      by_cases hc1 : (d.chans.length : Int) ≤ c
      · (repeat' (first | simp only [go_sem, *] | (refine sx ?_ ?_ <;> intro hc) | (refine sy (by omega) fun x hx => ?_ <;> have hm := List.mem_of_getElem? hx) | simp (disch := first | assumption | omega) only [wrap_id, le_max, le_maxI, slice_int]))
        rw [← hbad.out (by simp only [joinOk, decide_eq_false (show ¬ c < d.chans.length by omega), Bool.false_and, Bool.and_false])]
      obtain ⟨y, hyc⟩ := get_some (l := d.chans) (i := c.toNat) (by omega);have hjo : joinOk d r k c = (decide (y.at_ = r.at_) && !decide (c ∈ r.joins.take k)) := by
        simp only [joinOk, hyc, Option.map_some, Option.getD_some, decide_eq_true (show 0 ≤ c by omega), decide_eq_true (show c < d.chans.length by omega), Bool.true_and]
      have hc2 : 0 ≤ c := by omega
      (repeat' (first | simp only [go_sem, *] | (refine sx ?_ ?_ <;> intro hc) | (refine sy (by omega) fun x hx => ?_ <;> have hm := List.mem_of_getElem? hx) | simp (disch := first | assumption | omega) only [wrap_id, le_max, le_maxI, slice_int]))
      · refine rounds (S := fun m : Nat => ⟨[(1, .ptr [0, 0] 0), (5, .osl [1, 1] 0 d.chans.length), (6, .d (.int .i64 i)), (7, .ptr [0, 2] 0), (8, .d (.int .i64 k)), (9, .d (.int .i64 c)), (10, .d (.int .i64 m))], [([0, 0], .box [.d (.lst (d.chans.map encChan)), .d (.lst (d.spots.map encDSpot)), .d (.lst (d.rules.map encRule))]), ([1, 1], .darr 1 (u2.map encBool)), ([0, 2], .box [.d (.int .i64 r.at_), .d (.lst (r.joins.map encInt)), .d (.int .i64 r.node)])], 3, []⟩)
          (Inv := fun m => m ≤ k ∧ Later (c ∉ r.joins.take m)) (m := fun m => k - m) (a := 0) ⟨by simp, ⟨by simp⟩⟩ ?_
        rintro m ⟨m1, m2⟩ IH3;by_cases hm : m < k
        · obtain ⟨v, hv⟩ := get_some (l := r.joins) (i := m) (by omega);have hm' : (m : Int) < k := by omega
          have htk : r.joins.take (m + 1) = r.joins.take m ++ [v] := by rw [List.take_add_one, hv]; rfl
          (repeat' (first | simp only [go_sem, *] | (refine sx ?_ ?_ <;> intro hc) | (refine sy (by omega) fun x hx => ?_ <;> have hm := List.mem_of_getElem? hx) | simp (disch := first | assumption | omega) only [wrap_id, le_max, le_maxI, slice_int]))
          · have : c ∈ r.joins.take k := by
              rw [← hc];have : (r.joins.take k)[m]? = some v := by rw [List.getElem?_take_of_lt hm, hv]
              exact List.mem_of_getElem? this
            rw [← hbad.out (by rw [hjo, decide_eq_true this]; simp)]
          · refine IH3.out (m + 1) (by omega) ⟨by omega, ⟨?_⟩⟩;rw [htk];simp only [List.mem_append, List.mem_singleton, not_or];exact ⟨m2.out, fun h => by simp_all⟩
        · have hm' : ¬ (m : Int) < k := by omega
          have hcl : c.toNat < d.chans.length := by omega
          obtain ⟨t, ht⟩ := get_some (l := u2) (i := c.toNat) (by omega);have hmk : m = k := by omega
          subst hmk
          (repeat' (first | simp only [go_sem, *] | (refine sx ?_ ?_ <;> intro hc) | (refine sy (by omega) fun x hx => ?_ <;> have hm := List.mem_of_getElem? hx) | simp (disch := first | assumption | omega) only [wrap_id, le_max, le_maxI, slice_int]))
          have e : (u2.map encBool).set c.toNat [Dat.bool true] = (useI u2 c).map encBool := by rw [useI, List.map_set]; rfl
          rw [e];refine IH2.out (m + 1, useI u2 c) (by dsimp only; omega) ⟨by dsimp only; omega, by simp [useI, j0], ⟨?_⟩, ⟨?_⟩⟩
          · dsimp only;rw [j2.out, drop_cons hy, joinsOk, hjo, decide_eq_true (by assumption), decide_eq_false m2.out];rfl
          · dsimp only;rw [j3.out, drop_cons hy, List.foldl_cons]
      · rw [← hbad.out (by rw [hjo, decide_eq_false (by assumption), Bool.false_and])]
    · have hk' : ¬ (k : Int) < r.joins.length := by omega
      (repeat' (first | simp only [go_sem, *] | (refine sx ?_ ?_ <;> intro hc) | (refine sy (by omega) fun x hx => ?_ <;> have hm := List.mem_of_getElem? hx) | simp (disch := first | assumption | omega) only [wrap_id, le_max, le_maxI, slice_int]))
      refine IH.out (i + 1, u2) (by dsimp only; omega) ⟨by dsimp only; omega, j0, ⟨?_⟩, ⟨?_⟩⟩
      · dsimp only;rw [k2.out, drop_cons hx, List.all_cons, show ruleOk d r = true by
          rw [List.drop_eq_nil_of_le (by omega)] at j2;simp only [ruleOk, j2.out, joinsOk];simp; omega, Bool.true_and]
      · dsimp only;rw [j3.out, List.drop_eq_nil_of_le (by omega)];rfl
  · have hi' : ¬ (i : Int) < d.rules.length := by omega
    (repeat' (first | simp only [go_sem, *] | (refine sx ?_ ?_ <;> intro hc) | (refine sy (by omega) fun x hx => ?_ <;> have hm := List.mem_of_getElem? hx) | simp (disch := first | assumption | omega) only [wrap_id, le_max, le_maxI, slice_int]))
    have hru : d.rules.all (ruleOk d) = true := by rw [k2.out, List.drop_eq_nil_of_le (by omega)]; rfl
    have hus : usedR (List.replicate d.chans.length false) d.rules = u := by rw [k3.out, List.drop_eq_nil_of_le (by omega)]; rfl
    refine rounds (S := fun i : Nat => ⟨[(5, .osl [1, 0] 0 d.chans.length), (11, .d (.int .i64 i))], [([1, 0], .darr 1 (u.map encBool))], 1, []⟩)
      (Inv := fun i => i ≤ d.chans.length ∧ Later (u.all id = (u.drop i).all id)) (m := fun i => d.chans.length - i) (a := 0) ⟨by simp, ⟨by simp⟩⟩ ?_
    clear k1 k2 k3 IH hi hi' i;rintro i ⟨k1, k2⟩ IH;have hus := Later.mk hus;by_cases hi : i < d.chans.length
    · obtain ⟨t, ht⟩ := get_some (l := u) (i := i) (by omega);have hi' : (i : Int) < d.chans.length := by omega
      cases t
      · (repeat' (first | simp only [go_sem, *] | (refine sx ?_ ?_ <;> intro hc) | (refine sy (by omega) fun x hx => ?_ <;> have hm := List.mem_of_getElem? hx) | simp (disch := first | assumption | omega) only [wrap_id, le_max, le_maxI, slice_int]))
        rw [okR_us (by rw [hus.out, k2.out, drop_cons ht, List.all_cons]; rfl)]
      · (repeat' (first | simp only [go_sem, *] | (refine sx ?_ ?_ <;> intro hc) | (refine sy (by omega) fun x hx => ?_ <;> have hm := List.mem_of_getElem? hx) | simp (disch := first | assumption | omega) only [wrap_id, le_max, le_maxI, slice_int]))
        refine IH.out (i + 1) (by omega) ⟨by omega, ⟨?_⟩⟩;rw [k2.out, drop_cons ht, List.all_cons]; rfl
    · have hi' : ¬ (i : Int) < d.chans.length := by omega
      have hall : u.all id = true := by rw [k2.out, List.drop_eq_nil_of_le (by omega)]; rfl
      (repeat' (first | simp only [go_sem, *] | (refine sx ?_ ?_ <;> intro hc) | (refine sy (by omega) fun x hx => ?_ <;> have hm := List.mem_of_getElem? hx) | simp (disch := first | assumption | omega) only [wrap_id, le_max, le_maxI, slice_int]))
      rw [show d.okR = true by
        simp only [Def.okR, hch, hsp, hru, hus.out, hall, decide_eq_true c1, decide_eq_true c2, decide_eq_true c3, Bool.and_self]]
end Go.Proofs
end
section
namespace Go.Proofs
open Go Go.Abs
set_option linter.unusedSimpArgs false
set_option linter.unusedVariables false
def kidsOf (op : Int) : Option Nat :=
  if op = 1 then some 0 else if op = 7 then some 0 else if op = 3 then some 2 else if op = 2 then some 0 else if op = 5 then some 2
  else if op = 6 then some 1 else if op = 8 then some 1 else if op = 4 then some 1 else none
def argsOk (x : Node) : Bool := if x.op = 2 then decide (x.args.length ≤ 3) else if x.op = 5 then decide (x.args.length = 1) else decide (x.args.length = 0)
def nOk (p : Prog) (size : Int) (x : Node) : Bool := if x.op = 2 ∨ x.op = 6 ∨ x.op = 8 then decide (0 ≤ x.n ∧ x.n < size) else if x.op = 4 then decide (0 ≤ x.n ∧ x.n < p.defs.length) else decide (x.n = 0)
def nodeOk (p : Prog) (size : Int) (x : Node) : Bool := decide (kidsOf x.op = some x.kids.length) && (nOk p size x && (argsOk x && x.args.all (Exp.ok size)))
structure LSt where
  sizes : List Int
  met : List Bool
  defs : List Bool
def eachN (f : Int → Int → LSt → Option LSt) : List (Int × Int) → LSt → Option LSt
  | [], st => some st
  | (n, s) :: l, st => match f n s st with
    | some st' => eachN f l st'
    | none => none
def ruleSubs (d : Def) (size : Int) (l : List Rule) : List (Int × Int) := l.map fun r => (r.node, size + bringsL d r.joins)
def spotSubs (size : Int) (l : List DSpot) : List (Int × Int) := l.map fun s => (s.node, size)
def kidSubs (size : Int) (l : List Int) : List (Int × Int) := l.map fun k => (k, size)
def into (p : Prog) (size : Int) (x : Node) (st : LSt) : Option (List (Int × Int) × LSt) :=
  if x.op = 4 then match p.defs[x.n.toNat]? with
    | some d => if st.defs[x.n.toNat]? = some false ∧ d.okG = true then some (ruleSubs d (size + d.own) d.rules ++ (spotSubs (size + d.own) d.spots ++ kidSubs (size + d.own) x.kids), { st with defs := st.defs.set x.n.toNat true }) else none
    | none => none
  else some (kidSubs size x.kids, st)
def LSt.meet (st : LSt) (n size : Int) : LSt := { st with sizes := st.sizes.set n.toNat size, met := st.met.set n.toNat true }
def visit (p : Prog) : Nat → Int → Int → LSt → Option LSt
  | 0, _, _, _ => none
  | k + 1, n, size, st =>
    if 0 ≤ n ∧ st.met[n.toNat]? = some false then
      match p.nodes[n.toNat]? with
      | some x => if nodeOk p size x = true then match into p size x (st.meet n size) with
          | some (l, st2) => eachN (visit p k) l st2
          | none => none
        else none
      | none => none
    else none
def strLt (a b : ByteArray) : Bool := Op.bytesLess a.toList b.toList
def freeGo : Option ByteArray → List ByteArray → Bool
  | _, [] => true
  | b, a :: l => nameOk a && ((match b with | some b => strLt b a | none => true) && freeGo (some a) l)
def freeOk (l : List ByteArray) : Bool := freeGo none l
def Prog.small (p : Prog) : Bool := decide (p.free.length ≤ 12) && (decide (p.nodes.length ≤ 60) && decide (p.defs.length ≤ 12))
def LSt.init (p : Prog) : LSt := ⟨List.replicate p.nodes.length 0, List.replicate p.nodes.length false, List.replicate p.defs.length false⟩
def looks (p : Prog) : Option LSt :=
  if p.small = true ∧ freeOk p.free = true then match visit p (p.nodes.length + 1) p.main p.free.length (LSt.init p) with
    | some st => if st.met.all id = true ∧ st.defs.all id = true then some st else none
    | none => none
  else none
structure LSt.fit (p : Prog) (st : LSt) : Prop where
  sizes : st.sizes.length = p.nodes.length
  met : st.met.length = p.nodes.length
  defs : st.defs.length = p.defs.length
def unmet (l : List Bool) : Nat := l.count false
theorem unmet_set : ∀ {l : List Bool} {n : Nat}, l[n]? = some false → unmet (l.set n true) + 1 = unmet l
  | [], n, h => by simp at h
  | b :: l, 0, h => by
    simp only [List.getElem?_cons_zero, Option.some.injEq] at h;subst h;simp [unmet]
  | b :: l, n + 1, h => by
    simp only [List.getElem?_cons_succ] at h;have := unmet_set h;cases b <;> simp [unmet] at this ⊢ <;> omega
theorem unmet_le (l : List Bool) : unmet l ≤ l.length := List.count_le_length
theorem meet_fit {p : Prog} {st : LSt} (h : st.fit p) (n size : Int) : (st.meet n size).fit p := ⟨by simp [LSt.meet, h.sizes], by simp [LSt.meet, h.met], by simp [LSt.meet, h.defs]⟩
theorem into_fit {p : Prog} {size : Int} {x : Node} {st st2 : LSt} {l : List (Int × Int)} (h : into p size x st = some (l, st2)) : st2.sizes = st.sizes ∧ st2.met = st.met ∧ st2.defs.length = st.defs.length := by
  unfold into at h;split at h
  · split at h
    · split at h
      · cases h; simp
      · cases h
    · cases h
  · cases h; simp
theorem eachN_ind {f : Int → Int → LSt → Option LSt} {R : LSt → LSt → Prop} (hr : ∀ st, R st st) (ht : ∀ a b c, R a b → R b c → R a c) (hf : ∀ n s st st', f n s st = some st' → R st st') : ∀ {l : List (Int × Int)} {st st' : LSt}, eachN f l st = some st' → R st st'
  | [], st, st', h => by cases h; exact hr _
  | (n, s) :: l, st, st', h => by
    rw [eachN] at h;split at h
    · rename_i st1 h1;exact ht _ _ _ (hf _ _ _ _ h1) (eachN_ind hr ht hf h)
    · cases h
structure Grow (st st' : LSt) : Prop where
  sizes : st'.sizes.length = st.sizes.length
  met : st'.met.length = st.met.length
  defs : st'.defs.length = st.defs.length
  less : unmet st'.met ≤ unmet st.met
theorem visit_grow (p : Prog) : ∀ (k : Nat) (n size : Int) (st st' : LSt), visit p k n size st = some st' → Grow st st'
  | 0, n, size, st, st', h => by cases h
  | k + 1, n, size, st, st', h => by
    rw [visit] at h;split at h
    · rename_i hn;split at h
      · rename_i x hx;split at h
        · split at h
          · rename_i l st2 h2;have h3 := into_fit h2;have h4 : Grow st2 st' := eachN_ind (R := Grow) (fun st => ⟨rfl, rfl, rfl, Nat.le_refl _⟩) (fun a b c h1 h2 => ⟨h2.1.trans h1.1, h2.2.trans h1.2, h2.3.trans h1.3, Nat.le_trans h2.4 h1.4⟩) (visit_grow p k) h;have h5 := unmet_set hn.2;refine ⟨h4.1.trans ?_, h4.2.trans ?_, h4.3.trans ?_, Nat.le_trans h4.4 ?_⟩
            · rw [h3.1]; simp [LSt.meet]
            · rw [h3.2.1]; simp [LSt.meet]
            · rw [h3.2.2]; simp [LSt.meet]
            · rw [h3.2.1]; simp only [LSt.meet]; omega
          · cases h
        · cases h
      · cases h
    · cases h
end Go.Proofs
end
section
namespace Go.Proofs
open Go Go.Abs
set_option linter.unusedSimpArgs false
set_option linter.unusedVariables false
def subsOf (p : Prog) (size : Int) (x : Node) : Option (List (Int × Int)) :=
  if x.op = 4 then match p.defs[x.n.toNat]? with
    | some d => if d.okG = true then some (ruleSubs d (size + d.own) d.rules ++ (spotSubs (size + d.own) d.spots ++ kidSubs (size + d.own) x.kids)) else none
    | none => none
  else some (kidSubs size x.kids)
theorem bringsL_le {d : Def} (h : ∀ c ∈ d.chans, 0 ≤ c.many ∧ c.many ≤ 3) : ∀ l : List Int, 0 ≤ bringsL d l ∧ bringsL d l ≤ 3 * l.length
  | [] => by simp [bringsL]
  | j :: l => by
    have ih := bringsL_le h l;rw [bringsL];have : 0 ≤ ((d.chans[j.toNat]?).map Chan.many).getD 0 ∧ ((d.chans[j.toNat]?).map Chan.many).getD 0 ≤ 3 := by
      cases hc : d.chans[j.toNat]? with
      | none => simp
      | some c => simpa using h c (List.mem_of_getElem? hc)
    simp only [List.length_cons];omega
structure DefOk (d : Def) : Prop where
  chans : d.chans.length ≤ 30
  spots : d.spots.length ≤ 30
  rules : d.rules.length ≤ 30
  chan : ∀ c ∈ d.chans, 0 ≤ c.at_ ∧ c.at_ ≤ d.spots.length ∧ 0 ≤ c.many ∧ c.many ≤ 3
  spot : spotsOk 0 d.spots = true
  rule : ∀ r ∈ d.rules, ruleOk d r = true
  stands : (standsR [] d.rules).length = d.chans.length
theorem okG_ok {d : Def} (h : d.okG = true) : DefOk d := by
  simp only [Def.okG, Bool.and_eq_true, decide_eq_true_eq, List.all_eq_true, chanOk] at h;obtain ⟨h1, h2, h3, h4, h5, h6, h7⟩ := h;exact ⟨h1, h2, h3, fun c hc => ⟨(h4 c hc).1.1, (h4 c hc).1.2, (h4 c hc).2.1, (h4 c hc).2.2⟩, h5, h6, h7⟩
theorem joinsOk_in {d : Def} {r : Rule} : ∀ {i : Nat} {l : List Int}, joinsOk d r i l = true → ∀ j ∈ l, 0 ≤ j ∧ j < d.chans.length
  | i, [], h => by simp
  | i, c :: l, h => by
    intro j hj;rw [joinsOk, Bool.and_eq_true] at h;rcases List.mem_cons.1 hj with rfl | hj
    · have := h.1;simp only [joinOk, Bool.and_eq_true, decide_eq_true_eq] at this;exact ⟨this.1, this.2.1⟩
    · exact joinsOk_in h.2 j hj
theorem rule_joins {d : Def} {r : Rule} (h : DefOk d) (hr : r ∈ d.rules) : d.joinsOk r := by
  have := h.rule r hr;simp only [ruleOk, Bool.and_eq_true, decide_eq_true_eq] at this;exact ⟨this.2.2.1, joinsOk_in this.2.2.2, fun c hc => (h.chan c hc).2.2⟩
theorem own_le {d : Def} (h : DefOk d) : d.own ≤ 60 := by
  have := h.chans;have := h.spots;unfold Def.own;omega
theorem subsOf_le {p : Prog} {size : Int} {x : Node} {l : List (Int × Int)} (h : subsOf p size x = some l) : ∀ q ∈ l, size ≤ q.2 ∧ q.2 ≤ size + 70 := by
  unfold subsOf at h;split at h
  · split at h
    · rename_i d hd;split at h
      · rename_i hk;cases h;have hk := okG_ok hk;have ho := own_le hk;intro q hq;simp only [List.mem_append, ruleSubs, spotSubs, kidSubs, List.mem_map] at hq;rcases hq with ⟨r, hr, rfl⟩ | ⟨r, hr, rfl⟩ | ⟨r, hr, rfl⟩
        · have hj := rule_joins hk hr;have := bringsL_le hj.2.2 r.joins;have := hj.1;dsimp only;omega
        · dsimp only; omega
        · dsimp only; omega
      · cases h
    · cases h
  · cases h;intro q hq;simp only [kidSubs, List.mem_map] at hq;obtain ⟨k, hk, rfl⟩ := hq;dsimp only;omega
def LSt.has (st : LSt) (q : Int × Int) : Prop := 0 ≤ q.1 ∧ st.met[q.1.toNat]? = some true ∧ st.sizes[q.1.toNat]? = some q.2
structure Good (p : Prog) (st : LSt) (i : Nat) (x : Node) : Prop where
  met : st.met[i]? = some true
  ex : ∃ s l, st.sizes[i]? = some s ∧ 0 ≤ s ∧ s ≤ 5000 ∧ nodeOk p s x = true ∧ subsOf p s x = some l ∧ ∀ q ∈ l, st.has q
structure Acc (p : Prog) (st st' : LSt) : Prop where
  keep : ∀ i : Nat, st.met[i]? = some true → st'.met[i]? = some true ∧ st'.sizes[i]? = st.sizes[i]?
  good : ∀ (i : Nat) (x : Node), st'.met[i]? = some true → st.met[i]? ≠ some true → p.nodes[i]? = some x → Good p st' i x
  defs : ∀ i : Nat, st.defs[i]? = some true → st'.defs[i]? = some true
  news : ∀ (i : Nat) (x : Node), st'.met[i]? = some true → st.met[i]? ≠ some true → p.nodes[i]? = some x → x.op = 4 → st.defs[x.n.toNat]? ≠ some true ∧ st'.defs[x.n.toNat]? = some true
  used : ∀ n : Nat, st'.defs[n]? = some true → st.defs[n]? ≠ some true → ∃ (i : Nat) (x : Node), p.nodes[i]? = some x ∧ x.op = 4 ∧ x.n.toNat = n
  diff : ∀ (i j : Nat) (x y : Node), i ≠ j → st'.met[i]? = some true → st.met[i]? ≠ some true → p.nodes[i]? = some x → x.op = 4 → st'.met[j]? = some true → st.met[j]? ≠ some true → p.nodes[j]? = some y → y.op = 4 → x.n.toNat ≠ y.n.toNat
theorem has_up {p : Prog} {st st' : LSt} {q : Int × Int} (h : st.has q) (ha : Acc p st st') : st'.has q := by
  obtain ⟨h1, h2, h3⟩ := h;have := ha.keep _ h2;exact ⟨h1, this.1, by rw [this.2, h3]⟩
theorem good_up {p : Prog} {st st' : LSt} {i : Nat} {x : Node} (h : Good p st i x) (ha : Acc p st st') : Good p st' i x := by
  obtain ⟨h1, s, l, h2, h0, hb, h3, h4, h5⟩ := h;have := ha.keep _ h1;exact ⟨this.1, s, l, by rw [this.2, h2], h0, hb, h3, h4, fun q hq => has_up (h5 q hq) ha⟩
theorem acc_refl (p : Prog) (st : LSt) : Acc p st st := ⟨fun i h => ⟨h, rfl⟩, fun i x h1 h2 => absurd h1 h2, fun i h => h, fun i x h1 h2 => absurd h1 h2, fun n h1 h2 => absurd h1 h2, fun i j x y h h1 h2 => absurd h1 h2⟩
theorem acc_trans {p : Prog} {a b c : LSt} (h1 : Acc p a b) (h2 : Acc p b c) : Acc p a c := by
  refine ⟨fun i h => ?_, fun i x hm hn hx => ?_, fun i h => h2.defs i (h1.defs i h), fun i x hm hn hx ho => ?_, fun n hm hn => ?_, fun i j x y hij him hin hx hox hjm hjn hy hoy => ?_⟩
  · have e1 := h1.keep i h;have e2 := h2.keep i e1.1;exact ⟨e2.1, e2.2.trans e1.2⟩
  · by_cases hb : b.met[i]? = some true
    · exact good_up (h1.good i x hb hn hx) h2
    · exact h2.good i x hm hb hx
  · by_cases hb : b.met[i]? = some true
    · have := h1.news i x hb hn hx ho;exact ⟨this.1, h2.defs _ this.2⟩
    · have := h2.news i x hm hb hx ho;exact ⟨fun e => this.1 (h1.defs _ e), this.2⟩
  · by_cases hb : b.defs[n]? = some true
    · exact h1.used n hb hn
    · exact h2.used n hm hb
  · by_cases hbi : b.met[i]? = some true
    · by_cases hbj : b.met[j]? = some true
      · exact h1.diff i j x y hij hbi hin hx hox hbj hjn hy hoy
      · have e1 := h1.news i x hbi hin hx hox;have e2 := h2.news j y hjm hbj hy hoy;intro e;rw [e] at e1;exact e2.1 e1.2
    · by_cases hbj : b.met[j]? = some true
      · have e1 := h1.news j y hbj hjn hy hoy;have e2 := h2.news i x him hbi hx hox;intro e;rw [← e] at e1;exact e2.1 e1.2
      · exact h2.diff i j x y hij him hbi hx hox hjm hbj hy hoy
structure Bnd (st : LSt) (u : Nat) : Prop where
  len : st.sizes.length = st.met.length
  less : unmet st.met ≤ u
theorem eachN_acc {p : Prog} {f : Int → Int → LSt → Option LSt} {u : Nat} (hf : ∀ (n s : Int) (st st' : LSt), Bnd st u → 0 ≤ s → s + 70 * u ≤ 5000 → f n s st = some st' → Acc p st st' ∧ st'.has (n, s) ∧ Bnd st' u) : ∀ {l : List (Int × Int)} {st st' : LSt}, Bnd st u → (∀ q ∈ l, 0 ≤ q.2 ∧ q.2 + 70 * u ≤ 5000) → eachN f l st = some st' → Acc p st st' ∧ (∀ q ∈ l, st'.has q) ∧ Bnd st' u
  | [], st, st', hl, hq, h => by cases h; exact ⟨acc_refl _ _, by simp, hl⟩
  | (n, s) :: l, st, st', hl, hq, h => by
    rw [eachN] at h;split at h
    · rename_i st1 h1;have hq1 := hq (n, s) (by simp);have e1 := hf _ _ _ _ hl hq1.1 hq1.2 h1;have e2 := eachN_acc hf e1.2.2 (fun q hm => hq q (List.mem_cons_of_mem _ hm)) h;refine ⟨acc_trans e1.1 e2.1, fun q hq => ?_, e2.2.2⟩;rcases List.mem_cons.1 hq with rfl | hq
      · exact has_up e1.2.1 e2.1
      · exact e2.2.1 q hq
    · cases h
theorem into_subs {p : Prog} {size : Int} {x : Node} {st st2 : LSt} {l : List (Int × Int)} (h : into p size x st = some (l, st2)) : subsOf p size x = some l ∧ st2.sizes = st.sizes ∧ st2.met = st.met ∧ (∀ i : Nat, st.defs[i]? = some true → st2.defs[i]? = some true) ∧ (x.op = 4 → st.defs[x.n.toNat]? ≠ some true ∧ st2.defs[x.n.toNat]? = some true) ∧ ∀ i : Nat, st2.defs[i]? = some true → st.defs[i]? ≠ some true → x.op = 4 ∧ x.n.toNat = i := by
  unfold into at h;unfold subsOf;split at h
  · rename_i h4;rw [if_pos h4];split at h
    · rename_i d hd;split at h
      · rename_i hk;cases h;refine ⟨by first | exact if_pos hk.2 | (rw [hd]; exact if_pos hk.2), rfl, rfl, fun i hi => ?_, fun _ => ⟨by rw [hk.1]; simp, ?_⟩, fun i h1 h2 => ⟨h4, ?_⟩⟩
        · rw [List.getElem?_set];split
          · rename_i e; subst e; rw [if_pos (List.getElem?_eq_some_iff.1 hi).1]
          · exact hi
        · rw [List.getElem?_set, if_pos rfl, if_pos (List.getElem?_eq_some_iff.1 hk.1).1]
        · rw [List.getElem?_set] at h1;split at h1
          · assumption
          · exact absurd h1 h2
      · cases h
    · cases h
  · rename_i h4;rw [if_neg h4];cases h;exact ⟨rfl, rfl, rfl, fun i h => h, fun h => absurd h h4, fun i h1 h2 => absurd h1 h2⟩
theorem visit_acc (p : Prog) : ∀ (k : Nat) (n size : Int) (st st' : LSt) (u : Nat), Bnd st u → 0 ≤ size → size + 70 * u ≤ 5000 → visit p k n size st = some st' → Acc p st st' ∧ st'.has (n, size) ∧ Bnd st' u
  | 0, n, size, st, st', u, _, _, _, h => by cases h
  | k + 1, n, size, st, st', u, hb, h0, hsz, h => by
    rw [visit] at h;split at h
    · rename_i hn;split at h
      · rename_i x hx;split at h
        · rename_i hok;split at h
          · rename_i l st2 h2;have h3 := into_subs h2;have hlen := hb.len;have hun := unmet_set hn.2;have hul := hb.less;obtain ⟨u, rfl⟩ : ∃ v, u = v + 1 := ⟨u - 1, by omega⟩;have hb2 : Bnd st2 u := ⟨by rw [h3.2.1, h3.2.2.1]; simp [LSt.meet, hlen], by rw [h3.2.2.1]; simp only [LSt.meet]; omega⟩;have hle := subsOf_le h3.1;obtain ⟨ha, hl, hz⟩ := eachN_acc (fun n s st st' => visit_acc p k n s st st' u) hb2 (fun q hq => by have := hle q hq; omega) h;have hlt := (List.getElem?_eq_some_iff.1 hn.2).1;have m2 : ∀ i, st2.met[i]? = if n.toNat = i then some true else st.met[i]? := fun i => by
              rw [h3.2.2.1, LSt.meet, List.getElem?_set];split
              · rename_i e; subst e; simp [hlt]
              · rfl
            have s2 : ∀ i, st2.sizes[i]? = if n.toNat = i then some size else st.sizes[i]? := fun i => by
              rw [h3.2.1, LSt.meet, List.getElem?_set];split
              · rename_i e; subst e; simp [hlen, hlt]
              · rfl
            have k2 := ha.keep n.toNat (by rw [m2, if_pos rfl]);rw [s2, if_pos rfl] at k2;refine ⟨⟨fun i hi => ?_, fun i y hm hm0 hy => ?_, fun i hi => ha.defs i (h3.2.2.2.1 i hi), fun i y hm hm0 hy ho => ?_, fun i hi hi0 => ?_, fun i j y z hij him hin hy hoy hjm hjn hz hoz => ?_⟩, ⟨hn.1, k2.1, k2.2⟩, hz.1, Nat.le_succ_of_le hz.2⟩
            · have hne : n.toNat ≠ i := fun e => by subst e; rw [hn.2] at hi; simp at hi
              have := ha.keep i (by rw [m2, if_neg hne, hi]);rw [s2, if_neg hne] at this;exact this
            · by_cases hne : n.toNat = i
              · subst hne;rw [hx] at hy;cases hy;exact ⟨hm, size, l, k2.2, h0, by omega, hok, h3.1, hl⟩
              · exact ha.good i y hm (by rw [m2, if_neg hne]; exact hm0) hy
            · by_cases hne : n.toNat = i
              · subst hne;rw [hx] at hy;cases hy;have := h3.2.2.2.2.1 ho;exact ⟨this.1, ha.defs _ this.2⟩
              · have := ha.news i y hm (by rw [m2, if_neg hne]; exact hm0) hy ho;exact ⟨fun e => this.1 (h3.2.2.2.1 _ e), this.2⟩
            · by_cases hd : st2.defs[i]? = some true
              · have := h3.2.2.2.2.2 i hd hi0;exact ⟨_, x, hx, this⟩
              · exact ha.used i hi hd
            · by_cases hni : n.toNat = i
              · have hnj : n.toNat ≠ j := fun e => hij (hni.symm.trans e);subst hni;rw [hx] at hy;cases hy;have e1 := h3.2.2.2.2.1 hoy;have e2 := ha.news j z hjm (by rw [m2, if_neg hnj]; exact hjn) hz hoz;intro e;rw [e] at e1;exact e2.1 e1.2
              · by_cases hnj : n.toNat = j
                · subst hnj;rw [hx] at hz;cases hz;have e1 := h3.2.2.2.2.1 hoz;have e2 := ha.news i y him (by rw [m2, if_neg hni]; exact hin) hy hoy;intro e;rw [← e] at e1;exact e2.1 e1.2
                · exact ha.diff i j y z hij him (by rw [m2, if_neg hni]; exact hin) hy hoy hjm (by rw [m2, if_neg hnj]; exact hjn) hz hoz
          · cases h
        · cases h
      · cases h
    · cases h
structure Formed (p : Prog) (sizes : List Int) : Prop where
  small : p.small = true
  len : sizes.length = p.nodes.length
  main : 0 ≤ p.main ∧ sizes[p.main.toNat]? = some (p.free.length : Int)
  node : ∀ (i : Nat) (x : Node), p.nodes[i]? = some x → ∃ (s : Int) (l : List (Int × Int)), sizes[i]? = some s ∧ 0 ≤ s ∧ s ≤ 5000 ∧ nodeOk p s x = true ∧ subsOf p s x = some l ∧ ∀ q ∈ l, 0 ≤ q.1 ∧ sizes[q.1.toNat]? = some q.2
  used : ∀ n : Nat, n < p.defs.length → ∃ (i : Nat) (x : Node), p.nodes[i]? = some x ∧ x.op = 4 ∧ x.n.toNat = n
  diff : ∀ (i j : Nat) (x y : Node), i ≠ j → p.nodes[i]? = some x → x.op = 4 → p.nodes[j]? = some y → y.op = 4 → x.n.toNat ≠ y.n.toNat
theorem all_get {l : List Bool} (h : l.all id = true) {i : Nat} (hi : i < l.length) : l[i]? = some true := by
  have := List.all_eq_true.1 h _ (List.getElem_mem hi);rw [List.getElem?_eq_getElem hi];simpa using this
theorem looks_formed {p : Prog} {st : LSt} (h : looks p = some st) : Formed p st.sizes := by
  unfold looks at h;split at h
  · rename_i hs;split at h
    · rename_i st' hv;split at h
      · rename_i hall;cases h;have hsm := hs.1;simp only [Prog.small, Bool.and_eq_true, decide_eq_true_eq] at hsm;have hg := visit_grow p _ _ _ _ _ hv;have hun := unmet_le (LSt.init p).met;have hil : (LSt.init p).met.length = p.nodes.length := by simp [LSt.init]
        have ha := visit_acc p _ _ _ _ _ 60 ⟨by simp [LSt.init], by omega⟩ (by omega) (by omega) hv;have hm : st.met.length = p.nodes.length := by rw [hg.met]; simp [LSt.init]
        have hz : st.sizes.length = p.nodes.length := by rw [hg.sizes]; simp [LSt.init]
        have hd : st.defs.length = p.defs.length := by rw [hg.defs]; simp [LSt.init]
        have hmet : ∀ {i x}, p.nodes[i]? = some x → st.met[i]? = some true := fun {i x} hx => all_get hall.1 (by rw [hm]; exact (List.getElem?_eq_some_iff.1 hx).1);have h0 : ∀ i : Nat, (LSt.init p).met[i]? ≠ some true := fun i => by
          simp only [LSt.init, List.getElem?_replicate];split <;> simp
        have hd0 : ∀ i : Nat, (LSt.init p).defs[i]? ≠ some true := fun i => by
          simp only [LSt.init, List.getElem?_replicate];split <;> simp
        refine ⟨hs.1, hz, ⟨ha.2.1.1, ha.2.1.2.2⟩, fun i x hx => ?_, fun n hn => ha.1.used n (all_get hall.2 (by omega)) (hd0 n), fun i j x y hij hx hox hy hoy => ha.1.diff i j x y hij (hmet hx) (h0 _) hx hox (hmet hy) (h0 _) hy hoy⟩;obtain ⟨_, s, l, h1, hp, hb, h2, h3, h4⟩ := ha.1.good i x (hmet hx) (h0 _) hx;exact ⟨s, l, h1, hp, hb, h2, h3, fun q hq => ⟨(h4 q hq).1, (h4 q hq).2.2⟩⟩
      · cases h
    · cases h
  · cases h
end Go.Proofs
end
section
namespace Go.Proofs
open Go Go.Abs
set_option linter.unusedSimpArgs false
set_option linter.unusedVariables false
structure Same2 (n : Nat) (u : List Bool) (st : List Int) : Prop where
  len : u.length = n
  cnt : unmet u + st.length = n
  mem : ∀ c : Int, 0 ≤ c → c < n → (u[c.toNat]? = some true ↔ c ∈ st)
theorem same2_ins {n : Nat} {u : List Bool} {st : List Int} {c : Int} (h : Same2 n u st) (h0 : 0 ≤ c) (h1 : c < n) : Same2 n (useI u c) (insI st c) := by
  have hl : c.toNat < u.length := by rw [h.len]; omega
  have hm := h.mem c h0 h1;have hmem : ∀ b : Int, 0 ≤ b → b < n → ((useI u c)[b.toNat]? = some true ↔ b = c ∨ u[b.toNat]? = some true) := fun b hb0 hb1 => by
    rw [useI, List.getElem?_set];split
    · rename_i e;have : b = c := by omega
      subst this;simp [hl]
    · rename_i e;have : b ≠ c := fun h => e (by rw [h]);simp [this]
  cases hu : u[c.toNat]? with
  | none => rw [List.getElem?_eq_none_iff] at hu; omega
  | some t =>
    cases t with
    | true =>
      have hin := hm.1 hu;have e2 : insI st c = st := by rw [insI, if_pos hin]
      have e1 : useI u c = u := by
        apply List.ext_getElem?;intro i;rw [useI, List.getElem?_set];split
        · rename_i e; subst e; exact hu.symm
        · rfl
      rw [e1, e2];exact h
    | false =>
      have hnin : c ∉ st := fun hc => by rw [hm.2 hc] at hu; simp at hu
      have e2 : insI st c = st ++ [c] := by rw [insI, if_neg hnin]
      have hc := unmet_set hu;have hh := h.cnt;refine ⟨by simp [useI, h.len], ?_, fun b hb0 hb1 => ?_⟩
      · rw [e2]; simp only [useI, List.length_append, List.length_singleton]; omega
      · rw [hmem b hb0 hb1, e2, h.mem b hb0 hb1]; simp [or_comm]
theorem same2_joins {n : Nat} : ∀ {l : List Int} {u : List Bool} {st : List Int}, Same2 n u st → (∀ c ∈ l, 0 ≤ c ∧ c < n) → Same2 n (l.foldl useI u) (l.foldl insI st)
  | [], u, st, h, _ => h
  | c :: l, u, st, h, hc => by
    have := hc c (by simp);exact same2_joins (l := l) (same2_ins h this.1 this.2) (fun b hb => hc b (List.mem_cons_of_mem _ hb))
theorem same2_rules {n : Nat} : ∀ {l : List Rule} {u : List Bool} {st : List Int}, Same2 n u st → (∀ r ∈ l, ∀ c ∈ r.joins, 0 ≤ c ∧ c < n) → Same2 n (usedR u l) (standsR st l)
  | [], u, st, h, _ => h
  | r :: l, u, st, h, hc => by
    have e1 : usedR u (r :: l) = usedR (r.joins.foldl useI u) l := rfl;have e2 : standsR st (r :: l) = standsR (r.joins.foldl insI st) l := rfl;rw [e1, e2];exact same2_rules (same2_joins h (hc r (by simp))) (fun b hb => hc b (List.mem_cons_of_mem _ hb))
theorem all_unmet : ∀ l : List Bool, l.all id = decide (unmet l = 0)
  | [] => by simp [unmet]
  | b :: l => by
    rw [List.all_cons, all_unmet l];cases b
    · simp [unmet]
    · have : unmet (true :: l) = unmet l := by simp [unmet]
      rw [this]; rfl
theorem ok_eq (d : Def) : d.okR = d.okG := by
  unfold Def.okR Def.okG;by_cases hr : d.rules.all (ruleOk d) = true
  · have h0 : Same2 d.chans.length (List.replicate d.chans.length false) [] := ⟨by simp, by simp [unmet], fun c h0 h1 => by simp [List.getElem?_replicate]⟩;have h := same2_rules (l := d.rules) h0 (fun r hr' c hc => by
      have := List.all_eq_true.1 hr r hr';simp only [ruleOk, Bool.and_eq_true] at this;exact joinsOk_in this.2.2.2 c hc)
    have hc := h.cnt;rw [all_unmet];congr 6;rw [decide_eq_decide];omega
  · rw [Bool.not_eq_true] at hr;rw [hr];simp
end Go.Proofs
end
section
namespace Go.Proofs
open Go Go.Abs
set_option linter.unusedSimpArgs false
set_option linter.unusedVariables false
def kidSize (sizes : List Int) (x : Node) : Int := ((x.kids[0]?).map fun k => (sizes[k.toNat]?).getD 0).getD 0
def groupsGo (sizes : List Int) : List Int → List Node → List Int
  | out, [] => out
  | out, x :: l => groupsGo sizes (if x.op = 4 then out.set x.n.toNat (kidSize sizes x) else out) l
def groupsT (p : Prog) (sizes : List Int) : List Int := groupsGo sizes (List.replicate p.defs.length 0) p.nodes
theorem groupsGo_len (sizes : List Int) : ∀ (l : List Node) (out : List Int), (groupsGo sizes out l).length = out.length
  | [], out => rfl
  | x :: l, out => by
    rw [groupsGo, groupsGo_len sizes l];split <;> simp
theorem groupsGo_get (sizes : List Int) (n : Nat) (v : Int) : ∀ (l : List Node) (out : List Int), n < out.length → (∀ x ∈ l, x.op = 4 → x.n.toNat = n → kidSize sizes x = v) → (out[n]? = some v ∨ ∃ x ∈ l, x.op = 4 ∧ x.n.toNat = n) → (groupsGo sizes out l)[n]? = some v
  | [], out, hn, h1, h2 => by
    rcases h2 with h | ⟨x, hx, _⟩
    · exact h
    · cases hx
  | x :: l, out, hn, h1, h2 => by
    rw [groupsGo];refine groupsGo_get sizes n v l _ (by split <;> simpa using hn) (fun y hy => h1 y (List.mem_cons_of_mem _ hy)) ?_;by_cases hx : x.op = 4 ∧ x.n.toNat = n
    · left;rw [if_pos hx.1, List.getElem?_set, if_pos hx.2, hx.2, if_pos hn, h1 x (by simp) hx.1 hx.2]
    · rcases h2 with h | ⟨y, hy, hyo⟩
      · left;split
        · rename_i ho;rw [List.getElem?_set, if_neg fun e => hx ⟨ho, e⟩];exact h
        · exact h
      · rcases List.mem_cons.1 hy with rfl | hy
        · exact absurd hyo hx
        · exact .inr ⟨y, hy, hyo⟩
structure DefFact (p : Prog) (sizes : List Int) (n : Nat) (d : Def) : Prop where
  ok : DefOk d
  node : ∃ (i : Nat) (x : Node) (s : Int), p.nodes[i]? = some x ∧ x.op = 4 ∧ x.n.toNat = n ∧ sizes[i]? = some s ∧ 0 ≤ s ∧ s ≤ 5000 ∧ (groupsT p sizes)[n]? = some (s + d.own) ∧ (∀ r ∈ d.rules, 0 ≤ r.node ∧ sizes[r.node.toNat]? = some (s + d.own + bringsL d r.joins)) ∧ (∀ y ∈ d.spots, 0 ≤ y.node ∧ sizes[y.node.toNat]? = some (s + d.own)) ∧ ∃ k, x.kids = [k] ∧ 0 ≤ k ∧ sizes[k.toNat]? = some (s + d.own)
theorem def_fact {p : Prog} {sizes : List Int} (h : Formed p sizes) {n : Nat} {d : Def} (hd : p.defs[n]? = some d) : DefFact p sizes n d := by
  have hn := (List.getElem?_eq_some_iff.1 hd).1;obtain ⟨i, x, hx, hxo, hxn⟩ := h.used n hn;obtain ⟨s, l, hs, h0, hb, hok, hl, hq⟩ := h.node i x hx;have hl2 := hl;rw [subsOf, if_pos hxo, hxn, hd] at hl2;dsimp only at hl2;split at hl2
  · rename_i hg;cases hl2;have hkids : ∃ k, x.kids = [k] := by
      simp only [nodeOk, Bool.and_eq_true, decide_eq_true_eq] at hok;have := hok.1;rw [hxo] at this;simp only [kidsOf] at this;have : x.kids.length = 1 := by simpa using this.symm
      match hk : x.kids, this with
      | [k], _ => exact ⟨k, rfl⟩
    obtain ⟨k, hk⟩ := hkids;have hkq : 0 ≤ k ∧ sizes[k.toNat]? = some (s + d.own) := hq (k, s + d.own) (by simp [kidSubs, hk]);refine ⟨okG_ok hg, i, x, s, hx, hxo, hxn, hs, h0, hb, ?_, fun r hr => ?_, fun y hy => ?_, k, hk, hkq⟩
    · refine groupsGo_get sizes n _ p.nodes _ (by simpa using hn) (fun y hy hyo hyn => ?_) (.inr ⟨x, List.mem_of_getElem? hx, hxo, hxn⟩);obtain ⟨j, hj⟩ := List.getElem?_of_mem hy;by_cases hij : i = j
      · subst hij;rw [hx] at hj;cases hj;simp [kidSize, hk, hkq.2]
      · exact absurd (hxn.trans hyn.symm) (h.diff i j x y hij hx hxo hj hyo)
    · exact hq (r.node, s + d.own + bringsL d r.joins) (by simp only [ruleSubs, List.mem_append, List.mem_map]; exact .inl ⟨r, hr, rfl⟩)
    · exact hq (y.node, s + d.own) (by simp only [spotSubs, List.mem_append, List.mem_map]; exact .inr (.inl ⟨y, hy, rfl⟩))
  · cases hl2
def Group.own (d : Def) (g : Group) (ch : Bool) (n : Int) : Int := ((g.env[g.env.length - d.spots.length - (if ch then d.chans.length else 0) + n.toNat]?).map Val.n).getD 0
def Group.place (d : Def) (g : Group) (n : Int) : Int := if n = 0 then g.at_ else g.own d false (n - 1)
def deadAt (l : List Spot) (i : Int) : Bool := ((l[i.toNat]?).map Spot.dead).getD false
def msgOk (p : Prog) (nc ns : Nat) (many : Int) (m : List Val) : Bool := decide ((m.length : Int) = many) && m.all (Val.inB p nc ns)
def chnOk (p : Prog) (s : Sol) (d : Def) (g : Group) (i j : Nat) (q : Chn) (ch : Chan) : Bool :=
  decide (q.group = i) && (decide (q.index = j) && (decide (q.at_ = g.place d ch.at_) && (decide (q.queue.length ≤ 12) && ((decide (q.queue.length = 0) || !deadAt s.spots q.at_) && q.queue.all (msgOk p s.chans.length s.spots.length ch.many)))))
def chnAt (p : Prog) (s : Sol) (d : Def) (g : Group) (i j a : Nat) (ch : Chan) : Bool := match s.chans[a]? with | some q => chnOk p s d g i j q ch | none => false
def chnsOk (p : Prog) (s : Sol) (d : Def) (g : Group) (i c : Nat) : Nat → List Chan → Bool
  | _, [] => true
  | j, ch :: l => chnAt p s d g i j (c + j) ch && chnsOk p s d g i c (j + 1) l
def mineOf (c k : Nat) (d : Def) : List Val := (List.range' c d.chans.length).map (fun (j : Nat) => ⟨3, (j : Int)⟩) ++ (List.range' k d.spots.length).map (fun (j : Nat) => ⟨4, (j : Int)⟩)
def mineOk (d : Def) (c k : Nat) (g : Group) : Bool := decide (g.env.drop (g.env.length - d.chans.length - d.spots.length) = mineOf c k d)
def grpOk (p : Prog) (gs : List Int) (s : Sol) (i c k : Nat) (g : Group) (d : Def) : Bool :=
  decide (inR s.spots g.at_) && (decide ((g.env.length : Int) = (gs[g.def_.toNat]?).getD 0) && (g.env.all (Val.inB p s.chans.length s.spots.length) && (mineOk d c k g && chnsOk p s d g i c 0 d.chans)))
def Prog.def? (p : Prog) (n : Int) : Option Def := if 0 ≤ n then p.defs[n.toNat]? else none
def grpsOk (p : Prog) (gs : List Int) (s : Sol) : Nat → Nat → Nat → List Group → Bool
  | _, c, k, [] => decide (c = s.chans.length) && decide (k = s.spots.length)
  | i, c, k, g :: l => match p.def? g.def_ with
    | some d => grpOk p gs s i c k g d && grpsOk p gs s (i + 1) (c + d.chans.length) (k + d.spots.length) l
    | none => false
def waitsOp (op : Int) : Bool := decide (op = 6) || (decide (op = 7) || decide (op = 8))
def waitOk (p : Prog) (sizes : List Int) (s : Sol) (w : Wait) : Bool :=
  decide (inR s.spots w.at_) && (!deadAt s.spots w.at_ && (decide (0 ≤ w.node) && ((match p.nodes[w.node.toNat]? with | some x => waitsOp x.op | none => false) && (decide ((w.env.length : Int) = (sizes[w.node.toNat]?).getD 0) && w.env.all (Val.inB p s.chans.length s.spots.length)))))
def deadOk (l : List Spot) : List Spot → Bool
  | [] => true
  | x :: m => (x.dead || !deadAt l x.in_) && deadOk l m
def Sol.small (s : Sol) : Bool := decide (s.spots.length ≤ 24) && (decide (s.groups.length ≤ 40) && (decide (s.chans.length ≤ 60) && decide (s.waits.length ≤ 40)))
def solOk (p : Prog) (sizes : List Int) (s : Sol) : Bool :=
  s.small && (treeB s.spots && (deadOk s.spots (s.spots.drop 1) && (grpsOk p (groupsT p sizes) s 0 0 1 s.groups && s.waits.all (waitOk p sizes s))))
end Go.Proofs
namespace Go.Proofs
open Go Go.Abs
theorem def_node {p : Prog} {sizes : List Int} (h : Formed p sizes) {i : Nat} {x : Node} (hx : p.nodes[i]? = some x) (ho : x.op = 4) : 0 ≤ x.n ∧ x.n < p.defs.length ∧ ∃ k v, x.kids = [k] ∧ 0 ≤ k ∧ sizes[k.toNat]? = some v ∧ kidSize sizes x = v ∧ 0 ≤ v ∧ v ≤ 5070 := by
  obtain ⟨s, l, hs, h0, hb, hok, hl, hq⟩ := h.node i x hx;simp only [nodeOk, Bool.and_eq_true, decide_eq_true_eq] at hok;have hn := hok.2.1;rw [nOk, if_neg (by rw [ho]; decide), if_pos ho] at hn;have hn := of_decide_eq_true hn;refine ⟨hn.1, hn.2, ?_⟩;have hk := hok.1;rw [ho] at hk;simp only [kidsOf] at hk;have hkl : x.kids.length = 1 := by simpa using hk.symm
  match hkk : x.kids, hkl with
  | [k], _ =>
    have hl2 := hl;rw [subsOf, if_pos ho] at hl2;split at hl2
    · rename_i d hd;split at hl2
      · rename_i hg;cases hl2;have hkq : 0 ≤ k ∧ sizes[k.toNat]? = some (s + d.own) := hq (k, s + d.own) (by simp [kidSubs, hkk]);have := own_le (okG_ok hg);exact ⟨k, s + d.own, rfl, hkq.1, hkq.2, by simp [kidSize, hkk, hkq.2], by omega, by omega⟩
      · cases hl2
    · cases hl2
end Go.Proofs
end
section
namespace Go.Proofs
open Go Go.Abs
set_option linter.unusedSimpArgs false
set_option linter.unusedVariables false
theorem mineOf_len (c k : Nat) (d : Def) : (mineOf c k d).length = d.own := by simp [mineOf, Def.own]
theorem mineOf_chan (c k : Nat) (d : Def) {j : Nat} (h : j < d.chans.length) : (mineOf c k d)[j]? = some ⟨3, (c : Int) + (j : Int)⟩ := by
  rw [mineOf, List.getElem?_append_left (by simpa using h), List.getElem?_map, List.getElem?_range' h];simp
theorem mineOf_spot (c k : Nat) (d : Def) {j : Nat} (h : j < d.spots.length) : (mineOf c k d)[d.chans.length + j]? = some ⟨4, (k : Int) + (j : Int)⟩ := by
  rw [mineOf, List.getElem?_append_right (by simp)];simp only [List.length_map, List.length_range'];rw [Nat.add_sub_cancel_left, List.getElem?_map, List.getElem?_range' h];simp
theorem mine_get {d : Def} {c k : Nat} {g : Group} (h : mineOk d c k g = true) (j : Nat) : g.env[g.env.length - d.chans.length - d.spots.length + j]? = (mineOf c k d)[j]? := by
  have h := of_decide_eq_true h;rw [← h, List.getElem?_drop]
theorem mine_chan {d : Def} {c k : Nat} {g : Group} (h : mineOk d c k g = true) {j : Nat} (hj : j < d.chans.length) : g.env[g.env.length - d.chans.length - d.spots.length + j]? = some ⟨3, (c : Int) + (j : Int)⟩ := by
  rw [mine_get h, mineOf_chan _ _ _ hj]
theorem mine_spot {d : Def} {c k : Nat} {g : Group} (h : mineOk d c k g = true) (he : d.own ≤ g.env.length) {j : Nat} (hj : j < d.spots.length) : g.env[g.env.length - d.spots.length + j]? = some ⟨4, (k : Int) + (j : Int)⟩ := by
  unfold Def.own at he;have := mine_get h (d.chans.length + j);rw [mineOf_spot _ _ _ hj] at this;rw [← this];congr 1;omega
theorem place_spot {d : Def} {c k : Nat} {g : Group} (h : mineOk d c k g = true) (he : d.own ≤ g.env.length) {n : Int} (h1 : 1 ≤ n) (h2 : n ≤ d.spots.length) : g.place d n = (k : Int) + (n - 1) := by
  rw [Group.place, if_neg (by omega), Group.own];simp only [Bool.false_eq_true, if_false, Nat.sub_zero];rw [mine_spot h he (j := (n - 1).toNat) (by omega)];simp only [Option.map_some, Option.getD_some];omega
theorem place_in {p : Prog} {s : Sol} {d : Def} {c k : Nat} {g : Group} (h : mineOk d c k g = true) (he : d.own ≤ g.env.length) (hat : inR s.spots g.at_) (hv : g.env.all (Val.inB p s.chans.length s.spots.length) = true) {n : Int} (h1 : 0 ≤ n) (h2 : n ≤ d.spots.length) : inR s.spots (g.place d n) := by
  by_cases h0 : n = 0
  · rw [Group.place, if_pos h0]; exact hat
  · rw [place_spot h he (by omega) h2];have hg := mine_spot h he (j := (n - 1).toNat) (by omega);have := List.all_eq_true.1 hv _ (List.mem_of_getElem? hg);simp [Val.inB] at this;have e : ((n - 1).toNat : Int) = n - 1 := Int.toNat_of_nonneg (by omega);constructor
    · omega
    · omega
theorem drop_own {g : Group} {d : Def} (he : d.own ≤ g.env.length) {i : Nat} (hi : i < d.own) : ∃ v, g.env[g.env.length - d.chans.length - d.spots.length + i]? = some v ∧ g.env.drop (g.env.length - d.chans.length - d.spots.length + i) = v :: g.env.drop (g.env.length - d.chans.length - d.spots.length + (i + 1)) := by
  unfold Def.own at *;obtain ⟨v, hv⟩ := get_some (l := g.env) (i := g.env.length - d.chans.length - d.spots.length + i) (by omega);exact ⟨v, hv, drop_cons hv⟩
end Go.Proofs
end
section
namespace Go.Proofs
open Go Go.Abs
set_option linter.unusedSimpArgs false
set_option linter.unusedVariables false
@[irreducible] def canonB (C : Cfg) (f : FuncId) (π : List Nat) (b : Nat) (e : Env) (h : Heap) : St := canonV π h (liveE e (C.live f b))
theorem canonB_eq (C : Cfg) (f : FuncId) (π : List Nat) (b : Nat) (e : Env) (h : Heap) : canonB C f π b e h = canonV π h (liveE e (C.live f b)) := by unfold canonB; rfl
theorem canon_153 (b : Nat) (e : Env) (h : Heap) (bs : Nat) (π : List Nat) (prot : Option (List Nat)) (rnd : Bool) (nt : Nat) : canon cfg ⟨153, π, false, prot, rnd, nt⟩ b ⟨e, h, bs, []⟩ = canonB cfg 153 π b e h := by
  rw [canonB_eq]; exact canon_own _ _ _ _ _
attribute [go_sem 2000] canon_153
def QRep (g : Heap) (v : AV) (q : List (List Val)) : Prop := (q.length = 0 ∧ v = .nils) ∨ (q.length ≠ 0 ∧ ∃ id, v = .osl id 0 q.length ∧ g.get id = some (.darr 1 (q.map encMsg)))
structure ChnsRep (g : Heap) (es : List (List AV)) (l : List Chn) : Prop where
  len : es.length = l.length
  row : ∀ (j : Nat) (x : Chn), l[j]? = some x → ∃ v, es[j]? = some (rowChn x v) ∧ QRep g v x.queue
  diff : (es.flatMap idsL).Nodup
def Named (π : List Nat) (b : Nat) (id : Abs.Id) : Prop := ∃ t j, j < b ∧ id = t :: j :: π
structure EachC (π : List Nat) (l : List Chn) (i : Nat) (v : AV) (g : Heap) (b : Nat) (A : Abs.Id) (es : List (List AV)) : Prop where
  val : v = .osl A 0 i
  arr : g.get A = some (.arr 4 es)
  rep : ChnsRep g es (l.take i)
  a : Named π b A
  ids : ∀ id ∈ es.flatMap idsL, Named π b id
  own : ∀ id, Id.under π id = false → g.get id = none
theorem named_is {k b : Nat} {ρ : List Nat} {A : Abs.Id} (h : Named (k :: ρ) b A) (t j : Nat) (hj : b ≤ j) : Id.is (t :: j :: k :: ρ) A = false ∧ Id.is A (t :: j :: k :: ρ) = false := by
  obtain ⟨t', j', h1, rfl⟩ := h;exact ⟨is_false (by simp; omega), is_false (by simp; omega)⟩
theorem named_is2 {k b : Nat} {ρ : List Nat} {A : Abs.Id} (h : Named (k :: ρ) b A) (m : List Nat) (hm : 2 < m.length) : Id.is (m ++ k :: ρ) A = false ∧ Id.is A (m ++ k :: ρ) = false := by
  obtain ⟨t', j', h1, rfl⟩ := h;constructor
  · refine is_false fun e => ?_;have := congrArg List.length e;simp at this;omega
  · refine is_false fun e => ?_;have := congrArg List.length e;simp at this;omega
theorem idsL_row (x : Chn) (v : AV) : idsL (rowChn x v) = idsOf v := by simp [rowChn, idsL, idsOf]
theorem qrep_ids {g : Heap} {v : AV} {q : List (List Val)} (h : QRep g v q) : (v = .nils ∧ idsOf v = []) ∨ ∃ id, v = .osl id 0 q.length ∧ idsOf v = [id] ∧ g.get id = some (.darr 1 (q.map encMsg)) := by
  rcases h with ⟨_, rfl⟩ | ⟨_, id, rfl, h⟩
  · exact .inl ⟨rfl, rfl⟩
  · exact .inr ⟨id, rfl, rfl, h⟩
theorem chnsRep_ids {g : Heap} {es : List (List AV)} {l : List Chn} (h : ChnsRep g es l) {id : Abs.Id} (hi : id ∈ es.flatMap idsL) : ∃ q : List (List Val), g.get id = some (.darr 1 (q.map encMsg)) := by
  obtain ⟨row, hr, hid⟩ := List.mem_flatMap.1 hi;obtain ⟨j, hj⟩ := List.getElem?_of_mem hr;have hjl := (List.getElem?_eq_some_iff.1 hj).1;obtain ⟨x, hx⟩ := get_some (l := l) (i := j) (by rw [← h.len]; exact hjl);obtain ⟨v, hv, hq⟩ := h.row j x hx;rw [hj] at hv;cases hv;rw [idsL_row] at hid;rcases qrep_ids hq with ⟨_, e⟩ | ⟨id2, _, e, hg⟩
  · rw [e] at hid; cases hid
  · rw [e, List.mem_singleton] at hid;subst hid;exact ⟨_, hg⟩
theorem chnsRep_mono {g H : Heap} {es : List (List AV)} {l : List Chn} (h : ChnsRep g es l) (hk : ∀ id ∈ es.flatMap idsL, H.get id = g.get id) : ChnsRep H es l := by
  refine ⟨h.len, fun j x hx => ?_, h.diff⟩;obtain ⟨v, hv, hq⟩ := h.row j x hx;refine ⟨v, hv, ?_⟩;rcases hq with hq | ⟨h0, id, rfl, hg⟩
  · exact .inl hq
  · refine .inr ⟨h0, id, rfl, ?_⟩;rw [hk id (List.mem_flatMap.2 ⟨_, List.mem_of_getElem? hv, by rw [idsL_row]; simp [idsOf]⟩)];exact hg
theorem chnsRep_add {H : Heap} {es : List (List AV)} {l : List Chn} (h : ChnsRep H es l) {x : Chn} {v : AV} (hq : QRep H v x.queue) (hn : ∀ id ∈ idsOf v, id ∉ es.flatMap idsL) : ChnsRep H (es ++ [rowChn x v]) (l ++ [x]) := by
  refine ⟨by simp [h.len], fun j y hy => ?_, ?_⟩
  · by_cases hj : j < l.length
    · rw [List.getElem?_append_left hj] at hy;obtain ⟨v', hv', hq'⟩ := h.row j y hy;exact ⟨v', by rw [List.getElem?_append_left (by rw [h.len]; exact hj)]; exact hv', hq'⟩
    · have hlt := (List.getElem?_eq_some_iff.1 hy).1;rw [List.length_append, List.length_singleton] at hlt;obtain rfl : j = l.length := by omega
      rw [List.getElem?_append_right (by omega)] at hy;simp only [Nat.sub_self, List.getElem?_cons_zero, Option.some.injEq] at hy;subst hy;exact ⟨v, by rw [List.getElem?_append_right (by rw [h.len]; omega), h.len]; simp, hq⟩
  · rw [List.flatMap_append, List.nodup_append];refine ⟨h.diff, ?_, ?_⟩
    · simp only [List.flatMap_cons, List.flatMap_nil, List.append_nil, idsL_row];rcases qrep_ids hq with ⟨_, e⟩ | ⟨id2, _, e, _⟩ <;> rw [e] <;> simp
    · intro a ha b hb hab;subst hab;simp only [List.flatMap_cons, List.flatMap_nil, List.append_nil, idsL_row] at hb;exact hn a hb ha
theorem nodup_map_on {α β : Type} {f : α → β} : ∀ {l : List α}, l.Nodup → (∀ x ∈ l, ∀ y ∈ l, f x = f y → x = y) → (l.map f).Nodup
  | [], _, _ => List.nodup_nil
  | x :: l, h, hf => by
    rw [List.nodup_cons] at h;rw [List.map_cons, List.nodup_cons];refine ⟨fun hm => ?_, nodup_map_on h.2 fun a ha b hb => hf a (List.mem_cons_of_mem _ ha) b (List.mem_cons_of_mem _ hb)⟩;obtain ⟨y, hy, e⟩ := List.mem_map.1 hm;have := hf y (List.mem_cons_of_mem _ hy) x (by simp) e;subst this;exact h.1 hy
theorem flatMap_len {es : List (List AV)} (h : ∀ r ∈ es, (idsL r).length ≤ 1) : (es.flatMap idsL).length ≤ es.length := by
  induction es with
  | nil => simp
  | cons r es ih =>
    have h1 := h r (by simp);have h2 := ih fun r hr => h r (List.mem_cons_of_mem _ hr);simp only [List.flatMap_cons, List.length_append, List.length_cons];omega
theorem chnsRep_len {g : Heap} {es : List (List AV)} {l : List Chn} (h : ChnsRep g es l) : (es.flatMap idsL).length ≤ es.length := by
  refine flatMap_len fun r hr => ?_;obtain ⟨j, hj⟩ := List.getElem?_of_mem hr;have hjl := (List.getElem?_eq_some_iff.1 hj).1;obtain ⟨x, hx⟩ := get_some (l := l) (i := j) (by rw [← h.len]; exact hjl);obtain ⟨v, hv, hq⟩ := h.row j x hx;rw [hj] at hv;cases hv;rw [idsL_row];rcases qrep_ids hq with ⟨_, e⟩ | ⟨id2, _, e, hg⟩ <;> rw [e] <;> simp
theorem chnsRep_ren {π : List Nat} {H H' : Heap} {e : Env} {ν : Abs.Id → Option Abs.Id} {n : Nat} (hR : Ren π H e ν H' n) {es : List (List AV)} {l : List Chn} (h : ChnsRep H es l) (hν : ∀ id ∈ es.flatMap idsL, ∃ z, ν id = some z) : ChnsRep H' (es.map (renL ν)) l ∧ ∀ id ∈ (es.map (renL ν)).flatMap idsL, Named π n id := by
  have key : ∀ r ∈ es, idsL (renL ν r) = (idsL r).map fun id => (ν id).getD [] := by
    intro r hr;obtain ⟨j, hj⟩ := List.getElem?_of_mem hr;have hjl := (List.getElem?_eq_some_iff.1 hj).1;obtain ⟨x, hx⟩ := get_some (l := l) (i := j) (by rw [← h.len]; exact hjl);obtain ⟨v, hv, hq⟩ := h.row j x hx;rw [hj] at hv;cases hv;have e1 : renL ν (rowChn x v) = rowChn x (ren ν v) := by simp [rowChn, renL, ren]
    rw [e1, idsL_row, idsL_row];rcases qrep_ids hq with ⟨rfl, e⟩ | ⟨id2, rfl, e, hg⟩
    · simp [ren, idsOf]
    · obtain ⟨z, hz⟩ := hν id2 (List.mem_flatMap.2 ⟨_, hr, by rw [idsL_row]; simp [idsOf]⟩);simp [ren, hz, idsOf]
  have key2 : (es.map (renL ν)).flatMap idsL = (es.flatMap idsL).map fun id => (ν id).getD [] := by
    rw [List.flatMap_map, List.map_flatMap];have : ∀ (l : List (List AV)), (∀ r ∈ l, idsL (renL ν r) = (idsL r).map fun id => (ν id).getD []) → (l.flatMap fun a => idsL (renL ν a)) = l.flatMap fun a => (idsL a).map fun id => (ν id).getD [] := by
      intro l hl;induction l with
      | nil => rfl
      | cons r l ih => rw [List.flatMap_cons, List.flatMap_cons, hl r (by simp), ih fun r hr => hl r (List.mem_cons_of_mem _ hr)]
    exact this es key
  refine ⟨⟨by rw [List.length_map, h.len], fun j x hx => ?_, ?_⟩, ?_⟩
  · obtain ⟨v, hv, hq⟩ := h.row j x hx;refine ⟨ren ν v, ?_, ?_⟩
    · rw [List.getElem?_map, hv];simp [rowChn, renL, ren]
    · rcases hq with ⟨h0, rfl⟩ | ⟨h0, id, rfl, hg⟩
      · exact .inl ⟨h0, rfl⟩
      · obtain ⟨z, hz⟩ := hν id (List.mem_flatMap.2 ⟨_, List.mem_of_getElem? hv, by rw [idsL_row]; simp [idsOf]⟩);refine .inr ⟨h0, z, by simp [ren, hz], ?_⟩;have := hR.get id z _ hz hg;simpa [renObj] using this
  · rw [key2];refine nodup_map_on h.diff fun x hx y hy e => ?_;obtain ⟨z, hz⟩ := hν x hx;obtain ⟨z2, hz2⟩ := hν y hy;rw [hz, hz2] at e;simp only [Option.getD_some] at e;subst e;exact hR.inj x y z hz hz2
  · intro id hid;rw [key2] at hid;obtain ⟨x, hx, rfl⟩ := List.mem_map.1 hid;obtain ⟨z, hz⟩ := hν x hx;obtain ⟨j, hj, rfl⟩ := hR.name x z hz;rw [hz];exact ⟨_, j, hj, rfl⟩
theorem eachC_step {K : Oracle} {fr : Fr} {bl : Nat} {x : Code} {Q : Out → St → Prop} {k : Nat} {ρ : List Nat} {l : List Chn} {E : Env} {H : Heap} {B : Abs.Id} {i : Nat} {es : List (List AV)} {x8 x9 x10 : Dat}
    (hE : liveE E (cfg.live 153 0) = [(1, .fn 154 [] []), (5, .osl B 0 i), (8, .d x8), (9, .d x9), (10, .d x10)]) (h1 : H.get B = some (.arr 4 es)) (h2 : ChnsRep H es (l.take i)) (hi : es.length ≤ 60)
    (hn : ∀ v g b A es, EachC (k :: ρ) l i v g b A es → WpL cfg K fr bl x ⟨[(1, .fn 154 [] []), (5, v), (8, .d x8), (9, .d x9), (10, .d x10)], g, b, []⟩ Q) : WpL cfg K fr bl x (canonB cfg 153 (k :: ρ) 0 E H) Q := by
  rw [canonB_eq, hE];have hlen := chnsRep_len h2;obtain ⟨ν, h', n, hc, hnM, hR⟩ := canonV_spec (k :: ρ) H [(1, .fn 154 [] []), (5, .osl B 0 i), (8, .d x8), (9, .d x9), (10, .d x10)] (B :: es.flatMap idsL) (by simp only [List.length_cons]; omega) (by
    intro y hy;simp [idsE, idsOf, idsL] at hy;simp [hy]) (by
    intro y hy z hz;rcases List.mem_cons.1 hy with rfl | hy
    · rw [h1] at hz;exact List.mem_cons_of_mem _ hz
    · obtain ⟨q, hq⟩ := chnsRep_ids h2 hy;rw [hq] at hz;cases hz)
  obtain ⟨z, hz⟩ := hR.env B (by simp [idsE, idsOf, idsL]);have hν : ∀ id ∈ es.flatMap idsL, ∃ z, ν id = some z := fun id hid => hR.deep B z hz id (by rw [h1]; exact hid);obtain ⟨r1, r2⟩ := chnsRep_ren hR h2 hν;rw [hc];have := hn (.osl z 0 i) h' n z (es.map (renL ν)) ⟨rfl, by have := hR.get B z _ hz h1; simpa [renObj] using this, r1, by obtain ⟨j, hj, rfl⟩ := hR.name B z hz; exact ⟨_, j, hj, rfl⟩, r2, fun id hu => by
    cases hg : h'.get id with
    | none => rfl
    | some o =>
      obtain ⟨y, hy⟩ := hR.only id o hg;obtain ⟨j, hj, rfl⟩ := hR.name y id hy;rw [under_own] at hu;cases hu⟩
  simpa [ren, renL, hz] using this
end Go.Proofs
end
section
namespace Go.Proofs
open Go Go.Abs
set_option maxRecDepth 100000
set_option maxHeartbeats 4000000
set_option linter.unusedSimpArgs false
set_option linter.unusedVariables false
def ChnsPost (π : List Nat) (l : List Chn) (r : COut × Heap) : Prop := (l.length = 0 ∧ r = (.ret .nils, [])) ∨ (l.length ≠ 0 ∧ ∃ v g b A es, r = (.ret v, g) ∧ EachC π l l.length v g b A es)
theorem eachChn (l : List Chn) (hl : l.length ≤ 60) (hf : ∀ x ∈ l, x.queue.length ≤ 1000000 ∧ ∀ y ∈ x.queue, y.length ≤ 1000000) (k : Nat) (ρ : List Nat) : ∃ r, askN (KL Tryz.prog cfg) 153 [.d (.lst (l.map encChn)), .fn 154 [] []] (k :: ρ) = .ok r ∧ ChnsPost (k :: ρ) l r := by
  (refine KN_post rfl Tryz.func153 rfl rfl rfl ?_; show Wp _ _ _ _ (Tryz.f153.body.get rfl) _ _; simp only [Tryz.f153, Option.get_some])
  (repeat' (first | simp only [go_sem, *, canonB_eq] | (refine sx ?_ ?_ <;> intro hc) | (refine sy (by omega) fun x hx => ?_ <;> have hm := List.mem_of_getElem? hx) | simp (disch := first | assumption | omega) only [wrap_id, le_max, le_maxI, slice_int]))
  refine rounds_len l _ (S := fun m i (a : (AV × Heap) × Nat) => ⟨[(1, .fn 154 [] []), (5, a.1.1), (8, .d (.lst (l.map encChn))), (9, .d (.int .i64 (m))), (10, .d (.int .i64 (i)))], a.1.2, a.2, []⟩)
    (Inv := fun i rest a => Later (i = 0 ∧ a = ((.nils, []), 0) ∨ 0 < i ∧ ∃ A es, EachC (k :: ρ) l i a.1.1 a.1.2 a.2 A es)) (b0 := ((_, []), _)) ?_ ⟨.inl ⟨rfl, rfl⟩⟩ ?_ ?_
  · rfl
  · rintro i x ⟨⟨v, g⟩, b⟩ hy hi him hv IH;dsimp only at *;have hx := fun k ρ => copiedChn_kl x (hf x (List.mem_of_getElem? hy)).1 (hf x (List.mem_of_getElem? hy)).2 k ρ;replace hf := Later.mk hf;have ht : Later (l.take (i + 1) = l.take i ++ [x]) := ⟨by rw [List.take_add_one, hy]; rfl⟩;rcases hv.out with ⟨rfl, he⟩ | ⟨hi0, A, es, hE⟩
    · clear hv;cases he;have him0 : (0 : Int) < l.length := him;by_cases h0 : x.queue.length = 0
      · simp only [ownChn, if_pos h0, rowChn] at hx
        (repeat' (first | simp only [go_sem, *, beq_dec, canonB_eq] | (refine sx ?_ ?_ <;> intro hc) | (refine sy (by omega) fun x hx => ?_ <;> have hm := List.mem_of_getElem? hx) | simp (disch := first | assumption | omega) only [wrap_id, le_max, le_maxI, slice_int]))
        refine IH.out ((_, _), _) ⟨.inr ⟨by omega, 1 :: 0 :: k :: ρ, [rowChn x .nils], rfl, by simp only [go_sem]; rfl, ?_, ⟨1, 0, Nat.lt_succ_self 0, rfl⟩, ?_, ?_⟩⟩
        · rw [ht.out];exact chnsRep_add (es := []) (l := []) ⟨rfl, by simp, by simp⟩ (.inl ⟨h0, rfl⟩) (by simp [idsOf])
        · simp [idsL_row, idsOf]
        · intro id hu;rw [heap_cons, is_false (by rintro rfl; rw [under_own] at hu; cases hu)];rfl
      · simp only [ownChn, if_neg h0, rowChn] at hx;have fa := flatArr_msg h0
        (repeat' (first | simp only [go_sem, *, beq_dec, canonB_eq] | (refine sx ?_ ?_ <;> intro hc) | (refine sy (by omega) fun x hx => ?_ <;> have hm := List.mem_of_getElem? hx) | simp (disch := first | assumption | omega) only [wrap_id, le_max, le_maxI, slice_int]))
        refine IH.out ((_, _), _) ⟨.inr ⟨by omega, 1 :: 0 :: k :: ρ, [rowChn x (.osl (1 :: 1 :: k :: ρ) 0 x.queue.length)], rfl, by simp only [go_sem]; rfl, ?_, ⟨1, 0, Nat.succ_pos 1, rfl⟩, ?_, ?_⟩⟩
        · rw [ht.out];refine chnsRep_add (es := []) (l := []) ⟨rfl, by simp, by simp⟩ (.inr ⟨h0, _, rfl, ?_⟩) (by simp [idsOf]);simp only [go_sem]
        · intro id hid;simp [idsL_row, idsOf] at hid;subst hid;exact ⟨1, 1, Nat.lt_succ_self 1, rfl⟩
        · intro id hu;rw [heap_cons, is_false (by rintro rfl; rw [under_own] at hu; cases hu), if_neg (by simp), heap_cons, is_false (by rintro rfl; rw [under_own] at hu; cases hu)];rfl
    · clear hv;obtain rfl := hE.val;have hA := hE.arr;have hes := hE.rep.len;have hti : (l.take i).length = i := by simp; omega
      have hrep := hE.rep;have hid := hE.ids;have fr : ∀ id, Named (k :: ρ) b id → id ≠ A → Later (Id.is (0 :: (b + 3) :: k :: ρ) id = false ∧ Id.is (1 :: (b + 9) :: k :: ρ) id = false ∧ Id.is (1 :: (b + 10) :: k :: ρ) id = false ∧ Id.is (0 :: 0 :: (b + 8) :: k :: ρ) id = false ∧ Id.is (0 :: 1 :: (b + 8) :: k :: ρ) id = false ∧ Id.is (1 :: 0 :: 2 :: 10 :: (b + 8) :: k :: ρ) id = false ∧ Id.is A id = false) := fun id h hne => ⟨(named_is h 0 (b + 3) (by omega)).1, (named_is h 1 (b + 9) (by omega)).1, (named_is h 1 (b + 10) (by omega)).1, (named_is2 h [0, 0, b + 8] (by simp)).1, (named_is2 h [0, 1, b + 8] (by simp)).1, (named_is2 h [1, 0, 2, 10, b + 8] (by simp)).1, is_false fun e => hne e.symm⟩;have hneA : ∀ id ∈ es.flatMap idsL, id ≠ A := fun id h e => by
        obtain ⟨q, hq⟩ := chnsRep_ids hrep h;rw [e, hA] at hq;cases hq
      have hX : 1 :: 0 :: 2 :: 10 :: (b + 8) :: k :: ρ ∉ es.flatMap idsL := fun h => by
        obtain ⟨t, j, _, e⟩ := hid _ h;have := congrArg List.length e;simp at this;omega
      obtain ⟨m1, m2⟩ := named_is hE.a 0 (b + 3) (by omega);obtain ⟨m3, m4⟩ := named_is hE.a 1 (b + 9) (by omega);obtain ⟨m5, m6⟩ := named_is2 hE.a [0, 0, b + 8] (by simp);obtain ⟨m7, m8⟩ := named_is2 hE.a [0, 1, b + 8] (by simp);obtain ⟨m9, m10⟩ := named_is2 hE.a [1, 0, 2, 10, b + 8] (by simp);simp only [List.cons_append, List.nil_append] at m5 m6 m7 m8 m9 m10;rw [hti] at hes;have tke : es.take i = es := List.take_of_length_le (by omega);replace hE := Later.mk hE;replace hrep := Later.mk hrep;replace hid := Later.mk hid;replace hneA := Later.mk hneA;replace fr := Later.mk fr;replace hX := Later.mk hX;have nle : ¬ i + 1 ≤ i := by omega
      have lm : i + 1 ≤ maxList := by unfold maxList; omega
      by_cases h0 : x.queue.length = 0
      · simp only [ownChn, if_pos h0, rowChn] at hx
        (repeat' (first | simp only [go_sem, *, beq_dec] | (refine sx ?_ ?_ <;> intro hc) | (refine sy (by omega) fun x hx => ?_ <;> have hm := List.mem_of_getElem? hx) | simp (disch := first | assumption | omega) only [wrap_id, le_max, le_maxI, slice_int]))
        refine eachC_step (B := 1 :: (b + 10) :: k :: ρ) (i := i + 1) (es := es ++ [rowChn x .nils]) ?_ ?_ ?_ ?_ (fun v g b A es hE2 => IH.out ((v, g), b) ⟨.inr ⟨by omega, A, es, hE2⟩⟩)
        · simp only [go_sem];rfl
        · simp only [go_sem];rfl
        · rw [ht.out];refine chnsRep_add (chnsRep_mono hrep.out fun id h => ?_) (.inl ⟨h0, rfl⟩) (by simp [idsOf]);obtain ⟨f1, f2, f3, f4, f5, f6, f7⟩ := (fr.out id (hid.out id h) (hneA.out id h)).out;simp only [go_sem, f1, f2, f3, f4, f5, f6, f7, Bool.false_eq_true]
        · simp; omega
      · simp only [ownChn, if_neg h0, rowChn] at hx;have fa := flatArr_msg h0
        (repeat' (first | simp only [go_sem, *, beq_dec] | (refine sx ?_ ?_ <;> intro hc) | (refine sy (by omega) fun x hx => ?_ <;> have hm := List.mem_of_getElem? hx) | simp (disch := first | assumption | omega) only [wrap_id, le_max, le_maxI, slice_int]))
        refine eachC_step (B := 1 :: (b + 10) :: k :: ρ) (i := i + 1) (es := es ++ [rowChn x (.osl (1 :: 0 :: 2 :: 10 :: (b + 8) :: k :: ρ) 0 x.queue.length)]) ?_ ?_ ?_ ?_ (fun v g b A es hE2 => IH.out ((v, g), b) ⟨.inr ⟨by omega, A, es, hE2⟩⟩)
        · simp only [go_sem];rfl
        · simp only [go_sem];rfl
        · rw [ht.out];refine chnsRep_add (chnsRep_mono hrep.out fun id h => ?_) (.inr ⟨h0, _, rfl, ?_⟩) (by simp only [idsOf, List.mem_singleton]; rintro id rfl; exact hX.out)
          · obtain ⟨f1, f2, f3, f4, f5, f6, f7⟩ := (fr.out id (hid.out id h) (hneA.out id h)).out;simp only [go_sem, f1, f2, f3, f4, f5, f6, f7, Bool.false_eq_true]
          · simp only [go_sem]
        · simp; omega
  · rintro i ⟨⟨v, g⟩, b⟩ hi him hv;dsimp only at *;rcases hv.out with ⟨rfl, he⟩ | ⟨hi0, A, es, hE⟩
    · cases he;have him0 : ¬ (0 : Int) < l.length := him;have hl0 := Later.mk hi.out.symm;clear hv
      (repeat' (first | simp only [go_sem, *, canonB_eq] | (refine sx ?_ ?_ <;> intro hc) | (refine sy (by omega) fun x hx => ?_ <;> have hm := List.mem_of_getElem? hx) | simp (disch := first | assumption | omega) only [wrap_id, le_max, le_maxI, slice_int]))
      exact .inl ⟨hl0.out, rfl⟩
    · clear hv;have hii := Later.mk hi.out;obtain rfl := hE.val;replace hE := Later.mk hE
      (repeat' (first | simp only [go_sem, *] | (refine sx ?_ ?_ <;> intro hc) | (refine sy (by omega) fun x hx => ?_ <;> have hm := List.mem_of_getElem? hx) | simp (disch := first | assumption | omega) only [wrap_id, le_max, le_maxI, slice_int]))
      obtain rfl := hii.out;exact .inr ⟨by omega, _, _, b, A, es, rfl, hE.out⟩
end Go.Proofs
end
section
namespace Go.Proofs
open Go Go.Abs
set_option maxRecDepth 100000
set_option maxHeartbeats 4000000
set_option linter.unusedSimpArgs false
set_option linter.unusedVariables false
structure Sol.Fits (s : Sol) : Prop where
  spots : s.spots.length ≤ 1000000
  groups : s.groups.length ≤ 1000000
  chans : s.chans.length ≤ 60
  waits : s.waits.length ≤ 1000000
  group : ∀ x ∈ s.groups, x.env.length ≤ 1000000
  chan : ∀ x ∈ s.chans, x.queue.length ≤ 1000000 ∧ ∀ y ∈ x.queue, y.length ≤ 1000000
  wait : ∀ x ∈ s.waits, x.env.length ≤ 1000000
def SlV (v : AV) : Prop := v = .nils ∨ ∃ id n, v = .osl id 0 n
theorem slv_n : SlV .nils := .inl rfl
theorem slv_o (id : Abs.Id) (n : Nat) : SlV (.osl id 0 n) := .inr ⟨id, n, rfl⟩
def CopyPost (π : List Nat) (s : Sol) (r : COut × Heap) : Prop := ∃ v1 v2 v3 v4 g, r = (.ret (.agg [v1, v2, v3, v4]), g) ∧ (s.spots.length ≠ 0 → ∃ id n, v1 = .osl id 0 n) ∧ SlV v2 ∧ SlV v3 ∧ SlV v4 ∧ ∀ id, Id.under π id = false → g.get id = none
theorem under_sib (i t j : Nat) (π : List Nat) (h : i ≠ j) : Id.under (i :: π) (t :: j :: π) = false := under_false fun hs => by
  rcases List.suffix_cons_iff.1 hs with e | hs
  · have := congrArg List.length e;simp at this
  rcases List.suffix_cons_iff.1 hs with e | hs
  · simp only [List.cons.injEq, and_true] at e;exact h e
  · have := hs.length_le;simp at this;omega
theorem heap_mem : ∀ {g : Heap} {x : Abs.Id}, x ∈ g.map (fun x => x.1) → g.get x ≠ none
  | (k, o) :: g, x, hx => by
    rw [heap_cons];split
    · simp
    · rename_i hk;rw [List.map_cons, List.mem_cons] at hx;rcases hx with rfl | hx
      · exact absurd (is_self _) hk
      · exact heap_mem hx
theorem all_not {g : Heap} {id : Abs.Id} (h : g.get id = none) : ((g.map fun x => x.1).all fun x => !Id.is x id) = true := by
  rw [List.all_eq_true];intro x hx;rw [is_false]
  · rfl
  · rintro rfl;exact heap_mem hx h
theorem copied_kl (s : Sol) (h : s.Fits) (k : Nat) (ρ : List Nat) : ∃ r, askN (KL Tryz.prog cfg) 92 [.agg [.d (.lst (s.spots.map encSpot)), .d (.lst (s.groups.map encGroup)), .d (.lst (s.chans.map encChn)), .d (.lst (s.waits.map encWait))]] (k :: ρ) = .ok r ∧ CopyPost (k :: ρ) s r := by
  have h1 := eachSpot 149 rfl s.spots (fun x _ => sameSpot_kl x) h.spots 4 (k :: ρ);have h2 := eachGroup 151 rfl s.groups (fun x hx => copiedGroup_kl x (h.group x hx)) h.groups 7 (k :: ρ);obtain ⟨r, h3, hp⟩ := eachChn s.chans h.chans h.chan 10 (k :: ρ);have h4 := eachWait 157 rfl s.waits (fun x hx => copiedWait_kl x (h.wait x hx)) h.waits 13 (k :: ρ);replace h := Later.mk h;rcases hp with ⟨z3, rfl⟩ | ⟨z3, v, g, b, A, es, rfl, hE⟩
  · by_cases z1 : s.spots.length = 0;all_goals by_cases z2 : s.groups.length = 0
    all_goals by_cases z4 : s.waits.length = 0
    all_goals
      simp only [ownR, z1, z2, z4, ↓reduceIte] at h1 h2 h4
      (refine KN_post rfl Tryz.func92 rfl rfl rfl ?_; show Wp _ _ _ _ (Tryz.f92.body.get rfl) _ _; simp only [Tryz.f92, Option.get_some])
      (repeat' (first | simp only [go_sem, *, flatArr_spot, flatArr_group, flatArr_wait, ne_eq, not_false_eq_true] | (refine sx ?_ ?_ <;> intro hc) | (refine sy (by omega) fun x hx => ?_ <;> have hm := List.mem_of_getElem? hx) | simp (disch := first | assumption | omega) only [wrap_id, le_max, le_maxI, slice_int]))
      refine ⟨_, _, _, _, _, rfl, fun _ => ?_, ?_, ?_, ?_, fun id hu => ?_⟩
      · first
        | (exfalso; assumption)
        | exact ⟨_, _, rfl⟩
        | (exfalso; omega)
      · first | exact slv_n | exact slv_o _ _
      · first | exact slv_n | exact slv_o _ _
      · first | exact slv_n | exact slv_o _ _
      · have a1 := not_is hu;have a2 := not_is (under_ext hu 4);have a3 := not_is (under_ext hu 7);have a4 := not_is (under_ext hu 13);simp only [go_sem, a1, a2, a3, a4, Bool.false_eq_true]
  · obtain rfl := hE.val;have hgA := hE.arr;have n00 := hE.own _ (under_sib 10 0 0 (k :: ρ) (by decide));have n01 := hE.own _ (under_sib 10 0 1 (k :: ρ) (by decide));have g00 : ∀ L, Heap.get (g ++ L) (0 :: 0 :: k :: ρ) = Heap.get L (0 :: 0 :: k :: ρ) := fun L => get_app_none n00;have g01 : ∀ L, Heap.get (g ++ L) (0 :: 1 :: k :: ρ) = Heap.get L (0 :: 1 :: k :: ρ) := fun L => get_app_none n01;have gal := all_not n00;replace hE := Later.mk hE;have f3 : ∀ o m, flatArr (.osl A o m) g = none := fun o m => by simp only [flatArr, hgA]
    by_cases z1 : s.spots.length = 0;all_goals by_cases z2 : s.groups.length = 0
    all_goals by_cases z4 : s.waits.length = 0
    all_goals
      simp only [ownR, z1, z2, z4, ↓reduceIte] at h1 h2 h4
      (refine KN_post rfl Tryz.func92 rfl rfl rfl ?_; show Wp _ _ _ _ (Tryz.f92.body.get rfl) _ _; simp only [Tryz.f92, Option.get_some])
      (repeat' (first | simp only [go_sem, *, flatArr_spot, flatArr_group, flatArr_wait, ne_eq, not_false_eq_true] | (refine sx ?_ ?_ <;> intro hc) | (refine sy (by omega) fun x hx => ?_ <;> have hm := List.mem_of_getElem? hx) | simp (disch := first | assumption | omega) only [wrap_id, le_max, le_maxI, slice_int]))
      refine ⟨_, _, _, _, _, rfl, fun _ => ?_, ?_, ?_, ?_, fun id hu => ?_⟩
      · first
        | (exfalso; assumption)
        | exact ⟨_, _, rfl⟩
        | (exfalso; omega)
      · first | exact slv_n | exact slv_o _ _
      · first | exact slv_n | exact slv_o _ _
      · first | exact slv_n | exact slv_o _ _
      · have a1 := not_is hu;have a2 := not_is (under_ext hu 4);have a3 := not_is (under_ext hu 7);have a4 := not_is (under_ext hu 13);have a5 : ∀ L, Heap.get (g ++ L) id = Heap.get L id := fun L => get_app_none (hE.out.own id (under_ext hu 10));simp only [go_sem, a1, a2, a3, a4, a5, Bool.false_eq_true]
end Go.Proofs
end
section
namespace Go.Proofs
open Go Go.Abs
set_option maxRecDepth 100000
set_option maxHeartbeats 4000000
set_option linter.unusedSimpArgs false
set_option linter.unusedVariables false
def shapeR (op : Int) : Int × Int × Bool :=
  if op = 1 then (0, 0, true) else if op = 7 then (0, 0, true) else if op = 2 then (-1, 0, true) else if op = 3 then (0, 2, true) else if op = 5 then (1, 2, true)
  else if op = 4 then (0, 1, true) else if op = 6 then (0, 1, true) else if op = 8 then (0, 1, true) else (0, 0, false)
theorem shapeR_kl (op : Int) : askN (KL Tryz.prog cfg) 168 [.d (.int .i64 op)] [] = .ok (.ret (.tup [.d (.int .i64 (shapeR op).1), .d (.int .i64 (shapeR op).2.1), .d (.bool (shapeR op).2.2)]), []) := by
  (refine KN_wp rfl Tryz.func168 rfl rfl rfl ?_; show Wp _ _ _ _ (Tryz.f168.body.get rfl) _ _; simp only [Tryz.f168, Option.get_some])
  (repeat' (first | simp only [go_sem, *] | (refine sx ?_ ?_ <;> intro hc) | (refine sy (by omega) fun x hx => ?_ <;> have hm := List.mem_of_getElem? hx) | simp (disch := first | assumption | omega) only [wrap_id, le_max, le_maxI, slice_int]))
  all_goals simp [shapeR, *]
structure DeepPost (x : Exp) (size depth n : Int) (h : Heap) (π : List Nat) (idn : Abs.Id) (o : COut) (h' : Heap) : Prop where
  ret : okE x size depth (60 - n) → o = .ret (.tup []) ∧ h'.get idn = some (.box [.d (.int .i64 (n + x.size))])
  pan : ¬ okE x size depth (60 - n) → o = .pan flawS
  frame : ∀ id', Id.under π id' = false → Id.is idn id' = false → h'.get id' = h.get id'
theorem deep_pan {x : Exp} {size depth n : Int} {h : Heap} {π : List Nat} {id : Abs.Id} {h' : Heap} (hk : ¬ okE x size depth (60 - n)) (hf : ∀ id', Id.under π id' = false → Id.is id id' = false → h'.get id' = h.get id') : DeepPost x size depth n h π id (.pan flawS) h' := ⟨fun h => absurd h hk, fun _ => rfl, hf⟩
theorem deep_ret {x : Exp} {size depth n : Int} {h : Heap} {π : List Nat} {id : Abs.Id} {h' : Heap} (hk : okE x size depth (60 - n)) (hg : h'.get id = some (.box [.d (.int .i64 (n + x.size))])) (hf : ∀ id', Id.under π id' = false → Id.is id id' = false → h'.get id' = h.get id') : DeepPost x size depth n h π id (.ret (.tup [])) h' := ⟨fun _ => ⟨rfl, hg⟩, fun h => absurd hk h, hf⟩
theorem deep_kl (x : Exp) : ∀ (size depth n : Int) (h : Heap) (π : List Nat) (idn ids idd : Abs.Id), h.get idn = some (.box [.d (.int .i64 n)]) → h.get ids = some (.box [.d (.int .i64 size)]) → h.get idd = some (.box [.fn 217 [] [.ptr idn 0, .ptr ids 0, .ptr idd 0]]) → Id.under π idn = false → Id.under π ids = false → Id.under π idd = false → Id.is idn ids = false → Id.is idn idd = false → 0 ≤ n → n ≤ 60 → 1 ≤ depth → depth ≤ 70 →
    ∃ o h', KL Tryz.prog cfg (.fn 217) [.agg [.d (.int .i64 x.op), .d (.int .i64 x.n), .d (.lst (x.kids.map encExp))], .d (.int .i64 depth), .ptr idn 0, .ptr ids 0, .ptr idd 0] h π true none = .ok (o, h') ∧ DeepPost x size depth n h π idn o h' := by
  induction x using Exp.ind with
  | h op m kids ih =>
  intro size depth n h π idn ids idd hg hgs hgd hu hus hud hns hnd h1 h2 h3 h4;simp only [Exp.op_mk, Exp.n_mk, Exp.kids_mk] at *;have u1 := not_is hu;have u2 := not_is' hu;have u3 := under_ext hu;have v1 := not_is hus;have v3 := under_ext hus;have x1 := not_is hud;have x3 := under_ext hud;have w1 : IntKind.i64.wrap (n + 1) = n + 1 := wrap_id (by omega) (by omega);have w2 : IntKind.i64.wrap (depth + 1) = depth + 1 := wrap_id (by omega) (by omega)
  (refine KL_post rfl Tryz.func217 rfl rfl rfl ?_; show Wp _ _ _ _ (Tryz.f217.body.get rfl) _ _; simp only [Tryz.f217, Option.get_some])
  have ih := Later.mk ih;rcases kids with _ | ⟨a, _ | ⟨b, _ | ⟨c, l⟩⟩⟩
  · (repeat' (first | simp only [go_sem, *] | (refine sx ?_ ?_ <;> intro hc) | (refine sy (by omega) fun x hx => ?_ <;> have hm := List.mem_of_getElem? hx) | simp (disch := first | assumption | omega) only [wrap_id, le_max, le_maxI, slice_int]))
    all_goals try (rw [WpL_run]; (repeat' (first | simp only [go_sem, *] | (refine sx ?_ ?_ <;> intro hc) | (refine sy (by omega) fun x hx => ?_ <;> have hm := List.mem_of_getElem? hx) | simp (disch := first | assumption | omega) only [wrap_id, le_max, le_maxI, slice_int])))
    all_goals first
      | omega
      | (refine deep_pan ?_ (fun id' e1 e2 => ?_)
         · clear ih; grind [okE, Exp.size, sizeL, Exp.depth, depthL, Exp.formed]
         · simp only [get_put, not_is e1, e2, Bool.false_eq_true, if_false])
      | (refine deep_ret ?_ ?_ (fun id' e1 e2 => ?_)
         · clear ih; grind [okE, Exp.size, sizeL, Exp.depth, depthL, Exp.formed]
         · simp [get_put, is_self, Exp.size, sizeL]
         · simp only [get_put, not_is e1, e2, Bool.false_eq_true, if_false])
  · (repeat' (first | simp only [go_sem, *] | (refine sx ?_ ?_ <;> intro hc) | (refine sy (by omega) fun x hx => ?_ <;> have hm := List.mem_of_getElem? hx) | simp (disch := first | assumption | omega) only [wrap_id, le_max, le_maxI, slice_int]))
    all_goals first
      | omega
      | (refine deep_pan ?_ (fun id' e1 e2 => ?_)
         · clear ih; grind [okE, Exp.size, sizeL, Exp.depth, depthL, Exp.formed]
         · simp only [get_put, not_is e1, e2, Bool.false_eq_true, if_false])
      | (refine deep_ret ?_ ?_ (fun id' e1 e2 => ?_)
         · clear ih; grind [okE, Exp.size, sizeL, Exp.depth, depthL, Exp.formed]
         · simp [get_put, is_self, Exp.size, sizeL]
         · simp only [get_put, not_is e1, e2, Bool.false_eq_true, if_false])
  · have iha := Later.mk (ih.out a (by simp));have ihb := Later.mk (ih.out b (by simp));clear ih;have sa := size_pos a;have sb := size_pos b
    (repeat' (first | simp only [go_sem, *] | (refine sx ?_ ?_ <;> intro hc) | (refine sy (by omega) fun x hx => ?_ <;> have hm := List.mem_of_getElem? hx) | simp (disch := first | assumption | omega) only [wrap_id, le_max, le_maxI, slice_int]))
    all_goals try
      (refine deep_pan ?_ (fun id' e1 e2 => ?_)
       · clear iha ihb; grind [okE, Exp.size, sizeL, Exp.depth, depthL, Exp.formed]
       · simp only [get_put, not_is e1, e2, Bool.false_eq_true, if_false])
    all_goals (rw [WpL_run]; (repeat' (first | simp only [go_sem, *] | (refine sx ?_ ?_ <;> intro hc) | (refine sy (by omega) fun x hx => ?_ <;> have hm := List.mem_of_getElem? hx) | simp (disch := first | assumption | omega) only [wrap_id, le_max, le_maxI, slice_int])))
    all_goals
      refine rawP_post (iha.out size (depth + 1) (n + 1) _ _ idn ids idd ?_ ?_ ?_ (u3 _) (v3 _) (x3 _) hns hnd ?_ ?_ ?_ ?_) (fun o1 g1 p1 => ?_)
      · simp only [go_sem, u1, hg]
      · simp only [go_sem, v1, hns, hgs, Bool.false_eq_true]
      · simp only [go_sem, x1, hnd, hgd, Bool.false_eq_true]
      · omega
      · omega
      · omega
      · omega
      have f1 := p1.frame;have s1 : g1.get ids = some (.box [.d (.int .i64 size)]) := by
        rw [f1 ids (v3 _) hns];simp only [go_sem, v1, hns, hgs, Bool.false_eq_true]
      have d1 : g1.get idd = some (.box [.fn 217 [] [.ptr idn 0, .ptr ids 0, .ptr idd 0]]) := by
        rw [f1 idd (x3 _) hnd];simp only [go_sem, x1, hnd, hgd, Bool.false_eq_true]
      have fr1 : ∀ id', Id.under π id' = false → Id.is idn id' = false → g1.get id' = h.get id' := fun id' e1 e2 => by
        rw [f1 id' (under_ext e1 _) e2];simp only [get_put, not_is e1, e2, Bool.false_eq_true, if_false]
      clear f1;by_cases ka : okE a size (depth + 1) (60 - (n + 1))
      · obtain ⟨rfl, r1⟩ := p1.ret ka;clear p1;have fr1 := Later.mk fr1
        (repeat' (first | simp only [go_sem, *] | (refine sx ?_ ?_ <;> intro hc) | (refine sy (by omega) fun x hx => ?_ <;> have hm := List.mem_of_getElem? hx) | simp (disch := first | assumption | omega) only [wrap_id, le_max, le_maxI, slice_int]))
        rw [WpL_run]
        (repeat' (first | simp only [go_sem, *] | (refine sx ?_ ?_ <;> intro hc) | (refine sy (by omega) fun x hx => ?_ <;> have hm := List.mem_of_getElem? hx) | simp (disch := first | assumption | omega) only [wrap_id, le_max, le_maxI, slice_int]))
        refine rawP_post (ihb.out size (depth + 1) (n + 1 + a.size) _ _ idn ids idd ?_ ?_ ?_ (u3 _) (v3 _) (x3 _) hns hnd ?_ ?_ ?_ ?_) (fun o2 g2 p2 => ?_)
        · simp only [go_sem, u1, u3, r1, Bool.false_eq_true]
        · simp only [go_sem, v1, v3, hns, s1, Bool.false_eq_true]
        · simp only [go_sem, x1, x3, hnd, d1, Bool.false_eq_true]
        · omega
        · grind [okE]
        · omega
        · omega
        have f2 := p2.frame;have fr : ∀ id', Id.under π id' = false → Id.is idn id' = false → g2.get id' = h.get id' := fun id' e1 e2 => by
          rw [f2 id' (under_ext e1 _) e2];simp only [get_put, not_is e1, get_gc _ _ _ (under_ext e1 _), fr1.out id' e1 e2, Bool.false_eq_true, if_false]
        have fr := Later.mk fr;clear f2 fr1;by_cases kb : okE b size (depth + 1) (60 - (n + 1 + a.size))
        · obtain ⟨rfl, r2⟩ := p2.ret kb;clear p2
          (repeat' (first | simp only [go_sem, *] | (refine sx ?_ ?_ <;> intro hc) | (refine sy (by omega) fun x hx => ?_ <;> have hm := List.mem_of_getElem? hx) | simp (disch := first | assumption | omega) only [wrap_id, le_max, le_maxI, slice_int]))
          rw [WpL_run]
          (repeat' (first | simp only [go_sem, *] | (refine sx ?_ ?_ <;> intro hc) | (refine sy (by omega) fun x hx => ?_ <;> have hm := List.mem_of_getElem? hx) | simp (disch := first | assumption | omega) only [wrap_id, le_max, le_maxI, slice_int]))
          refine deep_ret ?_ ?_ fun id' e1 e2 => ?_
          · clear iha ihb fr; grind [okE, Exp.size, sizeL, Exp.depth, depthL, Exp.formed]
          · rw [get_gc _ _ _ (u3 _), r2];simp [Exp.size, sizeL];omega
          · rw [get_gc _ _ _ (under_ext e1 _), fr.out id' e1 e2]
        · obtain rfl := p2.pan kb;clear p2
          (repeat' (first | simp only [go_sem, *] | (refine sx ?_ ?_ <;> intro hc) | (refine sy (by omega) fun x hx => ?_ <;> have hm := List.mem_of_getElem? hx) | simp (disch := first | assumption | omega) only [wrap_id, le_max, le_maxI, slice_int]))
          refine deep_pan ?_ fun id' e1 e2 => ?_
          · clear iha ihb fr; grind [okE, Exp.size, sizeL, Exp.depth, depthL, Exp.formed]
          · rw [get_gc _ _ _ (under_ext e1 _), fr.out id' e1 e2]
      · obtain rfl := p1.pan ka;clear p1
        (repeat' (first | simp only [go_sem, *] | (refine sx ?_ ?_ <;> intro hc) | (refine sy (by omega) fun x hx => ?_ <;> have hm := List.mem_of_getElem? hx) | simp (disch := first | assumption | omega) only [wrap_id, le_max, le_maxI, slice_int]))
        refine deep_pan ?_ (fun id' e1 e2 => ?_)
        · clear iha ihb; grind [okE, Exp.size, sizeL, Exp.depth, depthL, Exp.formed]
        · rw [get_gc _ _ _ (under_ext e1 _), fr1 id' e1 e2]
  · (repeat' (first | simp only [go_sem, *] | (refine sx ?_ ?_ <;> intro hc) | (refine sy (by omega) fun x hx => ?_ <;> have hm := List.mem_of_getElem? hx) | simp (disch := first | assumption | omega) only [wrap_id, le_max, le_maxI, slice_int]))
    all_goals first
      | omega
      | (refine deep_pan ?_ (fun id' e1 e2 => ?_)
         · clear ih; grind [okE, Exp.size, sizeL, Exp.depth, depthL, Exp.formed]
         · simp only [get_put, not_is e1, e2, Bool.false_eq_true, if_false])
      | (refine deep_ret ?_ ?_ (fun id' e1 e2 => ?_)
         · clear ih; grind [okE, Exp.size, sizeL, Exp.depth, depthL, Exp.formed]
         · simp [get_put, is_self, Exp.size, sizeL]
         · simp only [get_put, not_is e1, e2, Bool.false_eq_true, if_false])
theorem exp_kl (x : Exp) (size : Int) : askN (KL Tryz.prog cfg) 212 [.agg [.d (.int .i64 x.op), .d (.int .i64 x.n), .d (.lst (x.kids.map encExp))], .d (.int .i64 size)] [] = .ok (wantO flawS (x.ok size)) := by
  (refine KN_wp rfl Tryz.func212 rfl rfl rfl ?_; show Wp _ _ _ _ (Tryz.f212.body.get rfl) _ _; simp only [Tryz.f212, Option.get_some])
  (repeat' (first | simp only [go_sem, *] | (refine sx ?_ ?_ <;> intro hc) | (refine sy (by omega) fun x hx => ?_ <;> have hm := List.mem_of_getElem? hx) | simp (disch := first | assumption | omega) only [wrap_id, le_max, le_maxI, slice_int]))
  refine rawP_post (deep_kl x size 1 0 _ _ [0, 2] [0, 1] [0, 4] rfl rfl rfl rfl rfl rfl rfl rfl ?_ ?_ ?_ ?_) (fun o1 g1 p1 => ?_)
  · omega
  · omega
  · omega
  · omega
  have e : okE x size 1 (60 - 0) ↔ x.ok size = true := okE_ok x size;cases hx : x.ok size with
  | true =>
    obtain ⟨rfl, r1⟩ := p1.ret (e.2 hx);clear p1
    (repeat' (first | simp only [go_sem, *] | (refine sx ?_ ?_ <;> intro hc) | (refine sy (by omega) fun x hx => ?_ <;> have hm := List.mem_of_getElem? hx) | simp (disch := first | assumption | omega) only [wrap_id, le_max, le_maxI, slice_int]))
    rfl
  | false =>
    obtain rfl := p1.pan (fun h => by rw [e.1 h] at hx; cases hx);clear p1
    (repeat' (first | simp only [go_sem, *] | (refine sx ?_ ?_ <;> intro hc) | (refine sy (by omega) fun x hx => ?_ <;> have hm := List.mem_of_getElem? hx) | simp (disch := first | assumption | omega) only [wrap_id, le_max, le_maxI, slice_int]))
    rfl
end Go.Proofs
end
section
namespace Go.Proofs
open Go Go.Abs
set_option maxRecDepth 100000
set_option maxHeartbeats 4000000
set_option linter.unusedSimpArgs false
set_option linter.unusedVariables false
def slv (id : Abs.Id) (n : Nat) : AV := if n = 0 then .emp else .osl id 0 n
theorem slv_pos {id : Abs.Id} {n : Nat} (h : n ≠ 0) : slv id n = .osl id 0 n := by rw [slv, if_neg h]
structure Ids (π : List Nat) (l sz mt df : Abs.Id) : Prop where
  ul : Id.under π l = false
  us : Id.under π sz = false
  um : Id.under π mt = false
  ud : Id.under π df = false
  ls : Id.is l sz = false
  lm : Id.is l mt = false
  ld : Id.is l df = false
  sl : Id.is sz l = false
  sm : Id.is sz mt = false
  sd : Id.is sz df = false
  ml : Id.is mt l = false
  ms : Id.is mt sz = false
  md : Id.is mt df = false
  dl : Id.is df l = false
  ds : Id.is df sz = false
  dm : Id.is df mt = false
structure Looks (h : Heap) (p : Prog) (l sz mt df : Abs.Id) (st : LSt) : Prop where
  box : h.get l = some (.box [.d (.lst (p.free.map encStr)), .d (.lst (p.nodes.map encNode)), .d (.lst (p.defs.map encDef)), .d (.int .i64 p.main), slv sz p.nodes.length, slv mt p.nodes.length, slv df p.defs.length])
  sizes : p.nodes.length ≠ 0 → h.get sz = some (.darr 1 (st.sizes.map encInt))
  met : p.nodes.length ≠ 0 → h.get mt = some (.darr 1 (st.met.map encBool))
  defs : p.defs.length ≠ 0 → h.get df = some (.darr 1 (st.defs.map encBool))
structure NodePost (p : Prog) (l sz mt df : Abs.Id) (h : Heap) (π : List Nat) (r : Option LSt) (o : COut) (h' : Heap) : Prop where
  ret : ∀ st', r = some st' → o = .ret (.tup []) ∧ Looks h' p l sz mt df st' ∧ ∀ id', Id.under π id' = false → Id.is sz id' = false → Id.is mt id' = false → Id.is df id' = false → h'.get id' = h.get id'
  pan : r = none → o = .pan flawS
theorem node_pan {p : Prog} {l sz mt df : Abs.Id} {h : Heap} {π : List Nat} {r : Option LSt} {h' : Heap} (hr : r = none) : NodePost p l sz mt df h π r (.pan flawS) h' := ⟨fun st' hs => by { rw [hr] at hs; cases hs }, fun _ => rfl⟩
@[go_sem] theorem meth307 : cfg.meth 307 "cabotage/scope.kids" = some 236 := rfl
@[go_sem] theorem meth308 : cfg.meth 308 "cabotage/scope.kids" = some 237 := rfl
@[go_sem] theorem meth309 : cfg.meth 309 "cabotage/scope.kids" = some 238 := rfl
@[go_sem] theorem meth310 : cfg.meth 310 "cabotage/scope.kids" = some 239 := rfl
@[go_sem] theorem meth314 : cfg.meth 314 "cabotage/scope.kids" = some 240 := rfl
structure NFr (p : Prog) (l sz mt df : Abs.Id) (h : Heap) (π : List Nat) (L : List (Nat × Abs.Obj)) (st : LSt) (g : Heap) : Prop where
  looks : Looks g p l sz mt df st
  node : ∀ q ∈ L, g.get (0 :: q.1 :: π) = some q.2
  frame : ∀ id', Id.under π id' = false → Id.is sz id' = false → Id.is mt id' = false → Id.is df id' = false → g.get id' = h.get id'
theorem ids_ext {π : List Nat} {l sz mt df : Abs.Id} (h : Ids π l sz mt df) (n : Nat) : Ids (n :: π) l sz mt df := { h with ul := under_ext h.ul n, us := under_ext h.us n, um := under_ext h.um n, ud := under_ext h.ud n }
theorem under_box (i j : Nat) (π : List Nat) (h : i ≠ j) : Id.under (i :: π) (0 :: j :: π) = false := under_false fun hs => by
  rcases List.suffix_cons_iff.1 hs with e | hs
  · have := congrArg List.length e;simp at this
  rcases List.suffix_cons_iff.1 hs with e | hs
  · simp only [List.cons.injEq, and_true] at e;exact h e
  · have := hs.length_le;simp at this;omega
theorem looks_gc {g : Heap} {p : Prog} {l sz mt df : Abs.Id} {st : LSt} {ρ : List Nat} (h : Looks g p l sz mt df st) (hi : Ids ρ l sz mt df) : Looks (gc ρ g) p l sz mt df st :=
  ⟨by rw [get_gc _ _ _ hi.ul]; exact h.box, fun hn => by rw [get_gc _ _ _ hi.us]; exact h.sizes hn, fun hn => by rw [get_gc _ _ _ hi.um]; exact h.met hn, fun hn => by rw [get_gc _ _ _ hi.ud]; exact h.defs hn⟩
theorem nfr_put {p : Prog} {l sz mt df : Abs.Id} {h : Heap} {π : List Nat} {L : List (Nat × Abs.Obj)} {st : LSt} {g : Heap} (hf : NFr p l sz mt df h π L st g) (hi : Ids π l sz mt df) {j : Nat} {o : Abs.Obj} (hj : ∀ q ∈ L, j ≠ q.1) : NFr p l sz mt df h π L st (g.put (0 :: j :: π) o) := by
  refine ⟨⟨?_, fun hn => ?_, fun hn => ?_, fun hn => ?_⟩, fun q hq => ?_, fun id' h1 h2 h3 h4 => ?_⟩
  · rw [get_put, not_is hi.ul]; exact hf.looks.box
  · rw [get_put, not_is hi.us]; exact hf.looks.sizes hn
  · rw [get_put, not_is hi.um]; exact hf.looks.met hn
  · rw [get_put, not_is hi.ud]; exact hf.looks.defs hn
  · have : Id.is (0 :: j :: π) (0 :: q.1 :: π) = false := is_false fun e => hj q hq (by simpa using e);rw [get_put, this]; exact hf.node q hq
  · rw [get_put, not_is h1]; exact hf.frame id' h1 h2 h3 h4
theorem nfr_call {p : Prog} {l sz mt df : Abs.Id} {h : Heap} {π : List Nat} {L : List (Nat × Abs.Obj)} {st st' : LSt} {g g' : Heap} (hf : NFr p l sz mt df h π L st g) (hi : Ids π l sz mt df) {j : Nat} (hj : ∀ q ∈ L, j ≠ q.1) (hl : Looks g' p l sz mt df st') (hg : ∀ id', Id.under (j :: π) id' = false → Id.is sz id' = false → Id.is mt id' = false → Id.is df id' = false → g'.get id' = g.get id') : NFr p l sz mt df h π L st' (gc (j :: π) g') := by
  refine ⟨looks_gc hl (ids_ext hi j), fun q hq => ?_, fun id' h1 h2 h3 h4 => ?_⟩
  · have hu := under_box j q.1 π (hj q hq);rw [get_gc _ _ _ hu, hg _ hu (not_is' hi.us _ _) (not_is' hi.um _ _) (not_is' hi.ud _ _)];exact hf.node q hq
  · rw [get_gc _ _ _ (under_ext h1 j), hg _ (under_ext h1 j) h2 h3 h4];exact hf.frame id' h1 h2 h3 h4
theorem fit_grow {p : Prog} {st st' : LSt} (h : st.fit p) (hg : Grow st st') : st'.fit p := ⟨hg.sizes.trans h.sizes, hg.met.trans h.met, hg.defs.trans h.defs⟩
theorem exp_want (x : Exp) (size : Int) : askN (KL Tryz.prog cfg) 212 [.agg [.d (.int .i64 x.op), .d (.int .i64 x.n), .d (.lst (x.kids.map encExp))], .d (.int .i64 size)] [] = wantR flawS (x.ok size) := by rw [exp_kl, wantR_eq]
theorem def_want (d : Def) : askN (KL Tryz.prog cfg) 213 [.agg [.d (.lst (d.chans.map encChan)), .d (.lst (d.spots.map encDSpot)), .d (.lst (d.rules.map encRule))]] [] = wantR flawS d.okG := by rw [def_kl, wantR_eq]
theorem visit_step {p : Prog} {k : Nat} {n size : Int} {st : LSt} {x : Node} (hn : 0 ≤ n) (ht : st.met[n.toNat]? = some false) (hx : p.nodes[n.toNat]? = some x) : visit p (k + 1) n size st = if nodeOk p size x = true then match into p size x (st.meet n size) with
          | some (l, st2) => eachN (visit p k) l st2
          | none => none
        else none := by
  rw [visit, if_pos ⟨hn, ht⟩, hx];all_goals rfl
theorem visit_bad {p : Prog} {k : Nat} {n size : Int} {st : LSt} {x : Node} (hn : 0 ≤ n) (ht : st.met[n.toNat]? = some false) (hx : p.nodes[n.toNat]? = some x) (hb : nodeOk p size x = false) : visit p (k + 1) n size st = none := by
  rw [visit_step hn ht hx, hb, if_neg (by simp)]
theorem node_bad (p : Prog) (hN : p.nodes.length ≤ 60) (n size : Int) (st : LSt) (h : Heap) (π : List Nat) (l sz mt df : Abs.Id) (hfit : st.fit p) (hid : Ids π l sz mt df) (hl : Looks h p l sz mt df st) (hb : 0 ≤ n → n < p.nodes.length → st.met[n.toNat]? = some true) :
    ∃ o h', KL Tryz.prog cfg (.fn 201) [.ptr l 0, .d (.int .i64 n), .d (.int .i64 size)] h π true none = .ok (o, h') ∧ NodePost p l sz mt df h π none o h' := by
  obtain ⟨ul, us, um, ud, ls, lm, ld, sl, sm, sd, ml, ms, md, dl, ds, dm⟩ := hid;obtain ⟨lbox, lsz, lmt, ldf⟩ := hl;have lsz := Later.mk lsz;have ldf := Later.mk ldf;have hb := Later.mk hb;have hfm := hfit.met
  (refine KL_post rfl Tryz.func201 rfl rfl rfl ?_; show Wp _ _ _ _ (Tryz.f201.body.get rfl) _ _; simp only [Tryz.f201, Option.get_some])
  by_cases hn : 0 ≤ n
  · by_cases hn2 : n < p.nodes.length
    · have hne : p.nodes.length ≠ 0 := by omega
      have hlt : n.toNat < p.nodes.length := by omega
      have ht := hb.out hn hn2;have lmt := lmt hne;rw [slv_pos hne, slv_pos hne] at lbox
      (repeat' (first | simp only [go_sem, *] | (refine sx ?_ ?_ <;> intro hc) | (refine sy (by omega) fun x hx => ?_ <;> have hm := List.mem_of_getElem? hx) | simp (disch := first | assumption | omega) only [wrap_id, le_max, le_maxI, slice_int]))
      exact node_pan rfl
    · (repeat' (first | simp only [go_sem, *] | (refine sx ?_ ?_ <;> intro hc) | (refine sy (by omega) fun x hx => ?_ <;> have hm := List.mem_of_getElem? hx) | simp (disch := first | assumption | omega) only [wrap_id, le_max, le_maxI, slice_int]))
      exact node_pan rfl
  · (repeat' (first | simp only [go_sem, *] | (refine sx ?_ ?_ <;> intro hc) | (refine sy (by omega) fun x hx => ?_ <;> have hm := List.mem_of_getElem? hx) | simp (disch := first | assumption | omega) only [wrap_id, le_max, le_maxI, slice_int]))
    exact node_pan rfl
theorem node_kl (p : Prog) (hN : p.nodes.length ≤ 60) (hD : p.defs.length ≤ 12) : ∀ (k : Nat) (n size : Int) (st : LSt) (h : Heap) (π : List Nat) (l sz mt df : Abs.Id), unmet st.met ≤ k → st.fit p → 0 ≤ size → size + 70 * k ≤ 5000 → Ids π l sz mt df → Looks h p l sz mt df st →
    ∃ o h', KL Tryz.prog cfg (.fn 201) [.ptr l 0, .d (.int .i64 n), .d (.int .i64 size)] h π true none = .ok (o, h') ∧ NodePost p l sz mt df h π (visit p k n size st) o h' := by
  intro k;induction k with
  | zero =>
    intro n size st h π l sz mt df hk hfit h0 hb hid hl;refine node_bad p hN n size st h π l sz mt df hfit hid hl fun h1 h2 => ?_;obtain ⟨t, ht⟩ := get_some (l := st.met) (i := n.toNat) (by rw [hfit.met]; omega);cases t with
    | true => exact ht
    | false => have := unmet_set ht; omega
  | succ k ih =>
  intro n size st h π l sz mt df hk hfit h0 hb hid hl;have hid2 := Later.mk hid;obtain ⟨ul, us, um, ud, ls, lm, ld, sl, sm, sd, ml, ms, md, dl, ds, dm⟩ := hid;have hl2 := Later.mk hl;obtain ⟨lbox, lsz, lmt, ldf⟩ := hl;have e1 := not_is ul;have e2 := not_is us;have e3 := not_is um;have e4 := not_is ud;have e5 := not_is' ul;have e6 := not_is' us;have e7 := not_is' um;have e8 := not_is' ud;by_cases hn : 0 ≤ n
  · by_cases hn2 : n < p.nodes.length
    · have hne : p.nodes.length ≠ 0 := by omega
      have hlt : n.toNat < p.nodes.length := by omega
      obtain ⟨x, hx⟩ := get_some hlt;obtain ⟨t, ht⟩ := get_some (l := st.met) (i := n.toNat) (by rw [hfit.met]; omega);obtain ⟨s0, hs0⟩ := get_some (l := st.sizes) (i := n.toNat) (by rw [hfit.sizes]; omega);have lmt := lmt hne;have lsz := lsz hne;rw [slv_pos hne, slv_pos hne] at lbox;have ih := Later.mk ih;have ldf := Later.mk ldf;have hfs := hfit.sizes;have hfm := hfit.met;cases t with
      | true =>
        have e : visit p (k + 1) n size st = none := by
          rw [visit, if_neg];rw [ht];simp
        rw [e];exact node_bad p hN n size st h π l sz mt df hfit hid2.out hl2.out fun _ _ => ht
      | false =>
        (refine KL_post rfl Tryz.func201 rfl rfl rfl ?_; show Wp _ _ _ _ (Tryz.f201.body.get rfl) _ _; simp only [Tryz.f201, Option.get_some])
        have hs := Later.mk (visit_step (p := p) (k := k) (size := size) hn ht hx);have hbad := Later.mk (visit_bad (p := p) (k := k) (size := size) hn ht hx);obtain ⟨xo, xn, xa, xk⟩ := x;have hn0 : Later (∀ o o', NFr p l sz mt df h π [(46, o')] (st.meet n size) ((((h.put mt (.darr 1 ((List.map encBool st.met).set n.toNat [.bool true]))).put sz (.darr 1 ((List.map encInt st.sizes).set n.toNat [.int .i64 size]))).put (0 :: 46 :: π) o).put (0 :: 46 :: π) o')) := .mk fun o o' => by
          refine ⟨⟨?_, fun _ => ?_, fun _ => ?_, fun hd => ?_⟩, ?_, fun id' h1 h2 h3 h4 => ?_⟩
          · rw [slv_pos hne, slv_pos hne];simp only [get_put, e1, sl, ml, Bool.false_eq_true, if_false, lbox]
          · simp only [get_put, e2, is_self, Bool.false_eq_true, if_false, if_true, LSt.meet, List.map_set];rfl
          · simp only [get_put, e3, sm, is_self, Bool.false_eq_true, if_false, if_true, LSt.meet, List.map_set];rfl
          · simp only [get_put, e4, sd, md, Bool.false_eq_true, if_false, LSt.meet, ldf.out hd]
          · intro q hq;cases List.mem_singleton.1 hq;simp only [get_put, is_self, if_true]
          · simp only [get_put, not_is h1, h2, h3, Bool.false_eq_true, if_false]
        by_cases o4 : xo = 4
        · subst o4;by_cases x0 : xn < 0
          · (repeat' (first | simp only [go_sem, *, shapeOf_kl, shapeV] | (refine sx ?_ ?_ <;> intro hc) | (refine sy (by omega) fun x hx => ?_ <;> have hm := List.mem_of_getElem? hx) | simp (disch := first | assumption | omega) only [wrap_id, le_max, le_maxI, slice_int]))
            all_goals try (exfalso; omega)
            all_goals (exact node_pan (hbad.out (by clear e1 e2 e3 e4 e5 e6 e7 e8 lbox lmt lsz hs hbad ih hn0; grind [nodeOk, kidsOf, nOk, argsOk])))
          by_cases x1 : (p.defs.length : Int) ≤ xn
          · (repeat' (first | simp only [go_sem, *, shapeOf_kl, shapeV] | (refine sx ?_ ?_ <;> intro hc) | (refine sy (by omega) fun x hx => ?_ <;> have hm := List.mem_of_getElem? hx) | simp (disch := first | assumption | omega) only [wrap_id, le_max, le_maxI, slice_int]))
            all_goals try (exfalso; omega)
            all_goals (exact node_pan (hbad.out (by clear e1 e2 e3 e4 e5 e6 e7 e8 lbox lmt lsz hs hbad ih hn0; grind [nodeOk, kidsOf, nOk, argsOk])))
          have x2 : 0 ≤ xn := by omega
          have x3 : xn < p.defs.length := by omega
          have hdl : p.defs.length ≠ 0 := by omega
          have hxlt : xn.toNat < p.defs.length := by omega
          obtain ⟨d, hd⟩ := get_some hxlt;obtain ⟨t, htd⟩ := get_some (l := st.defs) (i := xn.toNat) (by rw [hfit.defs]; omega);have hfd := hfit.defs;have ldf2 := ldf.out hdl;rw [slv_pos hdl] at lbox;have hinto : into p size ⟨4, xn, xa, xk⟩ (st.meet n size) = if st.defs[xn.toNat]? = some false ∧ d.okG = true then some (ruleSubs d (size + d.own) d.rules ++ (spotSubs (size + d.own) d.spots ++ kidSubs (size + d.own) xk), { st.meet n size with defs := st.defs.set xn.toNat true }) else none := by
            rw [into, if_pos rfl, hd];rfl
          have hinto := Later.mk hinto;have hn1 : Later (∀ o o' b, NFr p l sz mt df h π [(131, o'), (46, b)] { st.meet n size with defs := st.defs.set xn.toNat true } (((((((h.put mt (.darr 1 ((List.map encBool st.met).set n.toNat [.bool true]))).put sz (.darr 1 ((List.map encInt st.sizes).set n.toNat [.int .i64 size]))).put (0 :: 46 :: π) (.box [.d (.int .i64 0), .d (.int .i64 0), .nils, .nils])).put (0 :: 46 :: π) b).put df (.darr 1 ((List.map encBool st.defs).set xn.toNat [.bool true]))).put (0 :: 131 :: π) o).put (0 :: 131 :: π) o')) := .mk fun o o' b => by
            refine ⟨⟨?_, fun _ => ?_, fun _ => ?_, fun hd => ?_⟩, ?_, fun id' h1 h2 h3 h4 => ?_⟩
            · rw [slv_pos hne, slv_pos hne, slv_pos hdl];simp only [get_put, e1, sl, ml, dl, Bool.false_eq_true, if_false, lbox]
            · simp only [get_put, e2, ds, is_self, Bool.false_eq_true, if_false, if_true, LSt.meet, List.map_set];rfl
            · simp only [get_put, e3, sm, dm, is_self, Bool.false_eq_true, if_false, if_true, LSt.meet, List.map_set];rfl
            · simp only [get_put, e4, is_self, Bool.false_eq_true, if_false, if_true, LSt.meet, List.map_set];rfl
            · simp only [List.mem_cons, List.not_mem_nil, or_false, forall_eq_or_imp, forall_eq];simp only [go_sem, e8]
            · simp only [get_put, not_is h1, h2, h3, h4, Bool.false_eq_true, if_false]
          by_cases hgt : t = false ∧ d.okG = true
          · obtain ⟨rfl, hg⟩ := hgt;have hdo := okG_ok hg;have c1 := hdo.chans;have c2 := hdo.spots;have c3 := hdo.rules;have hown := own_le hdo;have hok := own_kl d (by omega) (by omega);have hdo := Later.mk hdo
            (repeat' (first | simp only [go_sem, *, shapeOf_kl, shapeV, def_want] | (refine sx ?_ ?_ <;> intro hc) | (refine sy (by omega) fun x hx => ?_ <;> have hm := List.mem_of_getElem? hx) | simp (disch := first | assumption | omega) only [wrap_id, le_max, le_maxI, slice_int]))
            all_goals try (exfalso; omega)
            all_goals try (exact node_pan (hbad.out (by clear e1 e2 e3 e4 e5 e6 e7 e8 lbox lmt lsz hs hbad ih hn0; grind [nodeOk, kidsOf, nOk, argsOk])))
            rw [WpL_run]
            (repeat' (first | simp only [go_sem, *, def_want] | (refine sx ?_ ?_ <;> intro hc) | (refine sy (by omega) fun x hx => ?_ <;> have hm := List.mem_of_getElem? hx) | simp (disch := first | assumption | omega) only [wrap_id, le_max, le_maxI, slice_int]))
            refine rounds_len d.rules _ (fun m i a => ⟨[(0, .ptr l 0), (2, .d (.int .i64 (size + (d.own : Int)))), (6, .ptr (0 :: 46 :: π) 0), (11, .ptr (0 :: 131 :: π) 0), (190, .d (.lst (d.rules.map encRule))), (191, .d (.int .i64 m)), (192, .d (.int .i64 i))], a.1.1, a.2 + 144, []⟩)
              (Inv := fun i rest a => NFr p l sz mt df h π [(131, .box [.d (.lst (d.chans.map encChan)), .d (.lst (d.spots.map encDSpot)), .d (.lst (d.rules.map encRule))]), (46, .box [.d (.int .i64 4), .d (.int .i64 xn), .d (.lst (xa.map encExp)), .d (.lst (xk.map encInt))])] a.1.2 a.1.1 ∧ a.1.2.fit p ∧ unmet a.1.2.met ≤ k ∧ Later (visit p (k + 1) n size st = eachN (visit p k) (ruleSubs d (size + d.own) rest ++ (spotSubs (size + d.own) d.spots ++ kidSubs (size + d.own) xk)) a.1.2)) (b0 := ((_, { st.meet n size with defs := st.defs.set xn.toNat true }), _)) ?_ ⟨hn1.out _ _ _, ?_, ?_, ⟨?_⟩⟩ ?_ ?_
            · rfl
            · have := meet_fit hfit n size;exact ⟨this.sizes, this.met, by simp [hfit.defs]⟩
            · have := unmet_set ht;simp only [LSt.meet];omega
            · rw [hs.out, if_pos, hinto.out, if_pos ⟨htd, hg⟩];have h00 : ((xa.length : Int) = 0) := by assumption
              have hxa : xa = [] := List.eq_nil_of_length_eq_zero (by omega);clear e1 e2 e3 e4 e5 e6 e7 e8 lbox lmt lsz hs hbad ih hn0 hn1 hdo hinto;grind [nodeOk, kidsOf, nOk, argsOk]
            · rintro i r ⟨⟨g, st1⟩, c⟩ hy hi him ⟨hf, hfit1, hun, hv⟩ IH;dsimp only at *;have hr1 := hf.node _ (List.mem_cons_self ..);dsimp only at hr1;have hj := rule_joins hdo.out (List.mem_of_getElem? hy);have hb1 := brings_kl d r hj;have hb2 := bringsL_le hj.2.2 r.joins;have hb3 := hj.1;have hj := Later.mk hj
              (repeat' (first | simp only [go_sem, *] | (refine sx ?_ ?_ <;> intro hc) | (refine sy (by omega) fun x hx => ?_ <;> have hm := List.mem_of_getElem? hx) | simp (disch := first | assumption | omega) only [wrap_id, le_max, le_maxI, slice_int]))
              refine rawF_post (ih.out r.node (size + d.own + bringsL d r.joins) st1 _ _ l sz mt df hun hfit1 (by omega) (by omega) (ids_ext hid2.out _) (nfr_put (nfr_put hf hid2.out ?_) hid2.out ?_).looks) (fun o1 g1 p1 => ?_)
              · simp only [List.mem_cons, List.not_mem_nil, or_false, forall_eq_or_imp, forall_eq]; omega
              · simp only [List.mem_cons, List.not_mem_nil, or_false, forall_eq_or_imp, forall_eq]; omega
              cases hvy : visit p k r.node (size + d.own + bringsL d r.joins) st1 with
              | none =>
                obtain rfl := p1.pan hvy;clear p1
                (repeat' (first | simp only [go_sem, *] | (refine sx ?_ ?_ <;> intro hc) | (refine sy (by omega) fun x hx => ?_ <;> have hm := List.mem_of_getElem? hx) | simp (disch := first | assumption | omega) only [wrap_id, le_max, le_maxI, slice_int]))
                refine node_pan (hv.out.trans ?_);simp only [ruleSubs, List.map_cons, List.cons_append, eachN, hvy]
              | some st2 =>
                obtain ⟨rfl, hl2, hfr⟩ := p1.ret st2 hvy;have hfr := Later.mk hfr;clear p1
                (repeat' (first | simp only [go_sem, *] | (refine sx ?_ ?_ <;> intro hc) | (refine sy (by omega) fun x hx => ?_ <;> have hm := List.mem_of_getElem? hx) | simp (disch := first | assumption | omega) only [wrap_id, le_max, le_maxI, slice_int]))
                have hgr := visit_grow p _ _ _ _ _ hvy;refine IH.out ((_, st2), _) ⟨nfr_call (nfr_put (nfr_put hf hid2.out ?_) hid2.out ?_) hid2.out ?_ hl2 hfr.out, fit_grow hfit1 hgr, Nat.le_trans hgr.less hun, ⟨?_⟩⟩
                · simp only [List.mem_cons, List.not_mem_nil, or_false, forall_eq_or_imp, forall_eq]; omega
                · simp only [List.mem_cons, List.not_mem_nil, or_false, forall_eq_or_imp, forall_eq]; omega
                · simp only [List.mem_cons, List.not_mem_nil, or_false, forall_eq_or_imp, forall_eq]; omega
                · rw [hv.out]; simp only [ruleSubs, List.map_cons, List.cons_append, eachN, hvy]
            · rintro i ⟨⟨g, st1⟩, c⟩ hi him ⟨hf, hfit1, hun, hv⟩;dsimp only at *;have hr1 := hf.node _ (List.mem_cons_self ..);have hr2 := hf.node _ (List.mem_cons_of_mem _ (List.mem_cons_self ..));dsimp only at hr1 hr2
              (repeat' (first | simp only [go_sem, *] | (refine sx ?_ ?_ <;> intro hc) | (refine sy (by omega) fun x hx => ?_ <;> have hm := List.mem_of_getElem? hx) | simp (disch := first | assumption | omega) only [wrap_id, le_max, le_maxI, slice_int]))
              refine rounds_len d.spots _ (fun m i a => ⟨[(0, .ptr l 0), (2, .d (.int .i64 (size + (d.own : Int)))), (6, .ptr (0 :: 46 :: π) 0), (207, .d (.lst (d.spots.map encDSpot))), (208, .d (.int .i64 m)), (209, .d (.int .i64 i))], a.1.1, a.2 + 144, []⟩)
                (Inv := fun i rest a => NFr p l sz mt df h π [(131, .box [.d (.lst (d.chans.map encChan)), .d (.lst (d.spots.map encDSpot)), .d (.lst (d.rules.map encRule))]), (46, .box [.d (.int .i64 4), .d (.int .i64 xn), .d (.lst (xa.map encExp)), .d (.lst (xk.map encInt))])] a.1.2 a.1.1 ∧ a.1.2.fit p ∧ unmet a.1.2.met ≤ k ∧ Later (visit p (k + 1) n size st = eachN (visit p k) (spotSubs (size + d.own) rest ++ kidSubs (size + d.own) xk) a.1.2)) (b0 := ((g, st1), _)) rfl ⟨hf, hfit1, hun, ⟨?_⟩⟩ ?_ ?_
              · exact hv.out
              · clear hf hfit1 hun hv hr1 hr2 i hi him g st1 c;rintro i r ⟨⟨g, st1⟩, c⟩ hy hi him ⟨hf, hfit1, hun, hv⟩ IH;dsimp only at *
                (repeat' (first | simp only [go_sem, *] | (refine sx ?_ ?_ <;> intro hc) | (refine sy (by omega) fun x hx => ?_ <;> have hm := List.mem_of_getElem? hx) | simp (disch := first | assumption | omega) only [wrap_id, le_max, le_maxI, slice_int]))
                refine rawP_post (ih.out r.node (size + d.own) st1 _ _ l sz mt df hun hfit1 (by omega) (by omega) (ids_ext hid2.out _) (nfr_put (nfr_put hf hid2.out ?_) hid2.out ?_).looks) (fun o1 g1 p1 => ?_)
                · simp only [List.mem_cons, List.not_mem_nil, or_false, forall_eq_or_imp, forall_eq]; omega
                · simp only [List.mem_cons, List.not_mem_nil, or_false, forall_eq_or_imp, forall_eq]; omega
                cases hvy : visit p k r.node (size + d.own) st1 with
                | none =>
                  obtain rfl := p1.pan hvy;clear p1
                  (repeat' (first | simp only [go_sem, *] | (refine sx ?_ ?_ <;> intro hc) | (refine sy (by omega) fun x hx => ?_ <;> have hm := List.mem_of_getElem? hx) | simp (disch := first | assumption | omega) only [wrap_id, le_max, le_maxI, slice_int]))
                  refine node_pan (hv.out.trans ?_);simp only [spotSubs, List.map_cons, List.cons_append, eachN, hvy]
                | some st2 =>
                  obtain ⟨rfl, hl2, hfr⟩ := p1.ret st2 hvy;have hfr := Later.mk hfr;clear p1
                  (repeat' (first | simp only [go_sem, *] | (refine sx ?_ ?_ <;> intro hc) | (refine sy (by omega) fun x hx => ?_ <;> have hm := List.mem_of_getElem? hx) | simp (disch := first | assumption | omega) only [wrap_id, le_max, le_maxI, slice_int]))
                  have hgr := visit_grow p _ _ _ _ _ hvy;refine IH.out ((_, st2), _) ⟨nfr_call (nfr_put (nfr_put hf hid2.out ?_) hid2.out ?_) hid2.out ?_ hl2 hfr.out, fit_grow hfit1 hgr, Nat.le_trans hgr.less hun, ⟨?_⟩⟩
                  · simp only [List.mem_cons, List.not_mem_nil, or_false, forall_eq_or_imp, forall_eq]; omega
                  · simp only [List.mem_cons, List.not_mem_nil, or_false, forall_eq_or_imp, forall_eq]; omega
                  · simp only [List.mem_cons, List.not_mem_nil, or_false, forall_eq_or_imp, forall_eq]; omega
                  · rw [hv.out]; simp only [spotSubs, List.map_cons, List.cons_append, eachN, hvy]
              · clear hf hfit1 hun hv hr1 hr2 i hi him g st1 c;rintro i ⟨⟨g, st1⟩, c⟩ hi him ⟨hf, hfit1, hun, hv⟩;dsimp only at *;have hr1 := hf.node _ (List.mem_cons_self ..);have hr2 := hf.node _ (List.mem_cons_of_mem _ (List.mem_cons_self ..));dsimp only at hr1 hr2
                (repeat' (first | simp only [go_sem, *] | (refine sx ?_ ?_ <;> intro hc) | (refine sy (by omega) fun x hx => ?_ <;> have hm := List.mem_of_getElem? hx) | simp (disch := first | assumption | omega) only [wrap_id, le_max, le_maxI, slice_int]))
                refine rounds_len xk _ (fun m i a => ⟨[(0, .ptr l 0), (2, .d (.int .i64 (size + (d.own : Int)))), (220, .d (.lst (xk.map encInt))), (221, .d (.int .i64 m)), (222, .d (.int .i64 i))], a.1.1, a.2 + 144, []⟩)
                  (Inv := fun i rest a => NFr p l sz mt df h π [(131, .box [.d (.lst (d.chans.map encChan)), .d (.lst (d.spots.map encDSpot)), .d (.lst (d.rules.map encRule))]), (46, .box [.d (.int .i64 4), .d (.int .i64 xn), .d (.lst (xa.map encExp)), .d (.lst (xk.map encInt))])] a.1.2 a.1.1 ∧ a.1.2.fit p ∧ unmet a.1.2.met ≤ k ∧ Later (visit p (k + 1) n size st = eachN (visit p k) (kidSubs (size + d.own) rest) a.1.2)) (b0 := ((g, st1), _)) ?_ ⟨hf, hfit1, hun, ⟨?_⟩⟩ ?_ ?_
                · omega
                · exact hv.out
                · clear hf hfit1 hun hv hr1 hr2 i hi him g st1 c;rintro i y ⟨⟨g, st1⟩, c⟩ hy hi him ⟨hf, hfit1, hun, hv⟩ IH;dsimp only at *
                  (repeat' (first | simp only [go_sem, *] | (refine sx ?_ ?_ <;> intro hc) | (refine sy (by omega) fun x hx => ?_ <;> have hm := List.mem_of_getElem? hx) | simp (disch := first | assumption | omega) only [wrap_id, le_max, le_maxI, slice_int]))
                  refine rawP_post (ih.out y (size + d.own) st1 _ _ l sz mt df hun hfit1 (by omega) (by omega) (ids_ext hid2.out _) hf.looks) (fun o1 g1 p1 => ?_);cases hvy : visit p k y (size + d.own) st1 with
                  | none =>
                    obtain rfl := p1.pan hvy;clear p1
                    (repeat' (first | simp only [go_sem, *] | (refine sx ?_ ?_ <;> intro hc) | (refine sy (by omega) fun x hx => ?_ <;> have hm := List.mem_of_getElem? hx) | simp (disch := first | assumption | omega) only [wrap_id, le_max, le_maxI, slice_int]))
                    refine node_pan (hv.out.trans ?_);simp only [kidSubs, List.map_cons, List.cons_append, eachN, hvy]
                  | some st2 =>
                    obtain ⟨rfl, hl2, hfr⟩ := p1.ret st2 hvy;have hfr := Later.mk hfr;clear p1
                    (repeat' (first | simp only [go_sem, *] | (refine sx ?_ ?_ <;> intro hc) | (refine sy (by omega) fun x hx => ?_ <;> have hm := List.mem_of_getElem? hx) | simp (disch := first | assumption | omega) only [wrap_id, le_max, le_maxI, slice_int]))
                    have hgr := visit_grow p _ _ _ _ _ hvy;refine IH.out ((_, st2), _) ⟨nfr_call hf hid2.out ?_ hl2 hfr.out, fit_grow hfit1 hgr, Nat.le_trans hgr.less hun, ⟨?_⟩⟩
                    · simp only [List.mem_cons, List.not_mem_nil, or_false, forall_eq_or_imp, forall_eq]; omega
                    · rw [hv.out]; simp only [kidSubs, List.map_cons, List.cons_append, eachN, hvy]
                · clear hf hfit1 hun hv hr1 hr2 i hi him g st1 c;rintro i ⟨⟨g, st1⟩, c⟩ hi him ⟨hf, hfit1, hun, hv⟩;dsimp only at *
                  (repeat' (first | simp only [go_sem, *] | (refine sx ?_ ?_ <;> intro hc) | (refine sy (by omega) fun x hx => ?_ <;> have hm := List.mem_of_getElem? hx) | simp (disch := first | assumption | omega) only [wrap_id, le_max, le_maxI, slice_int]))
                  refine ⟨fun st' hst => ?_, fun hst => ?_⟩
                  · rw [hv.out] at hst;cases hst;exact ⟨rfl, hf.looks, hf.frame⟩
                  · rw [hv.out] at hst;cases hst
          · have hno : Later (visit p (k + 1) n size st = none) := by
              refine ⟨?_⟩;rw [hs.out, hinto.out, htd];split
              · rw [if_neg (by simpa using hgt)]
              · rfl
            cases t
            · have hg : d.okG = false := by simpa using hgt
              (repeat' (first | simp only [go_sem, *, shapeOf_kl, shapeV, def_want] | (refine sx ?_ ?_ <;> intro hc) | (refine sy (by omega) fun x hx => ?_ <;> have hm := List.mem_of_getElem? hx) | simp (disch := first | assumption | omega) only [wrap_id, le_max, le_maxI, slice_int]))
              all_goals try (exfalso; omega)
              all_goals try (exact node_pan hno.out)
              rw [WpL_run]
              (repeat' (first | simp only [go_sem, *, def_want] | (refine sx ?_ ?_ <;> intro hc) | (refine sy (by omega) fun x hx => ?_ <;> have hm := List.mem_of_getElem? hx) | simp (disch := first | assumption | omega) only [wrap_id, le_max, le_maxI, slice_int]))
              try exact node_pan hno.out
            · (repeat' (first | simp only [go_sem, *, shapeOf_kl, shapeV] | (refine sx ?_ ?_ <;> intro hc) | (refine sy (by omega) fun x hx => ?_ <;> have hm := List.mem_of_getElem? hx) | simp (disch := first | assumption | omega) only [wrap_id, le_max, le_maxI, slice_int]))
              all_goals try (exfalso; omega)
              all_goals (exact node_pan hno.out)
        have hop : xo = 1 ∨ xo = 7 ∨ xo = 3 ∨ (xo = 2 ∧ 3 < (xa.length : Int)) ∨ (xo = 2 ∧ ¬ 3 < (xa.length : Int)) ∨ xo = 5 ∨ xo = 6 ∨ xo = 8 ∨ (¬ xo = 1 ∧ ¬ xo = 7 ∧ ¬ xo = 3 ∧ ¬ xo = 2 ∧ ¬ xo = 5 ∧ ¬ xo = 6 ∧ ¬ xo = 8) := by omega
        rcases hop with rfl | rfl | rfl | ⟨rfl, ha⟩ | ⟨rfl, ha⟩ | rfl | rfl | rfl | ⟨n1, n2, n3, n4, n5, n6, n7⟩;all_goals ((repeat' (first | simp only [go_sem, *, shapeOf_kl, shapeV] | (refine sx ?_ ?_ <;> intro hc) | (refine sy (by omega) fun x hx => ?_ <;> have hm := List.mem_of_getElem? hx) | simp (disch := first | assumption | omega) only [wrap_id, le_max, le_maxI, slice_int])))
        all_goals try (exfalso; omega)
        all_goals try (exact node_pan (hbad.out (by clear e1 e2 e3 e4 e5 e6 e7 e8 lbox lmt lsz hs hbad ih hn0; grind [nodeOk, kidsOf, nOk, argsOk])))
        all_goals
          refine rounds_len xa _ (fun m i a => ⟨[(0, .ptr l 0), (2, .d (.int .i64 size)), (6, .ptr (0 :: 46 :: π) 0), (154, .d (.lst (xa.map encExp))), (155, .d (.int .i64 m)), (156, .d (.int .i64 i))], a.1, a.2 + 60, []⟩)
            (Inv := fun i rest a => NFr p l sz mt df h π _ (st.meet n size) a.1 ∧ Later (xa.all (Exp.ok size) = rest.all (Exp.ok size))) (b0 := (_, _)) ?_ ⟨hn0.out _ _, ⟨rfl⟩⟩ ?_ ?_
          · omega
          · rintro i y ⟨g, c⟩ hy hi him ⟨hf, hr⟩ IH;dsimp only at *;try (exfalso; omega)
            all_goals ((repeat' (first | simp only [go_sem, *, exp_want] | (refine sx ?_ ?_ <;> intro hc) | (refine sy (by omega) fun x hx => ?_ <;> have hm := List.mem_of_getElem? hx) | simp (disch := first | assumption | omega) only [wrap_id, le_max, le_maxI, slice_int])))
            all_goals first
            | exact node_pan (hbad.out (by simp only [nodeOk, hr.out, List.all_cons, *, Bool.false_and, Bool.and_false]))
            | (refine IH.out (_, _) ⟨nfr_put (nfr_put hf hid2.out ?_) hid2.out ?_, ⟨?_⟩⟩
               · intro q hq; cases List.mem_singleton.1 hq; dsimp only; omega
               · intro q hq; cases List.mem_singleton.1 hq; dsimp only; omega
               · rw [hr.out, List.all_cons]; simp only [*, Bool.true_and])
          · rintro i ⟨g, c⟩ hi him ⟨hf, hr⟩;dsimp only at *;have hnode := hf.node _ (List.mem_cons_self ..);dsimp only at hnode
            (repeat' (first | simp only [go_sem, *] | (refine sx ?_ ?_ <;> intro hc) | (refine sy (by omega) fun x hx => ?_ <;> have hm := List.mem_of_getElem? hx) | simp (disch := first | assumption | omega) only [wrap_id, le_max, le_maxI, slice_int]))
            refine rounds_len xk _ (fun m i a => ⟨[(0, .ptr l 0), (2, .d (.int .i64 size)), (220, .d (.lst (xk.map encInt))), (221, .d (.int .i64 m)), (222, .d (.int .i64 i))], a.1.1, a.2 + 60, []⟩)
              (Inv := fun i rest a => NFr p l sz mt df h π _ a.1.2 a.1.1 ∧ a.1.2.fit p ∧ unmet a.1.2.met ≤ k ∧ Later (visit p (k + 1) n size st = eachN (visit p k) (kidSubs size rest) a.1.2)) (b0 := ((_, st.meet n size), _)) ?_ ⟨hf, meet_fit hfit _ _, ?_, ⟨?_⟩⟩ ?_ ?_
            · omega
            · have := unmet_set ht;simp only [LSt.meet];omega
            · rw [hs.out, if_pos, into]
              · rfl
              · have hall : xa.all (Exp.ok size) = true := by rw [hr.out]; rfl
                clear e1 e2 e3 e4 e5 e6 e7 e8 lbox lmt lsz hs hbad ih hn0 hf hr hnode;grind [nodeOk, kidsOf, nOk, argsOk]
            · rintro i y ⟨⟨g, st1⟩, c⟩ hy hi him ⟨hf, hfit1, hun, hv⟩ IH;dsimp only at *;try (exfalso; omega)
              all_goals ((repeat' (first | simp only [go_sem, *] | (refine sx ?_ ?_ <;> intro hc) | (refine sy (by omega) fun x hx => ?_ <;> have hm := List.mem_of_getElem? hx) | simp (disch := first | assumption | omega) only [wrap_id, le_max, le_maxI, slice_int])))
              all_goals
              refine rawP_post (ih.out y size st1 g _ l sz mt df hun hfit1 h0 (by omega) (ids_ext hid2.out _) hf.looks) (fun o1 g1 p1 => ?_);cases hvy : visit p k y size st1 with
              | none =>
                obtain rfl := p1.pan hvy;clear p1
                (repeat' (first | simp only [go_sem, *] | (refine sx ?_ ?_ <;> intro hc) | (refine sy (by omega) fun x hx => ?_ <;> have hm := List.mem_of_getElem? hx) | simp (disch := first | assumption | omega) only [wrap_id, le_max, le_maxI, slice_int]))
                refine node_pan (hv.out.trans ?_);simp only [kidSubs, List.map_cons, eachN, hvy]
              | some st2 =>
                obtain ⟨rfl, hl2, hfr⟩ := p1.ret st2 hvy;have hfr := Later.mk hfr;clear p1
                (repeat' (first | simp only [go_sem, *] | (refine sx ?_ ?_ <;> intro hc) | (refine sy (by omega) fun x hx => ?_ <;> have hm := List.mem_of_getElem? hx) | simp (disch := first | assumption | omega) only [wrap_id, le_max, le_maxI, slice_int]))
                have hgr := visit_grow p _ _ _ _ _ hvy;refine IH.out ((_, st2), _) ⟨nfr_call hf hid2.out ?_ hl2 hfr.out, fit_grow hfit1 hgr, Nat.le_trans hgr.less hun, ⟨?_⟩⟩
                · intro q hq; cases List.mem_singleton.1 hq; dsimp only; omega
                · rw [hv.out]; simp only [kidSubs, List.map_cons, eachN, hvy]
            · rintro i ⟨⟨g, st1⟩, c⟩ hi him ⟨hf, hfit1, hun, hv⟩;dsimp only at *
              (repeat' (first | simp only [go_sem, *] | (refine sx ?_ ?_ <;> intro hc) | (refine sy (by omega) fun x hx => ?_ <;> have hm := List.mem_of_getElem? hx) | simp (disch := first | assumption | omega) only [wrap_id, le_max, le_maxI, slice_int]))
              refine ⟨fun st' hst => ?_, fun hst => ?_⟩
              · rw [hv.out] at hst;cases hst;exact ⟨rfl, hf.looks, hf.frame⟩
              · rw [hv.out] at hst;cases hst
    · have e : visit p (k + 1) n size st = none := by
        rw [visit];split
        · rename_i hh;have := lt_of_get hh.2;rw [hfit.met] at this;omega
        · rfl
      rw [e];exact node_bad p hN n size st h π l sz mt df hfit hid2.out hl2.out fun _ h => absurd h hn2
  · have e : visit p (k + 1) n size st = none := by
      rw [visit, if_neg fun hh => hn hh.1]
    rw [e];exact node_bad p hN n size st h π l sz mt df hfit hid2.out hl2.out fun h => absurd h hn
end Go.Proofs
end
section
namespace Go.Proofs
open Go Go.Abs
set_option maxRecDepth 100000
set_option maxHeartbeats 4000000
set_option linter.unusedSimpArgs false
set_option linter.unusedVariables false
def idxB (x : Bool) : List Bool → Int → Int
  | [], _ => -1
  | y :: l, i => if (x == y) = true then i else idxB x l (i + 1)
theorem idxB_mem (v : Bool) : ∀ (l : List Bool) (i : Int), 0 ≤ i → (0 ≤ idxB v l i ↔ v ∈ l)
  | [], i, h => by simp [idxB]
  | y :: l, i, h => by
    rw [idxB];split
    · rename_i e; have : v = y := by simpa using e
      simp [this, h]
    · rename_i e; have : ¬ v = y := by simpa using e
      rw [idxB_mem v l (i + 1) (by omega)]; simp [this]
@[go_sem] theorem indexB_kl (l : List Bool) (v : Bool) (hl : l.length ≤ 1000000) : askN (KL Tryz.prog cfg) 216 [.d (.lst (l.map encBool)), .d (.bool v)] [] = .ok (.ret (.d (.int .i64 (idxB v l 0))), []) := by
  (refine KN_wp rfl Tryz.func216 rfl rfl rfl ?_; show Wp _ _ _ _ (Tryz.f216.body.get rfl) _ _; simp only [Tryz.f216, Option.get_some])
  (repeat' (first | simp only [go_sem, *] | (refine sx ?_ ?_ <;> intro hc) | (refine sy (by omega) fun x hx => ?_ <;> have hm := List.mem_of_getElem? hx) | simp (disch := first | assumption | omega) only [wrap_id, le_max, le_maxI, slice_int]))
  refine rounds_list l (S := fun i (u : Unit) => ⟨[(0, .d (.lst (l.map encBool))), (1, .d (.bool v)), (7, .d (.int .i64 l.length)), (8, .d (.int .i64 i))], [], 0, []⟩) (Inv := fun i rest _ => Later (idxB v l 0 = idxB v rest i)) (b0 := ()) ⟨rfl⟩ ?_ ?_
  · rintro i y ⟨⟩ hy hi him hr IH
    (repeat' (first | simp only [go_sem, *] | (refine sx ?_ ?_ <;> intro hc) | (refine sy (by omega) fun x hx => ?_ <;> have hm := List.mem_of_getElem? hx) | simp (disch := first | assumption | omega) only [wrap_id, le_max, le_maxI, slice_int]))
    · rw [hr.out, idxB, if_pos (by assumption)]
    · refine IH.out () ⟨?_⟩;rw [hr.out, idxB, if_neg (by simp [*])];rfl
  · rintro i ⟨⟩ hi him hr
    (repeat' (first | simp only [go_sem, *] | (refine sx ?_ ?_ <;> intro hc) | (refine sy (by omega) fun x hx => ?_ <;> have hm := List.mem_of_getElem? hx) | simp (disch := first | assumption | omega) only [wrap_id, le_max, le_maxI, slice_int]))
    rw [hr.out, idxB]
@[go_sem] theorem containsB_kl (l : List Bool) (v : Bool) (hl : l.length ≤ 1000000) : askN (KL Tryz.prog cfg) 202 [.d (.lst (l.map encBool)), .d (.bool v)] [] = .ok (.ret (.d (.bool (decide (v ∈ l)))), []) := by
  have h := idxB_mem v l 0 (by omega)
  (refine KN_wp rfl Tryz.func202 rfl rfl rfl ?_; show Wp _ _ _ _ (Tryz.f202.body.get rfl) _ _; simp only [Tryz.f202, Option.get_some])
  (repeat' (first | simp only [go_sem, *] | (refine sx ?_ ?_ <;> intro hc) | (refine sy (by omega) fun x hx => ?_ <;> have hm := List.mem_of_getElem? hx) | simp (disch := first | assumption | omega) only [wrap_id, le_max, le_maxI, slice_int]))
theorem make_int (g : G) (id : Abs.Id) (n : Nat) (h : 0 < n) (hm : n ≤ 1073741824) : makeArr g id n { kind := TK.int, size := 1, agg := false, str := false, zero := [.d (.int .i64 0)], flds := [], elem := 0, key := 0, mix := false } = some ⟨.osl (1 :: id) 0 n, [(1 :: id, .darr 1 ((List.replicate n (0 : Int)).map encInt))]⟩ := by
  have e : (List.replicate n (0 : Int)).map encInt = List.replicate n [.int .i64 0] := by rw [List.map_replicate]; rfl
  rw [e];exact make_flat (zs := [.int .i64 0]) h (by unfold maxList; omega) rfl rfl (by decide) rfl
theorem make_bool (g : G) (id : Abs.Id) (n : Nat) (h : 0 < n) (hm : n ≤ 1073741824) : makeArr g id n { kind := TK.bool, size := 1, agg := false, str := false, zero := [.d (.bool false)], flds := [], elem := 0, key := 0, mix := false } = some ⟨.osl (1 :: id) 0 n, [(1 :: id, .darr 1 ((List.replicate n false).map encBool))]⟩ := by
  have e : (List.replicate n false).map encBool = List.replicate n [.bool false] := by rw [List.map_replicate]; rfl
  rw [e];exact make_flat (zs := [.bool false]) h (by unfold maxList; omega) rfl rfl (by decide) rfl
theorem under_id (i t j : Nat) (π : List Nat) (h : i ≠ j) : Id.under (i :: π) (t :: j :: π) = false := under_false fun hs => by
  rcases List.suffix_cons_iff.1 hs with e | hs
  · have := congrArg List.length e;simp at this
  rcases List.suffix_cons_iff.1 hs with e | hs
  · simp only [List.cons.injEq, and_true] at e;exact h e
  · have := hs.length_le;simp at this;omega
theorem all_iff (l : List Bool) : l.all id = true ↔ ¬ false ∈ l := by
  induction l with
  | nil => simp
  | cons b l ih => cases b <;> simp
theorem looks_of {p : Prog} {st : LSt} (hs : p.small = true) (hf : freeOk p.free = true) (hv : visit p (p.nodes.length + 1) p.main p.free.length (LSt.init p) = some st) : looks p = if (¬ false ∈ st.met) ∧ (¬ false ∈ st.defs) then some st else none := by
  unfold looks;rw [if_pos ⟨hs, hf⟩, hv];simp only [all_iff]
theorem slv_zero {id : Abs.Id} {n : Nat} (h : n = 0) : slv id n = .emp := by rw [slv, if_pos h]
@[go_sem] theorem containsB_nil (v : Bool) : askN (KL Tryz.prog cfg) 202 [.d (.lst []), .d (.bool v)] [] = .ok (.ret (.d (.bool false)), []) := by
  have := containsB_kl [] v (by simp);simpa using this
structure LookPost (p : Prog) (π : List Nat) (r : COut × Heap) : Prop where
  pan : looks p = none → r = (.pan flawS, [])
  ret : ∀ st, looks p = some st → ∃ h, r = (.ret (.ptr (0 :: 16 :: π) 0), h) ∧ Looks h p (0 :: 16 :: π) (1 :: 6 :: π) (1 :: 10 :: π) (1 :: 14 :: π) st ∧ ∀ id', Id.under π id' = false → h.get id' = none
theorem look_kl (p : Prog) (hp : ∀ s ∈ p.free, s.size ≤ maxLen) (k : Nat) (ρ : List Nat) : ∃ r : COut × Heap, askN (KL Tryz.prog cfg) 190 [.agg [.d (.lst (p.free.map encStr)), .d (.lst (p.nodes.map encNode)), .d (.lst (p.defs.map encDef)), .d (.int .i64 p.main)]] (k :: ρ) = .ok r ∧ LookPost p (k :: ρ) r := by
  have hp := Later.mk hp;by_cases hs : p.small = true
  · (refine KN_post rfl Tryz.func190 rfl rfl rfl ?_; show Wp _ _ _ _ (Tryz.f190.body.get rfl) _ _; simp only [Tryz.f190, Option.get_some])
    have hs2 := Later.mk hs;simp only [Prog.small, Bool.and_eq_true, decide_eq_true_eq] at hs;obtain ⟨c1, c2, c3⟩ := hs;have c1 : (p.free.length : Int) ≤ 12 := by omega
    have c2 : (p.nodes.length : Int) ≤ 60 := by omega
    have c3 : (p.defs.length : Int) ≤ 12 := by omega
    (repeat' (first | simp only [go_sem, *] | (refine sx ?_ ?_ <;> intro hc) | (refine sy (by omega) fun x hx => ?_ <;> have hm := List.mem_of_getElem? hx) | simp (disch := first | assumption | omega) only [wrap_id, le_max, le_maxI, slice_int]))
    refine rounds_len p.free _ (S := fun m i (u : Unit) => ⟨[(1, .ptr (0 :: 0 :: k :: ρ) 0), (24, .d (.lst (p.free.map encStr))), (25, .d (.int .i64 m)), (26, .d (.int .i64 i))], [(0 :: 0 :: k :: ρ, .box [.d (.lst (p.free.map encStr)), .d (.lst (p.nodes.map encNode)), .d (.lst (p.defs.map encDef)), .d (.int .i64 p.main)])], 1, []⟩)
      (Inv := fun i rest _ => Later (freeOk p.free = freeGo (if i = 0 then none else p.free[i - 1]?) rest)) (b0 := ()) rfl ⟨rfl⟩ ?_ ?_
    · rintro i y ⟨⟩ hy hi him hr IH;have hys := hp.out y (List.mem_of_getElem? hy);have hnm := name_kl y hys;have hbad : Later (freeOk p.free = false → looks p = none) := .mk fun hf => by
        rw [looks, if_neg (by rw [hf]; simp)]
      rcases i with _ | j
      · rw [if_pos rfl] at hr;have him0 : (0 : Int) < p.free.length := by omega
        (repeat' (first | simp only [go_sem, *] | (refine sx ?_ ?_ <;> intro hc) | (refine sy (by omega) fun x hx => ?_ <;> have hm := List.mem_of_getElem? hx) | simp (disch := first | assumption | omega) only [wrap_id, le_max, le_maxI, slice_int]))
        all_goals first
        | (exact ⟨fun _ => rfl, fun st hst => by rw [hbad.out (by rw [hr.out, freeGo]; simp only [*, Bool.false_and])] at hst; cases hst⟩)
        | (refine IH.out () ⟨?_⟩
           rw [hr.out, freeGo, if_neg (by omega)];simp only [*, Bool.true_and];try rfl)
      · obtain ⟨b, hb⟩ := get_some (l := p.free) (i := j) (by omega);rw [if_neg (by omega), Nat.add_sub_cancel, hb] at hr;have w : IntKind.i64.wrap (((j + 1 : Nat) : Int) - 1) = (j : Int) := by rw [wrap_id (by omega) (by omega)]; omega
        have w0 : ¬ ((j + 1 : Nat) : Int) = 0 := by omega
        (repeat' (first | simp only [go_sem, *] | (refine sx ?_ ?_ <;> intro hc) | (refine sy (by omega) fun x hx => ?_ <;> have hm := List.mem_of_getElem? hx) | simp (disch := first | assumption | omega) only [wrap_id, le_max, le_maxI, slice_int]))
        · refine IH.out () ⟨?_⟩;rw [hr.out, freeGo, if_neg (by omega), Nat.add_sub_cancel, hy];simp only [strLt, *, Bool.true_and]
        · exact ⟨fun _ => rfl, fun st hst => by rw [hbad.out (by rw [hr.out, freeGo]; simp only [strLt, *, Bool.false_and, Bool.and_false])] at hst; cases hst⟩
        · exact ⟨fun _ => rfl, fun st hst => by rw [hbad.out (by rw [hr.out, freeGo]; simp only [*, Bool.false_and])] at hst; cases hst⟩
    · rintro i ⟨⟩ hi him hr;have hfree : Later (freeOk p.free = true) := ⟨hr.out⟩;clear hr;by_cases hN0 : p.nodes.length = 0
      · have e : looks p = none := by
          unfold looks;split
          · have : visit p (p.nodes.length + 1) p.main p.free.length (LSt.init p) = none := by
              rw [visit, if_neg];intro hh;have := lt_of_get hh.2;simp [LSt.init] at this;omega
            rw [this]
          · rfl
        by_cases hD0 : p.defs.length = 0;all_goals
          (repeat' (first | simp only [go_sem, *] | (refine sx ?_ ?_ <;> intro hc) | (refine sy (by omega) fun x hx => ?_ <;> have hm := List.mem_of_getElem? hx) | simp (disch := first | assumption | omega) only [wrap_id, le_max, le_maxI, slice_int, make_int, make_bool]))
          refine rawP_post (node_bad p (by omega) p.main p.free.length (LSt.init p) _ _ (0 :: 16 :: k :: ρ) (1 :: 6 :: k :: ρ) (1 :: 10 :: k :: ρ) (1 :: 14 :: k :: ρ) ⟨?_, ?_, ?_⟩ ?_ ⟨?_, fun h => absurd hN0 h, fun h => absurd hN0 h, fun _ => ?_⟩ ?_) (fun o1 g1 p1 => ?_)
          · simp [LSt.init]
          · simp [LSt.init]
          · simp [LSt.init]
          · constructor <;> first | exact under_id _ _ _ _ (by decide) | simp only [go_sem]
          · simp only [slv, hN0, hD0, if_false, if_true];simp only [go_sem]
          · first | (exact absurd hD0 ‹_›) | simp only [go_sem, LSt.init]
          · omega
          obtain rfl := p1.pan rfl;clear p1
          (repeat' (first | simp only [go_sem, *] | (refine sx ?_ ?_ <;> intro hc) | (refine sy (by omega) fun x hx => ?_ <;> have hm := List.mem_of_getElem? hx) | simp (disch := first | assumption | omega) only [wrap_id, le_max, le_maxI, slice_int]))
          exact ⟨fun _ => rfl, fun st hst => by rw [e] at hst; cases hst⟩
      · by_cases hD0 : p.defs.length = 0
        · (repeat' (first | simp only [go_sem, *] | (refine sx ?_ ?_ <;> intro hc) | (refine sy (by omega) fun x hx => ?_ <;> have hm := List.mem_of_getElem? hx) | simp (disch := first | assumption | omega) only [wrap_id, le_max, le_maxI, slice_int, make_int, make_bool]))
          refine rawP_post (node_kl p (by omega) (by omega) (p.nodes.length + 1) p.main p.free.length (LSt.init p) _ _ (0 :: 16 :: k :: ρ) (1 :: 6 :: k :: ρ) (1 :: 10 :: k :: ρ) (1 :: 14 :: k :: ρ) ?_ ⟨?_, ?_, ?_⟩ ?_ ?_ ?_ ⟨?_, fun _ => ?_, fun _ => ?_, fun _ => ?_⟩) (fun o1 g1 p1 => ?_)
          · have := unmet_le (LSt.init p).met;simp only [LSt.init, List.length_replicate] at *;omega
          · simp [LSt.init]
          · simp [LSt.init]
          · simp [LSt.init]
          · omega
          · omega
          · constructor <;> first | exact under_id _ _ _ _ (by decide) | simp only [go_sem]
          · simp only [slv, hN0, hD0, if_false, if_true];simp only [go_sem]
          · simp only [go_sem, LSt.init]
          · simp only [go_sem, LSt.init]
          · exact absurd hD0 ‹_›
          cases hv : visit p (p.nodes.length + 1) p.main p.free.length (LSt.init p) with
          | none =>
            obtain rfl := p1.pan hv;have e : looks p = none := by
              unfold looks;rw [hv];split <;> rfl
            clear p1
            (repeat' (first | simp only [go_sem, *] | (refine sx ?_ ?_ <;> intro hc) | (refine sy (by omega) fun x hx => ?_ <;> have hm := List.mem_of_getElem? hx) | simp (disch := first | assumption | omega) only [wrap_id, le_max, le_maxI, slice_int]))
            exact ⟨fun _ => rfl, fun st hst => by rw [e] at hst; cases hst⟩
          | some st =>
            obtain ⟨rfl, hl, hfr⟩ := p1.ret st hv;clear p1;have hfr := Later.mk hfr;have hlk : ∃ x, looks p = x := ⟨_, rfl⟩;obtain ⟨x, hlk⟩ := hlk;have hlk := Later.mk hlk;have hL := looks_gc (ρ := 24 :: k :: ρ) hl (by constructor <;> first | exact under_id _ _ _ _ (by decide) | simp only [go_sem]);have hL := Later.mk hL;obtain ⟨b1, b2, b3, b4⟩ := hl;have b2 := b2 hN0;have b3 := b3 hN0;rw [slv_pos hN0, slv_pos hN0, slv_zero hD0] at b1;have hg := visit_grow p _ _ _ _ _ hv;have m1 : st.met.length = p.nodes.length := by rw [hg.met]; simp [LSt.init]
            have m2 : st.defs.length = p.defs.length := by rw [hg.defs]; simp [LSt.init]
            have gu : ∀ (t j : Nat), 24 ≠ j → (gc (24 :: k :: ρ) g1).get (t :: j :: k :: ρ) = g1.get (t :: j :: k :: ρ) := fun t j hj => get_gc _ _ _ (under_id _ _ _ _ hj);have q1 := (gu 0 16 (by decide)).trans b1;have q2 := (gu 1 6 (by decide)).trans b2;have q3 := (gu 1 10 (by decide)).trans b3;clear gu;have tk1 : List.take p.nodes.length (List.map encBool st.met) = List.map encBool st.met := List.take_of_length_le (by simp [m1]);have dn : st.defs = [] := List.eq_nil_of_length_eq_zero (by omega)
            (repeat' (first | simp only [go_sem, *, Nat.le_refl, q1, q2, q3] | (refine sx ?_ ?_ <;> intro hc) | (refine sy (by omega) fun x hx => ?_ <;> have hm := List.mem_of_getElem? hx) | simp (disch := first | assumption | omega) only [wrap_id, le_max, le_maxI, slice_int, containsB_kl]))
            all_goals (have hlk := hlk.out; subst hlk)
            all_goals (have hlk := looks_of hs2.out hfree.out hv)
            all_goals first
            | (refine ⟨fun _ => rfl, fun st' hst => ?_⟩
               rw [hlk, if_neg (by simp [*])] at hst;cases hst)
            | (refine ⟨fun hst => ?_, fun st' hst => ?_⟩
               · rw [hlk, if_pos (by simp [*])] at hst;cases hst
               · rw [hlk, if_pos (by simp [*])] at hst;cases hst;refine ⟨_, rfl, hL.out, fun id' hu => ?_⟩;have hu1 := not_is hu;rw [get_gc _ _ _ (under_ext hu _), hfr.out id' (under_ext hu _) (hu1 _ _) (hu1 _ _) (hu1 _ _)];simp only [go_sem, hu1, Bool.false_eq_true])
        · (repeat' (first | simp only [go_sem, *] | (refine sx ?_ ?_ <;> intro hc) | (refine sy (by omega) fun x hx => ?_ <;> have hm := List.mem_of_getElem? hx) | simp (disch := first | assumption | omega) only [wrap_id, le_max, le_maxI, slice_int, make_int, make_bool]))
          refine rawP_post (node_kl p (by omega) (by omega) (p.nodes.length + 1) p.main p.free.length (LSt.init p) _ _ (0 :: 16 :: k :: ρ) (1 :: 6 :: k :: ρ) (1 :: 10 :: k :: ρ) (1 :: 14 :: k :: ρ) ?_ ⟨?_, ?_, ?_⟩ ?_ ?_ ?_ ⟨?_, fun _ => ?_, fun _ => ?_, fun _ => ?_⟩) (fun o1 g1 p1 => ?_)
          · have := unmet_le (LSt.init p).met;simp only [LSt.init, List.length_replicate] at *;omega
          · simp [LSt.init]
          · simp [LSt.init]
          · simp [LSt.init]
          · omega
          · omega
          · constructor <;> first | exact under_id _ _ _ _ (by decide) | simp only [go_sem]
          · simp only [slv, hN0, hD0, if_false];simp only [go_sem]
          · simp only [go_sem, LSt.init]
          · simp only [go_sem, LSt.init]
          · simp only [go_sem, LSt.init]
          cases hv : visit p (p.nodes.length + 1) p.main p.free.length (LSt.init p) with
          | none =>
            obtain rfl := p1.pan hv;have e : looks p = none := by
              unfold looks;rw [hv];split <;> rfl
            clear p1
            (repeat' (first | simp only [go_sem, *] | (refine sx ?_ ?_ <;> intro hc) | (refine sy (by omega) fun x hx => ?_ <;> have hm := List.mem_of_getElem? hx) | simp (disch := first | assumption | omega) only [wrap_id, le_max, le_maxI, slice_int]))
            exact ⟨fun _ => rfl, fun st hst => by rw [e] at hst; cases hst⟩
          | some st =>
            obtain ⟨rfl, hl, hfr⟩ := p1.ret st hv;clear p1;have hfr := Later.mk hfr;have hlk : ∃ x, looks p = x := ⟨_, rfl⟩;obtain ⟨x, hlk⟩ := hlk;have hlk := Later.mk hlk;have hL := looks_gc (ρ := 24 :: k :: ρ) hl (by constructor <;> first | exact under_id _ _ _ _ (by decide) | simp only [go_sem]);have hL := Later.mk hL;obtain ⟨b1, b2, b3, b4⟩ := hl;have b2 := b2 hN0;have b3 := b3 hN0;have b4 := b4 hD0;rw [slv_pos hN0, slv_pos hN0, slv_pos hD0] at b1;have hg := visit_grow p _ _ _ _ _ hv;have m1 : st.met.length = p.nodes.length := by rw [hg.met]; simp [LSt.init]
            have m2 : st.defs.length = p.defs.length := by rw [hg.defs]; simp [LSt.init]
            have gu : ∀ (t j : Nat), 24 ≠ j → (gc (24 :: k :: ρ) g1).get (t :: j :: k :: ρ) = g1.get (t :: j :: k :: ρ) := fun t j hj => get_gc _ _ _ (under_id _ _ _ _ hj);have q1 := (gu 0 16 (by decide)).trans b1;have q2 := (gu 1 6 (by decide)).trans b2;have q3 := (gu 1 10 (by decide)).trans b3;have q4 := (gu 1 14 (by decide)).trans b4;clear gu;have tk1 : List.take p.nodes.length (List.map encBool st.met) = List.map encBool st.met := List.take_of_length_le (by simp [m1]);have tk2 : List.take p.defs.length (List.map encBool st.defs) = List.map encBool st.defs := List.take_of_length_le (by simp [m2])
            (repeat' (first | simp only [go_sem, *, Nat.le_refl, q1, q2, q3, q4] | (refine sx ?_ ?_ <;> intro hc) | (refine sy (by omega) fun x hx => ?_ <;> have hm := List.mem_of_getElem? hx) | simp (disch := first | assumption | omega) only [wrap_id, le_max, le_maxI, slice_int, containsB_kl]))
            all_goals (have hlk := hlk.out; subst hlk)
            all_goals (have hlk := looks_of hs2.out hfree.out hv)
            all_goals first
            | (refine ⟨fun _ => rfl, fun st' hst => ?_⟩
               rw [hlk, if_neg (by simp [*])] at hst;cases hst)
            | (refine ⟨fun hst => ?_, fun st' hst => ?_⟩
               · rw [hlk, if_pos (by simp [*])] at hst;cases hst
               · rw [hlk, if_pos (by simp [*])] at hst;cases hst;refine ⟨_, rfl, hL.out, fun id' hu => ?_⟩;have hu1 := not_is hu;rw [get_gc _ _ _ (under_ext hu _), hfr.out id' (under_ext hu _) (hu1 _ _) (hu1 _ _) (hu1 _ _)];simp only [go_sem, hu1, Bool.false_eq_true])
  · have e : looks p = none := by
      unfold looks;rw [if_neg fun h => hs h.1]
    have hs : ¬ (p.free.length ≤ 12 ∧ p.nodes.length ≤ 60 ∧ p.defs.length ≤ 12) := by
      intro h;apply hs;simp only [Prog.small, Bool.and_eq_true, decide_eq_true_eq];exact h
    have hs := Later.mk hs
    (refine KN_post rfl Tryz.func190 rfl rfl rfl ?_; show Wp _ _ _ _ (Tryz.f190.body.get rfl) _ _; simp only [Tryz.f190, Option.get_some])
    (repeat' (first | simp only [go_sem, *] | (refine sx ?_ ?_ <;> intro hc) | (refine sy (by omega) fun x hx => ?_ <;> have hm := List.mem_of_getElem? hx) | simp (disch := first | assumption | omega) only [wrap_id, le_max, le_maxI, slice_int]))
    all_goals first
    | exact ⟨fun _ => rfl, fun st hst => by rw [e] at hst; cases hst⟩
    | (have hs := hs.out; exfalso; omega)
end Go.Proofs
end
section
namespace Go.Proofs
open Go Go.Abs
set_option maxRecDepth 100000
set_option maxHeartbeats 4000000
set_option linter.unusedSimpArgs false
set_option linter.unusedVariables false
def encOwn (b : Bool) : List Dat := [.int .i64 (if b then 1 else 0)]
theorem encOwn_t : encOwn true = [.int .i64 1] := rfl
theorem encOwn_f : encOwn false = [.int .i64 0] := rfl
attribute [go_sem] encOwn_t encOwn_f
def lookV (p : Prog) (sz ow us : Abs.Id) (bad : Bool) : Abs.Obj := .box [.d (.lst (p.free.map encStr)), .d (.lst (p.nodes.map encNode)), .d (.lst (p.defs.map encDef)), .d (.int .i64 p.main), slv sz p.nodes.length, slv ow p.nodes.length, slv us p.defs.length, .d (.bool bad)]
structure LooksR (h : Heap) (p : Prog) (l sz ow us : Abs.Id) (st : LSt) (bad : Bool) : Prop where
  box : h.get l = some (lookV p sz ow us bad)
  sizes : bad = false → p.nodes.length ≠ 0 → h.get sz = some (.darr 1 (st.sizes.map encInt))
  met : bad = false → p.nodes.length ≠ 0 → h.get ow = some (.darr 1 (st.met.map encOwn))
  defs : bad = false → p.defs.length ≠ 0 → h.get us = some (.darr 1 (st.defs.map encOwn))
  ks : p.nodes.length ≠ 0 → ∃ A, h.get sz = some (.darr 1 A)
  km : p.nodes.length ≠ 0 → ∃ A, h.get ow = some (.darr 1 A)
  kd : p.defs.length ≠ 0 → ∃ A, h.get us = some (.darr 1 A)
structure RPost (p : Prog) (l sz ow us : Abs.Id) (h : Heap) (π : List Nat) (r : Option LSt) (o : COut) (h' : Heap) : Prop where
  ret : o = .ret (.tup [])
  frame : ∀ id', Id.under π id' = false → Id.is l id' = false → Id.is sz id' = false → Id.is ow id' = false → Id.is us id' = false → h'.get id' = h.get id'
  yes : ∀ st', r = some st' → LooksR h' p l sz ow us st' false
  no : r = none → ∀ st0, LooksR h' p l sz ow us st0 true
structure RFr (p : Prog) (l sz ow us : Abs.Id) (h : Heap) (π : List Nat) (L : List (Nat × Abs.Obj)) (st : LSt) (bad : Bool) (g : Heap) : Prop where
  looks : LooksR g p l sz ow us st bad
  node : ∀ q ∈ L, g.get (0 :: q.1 :: π) = some q.2
  frame : ∀ id', Id.under π id' = false → Id.is l id' = false → Id.is sz id' = false → Id.is ow id' = false → Id.is us id' = false → g.get id' = h.get id'
theorem looksR_gc {g : Heap} {p : Prog} {l sz mt df : Abs.Id} {st : LSt} {b : Bool} {ρ : List Nat} (h : LooksR g p l sz mt df st b) (hi : Ids ρ l sz mt df) : LooksR (gc ρ g) p l sz mt df st b :=
  ⟨by rw [get_gc _ _ _ hi.ul]; exact h.box, fun hb hn => by rw [get_gc _ _ _ hi.us]; exact h.sizes hb hn, fun hb hn => by rw [get_gc _ _ _ hi.um]; exact h.met hb hn, fun hb hn => by rw [get_gc _ _ _ hi.ud]; exact h.defs hb hn, fun hn => by rw [get_gc _ _ _ hi.us]; exact h.ks hn, fun hn => by rw [get_gc _ _ _ hi.um]; exact h.km hn, fun hn => by rw [get_gc _ _ _ hi.ud]; exact h.kd hn⟩
theorem rfr_l {p : Prog} {l sz mt df : Abs.Id} {h : Heap} {π : List Nat} {L : List (Nat × Abs.Obj)} {st : LSt} {b b' : Bool} {g : Heap} {o : Abs.Obj} (hf : RFr p l sz mt df h π L st b g) (hi : Ids π l sz mt df) (ho : o = lookV p sz mt df b') (hbb : b' = false → b = false) : RFr p l sz mt df h π L st b' (g.put l o) := by
  refine ⟨⟨?_, fun hb hn => ?_, fun hb hn => ?_, fun hb hn => ?_, fun hn => ?_, fun hn => ?_, fun hn => ?_⟩, fun q hq => ?_, fun id' h1 h0 h2 h3 h4 => ?_⟩
  · rw [get_put, is_self, ho]; rfl
  · rw [get_put, hi.ls]; exact hf.looks.sizes (hbb hb) hn
  · rw [get_put, hi.lm]; exact hf.looks.met (hbb hb) hn
  · rw [get_put, hi.ld]; exact hf.looks.defs (hbb hb) hn
  · rw [get_put, hi.ls]; exact hf.looks.ks hn
  · rw [get_put, hi.lm]; exact hf.looks.km hn
  · rw [get_put, hi.ld]; exact hf.looks.kd hn
  · rw [get_put, not_is' hi.ul]; exact hf.node q hq
  · rw [get_put, h0]; exact hf.frame id' h1 h0 h2 h3 h4
theorem rfr_call {p : Prog} {l sz mt df : Abs.Id} {h : Heap} {π : List Nat} {L : List (Nat × Abs.Obj)} {st st' : LSt} {b b' : Bool} {g g' : Heap} (hf : RFr p l sz mt df h π L st b g) (hi : Ids π l sz mt df) {j : Nat} (hj : ∀ q ∈ L, j ≠ q.1) (hl : LooksR g' p l sz mt df st' b') (hg : ∀ id', Id.under (j :: π) id' = false → Id.is l id' = false → Id.is sz id' = false → Id.is mt id' = false → Id.is df id' = false → g'.get id' = g.get id') : RFr p l sz mt df h π L st' b' (gc (j :: π) g') := by
  refine ⟨looksR_gc hl (ids_ext hi j), fun q hq => ?_, fun id' h1 h0 h2 h3 h4 => ?_⟩
  · have hu := under_box j q.1 π (hj q hq);rw [get_gc _ _ _ hu, hg _ hu (not_is' hi.ul _ _) (not_is' hi.us _ _) (not_is' hi.um _ _) (not_is' hi.ud _ _)];exact hf.node q hq
  · rw [get_gc _ _ _ (under_ext h1 j), hg _ (under_ext h1 j) h0 h2 h3 h4];exact hf.frame id' h1 h0 h2 h3 h4
theorem rfr_us {p : Prog} {l sz mt df : Abs.Id} {h : Heap} {π : List Nat} {L : List (Nat × Abs.Obj)} {st : LSt} {g : Heap} (hf : RFr p l sz mt df h π L st false g) (hi : Ids π l sz mt df) (i : Nat) : RFr p l sz mt df h π L { st with defs := st.defs.set i true } false (g.put df (.darr 1 ((st.defs.map encOwn).set i [.int .i64 1]))) := by
  refine ⟨⟨?_, fun hb hn => ?_, fun hb hn => ?_, fun hb hn => ?_, fun hn => ?_, fun hn => ?_, fun hn => ?_⟩, fun q hq => ?_, fun id' h1 h0 h2 h3 h4 => ?_⟩
  · rw [get_put, hi.dl]; exact hf.looks.box
  · rw [get_put, hi.ds]; exact hf.looks.sizes hb hn
  · rw [get_put, hi.dm]; exact hf.looks.met hb hn
  · rw [get_put, is_self, List.map_set]; rfl
  · rw [get_put, hi.ds]; exact hf.looks.ks hn
  · rw [get_put, hi.dm]; exact hf.looks.km hn
  · rw [get_put, is_self]; exact ⟨_, rfl⟩
  · rw [get_put, not_is' hi.ud]; exact hf.node q hq
  · rw [get_put, h4]; exact hf.frame id' h1 h0 h2 h3 h4
theorem LooksR.any {h : Heap} {p : Prog} {l sz ow us : Abs.Id} {st st0 : LSt} (hl : LooksR h p l sz ow us st true) : LooksR h p l sz ow us st0 true := ⟨hl.box, fun h => (by cases h), fun h => (by cases h), fun h => (by cases h), hl.ks, hl.km, hl.kd⟩
theorem rpost_no {p : Prog} {l sz mt df : Abs.Id} {h : Heap} {π : List Nat} {L : List (Nat × Abs.Obj)} {st : LSt} {b : Bool} {g : Heap} {o : Abs.Obj} {r : Option LSt} (hf : RFr p l sz mt df h π L st b g) (hi : Ids π l sz mt df) (ho : o = lookV p sz mt df true) (hr : r = none) : RPost p l sz mt df h π r (.ret (.tup [])) (g.put l o) := by
  refine ⟨rfl, fun id' h1 h0 h2 h3 h4 => ?_, fun st' e => ?_, fun _ st0 => ?_⟩
  · rw [get_put, h0]; exact hf.frame id' h1 h0 h2 h3 h4
  · rw [hr] at e; cases e
  · exact (rfr_l (b' := true) { hf with looks := { hf.looks with sizes := hf.looks.sizes, met := hf.looks.met, defs := hf.looks.defs } } hi ho (by simp)).looks.any
theorem rpost_no2 {p : Prog} {l sz mt df : Abs.Id} {h : Heap} {π : List Nat} {L : List (Nat × Abs.Obj)} {st : LSt} {g : Heap} {r : Option LSt} (hf : RFr p l sz mt df h π L st true g) (hr : r = none) : RPost p l sz mt df h π r (.ret (.tup [])) g := by
  refine ⟨rfl, hf.frame, fun st' e => ?_, fun _ st0 => hf.looks.any⟩;rw [hr] at e; cases e
theorem rpost_yes {p : Prog} {l sz mt df : Abs.Id} {h : Heap} {π : List Nat} {L : List (Nat × Abs.Obj)} {st : LSt} {g : Heap} {r : Option LSt} (hf : RFr p l sz mt df h π L st false g) (hr : r = some st) : RPost p l sz mt df h π r (.ret (.tup [])) g := by
  refine ⟨rfl, hf.frame, fun st' e => ?_, fun e => ?_⟩
  · rw [hr] at e; cases e; exact hf.looks
  · rw [hr] at e; cases e
theorem eachN_append {f : Int → Int → LSt → Option LSt} : ∀ {l m : List (Int × Int)} {st : LSt}, eachN f (l ++ m) st = match eachN f l st with | some st' => eachN f m st' | none => none
  | [], m, st => rfl
  | (n, s) :: l, m, st => by
    rw [List.cons_append, eachN, eachN];cases f n s st with
    | none => rfl
    | some st1 => exact eachN_append
def NodeC (p : Prog) (k : Nat) : Prop := ∀ (n size : Int) (st : LSt) (h : Heap) (π : List Nat) (l sz ow us : Abs.Id), unmet st.met ≤ k → st.fit p → 0 ≤ size → size + 70 * k ≤ 5000 → Ids π l sz ow us → LooksR h p l sz ow us st false →
    ∃ o h', KL Tryz.prog cfg (.fn 129) [.ptr l 0, .d (.int .i64 n), .d (.int .i64 size)] h π true none = .ok (o, h') ∧ RPost p l sz ow us h π (visit p k n size st) o h'
theorem defC_kl (p : Prog) (hN : p.nodes.length ≤ 60) (hD : p.defs.length ≤ 12) (k : Nat) (ih : NodeC p k) (d : Def) (hdo : DefOk d) (size : Int) (st : LSt) (h : Heap) (π : List Nat) (l sz ow us : Abs.Id) (hk : unmet st.met ≤ k) (hfit : st.fit p) (h0 : 0 ≤ size) (hb : size + 10 + 70 * k ≤ 5000) (hid : Ids π l sz ow us) (hl : LooksR h p l sz ow us st false) :
    ∃ o h', KL Tryz.prog cfg (.fn 170) [.ptr l 0, .agg [.d (.lst (d.chans.map encChan)), .d (.lst (d.spots.map encDSpot)), .d (.lst (d.rules.map encRule))], .d (.int .i64 size)] h π true none = .ok (o, h') ∧ RPost p l sz ow us h π (eachN (visit p k) (ruleSubs d size d.rules ++ spotSubs size d.spots) st) o h' := by
  have hid2 := Later.mk hid;have c1 := hdo.chans;have c2 := hdo.spots;have c3 := hdo.rules;replace hdo := Later.mk hdo;replace ih := Later.mk ih;have hlb := hl.box;rw [lookV] at hlb;have e1 := not_is hid.ul;have e5 := not_is' hid.ul;clear hid;have hd0 : Later (RFr p l sz ow us h π [(0, .box [.d (.lst (d.chans.map encChan)), .d (.lst (d.spots.map encDSpot)), .d (.lst (d.rules.map encRule))])] st false (h.put (0 :: 0 :: π) (.box [.d (.lst (d.chans.map encChan)), .d (.lst (d.spots.map encDSpot)), .d (.lst (d.rules.map encRule))]))) := by
    refine ⟨⟨⟨?_, fun _ hn => ?_, fun _ hn => ?_, fun _ hn => ?_, fun hn => ?_, fun hn => ?_, fun hn => ?_⟩, ?_, fun id' h1 h0 h2 h3 h4 => ?_⟩⟩
    · rw [get_put, not_is hid2.out.ul]; exact hl.box
    · rw [get_put, not_is hid2.out.us]; exact hl.sizes rfl hn
    · rw [get_put, not_is hid2.out.um]; exact hl.met rfl hn
    · rw [get_put, not_is hid2.out.ud]; exact hl.defs rfl hn
    · rw [get_put, not_is hid2.out.us]; exact hl.ks hn
    · rw [get_put, not_is hid2.out.um]; exact hl.km hn
    · rw [get_put, not_is hid2.out.ud]; exact hl.kd hn
    · intro q hq;cases List.mem_singleton.1 hq;simp only [get_put, is_self, if_true]
    · simp only [get_put, not_is h1, Bool.false_eq_true, if_false]
  replace hl := Later.mk hl
  (refine KL_post rfl Tryz.func170 rfl rfl rfl ?_; show Wp _ _ _ _ (Tryz.f170.body.get rfl) _ _; simp only [Tryz.f170, Option.get_some])
  (repeat' (first | simp only [go_sem, *] | (refine sx ?_ ?_ <;> intro hc) | (refine sy (by omega) fun x hx => ?_ <;> have hm := List.mem_of_getElem? hx) | simp (disch := first | assumption | omega) only [wrap_id, le_max, le_maxI, slice_int]))
  refine rounds_list d.rules (S := fun i a => ⟨[(0, .ptr l 0), (2, .d (.int .i64 size)), (4, .ptr (0 :: 0 :: π) 0), (6, .d (.int .i64 i))], a.1.1, a.2 + 2, []⟩)
    (Inv := fun i rest a => ∃ b, RFr p l sz ow us h π [(0, .box [.d (.lst (d.chans.map encChan)), .d (.lst (d.spots.map encDSpot)), .d (.lst (d.rules.map encRule))])] a.1.2 b a.1.1 ∧ a.1.2.fit p ∧ unmet a.1.2.met ≤ k ∧ Later (b = false → eachN (visit p k) (ruleSubs d size d.rules ++ spotSubs size d.spots) st = eachN (visit p k) (ruleSubs d size rest ++ spotSubs size d.spots) a.1.2) ∧ Later (b = true → eachN (visit p k) (ruleSubs d size d.rules ++ spotSubs size d.spots) st = none)) (b0 := ((_, st), _)) ?_ ?_ ?_
  · exact ⟨false, hd0.out, hfit, hk, ⟨fun _ => rfl⟩, ⟨fun h => (by cases h)⟩⟩
  · rintro i r ⟨⟨g, st1⟩, c⟩ hy hi him ⟨b, hf, hfit1, hun, hv, hno⟩ IH;dsimp only at *;have hr1 := hf.node _ (List.mem_cons_self ..);have hr2 := hf.looks.box;rw [lookV] at hr2;dsimp only at hr1;cases b
    · have hj := rule_joins hdo.out (List.mem_of_getElem? hy);have hb1 := more_kl d r hj;have hb2 := bringsL_le hj.2.2 r.joins;have hb3 := hj.1;replace hj := Later.mk hj
      (repeat' (first | simp only [go_sem, *] | (refine sx ?_ ?_ <;> intro hc) | (refine sy (by omega) fun x hx => ?_ <;> have hm := List.mem_of_getElem? hx) | simp (disch := first | assumption | omega) only [wrap_id, le_max, le_maxI, slice_int]))
      refine rawF_post (ih.out r.node (size + bringsL d r.joins) st1 _ _ l sz ow us hun hfit1 (by omega) (by omega) (ids_ext hid2.out _) hf.looks) (fun o1 g1 p1 => ?_);obtain rfl := p1.ret;replace p1 := Later.mk p1
      (repeat' (first | simp only [go_sem, *] | (refine sx ?_ ?_ <;> intro hc) | (refine sy (by omega) fun x hx => ?_ <;> have hm := List.mem_of_getElem? hx) | simp (disch := first | assumption | omega) only [wrap_id, le_max, le_maxI, slice_int]))
      cases hvy : visit p k r.node (size + bringsL d r.joins) st1 with
      | none =>
        refine IH.out ((_, st1), _) ⟨true, rfr_call hf hid2.out ?_ (p1.out.no hvy _) p1.out.frame, hfit1, hun, ⟨fun h => (by cases h)⟩, ⟨fun _ => ?_⟩⟩
        · simp only [List.mem_cons, List.not_mem_nil, or_false, forall_eq_or_imp, forall_eq]; omega
        · rw [hv.out rfl]; simp only [ruleSubs, List.map_cons, List.cons_append, eachN, hvy]
      | some st2 =>
        have hgr := visit_grow p _ _ _ _ _ hvy;refine IH.out ((_, st2), _) ⟨false, rfr_call hf hid2.out ?_ (p1.out.yes _ hvy) p1.out.frame, fit_grow hfit1 hgr, Nat.le_trans hgr.less hun, ⟨fun _ => ?_⟩, ⟨fun h => (by cases h)⟩⟩
        · simp only [List.mem_cons, List.not_mem_nil, or_false, forall_eq_or_imp, forall_eq]; omega
        · rw [hv.out rfl]; simp only [ruleSubs, List.map_cons, List.cons_append, eachN, hvy]
    · (repeat' (first | simp only [go_sem, *] | (refine sx ?_ ?_ <;> intro hc) | (refine sy (by omega) fun x hx => ?_ <;> have hm := List.mem_of_getElem? hx) | simp (disch := first | assumption | omega) only [wrap_id, le_max, le_maxI, slice_int]))
      rw [WpL_run]
      (repeat' (first | simp only [go_sem, *] | (refine sx ?_ ?_ <;> intro hc) | (refine sy (by omega) fun x hx => ?_ <;> have hm := List.mem_of_getElem? hx) | simp (disch := first | assumption | omega) only [wrap_id, le_max, le_maxI, slice_int]))
      all_goals exact rpost_no2 hf (hno.out rfl)
  · rintro i ⟨⟨g, st1⟩, c⟩ hi him ⟨b, hf, hfit1, hun, hv, hno⟩;dsimp only at *;have hr1 := hf.node _ (List.mem_cons_self ..);have hr2 := hf.looks.box;rw [lookV] at hr2;dsimp only at hr1;cases b
    · (repeat' (first | simp only [go_sem, *] | (refine sx ?_ ?_ <;> intro hc) | (refine sy (by omega) fun x hx => ?_ <;> have hm := List.mem_of_getElem? hx) | simp (disch := first | assumption | omega) only [wrap_id, le_max, le_maxI, slice_int]))
      refine rounds_list d.spots (S := fun i a => ⟨[(0, .ptr l 0), (2, .d (.int .i64 size)), (4, .ptr (0 :: 0 :: π) 0), (7, .d (.int .i64 i))], a.1.1, a.2 + 2, []⟩)
        (Inv := fun i rest a => ∃ b, RFr p l sz ow us h π [(0, .box [.d (.lst (d.chans.map encChan)), .d (.lst (d.spots.map encDSpot)), .d (.lst (d.rules.map encRule))])] a.1.2 b a.1.1 ∧ a.1.2.fit p ∧ unmet a.1.2.met ≤ k ∧ Later (b = false → eachN (visit p k) (ruleSubs d size d.rules ++ spotSubs size d.spots) st = eachN (visit p k) (spotSubs size rest) a.1.2) ∧ Later (b = true → eachN (visit p k) (ruleSubs d size d.rules ++ spotSubs size d.spots) st = none)) (b0 := ((_, st1), _)) ?_ ?_ ?_
      · exact ⟨false, hf, hfit1, hun, ⟨fun _ => hv.out rfl⟩, ⟨fun h => (by cases h)⟩⟩
      · clear hf hr1 hr2 hi him hfit1 hun hv hno g c i st1;rintro i r ⟨⟨g, st1⟩, c⟩ hy hi him ⟨b, hf, hfit1, hun, hv, hno⟩ IH;dsimp only at *;have hr1 := hf.node _ (List.mem_cons_self ..);have hr2 := hf.looks.box;rw [lookV] at hr2;dsimp only at hr1;cases b
        · (repeat' (first | simp only [go_sem, *] | (refine sx ?_ ?_ <;> intro hc) | (refine sy (by omega) fun x hx => ?_ <;> have hm := List.mem_of_getElem? hx) | simp (disch := first | assumption | omega) only [wrap_id, le_max, le_maxI, slice_int]))
          refine rawP_post (ih.out r.node size st1 _ _ l sz ow us hun hfit1 (by omega) (by omega) (ids_ext hid2.out _) hf.looks) (fun o1 g1 p1 => ?_);obtain rfl := p1.ret;replace p1 := Later.mk p1
          (repeat' (first | simp only [go_sem, *] | (refine sx ?_ ?_ <;> intro hc) | (refine sy (by omega) fun x hx => ?_ <;> have hm := List.mem_of_getElem? hx) | simp (disch := first | assumption | omega) only [wrap_id, le_max, le_maxI, slice_int]))
          cases hvy : visit p k r.node size st1 with
          | none =>
            refine IH.out ((_, st1), _) ⟨true, rfr_call hf hid2.out ?_ (p1.out.no hvy _) p1.out.frame, hfit1, hun, ⟨fun h => (by cases h)⟩, ⟨fun _ => ?_⟩⟩
            · simp only [List.mem_cons, List.not_mem_nil, or_false, forall_eq_or_imp, forall_eq]; omega
            · rw [hv.out rfl]; simp only [spotSubs, List.map_cons, List.cons_append, eachN, hvy]
          | some st2 =>
            have hgr := visit_grow p _ _ _ _ _ hvy;refine IH.out ((_, st2), _) ⟨false, rfr_call hf hid2.out ?_ (p1.out.yes _ hvy) p1.out.frame, fit_grow hfit1 hgr, Nat.le_trans hgr.less hun, ⟨fun _ => ?_⟩, ⟨fun h => (by cases h)⟩⟩
            · simp only [List.mem_cons, List.not_mem_nil, or_false, forall_eq_or_imp, forall_eq]; omega
            · rw [hv.out rfl]; simp only [spotSubs, List.map_cons, List.cons_append, eachN, hvy]
        · (repeat' (first | simp only [go_sem, *] | (refine sx ?_ ?_ <;> intro hc) | (refine sy (by omega) fun x hx => ?_ <;> have hm := List.mem_of_getElem? hx) | simp (disch := first | assumption | omega) only [wrap_id, le_max, le_maxI, slice_int]))
          exact rpost_no2 hf (hno.out rfl)
      · clear hf hr1 hr2 hi him hfit1 hun hv hno g c i st1;rintro i ⟨⟨g, st1⟩, c⟩ hi him ⟨b, hf, hfit1, hun, hv, hno⟩;dsimp only at *;have hr1 := hf.node _ (List.mem_cons_self ..);have hr2 := hf.looks.box;rw [lookV] at hr2;dsimp only at hr1;cases b
        · (repeat' (first | simp only [go_sem, *] | (refine sx ?_ ?_ <;> intro hc) | (refine sy (by omega) fun x hx => ?_ <;> have hm := List.mem_of_getElem? hx) | simp (disch := first | assumption | omega) only [wrap_id, le_max, le_maxI, slice_int]))
          exact rpost_yes hf (hv.out rfl)
        · (repeat' (first | simp only [go_sem, *] | (refine sx ?_ ?_ <;> intro hc) | (refine sy (by omega) fun x hx => ?_ <;> have hm := List.mem_of_getElem? hx) | simp (disch := first | assumption | omega) only [wrap_id, le_max, le_maxI, slice_int]))
          exact rpost_no2 hf (hno.out rfl)
    · (repeat' (first | simp only [go_sem, *] | (refine sx ?_ ?_ <;> intro hc) | (refine sy (by omega) fun x hx => ?_ <;> have hm := List.mem_of_getElem? hx) | simp (disch := first | assumption | omega) only [wrap_id, le_max, le_maxI, slice_int]))
      rw [WpL_run]
      (repeat' (first | simp only [go_sem, *] | (refine sx ?_ ?_ <;> intro hc) | (refine sy (by omega) fun x hx => ?_ <;> have hm := List.mem_of_getElem? hx) | simp (disch := first | assumption | omega) only [wrap_id, le_max, le_maxI, slice_int]))
      all_goals exact rpost_no2 hf (hno.out rfl)
theorem nodeR_bad (p : Prog) (hN : p.nodes.length ≤ 60) (n size : Int) (st : LSt) (h : Heap) (π : List Nat) (l sz ow us : Abs.Id) (hfit : st.fit p) (hid : Ids π l sz ow us) (hl : LooksR h p l sz ow us st false) (hb : 0 ≤ n → n < p.nodes.length → st.met[n.toNat]? = some true) :
    ∃ o h', KL Tryz.prog cfg (.fn 129) [.ptr l 0, .d (.int .i64 n), .d (.int .i64 size)] h π true none = .ok (o, h') ∧ RPost p l sz ow us h π none o h' := by
  have hR : RFr p l sz ow us h π [] st false h := ⟨hl, by simp, fun _ _ _ _ _ _ => rfl⟩;have hlv : ∀ b, lookV p sz ow us b = .box [.d (.lst (p.free.map encStr)), .d (.lst (p.nodes.map encNode)), .d (.lst (p.defs.map encDef)), .d (.int .i64 p.main), slv sz p.nodes.length, slv ow p.nodes.length, slv us p.defs.length, .d (.bool b)] := fun b => rfl;have lbox := hl.box;rw [lookV] at lbox;have lmt := hl.met rfl;have e1 := not_is hid.ul;replace hl := Later.mk hl;replace hb := Later.mk hb;replace hR := Later.mk hR;have hid2 := Later.mk hid;have hfm := hfit.met;by_cases hn : n < 0
  · (refine KL_post rfl Tryz.func129 rfl rfl rfl ?_; show Wp _ _ _ _ (Tryz.f129.body.get rfl) _ _; simp only [Tryz.f129, Option.get_some])
    (repeat' (first | simp only [go_sem, *] | (refine sx ?_ ?_ <;> intro hc) | (refine sy (by omega) fun x hx => ?_ <;> have hm := List.mem_of_getElem? hx) | simp (disch := first | assumption | omega) only [wrap_id, le_max, le_maxI, slice_int]))
    exact rpost_no hR.out hid2.out rfl rfl
  · by_cases hn2 : (p.nodes.length : Int) ≤ n
    · (refine KL_post rfl Tryz.func129 rfl rfl rfl ?_; show Wp _ _ _ _ (Tryz.f129.body.get rfl) _ _; simp only [Tryz.f129, Option.get_some])
      (repeat' (first | simp only [go_sem, *] | (refine sx ?_ ?_ <;> intro hc) | (refine sy (by omega) fun x hx => ?_ <;> have hm := List.mem_of_getElem? hx) | simp (disch := first | assumption | omega) only [wrap_id, le_max, le_maxI, slice_int]))
      exact rpost_no hR.out hid2.out rfl rfl
    · have hne : p.nodes.length ≠ 0 := by omega
      have hn0 : 0 ≤ n := by omega
      have hlt : n.toNat < p.nodes.length := by omega
      have ht := hb.out (by omega) (by omega);have lmt := lmt hne;rw [slv_pos hne, slv_pos hne] at lbox;have hlv : Later (Abs.Obj.box [.d (.lst (p.free.map encStr)), .d (.lst (p.nodes.map encNode)), .d (.lst (p.defs.map encDef)), .d (.int .i64 p.main), .osl sz 0 p.nodes.length, .osl ow 0 p.nodes.length, slv us p.defs.length, .d (.bool true)] = lookV p sz ow us true) := ⟨by rw [lookV, slv_pos hne, slv_pos hne]⟩
      (refine KL_post rfl Tryz.func129 rfl rfl rfl ?_; show Wp _ _ _ _ (Tryz.f129.body.get rfl) _ _; simp only [Tryz.f129, Option.get_some])
      (repeat' (first | simp only [go_sem, *] | (refine sx ?_ ?_ <;> intro hc) | (refine sy (by omega) fun x hx => ?_ <;> have hm := List.mem_of_getElem? hx) | simp (disch := first | assumption | omega) only [wrap_id, le_max, le_maxI, slice_int]))
      exact rpost_no hR.out hid2.out hlv.out rfl
theorem nodeR_kl (p : Prog) (hN : p.nodes.length ≤ 60) (hD : p.defs.length ≤ 12) (hdefs : ∀ d ∈ p.defs, d.okG = true) : ∀ (k : Nat) (n size : Int) (st : LSt) (h : Heap) (π : List Nat) (l sz ow us : Abs.Id), unmet st.met ≤ k → st.fit p → 0 ≤ size → size + 70 * k ≤ 5000 → Ids π l sz ow us → LooksR h p l sz ow us st false →
    ∃ o h', KL Tryz.prog cfg (.fn 129) [.ptr l 0, .d (.int .i64 n), .d (.int .i64 size)] h π true none = .ok (o, h') ∧ RPost p l sz ow us h π (visit p k n size st) o h' := by
  intro k;induction k with
  | zero =>
    intro n size st h π l sz ow us hk hfit h0 hb hid hl;refine nodeR_bad p hN n size st h π l sz ow us hfit hid hl fun h1 h2 => ?_;obtain ⟨t, ht⟩ := get_some (l := st.met) (i := n.toNat) (by rw [hfit.met]; omega);cases t with
    | true => exact ht
    | false => have := unmet_set ht; omega
  | succ k ih =>
  intro n size st h π l sz ow us hk hfit h0 hb hid hl;have hid2 := Later.mk hid;obtain ⟨ul, us_, um, ud, ls, lm, ld, sl, sm, sd, ml, ms, md, dl, ds, dm⟩ := hid;have hl2 := Later.mk hl;obtain ⟨lbox, lsz, lmt, ldf, _, _, _⟩ := hl;have e1 := not_is ul;have e2 := not_is us_;have e3 := not_is um;have e4 := not_is ud;have e5 := not_is' ul;have e6 := not_is' us_;have e7 := not_is' um;have e8 := not_is' ud;by_cases hn : n < 0
  · have e : visit p (k + 1) n size st = none := by
      rw [visit, if_neg fun hh => by omega]
    rw [e];exact nodeR_bad p hN n size st h π l sz ow us hfit hid2.out hl2.out fun h => by omega
  · by_cases hn2 : (p.nodes.length : Int) ≤ n
    · have e : visit p (k + 1) n size st = none := by
        rw [visit];split
        · rename_i hh;have := lt_of_get hh.2;rw [hfit.met] at this;omega
        · rfl
      rw [e];exact nodeR_bad p hN n size st h π l sz ow us hfit hid2.out hl2.out fun _ h => by omega
    · have hne : p.nodes.length ≠ 0 := by omega
      have hn0 : 0 ≤ n := by omega
      have hn3 : n < p.nodes.length := by omega
      have hlt : n.toNat < p.nodes.length := by omega
      obtain ⟨x, hx⟩ := get_some hlt;obtain ⟨t, ht⟩ := get_some (l := st.met) (i := n.toNat) (by rw [hfit.met]; omega);obtain ⟨s0, hs0⟩ := get_some (l := st.sizes) (i := n.toNat) (by rw [hfit.sizes]; omega);have lmt := lmt rfl hne;have lsz := lsz rfl hne;rw [lookV, slv_pos hne, slv_pos hne] at lbox;replace ih := Later.mk ih;replace ldf := Later.mk ldf;have hfs := hfit.sizes;have hfm := hfit.met;cases t with
      | true =>
        have e : visit p (k + 1) n size st = none := by
          rw [visit, if_neg];rw [ht];simp
        rw [e];exact nodeR_bad p hN n size st h π l sz ow us hfit hid2.out hl2.out fun _ _ => ht
      | false =>
        (refine KL_post rfl Tryz.func129 rfl rfl rfl ?_; show Wp _ _ _ _ (Tryz.f129.body.get rfl) _ _; simp only [Tryz.f129, Option.get_some])
        have hs := Later.mk (visit_step (p := p) (k := k) (size := size) hn0 ht hx);have hbad := Later.mk (visit_bad (p := p) (k := k) (size := size) hn0 ht hx);obtain ⟨xo, xn, xa, xk⟩ := x;have hLV : Later (∀ b, Abs.Obj.box [.d (.lst (p.free.map encStr)), .d (.lst (p.nodes.map encNode)), .d (.lst (p.defs.map encDef)), .d (.int .i64 p.main), .osl sz 0 p.nodes.length, .osl ow 0 p.nodes.length, slv us p.defs.length, .d (.bool b)] = lookV p sz ow us b) := .mk fun b => by
          rw [lookV, slv_pos hne, slv_pos hne]
        have hn0' : Later (∀ o o', RFr p l sz ow us h π [(48, o')] (st.meet n size) false ((((h.put ow (.darr 1 ((List.map encOwn st.met).set n.toNat [.int .i64 1]))).put sz (.darr 1 ((List.map encInt st.sizes).set n.toNat [.int .i64 size]))).put (0 :: 48 :: π) o).put (0 :: 48 :: π) o')) := .mk fun o o' => by
          refine ⟨⟨?_, fun _ _ => ?_, fun _ _ => ?_, fun _ hd => ?_, fun _ => ?_, fun _ => ?_, fun hd => ?_⟩, ?_, fun id' h1 h0 h2 h3 h4 => ?_⟩
          · rw [← hLV.out];simp only [get_put, e1, sl, ml, Bool.false_eq_true, if_false, lbox]
          · simp only [get_put, e2, is_self, Bool.false_eq_true, if_false, if_true, LSt.meet, List.map_set];rfl
          · simp only [get_put, e3, sm, is_self, Bool.false_eq_true, if_false, if_true, LSt.meet, List.map_set];rfl
          · simp only [get_put, e4, sd, md, Bool.false_eq_true, if_false, LSt.meet, ldf.out rfl hd]
          · exact ⟨_, by simp only [get_put, e2, is_self, Bool.false_eq_true, if_false, if_true]; rfl⟩
          · exact ⟨_, by simp only [get_put, e3, sm, is_self, Bool.false_eq_true, if_false, if_true]; rfl⟩
          · exact ⟨_, by simp only [get_put, e4, sd, md, Bool.false_eq_true, if_false, ldf.out rfl hd]; rfl⟩
          · intro q hq;cases List.mem_singleton.1 hq;simp only [get_put, is_self, if_true]
          · simp only [get_put, not_is h1, h2, h3, Bool.false_eq_true, if_false]
        by_cases o4 : xo = 4
        · subst o4;have hgood : ∀ {P : Prop}, P → Later P := fun h => ⟨h⟩;by_cases x0 : xn < 0
          · (repeat' (first | simp only [go_sem, *, shapeR_kl, shapeR] | (refine sx ?_ ?_ <;> intro hc) | (refine sy (by omega) fun x hx => ?_ <;> have hm := List.mem_of_getElem? hx) | simp (disch := first | assumption | omega) only [wrap_id, le_max, le_maxI, slice_int]))
            all_goals try (exact rpost_no (hn0'.out _ _) hid2.out (hLV.out _) (hbad.out (by clear e1 e2 e3 e4 e5 e6 e7 e8 lbox lmt lsz hs hbad ih hn0' hLV; grind [nodeOk, kidsOf, nOk, argsOk])))
            rw [WpL_run]
            (repeat' (first | simp only [go_sem, *] | (refine sx ?_ ?_ <;> intro hc) | (refine sy (by omega) fun x hx => ?_ <;> have hm := List.mem_of_getElem? hx) | simp (disch := first | assumption | omega) only [wrap_id, le_max, le_maxI, slice_int]))
            exact rpost_no (hn0'.out _ _) hid2.out (hLV.out _) (hbad.out (by clear e1 e2 e3 e4 e5 e6 e7 e8 lbox lmt lsz hs hbad ih hn0' hLV; grind [nodeOk, kidsOf, nOk, argsOk]))
          by_cases x1 : (p.defs.length : Int) ≤ xn
          · (repeat' (first | simp only [go_sem, *, shapeR_kl, shapeR] | (refine sx ?_ ?_ <;> intro hc) | (refine sy (by omega) fun x hx => ?_ <;> have hm := List.mem_of_getElem? hx) | simp (disch := first | assumption | omega) only [wrap_id, le_max, le_maxI, slice_int]))
            all_goals try (exact rpost_no (hn0'.out _ _) hid2.out (hLV.out _) (hbad.out (by clear e1 e2 e3 e4 e5 e6 e7 e8 lbox lmt lsz hs hbad ih hn0' hLV; grind [nodeOk, kidsOf, nOk, argsOk])))
            rw [WpL_run]
            (repeat' (first | simp only [go_sem, *] | (refine sx ?_ ?_ <;> intro hc) | (refine sy (by omega) fun x hx => ?_ <;> have hm := List.mem_of_getElem? hx) | simp (disch := first | assumption | omega) only [wrap_id, le_max, le_maxI, slice_int]))
            exact rpost_no (hn0'.out _ _) hid2.out (hLV.out _) (hbad.out (by clear e1 e2 e3 e4 e5 e6 e7 e8 lbox lmt lsz hs hbad ih hn0' hLV; grind [nodeOk, kidsOf, nOk, argsOk]))
          have x2 : 0 ≤ xn := by omega
          have x3 : xn < p.defs.length := by omega
          have hdl : p.defs.length ≠ 0 := by omega
          have hxlt : xn.toNat < p.defs.length := by omega
          obtain ⟨d, hd⟩ := get_some hxlt;obtain ⟨t, htd⟩ := get_some (l := st.defs) (i := xn.toNat) (by rw [hfit.defs]; omega);have hfd := hfit.defs;have ldf2 := ldf.out rfl hdl;rw [slv_pos hdl] at lbox;have hg := hdefs d (List.mem_of_getElem? hd);have hdo := okG_ok hg;have c1 := hdo.chans;have c2 := hdo.spots;have c3 := hdo.rules;have hown := own_le hdo;have hok := ownR_kl d (by omega) (by omega);replace hdo := Later.mk hdo;have hinto : Later (into p size ⟨4, xn, xa, xk⟩ (st.meet n size) = if st.defs[xn.toNat]? = some false ∧ d.okG = true then some (ruleSubs d (size + d.own) d.rules ++ (spotSubs (size + d.own) d.spots ++ kidSubs (size + d.own) xk), { st.meet n size with defs := st.defs.set xn.toNat true }) else none) := by
            refine ⟨?_⟩;rw [into, if_pos rfl, hd];rfl
          have hLV2 : Later (∀ b, Abs.Obj.box [.d (.lst (p.free.map encStr)), .d (.lst (p.nodes.map encNode)), .d (.lst (p.defs.map encDef)), .d (.int .i64 p.main), .osl sz 0 p.nodes.length, .osl ow 0 p.nodes.length, .osl us 0 p.defs.length, .d (.bool b)] = lookV p sz ow us b) := .mk fun b => by
            rw [lookV, slv_pos hne, slv_pos hne, slv_pos hdl]
          cases t with
          | true =>
            have hno : Later (visit p (k + 1) n size st = none) := by
              refine ⟨?_⟩;rw [hs.out, hinto.out, htd];split
              · rw [if_neg (by simp)]
              · rfl
            (repeat' (first | simp only [go_sem, *, shapeR_kl, shapeR] | (refine sx ?_ ?_ <;> intro hc) | (refine sy (by omega) fun x hx => ?_ <;> have hm := List.mem_of_getElem? hx) | simp (disch := first | assumption | omega) only [wrap_id, le_max, le_maxI, slice_int]))
            all_goals try (exact rpost_no (hn0'.out _ _) hid2.out (hLV2.out _) hno.out)
            rw [WpL_run]
            (repeat' (first | simp only [go_sem, *] | (refine sx ?_ ?_ <;> intro hc) | (refine sy (by omega) fun x hx => ?_ <;> have hm := List.mem_of_getElem? hx) | simp (disch := first | assumption | omega) only [wrap_id, le_max, le_maxI, slice_int]))
            exact rpost_no (hn0'.out _ _) hid2.out (hLV2.out _) hno.out
          | false =>
            (repeat' (first | simp only [go_sem, *, shapeR_kl, shapeR] | (refine sx ?_ ?_ <;> intro hc) | (refine sy (by omega) fun x hx => ?_ <;> have hm := List.mem_of_getElem? hx) | simp (disch := first | assumption | omega) only [wrap_id, le_max, le_maxI, slice_int]))
            all_goals try (exact rpost_no (hn0'.out _ _) hid2.out (hLV2.out _) (hbad.out (by clear e1 e2 e3 e4 e5 e6 e7 e8 lbox lmt lsz hs hbad ih hn0' hLV; grind [nodeOk, kidsOf, nOk, argsOk])))
            rw [WpL_run]
            (repeat' (first | simp only [go_sem, *] | (refine sx ?_ ?_ <;> intro hc) | (refine sy (by omega) fun x hx => ?_ <;> have hm := List.mem_of_getElem? hx) | simp (disch := first | assumption | omega) only [wrap_id, le_max, le_maxI, slice_int]))
            have hR := rfr_us (hn0'.out (.box [.d (.int .i64 0), .d (.int .i64 0), .nils, .nils]) (.box [.d (.int .i64 4), .d (.int .i64 xn), .d (.lst (xa.map encExp)), .d (.lst (xk.map encInt))])) hid2.out xn.toNat;have hfit2 : LSt.fit p { st.meet n size with defs := (st.meet n size).defs.set xn.toNat true } := by
              have := meet_fit hfit n size;exact ⟨this.sizes, this.met, by simp [LSt.meet, hfit.defs]⟩
            have hun2 : unmet (st.meet n size).met ≤ k := by
              have := unmet_set ht;simp only [LSt.meet];omega
            have h00 : (xa.length : Int) = 0 := by assumption
            have h11 : (xk.length : Int) = 1 := by assumption
            have hxa : xa = [] := List.eq_nil_of_length_eq_zero (by omega);have hv0 : Later (visit p (k + 1) n size st = match eachN (visit p k) (ruleSubs d (size + d.own) d.rules ++ spotSubs (size + d.own) d.spots) { st.meet n size with defs := (st.meet n size).defs.set xn.toNat true } with | some st' => eachN (visit p k) (kidSubs (size + d.own) xk) st' | none => none) := by
              refine ⟨?_⟩;rw [hs.out, if_pos, hinto.out, if_pos ⟨htd, hg⟩]
              · rw [← eachN_append, List.append_assoc];rfl
              · clear e1 e2 e3 e4 e5 e6 e7 e8 lbox lmt lsz hs hbad ih hn0' hLV hR hfit2 hun2;grind [nodeOk, kidsOf, nOk, argsOk]
            refine rawP_post (defC_kl p hN hD k ih.out d hdo.out (size + d.own) { st.meet n size with defs := (st.meet n size).defs.set xn.toNat true } _ _ l sz ow us hun2 hfit2 (by omega) (by omega) (ids_ext hid2.out _) hR.looks) (fun o1 g1 p1 => ?_)
            obtain rfl := p1.ret;have hn1 : ∀ j, j ≠ 48 → ∀ q ∈ [((48 : Nat), Abs.Obj.box [.d (.int .i64 4), .d (.int .i64 xn), .d (.lst (xa.map encExp)), .d (.lst (xk.map encInt))])], j ≠ q.1 := by
              intro j hj q hq;cases List.mem_singleton.1 hq;exact hj
            cases hvd : eachN (visit p k) (ruleSubs d (size + d.own) d.rules ++ spotSubs (size + d.own) d.spots) { st.meet n size with defs := (st.meet n size).defs.set xn.toNat true } with
            | none =>
              have hf := rfr_call hR hid2.out (hn1 168 (by decide)) (st' := st) (b' := true) (p1.no hvd _) p1.frame;have hr1 := hf.node _ (List.mem_cons_self ..);have hr2 := hf.looks.box;rw [← hLV2.out] at hr2;dsimp only at hr1;replace p1 := Later.mk p1;replace hR := Later.mk hR;replace hn1 := Later.mk hn1;replace hvd := Later.mk hvd
              (repeat' (first | simp only [go_sem, *] | (refine sx ?_ ?_ <;> intro hc) | (refine sy (by omega) fun x hx => ?_ <;> have hm := List.mem_of_getElem? hx) | simp (disch := first | assumption | omega) only [wrap_id, le_max, le_maxI, slice_int]))
              rw [WpL_run]
              (repeat' (first | simp only [go_sem, *] | (refine sx ?_ ?_ <;> intro hc) | (refine sy (by omega) fun x hx => ?_ <;> have hm := List.mem_of_getElem? hx) | simp (disch := first | assumption | omega) only [wrap_id, le_max, le_maxI, slice_int]))
              exact rpost_no2 hf (by rw [hv0.out, hvd.out])
            | some st2 =>
              have hf := rfr_call hR hid2.out (hn1 168 (by decide)) (p1.yes _ hvd) p1.frame;have hg2 : Grow { st.meet n size with defs := (st.meet n size).defs.set xn.toNat true } st2 := eachN_ind (R := Grow) (fun st => ⟨rfl, rfl, rfl, Nat.le_refl _⟩) (fun a b c h1 h2 => ⟨h2.1.trans h1.1, h2.2.trans h1.2, h2.3.trans h1.3, Nat.le_trans h2.4 h1.4⟩) (visit_grow p k) hvd
              rw [hvd] at hv0;replace p1 := Later.mk p1;replace hR := Later.mk hR;replace hn1 := Later.mk hn1;replace hvd := Later.mk hvd
              (repeat' (first | simp only [go_sem, *] | (refine sx ?_ ?_ <;> intro hc) | (refine sy (by omega) fun x hx => ?_ <;> have hm := List.mem_of_getElem? hx) | simp (disch := first | assumption | omega) only [wrap_id, le_max, le_maxI, slice_int]))
              refine rounds_list xk (S := fun i a => ⟨[(0, .ptr l 0), (6, .ptr (0 :: 48 :: π) 0), (11, .d (.int .i64 (size + (d.own : Int)))), (12, .d (.int .i64 i))], a.1.1, a.2 + 170, []⟩)
                (Inv := fun i rest a => ∃ b, RFr p l sz ow us h π [(48, .box [.d (.int .i64 4), .d (.int .i64 xn), .d (.lst (xa.map encExp)), .d (.lst (xk.map encInt))])] a.1.2 b a.1.1 ∧ a.1.2.fit p ∧ unmet a.1.2.met ≤ k ∧ Later (b = false → visit p (k + 1) n size st = eachN (visit p k) (kidSubs (size + d.own) rest) a.1.2) ∧ Later (b = true → visit p (k + 1) n size st = none)) (b0 := ((_, st2), _)) ?_ ?_ ?_
              · exact ⟨false, hf, fit_grow hfit2 hg2, Nat.le_trans hg2.less hun2, ⟨fun _ => hv0.out⟩, ⟨fun h => (by cases h)⟩⟩
              all_goals clear hf p1 hR hn1 hvd g1 hv0 hg2 st2 hfit2 hun2
              · rintro i y ⟨⟨g, st1⟩, c⟩ hy hi him ⟨b, hf, hfit1, hun, hv, hno⟩ IH;dsimp only at *;have hr1 := hf.node _ (List.mem_cons_self ..);have hr2 := hf.looks.box;rw [← hLV2.out] at hr2;dsimp only at hr1;try simp only [*] at him
                cases b
                · (repeat' (first | simp only [go_sem, *] | (refine sx ?_ ?_ <;> intro hc) | (refine sy (by omega) fun x hx => ?_ <;> have hm := List.mem_of_getElem? hx) | simp (disch := first | assumption | omega) only [wrap_id, le_max, le_maxI, slice_int]))
                  refine rawP_post (ih.out y (size + d.own) st1 _ _ l sz ow us hun hfit1 (by omega) (by omega) (ids_ext hid2.out _) hf.looks) (fun o1 g1 p1 => ?_);obtain rfl := p1.ret;replace p1 := Later.mk p1
                  (repeat' (first | simp only [go_sem, *] | (refine sx ?_ ?_ <;> intro hc) | (refine sy (by omega) fun x hx => ?_ <;> have hm := List.mem_of_getElem? hx) | simp (disch := first | assumption | omega) only [wrap_id, le_max, le_maxI, slice_int]))
                  cases hvy : visit p k y (size + d.own) st1 with
                  | none =>
                    refine IH.out ((_, st1), _) ⟨true, rfr_call hf hid2.out ?_ (p1.out.no hvy _) p1.out.frame, hfit1, hun, ⟨fun h => (by cases h)⟩, ⟨fun _ => ?_⟩⟩
                    · simp only [List.mem_cons, List.not_mem_nil, or_false, forall_eq_or_imp, forall_eq]; omega
                    · rw [hv.out rfl]; simp only [kidSubs, List.map_cons, List.cons_append, eachN, hvy]
                  | some st2 =>
                    have hgr := visit_grow p _ _ _ _ _ hvy;refine IH.out ((_, st2), _) ⟨false, rfr_call hf hid2.out ?_ (p1.out.yes _ hvy) p1.out.frame, fit_grow hfit1 hgr, Nat.le_trans hgr.less hun, ⟨fun _ => ?_⟩, ⟨fun h => (by cases h)⟩⟩
                    · simp only [List.mem_cons, List.not_mem_nil, or_false, forall_eq_or_imp, forall_eq]; omega
                    · rw [hv.out rfl]; simp only [kidSubs, List.map_cons, List.cons_append, eachN, hvy]
                · (repeat' (first | simp only [go_sem, *] | (refine sx ?_ ?_ <;> intro hc) | (refine sy (by omega) fun x hx => ?_ <;> have hm := List.mem_of_getElem? hx) | simp (disch := first | assumption | omega) only [wrap_id, le_max, le_maxI, slice_int]))
                  exact rpost_no2 hf (hno.out rfl)
              · rintro i ⟨⟨g, st1⟩, c⟩ hi him ⟨b, hf, hfit1, hun, hv, hno⟩;dsimp only at *;have hr1 := hf.node _ (List.mem_cons_self ..);have hr2 := hf.looks.box;rw [← hLV2.out] at hr2;dsimp only at hr1;try simp only [*] at him
                cases b
                · (repeat' (first | simp only [go_sem, *] | (refine sx ?_ ?_ <;> intro hc) | (refine sy (by omega) fun x hx => ?_ <;> have hm := List.mem_of_getElem? hx) | simp (disch := first | assumption | omega) only [wrap_id, le_max, le_maxI, slice_int]))
                  exact rpost_yes hf (hv.out rfl)
                · (repeat' (first | simp only [go_sem, *] | (refine sx ?_ ?_ <;> intro hc) | (refine sy (by omega) fun x hx => ?_ <;> have hm := List.mem_of_getElem? hx) | simp (disch := first | assumption | omega) only [wrap_id, le_max, le_maxI, slice_int]))
                  exact rpost_no2 hf (hno.out rfl)
        have hop : xo = 3 ∨ xo = 1 ∨ xo = 7 ∨ (xo = 2) ∨ xo = 5 ∨ xo = 6 ∨ xo = 8 ∨ (¬ xo = 1 ∧ ¬ xo = 7 ∧ ¬ xo = 3 ∧ ¬ xo = 2 ∧ ¬ xo = 5 ∧ ¬ xo = 6 ∧ ¬ xo = 8) := by omega
        rcases hop with rfl | rfl | rfl | rfl | rfl | rfl | rfl | ⟨n1, n2, n3, n4, n5, n6, n7⟩;all_goals ((repeat' (first | simp only [go_sem, *, shapeR_kl, shapeR] | (refine sx ?_ ?_ <;> intro hc) | (refine sy (by omega) fun x hx => ?_ <;> have hm := List.mem_of_getElem? hx) | simp (disch := first | assumption | omega) only [wrap_id, le_max, le_maxI, slice_int])))
        all_goals try (exfalso; omega)
        all_goals try (exact rpost_no (hn0'.out _ _) hid2.out (hLV.out _) (hbad.out (by clear e1 e2 e3 e4 e5 e6 e7 e8 lbox lmt lsz hs hbad ih hn0' hLV; grind [nodeOk, kidsOf, nOk, argsOk])))
        all_goals
          refine rounds_list xa (S := fun i a => ⟨[(0, .ptr l 0), (2, .d (.int .i64 size)), (6, .ptr (0 :: 48 :: π) 0), (10, .d (.int .i64 i))], a.1.1, a.2 + 60, []⟩)
            (Inv := fun i rest a => RFr p l sz ow us h π _ (st.meet n size) a.1.2 a.1.1 ∧ Later (xa.all (Exp.ok size) = (!a.1.2 && rest.all (Exp.ok size)))) (b0 := ((_, false), _)) ⟨hn0'.out _ _, ⟨rfl⟩⟩ ?_ ?_
          · rintro i y ⟨⟨g, b⟩, c⟩ hy hi him ⟨hf, hr⟩ IH;dsimp only at *;try (exfalso; omega)
            all_goals
              have hr1 := hf.node _ (List.mem_cons_self ..);have hr2 := hf.looks.box;rw [← hLV.out] at hr2;dsimp only at hr1;try simp only [*] at him
            all_goals
              cases b
              · (repeat' (first | simp only [go_sem, *] | (refine sx ?_ ?_ <;> intro hc) | (refine sy (by omega) fun x hx => ?_ <;> have hm := List.mem_of_getElem? hx) | simp (disch := first | assumption | omega) only [wrap_id, le_max, le_maxI, slice_int]))
                refine IH.out ((_, _), _) ⟨rfr_l hf hid2.out (hLV.out _) (by simp), ⟨?_⟩⟩;rw [hr.out, List.all_cons];cases Exp.ok size y <;> simp
              · (repeat' (first | simp only [go_sem, *] | (refine sx ?_ ?_ <;> intro hc) | (refine sy (by omega) fun x hx => ?_ <;> have hm := List.mem_of_getElem? hx) | simp (disch := first | assumption | omega) only [wrap_id, le_max, le_maxI, slice_int]))
                refine IH.out ((_, _), _) ⟨rfr_l hf hid2.out (hLV.out _) (by simp), ⟨?_⟩⟩;rw [hr.out, List.all_cons];cases Exp.ok size y <;> simp
          · rintro i ⟨⟨g, b⟩, c⟩ hi him ⟨hf, hr⟩;dsimp only at *;have hr1 := hf.node _ (List.mem_cons_self ..);have hr2 := hf.looks.box;rw [← hLV.out] at hr2;dsimp only at hr1;try simp only [*] at him
            cases b;all_goals
              ((repeat' (first | simp only [go_sem, *] | (refine sx ?_ ?_ <;> intro hc) | (refine sy (by omega) fun x hx => ?_ <;> have hm := List.mem_of_getElem? hx) | simp (disch := first | assumption | omega) only [wrap_id, le_max, le_maxI, slice_int])))
            all_goals
              have hall : Later (xa.all (Exp.ok size) = _) := hr;simp only [List.all_nil, Bool.and_true, Bool.not_true, Bool.not_false] at hall;obtain ⟨L, hLe⟩ : ∃ L, RFr p l sz ow us h π L (st.meet n size) _ g ∧ ∃ o, L = [(48, o)] ∧ g.get (0 :: 48 :: π) = some o := ⟨_, hf, _, rfl, hr1⟩;clear hf;obtain ⟨hf, ob, hLe, hob⟩ := hLe;have hob2 := hr1.symm.trans hob;simp only [Option.some.injEq] at hob2;replace hob2 := Later.mk hob2;clear hob;refine rounds_list xk (S := fun i a => ⟨[(0, .ptr l 0), (6, .ptr (0 :: 48 :: π) 0), (11, .d (.int .i64 size)), (12, .d (.int .i64 i))], a.1.1, a.2 + 60, []⟩)
                (Inv := fun i rest a => ∃ b, RFr p l sz ow us h π L a.1.2 b a.1.1 ∧ a.1.2.fit p ∧ unmet a.1.2.met ≤ k ∧ Later (b = false → visit p (k + 1) n size st = eachN (visit p k) (kidSubs size rest) a.1.2) ∧ Later (b = true → visit p (k + 1) n size st = none)) (b0 := ((_, st.meet n size), _)) ?_ ?_ ?_
              · dsimp only;refine ⟨_, rfr_l hf hid2.out (hLV.out _) (by simp), meet_fit hfit _ _, ?_, ⟨fun hb' => ?_⟩, ⟨fun hb' => ?_⟩⟩
                · have := unmet_set ht;simp only [LSt.meet];omega
                · rw [hs.out, if_pos, into]
                  · simp
                  · replace hall := hall.out;clear e1 e2 e3 e4 e5 e6 e7 e8 lbox lmt lsz hs hbad ih hn0' hLV hf hr1 hr2;grind [nodeOk, kidsOf, nOk, argsOk]
                · refine hbad.out ?_;replace hall := hall.out;clear e1 e2 e3 e4 e5 e6 e7 e8 lbox lmt lsz hs hbad ih hn0' hLV hf hr1 hr2;grind [nodeOk, kidsOf, nOk, argsOk]
              all_goals clear hf hr1 hr2 hr hi him g c i hall
              · rintro i y ⟨⟨g, st1⟩, c⟩ hy hi him ⟨b, hf, hfit1, hun, hv, hno⟩ IH;dsimp only at *;try (exfalso; omega)
                all_goals
                  have hr1 := hf.node (48, ob) (by rw [hLe]; exact List.mem_cons_self ..);rw [← hob2.out] at hr1;have hr2 := hf.looks.box;rw [← hLV.out] at hr2;dsimp only at hr1;try simp only [*] at him
                all_goals
                  cases b
                  · (repeat' (first | simp only [go_sem, *] | (refine sx ?_ ?_ <;> intro hc) | (refine sy (by omega) fun x hx => ?_ <;> have hm := List.mem_of_getElem? hx) | simp (disch := first | assumption | omega) only [wrap_id, le_max, le_maxI, slice_int]))
                    refine rawP_post (ih.out y size st1 g _ l sz ow us hun hfit1 h0 (by omega) (ids_ext hid2.out _) hf.looks) (fun o1 g1 p1 => ?_);obtain rfl := p1.ret;replace p1 := Later.mk p1
                    (repeat' (first | simp only [go_sem, *] | (refine sx ?_ ?_ <;> intro hc) | (refine sy (by omega) fun x hx => ?_ <;> have hm := List.mem_of_getElem? hx) | simp (disch := first | assumption | omega) only [wrap_id, le_max, le_maxI, slice_int]))
                    cases hvy : visit p k y size st1 with
                    | none =>
                      refine IH.out ((_, st1), _) ⟨true, rfr_call hf hid2.out ?_ (p1.out.no hvy _) p1.out.frame, hfit1, hun, ⟨fun h => (by cases h)⟩, ⟨fun _ => ?_⟩⟩
                      · rw [hLe]; simp only [List.mem_cons, List.not_mem_nil, or_false, forall_eq_or_imp, forall_eq]; omega
                      · rw [hv.out rfl]; simp only [kidSubs, List.map_cons, eachN, hvy]
                    | some st2 =>
                      have hgr := visit_grow p _ _ _ _ _ hvy;refine IH.out ((_, st2), _) ⟨false, rfr_call hf hid2.out ?_ (p1.out.yes _ hvy) p1.out.frame, fit_grow hfit1 hgr, Nat.le_trans hgr.less hun, ⟨fun _ => ?_⟩, ⟨fun h => (by cases h)⟩⟩
                      · rw [hLe]; simp only [List.mem_cons, List.not_mem_nil, or_false, forall_eq_or_imp, forall_eq]; omega
                      · rw [hv.out rfl]; simp only [kidSubs, List.map_cons, eachN, hvy]
                  · (repeat' (first | simp only [go_sem, *] | (refine sx ?_ ?_ <;> intro hc) | (refine sy (by omega) fun x hx => ?_ <;> have hm := List.mem_of_getElem? hx) | simp (disch := first | assumption | omega) only [wrap_id, le_max, le_maxI, slice_int]))
                    exact rpost_no2 hf (hno.out rfl)
              · rintro i ⟨⟨g, st1⟩, c⟩ hi him ⟨b, hf, hfit1, hun, hv, hno⟩;dsimp only at *;have hr1 := hf.node (48, ob) (by rw [hLe]; exact List.mem_cons_self ..);rw [← hob2.out] at hr1;have hr2 := hf.looks.box;rw [← hLV.out] at hr2;dsimp only at hr1;try simp only [*] at him
                cases b
                · (repeat' (first | simp only [go_sem, *] | (refine sx ?_ ?_ <;> intro hc) | (refine sy (by omega) fun x hx => ?_ <;> have hm := List.mem_of_getElem? hx) | simp (disch := first | assumption | omega) only [wrap_id, le_max, le_maxI, slice_int]))
                  exact rpost_yes hf (hv.out rfl)
                · (repeat' (first | simp only [go_sem, *] | (refine sx ?_ ?_ <;> intro hc) | (refine sy (by omega) fun x hx => ?_ <;> have hm := List.mem_of_getElem? hx) | simp (disch := first | assumption | omega) only [wrap_id, le_max, le_maxI, slice_int]))
                  exact rpost_no2 hf (hno.out rfl)
end Go.Proofs
end
section
namespace Go.Proofs
open Go Go.Abs
set_option maxRecDepth 100000
set_option maxHeartbeats 4000000
set_option linter.unusedSimpArgs false
set_option linter.unusedVariables false
theorem size1_kl {p : Prog} {st : LSt} {h : Heap} {l sz mt df : Abs.Id} {i : Nat} {s : Int} (hl : Looks h p l sz mt df st) (hi : i < p.nodes.length) (hs : st.sizes[i]? = some s) (hz : st.sizes.length = p.nodes.length) (π : List Nat) : KL Tryz.prog cfg (.fn 166) [.ptr l 0, .d (.int .i64 i)] h π true none = .ok (.ret (.d (.int .i64 s)), h) := by
  obtain ⟨b1, b2, b3, b4⟩ := hl;have hN : p.nodes.length ≠ 0 := by omega
  have b2 := b2 hN;rw [slv_pos hN, slv_pos hN] at b1;refine KL_wp rfl Tryz.func166 rfl rfl rfl ?_;show Wp _ _ _ _ (Tryz.f166.body.get rfl) _ _;simp only [Tryz.f166, Option.get_some]
  (repeat' (first | simp only [go_sem, *] | (refine sx ?_ ?_ <;> intro hc) | (refine sy (by omega) fun x hx => ?_ <;> have hm := List.mem_of_getElem? hx) | simp (disch := first | assumption | omega) only [wrap_id, le_max, le_maxI, slice_int]))
theorem looks_put {p : Prog} {l sz mt df : Abs.Id} {π : List Nat} {st : LSt} {g : Heap} (hf : Looks g p l sz mt df st) (hi : Ids π l sz mt df) (t j : Nat) (o : Abs.Obj) : Looks (g.put (t :: j :: π) o) p l sz mt df st :=
  ⟨by rw [get_put, not_is hi.ul]; exact hf.box, fun hn => by rw [get_put, not_is hi.us]; exact hf.sizes hn, fun hn => by rw [get_put, not_is hi.um]; exact hf.met hn, fun hn => by rw [get_put, not_is hi.ud]; exact hf.defs hn⟩
theorem all1_kl (p : Prog) (hN : p.nodes.length ≤ 60) (st : LSt) (h : Heap) (π : List Nat) (l sz mt df a b : Abs.Id) (hl : Looks h p l sz mt df st) (hz : st.sizes.length = p.nodes.length) (hid : Ids π l sz mt df)
    (ha : h.get a = some (.box [.d (.lst (p.free.map encStr)), .d (.lst (p.nodes.map encNode)), .d (.lst (p.defs.map encDef)), .d (.int .i64 p.main)])) (hb : h.get b = some (.box [.fn 166 [] []])) (ua : Id.under π a = false) (ub : Id.under π b = false) (hp : 0 < p.nodes.length) :
    ∃ o h', KL Tryz.prog cfg (.fn 187) [.ptr l 0, .ptr a 0, .ptr b 0] h π true none = .ok (o, h') ∧ (∃ j, o = .ret (.osl (1 :: j :: π) 0 p.nodes.length) ∧ h'.get (1 :: j :: π) = some (.darr 1 (st.sizes.map encInt))) ∧ ∀ id', Id.under π id' = false → h'.get id' = h.get id' := by
  (refine KL_post rfl Tryz.func187 rfl rfl rfl ?_; show Wp _ _ _ _ (Tryz.f187.body.get rfl) _ _; simp only [Tryz.f187, Option.get_some])
  have hid := Later.mk hid;have hl := Later.mk hl;have hz2 := Later.mk hz;have u1 := not_is ub;have u2 := under_ext ub
  (repeat' (first | simp only [go_sem, *] | (refine sx ?_ ?_ <;> intro hc) | (refine sy (by omega) fun x hx => ?_ <;> have hm := List.mem_of_getElem? hx) | simp (disch := first | assumption | omega) only [wrap_id, le_max, le_maxI, slice_int]))
  refine rounds_len st.sizes _ (fun m i a => ⟨[(0, .ptr l 0), (2, .ptr b 0), (5, a.1.2), (9, .d (.int .i64 m)), (10, .d (.int .i64 i))], a.1.1, a.2 + 6, []⟩)
    (Inv := fun i rest a => Later (Looks a.1.1 p l sz mt df st) ∧ a.1.1.get b = some (.box [.fn 166 [] []]) ∧ Later (∀ id', Id.under π id' = false → a.1.1.get id' = h.get id') ∧ Later (i = 0 ∧ a.1.2 = .nils ∨ ∃ j, j < a.2 + 6 ∧ a.1.2 = .osl (1 :: j :: π) 0 i ∧ a.1.1.get (1 :: j :: π) = some (.darr 1 ((st.sizes.take i).map encInt)))) (b0 := ((h, .nils), 0)) ?_ ⟨hl, hb, ⟨fun _ _ => rfl⟩, ⟨.inl ⟨rfl, rfl⟩⟩⟩ ?_ ?_
  · omega
  · rintro i y ⟨⟨g, v⟩, c⟩ hy hi him ⟨hl, hb, hfr, hv⟩ IH;dsimp only at *;have hk := fun ρ => size1_kl hl.out (by omega) hy hz ρ;rcases hv.out with ⟨rfl, rfl⟩ | ⟨j, hj, rfl, hj2⟩
    · clear hv;have him0 : (0 : Int) < p.nodes.length := by omega
      have hk : ∀ ρ, KL Tryz.prog cfg (.fn 166) [.ptr l 0, .d (.int .i64 0)] g ρ true none = .ok (.ret (.d (.int .i64 y)), g) := hk
      (repeat' (first | simp only [go_sem, *] | (refine sx ?_ ?_ <;> intro hc) | (refine sy (by omega) fun x hx => ?_ <;> have hm := List.mem_of_getElem? hx) | simp (disch := first | assumption | omega) only [wrap_id, le_max, le_maxI, slice_int]))
      refine IH.out ((_, _), _) ⟨⟨looks_put (looks_put (looks_gc hl.out (ids_ext hid.out _)) hid.out _ _ _) hid.out _ _ _⟩, ?_, ⟨fun id' hu => ?_⟩, ⟨.inr ⟨_, ?_, rfl, ?_⟩⟩⟩
      · simp only [go_sem, u1, u2, hb]
      · have hu1 := not_is hu;have hu2 := under_ext hu;simp only [go_sem, hu1, hu2, hfr.out id' hu, Bool.false_eq_true]
      · omega
      · simp only [go_sem];rw [List.take_succ, hy];rfl
    · clear hv;have n1 : ¬ c + 13 = j := by omega
      have n2 : ¬ c + 14 = j := by omega
      have n3 : ¬ c + 15 = j := by omega
      have tk : (st.sizes.take i).length = i := by simp; omega
      have nle : ¬ i + 1 ≤ i := by omega
      (repeat' (first | simp only [go_sem, *, Nat.le_refl] | (refine sx ?_ ?_ <;> intro hc) | (refine sy (by omega) fun x hx => ?_ <;> have hm := List.mem_of_getElem? hx) | simp (disch := first | assumption | omega) only [wrap_id, le_max, le_maxI, slice_int]))
      refine IH.out ((_, _), _) ⟨⟨looks_put (looks_put (looks_put (looks_gc hl.out (ids_ext hid.out _)) hid.out _ _ _) hid.out _ _ _) hid.out _ _ _⟩, ?_, ⟨fun id' hu => ?_⟩, ⟨.inr ⟨_, ?_, rfl, ?_⟩⟩⟩
      · simp only [go_sem, u1, u2, hb]
      · have hu1 := not_is hu;have hu2 := under_ext hu;simp only [go_sem, hu1, hu2, hfr.out id' hu, Bool.false_eq_true]
      · omega
      · simp only [go_sem];have : List.take i (List.map encInt (List.take i st.sizes)) = List.map encInt (List.take i st.sizes) := List.take_of_length_le (by simp; omega);rw [this, List.take_succ, hy, List.map_append];rfl
  · rintro i ⟨⟨g, v⟩, c⟩ hi him ⟨hl, hb, hfr, hv⟩;dsimp only at *;rcases hv.out with ⟨rfl, rfl⟩ | ⟨j, hj, rfl, hj2⟩
    · exfalso; omega
    · clear hv
      (repeat' (first | simp only [go_sem, *] | (refine sx ?_ ?_ <;> intro hc) | (refine sy (by omega) fun x hx => ?_ <;> have hm := List.mem_of_getElem? hx) | simp (disch := first | assumption | omega) only [wrap_id, le_max, le_maxI, slice_int]))
      have hiN := hi.out;refine ⟨⟨_, by rw [hiN, hz], ?_⟩, hfr.out⟩;rw [hj2, hiN, List.take_length]
theorem under_id2 (i t j k : Nat) (π : List Nat) (h : i ≠ k) : Id.under (i :: π) (t :: j :: k :: π) = false := under_false fun hs => by
  rcases List.suffix_cons_iff.1 hs with e | hs
  · have := congrArg List.length e;simp at this
  rcases List.suffix_cons_iff.1 hs with e | hs
  · have := congrArg List.length e;simp at this
  rcases List.suffix_cons_iff.1 hs with e | hs
  · simp only [List.cons.injEq, and_true] at e;exact h e
  · have := hs.length_le;simp at this;omega
theorem looks_app {g h : Heap} {p : Prog} {l sz mt df : Abs.Id} {st : LSt} (hl : Looks g p l sz mt df st) : Looks (g ++ h) p l sz mt df st := ⟨get_app_some hl.box, fun hn => get_app_some (hl.sizes hn), fun hn => get_app_some (hl.met hn), fun hn => get_app_some (hl.defs hn)⟩
structure LookedPost (p : Prog) (o : COut) (h' : Heap) : Prop where
  no : looks p = none → o = .ret (.tup [.nils, .d (.int .i64 2)])
  yes : ∀ st, looks p = some st → ∃ id, o = .ret (.tup [.osl (1 :: id) 0 p.nodes.length, .d (.int .i64 0)]) ∧ h'.get (1 :: id) = some (.darr 1 (st.sizes.map encInt))
theorem looked_kl (p : Prog) (hp : ∀ s ∈ p.free, s.size ≤ maxLen) (h : Heap) (π : List Nat) (a b : Abs.Id)
    (ha : h.get a = some (.box [.d (.lst (p.free.map encStr)), .d (.lst (p.nodes.map encNode)), .d (.lst (p.defs.map encDef)), .d (.int .i64 p.main)])) (hb : h.get b = some (.box [.fn 166 [] []])) (ua : Id.under π a = false) (ub : Id.under π b = false) :
    ∃ o h', KL Tryz.prog cfg (.fn 186) [.agg [.d (.lst (p.free.map encStr)), .d (.lst (p.nodes.map encNode)), .d (.lst (p.defs.map encDef)), .d (.int .i64 p.main)], .fn 187 [] [.ptr a 0, .ptr b 0]] h π true none = .ok (o, h') ∧ LookedPost p o h' := by
  (refine KL_post rfl Tryz.func186 rfl rfl rfl ?_; show Wp _ _ _ _ (Tryz.f186.body.get rfl) _ _; simp only [Tryz.f186, Option.get_some])
  have hp := Later.mk hp;have u1 := not_is ua;have u2 := under_ext ua;have v1 := not_is ub;have v2 := under_ext ub;obtain ⟨r, e, hpost⟩ := look_kl p hp.out 6 π;cases hlk : looks p with
  | none =>
    obtain rfl := hpost.pan hlk
    (repeat' (first | simp only [go_sem, *] | (refine sx ?_ ?_ <;> intro hc) | (refine sy (by omega) fun x hx => ?_ <;> have hm := List.mem_of_getElem? hx) | simp (disch := first | assumption | omega) only [wrap_id, le_max, le_maxI, slice_int]))
    exact ⟨fun _ => rfl, fun st hst => by rw [hlk] at hst; cases hst⟩
  | some st =>
    obtain ⟨hh, rfl, hL, hnew⟩ := hpost.ret st hlk;replace hnew := Later.mk hnew;replace hL := Later.mk hL;have hF := Later.mk (looks_formed hlk);have hz := hF.out.len;have hsm := hF.out.small;simp only [Prog.small, Bool.and_eq_true, decide_eq_true_eq] at hsm;have hN : 0 < p.nodes.length := by
      have h1 := hF.out.main.2;have := lt_of_get h1;omega
    (repeat' (first | simp only [go_sem, *] | (refine sx ?_ ?_ <;> intro hc) | (refine sy (by omega) fun x hx => ?_ <;> have hm := List.mem_of_getElem? hx) | simp (disch := first | assumption | omega) only [wrap_id, le_max, le_maxI, slice_int]))
    refine rawP_post (all1_kl p hsm.2.1 st _ _ (0 :: 16 :: 6 :: π) (1 :: 6 :: 6 :: π) (1 :: 10 :: 6 :: π) (1 :: 14 :: 6 :: π) a b (looks_app hL.out) hz ?_ ?_ ?_ (u2 _) (v2 _) hN) (fun o1 g1 p1 => ?_)
    · constructor <;> first | exact under_id2 _ _ _ _ _ (by decide) | simp only [go_sem]
    · rw [get_app_none (hnew.out a (u2 _))];simp only [go_sem, u1, ha, Bool.false_eq_true]
    · rw [get_app_none (hnew.out b (v2 _))];simp only [go_sem, v1, hb, Bool.false_eq_true]
    obtain ⟨⟨j, rfl, r1⟩, fr⟩ := p1;have r2 := fr (0 :: 2 :: π) (under_id _ _ _ _ (by decide));rw [get_app_none (hnew.out (0 :: 2 :: π) (under_id _ _ _ _ (by decide)))] at r2;simp only [get_put, is_self, if_true] at r2;replace fr := Later.mk fr
    (repeat' (first | simp only [go_sem, *] | (refine sx ?_ ?_ <;> intro hc) | (refine sy (by omega) fun x hx => ?_ <;> have hm := List.mem_of_getElem? hx) | simp (disch := first | assumption | omega) only [wrap_id, le_max, le_maxI, slice_int]))
    refine ⟨fun hst => by { rw [hlk] at hst; cases hst }, fun st' hst => ?_⟩;rw [hlk] at hst;cases hst;exact ⟨_, rfl, by simp only [go_sem, r1]⟩
def sizesV : Option LSt → AV
  | none => .tup [.d (.lst []), .d (.int .i64 2)]
  | some st => .tup [.d (.lst (st.sizes.map encInt)), .d (.int .i64 0)]
theorem each_kl (p : Prog) (hp : ∀ s ∈ p.free, s.size ≤ maxLen) : askN (KL Tryz.prog cfg) 165 [.agg [.d (.lst (p.free.map encStr)), .d (.lst (p.nodes.map encNode)), .d (.lst (p.defs.map encDef)), .d (.int .i64 p.main)], .fn 166 [] []] [] = .ok (.ret (sizesV (looks p)), []) := by
  replace hp := Later.mk hp
  (refine KN_wp rfl Tryz.func165 rfl rfl rfl ?_; show Wp _ _ _ _ (Tryz.f165.body.get rfl) _ _; simp only [Tryz.f165, Option.get_some])
  (repeat' (first | simp only [go_sem, *] | (refine sx ?_ ?_ <;> intro hc) | (refine sy (by omega) fun x hx => ?_ <;> have hm := List.mem_of_getElem? hx) | simp (disch := first | assumption | omega) only [wrap_id, le_max, le_maxI, slice_int]))
  refine rawP_post (looked_kl p hp.out _ _ _ _ ?_ ?_ ?_ ?_) (fun o1 g1 p1 => ?_)
  · simp only [go_sem]
  · simp only [go_sem]
  · simp only [go_sem]
  · simp only [go_sem]
  cases hlk : looks p with
  | none =>
    obtain rfl := p1.no hlk;clear p1
    (repeat' (first | simp only [go_sem, *, sizesV] | (refine sx ?_ ?_ <;> intro hc) | (refine sy (by omega) fun x hx => ?_ <;> have hm := List.mem_of_getElem? hx) | simp (disch := first | assumption | omega) only [wrap_id, le_max, le_maxI, slice_int]))
  | some st =>
    obtain ⟨id, rfl, r1⟩ := p1.yes st hlk;clear p1;have hz := (looks_formed hlk).len;have tk1 : List.take p.nodes.length (List.map encInt st.sizes) = List.map encInt st.sizes := List.take_of_length_le (by simp [hz])
    (repeat' (first | simp only [go_sem, *, sizesV, Nat.le_refl] | (refine sx ?_ ?_ <;> intro hc) | (refine sy (by omega) fun x hx => ?_ <;> have hm := List.mem_of_getElem? hx) | simp (disch := first | assumption | omega) only [wrap_id, le_max, le_maxI, slice_int]))
theorem Sizes_kl (p : Prog) (hp : ∀ s ∈ p.free, s.size ≤ maxLen) : askN (KL Tryz.prog cfg) 109 [.agg [.d (.lst (p.free.map encStr)), .d (.lst (p.nodes.map encNode)), .d (.lst (p.defs.map encDef)), .d (.int .i64 p.main)]] [] = .ok (.ret (sizesV (looks p)), []) := by
  have hk := each_kl p hp;clear hp
  (refine KN_wp rfl Tryz.func109 rfl rfl rfl ?_; show Wp _ _ _ _ (Tryz.f109.body.get rfl) _ _; simp only [Tryz.f109, Option.get_some])
  cases hlk : looks p with
  | none =>
    rw [hlk, sizesV] at hk
    (repeat' (first | simp only [go_sem, *, sizesV] | (refine sx ?_ ?_ <;> intro hc) | (refine sy (by omega) fun x hx => ?_ <;> have hm := List.mem_of_getElem? hx) | simp (disch := first | assumption | omega) only [wrap_id, le_max, le_maxI, slice_int]))
  | some st =>
    rw [hlk, sizesV] at hk
    (repeat' (first | simp only [go_sem, *, sizesV] | (refine sx ?_ ?_ <;> intro hc) | (refine sy (by omega) fun x hx => ?_ <;> have hm := List.mem_of_getElem? hx) | simp (disch := first | assumption | omega) only [wrap_id, le_max, le_maxI, slice_int]))
end Go.Proofs
end
section
namespace Go.Proofs
open Go Go.Abs
theorem le_less : ∀ (a b : List UInt8), (Op.bytesLess a b || a == b) = !Op.bytesLess b a
  | [], [] => by simp [Op.bytesLess]
  | [], b :: y => by simp [Op.bytesLess]
  | a :: x, [] => by simp [Op.bytesLess]
  | a :: x, b :: y => by
    have ih := le_less x y;simp only [Op.bytesLess, List.cons_beq_cons];by_cases h1 : a < b
    · have h2 : ¬ b < a := fun h => by
        have := UInt8.lt_asymm h1 h;exact this
      have h3 : (b == a) = false := by
        simp only [beq_eq_false_iff_ne];intro h;subst h;exact UInt8.lt_irrefl _ h1
      simp [h1, h2, h3]
    · by_cases h2 : b < a
      · have h3 : (a == b) = false := by
          simp only [beq_eq_false_iff_ne];intro h;subst h;exact UInt8.lt_irrefl _ h2
        simp [h1, h2, h3]
      · have h3 : a = b := UInt8.le_antisymm (UInt8.not_lt.1 h2) (UInt8.not_lt.1 h1);subst h3;simp only [h1, decide_false, Bool.false_or, beq_self_eq_true, Bool.true_and];exact ih
theorem strLe_not (a b : ByteArray) : (Op.bytesLess a.toList b.toList || a.toList == b.toList) = !strLt b a := le_less _ _
theorem formed_defs {p : Prog} {sizes : List Int} (h : Formed p sizes) : ∀ d ∈ p.defs, d.okG = true := by
  intro d hd;obtain ⟨i, hi⟩ := List.getElem?_of_mem hd;obtain ⟨j, x, hx, hxo, hxn⟩ := h.used i (List.getElem?_eq_some_iff.1 hi).1;obtain ⟨s, l, _, _, _, _, hl, _⟩ := h.node j x hx;rw [subsOf, if_pos hxo, hxn, hi] at hl;dsimp only at hl;split at hl
  · assumption
  · cases hl
end Go.Proofs
end
section
namespace Go.Proofs
open Go Go.Abs
set_option maxRecDepth 100000
set_option maxHeartbeats 4000000
set_option linter.unusedSimpArgs false
set_option linter.unusedVariables false
structure AllPost (p : Prog) (r : COut × Heap) : Prop where
  no : looks p = none → ∃ h l x0 x1 x2 x3 x4 x5 x6, r = (.ret (.ptr (0 :: l) 0), h) ∧ h.get (0 :: l) = some (.box [x0, x1, x2, x3, x4, x5, x6, .d (.bool true)])
  yes : ∀ st, looks p = some st → ∃ h l sz ow us, r = (.ret (.ptr (0 :: l) 0), h) ∧ LooksR h p (0 :: l) (1 :: sz) (1 :: ow) (1 :: us) st false
theorem own_rep (n : Nat) : (List.replicate n (0 : Int)).map encInt = (List.replicate n false).map encOwn := by
  rw [List.map_replicate, List.map_replicate];rfl
def st0 : LSt := ⟨[], [], []⟩
theorem all_kl (p : Prog) (k : Nat) (ρ : List Nat) : ∃ r : COut × Heap, askN (KL Tryz.prog cfg) 83 [.agg [.d (.lst (p.free.map encStr)), .d (.lst (p.nodes.map encNode)), .d (.lst (p.defs.map encDef)), .d (.int .i64 p.main)]] (k :: ρ) = .ok r ∧ AllPost p r := by
  by_cases hs : p.small = true
  · have hs2 := Later.mk hs;simp only [Prog.small, Bool.and_eq_true, decide_eq_true_eq] at hs;obtain ⟨c1, c2, c3⟩ := hs;have d1 : ¬ (12 : Int) < p.free.length := by omega
    have d2 : ¬ (60 : Int) < p.nodes.length := by omega
    have d3 : ¬ (12 : Int) < p.defs.length := by omega
    (refine KN_post rfl Tryz.func83 rfl rfl rfl ?_; show Wp _ _ _ _ (Tryz.f83.body.get rfl) _ _; simp only [Tryz.f83, Option.get_some])
    (repeat' (first | simp only [go_sem, *] | (refine sx ?_ ?_ <;> intro hc) | (refine sy (by omega) fun x hx => ?_ <;> have hm := List.mem_of_getElem? hx) | simp (disch := first | assumption | omega) only [wrap_id, le_max, le_maxI, slice_int]))
    refine rounds_list p.free (S := fun i b => ⟨[(1, .ptr (0 :: 0 :: k :: ρ) 0), (3, .ptr (0 :: 1 :: k :: ρ) 0), (4, .d (.int .i64 i))], [(0 :: 0 :: k :: ρ, .box [.d (.lst (p.free.map encStr)), .d (.lst (p.nodes.map encNode)), .d (.lst (p.defs.map encDef)), .d (.int .i64 p.main)]), (0 :: 1 :: k :: ρ, .box [.d (.lst (p.free.map encStr)), .d (.lst (p.nodes.map encNode)), .d (.lst (p.defs.map encDef)), .d (.int .i64 p.main), .nils, .nils, .nils, .d (.bool b)])], 2, []⟩)
      (Inv := fun i rest b => Later ((!b && freeGo (if i = 0 then none else p.free[i - 1]?) rest) = freeOk p.free)) (b0 := false) ⟨rfl⟩ ?_ ?_
    · rintro i y b hy hi him hr IH;have hnm := nameR_kl y;rcases i with _ | j
      · rw [if_pos rfl] at hr;have him0 : (0 : Int) < p.free.length := by omega
        cases b;all_goals ((repeat' (first | simp only [go_sem, *] | (refine sx ?_ ?_ <;> intro hc) | (refine sy (by omega) fun x hx => ?_ <;> have hm := List.mem_of_getElem? hx) | simp (disch := first | assumption | omega) only [wrap_id, le_max, le_maxI, slice_int])))
        all_goals
          refine IH.out _ ⟨?_⟩;rw [← hr.out];rw [if_neg (by omega), Nat.add_sub_cancel, hy];simp [freeGo, strLt, *]
      · obtain ⟨q, hq⟩ := get_some (l := p.free) (i := j) (by omega);rw [if_neg (by omega), Nat.add_sub_cancel, hq] at hr;have w : IntKind.i64.wrap (((j + 1 : Nat) : Int) - 1) = (j : Int) := by rw [wrap_id (by omega) (by omega)]; omega
        have w0 : (0 : Int) < ((j + 1 : Nat) : Int) := by omega
        cases b;all_goals ((repeat' (first | simp only [go_sem, *] | (refine sx ?_ ?_ <;> intro hc) | (refine sy (by omega) fun x hx => ?_ <;> have hm := List.mem_of_getElem? hx) | simp (disch := first | assumption | omega) only [wrap_id, le_max, le_maxI, slice_int])))
        all_goals
          refine IH.out _ ⟨?_⟩;rw [← hr.out];rw [if_neg (by omega), Nat.add_sub_cancel, hy];simp [freeGo, strLe_not, *]
    · rintro i b hi him hr;rw [freeGo, Bool.and_true] at hr
      (repeat' (first | simp only [go_sem, *] | (refine sx ?_ ?_ <;> intro hc) | (refine sy (by omega) fun x hx => ?_ <;> have hm := List.mem_of_getElem? hx) | simp (disch := first | assumption | omega) only [wrap_id, le_max, le_maxI, slice_int]))
      refine rounds_list p.defs (S := fun i b => ⟨[(1, .ptr (0 :: 0 :: k :: ρ) 0), (3, .ptr (0 :: 1 :: k :: ρ) 0), (5, .d (.int .i64 i))], [(0 :: 0 :: k :: ρ, .box [.d (.lst (p.free.map encStr)), .d (.lst (p.nodes.map encNode)), .d (.lst (p.defs.map encDef)), .d (.int .i64 p.main)]), (0 :: 1 :: k :: ρ, .box [.d (.lst (p.free.map encStr)), .d (.lst (p.nodes.map encNode)), .d (.lst (p.defs.map encDef)), .d (.int .i64 p.main), .nils, .nils, .nils, .d (.bool b)])], 2, []⟩)
        (Inv := fun i rest b => Later ((!b && rest.all Def.okG) = (freeOk p.free && p.defs.all Def.okG))) (b0 := b) ⟨?_⟩ ?_ ?_
      · rw [← hr.out]
      · clear hr hi him i b;rintro i y b hy hi him hr IH;have hdr := defR_kl y;rw [ok_eq] at hdr;cases b;all_goals ((repeat' (first | simp only [go_sem, *] | (refine sx ?_ ?_ <;> intro hc) | (refine sy (by omega) fun x hx => ?_ <;> have hm := List.mem_of_getElem? hx) | simp (disch := first | assumption | omega) only [wrap_id, le_max, le_maxI, slice_int])))
        all_goals
          refine IH.out _ ⟨?_⟩;rw [← hr.out, List.all_cons];cases y.okG <;> simp
      · clear hr hi him i b;rintro i b hi him hr;rw [List.all_nil, Bool.and_true] at hr;have him2 : ¬ (i : Int) < 0 := by omega
        have hbadL : Later (b = true → looks p = none) := ⟨fun hb => by
          have hr := hr.out;rw [hb] at hr;cases hl : looks p with
          | none => rfl
          | some st =>
            exfalso;have hf : freeOk p.free = true := by
              unfold looks at hl;split at hl
              · rename_i h; exact h.2
              · cases hl
            have hd : p.defs.all Def.okG = true := List.all_eq_true.2 (formed_defs (looks_formed hl));rw [hf, hd] at hr;cases hr⟩
        cases b
        · have hfree : Later (freeOk p.free = true) := ⟨by have := hr.out; simp at this; exact this.1.symm ▸ rfl⟩;have hdef : Later (∀ d ∈ p.defs, d.okG = true) := ⟨by have := hr.out; simp at this; exact this.2⟩;by_cases hN0 : p.nodes.length = 0
          · by_cases hD0 : p.defs.length = 0
            · (repeat' (first | simp only [go_sem, *] | (refine sx ?_ ?_ <;> intro hc) | (refine sy (by omega) fun x hx => ?_ <;> have hm := List.mem_of_getElem? hx) | simp (disch := first | assumption | omega) only [wrap_id, le_max, le_maxI, slice_int, make_int, make_bool]))
              refine rawP_post (nodeR_bad p c2 p.main p.free.length (LSt.init p) _ _ (0 :: 1 :: k :: ρ) (1 :: 13 :: k :: ρ) (1 :: 17 :: k :: ρ) (1 :: 21 :: k :: ρ) ⟨?_, ?_, ?_⟩ ?_ ⟨?_, fun _ h => absurd hN0 h, fun _ h => absurd hN0 h, fun _ _ => ?_, fun h => absurd hN0 h, fun h => absurd hN0 h, fun _ => ?_⟩ ?_) (fun o1 g1 p1 => ?_)
              · simp [LSt.init]
              · simp [LSt.init]
              · simp [LSt.init]
              · constructor <;> first | exact under_id _ _ _ _ (by decide) | simp only [go_sem]
              · simp only [lookV, slv, hN0, hD0, if_false, if_true];simp only [go_sem]
              · exact absurd hD0 ‹_›
              · exact absurd hD0 ‹_›
              · omega
              obtain rfl := p1.ret;have hl := looksR_gc (ρ := 41 :: k :: ρ) (p1.no rfl st0) (by constructor <;> first | exact under_id _ _ _ _ (by decide) | simp only [go_sem]);have q1 := hl.box;rw [lookV, slv_zero hN0, slv_zero hN0, slv_zero hD0] at q1;have hno : Later (looks p = none) := ⟨by
                unfold looks;split
                · have : visit p (p.nodes.length + 1) p.main p.free.length (LSt.init p) = none := by
                    rw [visit, if_neg];intro hh;have := lt_of_get hh.2;simp [LSt.init] at this;omega
                  rw [this]
                · rfl⟩
              replace hl := Later.mk hl;replace p1 := Later.mk p1
              (repeat' (first | simp only [go_sem, *] | (refine sx ?_ ?_ <;> intro hc) | (refine sy (by omega) fun x hx => ?_ <;> have hm := List.mem_of_getElem? hx) | simp (disch := first | assumption | omega) only [wrap_id, le_max, le_maxI, slice_int]))
              rw [WpL_run]
              (repeat' (first | simp only [go_sem, *] | (refine sx ?_ ?_ <;> intro hc) | (refine sy (by omega) fun x hx => ?_ <;> have hm := List.mem_of_getElem? hx) | simp (disch := first | assumption | omega) only [wrap_id, le_max, le_maxI, slice_int]))
              rw [WpL_run]
              (repeat' (first | simp only [go_sem, *] | (refine sx ?_ ?_ <;> intro hc) | (refine sy (by omega) fun x hx => ?_ <;> have hm := List.mem_of_getElem? hx) | simp (disch := first | assumption | omega) only [wrap_id, le_max, le_maxI, slice_int]))
              exact ⟨fun _ => ⟨_, _, _, _, _, _, _, _, _, rfl, by (simp only [go_sem]; try rfl)⟩, fun st hs => (by rw [hno.out] at hs; cases hs)⟩
            · (repeat' (first | simp only [go_sem, *] | (refine sx ?_ ?_ <;> intro hc) | (refine sy (by omega) fun x hx => ?_ <;> have hm := List.mem_of_getElem? hx) | simp (disch := first | assumption | omega) only [wrap_id, le_max, le_maxI, slice_int, make_int, make_bool]))
              refine rawP_post (nodeR_bad p c2 p.main p.free.length (LSt.init p) _ _ (0 :: 1 :: k :: ρ) (1 :: 13 :: k :: ρ) (1 :: 17 :: k :: ρ) (1 :: 21 :: k :: ρ) ⟨?_, ?_, ?_⟩ ?_ ⟨?_, fun _ h => absurd hN0 h, fun _ h => absurd hN0 h, fun _ _ => ?_, fun h => absurd hN0 h, fun h => absurd hN0 h, fun _ => ?_⟩ ?_) (fun o1 g1 p1 => ?_)
              · simp [LSt.init]
              · simp [LSt.init]
              · simp [LSt.init]
              · constructor <;> first | exact under_id _ _ _ _ (by decide) | simp only [go_sem]
              · simp only [lookV, slv, hN0, hD0, if_false, if_true];simp only [go_sem]
              · simp only [go_sem, LSt.init, own_rep]
              · exact ⟨_, by (simp only [go_sem]; rfl)⟩
              · omega
              obtain rfl := p1.ret;have hl := looksR_gc (ρ := 41 :: k :: ρ) (p1.no rfl st0) (by constructor <;> first | exact under_id _ _ _ _ (by decide) | simp only [go_sem]);obtain ⟨C, q4⟩ := hl.kd hD0;have q1 := hl.box;rw [lookV, slv_zero hN0, slv_zero hN0, slv_pos hD0] at q1;have hno : Later (looks p = none) := ⟨by
                unfold looks;split
                · have : visit p (p.nodes.length + 1) p.main p.free.length (LSt.init p) = none := by
                    rw [visit, if_neg];intro hh;have := lt_of_get hh.2;simp [LSt.init] at this;omega
                  rw [this]
                · rfl⟩
              replace hl := Later.mk hl;replace p1 := Later.mk p1
              (repeat' (first | simp only [go_sem, *] | (refine sx ?_ ?_ <;> intro hc) | (refine sy (by omega) fun x hx => ?_ <;> have hm := List.mem_of_getElem? hx) | simp (disch := first | assumption | omega) only [wrap_id, le_max, le_maxI, slice_int]))
              rw [WpL_run]
              (repeat' (first | simp only [go_sem, *] | (refine sx ?_ ?_ <;> intro hc) | (refine sy (by omega) fun x hx => ?_ <;> have hm := List.mem_of_getElem? hx) | simp (disch := first | assumption | omega) only [wrap_id, le_max, le_maxI, slice_int]))
              clear q1 q4 hl p1 hbadL hr him him2 hi i;refine rounds_len (List.replicate p.defs.length ()) (S := fun _ i (_ : Unit) => ⟨[(3, .ptr (0 :: 0 :: k :: ρ) 0), (7, .d (.int .i64 i))], [(0 :: 0 :: k :: ρ, .box [.d (.lst (p.free.map encStr)), .d (.lst (p.nodes.map encNode)), .d (.lst (p.defs.map encDef)), .d (.int .i64 p.main), .emp, .emp, .osl (1 :: 1 :: k :: ρ) 0 p.defs.length, .d (.bool true)]), (1 :: 1 :: k :: ρ, .darr 1 C)], 2, []⟩)
                (Inv := fun i rest b => True) (b0 := ()) (m := p.defs.length) (by simp) trivial ?_ ?_
              · rintro i y b hy hi him hr IH
                (repeat' (first | simp only [go_sem, *] | (refine sx ?_ ?_ <;> intro hc) | (refine sy (by omega) fun x hx => ?_ <;> have hm := List.mem_of_getElem? hx) | simp (disch := first | assumption | omega) only [wrap_id, le_max, le_maxI, slice_int]))
                exact IH.out () trivial
              · rintro i b hi him hr
                (repeat' (first | simp only [go_sem, *] | (refine sx ?_ ?_ <;> intro hc) | (refine sy (by omega) fun x hx => ?_ <;> have hm := List.mem_of_getElem? hx) | simp (disch := first | assumption | omega) only [wrap_id, le_max, le_maxI, slice_int]))
                exact ⟨fun _ => ⟨_, _, _, _, _, _, _, _, _, rfl, by (simp only [go_sem]; try rfl)⟩, fun st hs => (by rw [hno.out] at hs; cases hs)⟩
          · by_cases hD0 : p.defs.length = 0
            · (repeat' (first | simp only [go_sem, *] | (refine sx ?_ ?_ <;> intro hc) | (refine sy (by omega) fun x hx => ?_ <;> have hm := List.mem_of_getElem? hx) | simp (disch := first | assumption | omega) only [wrap_id, le_max, le_maxI, slice_int, make_int, make_bool]))
              refine rawP_post (nodeR_kl p c2 c3 hdef.out (p.nodes.length + 1) p.main p.free.length (LSt.init p) _ _ (0 :: 1 :: k :: ρ) (1 :: 13 :: k :: ρ) (1 :: 17 :: k :: ρ) (1 :: 21 :: k :: ρ) ?_ ⟨?_, ?_, ?_⟩ ?_ ?_ ?_ ⟨?_, fun _ _ => ?_, fun _ _ => ?_, fun _ _ => ?_, fun _ => ?_, fun _ => ?_, fun _ => ?_⟩) (fun o1 g1 p1 => ?_)
              · have := unmet_le (LSt.init p).met;simp only [LSt.init, List.length_replicate] at *;omega
              · simp [LSt.init]
              · simp [LSt.init]
              · simp [LSt.init]
              · omega
              · omega
              · constructor <;> first | exact under_id _ _ _ _ (by decide) | simp only [go_sem]
              · simp only [lookV, slv, hN0, hD0, if_false, if_true];simp only [go_sem]
              · simp only [go_sem, LSt.init]
              · simp only [go_sem, LSt.init, own_rep]
              · exact absurd hD0 ‹_›
              · exact ⟨_, by (simp only [go_sem]; rfl)⟩
              · exact ⟨_, by (simp only [go_sem]; rfl)⟩
              · exact absurd hD0 ‹_›
              obtain rfl := p1.ret;cases hv : visit p (p.nodes.length + 1) p.main p.free.length (LSt.init p) with
              | none =>
                have hl := looksR_gc (ρ := 41 :: k :: ρ) (p1.no hv st0) (by constructor <;> first | exact under_id _ _ _ _ (by decide) | simp only [go_sem]);obtain ⟨A, q2⟩ := hl.ks hN0;obtain ⟨B, q3⟩ := hl.km hN0;have q1 := hl.box;rw [lookV, slv_pos hN0, slv_pos hN0, slv_zero hD0] at q1;have hno : Later (looks p = none) := ⟨by
                  unfold looks;rw [hv];split <;> rfl⟩
                replace hl := Later.mk hl;replace p1 := Later.mk p1
                (repeat' (first | simp only [go_sem, *] | (refine sx ?_ ?_ <;> intro hc) | (refine sy (by omega) fun x hx => ?_ <;> have hm := List.mem_of_getElem? hx) | simp (disch := first | assumption | omega) only [wrap_id, le_max, le_maxI, slice_int]))
                clear q1 q2 q3 hl p1 hbadL hr him him2 hi i;refine rounds_len (List.replicate p.nodes.length ()) (S := fun _ i (_ : Unit) => ⟨[(3, .ptr (0 :: 0 :: k :: ρ) 0), (6, .d (.int .i64 i))], [(0 :: 0 :: k :: ρ, .box [.d (.lst (p.free.map encStr)), .d (.lst (p.nodes.map encNode)), .d (.lst (p.defs.map encDef)), .d (.int .i64 p.main), .osl (1 :: 1 :: k :: ρ) 0 p.nodes.length, .osl (1 :: 2 :: k :: ρ) 0 p.nodes.length, .emp, .d (.bool true)]), (1 :: 1 :: k :: ρ, .darr 1 (A)), (1 :: 2 :: k :: ρ, .darr 1 (B))], 3, []⟩)
                  (Inv := fun i rest b => True) (b0 := ()) (m := p.nodes.length) (by simp) trivial ?_ ?_
                · rintro i y b hy hi him hr IH
                  (repeat' (first | simp only [go_sem, *] | (refine sx ?_ ?_ <;> intro hc) | (refine sy (by omega) fun x hx => ?_ <;> have hm := List.mem_of_getElem? hx) | simp (disch := first | assumption | omega) only [wrap_id, le_max, le_maxI, slice_int]))
                  exact IH.out () trivial
                · rintro i b hi him hr
                  (repeat' (first | simp only [go_sem, *] | (refine sx ?_ ?_ <;> intro hc) | (refine sy (by omega) fun x hx => ?_ <;> have hm := List.mem_of_getElem? hx) | simp (disch := first | assumption | omega) only [wrap_id, le_max, le_maxI, slice_int]))
                  rw [WpL_run]
                  (repeat' (first | simp only [go_sem, *] | (refine sx ?_ ?_ <;> intro hc) | (refine sy (by omega) fun x hx => ?_ <;> have hm := List.mem_of_getElem? hx) | simp (disch := first | assumption | omega) only [wrap_id, le_max, le_maxI, slice_int]))
                  exact ⟨fun _ => ⟨_, _, _, _, _, _, _, _, _, rfl, by (simp only [go_sem]; try rfl)⟩, fun st hs => (by rw [hno.out] at hs; cases hs)⟩
              | some st =>
                have hl := looksR_gc (ρ := 41 :: k :: ρ) (p1.yes st hv) (by constructor <;> first | exact under_id _ _ _ _ (by decide) | simp only [go_sem]);have q1 := hl.box;have q2 := hl.sizes rfl hN0;have q3 := hl.met rfl hN0;rw [lookV, slv_pos hN0, slv_pos hN0, slv_zero hD0] at q1;replace hl := Later.mk hl;replace p1 := Later.mk p1
                (repeat' (first | simp only [go_sem, *] | (refine sx ?_ ?_ <;> intro hc) | (refine sy (by omega) fun x hx => ?_ <;> have hm := List.mem_of_getElem? hx) | simp (disch := first | assumption | omega) only [wrap_id, le_max, le_maxI, slice_int]))
                have hg := visit_grow p _ _ _ _ _ hv;have m1 : st.met.length = p.nodes.length := by rw [hg.met]; simp [LSt.init]
                have m2 : st.defs.length = p.defs.length := by rw [hg.defs]; simp [LSt.init]
                have hlk := Later.mk (looks_of hs2.out hfree.out hv);clear q1 q2 q3 hl p1 hbadL hr him him2 hi i;refine rounds_len st.met (S := fun _ i b => ⟨[(3, .ptr (0 :: 0 :: k :: ρ) 0), (6, .d (.int .i64 i))], [(0 :: 0 :: k :: ρ, .box [.d (.lst (p.free.map encStr)), .d (.lst (p.nodes.map encNode)), .d (.lst (p.defs.map encDef)), .d (.int .i64 p.main), .osl (1 :: 1 :: k :: ρ) 0 p.nodes.length, .osl (1 :: 2 :: k :: ρ) 0 p.nodes.length, .emp, .d (.bool b)]), (1 :: 1 :: k :: ρ, .darr 1 (st.sizes.map encInt)), (1 :: 2 :: k :: ρ, .darr 1 (st.met.map encOwn))], 3, []⟩)
                  (Inv := fun i rest b => Later ((!b && rest.all id) = st.met.all id)) (b0 := false) (m := p.nodes.length) (by omega) ⟨rfl⟩ ?_ ?_
                · rintro i y b hy hi him hr IH;have hiN := Int.ofNat_lt.1 him;cases b <;> cases y;all_goals ((repeat' (first | simp only [go_sem, *] | (refine sx ?_ ?_ <;> intro hc) | (refine sy (by omega) fun x hx => ?_ <;> have hm := List.mem_of_getElem? hx) | simp (disch := first | assumption | omega) only [wrap_id, le_max, le_maxI, slice_int])))
                  all_goals
                    refine IH.out _ ⟨?_⟩;rw [← hr.out];simp
                · rintro i b hi him hr;rw [List.all_nil, Bool.and_true] at hr
                  (repeat' (first | simp only [go_sem, *] | (refine sx ?_ ?_ <;> intro hc) | (refine sy (by omega) fun x hx => ?_ <;> have hm := List.mem_of_getElem? hx) | simp (disch := first | assumption | omega) only [wrap_id, le_max, le_maxI, slice_int]))
                  rw [WpL_run]
                  (repeat' (first | simp only [go_sem, *] | (refine sx ?_ ?_ <;> intro hc) | (refine sy (by omega) fun x hx => ?_ <;> have hm := List.mem_of_getElem? hx) | simp (disch := first | assumption | omega) only [wrap_id, le_max, le_maxI, slice_int]))
                  have hr : Later ((!b) = (st.met.all id && st.defs.all id)) := ⟨by
                    rw [hr.out, List.eq_nil_of_length_eq_zero (m2.trans hD0)];simp⟩
                  have hx := hlk.out;cases b
                  · have : st.met.all id = true ∧ st.defs.all id = true := by have := hr.out; simp only [Bool.not_false] at this; exact (Bool.and_eq_true _ _).mp this.symm
                    rw [all_iff, all_iff] at this;rw [if_pos this] at hx;refine ⟨fun hn => (by rw [hx] at hn; cases hn), fun st' hs => ?_⟩;rw [hx] at hs;cases hs;refine ⟨_, _, 1 :: k :: ρ, 2 :: k :: ρ, 3 :: k :: ρ, rfl, ⟨?_, fun _ _ => ?_, fun _ _ => ?_, fun _ _ => ?_, fun _ => ?_, fun _ => ?_, fun _ => ?_⟩⟩
                    · simp only [lookV, slv, hN0, hD0, if_false, if_true];simp only [go_sem]
                    · simp only [go_sem]
                    · simp only [go_sem]
                    · exact absurd hD0 ‹_›
                    · exact ⟨_, by (simp only [go_sem]; try rfl)⟩
                    · exact ⟨_, by (simp only [go_sem]; try rfl)⟩
                    · exact absurd hD0 ‹_›
                  · have : ¬ ((¬ false ∈ st.met) ∧ (¬ false ∈ st.defs)) := fun h => by
                      rw [← all_iff, ← all_iff] at h;have := hr.out;rw [h.1, h.2] at this;cases this
                    rw [if_neg this] at hx;exact ⟨fun _ => ⟨_, _, _, _, _, _, _, _, _, rfl, by (simp only [go_sem]; try rfl)⟩, fun st hs => (by rw [hx] at hs; cases hs)⟩
            · (repeat' (first | simp only [go_sem, *] | (refine sx ?_ ?_ <;> intro hc) | (refine sy (by omega) fun x hx => ?_ <;> have hm := List.mem_of_getElem? hx) | simp (disch := first | assumption | omega) only [wrap_id, le_max, le_maxI, slice_int, make_int, make_bool]))
              refine rawP_post (nodeR_kl p c2 c3 hdef.out (p.nodes.length + 1) p.main p.free.length (LSt.init p) _ _ (0 :: 1 :: k :: ρ) (1 :: 13 :: k :: ρ) (1 :: 17 :: k :: ρ) (1 :: 21 :: k :: ρ) ?_ ⟨?_, ?_, ?_⟩ ?_ ?_ ?_ ⟨?_, fun _ _ => ?_, fun _ _ => ?_, fun _ _ => ?_, fun _ => ?_, fun _ => ?_, fun _ => ?_⟩) (fun o1 g1 p1 => ?_)
              · have := unmet_le (LSt.init p).met;simp only [LSt.init, List.length_replicate] at *;omega
              · simp [LSt.init]
              · simp [LSt.init]
              · simp [LSt.init]
              · omega
              · omega
              · constructor <;> first | exact under_id _ _ _ _ (by decide) | simp only [go_sem]
              · simp only [lookV, slv, hN0, hD0, if_false, if_true];simp only [go_sem]
              · simp only [go_sem, LSt.init]
              · simp only [go_sem, LSt.init, own_rep]
              · simp only [go_sem, LSt.init, own_rep]
              · exact ⟨_, by (simp only [go_sem]; rfl)⟩
              · exact ⟨_, by (simp only [go_sem]; rfl)⟩
              · exact ⟨_, by (simp only [go_sem]; rfl)⟩
              obtain rfl := p1.ret;cases hv : visit p (p.nodes.length + 1) p.main p.free.length (LSt.init p) with
              | none =>
                have hl := looksR_gc (ρ := 41 :: k :: ρ) (p1.no hv st0) (by constructor <;> first | exact under_id _ _ _ _ (by decide) | simp only [go_sem]);obtain ⟨A, q2⟩ := hl.ks hN0;obtain ⟨B, q3⟩ := hl.km hN0;obtain ⟨C, q4⟩ := hl.kd hD0;have q1 := hl.box;rw [lookV, slv_pos hN0, slv_pos hN0, slv_pos hD0] at q1;have hno : Later (looks p = none) := ⟨by
                  unfold looks;rw [hv];split <;> rfl⟩
                replace hl := Later.mk hl;replace p1 := Later.mk p1
                (repeat' (first | simp only [go_sem, *] | (refine sx ?_ ?_ <;> intro hc) | (refine sy (by omega) fun x hx => ?_ <;> have hm := List.mem_of_getElem? hx) | simp (disch := first | assumption | omega) only [wrap_id, le_max, le_maxI, slice_int]))
                clear q1 q2 q3 q4 hl p1 hbadL hr him him2 hi i;refine rounds_len (List.replicate p.nodes.length ()) (S := fun _ i (_ : Unit) => ⟨[(3, .ptr (0 :: 0 :: k :: ρ) 0), (6, .d (.int .i64 i))], [(0 :: 0 :: k :: ρ, .box [.d (.lst (p.free.map encStr)), .d (.lst (p.nodes.map encNode)), .d (.lst (p.defs.map encDef)), .d (.int .i64 p.main), .osl (1 :: 1 :: k :: ρ) 0 p.nodes.length, .osl (1 :: 2 :: k :: ρ) 0 p.nodes.length, .osl (1 :: 3 :: k :: ρ) 0 p.defs.length, .d (.bool true)]), (1 :: 1 :: k :: ρ, .darr 1 (A)), (1 :: 2 :: k :: ρ, .darr 1 (B)), (1 :: 3 :: k :: ρ, .darr 1 (C))], 4, []⟩)
                  (Inv := fun i rest b => True) (b0 := ()) (m := p.nodes.length) (by simp) trivial ?_ ?_
                · rintro i y b hy hi him hr IH
                  (repeat' (first | simp only [go_sem, *] | (refine sx ?_ ?_ <;> intro hc) | (refine sy (by omega) fun x hx => ?_ <;> have hm := List.mem_of_getElem? hx) | simp (disch := first | assumption | omega) only [wrap_id, le_max, le_maxI, slice_int]))
                  exact IH.out () trivial
                · rintro i b hi him hr
                  (repeat' (first | simp only [go_sem, *] | (refine sx ?_ ?_ <;> intro hc) | (refine sy (by omega) fun x hx => ?_ <;> have hm := List.mem_of_getElem? hx) | simp (disch := first | assumption | omega) only [wrap_id, le_max, le_maxI, slice_int]))
                  refine rounds_len (List.replicate p.defs.length ()) (S := fun _ i (_ : Unit) => ⟨[(3, .ptr (0 :: 0 :: k :: ρ) 0), (7, .d (.int .i64 i))], [(0 :: 0 :: k :: ρ, .box [.d (.lst (p.free.map encStr)), .d (.lst (p.nodes.map encNode)), .d (.lst (p.defs.map encDef)), .d (.int .i64 p.main), .osl (1 :: 1 :: k :: ρ) 0 p.nodes.length, .osl (1 :: 2 :: k :: ρ) 0 p.nodes.length, .osl (1 :: 3 :: k :: ρ) 0 p.defs.length, .d (.bool true)]), (1 :: 1 :: k :: ρ, .darr 1 (A)), (1 :: 2 :: k :: ρ, .darr 1 (B)), (1 :: 3 :: k :: ρ, .darr 1 (C))], 4, []⟩)
                    (Inv := fun i rest b => True) (b0 := ()) (m := p.defs.length) (by simp) trivial ?_ ?_
                  · clear hr hi him i b;rintro i y b hy hi him hr IH
                    (repeat' (first | simp only [go_sem, *] | (refine sx ?_ ?_ <;> intro hc) | (refine sy (by omega) fun x hx => ?_ <;> have hm := List.mem_of_getElem? hx) | simp (disch := first | assumption | omega) only [wrap_id, le_max, le_maxI, slice_int]))
                    exact IH.out () trivial
                  · clear hr hi him i b;rintro i b hi him hr
                    (repeat' (first | simp only [go_sem, *] | (refine sx ?_ ?_ <;> intro hc) | (refine sy (by omega) fun x hx => ?_ <;> have hm := List.mem_of_getElem? hx) | simp (disch := first | assumption | omega) only [wrap_id, le_max, le_maxI, slice_int]))
                    exact ⟨fun _ => ⟨_, _, _, _, _, _, _, _, _, rfl, by (simp only [go_sem]; try rfl)⟩, fun st hs => (by rw [hno.out] at hs; cases hs)⟩
              | some st =>
                have hl := looksR_gc (ρ := 41 :: k :: ρ) (p1.yes st hv) (by constructor <;> first | exact under_id _ _ _ _ (by decide) | simp only [go_sem]);have q1 := hl.box;have q2 := hl.sizes rfl hN0;have q3 := hl.met rfl hN0;have q4 := hl.defs rfl hD0;rw [lookV, slv_pos hN0, slv_pos hN0, slv_pos hD0] at q1;replace hl := Later.mk hl;replace p1 := Later.mk p1
                (repeat' (first | simp only [go_sem, *] | (refine sx ?_ ?_ <;> intro hc) | (refine sy (by omega) fun x hx => ?_ <;> have hm := List.mem_of_getElem? hx) | simp (disch := first | assumption | omega) only [wrap_id, le_max, le_maxI, slice_int]))
                have hg := visit_grow p _ _ _ _ _ hv;have m1 : st.met.length = p.nodes.length := by rw [hg.met]; simp [LSt.init]
                have m2 : st.defs.length = p.defs.length := by rw [hg.defs]; simp [LSt.init]
                have hlk := Later.mk (looks_of hs2.out hfree.out hv);clear q1 q2 q3 q4 hl p1 hbadL hr him him2 hi i;refine rounds_len st.met (S := fun _ i b => ⟨[(3, .ptr (0 :: 0 :: k :: ρ) 0), (6, .d (.int .i64 i))], [(0 :: 0 :: k :: ρ, .box [.d (.lst (p.free.map encStr)), .d (.lst (p.nodes.map encNode)), .d (.lst (p.defs.map encDef)), .d (.int .i64 p.main), .osl (1 :: 1 :: k :: ρ) 0 p.nodes.length, .osl (1 :: 2 :: k :: ρ) 0 p.nodes.length, .osl (1 :: 3 :: k :: ρ) 0 p.defs.length, .d (.bool b)]), (1 :: 1 :: k :: ρ, .darr 1 (st.sizes.map encInt)), (1 :: 2 :: k :: ρ, .darr 1 (st.met.map encOwn)), (1 :: 3 :: k :: ρ, .darr 1 (st.defs.map encOwn))], 4, []⟩)
                  (Inv := fun i rest b => Later ((!b && rest.all id) = st.met.all id)) (b0 := false) (m := p.nodes.length) (by omega) ⟨rfl⟩ ?_ ?_
                · rintro i y b hy hi him hr IH;have hiN := Int.ofNat_lt.1 him;cases b <;> cases y;all_goals ((repeat' (first | simp only [go_sem, *] | (refine sx ?_ ?_ <;> intro hc) | (refine sy (by omega) fun x hx => ?_ <;> have hm := List.mem_of_getElem? hx) | simp (disch := first | assumption | omega) only [wrap_id, le_max, le_maxI, slice_int])))
                  all_goals
                    refine IH.out _ ⟨?_⟩;rw [← hr.out];simp
                · rintro i b hi him hr;rw [List.all_nil, Bool.and_true] at hr
                  (repeat' (first | simp only [go_sem, *] | (refine sx ?_ ?_ <;> intro hc) | (refine sy (by omega) fun x hx => ?_ <;> have hm := List.mem_of_getElem? hx) | simp (disch := first | assumption | omega) only [wrap_id, le_max, le_maxI, slice_int]))
                  refine rounds_len st.defs (S := fun _ i b => ⟨[(3, .ptr (0 :: 0 :: k :: ρ) 0), (7, .d (.int .i64 i))], [(0 :: 0 :: k :: ρ, .box [.d (.lst (p.free.map encStr)), .d (.lst (p.nodes.map encNode)), .d (.lst (p.defs.map encDef)), .d (.int .i64 p.main), .osl (1 :: 1 :: k :: ρ) 0 p.nodes.length, .osl (1 :: 2 :: k :: ρ) 0 p.nodes.length, .osl (1 :: 3 :: k :: ρ) 0 p.defs.length, .d (.bool b)]), (1 :: 1 :: k :: ρ, .darr 1 (st.sizes.map encInt)), (1 :: 2 :: k :: ρ, .darr 1 (st.met.map encOwn)), (1 :: 3 :: k :: ρ, .darr 1 (st.defs.map encOwn))], 4, []⟩)
                    (Inv := fun i rest b => Later ((!b && rest.all id) = (st.met.all id && st.defs.all id))) (b0 := b) (m := p.defs.length) (by omega) ⟨?_⟩ ?_ ?_
                  · rw [hr.out]
                  · clear hr hi him i b;rintro i y b hy hi him hr IH;have hiN := Int.ofNat_lt.1 him;cases b <;> cases y;all_goals ((repeat' (first | simp only [go_sem, *] | (refine sx ?_ ?_ <;> intro hc) | (refine sy (by omega) fun x hx => ?_ <;> have hm := List.mem_of_getElem? hx) | simp (disch := first | assumption | omega) only [wrap_id, le_max, le_maxI, slice_int])))
                    all_goals
                      refine IH.out _ ⟨?_⟩;rw [← hr.out];simp
                  · clear hr hi him i b;rintro i b hi him hr;rw [List.all_nil, Bool.and_true] at hr
                    (repeat' (first | simp only [go_sem, *] | (refine sx ?_ ?_ <;> intro hc) | (refine sy (by omega) fun x hx => ?_ <;> have hm := List.mem_of_getElem? hx) | simp (disch := first | assumption | omega) only [wrap_id, le_max, le_maxI, slice_int]))
                    have hx := hlk.out;cases b
                    · have : st.met.all id = true ∧ st.defs.all id = true := by have := hr.out; simp only [Bool.not_false] at this; exact (Bool.and_eq_true _ _).mp this.symm
                      rw [all_iff, all_iff] at this;rw [if_pos this] at hx;refine ⟨fun hn => (by rw [hx] at hn; cases hn), fun st' hs => ?_⟩;rw [hx] at hs;cases hs;refine ⟨_, _, 1 :: k :: ρ, 2 :: k :: ρ, 3 :: k :: ρ, rfl, ⟨?_, fun _ _ => ?_, fun _ _ => ?_, fun _ _ => ?_, fun _ => ?_, fun _ => ?_, fun _ => ?_⟩⟩
                      · simp only [lookV, slv, hN0, hD0, if_false, if_true];simp only [go_sem]
                      · simp only [go_sem]
                      · simp only [go_sem]
                      · simp only [go_sem]
                      · exact ⟨_, by (simp only [go_sem]; try rfl)⟩
                      · exact ⟨_, by (simp only [go_sem]; try rfl)⟩
                      · exact ⟨_, by (simp only [go_sem]; try rfl)⟩
                    · have : ¬ ((¬ false ∈ st.met) ∧ (¬ false ∈ st.defs)) := fun h => by
                        rw [← all_iff, ← all_iff] at h;have := hr.out;rw [h.1, h.2] at this;cases this
                      rw [if_neg this] at hx;exact ⟨fun _ => ⟨_, _, _, _, _, _, _, _, _, rfl, by (simp only [go_sem]; try rfl)⟩, fun st hs => (by rw [hx] at hs; cases hs)⟩
        · by_cases hN0 : p.nodes.length = 0 <;> by_cases hD0 : p.defs.length = 0;all_goals ((repeat' (first | simp only [go_sem, *] | (refine sx ?_ ?_ <;> intro hc) | (refine sy (by omega) fun x hx => ?_ <;> have hm := List.mem_of_getElem? hx) | simp (disch := first | assumption | omega) only [wrap_id, le_max, le_maxI, slice_int, make_int, make_bool])))
          all_goals exact ⟨fun _ => ⟨_, _, _, _, _, _, _, _, _, rfl, by (simp only [go_sem]; try rfl)⟩, fun st hs => (by rw [hbadL.out rfl] at hs; cases hs)⟩
  · have e : looks p = none := by
      unfold looks;rw [if_neg fun h => hs h.1]
    have hs : ¬ (p.free.length ≤ 12 ∧ p.nodes.length ≤ 60 ∧ p.defs.length ≤ 12) := by
      intro h;apply hs;simp only [Prog.small, Bool.and_eq_true, decide_eq_true_eq];exact h
    replace hs := Later.mk hs
    (refine KN_post rfl Tryz.func83 rfl rfl rfl ?_; show Wp _ _ _ _ (Tryz.f83.body.get rfl) _ _; simp only [Tryz.f83, Option.get_some])
    (repeat' (first | simp only [go_sem, *] | (refine sx ?_ ?_ <;> intro hc) | (refine sy (by omega) fun x hx => ?_ <;> have hm := List.mem_of_getElem? hx) | simp (disch := first | assumption | omega) only [wrap_id, le_max, le_maxI, slice_int]))
    all_goals first
    | exact ⟨fun _ => ⟨_, _, _, _, _, _, _, _, _, rfl, by (simp only [go_sem]; try rfl)⟩, fun st hs => (by rw [e] at hs; cases hs)⟩
    | (have hs := hs.out; exfalso; omega)
end Go.Proofs
end
section
namespace Go.Proofs
open Go Go.Abs
set_option maxRecDepth 100000
set_option maxHeartbeats 4000000
set_option linter.unusedSimpArgs false
set_option linter.unusedVariables false
def errP (p : Prog) : Int := match looks p with | some _ => 0 | none => 2
theorem CheckP_kl (p : Prog) : askN (KL Tryz.prog cfg) 44 [.agg [.d (.lst (p.free.map encStr)), .d (.lst (p.nodes.map encNode)), .d (.lst (p.defs.map encDef)), .d (.int .i64 p.main)]] [] = .ok (.ret (.d (.int .i64 (errP p))), []) := by
  (refine KN_wp rfl Tryz.func44 rfl rfl rfl ?_; show Wp _ _ _ _ (Tryz.f44.body.get rfl) _ _; simp only [Tryz.f44, Option.get_some])
  obtain ⟨r, e, hp⟩ := all_kl p 3 [];cases hl : looks p with
  | none =>
    obtain ⟨h, l, x0, x1, x2, x3, x4, x5, x6, rfl, hg⟩ := hp.no hl;replace hp := Later.mk hp;have he : errP p = 2 := by rw [errP, hl]
    rw [he]
    (repeat' (first | simp only [go_sem, *, get_app] | (refine sx ?_ ?_ <;> intro hc) | (refine sy (by omega) fun x hx => ?_ <;> have hm := List.mem_of_getElem? hx) | simp (disch := first | assumption | omega) only [wrap_id, le_max, le_maxI, slice_int]))
  | some st =>
    obtain ⟨h, l, sz, ow, us, rfl, hg⟩ := hp.yes st hl;have q1 := hg.box;rw [lookV] at q1;replace hp := Later.mk hp;have he : errP p = 0 := by rw [errP, hl]
    rw [he]
    (repeat' (first | simp only [go_sem, *, get_app] | (refine sx ?_ ?_ <;> intro hc) | (refine sy (by omega) fun x hx => ?_ <;> have hm := List.mem_of_getElem? hx) | simp (disch := first | assumption | omega) only [wrap_id, le_max, le_maxI, slice_int]))
theorem SizesOf_kl {p : Prog} {st : LSt} (hl : looks p = some st) : askN (KL Tryz.prog cfg) 68 [.agg [.d (.lst (p.free.map encStr)), .d (.lst (p.nodes.map encNode)), .d (.lst (p.defs.map encDef)), .d (.int .i64 p.main)]] [] = .ok (.ret (.d (.lst (st.sizes.map encInt))), []) := by
  (refine KN_wp rfl Tryz.func68 rfl rfl rfl ?_; show Wp _ _ _ _ (Tryz.f68.body.get rfl) _ _; simp only [Tryz.f68, Option.get_some])
  obtain ⟨r, e, hp⟩ := all_kl p 3 [];obtain ⟨h, l, sz, ow, us, rfl, hg⟩ := hp.yes st hl;have hF := looks_formed hl;have hN : p.nodes.length ≠ 0 := by
    have := lt_of_get hF.main.2;rw [hF.len] at this;omega
  have q1 := hg.box;have q2 := hg.sizes rfl hN;rw [lookV, slv_pos hN] at q1;have tk1 : List.take p.nodes.length (List.map encInt st.sizes) = List.map encInt st.sizes := List.take_of_length_le (by simp [hF.len]);have hF2 := hF.len;replace hp := Later.mk hp;replace hg := Later.mk hg;clear hF
  (repeat' (first | simp only [go_sem, *, Nat.le_refl, get_app] | (refine sx ?_ ?_ <;> intro hc) | (refine sy (by omega) fun x hx => ?_ <;> have hm := List.mem_of_getElem? hx) | simp (disch := first | assumption | omega) only [wrap_id, le_max, le_maxI, slice_int]))
end Go.Proofs
end
