/-
  Parts: SolArgs SolArgs2 SolLaw9.
-/
import Derived.Test.YtbinfhpngacfgaaGreatCk10
import Derived.Test.YtbinfhpngacfgaaGreatCk12
import Derived.Test.YtbinfhpngacfgaaGreatCk14
import Derived.Test.YtbinfhpngacfgaaGreatCk15
set_option linter.all false
set_option linter.unusedSimpArgs false
set_option linter.unusedVariables false
section
namespace Go.Proofs
open Go Go.Abs
set_option maxRecDepth 100000
set_option linter.unusedSimpArgs false
set_option linter.unusedVariables false
def Reads {α : Type} (ss : List Sh) (enc : α → List Dat) (ok : α → Prop) : Prop := ∀ xs, HasAll Tryz.prog 8 ss xs → ∃ a, xs = enc a ∧ ok a
theorem has_int {k : IntKind} {d : Dat} (h : Has Tryz.prog 8 (.int k) d) : ∃ m, d = .int k m := by cases h; exact ⟨_, rfl⟩
theorem has_bool {d : Dat} (h : Has Tryz.prog 8 .bool d) : ∃ m, d = .bool m := by cases h; exact ⟨_, rfl⟩
theorem has_list {α : Type} {enc : α → List Dat} {ok : α → Prop} {t : TypeId} {ss : List Sh} {d : Dat} (h : Has Tryz.prog 8 (.lst t) d) (hs : shapes Tryz.prog 8 t = some ss) (hr : Reads ss enc ok) : ∃ l : List α, d = .lst (l.map enc) ∧ l.length ≤ maxLen ∧ ∀ a ∈ l, ok a := by
  cases h with
  | lst _ ss' es h1 h2 h3 h4 =>
    rw [hs] at h1;cases h1;have key : ∀ es : List (List Dat), (∀ e ∈ es, HasAll Tryz.prog 8 ss e) → ∃ l : List α, es = l.map enc ∧ ∀ a ∈ l, ok a := by
      intro es;induction es with
      | nil => intro _; exact ⟨[], rfl, by simp⟩
      | cons e es ih =>
        intro hk;obtain ⟨a, rfl, ha⟩ := hr e (hk e (by simp));obtain ⟨l, rfl, hl⟩ := ih fun e he => hk e (by simp [he]);exact ⟨a :: l, rfl, fun b hb => by rcases List.mem_cons.1 hb with rfl | hb; exact ha; exact hl b hb⟩
    obtain ⟨l, rfl, hl⟩ := key es fun e he => ⟨h3 e he, h4 e he⟩;exact ⟨l, rfl, by simpa using h2, hl⟩
theorem all1 {s : Sh} {xs : List Dat} (h : HasAll Tryz.prog 8 [s] xs) : ∃ a, xs = [a] ∧ Has Tryz.prog 8 s a := by
  obtain ⟨h1, h2⟩ := h;rcases xs with _ | ⟨a, _ | ⟨b, l⟩⟩ <;> simp at h1;exact ⟨a, rfl, h2 0 _ _ rfl rfl⟩
theorem all_cons {s : Sh} {ss : List Sh} {xs : List Dat} (h : HasAll Tryz.prog 8 (s :: ss) xs) : ∃ a l, xs = a :: l ∧ Has Tryz.prog 8 s a ∧ HasAll Tryz.prog 8 ss l := by
  obtain ⟨h1, h2⟩ := h;rcases xs with _ | ⟨a, l⟩
  · simp at h1
  · exact ⟨a, l, rfl, h2 0 _ _ rfl rfl, by simpa using h1, fun i s x e1 e2 => h2 (i + 1) s x (by simpa using e1) (by simpa using e2)⟩
theorem all_nil {xs : List Dat} (h : HasAll Tryz.prog 8 [] xs) : xs = [] := List.eq_nil_of_length_eq_zero (by simpa using h.1)
theorem sh88 : shapes Tryz.prog 8 88 = some [.int .i64, .int .i64] := by kernel_rfl
theorem sh85 : shapes Tryz.prog 8 85 = some [.int .i64, .int .i64, .lst 85] := by kernel_rfl
theorem reads_val : Reads [.int .i64, .int .i64] encVal fun _ => True := fun xs h => by
  obtain ⟨a, l, rfl, ha, h⟩ := all_cons h;obtain ⟨b, rfl, hb⟩ := all1 h;obtain ⟨k, rfl⟩ := has_int ha;obtain ⟨n, rfl⟩ := has_int hb;exact ⟨⟨k, n⟩, rfl, trivial⟩
theorem has_exps {s : Sh} {d : Dat} (h : Has Tryz.prog 8 s d) : s = .lst 85 → ∃ l : List Exp, d = .lst (l.map encExp) := by
  induction h with
  | lst t ss es h1 h2 h3 h4 ih =>
    intro e;cases e;rw [sh85] at h1;cases h1;have key : ∀ es : List (List Dat), (∀ e ∈ es, e.length = 3) → (∀ e ∈ es, ∀ (i : Nat) s x, [Sh.int .i64, .int .i64, .lst 85][i]? = some s → e[i]? = some x → Has Tryz.prog 8 s x) → (∀ e ∈ es, ∀ (i : Nat) s x, [Sh.int .i64, .int .i64, .lst 85][i]? = some s → e[i]? = some x → s = .lst 85 → ∃ l : List Exp, x = .lst (l.map encExp)) → ∃ l : List Exp, es = l.map encExp := by
      intro es;induction es with
      | nil => intro _ _ _; exact ⟨[], rfl⟩
      | cons e es ih2 =>
        intro k1 k2 k3;obtain ⟨l, rfl⟩ := ih2 (fun e he => k1 e (by simp [he])) (fun e he => k2 e (by simp [he])) fun e he => k3 e (by simp [he]);have l3 := k1 e (by simp);rcases e with _ | ⟨a, _ | ⟨b, _ | ⟨c, _ | ⟨d, m⟩⟩⟩⟩ <;> simp at l3;have q0 := k2 [a, b, c] (List.mem_cons_self ..) 0 _ _ rfl rfl;have q1 := k2 [a, b, c] (List.mem_cons_self ..) 1 _ _ rfl rfl;have q2 := k3 [a, b, c] (List.mem_cons_self ..) 2 _ _ rfl rfl rfl;obtain ⟨o, rfl⟩ := has_int q0;obtain ⟨n, rfl⟩ := has_int q1;obtain ⟨q, rfl⟩ := q2;exact ⟨.mk o n q :: l, by simp [encExp_eq, Exp.op, Exp.n, Exp.kids]⟩
    obtain ⟨l, rfl⟩ := key es h3 h4 ih;exact ⟨l, rfl⟩
  | _ => intro e; cases e
theorem args_cons {t : TypeId} {ts : List TypeId} {xs : List AV} {ss : List Sh} (h : Args Tryz.prog 8 (t :: ts) xs) (hs : shapes Tryz.prog 8 t = some ss) : ∃ ds l, xs = argOf Tryz.prog t ds :: l ∧ HasAll Tryz.prog 8 ss ds ∧ Args Tryz.prog 8 ts l := by
  cases h with
  | cons h1 h2 h3 =>
    rw [hs] at h1;cases h1;exact ⟨_, _, rfl, h2, h3⟩
theorem args_nil {xs : List AV} (h : Args Tryz.prog 8 [] xs) : xs = [] := by cases h; rfl
noncomputable def isAggT (t : TypeId) : Bool := match Tryz.prog.underlying t with
  | some (.struct _) => true
  | some (.array _ _) => true
  | _ => false
theorem arg_agg {t : TypeId} {ds : List Dat} (h : isAggT t = true) : argOf Tryz.prog t ds = .agg (ds.map .d) := by
  unfold argOf;unfold isAggT at h;split <;> simp_all
@[go_sem] theorem known_ask : askN (KL Tryz.prog cfg) 20 [] [] = .ok (.ret (.d (.bool true)), []) := by
  unfold askN;rw [known_kl];rfl
end Go.Proofs
end
section
namespace Go.Proofs
open Go Go.Abs
set_option maxRecDepth 100000
set_option linter.unusedSimpArgs false
set_option linter.unusedVariables false
theorem sh3 : shapes Tryz.prog 8 3 = some [.int .i64] := by kernel_rfl
theorem sh9 : shapes Tryz.prog 8 9 = some [.str] := by kernel_rfl
theorem sh140 : shapes Tryz.prog 8 140 = some [.int .i64, .int .i64, .lst 85, .lst 3] := by kernel_rfl
theorem sh147 : shapes Tryz.prog 8 147 = some [.lst 187, .lst 189, .lst 151] := by kernel_rfl
theorem sh187 : shapes Tryz.prog 8 187 = some [.int .i64, .int .i64] := by kernel_rfl
theorem sh189 : shapes Tryz.prog 8 189 = some [.int .i64, .int .i64] := by kernel_rfl
theorem sh151 : shapes Tryz.prog 8 151 = some [.int .i64, .lst 3, .int .i64] := by kernel_rfl
theorem sh66 : shapes Tryz.prog 8 66 = some [.int .i64, .bool] := by kernel_rfl
theorem sh114 : shapes Tryz.prog 8 114 = some [.int .i64, .int .i64, .lst 88] := by kernel_rfl
theorem sh69 : shapes Tryz.prog 8 69 = some [.int .i64, .int .i64, .int .i64, .lst 73] := by kernel_rfl
theorem sh73 : shapes Tryz.prog 8 73 = some [.lst 88] := by kernel_rfl
theorem sh127 : shapes Tryz.prog 8 127 = some [.int .i64, .int .i64, .lst 88] := by kernel_rfl
theorem sh26 : shapes Tryz.prog 8 26 = some [.lst 9, .lst 140, .lst 147, .int .i64] := by kernel_rfl
theorem sh32 : shapes Tryz.prog 8 32 = some [.lst 66, .lst 114, .lst 69, .lst 127] := by kernel_rfl
theorem agg26 : isAggT 26 = true := by kernel_rfl
theorem agg32 : isAggT 32 = true := by kernel_rfl
theorem reads_int : Reads [.int .i64] encInt fun _ => True := fun xs h => by
  obtain ⟨a, rfl, ha⟩ := all1 h;obtain ⟨k, rfl⟩ := has_int ha;exact ⟨k, rfl, trivial⟩
theorem has_str2 {d : Dat} (h : Has Tryz.prog 8 .str d) : ∃ m, d = .str m ∧ m.size ≤ maxLen := by cases h; exact ⟨_, rfl, by assumption⟩
theorem reads_str : Reads [.str] encStr fun s => s.size ≤ maxLen := fun xs h => by
  obtain ⟨a, rfl, ha⟩ := all1 h;obtain ⟨k, rfl, hk⟩ := has_str2 ha;exact ⟨k, rfl, hk⟩
theorem reads_node : Reads [.int .i64, .int .i64, .lst 85, .lst 3] encNode fun _ => True := fun xs h => by
  obtain ⟨a, l, rfl, ha, h⟩ := all_cons h;obtain ⟨b, l, rfl, hb, h⟩ := all_cons h;obtain ⟨c, l, rfl, hc, h⟩ := all_cons h;obtain ⟨d, rfl, hd⟩ := all1 h;obtain ⟨a, rfl⟩ := has_int ha;obtain ⟨b, rfl⟩ := has_int hb;obtain ⟨c, rfl⟩ := has_exps hc rfl;obtain ⟨d, rfl, _, _⟩ := has_list hd sh3 reads_int;exact ⟨⟨a, b, c, d⟩, rfl, trivial⟩
theorem reads_chan : Reads [.int .i64, .int .i64] encChan fun _ => True := fun xs h => by
  obtain ⟨a, l, rfl, ha, h⟩ := all_cons h;obtain ⟨b, rfl, hb⟩ := all1 h;obtain ⟨a, rfl⟩ := has_int ha;obtain ⟨b, rfl⟩ := has_int hb;exact ⟨⟨a, b⟩, rfl, trivial⟩
theorem reads_dspot : Reads [.int .i64, .int .i64] encDSpot fun _ => True := fun xs h => by
  obtain ⟨a, l, rfl, ha, h⟩ := all_cons h;obtain ⟨b, rfl, hb⟩ := all1 h;obtain ⟨a, rfl⟩ := has_int ha;obtain ⟨b, rfl⟩ := has_int hb;exact ⟨⟨a, b⟩, rfl, trivial⟩
theorem reads_rule : Reads [.int .i64, .lst 3, .int .i64] encRule fun _ => True := fun xs h => by
  obtain ⟨a, l, rfl, ha, h⟩ := all_cons h;obtain ⟨b, l, rfl, hb, h⟩ := all_cons h;obtain ⟨c, rfl, hc⟩ := all1 h;obtain ⟨a, rfl⟩ := has_int ha;obtain ⟨b, rfl, _, _⟩ := has_list hb sh3 reads_int;obtain ⟨c, rfl⟩ := has_int hc;exact ⟨⟨a, b, c⟩, rfl, trivial⟩
theorem reads_def : Reads [.lst 187, .lst 189, .lst 151] encDef fun _ => True := fun xs h => by
  obtain ⟨a, l, rfl, ha, h⟩ := all_cons h;obtain ⟨b, l, rfl, hb, h⟩ := all_cons h;obtain ⟨c, rfl, hc⟩ := all1 h;obtain ⟨a, rfl, _, _⟩ := has_list ha sh187 reads_chan;obtain ⟨b, rfl, _, _⟩ := has_list hb sh189 reads_dspot;obtain ⟨c, rfl, _, _⟩ := has_list hc sh151 reads_rule;exact ⟨⟨a, b, c⟩, rfl, trivial⟩
theorem reads_spot : Reads [.int .i64, .bool] encSpot fun _ => True := fun xs h => by
  obtain ⟨a, l, rfl, ha, h⟩ := all_cons h;obtain ⟨b, rfl, hb⟩ := all1 h;obtain ⟨a, rfl⟩ := has_int ha;obtain ⟨b, rfl⟩ := has_bool hb;exact ⟨⟨a, b⟩, rfl, trivial⟩
theorem reads_group : Reads [.int .i64, .int .i64, .lst 88] encGroup fun _ => True := fun xs h => by
  obtain ⟨a, l, rfl, ha, h⟩ := all_cons h;obtain ⟨b, l, rfl, hb, h⟩ := all_cons h;obtain ⟨c, rfl, hc⟩ := all1 h;obtain ⟨a, rfl⟩ := has_int ha;obtain ⟨b, rfl⟩ := has_int hb;obtain ⟨c, rfl, _, _⟩ := has_list hc sh88 reads_val;exact ⟨⟨a, b, c⟩, rfl, trivial⟩
theorem reads_msg : Reads [.lst 88] encMsg fun _ => True := fun xs h => by
  obtain ⟨a, rfl, ha⟩ := all1 h;obtain ⟨a, rfl, _, _⟩ := has_list ha sh88 reads_val;exact ⟨a, rfl, trivial⟩
theorem reads_chn : Reads [.int .i64, .int .i64, .int .i64, .lst 73] encChn fun _ => True := fun xs h => by
  obtain ⟨a, l, rfl, ha, h⟩ := all_cons h;obtain ⟨b, l, rfl, hb, h⟩ := all_cons h;obtain ⟨c, l, rfl, hc, h⟩ := all_cons h;obtain ⟨d, rfl, hd⟩ := all1 h;obtain ⟨a, rfl⟩ := has_int ha;obtain ⟨b, rfl⟩ := has_int hb;obtain ⟨c, rfl⟩ := has_int hc;obtain ⟨d, rfl, _, _⟩ := has_list hd sh73 reads_msg;exact ⟨⟨a, b, c, d⟩, rfl, trivial⟩
theorem reads_wait : Reads [.int .i64, .int .i64, .lst 88] encWait fun _ => True := fun xs h => by
  obtain ⟨a, l, rfl, ha, h⟩ := all_cons h;obtain ⟨b, l, rfl, hb, h⟩ := all_cons h;obtain ⟨c, rfl, hc⟩ := all1 h;obtain ⟨a, rfl⟩ := has_int ha;obtain ⟨b, rfl⟩ := has_int hb;obtain ⟨c, rfl, _, _⟩ := has_list hc sh88 reads_val;exact ⟨⟨a, b, c⟩, rfl, trivial⟩
theorem reads_prog : Reads [.lst 9, .lst 140, .lst 147, .int .i64] encProg fun p => ∀ s ∈ p.free, s.size ≤ maxLen := fun xs h => by
  obtain ⟨a, l, rfl, ha, h⟩ := all_cons h;obtain ⟨b, l, rfl, hb, h⟩ := all_cons h;obtain ⟨c, l, rfl, hc, h⟩ := all_cons h;obtain ⟨d, rfl, hd⟩ := all1 h;obtain ⟨a, rfl, _, hs⟩ := has_list ha sh9 reads_str;obtain ⟨b, rfl, _, _⟩ := has_list hb sh140 reads_node;obtain ⟨c, rfl, _, _⟩ := has_list hc sh147 reads_def;obtain ⟨d, rfl⟩ := has_int hd;exact ⟨⟨a, b, c, d⟩, rfl, hs⟩
theorem reads_sol : Reads [.lst 66, .lst 114, .lst 69, .lst 127] encSol fun _ => True := fun xs h => by
  obtain ⟨a, l, rfl, ha, h⟩ := all_cons h;obtain ⟨b, l, rfl, hb, h⟩ := all_cons h;obtain ⟨c, l, rfl, hc, h⟩ := all_cons h;obtain ⟨d, rfl, hd⟩ := all1 h;obtain ⟨a, rfl, _, _⟩ := has_list ha sh66 reads_spot;obtain ⟨b, rfl, _, _⟩ := has_list hb sh114 reads_group;obtain ⟨c, rfl, _, _⟩ := has_list hc sh69 reads_chn;obtain ⟨d, rfl, _, _⟩ := has_list hd sh127 reads_wait;exact ⟨⟨a, b, c, d⟩, rfl, trivial⟩
end Go.Proofs
end
section
namespace Go.Proofs
open Go Go.Abs
set_option maxRecDepth 100000
set_option maxHeartbeats 2000000
set_option linter.unusedSimpArgs false
set_option linter.unusedVariables false
theorem checks_law (p : Prog) (s : Sol) (hp : ∀ s ∈ p.free, s.size ≤ maxLen) : askN (KL Tryz.prog cfg) 9 [.agg [.d (.lst (p.free.map encStr)), .d (.lst (p.nodes.map encNode)), .d (.lst (p.defs.map encDef)), .d (.int .i64 (p.main))], .agg [.d (.lst (s.spots.map encSpot)), .d (.lst (s.groups.map encGroup)), .d (.lst (s.chans.map encChn)), .d (.lst (s.waits.map encWait))]] [] = .ok (.ret (.d (.bool true)), []) := by
  have h1 := CheckM_kl p s hp;have h2 := CheckR_kl p s;replace hp := Later.mk hp
  (refine KN_wp rfl Tryz.func9 rfl rfl rfl ?_; show Wp _ _ _ _ (Tryz.f9.body.get rfl) _ _; simp only [Tryz.f9, Option.get_some])
  (repeat' (first | simp only [go_sem, *] | (refine sx ?_ ?_ <;> intro hc) | (refine sy (by omega) fun x hx => ?_ <;> have hm := List.mem_of_getElem? hx) | simp (disch := first | assumption | omega) only [wrap_id, le_max, le_maxI, slice_int]))
end Go.Proofs
end
