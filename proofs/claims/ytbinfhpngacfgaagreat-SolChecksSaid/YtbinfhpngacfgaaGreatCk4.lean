/-
  Parts: EngO12 EngP EngL.
-/
import Derived.MapKept
import Derived.Test.YtbinfhpngacfgaaGreatCk3
set_option linter.all false
set_option linter.unusedSimpArgs false
set_option linter.unusedVariables false
section
namespace Go.Abs
variable {A : Nat → Prop} {P : Program} {mix : List TypeId} {β : Beta} {w : World} {M : Nat → Prop}
theorem getObj_run {r : Nat} {o : Go.Obj} (h : w.heap[r]? = some o) (hc : ∀ c e f, o ≠ .cells c e f) : (getObj r).run P w = .ok o w := by
  cases o <;> first | exact absurd rfl (hc _ _ _) | simp only [getObj, Sem.run, h]
theorem setObj_run {r : Nat} {o o' : Go.Obj} (h : w.heap[r]? = some o) (hc : ∀ c e f, o ≠ .cells c e f) : (setObj r o').run P w = .ok () (World.upd w r o') := by
  cases o <;> first | exact absurd rfl (hc _ _ _) | (simp only [setObj, Sem.run, h]; rfl)
theorem key_ok {t : TypeId} {d : TypeDesc} (h2 : P.underlying t = some d) {x : Dat} (hk : keyOk (kindOf P t d) x = true) {v : Value} (hv : DR w M x v) :
    (∀ b n, (Instr.checkKey b (n + 1) t v).run P w = .ok () w) ∧ ∀ {y : Dat} {u : Value} {r : Bool}, DR w M y u → datEq y x = some r → Instr.sameNow d v u = some r := by
  cases x <;> cases hkd : kindOf P t d <;> simp [keyOk, hkd] at hk
  · obtain ⟨k, rfl⟩ := kind_int hkd;cases hv;refine ⟨fun b n => by simp [Instr.checkKey, run_underlying h2], fun {y u r} hu he => ?_⟩;cases y <;> simp [datEq] at he;obtain ⟨rfl, rfl⟩ := he;cases hu;simp [Instr.sameNow, Bool.beq_comm]
  · have := kind_bool hkd;subst this;cases hv;refine ⟨fun b n => by simp [Instr.checkKey, run_underlying h2], fun {y u r} hu he => ?_⟩;cases y <;> simp [datEq] at he;subst he;cases hu;simp [Instr.sameNow, Bool.beq_comm]
  · have := kind_str hkd;subst this;cases hv;refine ⟨fun b n => by simp [Instr.checkKey, run_underlying h2], fun {y u r} hu he => ?_⟩;cases y <;> simp [datEq] at he;subst he;cases hu;simp only [Instr.sameNow, Option.some.injEq];rw [beq_toListBytes, beq_toListBytes, Bool.beq_comm]
theorem find_ok {t : TypeId} {d : TypeDesc} (h2 : P.underlying t = some d) {x : Dat} (hk : keyOk (kindOf P t d) x = true) {v : Value} (hv : DR w M x v) : ∀ (es : List (Dat × AV)) (en : List MapEntry) (i : Nat) (r : Option AV),
    es.length = en.length → (∀ (j : Nat) p e, es[j]? = some p → en[j]? = some e → DR w M p.1 e.key ∧ VR β w M p.2 e.val) → mapGet es x = some r →
    (r = none ∧ Instr.findNow d v en i = some none ∧ ∀ y, mapSet es x y = es ++ [(x, y)]) ∨
    (∃ av j p e, r = some av ∧ es[j]? = some p ∧ en[j]? = some e ∧ p.2 = av ∧ Instr.findNow d v en i = some (some (i + j, e.val)) ∧ datEq p.1 x = some true ∧ ∀ y, mapSet es x y = es.set j (p.1, y))
  | [], en, i, r, hl, _, hg => by
    have : en = [] := List.length_eq_zero_iff.1 hl.symm;subst this;simp only [mapGet, Option.some.injEq] at hg;exact .inl ⟨hg.symm, rfl, fun _ => rfl⟩
  | (k, u) :: es, en, i, r, hl, hr, hg => by
    cases en with
    | nil => simp at hl
    | cons e en =>
      obtain ⟨h0, h0'⟩ := hr 0 (k, u) e rfl rfl;simp only [mapGet] at hg;split at hg
      · rename_i heq;cases hg;have hs := (key_ok h2 hk hv).2 h0 heq;exact .inr ⟨u, 0, (k, u), e, rfl, rfl, rfl, rfl, by simp [Instr.findNow, hs], heq, fun y => by simp [mapSet, heq]⟩
      · rename_i heq;have hs := (key_ok h2 hk hv).2 h0 heq;rcases find_ok h2 hk hv es en (i + 1) r (by simpa using hl) (fun j p e hp he => hr (j + 1) p e (by simpa using hp) (by simpa using he)) hg with ⟨a, b, c⟩ | ⟨av, j, p, e', a, b1, b2, b3, c, dq, f⟩
        · exact .inl ⟨a, by simp [Instr.findNow, hs, b], fun y => by simp [mapSet, heq, c]⟩
        · exact .inr ⟨av, j + 1, p, e', a, by simpa using b1, by simpa using b2, b3, by simp [Instr.findNow, hs, c]; omega, dq, fun y => by simp [mapSet, heq, f]⟩
      · cases hg
theorem lookup_ok {h : Heap} (H : HR A β w h) {ρ : List Nat} {t : TypeId} {m k : AV} {vm vk : Value} {ok : Bool} (hm : VR β w (MS A β h) m vm) (hk : VR β w (MS A β h) k vk) {eff : Eff}
    (ho : opLookup (tiOf P mix) h.get m k ok (tiOf P mix t) = some eff) : OpOk A ρ β w h ((do pure (.value (← Instr.lookup t vm vk ok)) : Sem Next).run P w) eff := by
  cases ht : tiOf P mix t with
  | none => simp [opLookup, ht] at ho
  | some i =>
    obtain ⟨info, d, z, h1, h2, h3, _, rfl⟩ := tiOf_spec ht;simp only [opLookup, ht] at ho;split at ho
    · rename_i id x kt hdat hkind hkt;obtain ⟨ke, el, rfl⟩ := kind_map hkind;simp only [keyOfD] at hkt;obtain ⟨ki, kd, kz, k1, k2, k3, _, hke⟩ := tiOf_spec hkt;split at ho
      · rename_i es hkey hg;have hkk : kt.kind = kindOf P ke kd := by rw [hke]
        rw [hkk] at hkey;split at ho
        · rename_i r j hget hj;simp only [elemOfD] at hj;obtain ⟨ji, jd, jz, j1, j2, j3, ⟨_, _, jzs, jza⟩, hje⟩ := tiOf_spec hj;have hxk : DR w (MS A β h) x vk := by
            unfold datOf at hdat;split at hdat
            · cases hdat; cases hk with | d hd => exact hd
            · cases hdat
          obtain ⟨kb, hkb, en, cl, q1, q2, q3⟩ := H.obj id _ hg;cases hm with
          | mp _ k' hk' =>
            rw [hkb] at hk'; cases hk';have hgo := getObj_run (P := P) q1 (by simp);have hck := fun b => (key_ok (P := P) (w := w) (M := MS A β h) k2 hkey hxk).1 b 9999;have hmk : ∀ (ag : Bool), aggOf jd = ag → True := fun _ _ => trivial;unfold lookIn at ho;have hzero : ∀ zz, mkAgg j.agg j.zero = some zz → VR β w (MS A β h) zz jz := fun zz hz => by
              rw [hje] at hz; exact zeroV_ok jza hz
            have two : ∀ {a : AV} {u : Value} {b : Bool}, VR β w (MS A β h) a u → VR β w (MS A β h) (.tup [a, .d (.bool b)]) (.tuple #[u, .bool b]) := by
              intro a u b hu;refine .tup _ _ rfl fun i x v hx hv => ?_
              match i with
              | 0 => simp at hx hv; subst hx hv; exact hu
              | 1 => simp at hx hv; subst hx hv; exact .d (.bool _)
              | i + 2 => simp at hx
            rcases find_ok (β := β) k2 hkey hxk es en.toList 0 r (by simpa using q2) (fun a p e hp he => q3 a p e hp (by simpa using he)) hget with ⟨rfl, b, _⟩ | ⟨av, jj, p, e, rfl, b1, b2, rfl, c, _⟩
            · split at ho
              · rename_i heq; cases heq
              · rename_i zz hz;cases ho;have hr : ((do pure (.value (← Instr.lookup t (.map (some kb.b)) vk ok)) : Sem Next).run P w) = .ok (.value (if ok then .tuple #[jz, .bool false] else jz)) w := by
                  simp [Instr.lookup, run_underlying h2, hgo, hck, Instr.findKey, run_underlying k2, b, zeroValue_run j1 j3]
                cases ok
                · exact .plain H (v := jz) (by rw [hr]; rfl) rfl (hzero _ hz)
                · exact .plain H (v := .tuple #[jz, .bool false]) (by rw [hr]; rfl) rfl (two (hzero _ hz))
              · cases ho
            · have hval : VR β w (MS A β h) p.2 e.val := (q3 jj p e b1 (by simpa using b2)).2;split at ho
              · rename_i heq;cases heq;cases ho;have hr : ((do pure (.value (← Instr.lookup t (.map (some kb.b)) vk ok)) : Sem Next).run P w) = .ok (.value (if ok then .tuple #[e.val, .bool true] else e.val)) w := by
                  simp [Instr.lookup, run_underlying h2, hgo, hck, Instr.findKey, run_underlying k2, c]
                cases ok
                · exact .plain H (v := e.val) (by rw [hr]; rfl) rfl hval
                · exact .plain H (v := .tuple #[e.val, .bool true]) (by rw [hr]; rfl) rfl (two hval)
              all_goals first
                | (rename_i hh _; exact (hh _ rfl).elim)
                | (rename_i heq _; cases heq)
                | cases ho
        · cases ho
      · cases ho
    · cases ho
theorem bytes_eq {a b : ByteArray} (h : (a == b) = true) : a = b := by
  rw [beq_toListBytes, ByteArray.toList_eq, ByteArray.toList_eq, beq_iff_eq] at h;obtain ⟨⟨x⟩⟩ := a;obtain ⟨⟨y⟩⟩ := b;simp at h;rw [h]
theorem datEq_eq {x y : Dat} (h : datEq y x = some true) : y = x := by
  cases y <;> cases x <;> simp [datEq] at h
  · obtain ⟨rfl, rfl⟩ := h; rfl
  · rw [h]
  · exact congrArg Dat.str (bytes_eq h)
theorem sameBits_ok {x y : Dat} {v u : Value} (hv : DR w M x v) (hu : DR w M y u) (h : datEq y x = some true) : ∀ n, Instr.sameBits n u v = true := by
  intro n;cases y <;> cases x <;> simp [datEq] at h
  · obtain ⟨rfl, rfl⟩ := h;cases hv; cases hu;simp [Instr.sameBits]
  · subst h;cases hv; cases hu;simp [Instr.sameBits]
  · cases hv; cases hu;simpa [Instr.sameBits] using h
theorem mapPut_ok {h : Heap} (H : HR A β w h) {ρ : List Nat} {t : TypeId} {m k v : AV} {vm vk vv : Value} (hm : VR β w (MS A β h) m vm) (hk : VR β w (MS A β h) k vk) (hv : VR β w (MS A β h) v vv) {eff : Eff}
    (ho : mapPut (tiOf P mix) h.get (tiOf P mix t) m k v = some eff) : OpOk A ρ β w h ((do Instr.mapUpdate t vm vk vv; pure .skip : Sem Next).run P w) eff := by
  unfold mapPut at ho;split at ho
  · cases ho
  · rename_i hcond;split at ho
    · rename_i id x hdat;rw [hdat] at hcond;cases ht : tiOf P mix t with
      | none => simp [ht] at hcond
      | some i =>
        obtain ⟨info, d, z, h1, h2, h3, _, rfl⟩ := tiOf_spec ht;simp only [ht] at hcond;split at hcond
        · rename_i kt hkind hkt;obtain ⟨ke, el, rfl⟩ := kind_map hkind;simp only [keyOfD] at hkt;obtain ⟨ki, kd, kz, k1, k2, k3, _, hke⟩ := tiOf_spec hkt;have hkk : kt.kind = kindOf P ke kd := by rw [hke]
          rw [hkk, Bool.and_eq_true] at hcond;obtain ⟨hkey, _⟩ := hcond;split at ho
          · rename_i es hg;split at ho
            · rename_i r hget;cases ho;have hxk : DR w (MS A β h) x vk := by
                unfold datOf at hdat;split at hdat
                · cases hdat; cases hk with | d hd => exact hd
                · cases hdat
              obtain ⟨kb, hkb, en, cl, q1, q2, q3⟩ := H.obj id _ hg;cases hm with
              | mp _ k' hk' =>
                rw [hkb] at hk'; cases hk';have hgo := getObj_run (P := P) q1 (by simp);have hck := fun b => (key_ok (P := P) (w := w) (M := MS A β h) k2 hkey hxk).1 b 9999;have done : ∀ (es' : List (Dat × AV)) (en' : Array MapEntry) (cl' : Nat), mapSet es x v = es' → es'.length = en'.size →
                    (∀ (M' : Nat → Prop) (w' : World), Pres A (MS A β h) w M' w' → ∀ (i : Nat) p e, es'[i]? = some p → en'[i]? = some e → DR w' M' p.1 e.key ∧ VR β w' M' p.2 e.val) →
                    (Instr.mapUpdate t (.map (some kb.b)) vk vv).run P w = .ok () (World.upd w kb.b (.map en' cl')) →
                    OpOk A ρ β w h ((do Instr.mapUpdate t (.map (some kb.b)) vk vv; pure .skip : Sem Next).run P w) ⟨.undef, [(id, .map (mapSet es x v))]⟩ := by
                  intro es' en' cl' e1 e2 e3 e4;rw [e1];have hpr := pres_upd H (o' := .map es') hg rfl hkb (.map en' cl');refine .skip (w' := World.upd w kb.b (.map en' cl')) (by simp [e4]) rfl ?_ hpr (chg_upd _ (List.mem_singleton.2 rfl) hkb);exact H.upd' hg rfl hkb ⟨en', cl', upd_get _ (lt_of_get q1), e2, e3 _ _ hpr⟩
                rcases find_ok (β := β) k2 hkey hxk es en.toList 0 r (by simpa using q2) (fun a p e hp he => q3 a p e hp (by simpa using he)) hget with ⟨rfl, b, f⟩ | ⟨av, jj, p, e, rfl, b1, b2, rfl, c, dq, f⟩
                · refine done (es ++ [(x, v)]) (en.push { key := vk, val := vv, born := cl }) (cl + 1) (f v) (by simp [q2]) ?_ ?_
                  · intro M' w' hp i p e hp' he;rw [Array.getElem?_push] at he;by_cases hi : i = en.size
                    · subst hi;rw [List.getElem?_append_right (by omega)] at hp';simp [q2] at hp' he;subst hp' he;exact ⟨hxk.mono hp, hv.mono (.refl β) hp⟩
                    · rw [if_neg hi] at he;have hlt : i < es.length := by rw [q2]; exact (Array.getElem?_eq_some_iff.1 he).1
                      rw [List.getElem?_append_left hlt] at hp';exact ⟨(q3 i p e hp' he).1.mono hp, (q3 i p e hp' he).2.mono (.refl β) hp⟩
                  · simp [Instr.mapUpdate, run_underlying h2, hgo, hck, Instr.findKey, run_underlying k2, b, setObj_run (P := P) q1 (by simp)]
                · have hrel := q3 jj p e b1 (by simpa using b2);have hje : en[jj]? = some e := by simpa using b2
                  have hsb := sameBits_ok hxk hrel.1 dq 10000;refine done (es.set jj (p.1, v)) (en.modify jj fun e => { e with key := vk, val := vv }) cl (f v) (by simp [q2]) ?_ ?_
                  · intro M' w' hp i p' e' hp' he;rw [Array.getElem?_modify] at he;rw [List.getElem?_set] at hp';by_cases hi : jj = i
                    · subst hi;rw [if_pos rfl, hje] at he;have hlt : jj < es.length := (List.getElem?_eq_some_iff.1 b1).1;simp [hlt] at hp' he;subst hp' he;refine ⟨?_, hv.mono (.refl β) hp⟩;have := datEq_eq dq;rw [show p = (x, p.2) from Prod.ext this rfl];exact hxk.mono hp
                    · rw [if_neg hi] at he hp';exact ⟨(q3 i p' e' hp' he).1.mono hp, (q3 i p' e' hp' he).2.mono (.refl β) hp⟩
                  · have hst : (Instr.keyThatStays (((en[0 + jj]?).map (·.key)).getD vk) vk).run P w = .ok vk w := by
                      rw [Nat.zero_add, hje];simp [Instr.keyThatStays, hsb]
                    simp only [Instr.mapUpdate, Sem.run_bind, run_underlying h2, Result.andThen_ok, hgo, hck, Instr.findKey, run_underlying k2, c, Sem.run_pure, hst, setObj_run (P := P) q1 (by simp)];simp
            · cases ho
          · cases ho
        · cases hcond
    · cases ho
end Go.Abs
end
section
namespace Go.Abs
variable {A : Nat → Prop} {P : Program} {mix : List TypeId} {β : Beta} {w : World} {M : Nat → Prop}
theorem call_ok {h : Heap} (H : HR A β w h) {ρ : List Nat} (hf : ∀ id, ρ <:+ id → β id = none) {e : Nat → AV} {a : Act} (he : EnvR β w (MS A β h) e fun t => a.tmps.getD t Go.undef) {c : Call} {ty : TypeId} {eff : Eff}
    (ho : opCall (tiOf P mix) e h.get ρ c = some eff) : OpOk A ρ β w h ((do let d ← resolve a.eval c ty; invoke d.target d.args : Sem Next).run P w) eff := by
  have E := fun x => ev_ok he x;obtain ⟨callee, args, ats⟩ := c;obtain ⟨args⟩ := args;obtain ⟨ats⟩ := ats;unfold opCall at ho;split at ho
  · rename_i b hb;simp only at hb;subst hb;simp only at ho;have hrun : ((do let d ← resolve a.eval ⟨.builtin b, ⟨args⟩, ⟨ats⟩⟩ ty; invoke d.target d.args : Sem Next).run P w) =
        (builtin b ⟨ats⟩ ty ((⟨args⟩ : Array Operand).map fun | .const _ => true | _ => false) (⟨args.map a.eval⟩ : Array Value)).run P w := by
      simp [resolve, invoke];rfl
    rw [hrun];unfold opBuiltin at ho;split at ho
    · split at ho
      · rename_i x hx;split at ho
        · rename_i t;split at ho
          · rename_i i hi;simp only [Option.map_eq_some_iff] at ho;obtain ⟨n, hn, rfl⟩ := ho
            match args, hx with
            | [ox], hx =>
              simp at hx;subst hx;have := len_ok (ρ := ρ) (ty := ty) H (E ox) hi hn;simpa [builtin] using this
          · cases ho
        · cases ho
      · cases ho
    · split at ho
      · rename_i s x t u hx
        match args, hx with
        | [os, ox], hx =>
          simp at hx;obtain ⟨rfl, rfl⟩ := hx;have := append_op_ok (ty := ty) H hf (E os) (E ox) ho;simpa [builtin] using this
      · cases ho
    · split at ho
      · rename_i x t hx
        match args, hx with
        | [ox], hx =>
          simp at hx;subst hx;have := clear_ok (ρ := ρ) (ty := ty) H (E ox) ho;simpa [builtin] using this
      · cases ho
    · split at ho
      · rename_i x y hx
        match args, hx with
        | [ox, oy], hx =>
          simp at hx;obtain ⟨rfl, rfl⟩ := hx;have := max_ok (ρ := ρ) (P := P) (ts := ⟨ats⟩) (ty := ty) H (E ox) (E oy) ho;simpa [builtin] using this
      · cases ho
    · split at ho
      · rename_i x y hx
        match args, hx with
        | [ox, oy], hx =>
          simp at hx;obtain ⟨rfl, rfl⟩ := hx;have := min_ok (ρ := ρ) (P := P) (ts := ⟨ats⟩) (ty := ty) H (E ox) (E oy) ho;simpa [builtin] using this
      · cases ho
    · cases ho
  · cases ho
theorem evalOp_ok {h : Heap} (H : HR A β w h) {ρ : List Nat} (hf : ∀ id, ρ <:+ id → β id = none) {e : Nat → AV} {a : Act} (he : EnvR β w (MS A β h) e fun t => a.tmps.getD t Go.undef) {o : Oper} {op : Op} (hop : o.op = op) {eff : Eff}
    (ho : evalOp (tiOf P mix) e h.get ρ op = some eff) : OpOk A ρ β w h ((execOp a.eval o).run P w) eff := by
  have E := fun x => ev_ok he x;cases op <;> simp only [evalOp, reduceCtorEq, Option.some.injEq] at ho <;> simp only [execOp, hop]
  case move x => subst ho; exact .plain H (v := a.eval x) rfl rfl (E x)
  case assign x => subst ho; exact .plain H (v := a.eval x) rfl rfl (E x)
  case pick c x y => exact pick_ok H (E c) (E x) (E y) ho
  case alloc t => exact alloc_ok H hf ho
  case box t x => exact box_op_ok H hf (E x) ho
  case build t ps => exact build_ok H he ho
  case buildSlice t n ps => exact buildSlice_ok H hf he ho
  case insert t m k v => exact mapPut_ok H (E m) (E k) (E v) ho
  case load t x => exact load_ok H (E x) ho
  case store t x v => exact store_ok H (E x) (E v) ho
  case nilCheck x =>
    obtain ⟨⟨ad, had⟩, hok⟩ := nilCheck_ok (ρ := ρ) H (E x) ho;rw [had] at hok ⊢;exact hok
  case binOp op t x y yt =>
    simp only [Option.map_eq_some_iff] at ho;obtain ⟨r, hr, rfl⟩ := ho;exact binW_ok H (E x) (E y) x y hr
  case unOp op t x => exact not_ok H (E x) ho
  case makeInterface t x => exact iface_ok H (E x) ho
  case makeFunc f x y => exact makeFunc_ok H he ho
  case makeMap t r => exact makeMap_ok H hf ho
  case makeSlice t l c => exact makeSlice_ok H hf (E l) (E c) ho
  case slice t x lo hi mx => exact slice_op_ok H (E x) (VRo.map he lo) (VRo.map he hi) (VRo.map he mx) ho
  case fieldAddr t x k => exact fieldAddr_ok H (E x) ho
  case field t x k => exact field_ok H (E x) ho
  case indexAddr t x i => exact indexAddr_ok H (E x) (E i) ho
  case index t x i => exact index_ok H (E x) (E i) ho
  case lookup t m k ok => exact lookup_ok H (E m) (E k) ho
  case mapUpdate t m k v => exact mapPut_ok H (E m) (E k) (E v) ho
  case typeAssert x xt t ok =>
    cases ok with
    | true => exact assert_ok H (E x) ho
    | false => cases ho
  case extract x k => exact extract_ok H (E x) ho
  case call c => exact call_ok H hf he ho
end Go.Abs
end
section
namespace Go.Abs
variable {P : Program} {mix : List TypeId} {g g' : G}
theorem mem_idsL {vs : List AV} {x : AV} {id : Id} (hx : x ∈ vs) (hi : id ∈ idsOf x) : id ∈ idsL vs := by
  induction vs with
  | nil => cases hx
  | cons v vs ih =>
    simp only [idsL, List.mem_append];rcases List.mem_cons.1 hx with rfl | hx
    · exact .inl hi
    · exact .inr (ih hx)
theorem of_mem_idsL {vs : List AV} {id : Id} (h : id ∈ idsL vs) : ∃ x ∈ vs, id ∈ idsOf x := by
  induction vs with
  | nil => simp [idsL] at h
  | cons v vs ih =>
    simp only [idsL, List.mem_append] at h;rcases h with h | h
    · exact ⟨v, by simp, h⟩
    · obtain ⟨x, hx, h⟩ := ih h;exact ⟨x, by simp [hx], h⟩
theorem ids_cells (v : AV) (id : Id) : id ∈ idsL v.cells ↔ id ∈ idsOf v := by
  cases v <;> simp [AV.cells, idsL, idsOf]
def At (g g' : G) (l : List Id) : Prop := ∀ id ∈ l, g id = g' id
theorem At.mono {l m : List Id} (h : At g g' l) (hs : ∀ id ∈ m, id ∈ l) : At g g' m := fun id hi => h id (hs id hi)
theorem frzC_local {v : AV} (h : At g g' (idsOf v)) : frzC g v = frzC g' v := by
  cases v <;> try rfl
  rename_i id off n;simp only [frzC, h id (by simp [idsOf])]
theorem markC_local {v : AV} (h : At g g' (idsOf v)) : markC g v = markC g' v := by
  cases v <;> try rfl
  rename_i id off n;simp only [markC, h id (by simp [idsOf])]
theorem frzCs_local {vs : List AV} (h : At g g' (idsL vs)) : frzCs g vs = frzCs g' vs := by
  induction vs with
  | nil => rfl
  | cons v vs ih =>
    simp only [frzCs, frzC_local (v := v) (h.mono fun id hi => mem_idsL (by simp) hi), ih (h.mono fun id hi => by simp [idsL, hi])]
theorem markCs_local {vs : List AV} (h : At g g' (idsL vs)) : markCs g vs = markCs g' vs := by
  induction vs with
  | nil => rfl
  | cons v vs ih =>
    simp only [markCs, List.flatMap_cons] at ih ⊢;rw [markC_local (v := v) (h.mono fun id hi => mem_idsL (by simp) hi), ih (h.mono fun id hi => by simp [idsL, hi])]
theorem frzEs_local {es : List (List AV)} (h : At g g' (es.flatMap idsL)) : frzEs g es = frzEs g' es := by
  induction es with
  | nil => rfl
  | cons v vs ih =>
    simp only [frzEs, frzCs_local (vs := v) (h.mono fun id hi => by simp [hi]), ih (h.mono fun id hi => by simp only [List.flatMap_cons, List.mem_append]; exact .inr hi)]
theorem markEs_local {es : List (List AV)} (h : At g g' (es.flatMap idsL)) : es.flatMap (markCs g) = es.flatMap (markCs g') := by
  induction es with
  | nil => rfl
  | cons v vs ih =>
    simp only [List.flatMap_cons, markCs_local (vs := v) (h.mono fun id hi => by simp [hi]), ih (h.mono fun id hi => by simp only [List.flatMap_cons, List.mem_append]; exact .inr hi)]
theorem loadV_local {i : TI} {a : AV} (h : At g g' (idsOf a)) : loadV g i a = loadV g' i a := by
  cases a <;> try rfl
  · rename_i id off; simp only [loadV, h id (by simp [idsOf])]
  · rename_i id k off; simp only [loadV, h id (by simp [idsOf])]
theorem storeV_local {i : TI} {a v : AV} (h : At g g' (idsOf a)) (hv : At g g' (idsOf v)) : storeV g i a v = storeV g' i a v := by
  have hc : At g g' (idsL v.cells) := hv.mono fun id hi => (ids_cells v id).1 hi;unfold storeV;cases a <;> try rfl
  · rename_i id off; simp only [h id (by simp [idsOf])]
  · rename_i id k off; simp only [h id (by simp [idsOf]), frzCs_local hc, markCs_local hc]
theorem newArr_local {n : Id} {j : TI} {es : List (List AV)} (h : At g g' (es.flatMap idsL)) : newArr g n j es = newArr g' n j es := by
  simp only [newArr, frzEs_local h, markEs_local h]
theorem elemsV_local {x : AV} (h : At g g' (idsOf x)) : elemsV g x = elemsV g' x := by
  cases x
  case osl id off n => simp only [elemsV, h id (by simp [idsOf])]
  case d y => cases y <;> rfl
  all_goals rfl
theorem appIn_local {n id : Id} {off k sz : Nat} {es : List (List Dat)} {src : List (List AV)} (h : At g g' (src.flatMap idsL)) : appIn g n id off k sz es src = appIn g' n id off k sz es src := by
  simp only [appIn, frzEs_local h, markEs_local h]
theorem appTo_local {n : Id} {j : TI} {s : AV} {src : List (List AV)} (hs : At g g' (idsOf s)) (h : At g g' (src.flatMap idsL)) : appTo g n j s src = appTo g' n j s src := by
  cases s
  case nils => exact newArr_local h
  case emp => exact newArr_local h
  case osl id off k => simp only [appTo, hs id (by simp [idsOf]), appIn_local h]
  all_goals rfl
theorem idsL_map_d (l : List Dat) : idsL (l.map .d) = [] := by
  induction l with
  | nil => rfl
  | cons x l ih => simp [idsL, idsOf, ih]
theorem flat_map_d (es : List (List Dat)) : (es.map (·.map AV.d)).flatMap idsL = [] := by
  induction es with
  | nil => rfl
  | cons x l ih => simp [idsL_map_d]
theorem mem_seg {α : Type} {l r : List α} {off n : Nat} (h : seg l off n = some r) {x : α} (hx : x ∈ r) : x ∈ l := by
  unfold seg at h;split at h
  · cases h; exact List.mem_of_mem_drop (List.mem_of_mem_take hx)
  · cases h
theorem elems_ids {x : AV} {src : List (List AV)} (h : elemsV g x = some src) : ∀ id ∈ src.flatMap idsL, id ∈ deepIds g (idsOf x) := by
  intro id hid;unfold elemsV at h;split at h
  · cases h; rw [flat_map_d] at hid; cases hid
  · cases h; cases hid
  · cases h; cases hid
  · rename_i i off n;obtain ⟨e, he, hie⟩ := List.mem_flatMap.1 hid;cases hg : arrOf (g i) with
    | none => rw [hg] at h; cases h
    | some es =>
      rw [hg] at h;have he' := mem_seg h he;unfold arrOf at hg;split at hg
      · cases hg;obtain ⟨y, _, rfl⟩ := List.mem_map.1 he';rw [idsL_map_d] at hie; cases hie
      · cases hg;obtain ⟨y, _, rfl⟩ := List.mem_map.1 he';rw [idsL_map_d] at hie; cases hie
      · rename_i sz es' hgi;cases hg;refine List.mem_append_right _ (List.mem_flatMap.2 ⟨i, by simp [idsOf], ?_⟩);simp only [hgi];exact List.mem_flatMap.2 ⟨e, he', hie⟩
      · cases hg
  · cases h
theorem appendV_local {n : Id} {j : TI} {s x : AV} (hs : At g g' (idsOf s)) (hx : At g g' (deepIds g (idsOf x))) : appendV g n j s x = appendV g' n j s x := by
  have he := elemsV_local (hx.mono fun id hi => List.mem_append_left _ hi);unfold appendV;rw [← he];cases h : elemsV g x with
  | none => rfl
  | some src =>
    have h2 : appTo g n j s src = appTo g' n j s src := appTo_local hs (hx.mono fun id hi => elems_ids h id hi);cases src with
    | nil => rfl
    | cons a l => simp only [h2]
theorem lenV_local {k : TK} {x : AV} (h : At g g' (idsOf x)) : lenV g k x = lenV g' k x := by
  cases x
  case mp id => cases k <;> simp only [lenV, h id (by simp [idsOf])]
  case d y => cases y <;> cases k <;> rfl
  all_goals (cases k <;> rfl)
theorem mapPut_local {T : TypeId → Option TI} {t : Option TI} {m k v : AV} (h : At g g' (idsOf m)) : mapPut T g t m k v = mapPut T g' t m k v := by
  unfold mapPut;cases m
  case mp id =>
    have e := h id (by simp [idsOf]);cases datOf k <;> simp only [e]
  all_goals rfl
theorem opLookup_local {T : TypeId → Option TI} {m k : AV} {ok : Bool} {t : Option TI} (h : At g g' (idsOf m)) : opLookup T g m k ok t = opLookup T g' m k ok t := by
  unfold opLookup;cases t with
  | none => rfl
  | some i =>
    cases m
    case mp id =>
      have e := h id (by simp [idsOf]);obtain ⟨kind, size, agg, str, zero, flds, elem, key, mx⟩ := i;simp only;generalize datOf k = d;generalize T key = tk;cases d <;> cases kind <;> cases tk <;> first | rfl | simp only [e]
    all_goals rfl
theorem idxAt_local {n : Int} {x : AV} {j : TI} (h : At g g' (idsOf x)) : idxAt g n x j = idxAt g' n x j := by
  unfold idxAt;cases x
  case osl id off n => simp only [h id (by simp [idsOf])]
  case d y => cases y <;> rfl
  all_goals rfl
theorem opIndexAddr_local {T : TypeId → Option TI} {x i : AV} {t : Option TI} (h : At g g' (idsOf x)) : opIndexAddr T g x i t = opIndexAddr T g' x i t := by
  unfold opIndexAddr;simp only [idxAt_local h]
theorem sliceO_local {sz : Nat} {id : Id} {off : Nat} {b : Option (Nat × Nat × Option Nat)} (h : g id = g' id) : sliceO g sz id off b = sliceO g' sz id off b := by
  unfold sliceO;simp only [h]
theorem sliceV_local {k : TK} {sz : Nat} {x : AV} {lo hi mx : Option AV} (h : At g g' (idsOf x)) : sliceV g k sz x lo hi mx = sliceV g' k sz x lo hi mx := by
  cases x
  case osl id off n => cases k <;> simp only [sliceV, sliceO_local (h id (by simp [idsOf]))]
  case d y => cases y <;> cases k <;> rfl
  all_goals (cases k <;> rfl)
theorem opSlice_local {T : TypeId → Option TI} {x : AV} {lo hi mx : Option AV} {t : Option TI} (h : At g g' (idsOf x)) : opSlice T g x lo hi mx t = opSlice T g' x lo hi mx t := by
  unfold opSlice;simp only [sliceV_local h]
theorem opClear_local {T : TypeId → Option TI} {x : AV} {t : Option TI} (h : At g g' (idsOf x)) : opClear T g t x = opClear T g' t x := by
  unfold opClear;cases t with
  | none => rfl
  | some i =>
    obtain ⟨kind, size, agg, str, zero, flds, elem, key, mx⟩ := i;simp only;cases x
    case osl id off n =>
      have e := h id (by simp [idsOf]);cases kind
      case slice => simp only [clearIn, e]
      all_goals rfl
    all_goals (cases kind <;> rfl)
theorem zero_ids (z : Value) : idsL (z.cells.toList.map avConst) = [] := by
  generalize z.cells.toList = l;induction l with
  | nil => rfl
  | cons v l ih =>
    simp only [List.map_cons, idsL, ih, List.append_nil];unfold avConst;split <;> rfl
theorem ti_zero {t : TypeId} {i : TI} (h : tiOf P mix t = some i) : idsL i.zero = [] := by
  obtain ⟨info, d, z, h1, h2, h3, h4, rfl⟩ := tiOf_spec h;exact zero_ids z
theorem rep_ids {n : Nat} {l : List AV} (h : idsL l = []) : (List.replicate n l).flatMap idsL = [] := by
  induction n with
  | zero => rfl
  | succ n ih => simp [List.replicate_succ, h]
theorem makeArr_local {n : Id} {k : Nat} {t : TypeId} {j : TI} (h : tiOf P mix t = some j) : makeArr g n k j = makeArr g' n k j := by
  unfold makeArr;cases k with
  | zero => rfl
  | succ k => exact newArr_local (by rw [rep_ids (ti_zero h)]; intro id hi; cases hi)
theorem splice_mem {α : Type} {l r new : List α} {off : Nat} (h : splice l off new = some r) {x : α} (hx : x ∈ r) : x ∈ l ∨ x ∈ new := by
  unfold splice at h;split at h
  · cases h;simp only [List.mem_append] at hx;rcases hx with (hx | hx) | hx
    · exact .inl (List.mem_of_mem_take hx)
    · exact .inr hx
    · exact .inl (List.mem_of_mem_drop hx)
  · cases h
theorem fillParts_mem {pl : Nat → Option (Nat × Nat)} : ∀ {ps : List (Nat × AV)} {cs r : List AV}, fillParts pl cs ps = some r → ∀ x ∈ r, x ∈ cs ∨ ∃ p ∈ ps, x ∈ p.2.cells
  | [], cs, r, h, x, hx => by simp only [fillParts, Option.some.injEq] at h; subst h; exact .inl hx
  | (i, v) :: ps, cs, r, h, x, hx => by
    simp only [fillParts] at h;split at h
    · split at h
      · cases hs : splice cs _ v.cells with
        | none => rw [hs] at h; cases h
        | some cs' =>
          rw [hs] at h;rcases fillParts_mem h x hx with h1 | ⟨p, hp, h1⟩
          · rcases splice_mem hs h1 with h2 | h2
            · exact .inl h2
            · exact .inr ⟨(i, v), by simp, h2⟩
          · exact .inr ⟨p, by simp [hp], h1⟩
      · cases h
    · cases h
theorem chunks_mem {α : Type} {sz : Nat} : ∀ {n : Nat} {l : List α} {c : List α}, c ∈ chunks sz n l → ∀ x ∈ c, x ∈ l
  | 0, _, _, h, _, _ => by cases h
  | n + 1, l, c, h, x, hx => by
    simp only [chunks, List.mem_cons] at h;rcases h with rfl | h
    · exact List.mem_of_mem_take hx
    · exact List.mem_of_mem_drop (chunks_mem h x hx)
theorem buildArr_local {nw : Id} {n : Nat} {ps : List (Nat × AV)} {t : TypeId} {j : TI} (ht : tiOf P mix t = some j) (h : At g g' (ps.flatMap fun p => idsOf p.2)) : buildArr g nw n ps j = buildArr g' nw n ps j := by
  unfold buildArr;cases hf : fillParts (fun k => some (k * j.size, j.size)) ((List.replicate n j.zero).flatten) ps with
  | none => rfl
  | some cs =>
    have : newArr g nw j (chunks j.size n cs) = newArr g' nw j (chunks j.size n cs) := by
      refine newArr_local fun id hi => ?_;obtain ⟨c, hc, hi⟩ := List.mem_flatMap.1 hi;obtain ⟨x, hx, hi⟩ := of_mem_idsL hi;rcases fillParts_mem hf x (chunks_mem hc x hx) with h1 | ⟨p, hp, h1⟩
      · obtain ⟨l, hl, hx⟩ := List.mem_flatten.1 h1;rw [List.eq_of_mem_replicate hl] at hx;have := mem_idsL hx hi;rw [ti_zero ht] at this; cases this
      · exact h id (List.mem_flatMap.2 ⟨p, hp, (ids_cells _ _).1 (mem_idsL h1 hi)⟩)
    cases n with
    | zero => rfl
    | succ n => simp only [this]
theorem opBuildSlice_local {nw : Id} {n : Nat} {ps : List (Nat × AV)} {t : Option TI} (h : At g g' (ps.flatMap fun p => idsOf p.2)) : opBuildSlice (tiOf P mix) g nw n ps t = opBuildSlice (tiOf P mix) g' nw n ps t := by
  unfold opBuildSlice;cases t with
  | none => rfl
  | some i =>
    obtain ⟨kind, size, agg, str, zero, flds, elem, key, mx⟩ := i;simp only;cases hj : tiOf P mix elem with
    | none => cases kind <;> rfl
    | some j => cases kind <;> first | rfl | simp only [buildArr_local hj h]
theorem opMakeSlice_local {nw : Id} {l c : AV} {t : Option TI} : opMakeSlice (tiOf P mix) g nw l c t = opMakeSlice (tiOf P mix) g' nw l c t := by
  unfold opMakeSlice;cases t with
  | none => rfl
  | some i =>
    obtain ⟨kind, size, agg, str, zero, flds, elem, key, mx⟩ := i;simp only;cases hj : tiOf P mix elem with
    | none => cases kind <;> rfl
    | some j =>
      cases kind
      case slice =>
        cases l <;> try rfl
        rename_i x; cases x <;> try rfl
        cases c <;> try rfl
        rename_i y; cases y <;> try rfl
        simp only [makeArr_local hj (g := g) (g' := g')]
      all_goals rfl
theorem opAppend_local {nw : Id} {T : TypeId → Option TI} {t u : Option TI} {s x : AV} (hs : At g g' (idsOf s)) (hx : At g g' (deepIds g (idsOf x))) : opAppend T g nw t u s x = opAppend T g' nw t u s x := by
  unfold opAppend;simp only [appendV_local hs hx]
def OpsAt (e e' : Nat → AV) (op : Op) : Prop := ∀ x ∈ op.operands, ev e x = ev e' x
theorem at_op {e : Nat → AV} {op : Op} (h : At g g' (opIds e op)) {x : Operand} (hx : x ∈ op.operands) : At g g' (idsOf (ev e x)) :=
  h.mono fun _ hi => List.mem_flatMap.2 ⟨x, by simpa using hx, hi⟩
theorem evParts_congr {e e' : Nat → AV} {ps : Array (Nat × Operand)} (h : ∀ p ∈ ps, ev e p.2 = ev e' p.2) : evParts e ps = evParts e' ps := by
  unfold evParts;exact List.map_congr_left fun p hp => by rw [h p (by simpa using hp)]
theorem mapO_congr {e e' : Nat → AV} {x : Option Operand} (h : ∀ y ∈ x, ev e y = ev e' y) : x.map (ev e) = x.map (ev e') := by
  cases x with
  | none => rfl
  | some y => simp [h y rfl]
theorem mapA_congr {e e' : Nat → AV} {x : Array Operand} (h : ∀ y ∈ x, ev e y = ev e' y) : x.toList.map (ev e) = x.toList.map (ev e') :=
  List.map_congr_left fun y hy => h y (by simpa using hy)
theorem evalOp_local {e e' : Nat → AV} {n : Id} {op : Op} (he : OpsAt e e' op) (h : At g g' (rdOf e g op)) : evalOp (tiOf P mix) e g n op = evalOp (tiOf P mix) e' g' n op := by
  cases op <;> try rfl
  case move x => simp only [evalOp, he x (by simp [Op.operands])]
  case assign x => simp only [evalOp, he x (by simp [Op.operands])]
  case pick c a b => simp only [evalOp, he c (by simp [Op.operands]), he a (by simp [Op.operands]), he b (by simp [Op.operands])]
  case box t x => simp only [evalOp, he x (by simp [Op.operands])]
  case build t ps =>
    simp only [evalOp];rw [evParts_congr fun p hp => he p.2 (by simp [Op.operands]; exact ⟨p.1, hp⟩)]
  case buildSlice t k ps =>
    have hp : ∀ p ∈ ps, p.2 ∈ (Op.buildSlice t k ps).operands := fun p hp => by simp [Op.operands]; exact ⟨p.1, hp⟩
    simp only [evalOp];rw [evParts_congr fun p hp' => he p.2 (hp p hp')];refine opBuildSlice_local fun id hi => ?_;obtain ⟨q, hq, hi⟩ := List.mem_flatMap.1 hi;obtain ⟨p, hp', rfl⟩ := List.mem_map.1 hq;rw [← he p.2 (hp p (by simpa using hp'))] at hi;exact at_op h (hp p (by simpa using hp')) id hi
  case insert t m k v =>
    simp only [evalOp];rw [← he m (by simp [Op.operands]), ← he k (by simp [Op.operands]), ← he v (by simp [Op.operands])];exact mapPut_local (at_op h (by simp [Op.operands]))
  case load t x =>
    simp only [evalOp];rw [← he x (by simp [Op.operands])];cases ht : tiOf P mix t with
    | none => rfl
    | some i => simp only [opLoad, loadV_local (at_op h (x := x) (by simp [Op.operands]))]
  case store t a x =>
    simp only [evalOp];rw [← he a (by simp [Op.operands]), ← he x (by simp [Op.operands])];cases ht : tiOf P mix t with
    | none => rfl
    | some i => simp only [opStore, storeV_local (at_op h (x := a) (by simp [Op.operands])) (at_op h (x := x) (by simp [Op.operands]))]
  case nilCheck x => simp only [evalOp, he x (by simp [Op.operands])]
  case binOp op t x y yt => simp only [evalOp, he x (by simp [Op.operands]), he y (by simp [Op.operands])]
  case unOp op t x => simp only [evalOp, he x (by simp [Op.operands])]
  case makeInterface t x => simp only [evalOp, he x (by simp [Op.operands])]
  case makeFunc f x y =>
    simp only [evalOp];rw [mapA_congr (e := e) (e' := e') (x := x) fun z hz => he z (by simp [Op.operands, hz]), mapA_congr (e := e) (e' := e') (x := y) fun z hz => he z (by simp [Op.operands, hz])]
  case makeSlice t l c =>
    simp only [evalOp];rw [he l (by simp [Op.operands]), he c (by simp [Op.operands])];exact opMakeSlice_local
  case slice t x lo hi mx =>
    simp only [evalOp];rw [← he x (by simp [Op.operands]), mapO_congr (e := e) (e' := e') (x := lo) fun z hz => he z (by simp [Op.operands] at hz ⊢; simp [hz]),
      mapO_congr (e := e) (e' := e') (x := hi) fun z hz => he z (by simp [Op.operands] at hz ⊢; simp [hz]), mapO_congr (e := e) (e' := e') (x := mx) fun z hz => he z (by simp [Op.operands] at hz ⊢; simp [hz])]
    exact opSlice_local (at_op h (by simp [Op.operands]))
  case fieldAddr t x k => simp only [evalOp, he x (by simp [Op.operands])]
  case field t x k => simp only [evalOp, he x (by simp [Op.operands])]
  case indexAddr t x i =>
    simp only [evalOp];rw [← he x (by simp [Op.operands]), ← he i (by simp [Op.operands])];exact opIndexAddr_local (at_op h (by simp [Op.operands]))
  case index t x i => simp only [evalOp, he x (by simp [Op.operands]), he i (by simp [Op.operands])]
  case lookup t m k ok =>
    simp only [evalOp];rw [← he m (by simp [Op.operands]), ← he k (by simp [Op.operands])];exact opLookup_local (at_op h (by simp [Op.operands]))
  case mapUpdate t m k v =>
    simp only [evalOp];rw [← he m (by simp [Op.operands]), ← he k (by simp [Op.operands]), ← he v (by simp [Op.operands])];exact mapPut_local (at_op h (by simp [Op.operands]))
  case typeAssert x xt t ok =>
    simp only [evalOp, he x (by simp [Op.operands])]
  case extract x k => simp only [evalOp, he x (by simp [Op.operands])]
  case call c =>
    obtain ⟨callee, args, ats⟩ := c;simp only [evalOp, opCall];cases callee with
    | value f => rfl
    | invoke r m => rfl
    | builtin b =>
      simp only;have ha : ∀ x ∈ args, x ∈ (Op.call ⟨.builtin b, args, ats⟩).operands := fun x hx => by simp [Op.operands, Call.operands, hx]
      rw [← mapA_congr fun x hx => he x (ha x hx)];have hids : ∀ x, x ∈ args.toList.map (ev e) → ∀ id ∈ idsOf x, id ∈ opIds e (Op.call ⟨.builtin b, args, ats⟩) := by
        intro x hx id hi;obtain ⟨y, hy, rfl⟩ := List.mem_map.1 hx;exact List.mem_flatMap.2 ⟨y, by simpa using ha y (by simpa using hy), hi⟩
      generalize args.toList.map (ev e) = as at hids;unfold opBuiltin;cases b <;> try rfl
      · simp only [rdOf] at h;have h1 : ∀ x ∈ as, At g g' (idsOf x) := fun x hx => h.mono fun id hi => List.mem_append_left _ (hids x hx id hi);have h2 : ∀ x ∈ as, At g g' (deepIds g (idsOf x)) := fun x hx => h.mono fun id hi => by
          rcases List.mem_append.1 hi with hi | hi
          · exact List.mem_append_left _ (hids x hx id hi)
          · obtain ⟨i, h3, h4⟩ := List.mem_flatMap.1 hi;exact List.mem_append_right _ (List.mem_flatMap.2 ⟨i, hids x hx i h3, h4⟩)
        match as, ats.toList with
        | [], _ => rfl
        | [_], _ => rfl
        | [s, x], [t, u] => exact opAppend_local (h1 s (by simp)) (h2 x (by simp))
        | [_, _], [] => rfl
        | [_, _], [_] => rfl
        | [_, _], _ :: _ :: _ :: _ => rfl
        | _ :: _ :: _ :: _, _ => rfl
      · simp only [rdOf] at h;have h1 : ∀ x ∈ as, At g g' (idsOf x) := fun x hx => h.mono fun id hi => hids x hx id hi
        match as, ats.toList with
        | [], _ => rfl
        | [x], [] => rfl
        | [x], [t] => exact opClear_local (h1 x (by simp))
        | [x], _ :: _ :: _ => rfl
        | _ :: _ :: _, _ => rfl
      · simp only [rdOf] at h;have h1 : ∀ x ∈ as, At g g' (idsOf x) := fun x hx => h.mono fun id hi => hids x hx id hi
        match as, ats.toList with
        | [], _ => rfl
        | [x], [] => rfl
        | [x], [t] =>
          simp only;cases ht : tiOf P mix t with
          | none => rfl
          | some i => simp only [lenV_local (h1 x (by simp))]
        | [x], _ :: _ :: _ => rfl
        | _ :: _ :: _, _ => rfl
end Go.Abs
end
