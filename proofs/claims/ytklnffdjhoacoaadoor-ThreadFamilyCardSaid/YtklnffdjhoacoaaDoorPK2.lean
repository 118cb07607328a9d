/- The Program chapter: plain laws of the code's check, function by function. Conditions: none. -/
import Derived.Test.YtklnffdjhoacoaaDoorPV9
set_option linter.unusedSimpArgs false
set_option linter.unusedVariables false
namespace Go.Proofs.YtklnffdjhoacoaaDoor
open Go Go.Eng

theorem instG_cut : ∀ (i : Nat) (l : List FD) (n : Nat) {x : FD}, l[i]? = some x → instG n l = instG n (l.take i) ++ (instF (n + i) x ++ instG (n + i + 1) (l.drop (i + 1)))
  | 0, [], n, x, h => by simp at h
  | 0, y :: l, n, x, h => by
    simp at h; subst h
    simp [instG]
  | i + 1, [], n, x, h => by simp at h
  | i + 1, y :: l, n, x, h => by
    have := instG_cut i l (n + 1) (x := x) (by simpa using h)
    simp only [List.take_succ_cons, List.drop_succ_cons, instG]
    rw [this, List.append_assoc, show n + 1 + i = n + (i + 1) by omega]
theorem instF_get' {n : Nat} {x : FD} {k : Nat} {d : dens [shS, shI]} (h : (instF n x)[k]? = some d) : ∃ e, x.2.1[k]? = some e ∧ d = (((n : Int), (k : Int), ()), e, ()) := by
  unfold instF at h
  rw [List.getElem?_map, List.getElem?_zipIdx] at h
  cases he : x.2.1[k]? with
  | none => rw [he] at h; simp at h
  | some e => rw [he] at h; simp at h; exact ⟨e, rfl, h.symm⟩
/-- A function's code without a fault. -/
theorem cd_zero {vs : List VD} {ms cs : List ByteArray} {fs : List FD} {l : List ID} (h : (cdS vs ms cs fs l).1 = 0) : l.length ≤ 64 ∧ ∀ (j : Nat) i, l[j]? = some i → ciI vs ms cs fs i l.length = 0 := by
  by_cases hl : 64 < l.length
  · unfold cdS at h; rw [if_pos hl] at h; simp at h
  refine ⟨by omega, ?_⟩
  cases hf : l.findIdx? (fun i => decide (ciI vs ms cs fs i l.length ≠ 0)) with
  | none =>
    rw [List.findIdx?_eq_none_iff] at hf
    intro j i hj
    simpa using hf i (List.mem_of_getElem? hj)
  | some k =>
    unfold cdS at h; rw [if_neg hl, hf] at h
    rw [List.findIdx?_eq_some_iff_getElem] at hf
    obtain ⟨hk, h1, _⟩ := hf
    have e : l.getD k (0, 0, 0, 0, 0, 0, 0, 0, ()) = l[k] := by rw [List.getD_eq_getElem?_getD, List.getElem?_eq_getElem hk]; rfl
    have h : ciI vs ms cs fs (l.getD k (0, 0, 0, 0, 0, 0, 0, 0, ())) l.length = 0 := h
    rw [e] at h
    simp [h] at h1
theorem cd_some {vs : List VD} {ms cs : List ByteArray} {fs : List FD} {l : List ID} (hl : ¬ 64 < l.length) (h : (cdS vs ms cs fs l).1 ≠ 0) : ∃ (k : Nat) (e : ID), l[k]? = some e ∧ ciI vs ms cs fs e l.length ≠ 0 ∧ (∀ j < k, ∀ i, l[j]? = some i → ciI vs ms cs fs i l.length = 0) ∧ cdS vs ms cs fs l = (ciI vs ms cs fs e l.length, (k : Int)) := by
  cases hf : l.findIdx? (fun i => decide (ciI vs ms cs fs i l.length ≠ 0)) with
  | none =>
    unfold cdS at h; rw [if_neg hl, hf] at h; exact absurd rfl h
  | some k =>
    rw [List.findIdx?_eq_some_iff_getElem] at hf
    obtain ⟨hk, h1, h2⟩ := hf
    have hn : ∀ j < k, ∀ i, l[j]? = some i → ciI vs ms cs fs i l.length = 0 := fun j hj i hi => by
      have := h2 j hj
      rw [(List.getElem?_eq_some_iff.1 hi).2] at this
      simpa using this
    have h1 : ciI vs ms cs fs l[k] l.length ≠ 0 := by simpa using h1
    exact ⟨k, l[k], List.getElem?_eq_getElem hk, h1, hn, cd_found hl (List.getElem?_eq_getElem hk) h1 hn⟩
theorem ce_at {vs : List VD} {ms cs : List ByteArray} {fs : List FD} {k : Nat} {x : FD} (hx : fs[k]? = some x) (j : Int) (e : ID) : ceI vs ms cs fs (((k : Int), j, ()), e, ()) = ciI vs ms cs fs e x.2.1.length := ce_of (d := (((k : Int), j, ()), e, ())) (by simpa using hx)
theorem long_bound {fs : List FD} {i : Nat} (hn : ∀ j < i, ∀ f, fs[j]? = some f → f.2.1.length ≤ 64) : longS fs = -1 ∨ (i : Int) ≤ longS fs := by
  unfold longS
  cases hf : fs.findIdx? (fun f => decide (64 < f.2.1.length)) with
  | none => exact .inl rfl
  | some k =>
    refine .inr ?_
    rw [List.findIdx?_eq_some_iff_getElem] at hf
    obtain ⟨hk, h1, _⟩ := hf
    show (i : Int) ≤ (k : Int)
    by_cases hki : k < i
    · have := hn k hki _ (List.getElem?_eq_getElem hk)
      simp at h1; omega
    · omega
/-- The first function with a fault, and its fault. -/
theorem cc_first {vs : List VD} {ms cs : List ByteArray} {fs : List FD} {i : Nat} {f : FD} (hf : fs[i]? = some f) (h : (cdS vs ms cs fs f.2.1).1 ≠ 0) (hn : ∀ j < i, ∀ g, fs[j]? = some g → (cdS vs ms cs fs g.2.1).1 = 0) :
    ccS vs ms cs fs = ((cdS vs ms cs fs f.2.1).1, (i : Int), (cdS vs ms cs fs f.2.1).2) := by
  have hb := long_bound (fs := fs) (i := i) fun j hj g hg => (cd_zero (hn j hj g hg)).1
  have hpre : (instG 0 (fs.take i)).find? (fun d => decide (d.1.1 = longS fs) || decide (ceI vs ms cs fs d ≠ 0)) = none := by
    rw [List.find?_eq_none]
    intro d hd
    obtain ⟨k, x, j, e, h1, h2, rfl⟩ := instG_mem _ _ hd
    have hk : k < i := by have := (List.getElem?_eq_some_iff.1 h1).1; simp at this; omega
    rw [List.getElem?_take_of_lt hk] at h1
    have hz := (cd_zero (hn k hk x h1)).2 j e h2
    rw [show (0 + k : Nat) = k by omega, ce_at h1, hz]
    have : ¬ ((k : Int) = longS fs) := by omega
    simp [this]
  have hcut := instG_cut i fs 0 hf
  have key : ∀ {k : Nat} {e : ID}, f.2.1[k]? = some e → ((i : Int) = longS fs ∨ ciI vs ms cs fs e f.2.1.length ≠ 0) → (∀ j < k, ∀ u, f.2.1[j]? = some u → (i : Int) ≠ longS fs ∧ ciI vs ms cs fs u f.2.1.length = 0) →
      (instL fs).find? (fun d => decide (d.1.1 = longS fs) || decide (ceI vs ms cs fs d ≠ 0)) = some (((i : Int), (k : Int), ()), e, ()) := by
    intro k e he hbad hok
    unfold instL
    rw [hcut, List.find?_append, hpre, Option.none_or, List.find?_append, show (0 + i : Nat) = i by omega]
    rw [find_first (k := k) (instF_get he) (by rw [ce_at hf]; simpa using hbad) fun j hj t ht => by
      obtain ⟨u, hu, rfl⟩ := instF_get' ht
      obtain ⟨a, b⟩ := hok j hj u hu
      rw [ce_at hf, b]; simp [a]]
    rfl
  by_cases hl : 64 < f.2.1.length
  · have e1 : longS fs = i := long_found hf hl fun j hj g hg => (cd_zero (hn j hj g hg)).1
    have hlt : 0 < f.2.1.length := by omega
    have := key (k := 0) (List.getElem?_eq_getElem hlt) (.inl e1.symm) (fun j hj => by omega)
    unfold ccS
    rw [this]
    show (if (i : Int) = longS fs then _ else _) = _
    rw [if_pos e1.symm, e1]
    unfold cdS; rw [if_pos hl]
  · obtain ⟨k, e, h1, h2, h3, h4⟩ := cd_some hl h
    have hne : (i : Int) ≠ longS fs := by
      intro q
      have := long_none (fs := fs)
      unfold longS at q
      cases hfi : fs.findIdx? (fun f => decide (64 < f.2.1.length)) with
      | none => rw [hfi] at q; simp at q
      | some m =>
        rw [hfi] at q
        rw [List.findIdx?_eq_some_iff_getElem] at hfi
        obtain ⟨hm, a, _⟩ := hfi
        have q : i = m := by have q : (i : Int) = (m : Int) := q; omega
        subst q
        rw [(List.getElem?_eq_some_iff.1 hf).2] at a
        simp at a; omega
    have := key h1 (.inr h2) (fun j hj u hu => ⟨hne, h3 j hj u hu⟩)
    unfold ccS
    rw [this]
    show (if (i : Int) = longS fs then _ else (ceI vs ms cs fs _, (i : Int), (k : Int))) = _
    rw [if_neg hne, ce_at hf, h4]
theorem cc_zero {vs : List VD} {ms cs : List ByteArray} {fs : List FD} (hn : ∀ (j : Nat) g, fs[j]? = some g → (cdS vs ms cs fs g.2.1).1 = 0) : ccS vs ms cs fs = (0, -1, -1) := by
  have hl : longS fs = -1 := long_none fun j g hg => (cd_zero (hn j g hg)).1
  rw [cc_end fun j d hd => ?_, if_neg (by rw [hl]; simp)]
  obtain ⟨k, x, m, e, h1, h2, rfl⟩ := instG_mem _ _ (List.mem_of_getElem? hd)
  rw [show (0 + k : Nat) = k by omega, ce_at h1, hl]
  exact ⟨by show ¬ ((k : Int) = -1); omega, (cd_zero (hn k x h1)).2 m e h2⟩
/-- A small program meets the bounds. -/
theorem instG_len : ∀ (l : List FD) (n m : Nat), (∀ x ∈ l, x.2.1.length ≤ m) → (instG n l).length ≤ l.length * m
  | [], n, m, h => by simp [instG]
  | x :: l, n, m, h => by
    have := instG_len l (n + 1) m fun y hy => h y (by simp [hy])
    have := h x (by simp)
    have e : (instF n x).length = x.2.1.length := by simp [instF]
    simp only [instG, List.length_append, List.length_cons, Nat.succ_mul]
    omega
theorem small_bnd {vs : List VD} {ms cs : List ByteArray} {fs : List FD} {ts : List SD} (h : smS vs ms cs fs ts = true) : bnd ((vs, ms, cs, fs, ts, ()), ()) := by
  unfold smS at h
  rw [Bool.and_eq_true, decide_eq_true_eq, List.all_eq_true] at h
  obtain ⟨⟨h1, h2, h3, h4, h5⟩, h6⟩ := h
  have h6 : ∀ x ∈ fs, x.2.1.length ≤ 100 := fun x hx => by simpa using h6 x hx
  have := instG_len fs 0 100 h6
  refine ⟨?_, ?_, ?_, ?_, ?_, fun x hx => ?_, ?_⟩
  · show vs.length ≤ _; omega
  · show ms.length ≤ _; omega
  · show cs.length ≤ _; omega
  · show fs.length ≤ _; omega
  · show ts.length ≤ _; omega
  · have := h6 x hx; omega
  · show (instG 0 fs).length ≤ _; omega
end Go.Proofs.YtklnffdjhoacoaaDoor
