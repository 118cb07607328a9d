/- The engine, part D: from typed data to symbolic values and back. -/
import Derived.Test.YtklnffdjhoacoaaDoorEngC
set_option linter.unusedSimpArgs false
set_option linter.unusedVariables false
namespace Go.Eng
open Go Go.RowKit

@[reducible] def orN {α : Type} : Option α → Option α → Option α
  | some a, _ => some a
  | none, b => b

/-- The cells of typed data, where their number is known. -/
@[reducible] def flat : (s : Sh) → s.den → Option (List SC)
  | .int k, n => some [.v (.int k n)]
  | .bool, b => some [.v (.bool b)]
  | .str, b => some [.v (.string b)]
  | .any, v => none
  | .sl s, l => some [.sl s l]
  | .unit, _ => some []
  | .pair a b, d => match flat a d.1 with
    | some x => match flat b d.2 with
      | some y => some (catL x y)
      | none => none
    | none => none
  | .arr _ _, _ => none

@[reducible] def ofDat : (s : Sh) → s.den → SV
  | .int k, n => .c (.v (.int k n))
  | .bool, b => .c (.v (.bool b))
  | .str, b => .c (.v (.string b))
  | .any, v => .c (.v v)
  | .sl s, l => .c (.sl s l)
  | .unit, _ => .agg []
  | .pair a b, d => match flat (.pair a b) d with
    | some xs => .agg xs
    | none => .dat (.pair a b) d
  | .arr n s, d => .dat (.arr n s) d

theorem All2.cat {α β : Type} {R : α → β → Prop} : ∀ {a : List α} {b : List β} {c : List α} {d : List β}, All2 R a b → All2 R c d → All2 R (a ++ c) (b ++ d)
  | [], [], _, _, _, h => h
  | _ :: _, _ :: _, _, _, ⟨x, y⟩, h => ⟨x, All2.cat y h⟩

theorem flat_ok {h : FH} {β : List RV} : ∀ (s : Sh) {d : s.den} {cs : List Value} {xs : List SC}, flat s d = some xs → Rd h s cs d → All2 (fun x y => CnC h β x y ∧ oneC y) xs cs
  | .int k, n, cs, xs, e, r => by simp [flat] at e; subst e; rw [show cs = [_] from r]; exact ⟨⟨⟨rfl, oneC_int _ _⟩, oneC_int _ _⟩, trivial⟩
  | .bool, n, cs, xs, e, r => by simp [flat] at e; subst e; rw [show cs = [_] from r]; exact ⟨⟨⟨rfl, oneC_bool _⟩, oneC_bool _⟩, trivial⟩
  | .str, n, cs, xs, e, r => by simp [flat] at e; subst e; rw [show cs = [_] from r]; exact ⟨⟨⟨rfl, oneC_string _⟩, oneC_string _⟩, trivial⟩
  | .any, n, cs, xs, e, r => by simp [flat] at e
  | .sl s, l, cs, xs, e, r => by
    simp [flat] at e; subst e
    obtain ⟨v, rfl, r⟩ := r
    exact ⟨⟨r, r.oneC⟩, trivial⟩
  | .unit, n, cs, xs, e, r => by simp [flat] at e; subst e; rw [show cs = [] from r]; trivial
  | .arr _ _, n, cs, xs, e, r => by simp [flat] at e
  | .pair a b, (x, y), cs, xs, e, r => by
    obtain ⟨c1, c2, rfl, r1, r2⟩ := r
    unfold flat at e
    split at e
    · rename_i p hp
      split at e
      · rename_i q hq
        cases e
        rw [catL_eq]
        exact All2.cat (flat_ok a hp r1) (flat_ok b hq r2)
      · cases e
    · cases e

theorem ofDat_ok {h : FH} {β : List RV} : ∀ (s : Sh) {d : s.den} {cs : List Value}, Rd h s cs d → CnV h β (ofDat s d) (mkV s cs)
  | .int k, n, cs, r => by rw [show cs = [_] from r]; exact ⟨⟨rfl, oneC_int _ _⟩, oneC_int _ _⟩
  | .bool, n, cs, r => by rw [show cs = [_] from r]; exact ⟨⟨rfl, oneC_bool _⟩, oneC_bool _⟩
  | .str, n, cs, r => by rw [show cs = [_] from r]; exact ⟨⟨rfl, oneC_string _⟩, oneC_string _⟩
  | .any, n, cs, r => by rw [show cs = [_] from r.1]; exact ⟨⟨rfl, r.2⟩, r.2⟩
  | .sl s, l, cs, r => by
    obtain ⟨v, rfl, r⟩ := r
    exact ⟨r, r.oneC⟩
  | .unit, n, cs, r => by rw [show cs = [] from r]; exact ⟨[], rfl, trivial⟩
  | .arr n s, l, cs, r => ⟨rfl, cs, rfl, r⟩
  | .pair a b, d, cs, r => by
    have e : ofDat (.pair a b) d = match flat (.pair a b) d with
      | some xs => .agg xs
      | none => .dat (.pair a b) d := rfl
    rw [e]
    cases hx : flat (.pair a b) d with
    | some xs => exact ⟨cs, rfl, flat_ok (.pair a b) hx r⟩
    | none => exact ⟨rfl, cs, rfl, r⟩

@[reducible] def ikn : IntKind → Nat
  | .i8 => 0 | .i16 => 1 | .i32 => 2 | .i64 => 3 | .u8 => 4 | .u16 => 5 | .u32 => 6 | .u64 => 7
theorem ikn_inj {a b : IntKind} (h : Nat.beq (ikn a) (ikn b) = true) : a = b := by cases a <;> cases b <;> first | rfl | (simp [ikn] at h)

@[reducible] def sheq : (a b : Sh) → Bool
  | .int k, b => match b with | .int k' => Nat.beq (ikn k) (ikn k') | _ => false
  | .bool, b => match b with | .bool => true | _ => false
  | .str, b => match b with | .str => true | _ => false
  | .any, b => match b with | .any => true | _ => false
  | .unit, b => match b with | .unit => true | _ => false
  | .sl s, b => match b with | .sl s' => sheq s s' | _ => false
  | .pair s t, b => match b with | .pair s' t' => andB (sheq s s') (sheq t t') | _ => false
  | .arr n s, b => match b with | .arr n' s' => andB (Nat.beq n n') (sheq s s') | _ => false

theorem sheq_eq : ∀ {a b : Sh}, sheq a b = true → a = b
  | .int k, b, h => by
    cases b with
    | int k' => rw [ikn_inj (show Nat.beq (ikn k) (ikn k') = true from h)]
    | _ => simp [sheq] at h
  | .bool, b, h => by cases b <;> simp [sheq] at h; rfl
  | .str, b, h => by cases b <;> simp [sheq] at h; rfl
  | .any, b, h => by cases b <;> simp [sheq] at h; rfl
  | .unit, b, h => by cases b <;> simp [sheq] at h; rfl
  | .sl s, b, h => by cases b <;> simp [sheq] at h; rw [sheq_eq h]
  | .pair s t, b, h => by
    cases b <;> simp [sheq] at h
    rw [andB_eq, Bool.and_eq_true] at h
    rw [sheq_eq h.1, sheq_eq h.2]
  | .arr n s, b, h => by
    cases b with
    | arr n' s' =>
      have h : andB (Nat.beq n n') (sheq s s') = true := h
      rw [andB_eq, Bool.and_eq_true] at h
      have e1 : n = n' := Nat.eq_of_beq_eq_true h.1
      rw [sheq_eq h.2, e1]
    | _ => simp [sheq] at h

/-- Typed data at another name of its shape. -/
@[reducible] def castD (s : Sh) (d : s.den) (s' : Sh) : Option s'.den :=
  match h : sheq s s' with
  | true => some ((sheq_eq h) ▸ d)
  | false => none

theorem castD_eq {s s' : Sh} {d : s.den} {d' : s'.den} (h : castD s d s' = some d') : ∃ e : s = s', e ▸ d = d' := by
  unfold castD at h
  split at h
  · rename_i hs
    exact ⟨sheq_eq hs, by simpa using h⟩
  · cases h

@[reducible] def takeR {α : Type} (f : List SC → Option (α × List SC)) : Nat → List SC → Option (List α × List SC)
  | 0, xs => some ([], xs)
  | n + 1, xs => match f xs with
    | some p => match takeR f n p.2 with
      | some q => some (p.1 :: q.1, q.2)
      | none => none
    | none => none

/-- Typed data out of the cells in front. -/
@[reducible] def takeD : (s : Sh) → List SC → Option (s.den × List SC)
  | .int k, xs => match xs with
    | .v (.int k' n) :: r => cnd (Nat.beq (ikn k) (ikn k')) (some (n, r)) none
    | _ => none
  | .bool, xs => match xs with
    | .v (.bool b) :: r => some (b, r)
    | _ => none
  | .str, xs => match xs with
    | .v (.string b) :: r => some (b, r)
    | _ => none
  | .any, xs => match xs with
    | .v x :: r => some (x, r)
    | _ => none
  | .sl s, xs => match xs with
    | .sl s' l :: r => match castD (.sl s') l (.sl s) with
      | some l' => some (l', r)
      | none => none
    | .v (.slice none 0 0) :: r => some ([], r)
    | _ => none
  | .unit, xs => some ((), xs)
  | .pair a b, xs => match takeD a xs with
    | some p => match takeD b p.2 with
      | some q => some ((p.1, q.1), q.2)
      | none => none
    | none => none
  | .arr n s, xs => takeR (takeD s) n xs

theorem takeR_ok {h : FH} {β : List RV} {α : Type} {R : List Value → α → Prop} {f : List SC → Option (α × List SC)}
    (hf : ∀ {xs : List SC} {ys : List Value} {d : α} {r : List SC}, f xs = some (d, r) → All2 (fun x y => CnC h β x y ∧ oneC y) xs ys → ∃ c1 c2, ys = c1 ++ c2 ∧ R c1 d ∧ All2 (fun x y => CnC h β x y ∧ oneC y) r c2) :
    ∀ {n : Nat} {xs : List SC} {ys : List Value} {l : List α} {r : List SC}, takeR f n xs = some (l, r) → All2 (fun x y => CnC h β x y ∧ oneC y) xs ys →
    ∃ c1 c2, ys = c1 ++ c2 ∧ (l.length = n ∧ RdL R c1 l) ∧ All2 (fun x y => CnC h β x y ∧ oneC y) r c2
  | 0, xs, ys, l, r, e, a => by
    simp only [takeR] at e
    cases e
    exact ⟨[], ys, rfl, ⟨rfl, rfl⟩, a⟩
  | n + 1, xs, ys, l, r, e, a => by
    unfold takeR at e
    split at e
    · rename_i p hp
      split at e
      · rename_i q hq
        cases e
        obtain ⟨c1, c2, rfl, r1, a1⟩ := hf (show f xs = some (p.1, p.2) from hp) a
        obtain ⟨c3, c4, rfl, ⟨l2, r2⟩, a2⟩ := takeR_ok hf (show takeR f n p.2 = some (q.1, q.2) from hq) a1
        exact ⟨c1 ++ c3, c4, by rw [List.append_assoc], ⟨by simp [l2], c1, c3, rfl, r1, r2⟩, a2⟩
      · cases e
    · cases e

theorem takeD_ok {h : FH} {β : List RV} : ∀ (s : Sh) {xs : List SC} {ys : List Value} {d : s.den} {r : List SC}, takeD s xs = some (d, r) → All2 (fun x y => CnC h β x y ∧ oneC y) xs ys →
    ∃ c1 c2, ys = c1 ++ c2 ∧ Rd h s c1 d ∧ All2 (fun x y => CnC h β x y ∧ oneC y) r c2
  | .int k, xs, ys, d, r, e, a => by
    unfold takeD at e
    split at e
    · rename_i k' n r'
      match ys, a with
      | y :: ys, ⟨⟨q1, q2⟩, q3⟩ =>
        rw [cnd_eq] at e
        split at e
        · rename_i hk
          have := ikn_inj hk; subst this
          cases e
          exact ⟨[y], ys, rfl, by rw [q1.1]; rfl, q3⟩
        · cases e
    · cases e
  | .bool, xs, ys, d, r, e, a => by
    unfold takeD at e
    split at e
    · match ys, a with
      | y :: ys, ⟨⟨q1, q2⟩, q3⟩ => cases e; exact ⟨[y], ys, rfl, by rw [q1.1]; rfl, q3⟩
    · cases e
  | .str, xs, ys, d, r, e, a => by
    unfold takeD at e
    split at e
    · match ys, a with
      | y :: ys, ⟨⟨q1, q2⟩, q3⟩ => cases e; exact ⟨[y], ys, rfl, by rw [q1.1]; rfl, q3⟩
    · cases e
  | .any, xs, ys, d, r, e, a => by
    unfold takeD at e
    split at e
    · match ys, a with
      | y :: ys, ⟨⟨q1, q2⟩, q3⟩ => cases e; exact ⟨[y], ys, rfl, by rw [q1.1]; exact ⟨rfl, q1.2⟩, q3⟩
    · cases e
  | .sl s, xs, ys, d, r, e, a => by
    unfold takeD at e
    split at e
    · rename_i s' l r'
      match ys, a with
      | y :: ys, ⟨⟨q1, q2⟩, q3⟩ =>
        split at e
        · rename_i l' hl
          cases e
          obtain ⟨es, el⟩ := castD_eq hl
          cases es
          simp only at el
          subst el
          exact ⟨[y], ys, rfl, ⟨y, rfl, q1⟩, q3⟩
        · cases e
    · match ys, a with
      | y :: ys, ⟨⟨q1, q2⟩, q3⟩ => cases e; exact ⟨[y], ys, rfl, ⟨y, rfl, .inl ⟨q1.1, rfl⟩⟩, q3⟩
    · cases e
  | .unit, xs, ys, d, r, e, a => by
    simp [takeD] at e
    subst e
    exact ⟨[], ys, rfl, rfl, a⟩
  | .pair s t, xs, ys, d, r, e, a => by
    unfold takeD at e
    split at e
    · rename_i p hp
      split at e
      · rename_i q hq
        cases e
        obtain ⟨c1, c2, rfl, r1, a1⟩ := takeD_ok s (show takeD s xs = some (p.1, p.2) from hp) a
        obtain ⟨c3, c4, rfl, r2, a2⟩ := takeD_ok t (show takeD t p.2 = some (q.1, q.2) from hq) a1
        exact ⟨c1 ++ c3, c4, by rw [List.append_assoc], ⟨c1, c3, rfl, r1, r2⟩, a2⟩
      · cases e
    · cases e
  | .arr n s, xs, ys, d, r, e, a => takeR_ok (fun e a => takeD_ok s e a) (show takeR (takeD s) n xs = some (d, r) from e) a

@[reducible] def svCells : SV → Option (List SC)
  | .c x => some [x]
  | .agg xs => some xs
  | _ => none

/-- A struct of one field of many cells is that field. -/
@[reducible] def wrapD (s' : Sh) (d : s'.den) : (s : Sh) → Option s.den
  | .pair a .unit => match a.isAgg with
    | true => match castD s' d a with
      | some x => some (x, ())
      | none => none
    | false => none
  | _ => none
@[reducible] def datD (s' : Sh) (d : s'.den) (s : Sh) : Option s.den := match castD s' d s with
  | some x => some x
  | none => wrapD s' d s

/-- A symbolic value as typed data. -/
@[reducible] def toDat (s : Sh) (v : SV) : Option s.den := match v with
  | .dat s' d => datD s' d s
  | .und => none
  | .c x => match s.isAgg with
    | true => none
    | false => match takeD s [x] with
      | some (d, []) => some d
      | _ => none
  | .agg xs => match s.isAgg with
    | false => none
    | true => match takeD s xs with
      | some (d, []) => some d
      | _ => none

theorem toDat_ok {h : FH} {β : List RV} {s : Sh} {v : SV} {d : s.den} {y : Value} (e : toDat s v = some d) (c : CnV h β v y) : ∃ cs, y = mkV s cs ∧ Rd h s cs d := by
  unfold toDat at e
  split at e
  · unfold datD at e
    split at e
    · rename_i x hx
      cases e
      obtain ⟨es, ed⟩ := castD_eq hx
      subst es; simp only at ed; subst ed
      obtain ⟨hg, cs, rfl, r⟩ := c
      exact ⟨cs, by simp [mkV, hg], r⟩
    · unfold wrapD at e
      split at e
      · split at e
        · split at e
          · rename_i x hx
            cases e
            obtain ⟨es, ed⟩ := castD_eq hx
            subst es; simp only at ed; subst ed
            obtain ⟨hg, cs, rfl, r⟩ := c
            exact ⟨cs, by simp [mkV, Sh.isAgg], cs, [], by simp, r, rfl⟩
          · cases e
        · cases e
      · cases e
  · cases e
  · split at e
    · cases e
    · rename_i hs
      split at e
      · rename_i hd
        cases e
        obtain ⟨c1, c2, e1, r, a⟩ := takeD_ok (β := β) (ys := [y]) s hd ⟨c, trivial⟩
        have : c2 = [] := by cases c2 with | nil => rfl | cons _ _ => exact a.elim
        subst this
        rw [List.append_nil] at e1
        subst e1
        exact ⟨[y], by simp [mkV, hs], r⟩
      · cases e
  · split at e
    · cases e
    · rename_i hs
      split at e
      · rename_i hd
        cases e
        obtain ⟨ys, rfl, a⟩ := c
        obtain ⟨c1, c2, e1, r, a'⟩ := takeD_ok (β := β) s hd a
        have : c2 = [] := by cases c2 with | nil => rfl | cons _ _ => exact a'.elim
        subst this
        rw [List.append_nil] at e1
        subst e1
        exact ⟨ys, by simp [mkV, hs], r⟩
      · cases e

/-- The part of typed data that begins at a cell and has a size. -/
@[reducible] def isU : Sh → Bool
  | .unit => true
  | _ => false
@[reducible] def subD : (s : Sh) → s.den → Nat → Nat → Bool → Option (Sigma Sh.den)
  | .pair a b, d, off, k, ag => match andB (Nat.beq off 0) (andB (Nat.beq (a.size + b.size) k) ag) with
    | true => match andB (isU b) a.isAgg with
      | true => some ⟨a, d.1⟩
      | false => some ⟨.pair a b, d⟩
    | false => match Nat.ble (off + 1) a.size with
      | true => subD a d.1 off k ag
      | false => subD b d.2 (off - a.size) k ag
  | s, d, off, k, ag => match andB (Nat.beq off 0) (andB (Nat.beq s.size k) (beqB s.isAgg ag)) with
    | true => some ⟨s, d⟩
    | false => none

theorem subD_ok {h : FH} : ∀ (s : Sh) {d : s.den} {cs : List Value} {off k : Nat} {ag : Bool} {p : Sigma Sh.den}, subD s d off k ag = some p → Rd h s cs d →
    Rd h p.1 ((cs.drop off).take k) p.2 ∧ p.1.size = k ∧ p.1.isAgg = ag ∧ off + k ≤ cs.length
  | .pair a b, (x, y), cs, off, k, ag, p, e, r => by
    unfold subD at e
    split at e
    · rename_i hc
      rw [andB_eq, andB_eq] at hc
      simp at hc
      obtain ⟨rfl, hk, rfl⟩ := hc
      split at e
      · rename_i hu
        rw [andB_eq, Bool.and_eq_true] at hu
        cases e
        obtain ⟨hu, ha⟩ := hu
        cases b <;> simp [isU] at hu
        obtain ⟨c1, c2, e1, r1, r2⟩ := r
        have r2 : c2 = [] := r2
        subst r2
        have hs := Rd.size a r1
        simp only [Sh.size, Nat.add_zero] at hk
        have e1 : cs = c1 := by simpa using e1
        subst e1
        refine ⟨?_, hk, ha, by omega⟩
        simp only [List.drop_zero]
        rw [List.take_of_length_le (by omega)]; exact r1
      cases e
      have hs := Rd.size (.pair a b) r
      have : cs.length = k := by rw [hs]; exact hk
      refine ⟨?_, hk, rfl, by omega⟩
      simp only [List.drop_zero]
      rw [List.take_of_length_le (by omega)]; exact r
    · obtain ⟨c1, c2, rfl, r1, r2⟩ := r
      have h1 := Rd.size a r1
      split at e
      · rename_i hl
        have hl : off < a.size := by have := Nat.le_of_ble_eq_true hl; omega
        obtain ⟨q1, q2, q3, q4⟩ := subD_ok a e r1
        refine ⟨?_, q2, q3, by rw [List.length_append]; omega⟩
        rw [List.drop_append_of_le_length (by omega), List.take_append_of_le_length (by rw [List.length_drop]; omega)]; exact q1
      · rename_i hl
        have hl : a.size ≤ off := by
          have : ¬ off + 1 ≤ a.size := fun hh => by rw [Nat.ble_eq_true_of_le hh] at hl; cases hl
          omega
        obtain ⟨q1, q2, q3, q4⟩ := subD_ok b e r2
        refine ⟨?_, q2, q3, by rw [List.length_append]; omega⟩
        rw [List.drop_append, List.drop_of_length_le (by omega), List.nil_append, h1]; exact q1
  | .int q, d, cs, off, k, ag, p, e, r => leaf (.int q) e r
  | .bool, d, cs, off, k, ag, p, e, r => leaf .bool e r
  | .str, d, cs, off, k, ag, p, e, r => leaf .str e r
  | .any, d, cs, off, k, ag, p, e, r => leaf .any e r
  | .sl s, d, cs, off, k, ag, p, e, r => leaf (.sl s) e r
  | .unit, d, cs, off, k, ag, p, e, r => leaf .unit e r
  | .arr n s, d, cs, off, k, ag, p, e, r => leaf (.arr n s) e r
where
  leaf {h : FH} (s : Sh) {d : s.den} {cs : List Value} {off k : Nat} {ag : Bool} {p : Sigma Sh.den} (e : (match andB (Nat.beq off 0) (andB (Nat.beq s.size k) (beqB s.isAgg ag)) with
    | true => some (⟨s, d⟩ : Sigma Sh.den)
    | false => none) = some p) (r : Rd h s cs d) : Rd h p.1 ((cs.drop off).take k) p.2 ∧ p.1.size = k ∧ p.1.isAgg = ag ∧ off + k ≤ cs.length := by
    split at e
    · rename_i hc
      rw [andB_eq, andB_eq, Bool.and_eq_true, Bool.and_eq_true] at hc
      obtain ⟨h1, h2, h3⟩ := hc
      have h1 : off = 0 := by simpa using h1
      have h2 : s.size = k := by simpa using h2
      subst h1
      cases e
      have hs := Rd.size s r
      refine ⟨?_, h2, beqB_eq h3, by omega⟩
      simp only [List.drop_zero]
      rw [List.take_of_length_le (by omega)]; exact r
    · cases e

@[reducible] def dflt : (s : Sh) → s.den
  | .int _ => (0 : Int)
  | .bool => false
  | .str => ByteArray.empty
  | .any => undef
  | .sl _ => []
  | .pair a b => (dflt a, dflt b)
  | .unit => ()
  | .arr _ _ => []

/-! Parts that are changed. -/
theorem RdL.set {α : Type} {R : List Value → α → Prop} {k : Nat} (hR : ∀ c d, R c d → c.length = k) : ∀ {l : List α} {cs : List Value} {j : Nat} {d : α} {c : List Value}, RdL R cs l → j < l.length → R c d →
    RdL R (cs.take (j * k) ++ c ++ cs.drop (j * k + k)) (l.set j d)
  | [], _, _, _, _, _, h, _ => by simp at h
  | x :: l, _, 0, d, c, ⟨c0, r, e, h1, h2⟩, _, hc => by
    have h0 := hR _ _ h1
    simp only [Nat.zero_mul, List.take_zero, List.nil_append, Nat.zero_add, List.set_cons_zero]
    refine ⟨c, _, rfl, hc, ?_⟩
    rw [e, ← h0, List.drop_left]; exact h2
  | x :: l, _, j + 1, d, c, ⟨c0, r, e, h1, h2⟩, hj, hc => by
    have h0 := hR _ _ h1
    have ih := RdL.set hR h2 (by simpa using hj) hc
    simp only [List.set_cons_succ]
    have e1 : (j + 1) * k = c0.length + j * k := by rw [Nat.succ_mul, h0]; omega
    refine ⟨c0, _, ?_, h1, ih⟩
    rw [e, e1, List.take_length_add_append, show c0.length + j * k + k = c0.length + (j * k + k) by omega, List.drop_length_add_append, List.append_assoc, List.append_assoc, List.append_assoc]

theorem mkV_cells {h : FH} {sh : Sh} {cs : List Value} {d : sh.den} (r : Rd h sh cs d) : (mkV sh cs).cells = cs.toArray := by
  unfold mkV
  cases hs : sh.isAgg with
  | true => rfl
  | false =>
    have := Rd.size sh r
    have h1 : sh.size = 1 := by cases sh <;> first | rfl | simp [Sh.isAgg] at hs
    rw [h1] at this
    match cs, this, r with
    | [c], _, r => exact (Rd.one sh r c (by simp)).1

/-- The array in which a cell lies: its elements, their number, the cell's place in its first element. -/
@[reducible] def arrAt : (s : Sh) → s.den → Nat → Option (Sigma fun e : Sh => List e.den × Nat × Nat)
  | .pair a b, (x, y), off => match Nat.ble (off + 1) a.size with
    | true => arrAt a x off
    | false => arrAt b y (off - a.size)
  | .arr n e, l, off => match Nat.ble (off + 1) e.size with
    | true => some ⟨e, l, n, off⟩
    | false => none
  | _, _, _ => none

theorem arrAt_ok {h : FH} : ∀ (s : Sh) {d : s.den} {cs : List Value} {off : Nat} {q : Sigma fun e : Sh => List e.den × Nat × Nat}, arrAt s d off = some q → Rd h s cs d →
    ∃ base, off = base + q.2.2.2 ∧ q.2.1.length = q.2.2.1 ∧ base + q.2.2.1 * q.1.size ≤ cs.length ∧ RdL (Rd h q.1) ((cs.drop base).take (q.2.2.1 * q.1.size)) q.2.1
  | .pair a b, (x, y), cs, off, q, e, r => by
    obtain ⟨c1, c2, rfl, r1, r2⟩ := r
    have h1 := Rd.size a r1
    unfold arrAt at e
    split at e
    · rename_i hlt
      obtain ⟨base, e1, e2, e3, e4⟩ := arrAt_ok a e r1
      refine ⟨base, e1, e2, by rw [List.length_append]; omega, ?_⟩
      rw [List.drop_append_of_le_length (by omega), List.take_append_of_le_length (by rw [List.length_drop]; omega)]
      exact e4
    · rename_i hlt
      have hlt : ¬ off + 1 ≤ a.size := fun hh => by rw [Nat.ble_eq_true_of_le hh] at hlt; cases hlt
      obtain ⟨base, e1, e2, e3, e4⟩ := arrAt_ok b e r2
      refine ⟨c1.length + base, by omega, e2, by rw [List.length_append]; omega, ?_⟩
      rw [List.drop_length_add_append]
      exact e4
  | .arr n s, l, cs, off, q, e, r => by
    unfold arrAt at e
    split at e
    · cases e
      refine ⟨0, by simp, r.1, ?_, ?_⟩
      · rw [RdL.size (fun _ _ => Rd.size s) r.2, r.1]; simp
      · have := RdL.size (fun _ _ => Rd.size s) r.2
        rw [r.1] at this
        show RdL (Rd h s) ((cs.drop 0).take (n * s.size)) l
        rw [List.drop_zero, List.take_of_length_le (by omega)]
        exact r.2
    · cases e
  | .int _, _, _, _, _, e, _ => by simp [arrAt] at e
  | .bool, _, _, _, _, e, _ => by simp [arrAt] at e
  | .str, _, _, _, _, e, _ => by simp [arrAt] at e
  | .any, _, _, _, _, e, _ => by simp [arrAt] at e
  | .unit, _, _, _, _, e, _ => by simp [arrAt] at e
  | .sl _, _, _, _, _, e, _ => by simp [arrAt] at e

/-- Typed data of which the part of k cells at a place is another. -/
@[reducible] def updD : (s : Sh) → s.den → Nat → Nat → SV → Option s.den
  | .pair a b, (p, q), off, k, v => match andB (Nat.beq off 0) (Nat.beq (a.size + b.size) k) with
    | true => match toDat (.pair a b) v with
      | some x => some x
      | none => match Nat.ble 1 a.size with
        | true => match updD a p 0 k v with
          | some x => some (x, q)
          | none => none
        | false => none
    | false => match Nat.ble (off + 1) a.size with
      | true => match updD a p off k v with
        | some x => some (x, q)
        | none => none
      | false => match updD b q (off - a.size) k v with
        | some x => some (p, x)
        | none => none
  | s, _, off, k, v => match andB (Nat.beq off 0) (Nat.beq s.size k) with
    | true => toDat s v
    | false => none

def Upd (h : FH) (s : Sh) (cs : List Value) (off k : Nat) (y : Value) (d' : s.den) : Prop :=
  ∃ cs', y.cells = cs'.toArray ∧ cs'.length = k ∧ (∀ u ∈ cs', oneC u) ∧ off + k ≤ cs.length ∧ Rd h s (cs.take off ++ cs' ++ cs.drop (off + k)) d'

theorem upd_whole {h : FH} {β : List RV} {s : Sh} {d d' : s.den} {cs : List Value} {k : Nat} {v : SV} {y : Value} (hk : s.size = k) (e : toDat s v = some d') (r : Rd h s cs d) (c : CnV h β v y) : Upd h s cs 0 k y d' := by
  obtain ⟨cs', ey, r'⟩ := toDat_ok e c
  have h1 := Rd.size s r
  have h2 := Rd.size s r'
  refine ⟨cs', by rw [ey]; exact mkV_cells r', by omega, Rd.one s r', by omega, ?_⟩
  rw [List.take_zero, List.nil_append, Nat.zero_add, List.drop_of_length_le (by omega), List.append_nil]
  exact r'

theorem upd_left {h : FH} {a b : Sh} {x : a.den} {y0 : b.den} {c1 c2 : List Value} {off k : Nat} {y : Value} (u : Upd h a c1 off k y x) (r2 : Rd h b c2 y0) : Upd h (.pair a b) (c1 ++ c2) off k y (x, y0) := by
  obtain ⟨cs', e1, e2, e3, e4, e5⟩ := u
  refine ⟨cs', e1, e2, e3, by rw [List.length_append]; omega, _, c2, ?_, e5, r2⟩
  rw [List.take_append_of_le_length (by omega), List.drop_append_of_le_length (by omega)]
  simp only [List.append_assoc]
theorem upd_right {h : FH} {a b : Sh} {x : a.den} {y0 : b.den} {c1 c2 : List Value} {off k : Nat} {y : Value} (hs : c1.length ≤ off) (r1 : Rd h a c1 x) (u : Upd h b c2 (off - c1.length) k y y0) : Upd h (.pair a b) (c1 ++ c2) off k y (x, y0) := by
  obtain ⟨cs', e1, e2, e3, e4, e5⟩ := u
  refine ⟨cs', e1, e2, e3, by rw [List.length_append]; omega, c1, _, ?_, r1, e5⟩
  have o : off = c1.length + (off - c1.length) := by omega
  generalize off - c1.length = m at o
  subst o
  rw [List.take_length_add_append, show c1.length + m + k = c1.length + (m + k) by omega, List.drop_length_add_append]
  simp only [List.append_assoc]

theorem upd_leaf {h : FH} {β : List RV} (s : Sh) {d d' : s.den} {cs : List Value} {off k : Nat} {v : SV} {y : Value} (e : (match andB (Nat.beq off 0) (Nat.beq s.size k) with | true => toDat s v | false => none) = some d') (r : Rd h s cs d) (c : CnV h β v y) : Upd h s cs off k y d' := by
  split at e
  · rename_i hz
    rw [andB_eq, Bool.and_eq_true] at hz
    have h1 : off = 0 := Nat.eq_of_beq_eq_true hz.1
    have h2 : s.size = k := Nat.eq_of_beq_eq_true hz.2
    subst h1
    exact upd_whole h2 e r c
  · cases e

theorem updD_ok {h : FH} {β : List RV} : ∀ (s : Sh) {d d' : s.den} {cs : List Value} {off k : Nat} {v : SV} {y : Value}, updD s d off k v = some d' → Rd h s cs d → CnV h β v y → Upd h s cs off k y d'
  | .pair a b, (x, y0), d', cs, off, k, v, y, e, r, c => by
    unfold updD at e
    split at e
    · rename_i hz
      rw [andB_eq, Bool.and_eq_true] at hz
      have h1 : off = 0 := Nat.eq_of_beq_eq_true hz.1
      have h2 : a.size + b.size = k := Nat.eq_of_beq_eq_true hz.2
      subst h1
      split at e
      · rename_i x' hx
        cases e
        exact upd_whole (s := .pair a b) h2 hx r c
      · split at e
        · split at e
          · rename_i x' hx
            cases e
            obtain ⟨c1, c2, rfl, r1, r2⟩ := r
            exact upd_left (updD_ok a hx r1 c) r2
          · cases e
        · cases e
    · obtain ⟨c1, c2, rfl, r1, r2⟩ := r
      have h1 := Rd.size a r1
      split at e
      · split at e
        · rename_i x' hx
          cases e
          exact upd_left (updD_ok a hx r1 c) r2
        · cases e
      · rename_i hlt
        have hlt : ¬ off + 1 ≤ a.size := fun hh => by rw [Nat.ble_eq_true_of_le hh] at hlt; cases hlt
        split at e
        · rename_i x' hx
          cases e
          refine upd_right (by omega) r1 ?_
          rw [h1]
          exact updD_ok b hx r2 c
        · cases e
  | .int q, d, d', cs, off, k, v, y, e, r, c => upd_leaf (.int q) e r c
  | .bool, d, d', cs, off, k, v, y, e, r, c => upd_leaf .bool e r c
  | .str, d, d', cs, off, k, v, y, e, r, c => upd_leaf .str e r c
  | .any, d, d', cs, off, k, v, y, e, r, c => upd_leaf .any e r c
  | .unit, d, d', cs, off, k, v, y, e, r, c => upd_leaf .unit e r c
  | .sl q, d, d', cs, off, k, v, y, e, r, c => upd_leaf (.sl q) e r c
  | .arr n q, d, d', cs, off, k, v, y, e, r, c => upd_leaf (.arr n q) e r c

/-- Typed data in which the j-th element of the array at a place is another. -/
@[reducible] def setA : (s : Sh) → s.den → Nat → Nat → Nat → Nat → SV → Option (Nat × s.den)
  | .pair a b, (p, q), off, j, sz, k, v => match Nat.ble (off + 1) a.size with
    | true => match setA a p off j sz k v with
      | some (m, x) => some (m, (x, q))
      | none => none
    | false => match setA b q (off - a.size) j sz k v with
      | some (m, x) => some (m, (p, x))
      | none => none
  | .arr n e, l, off, j, sz, k, v => match andB (Nat.beq off 0) (andB (Nat.beq e.size sz) (Nat.beq sz k)) with
    | true => match toDat e v with
      | some x => some (n, l.set j x)
      | none => none
    | false => none
  | _, _, _, _, _, _, _ => none

theorem setA_ok {h : FH} {β : List RV} : ∀ (s : Sh) {d : s.den} {cs : List Value} {off j sz k : Nat} {v : SV} {y : Value} {p : Nat × s.den}, setA s d off j sz k v = some p → Rd h s cs d → CnV h β v y → j < p.1 → Upd h s cs (j * sz + off) k y p.2
  | .pair a b, (x, y0), cs, off, j, sz, k, v, y, p, e, r, c, hj => by
    obtain ⟨c1, c2, rfl, r1, r2⟩ := r
    have h1 := Rd.size a r1
    unfold setA at e
    split at e
    · split at e
      · rename_i m x' hq
        cases e
        exact upd_left (setA_ok a (p := (m, x')) hq r1 c hj) r2
      · cases e
    · rename_i hlt
      have hlt : ¬ off + 1 ≤ a.size := fun hh => by rw [Nat.ble_eq_true_of_le hh] at hlt; cases hlt
      split at e
      · rename_i m x' hq
        cases e
        refine upd_right (by omega) r1 ?_
        have := setA_ok b (p := (m, x')) hq r2 c hj
        rwa [show j * sz + (off - a.size) = j * sz + off - c1.length by omega] at this
      · cases e
  | .arr n s, l, cs, off, j, sz, k, v, y, p, e, r, c, hj => by
    unfold setA at e
    split at e
    · rename_i hz
      rw [andB_eq, andB_eq, Bool.and_eq_true, Bool.and_eq_true] at hz
      have z1 : off = 0 := Nat.eq_of_beq_eq_true hz.1
      have z2 : s.size = sz := Nat.eq_of_beq_eq_true hz.2.1
      have z3 : sz = k := Nat.eq_of_beq_eq_true hz.2.2
      subst z1; subst z3; subst z2
      split at e
      · rename_i x hx
        cases e
        obtain ⟨cs', ey, r'⟩ := toDat_ok hx c
        have hs := Rd.size s r'
        have hl := RdL.size (fun _ _ => Rd.size s) r.2
        have hj : j < l.length := by have := r.1; omega
        have hm : (j + 1) * s.size ≤ l.length * s.size := Nat.mul_le_mul_right _ hj
        rw [Nat.succ_mul] at hm
        refine ⟨cs', by rw [ey]; exact mkV_cells r', hs, Rd.one s r', by omega, by rw [List.length_set]; exact r.1, ?_⟩
        exact RdL.set (fun _ _ => Rd.size s) r.2 hj r'
      · cases e
    · cases e
  | .int _, _, _, _, _, _, _, _, _, _, e, _, _, _ => by simp [setA] at e
  | .bool, _, _, _, _, _, _, _, _, _, e, _, _, _ => by simp [setA] at e
  | .str, _, _, _, _, _, _, _, _, _, e, _, _, _ => by simp [setA] at e
  | .any, _, _, _, _, _, _, _, _, _, e, _, _, _ => by simp [setA] at e
  | .unit, _, _, _, _, _, _, _, _, _, e, _, _, _ => by simp [setA] at e
  | .sl _, _, _, _, _, _, _, _, _, _, e, _, _, _ => by simp [setA] at e
end Go.Eng
