/- The engine, part Y: arguments and package variables as a row reads them. -/
import Derived.Test.YtklnffdjhoacoaaDoorEngQ
import Derived.ReadAgain
import Derived.OpenShut
import Derived.ChangeSame
import Derived.Deep.DeepHandedRow
set_option linter.unusedSimpArgs false
set_option linter.unusedVariables false
namespace Go.Eng
open Go Go.RowKit

def mapO {α β : Type} (f : α → Option β) : List α → Option (List β)
  | [] => some []
  | x :: l => match f x with
    | some y => match mapO f l with
      | some m => some (y :: m)
      | none => none
    | none => none

/-- A datum as typed data. -/
def rdat {H : Type} : (s : Sh) → DataW H → Option s.den
  | .int k, d => match d with
    | .lit (.int k' n) => if k = k' then some n else none
    | _ => none
  | .bool, d => match d with
    | .lit (.bool b) => some b
    | _ => none
  | .str, d => match d with
    | .lit (.string l) => some ⟨l.toArray⟩
    | _ => none
  | .any, _ => none
  | .sl s, d => match d with
    | .nil => some []
    | .slice es _ => mapO (rdat s) es
    | _ => none
  | .pair a b, d => match d with
    | .agg (p :: ps) => match rdat a p with
      | some x => match rdat b (.agg ps) with
        | some y => some (x, y)
        | none => none
      | none => none
    | _ => none
  | .unit, d => match d with
    | .agg [] => some ()
    | _ => none
  | .arr n s, d => match d with
    | .agg ps => if ps.length = n then mapO (rdat s) ps else none
    | _ => none

/-- Data within its type's bounds. -/
def wfD : (s : Sh) → s.den → Prop
  | .int k, n => (Lit.int k n).wf = true
  | .bool, _ => True
  | .str, b => b.size ≤ maxLen
  | .any, _ => True
  | .sl s, l => l.length ≤ maxLen ∧ ∀ x ∈ l, wfD s x
  | .pair a b, p => wfD a p.1 ∧ wfD b p.2
  | .unit, _ => True
  | .arr n s, l => l.length = n ∧ ∀ x ∈ l, wfD s x

/-- Types whose values have a shape; fields from an offset on. -/
def SOK (P : Program) : Sh → (TypeId → Bool) × (List Field → Nat → Bool)
  | .int k => (fun t => match P.underlying t with | some (.int k') => decide (k = k') | _ => false, fun _ _ => false)
  | .bool => (fun t => match P.underlying t with | some .bool => true | _ => false, fun _ _ => false)
  | .str => (fun t => match P.underlying t with | some .string => true | _ => false, fun _ _ => false)
  | .any => (fun _ => false, fun _ _ => false)
  | .sl s => (fun t => match P.underlying t with | some (.slice e) => (SOK P s).1 e && P.cellsOf e == s.size && decide (1 ≤ s.size) | _ => false, fun _ _ => false)
  | .arr n s => (fun t => match P.underlying t with | some (.array m e) => m == n && (SOK P s).1 e && P.cellsOf e == s.size && P.cellsOf t == n * s.size | _ => false, fun _ _ => false)
  | .pair a b => (fun t => match P.underlying t with
      | some (.struct fs) => P.cellsOf t == a.size + b.size && (match fs.toList with
        | f :: r => f.offset == 0 && P.cellsOf f.type == a.size && (SOK P a).1 f.type && (SOK P b).2 r a.size
        | [] => false)
      | _ => false,
    fun fs off => match fs with
      | f :: r => f.offset == off && P.cellsOf f.type == a.size && (SOK P a).1 f.type && (SOK P b).2 r (off + a.size)
      | [] => false)
  | .unit => (fun t => match P.underlying t with
      | some (.struct fs) => P.cellsOf t == 0 && fs.toList.isEmpty
      | _ => false,
    fun fs _ => fs.isEmpty)

section
variable {H : Type} {enc : TypeId × Value → H} {P : Program} {W : World} {sp : Nat → Bool} {held : Bool}

def OpT (enc : TypeId × Value → H) (P : Program) (W : World) (sp : Nat → Bool) (held : Bool) (s : Sh) (t : TypeId) : Prop :=
  ∀ (fuel : Nat) (cs : List Value) (x : DataW H × List MemPlace), DataW.trod enc P W 0 sp held fuel t cs = some x → ∃ y, rdat s x.1 = some y ∧ Rd (FH.all W) s cs y ∧ wfD s y

theorem elems_open {s : Sh} {e : TypeId} {n : Nat} {a : Addr} (hs : OpT enc P W sp held s e) : ∀ (elems : List (DataW H × List MemPlace)) (k : Nat),
    (∀ i, i < elems.length → (W.cells? 0 (a.add ((k + i) * s.size)) s.size).bind (DataW.trod enc P W 0 sp held n e) = elems[i]?) →
    ∃ CS L, mapO (rdat s) (elems.map (·.1)) = some L ∧ RdL (Rd (FH.all W) s) CS L ∧ L.length = elems.length ∧ (∀ j u, CS[j]? = some u → W.cell? (a.add (k * s.size + j)) = some u) ∧ ∀ x ∈ L, wfD s x
  | [], k, _ => ⟨[], [], rfl, rfl, rfl, fun j u e => by simp at e, fun x hx => by simp at hx⟩
  | x :: elems, k, he => by
    have h0 := he 0 (by simp)
    simp only [Nat.add_zero, List.getElem?_cons_zero, Option.bind_eq_some_iff] at h0
    obtain ⟨cs, hc, hx⟩ := h0
    obtain ⟨y, y1, y2, y3⟩ := hs _ _ _ hx
    obtain ⟨CS, L, l1, l2, l3, l4, l5⟩ := elems_open hs elems (k + 1) (fun i hi => by
      have := he (i + 1) (by simpa using hi)
      rw [show k + 1 + i = k + (i + 1) by omega]
      simpa using this)
    obtain ⟨_, c2, c3⟩ := World.cells?_some hc
    refine ⟨cs ++ CS, y :: L, ?_, ⟨cs, CS, rfl, y2, l2⟩, by simp [l3], ?_, ?_⟩
    · simp only [List.map_cons, mapO, y1, l1]
    · intro j u hu
      by_cases hj : j < cs.length
      · rw [List.getElem?_append_left hj] at hu
        have := c3 j (by omega)
        rw [hu] at this
        rw [← this, Addr.add_add]
      · rw [List.getElem?_append_right (by omega)] at hu
        have := l4 (j - cs.length) u hu
        rw [show k * s.size + j = (k + 1) * s.size + (j - cs.length) by rw [Nat.succ_mul]; omega]
        exact this
    · intro z hz
      rcases List.mem_cons.1 hz with rfl | hz
      · exact y3
      · exact l5 z hz

theorem arr_open {s : Sh} {e : TypeId} {m : Nat} (hs : OpT enc P W sp held s e) : ∀ (xs : List (DataW H × List MemPlace)) (cs : List Value), cs.length = xs.length * s.size →
    (∀ i, i < xs.length → DataW.trod enc P W 0 sp held m e ((cs.drop (i * s.size)).take s.size) = xs[i]?) →
    ∃ L, mapO (rdat s) (xs.map (·.1)) = some L ∧ RdL (Rd (FH.all W) s) cs L ∧ L.length = xs.length ∧ ∀ x ∈ L, wfD s x
  | [], cs, hl, _ => ⟨[], rfl, by simpa [RdL] using hl, rfl, fun x hx => by simp at hx⟩
  | x :: xs, cs, hl, he => by
    have h0 := he 0 (by simp)
    simp only [Nat.zero_mul, List.drop_zero, List.getElem?_cons_zero] at h0
    obtain ⟨y, y1, y2, y3⟩ := hs _ _ _ h0
    obtain ⟨L, l1, l2, l3, l4⟩ := arr_open hs xs (cs.drop s.size) (by rw [List.length_drop, hl, List.length_cons, Nat.succ_mul]; omega) (fun i hi => by
      have := he (i + 1) (by simpa using hi)
      rw [List.drop_drop, show s.size + i * s.size = (i + 1) * s.size by rw [Nat.succ_mul]; omega]
      simpa using this)
    refine ⟨y :: L, by simp only [List.map_cons, mapO, y1, l1], ⟨cs.take s.size, cs.drop s.size, (List.take_append_drop _ _).symm, y2, l2⟩, by simp [l3], ?_⟩
    intro z hz
    rcases List.mem_cons.1 hz with rfl | hz
    · exact y3
    · exact l4 z hz

def OpF (enc : TypeId × Value → H) (P : Program) (W : World) (sp : Nat → Bool) (held : Bool) (s : Sh) (fs : List Field) (off : Nat) : Prop :=
  ∀ (n : Nat) (cs : List Value) (xs : List (DataW H × List MemPlace)), cs.length = off + s.size → xs.length = fs.length →
    (∀ (i : Nat) (f : Field), fs[i]? = some f → DataW.trod enc P W 0 sp held n f.type ((cs.drop f.offset).take (P.cellsOf f.type)) = xs[i]?) →
    ∃ y, rdat s (.agg (xs.map (·.1))) = some y ∧ Rd (FH.all W) s (cs.drop off) y ∧ wfD s y

theorem pair_open {a b : Sh} {f : Field} {r : List Field} {off : Nat} (h1 : f.offset = off) (h2 : P.cellsOf f.type = a.size) (ha : OpT enc P W sp held a f.type) (hb : OpF enc P W sp held b r (off + a.size)) :
    OpF enc P W sp held (.pair a b) (f :: r) off := by
  intro n cs xs hl hx he
  cases xs with
  | nil => simp at hx
  | cons x xs =>
    have h0 := he 0 f rfl
    rw [h1, h2] at h0
    obtain ⟨y, y1, y2, y3⟩ := ha _ _ _ h0
    obtain ⟨z, z1, z2, z3⟩ := hb n cs xs (by rw [hl]; simp only [Sh.size]; omega) (by simpa using hx) (fun i g hg => by simpa using he (i + 1) g (by simpa using hg))
    refine ⟨(y, z), ?_, ⟨(cs.drop off).take a.size, cs.drop (off + a.size), ?_, y2, z2⟩, y3, z3⟩
    · simp only [List.map_cons, rdat, y1, z1]
    · rw [← List.drop_drop]; exact (List.take_append_drop _ _).symm

theorem sok_open : ∀ (s : Sh), (∀ t, (SOK P s).1 t = true → OpT enc P W sp held s t) ∧ (∀ fs off, (SOK P s).2 fs off = true → OpF enc P W sp held s fs off)
  | .int k => by
    refine ⟨fun t ht fuel cs x h => ?_, fun fs off hf => by simp [SOK] at hf⟩
    simp only [SOK] at ht
    split at ht
    · rename_i k' hu
      simp only [decide_eq_true_eq] at ht
      subst ht
      obtain ⟨n, rfl, rfl, hw⟩ := DataW.trod_int hu h
      exact ⟨n, by simp [rdat], rfl, hw⟩
    · cases ht
  | .bool => by
    refine ⟨fun t ht fuel cs x h => ?_, fun fs off hf => by simp [SOK] at hf⟩
    simp only [SOK] at ht
    split at ht
    · rename_i hu
      obtain ⟨b, rfl, rfl⟩ := DataW.trod_bool hu h
      exact ⟨b, rfl, rfl, trivial⟩
    · cases ht
  | .str => by
    refine ⟨fun t ht fuel cs x h => ?_, fun fs off hf => by simp [SOK] at hf⟩
    simp only [SOK] at ht
    split at ht
    · rename_i hu
      obtain ⟨b, rfl, rfl, hb⟩ := DataW.trod_string hu h
      exact ⟨b, rfl, rfl, hb⟩
    · cases ht
  | .any => ⟨fun t ht => by simp [SOK] at ht, fun fs off hf => by simp [SOK] at hf⟩
  | .sl s => by
    refine ⟨fun t ht fuel cs x h => ?_, fun fs off hf => by simp [SOK] at hf⟩
    simp only [SOK] at ht
    split at ht
    · rename_i e hu
      simp only [Bool.and_eq_true, beq_iff_eq, decide_eq_true_eq] at ht
      obtain ⟨⟨ht, hc⟩, h1⟩ := ht
      have ih := (sok_open s).1 e ht
      rcases DataW.trod_slice hu h with ⟨rfl, rfl⟩ | ⟨a, len, cap, elems, rest, n, _, rfl, rfl, _, hle, hcap, hlen, hel, _, _⟩
      · exact ⟨[], rfl, ⟨_, rfl, .inl ⟨rfl, rfl⟩⟩, Nat.zero_le _, fun x hx => by simp at hx⟩
      · rw [hc] at hel
        obtain ⟨CS, L, l1, l2, l3, l4, l5⟩ := elems_open (n := n) (a := a) ih elems 0 (fun i hi => by rw [Nat.zero_add]; exact hel i (by omega))
        refine ⟨L, l1, ⟨_, rfl, ?_⟩, by rw [l3]; omega, l5⟩
        by_cases h0 : len = 0
        · have : L = [] := List.eq_nil_of_length_eq_zero (by omega)
          subst this; subst h0
          exact .inr (.inl ⟨a, cap, rfl, rfl, hcap⟩)
        · have hsz := RdL.size (fun _ _ => Rd.size s) l2
          have hpos : 0 < CS.length := by rw [hsz, l3, hlen]; exact Nat.mul_pos (by omega) (by omega)
          have hcell := l4 0 _ (List.getElem?_eq_getElem hpos)
          have hspot : a.spot = none := by
            unfold World.cell? at hcell
            split at hcell
            · split at hcell
              · cases hcell
              · rename_i hn; simpa [Addr.add] using hn
            · cases hcell
          obtain ⟨ab, ao, asp⟩ := a
          simp only at hspot
          subst hspot
          refine .inr (.inr ⟨ab, ao, cap, by rw [l3, hlen], by omega, hcap, CS, l2, fun j u hu => ?_⟩)
          have := l4 j u hu
          show W.cell? ⟨ab, ao + j, none⟩ = some u
          rw [← this]
          by_cases hj : j = 0 <;> simp [Addr.add, hj]
    · cases ht
  | .arr m s => by
    refine ⟨fun t ht fuel cs x h => ?_, fun fs off hf => by simp [SOK] at hf⟩
    simp only [SOK] at ht
    split at ht
    · rename_i m' e hu
      simp only [Bool.and_eq_true, beq_iff_eq] at ht
      obtain ⟨⟨⟨rfl, ht⟩, hc⟩, hct⟩ := ht
      have ih := (sok_open s).1 e ht
      obtain ⟨xs, n, _, rfl, hl, hx, he⟩ := DataW.trod_array hu h
      rw [hc] at he
      have hcl : cs.length = xs.length * s.size := by rw [hl, hct, hx]
      obtain ⟨L, l1, l2, l3, l4⟩ := arr_open (m := n) ih xs cs hcl (fun i hi => he i (by omega))
      exact ⟨L, by simp [rdat, hx, l1], ⟨by omega, l2⟩, ⟨by omega, l4⟩⟩
    · cases ht
  | .pair a b => by
    have iha := sok_open a
    have ihb := sok_open b
    constructor
    · intro t ht fuel cs x h
      simp only [SOK] at ht
      split at ht
      · rename_i fs hu
        simp only [Bool.and_eq_true, beq_iff_eq] at ht
        obtain ⟨hc, ht⟩ := ht
        split at ht
        · rename_i f r hfs
          simp only [Bool.and_eq_true, beq_iff_eq] at ht
          obtain ⟨⟨⟨t1, t2⟩, t3⟩, t4⟩ := ht
          obtain ⟨xs, n, _, rfl, hl, hx, he⟩ := DataW.trod_struct hu h
          have := pair_open (off := 0) t1 t2 (iha.1 _ t3) (ihb.2 r _ (by simpa using t4)) n cs xs (by rw [hl, hc]; simp) (by rw [hx, ← hfs]; simp) (fun i g hg => he i g (by rw [← hfs] at hg; simpa using hg))
          simpa using this
        · cases ht
      · cases ht
    · intro fs off hf
      simp only [SOK] at hf
      split at hf
      · rename_i f r
        simp only [Bool.and_eq_true, beq_iff_eq] at hf
        obtain ⟨⟨⟨t1, t2⟩, t3⟩, t4⟩ := hf
        exact pair_open t1 t2 (iha.1 _ t3) (ihb.2 _ _ t4)
      · cases hf
  | .unit => by
    constructor
    · intro t ht fuel cs x h
      simp only [SOK] at ht
      split at ht
      · rename_i fs hu
        simp only [Bool.and_eq_true, beq_iff_eq, List.isEmpty_iff] at ht
        obtain ⟨hc, ht⟩ := ht
        obtain ⟨xs, n, _, rfl, hl, hx, he⟩ := DataW.trod_struct hu h
        have hx0 : xs = [] := List.eq_nil_of_length_eq_zero (by rw [hx, ← Array.length_toList, ht]; rfl)
        subst hx0
        have : cs = [] := List.eq_nil_of_length_eq_zero (by omega)
        subst this
        exact ⟨(), rfl, rfl, trivial⟩
      · cases ht
    · intro fs off hf n cs xs hl hx he
      simp only [SOK, List.isEmpty_iff] at hf
      subst hf
      have : xs = [] := List.eq_nil_of_length_eq_zero (by simpa using hx)
      subst this
      refine ⟨(), rfl, ?_, trivial⟩
      show cs.drop off = []
      rw [List.drop_eq_nil_iff]; simp only [Sh.size] at hl; omega
end
end Go.Eng
