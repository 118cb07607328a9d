/- Texts of this claim, part 7: K2, K3, W1, W2, W3, W4, W5, W6. Conditions: those of the given rows. -/
import Derived.Test.YtklnffdjhoacoaaDoorB6
set_option linter.unusedSimpArgs false
set_option linter.unusedVariables false
namespace Go.Proofs.YtklnffdjhoacoaaDoor
open Go Go.Eng

theorem instG_cut : ∀ (i : Nat) (l : List FD) (n : Nat) {x : FD}, l[i]? = some x → instG n l = instG n (l.take i) ++ (instF (n + i) x ++ instG (n + i + 1) (l.drop (i + 1)))
  | 0, [], n, x, h => by simp at h
  | 0, y :: l, n, x, h => by
    simp at h; subst h
    simp [instG]
  | i + 1, [], n, x, h => by simp at h
  | i + 1, y :: l, n, x, h => by
    have := instG_cut i l (n + 1) (x := x) (by simpa using h)
    simp only [List.take_succ_cons, List.drop_succ_cons, instG]
    rw [this, List.append_assoc, show n + 1 + i = n + (i + 1) by omega]
theorem ce_at {vs : List VD} {ms cs : List ByteArray} {fs : List FD} {k : Nat} {x : FD} (hx : fs[k]? = some x) (j : Int) (e : ID) : ceI vs ms cs fs (((k : Int), j, ()), e, ()) = ciI vs ms cs fs e x.2.1.length := ce_of (d := (((k : Int), j, ()), e, ())) (by simpa using hx)
end Go.Proofs.YtklnffdjhoacoaaDoor
set_option linter.unusedSimpArgs false
set_option linter.unusedVariables false
namespace Go.Proofs.YtklnffdjhoacoaaDoor
open Go Go.Eng

/-- The value that differs by a multiple of 2^32. -/
def wrapS (n : Int) : Int := if n % 4294967296 ≤ 2147483647 then n % 4294967296 else n % 4294967296 - 4294967296
theorem wrapS_rng (n : Int) : -2147483648 ≤ wrapS n ∧ wrapS n ≤ 2147483647 := by
  unfold wrapS; split <;> omega
theorem wrapS_id {n : Int} : wrapS n = n ↔ -2147483648 ≤ n ∧ n ≤ 2147483647 := by
  unfold wrapS
  constructor
  · intro h; split at h <;> omega
  · intro h; split <;> omega
/-- What value.Apply answers. -/
def applyS (f a b : Int) : Int × Int :=
  if f = 1 then (wrapS (wrapS a + wrapS b), 0) else if f = 2 then (wrapS (wrapS a - wrapS b), 0) else if f = 3 then (wrapS (wrapS a * wrapS b), 0)
  else if f = 4 then (wrapS (bitop .and .i64 (wrapS a) (wrapS b)), 0) else if f = 5 then (wrapS (bitop .or .i64 (wrapS a) (wrapS b)), 0) else if f = 6 then (wrapS (bitop .xor .i64 (wrapS a) (wrapS b)), 0)
  else if f = 7 then (if wrapS a = wrapS b then 1 else 0, 0) else if f = 8 then (if wrapS a = wrapS b then 0 else 1, 0) else if f = 9 then (if wrapS a < wrapS b then 1 else 0, 0)
  else if f = 10 then (if wrapS a ≤ wrapS b then 1 else 0, 0) else (0, 8)
theorem applyS_rng (f a b : Int) : -2147483648 ≤ (applyS f a b).1 ∧ (applyS f a b).1 ≤ 2147483647 := by
  unfold applyS
  repeat' split
  all_goals first | exact wrapS_rng _ | (constructor <;> omega)
end Go.Proofs.YtklnffdjhoacoaaDoor
set_option linter.unusedSimpArgs false
set_option linter.unusedVariables false
namespace Go.Proofs.YtklnffdjhoacoaaDoor
open Go Go.Eng

/-! Ids. -/
def depthF : Nat → Int → Int → Int
  | 0, _, _ => -1
  | n + 1, d, id => if id < 8 then d else if 7 ≤ id.tmod 8 then -1 else depthF n (d + 1) (id.tdiv 8 - 1)
def depthI (id : Int) : Int := if id < 0 then -1 else depthF 5 0 id
theorem depthF_rng : ∀ (n : Nat) (d id : Int), 0 ≤ d → depthF n d id = -1 ∨ (d ≤ depthF n d id ∧ depthF n d id < d + n)
  | 0, d, id, h => .inl rfl
  | n + 1, d, id, h => by
    unfold depthF
    split
    · right; omega
    · split
      · exact .inl rfl
      · rcases depthF_rng n (d + 1) (id.tdiv 8 - 1) (by omega) with e | e
        · exact .inl e
        · right; omega
def bndF : Nat → Int
  | 0 => 0
  | n + 1 => 8 * (bndF n + 1)
theorem depthF_lt : ∀ (n : Nat) (d id : Int), 0 ≤ d → 0 ≤ id → 0 ≤ depthF n d id → id < bndF n
  | 0, d, id, h0, h1, h2 => by simp [depthF] at h2
  | n + 1, d, id, h0, h1, h2 => by
    have hp : 0 ≤ bndF n := by
      clear h2
      induction n with
      | zero => simp [bndF]
      | succ n ih => unfold bndF; omega
    unfold depthF at h2
    unfold bndF
    split at h2
    · omega
    · split at h2
      · omega
      · have e : id.tdiv 8 = id / 8 := Int.tdiv_eq_ediv_of_nonneg h1
        rw [e] at h2
        have := depthF_lt n (d + 1) (id / 8 - 1) (by omega) (by omega) h2
        omega
theorem depthI_lt {id : Int} (h : 0 ≤ depthI id) : 0 ≤ id ∧ id < 37448 := by
  unfold depthI at h
  split at h
  · omega
  · have := depthF_lt 5 0 id (by omega) (by omega) h
    simp only [bndF] at this
    omega
def childS (id ch : Int) : Int × Bool := if depthI id < 0 ∨ depthI id = 4 ∨ ch < 0 ∨ 7 ≤ ch then (0, false) else (8 * (id + 1) + ch, true)
def parentS (id : Int) : Int × Bool := if depthI id < 1 then (0, false) else (id.tdiv 8 - 1, true)
def depthM (id : Int) : Int := if depthI id < 0 then 0 else depthI id
/-! Threads. -/
@[reducible] def shT : Sh := .pair (.int .i64) (.pair (.int .i64) (.pair (.int .i64) (.pair (.arr 8 (.int .i64)) (.pair (.int .i64) (.pair (.int .i64) (.pair (.int .i64) (.pair (.int .i64) (.pair (.int .i64) (.pair (.sl (.int .i64)) .unit)))))))))
abbrev TD := Int × Int × Int × List Int × Int × Int × Int × Int × Int × List Int × Unit
def visS (op : Int) : Bool := decide (8 ≤ op ∧ op ≤ 22)
def defS (i : ID) : Int × Bool := if chkI i ≠ 0 ∨ use i.1 0 = false then (0, false) else (i.2.1, true)
def codeF (fs : List FD) (fn : Int) : List ID := (fs.getD fn.toNat (⟨#[]⟩, [], ())).2.1
def atS (fs : List FD) (fn pc : Int) : Option ID := (codeF fs fn)[pc.toNat]?
def atR (fs : List FD) (fn pc : Int) : ID × Bool := match atS fs fn pc with
  | some i => (i, true)
  | none => ((0, 0, 0, 0, 0, 0, 0, 0, ()), false)
/-- The fault of the instruction. -/
def obsS (id ch ph : Int) (hd : List Int) (i : ID) : Int :=
  if ph ≠ 0 then 0 else if i.1 = 18 then (if hasI hd i.2.2.2.2.2.1 = true then 0 else 27) else if i.1 = 16 then (if hasI hd i.2.2.2.2.1 = true then 0 else 27)
  else if i.1 = 21 then (if (childS id ch).2 = true then 0 else 28) else 0
/-- Well-formed threads. -/
def Formed (ms : List ByteArray) (fs : List FD) (bound : Int) : TD → Prop
  | (id, fn, pc, rg, st, ch, ph, su, fa, hd, _) => 0 ≤ depthI id ∧ (0 ≤ fn ∧ fn < fs.length) ∧ (0 ≤ pc ∧ pc ≤ (codeF fs fn).length) ∧ (∀ k < 8, ∀ r, rg[k]? = some r → valS r = true) ∧
    (0 ≤ st ∧ st ≤ bound) ∧ (0 ≤ ch ∧ ch ≤ 7 ∧ (depthI id = 4 → ch = 0)) ∧ SS hd ∧ (∀ m ∈ hd, 0 ≤ m ∧ m < ms.length) ∧
    (ph = 0 ∨ ((ph = 1 ∨ ph = 2) ∧ ∃ i, atS fs fn pc = some i ∧ i.1 = 18 ∧ hasI hd i.2.2.2.2.2.1 = false))
open Classical in
noncomputable def formedB (ms : List ByteArray) (fs : List FD) (bound : Int) (t : TD) : Bool := decide (Formed ms fs bound t)
/-- One local instruction. -/
def locS : TD → ID → TD × Bool
  | (id, fn, pc, rg, st, ch, ph, su, fa, hd, _), (op, a, b, c, obj, n, f, _, _) =>
    if op = 1 then ((id, fn, pc + 1, rg.set a.toNat n, st, ch, ph, su, fa, hd, ()), true)
    else if op = 2 then ((id, fn, pc + 1, rg.set a.toNat (rg.getD b.toNat 0), st, ch, ph, su, fa, hd, ()), true)
    else if op = 3 then ((id, fn, pc + 1, if (applyS f (rg.getD b.toNat 0) (rg.getD c.toNat 0)).2 = 0 then rg.set a.toNat (applyS f (rg.getD b.toNat 0) (rg.getD c.toNat 0)).1 else rg, st, ch, ph, su, fa, hd, ()), true)
    else if op = 4 then ((id, fn, n, rg, st, ch, ph, su, fa, hd, ()), true)
    else if op = 5 then ((id, fn, if rg.getD b.toNat 0 = 0 then pc + 1 else n, rg, st, ch, ph, su, fa, hd, ()), true)
    else if op = 6 ∧ rg.getD b.toNat 0 = 0 then ((id, fn, pc, rg, st, ch, ph, 3, 26, hd, ()), false)
    else if op = 7 then ((id, fn, pc, rg, st, ch, ph, 2, 0, hd, ()), false)
    else ((id, fn, pc + 1, rg, st, ch, ph, su, fa, hd, ()), true)
def endS : TD → Int → Int → TD
  | (id, fn, pc, rg, st, ch, ph, _, _, hd, _), s, f => (id, fn, pc, rg, st, ch, ph, s, f, hd, ())
/-- A round of settling: at an instruction that is not visible, the rest. -/
def topS (fs : List FD) (bound : Int) (t : TD) (rest : ID → TD) : TD := match t with
  | (id, fn, pc, rg, st, ch, ph, su, fa, hd, _) => match atS fs fn pc with
    | none => (id, fn, pc, rg, st, ch, ph, 2, 0, hd, ())
    | some i => if visS i.1 = true then
        (if obsS id ch ph hd i ≠ 0 then (id, fn, pc, rg, st, ch, ph, 3, obsS id ch ph hd i, hd, ()) else if st = bound then (id, fn, pc, rg, st, ch, ph, 4, 0, hd, ()) else (id, fn, pc, rg, st, ch, ph, su, fa, hd, ()))
      else rest i
def stlS (fs : List FD) (bound : Int) : Nat → TD → TD
  | 0, t => topS fs bound t fun _ => endS t 3 29
  | k + 1, t => topS fs bound t fun i => if (locS t i).2 = true then stlS fs bound k (locS t i).1 else (locS t i).1
/-- Valid threads of a valid program. -/
def Vld (ms : List ByteArray) (fs : List FD) (bound : Int) : TD → Prop
  | (id, fn, pc, rg, st, ch, ph, su, fa, hd, u) => Formed ms fs bound (id, fn, pc, rg, st, ch, ph, su, fa, hd, u) ∧
    (((su = 1 ∧ st < bound ∨ su = 4 ∧ 1 ≤ st) ∧ fa = 0 ∧ ∃ i, atS fs fn pc = some i ∧ visS i.1 = true ∧ obsS id ch ph hd i = 0) ∨
     (su = 2 ∧ fa = 0 ∧ ph = 0 ∧ ∀ i, atS fs fn pc = some i → i.1 = 7) ∨
     (su = 3 ∧ ph = 0 ∧ ∃ i, atS fs fn pc = some i ∧ (fa = 26 ∧ i.1 = 6 ∧ rg.getD i.2.2.1.toNat 0 = 0 ∨ fa = 29 ∧ visS i.1 = false ∨ fa ≠ 26 ∧ fa ≠ 29 ∧ fa ≠ 0 ∧ obsS id ch ph hd i = fa)))
open Classical in
noncomputable def vldB (ms : List ByteArray) (fs : List FD) (bound : Int) (t : TD) : Bool := decide (Vld ms fs bound t)

/-! Valid programs. -/
theorem chkI_regs {i : ID} (h : chkI i = 0) : (0 ≤ i.2.1 ∧ i.2.1 < 8) ∧ (0 ≤ i.2.2.1 ∧ i.2.2.1 < 8) ∧ (0 ≤ i.2.2.2.1 ∧ i.2.2.2.1 < 8) ∧ (1 ≤ i.1 ∧ i.1 ≤ 22) := by
  unfold chkI chkS at h
  split at h
  · simp at h
  split at h
  · simp at h
  split at h
  · simp at h
  · rename_i h1 h2 h3
    simp only [regS, knownS] at h1 h3
    simp only [Bool.or_eq_true, Bool.not_eq_true', Bool.and_eq_false_iff, decide_eq_false_iff_not] at h1 h3
    refine ⟨?_, ?_, ?_, ?_⟩ <;> omega
theorem chkI_n {i : ID} (h : chkI i = 0) (h1 : i.1 = 1) : valS i.2.2.2.2.2.1 = true := by
  unfold chkI chkS at h
  repeat' split at h
  all_goals first | (simp at h; done) | skip
  rename_i q1 q2 q3 q4 q5 q6
  simp [h1] at q6
  unfold valS
  simp; omega
theorem inst_in {fs : List FD} {k : Nat} {x : FD} (hx : fs[k]? = some x) {j : Nat} {i : ID} (hj : x.2.1[j]? = some i) : (((k : Int), (j : Int), ()), i, ()) ∈ instL fs := by
  unfold instL
  rw [instG_cut k fs 0 hx]
  refine List.mem_append_right _ (List.mem_append_left _ ?_)
  unfold instF
  rw [List.mem_map]
  refine ⟨(i, j), ?_, by simp⟩
  rw [List.mem_iff_getElem?]
  exact ⟨j, by rw [List.getElem?_zipIdx, hj]; simp⟩
theorem codeF_get {fs : List FD} {fn : Int} (h : 0 ≤ fn ∧ fn < fs.length) : ∃ x, fs[fn.toNat]? = some x ∧ codeF fs fn = x.2.1 := by
  have hl : fn.toNat < fs.length := by omega
  refine ⟨fs[fn.toNat], List.getElem?_eq_getElem hl, ?_⟩
  unfold codeF
  rw [List.getD_eq_getElem?_getD, List.getElem?_eq_getElem hl]; rfl
theorem at_ok {vs : List VD} {ms cs : List ByteArray} {fs : List FD} {ts : List SD} (h : (chkP vs ms cs fs ts).1 = 0) {fn pc : Int} {i : ID} (hf : 0 ≤ fn ∧ fn < fs.length) (hi : atS fs fn pc = some i) : ciI vs ms cs fs i (codeF fs fn).length = 0 := by
  obtain ⟨c1, c2, c3⟩ := chk_zero h
  obtain ⟨x, hx, ex⟩ := codeF_get hf
  unfold atS at hi
  rw [ex] at hi ⊢
  have := cc_all c2 _ (inst_in hx hi)
  rwa [ce_at hx] at this
theorem ci_zero {vs : List VD} {ms cs : List ByteArray} {fs : List FD} {i : ID} {m : Int} (h : ciI vs ms cs fs i m = 0) : chkI i = 0 ∧ (0 ≤ objS vs ms cs fs i.1 → 0 ≤ i.2.2.2.2.1 ∧ i.2.2.2.2.1 < objS vs ms cs fs i.1) ∧ (i.1 = 18 → 0 ≤ i.2.2.2.2.2.1 ∧ i.2.2.2.2.2.1 < ms.length) ∧ (i.1 = 4 ∨ i.1 = 5 → 0 ≤ i.2.2.2.2.2.1 ∧ i.2.2.2.2.2.1 ≤ m) := by
  unfold ciI ciS at h
  split at h
  · rename_i q; exact absurd h q
  split at h
  · cases h
  split at h
  · cases h
  split at h
  · cases h
  · rename_i q1 q2 q3 q4
    refine ⟨Classical.not_not.1 q1, fun h0 => ?_, fun h0 => ?_, fun h0 => ?_⟩
    · omega
    · omega
    · omega
end Go.Proofs.YtklnffdjhoacoaaDoor
set_option linter.unusedSimpArgs false
set_option linter.unusedVariables false
namespace Go.Proofs.YtklnffdjhoacoaaDoor
open Go Go.Eng

theorem regs_set {rg : List Int} {a : Nat} {v : Int} (h : ∀ k < 8, ∀ r, rg[k]? = some r → valS r = true) (hv : valS v = true) : ∀ k < 8, ∀ r, (rg.set a v)[k]? = some r → valS r = true := by
  intro k hk r hr
  rw [List.getElem?_set] at hr
  split at hr
  · split at hr
    · cases hr; exact hv
    · cases hr
  · exact h k hk r hr
theorem regs_get {rg : List Int} {b : Int} (h : ∀ k < 8, ∀ r, rg[k]? = some r → valS r = true) (hb : 0 ≤ b ∧ b < 8) : valS (rg.getD b.toNat 0) = true := by
  rw [List.getD_eq_getElem?_getD]
  cases hq : rg[b.toNat]? with
  | none => rfl
  | some r => exact h _ (by omega) r hq
theorem app_val (f a b : Int) : valS (applyS f a b).1 = true := by
  have := applyS_rng f a b
  unfold valS
  simpa using this
theorem pc_succ {pc : Int} {n : Nat} (h : 0 ≤ pc) (h2 : pc.toNat < n) : 0 ≤ pc + 1 ∧ pc + 1 ≤ (n : Int) := by omega
theorem at_lt {fs : List FD} {fn pc : Int} {i : ID} (h : atS fs fn pc = some i) : pc.toNat < (codeF fs fn).length := (List.getElem?_eq_some_iff.1 h).1
theorem vis_ph {ms : List ByteArray} {fs : List FD} {bound id fn pc st ch ph su fa : Int} {rg hd : List Int} {u : Unit} {i : ID} (h : Formed ms fs bound (id, fn, pc, rg, st, ch, ph, su, fa, hd, u)) (hi : atS fs fn pc = some i) (hv : visS i.1 = false) : ph = 0 := by
  rcases h.2.2.2.2.2.2.2.2 with e | ⟨_, j, hj, h18, _⟩
  · exact e
  · rw [hi] at hj; cases hj
    rw [h18] at hv; cases hv
theorem none_ph {ms : List ByteArray} {fs : List FD} {bound id fn pc st ch ph su fa : Int} {rg hd : List Int} {u : Unit} (h : Formed ms fs bound (id, fn, pc, rg, st, ch, ph, su, fa, hd, u)) (hi : atS fs fn pc = none) : ph = 0 := by
  rcases h.2.2.2.2.2.2.2.2 with e | ⟨_, j, hj, h18, _⟩
  · exact e
  · rw [hi] at hj; cases hj
theorem loc_formed {vs : List VD} {ms cs : List ByteArray} {fs : List FD} {ts : List SD} (hc : (chkP vs ms cs fs ts).1 = 0) {bound : Int} {t : TD} {i : ID} (h : Formed ms fs bound t) (hi : atS fs t.2.1 t.2.2.1 = some i) (hv : visS i.1 = false) : Formed ms fs bound (locS t i).1 := by
  obtain ⟨id, fn, pc, rg, st, ch, ph, su, fa, hd, u⟩ := t
  obtain ⟨op, a, b, c, obj, n, f, ord, u2⟩ := i
  have hi : atS fs fn pc = some (op, a, b, c, obj, n, f, ord, u2) := hi
  have hp := vis_ph h hi hv
  have hlt := at_lt hi
  obtain ⟨h1, h2, h3, h4, h5, h6, h7, h8, h9⟩ := h
  have ok := at_ok hc h2 hi
  obtain ⟨k1, k2, k3, k4⟩ := ci_zero ok
  obtain ⟨r1, r2, r3, r4⟩ := chkI_regs k1
  have k4 : op = 4 ∨ op = 5 → 0 ≤ n ∧ n ≤ ((codeF fs fn).length : Int) := k4
  have hpc := pc_succ h3.1 hlt
  have key : ∀ (pc' : Int) (rg' : List Int) (su' fa' : Int), (0 ≤ pc' ∧ pc' ≤ ((codeF fs fn).length : Int)) → (∀ k < 8, ∀ r, rg'[k]? = some r → valS r = true) → Formed ms fs bound (id, fn, pc', rg', st, ch, ph, su', fa', hd, ()) :=
    fun pc' rg' su' fa' q1 q2 => ⟨h1, h2, q1, q2, h5, h6, h7, h8, .inl hp⟩
  unfold locS
  simp only
  split
  · rename_i e; exact key _ _ _ _ hpc (regs_set h4 (chkI_n k1 e))
  split
  · exact key _ _ _ _ hpc (regs_set h4 (regs_get h4 r2))
  split
  · split
    · exact key _ _ _ _ hpc (regs_set h4 (app_val _ _ _))
    · exact key _ _ _ _ hpc h4
  split
  · rename_i e; exact key _ _ _ _ (k4 (.inl e)) h4
  split
  · rename_i e
    split
    · exact key _ _ _ _ hpc h4
    · exact key _ _ _ _ (k4 (.inr e)) h4
  split
  · exact key _ _ _ _ h3 h4
  split
  · exact key _ _ _ _ h3 h4
  · exact key _ _ _ _ hpc h4
theorem loc_keep (t : TD) (i : ID) : (locS t i).1.1 = t.1 ∧ (locS t i).1.2.1 = t.2.1 ∧ (locS t i).1.2.2.2.2.1 = t.2.2.2.2.1 ∧ (locS t i).1.2.2.2.2.2.1 = t.2.2.2.2.2.1 ∧ (locS t i).1.2.2.2.2.2.2.1 = t.2.2.2.2.2.2.1 ∧ (locS t i).1.2.2.2.2.2.2.2.2.2.1 = t.2.2.2.2.2.2.2.2.2.1 ∧ ((locS t i).2 = true → (locS t i).1.2.2.2.2.2.2.2.1 = t.2.2.2.2.2.2.2.1 ∧ (locS t i).1.2.2.2.2.2.2.2.2.1 = t.2.2.2.2.2.2.2.2.1) := by
  obtain ⟨id, fn, pc, rg, st, ch, ph, su, fa, hd, u⟩ := t
  obtain ⟨op, a, b, c, obj, n, f, ord, u2⟩ := i
  unfold locS
  simp only
  repeat' split
  all_goals simp
theorem obs_cases (id ch ph : Int) (hd : List Int) (i : ID) : obsS id ch ph hd i = 0 ∨ (ph = 0 ∧ (obsS id ch ph hd i = 27 ∨ obsS id ch ph hd i = 28)) := by
  unfold obsS
  repeat' split
  all_goals first | exact .inl rfl | (right; constructor <;> first | omega | simp)
/-- Settled threads are valid: one round. -/
theorem top_vld {ms : List ByteArray} {fs : List FD} {bound : Int} (hb : 1 ≤ bound) {rest : ID → TD} {id fn pc st ch ph : Int} {rg hd : List Int} {u : Unit} (h : Formed ms fs bound (id, fn, pc, rg, st, ch, ph, 1, 0, hd, u))
    (hr : ∀ i, atS fs fn pc = some i → visS i.1 = false → ph = 0 → Vld ms fs bound (rest i)) : Vld ms fs bound (topS fs bound (id, fn, pc, rg, st, ch, ph, 1, 0, hd, u) rest) := by
  unfold topS
  simp only
  split
  · rename_i hi
    exact ⟨h, .inr (.inl ⟨rfl, rfl, none_ph h hi, fun i q => by rw [hi] at q; cases q⟩)⟩
  rename_i i hi
  split
  · rename_i hv
    have ho := obs_cases id ch ph hd i
    split
    · rename_i e
      refine ⟨h, .inr (.inr ⟨rfl, by omega, i, hi, .inr (.inr ⟨by omega, by omega, by omega, rfl⟩)⟩)⟩
    · rename_i e
      have e : obsS id ch ph hd i = 0 := by omega
      have hst := h.2.2.2.2.1
      split
      · exact ⟨h, .inl ⟨.inr ⟨rfl, by omega⟩, rfl, i, hi, hv, e⟩⟩
      · exact ⟨h, .inl ⟨.inl ⟨rfl, by omega⟩, rfl, i, hi, hv, e⟩⟩
  · rename_i hv
    have hv : visS i.1 = false := by simpa using hv
    exact hr i hi hv (vis_ph h hi hv)
/-- Settled threads are valid. -/
theorem stl_vld {vs : List VD} {ms cs : List ByteArray} {fs : List FD} {ts : List SD} (hc : (chkP vs ms cs fs ts).1 = 0) {bound : Int} (hb : 1 ≤ bound) : ∀ (k : Nat) (t : TD), Formed ms fs bound t → t.2.2.2.2.2.2.2.1 = 1 → t.2.2.2.2.2.2.2.2.1 = 0 → Vld ms fs bound (stlS fs bound k t) := by
  intro k
  induction k with
  | zero =>
    rintro ⟨id, fn, pc, rg, st, ch, ph, su, fa, hd, u⟩ h h1 h2
    have h1 : su = 1 := h1
    have h2 : fa = 0 := h2
    subst h1; subst h2
    rw [stlS]
    refine top_vld hb h fun i hi hv hp => ?_
    show Vld ms fs bound (id, fn, pc, rg, st, ch, ph, 3, 29, hd, ())
    exact ⟨h, .inr (.inr ⟨rfl, hp, i, hi, .inr (.inl ⟨rfl, hv⟩)⟩)⟩
  | succ k ih =>
    rintro ⟨id, fn, pc, rg, st, ch, ph, su, fa, hd, u⟩ h h1 h2
    have h1 : su = 1 := h1
    have h2 : fa = 0 := h2
    subst h1; subst h2
    rw [stlS]
    refine top_vld hb h fun i hi hv hp => ?_
    have hf := loc_formed hc (t := (id, fn, pc, rg, st, ch, ph, 1, 0, hd, u)) h hi hv
    have hk := loc_keep (id, fn, pc, rg, st, ch, ph, 1, 0, hd, u) i
    split
    · rename_i e
      exact ih _ hf (hk.2.2.2.2.2.2 e).1 (hk.2.2.2.2.2.2 e).2
    · rename_i e
      obtain ⟨op, a, b, c, obj, n, f, ord, u2⟩ := i
      unfold locS at e ⊢
      simp only at e ⊢
      by_cases n1 : op = 1
      · rw [if_pos n1] at e; exact absurd rfl e
      rw [if_neg n1] at e ⊢
      by_cases n2 : op = 2
      · rw [if_pos n2] at e; exact absurd rfl e
      rw [if_neg n2] at e ⊢
      by_cases n3 : op = 3
      · rw [if_pos n3] at e; exact absurd rfl e
      rw [if_neg n3] at e ⊢
      by_cases n4 : op = 4
      · rw [if_pos n4] at e; exact absurd rfl e
      rw [if_neg n4] at e ⊢
      by_cases n5 : op = 5
      · rw [if_pos n5] at e; exact absurd rfl e
      rw [if_neg n5] at e ⊢
      by_cases n6 : op = 6 ∧ rg.getD b.toNat 0 = 0
      · rw [if_pos n6]
        exact ⟨h, .inr (.inr ⟨rfl, hp, _, hi, .inl ⟨rfl, n6.1, n6.2⟩⟩)⟩
      rw [if_neg n6] at e ⊢
      by_cases n7 : op = 7
      · rw [if_pos n7]
        exact ⟨h, .inr (.inl ⟨rfl, rfl, hp, fun j hj => by rw [hi] at hj; cases hj; exact n7⟩)⟩
      rw [if_neg n7] at e
      exact absurd rfl e
end Go.Proofs.YtklnffdjhoacoaaDoor
set_option linter.unusedSimpArgs false
set_option linter.unusedVariables false
namespace Go.Proofs.YtklnffdjhoacoaaDoor
open Go Go.Eng

def filI (l o : List Int) (b : Bool) : List Int := l.filter fun x => hasI o x == b
def remI (l : List Int) (x : Int) : List Int := filI (makeI l) [x] false
def addI (l : List Int) (x : Int) : List Int := makeI (l ++ [x])
theorem rem_ss (l : List Int) (x : Int) : SS (remI l x) := List.Pairwise.filter _ (make_ss l)
theorem rem_mem {l : List Int} {x y : Int} : y ∈ remI l x ↔ y ∈ l ∧ y ≠ x := by
  unfold remI filI
  rw [List.mem_filter, make_mem]
  have : (hasI [x] y == false) = true ↔ y ≠ x := by
    rw [beq_iff_eq, hasI_false, List.mem_singleton]
  rw [this]
theorem add_mem {l : List Int} {x y : Int} : y ∈ addI l x ↔ y ∈ l ∨ y = x := by
  unfold addI
  rw [make_mem]; simp
def zT : TD := (0, 0, 0, [0, 0, 0, 0, 0, 0, 0, 0], 0, 0, 0, 0, 0, [], ())
/-- The thread after its instruction, before its local steps. -/
def cmpS : TD → ID → Int → TD
  | (id, fn, pc, rg, st, ch, ph, su, fa, hd, _), i, result =>
    if i.1 = 18 then
      (if ph = 0 then (id, fn, pc, if (defS i).2 = true then rg.set (defS i).1.toNat result else rg, st + 1, ch, 1, su, fa, remI hd i.2.2.2.2.2.1, ())
       else if ph = 1 then (id, fn, pc, if (defS i).2 = true then rg.set (defS i).1.toNat result else rg, st + 1, ch, 2, su, fa, hd, ())
       else (id, fn, pc + 1, if (defS i).2 = true then rg.set (defS i).1.toNat result else rg, st + 1, ch, 0, su, fa, addI hd i.2.2.2.2.2.1, ()))
    else (id, fn, pc + 1, if (defS i).2 = true then rg.set (defS i).1.toNat result else rg, st + 1, if i.1 = 21 then ch + 1 else ch, ph, su, fa,
      if i.1 = 15 ∨ (i.1 = 17 ∧ result ≠ 0) then addI hd i.2.2.2.2.1 else if i.1 = 16 then remI hd i.2.2.2.2.1 else hd, ())
theorem obj_mutex {vs : List VD} {ms cs : List ByteArray} {fs : List FD} {op : Int} (h : op = 15 ∨ op = 16 ∨ op = 17) : objS vs ms cs fs op = ms.length := by
  unfold objS
  rw [if_neg (by omega), if_pos h]
theorem run_at {ms : List ByteArray} {fs : List FD} {bound : Int} {t : TD} (h : Vld ms fs bound t) (h1 : t.2.2.2.2.2.2.2.1 = 1) : t.2.2.2.2.2.2.2.2.1 = 0 ∧ t.2.2.2.2.1 < bound ∧ ∃ i, atS fs t.2.1 t.2.2.1 = some i ∧ visS i.1 = true ∧ obsS t.1 t.2.2.2.2.2.1 t.2.2.2.2.2.2.1 t.2.2.2.2.2.2.2.2.2.1 i = 0 := by
  obtain ⟨id, fn, pc, rg, st, ch, ph, su, fa, hd, u⟩ := t
  have h1 : su = 1 := h1
  subst h1
  obtain ⟨hf, q | q | q⟩ := h
  · obtain ⟨q1, q2, i, hi, hv, ho⟩ := q
    rcases q1 with ⟨_, q1⟩ | ⟨q1, _⟩
    · exact ⟨q2, q1, i, hi, hv, ho⟩
    · exact absurd q1 (by decide)
  · exact absurd q.1 (by decide)
  · exact absurd q.1 (by decide)
theorem cmp_formed {vs : List VD} {ms cs : List ByteArray} {fs : List FD} {ts : List SD} (hc : (chkP vs ms cs fs ts).1 = 0) {bound : Int} {t : TD} (h : Vld ms fs bound t) (h1 : t.2.2.2.2.2.2.2.1 = 1) {i : ID} (hi : atS fs t.2.1 t.2.2.1 = some i) {result : Int} (hv : valS result = true) : Formed ms fs bound (cmpS t i result) := by
  obtain ⟨f0, s0, j, hj, vj, oj⟩ := run_at h h1
  rw [hi] at hj; cases hj
  obtain ⟨id, fn, pc, rg, st, ch, ph, su, fa, hd, u⟩ := t
  have hf : Formed ms fs bound (id, fn, pc, rg, st, ch, ph, su, fa, hd, u) := h.1
  have hi : atS fs fn pc = some i := hi
  have s0 : st < bound := s0
  have oj : obsS id ch ph hd i = 0 := oj
  have hlt := at_lt hi
  obtain ⟨a1, a2, a3, a4, a5, a6, a7, a8, a9⟩ := hf
  obtain ⟨k1, k2, k3, k4⟩ := ci_zero (at_ok hc a2 hi)
  have hpc := pc_succ a3.1 hlt
  have hst : 0 ≤ st + 1 ∧ st + 1 ≤ bound := ⟨Int.add_nonneg a5.1 (by decide), s0⟩
  have hrg : ∀ k < 8, ∀ r, (if (defS i).2 = true then rg.set (defS i).1.toNat result else rg)[k]? = some r → valS r = true := by
    split
    · exact regs_set a4 hv
    · exact a4
  have hrem : ∀ x, SS (remI hd x) ∧ ∀ m ∈ remI hd x, 0 ≤ m ∧ m < (ms.length : Int) := fun x => ⟨rem_ss _ _, fun m hm => a8 m (rem_mem.1 hm).1⟩
  have hadd : ∀ x, 0 ≤ x ∧ x < (ms.length : Int) → SS (addI hd x) ∧ ∀ m ∈ addI hd x, 0 ≤ m ∧ m < (ms.length : Int) := fun x hx => ⟨make_ss _, fun m hm => by
    rcases add_mem.1 hm with q | q
    · exact a8 m q
    · subst q; exact hx⟩
  unfold cmpS
  simp only
  split
  · rename_i e
    split
    · rename_i e0
      subst e0
      refine ⟨a1, a2, a3, hrg, hst, a6, (hrem _).1, (hrem _).2, .inr ⟨.inl rfl, i, hi, e, ?_⟩⟩
      rw [hasI_false]
      exact fun q => (rem_mem.1 q).2 rfl
    rename_i n0
    have a10 := a9.resolve_left n0
    split
    · exact ⟨a1, a2, a3, hrg, hst, a6, a7, a8, .inr ⟨.inr rfl, a10.2⟩⟩
    · exact ⟨a1, a2, hpc, hrg, hst, a6, (hadd _ (k3 e)).1, (hadd _ (k3 e)).2, .inl rfl⟩
  · rename_i e
    have e0 : ph = 0 := by
      rcases a9 with q | ⟨_, j, hj, q, _⟩
      · exact q
      · rw [hi] at hj; cases hj; exact absurd q e
    subst e0
    have hch : 0 ≤ (if i.1 = 21 then ch + 1 else ch) ∧ (if i.1 = 21 then ch + 1 else ch) ≤ 7 ∧ (depthI id = 4 → (if i.1 = 21 then ch + 1 else ch) = 0) := by
      split
      · rename_i e21
        have : (childS id ch).2 = true := by
          unfold obsS at oj
          rw [if_neg (by simp), if_neg e, if_neg (by omega), if_pos e21] at oj
          by_cases q : (childS id ch).2 = true
          · exact q
          · rw [if_neg q] at oj; cases oj
        unfold childS at this
        split at this
        · cases this
        · rename_i q; omega
      · exact a6
    refine ⟨a1, a2, hpc, hrg, hst, hch, ?_, ?_, .inl rfl⟩
    · split
      · exact make_ss _
      split
      · exact rem_ss _ _
      · exact a7
    · split
      · rename_i q
        have ho := obj_mutex (vs := vs) (ms := ms) (cs := cs) (fs := fs) (op := i.1) (by omega)
        rw [ho] at k2
        exact (hadd _ (k2 (by omega))).2
      split
      · exact (hrem _).2
      · exact a8
/-- The error of a program and a bound. -/
def stdS (e bound : Int) : Int := if e ≠ 0 then e else if bound < 1 ∨ 32 < bound then 2 else 0
theorem std_zero {e bound : Int} : stdS e bound = 0 ↔ e = 0 ∧ 1 ≤ bound ∧ bound ≤ 32 := by
  unfold stdS
  constructor
  · intro h
    split at h
    · rename_i q; exact absurd h q
    · rename_i q
      split at h
      · cases h
      · omega
  · rintro ⟨h1, h2, h3⟩
    rw [if_neg (by omega), if_neg (by omega)]
def newS (e : Int) (fs : List FD) (bound id fn arg : Int) : TD × Int :=
  if stdS e bound ≠ 0 then (zT, stdS e bound) else if depthI id < 0 then (zT, 2) else if fn < 0 ∨ (fs.length : Int) ≤ fn then (zT, 11) else if valS arg = false then (zT, 2)
  else (stlS fs bound 256 (id, fn, 0, [arg, 0, 0, 0, 0, 0, 0, 0], 0, 0, 0, 1, 0, [], ()), 0)
theorem new_formed (ms : List ByteArray) {fs : List FD} {bound id fn arg : Int} (hb : 1 ≤ bound) (h1 : ¬ depthI id < 0) (h2 : ¬ (fn < 0 ∨ (fs.length : Int) ≤ fn)) (h3 : ¬ valS arg = false) : Formed ms fs bound (id, fn, 0, [arg, 0, 0, 0, 0, 0, 0, 0], 0, 0, 0, 1, 0, [], ()) := by
  refine ⟨by omega, by omega, by omega, fun k hk r hr => ?_, by omega, ⟨by omega, by omega, fun _ => rfl⟩, List.Pairwise.nil, fun m hm => (nomatch hm), .inl rfl⟩
  match k, hr with
  | 0, hr => cases hr; simpa using h3
  | k + 1, hr =>
    have : r = 0 := by
      have := List.mem_of_getElem? (show [(0 : Int), 0, 0, 0, 0, 0, 0][k]? = some r by simpa using hr)
      simpa using this
    rw [this]; rfl
open Classical in
noncomputable def comS (e : Int) (ms : List ByteArray) (fs : List FD) (bound : Int) (t : TD) (result : Int) : TD × Int :=
  if stdS e bound ≠ 0 then (zT, stdS e bound) else if ¬ Vld ms fs bound t then (zT, 1) else if t.2.2.2.2.2.2.2.1 ≠ 1 then (zT, 30) else if valS result = false then (zT, 2)
  else (stlS fs bound 256 (cmpS t (atR fs t.2.1 t.2.2.1).1 result), 0)
end Go.Proofs.YtklnffdjhoacoaaDoor
set_option linter.unusedSimpArgs false
set_option linter.unusedVariables false
set_option maxRecDepth 100000
namespace Go.Proofs.YtklnffdjhoacoaaDoor
open Go Go.Eng

theorem wrap32 (n : Int) : IntKind.i32.wrap (IntKind.u32.wrap n) = wrapS n := by
  simp only [IntKind.wrap, IntKind.bits, IntKind.signed, wrapS]
  simp
  split <;> omega
theorem mul32 {x y : Int} (hx : -2147483648 ≤ x ∧ x ≤ 2147483647) (hy : -2147483648 ≤ y ∧ y ≤ 2147483647) : -9223372036854775808 ≤ x * y ∧ x * y ≤ 9223372036854775807 := by
  have h1 : x.natAbs ≤ 2147483648 := by omega
  have h2 : y.natAbs ≤ 2147483648 := by omega
  have h3 : (x * y).natAbs ≤ 2147483648 * 2147483648 := by rw [Int.natAbs_mul]; exact Nat.mul_le_mul h1 h2
  omega
@[reducible] def ctWrap : CT := { ps := [.int .i64], pre := fun d => True, res := fun d => ([], .one (.c (.v (.int .i64 (wrapS d.1))))) }
@[reducible] def cl30 : List (Nat × CT) := []
@[reducible] def ann30 (n : Int) : Nat → Option (St → Ann) := fun _ => none
set_option maxRecDepth 100000 in
theorem f30_vc (n : Int) :
    InR IntKind.i64 (IntKind.i32.wrap (IntKind.u32.wrap n)) ∧ ([] : List Go.Eng.Res) = [] ∧ Ent.one (SV.c (SC.v (Value.int IntKind.i64 (wrapS n)))) = Ent.one (SV.c (SC.v (Value.int IntKind.i64 (IntKind.i32.wrap (IntKind.u32.wrap n))))) := by
  have := wrapS_rng n
  rw [wrap32]
  exact ⟨InR_i64.2 (by omega), rfl, rfl⟩
set_option maxHeartbeats 2000000 in
set_option maxRecDepth 100000 in
theorem f30_met : Go.Eng.Met Tryd.prog cx0.gd 30 ctWrap :=
  met_of (cx := cx0) (n := 7) (cl := cl30) (by kernel_rfl) tis_ok trivial Tryd.func30 (by kernel_rfl) (by kernel_rfl) rfl (by kernel_rfl) (by kernel_rfl) fun d hd => by
    obtain ⟨n, ⟨⟩⟩ := d
    exact ex_of (ann30 n) (f30_vc n) (by kernel_rfl)
@[reducible] def ctTru : CT := { ps := [.bool], pre := fun d => True, res := fun d => ([], .one (.c (.v (.int .i64 (if d.1 = true then 1 else 0))))) }
@[reducible] def cl69 : List (Nat × CT) := []
@[reducible] def ann69 (b : Bool) : Nat → Option (St → Ann) := fun _ => none
set_option maxRecDepth 100000 in
theorem f69_vc (b : Bool) :
    br b (([] : List Go.Eng.Res) = [] ∧ Ent.one (SV.c (SC.v (Value.int IntKind.i64 (if b = true then (1 : Int) else (0 : Int))))) = Ent.one (SV.c (SC.v (Value.int IntKind.i64 (1 : Int))))) (([] : List Go.Eng.Res) = [] ∧ Ent.one (SV.c (SC.v (Value.int IntKind.i64 (if b = true then (1 : Int) else (0 : Int))))) = Ent.one (SV.c (SC.v (Value.int IntKind.i64 (0 : Int))))) := by
  rw [br_iff]
  cases b <;> simp
set_option maxHeartbeats 2000000 in
set_option maxRecDepth 100000 in
theorem f69_met : Go.Eng.Met Tryd.prog cx0.gd 69 ctTru :=
  met_of (cx := cx0) (n := 4) (cl := cl69) (by kernel_rfl) tis_ok trivial Tryd.func69 (by kernel_rfl) (by kernel_rfl) rfl (by kernel_rfl) (by kernel_rfl) fun d hd => by
    obtain ⟨b, ⟨⟩⟩ := d
    exact ex_of (ann69 b) (f69_vc b) (by kernel_rfl)
@[reducible] def ctApp : CT := { ps := [.int .i64, .int .i64, .int .i64], pre := fun d => True, res := fun d => ([], .tup [.c (.v (.int .i64 (applyS d.1 d.2.1 d.2.2.1).1)), .c (.v (.int .i64 (applyS d.1 d.2.1 d.2.2.1).2))]) }
@[reducible] def cl54 : List (Nat × CT) := [(30, ctWrap), (69, ctTru)]
@[reducible] def ann54 (f : Int) (a : Int) (b : Int) : Nat → Option (St → Ann) := fun _ => none
set_option maxRecDepth 100000 in
theorem f54_vc (f : Int) (a : Int) (b : Int) :
    True ∧ True ∧ br (decide (f = (1 : Int))) (InR IntKind.i64 (wrapS a + wrapS b) ∧ True ∧ ([] : List Go.Eng.Res) = [] ∧ Ent.tup [SV.c (SC.v (Value.int IntKind.i64 (applyS f a b).fst)), SV.c (SC.v (Value.int IntKind.i64 (applyS f a b).snd))] = Ent.tup [SV.c (SC.v (Value.int IntKind.i64 (wrapS (wrapS a + wrapS b)))), SV.c (SC.v (Value.int IntKind.i64 (0 : Int)))]) (br (decide (f = (2 : Int))) (InR IntKind.i64 (wrapS a - wrapS b) ∧ True ∧ ([] : List Go.Eng.Res) = [] ∧ Ent.tup [SV.c (SC.v (Value.int IntKind.i64 (applyS f a b).fst)), SV.c (SC.v (Value.int IntKind.i64 (applyS f a b).snd))] = Ent.tup [SV.c (SC.v (Value.int IntKind.i64 (wrapS (wrapS a - wrapS b)))), SV.c (SC.v (Value.int IntKind.i64 (0 : Int)))]) (br (decide (f = (3 : Int))) (InR IntKind.i64 (wrapS a * wrapS b) ∧ True ∧ ([] : List Go.Eng.Res) = [] ∧ Ent.tup [SV.c (SC.v (Value.int IntKind.i64 (applyS f a b).fst)), SV.c (SC.v (Value.int IntKind.i64 (applyS f a b).snd))] = Ent.tup [SV.c (SC.v (Value.int IntKind.i64 (wrapS (wrapS a * wrapS b)))), SV.c (SC.v (Value.int IntKind.i64 (0 : Int)))]) (br (decide (f = (4 : Int))) (True ∧ ([] : List Go.Eng.Res) = [] ∧ Ent.tup [SV.c (SC.v (Value.int IntKind.i64 (applyS f a b).fst)), SV.c (SC.v (Value.int IntKind.i64 (applyS f a b).snd))] = Ent.tup [SV.c (SC.v (Value.int IntKind.i64 (wrapS (bitop BinOp.and IntKind.i64 (wrapS a) (wrapS b))))), SV.c (SC.v (Value.int IntKind.i64 (0 : Int)))]) (br (decide (f = (5 : Int))) (True ∧ ([] : List Go.Eng.Res) = [] ∧ Ent.tup [SV.c (SC.v (Value.int IntKind.i64 (applyS f a b).fst)), SV.c (SC.v (Value.int IntKind.i64 (applyS f a b).snd))] = Ent.tup [SV.c (SC.v (Value.int IntKind.i64 (wrapS (bitop BinOp.or IntKind.i64 (wrapS a) (wrapS b))))), SV.c (SC.v (Value.int IntKind.i64 (0 : Int)))]) (br (decide (f = (6 : Int))) (True ∧ ([] : List Go.Eng.Res) = [] ∧ Ent.tup [SV.c (SC.v (Value.int IntKind.i64 (applyS f a b).fst)), SV.c (SC.v (Value.int IntKind.i64 (applyS f a b).snd))] = Ent.tup [SV.c (SC.v (Value.int IntKind.i64 (wrapS (bitop BinOp.xor IntKind.i64 (wrapS a) (wrapS b))))), SV.c (SC.v (Value.int IntKind.i64 (0 : Int)))]) (br (decide (f = (7 : Int))) (True ∧ ([] : List Go.Eng.Res) = [] ∧ Ent.tup [SV.c (SC.v (Value.int IntKind.i64 (applyS f a b).fst)), SV.c (SC.v (Value.int IntKind.i64 (applyS f a b).snd))] = Ent.tup [SV.c (SC.v (Value.int IntKind.i64 (if decide (wrapS a = wrapS b) = true then (1 : Int) else (0 : Int)))), SV.c (SC.v (Value.int IntKind.i64 (0 : Int)))]) (br (decide (f = (8 : Int))) (True ∧ ([] : List Go.Eng.Res) = [] ∧ Ent.tup [SV.c (SC.v (Value.int IntKind.i64 (applyS f a b).fst)), SV.c (SC.v (Value.int IntKind.i64 (applyS f a b).snd))] = Ent.tup [SV.c (SC.v (Value.int IntKind.i64 (if (!decide (wrapS a = wrapS b)) = true then (1 : Int) else (0 : Int)))), SV.c (SC.v (Value.int IntKind.i64 (0 : Int)))]) (br (decide (f = (9 : Int))) (True ∧ ([] : List Go.Eng.Res) = [] ∧ Ent.tup [SV.c (SC.v (Value.int IntKind.i64 (applyS f a b).fst)), SV.c (SC.v (Value.int IntKind.i64 (applyS f a b).snd))] = Ent.tup [SV.c (SC.v (Value.int IntKind.i64 (if decide (wrapS a < wrapS b) = true then (1 : Int) else (0 : Int)))), SV.c (SC.v (Value.int IntKind.i64 (0 : Int)))]) (br (decide (f = (10 : Int))) (True ∧ ([] : List Go.Eng.Res) = [] ∧ Ent.tup [SV.c (SC.v (Value.int IntKind.i64 (applyS f a b).fst)), SV.c (SC.v (Value.int IntKind.i64 (applyS f a b).snd))] = Ent.tup [SV.c (SC.v (Value.int IntKind.i64 (if decide (wrapS a ≤ wrapS b) = true then (1 : Int) else (0 : Int)))), SV.c (SC.v (Value.int IntKind.i64 (0 : Int)))]) (([] : List Go.Eng.Res) = [] ∧ Ent.tup [SV.c (SC.v (Value.int IntKind.i64 (applyS f a b).fst)), SV.c (SC.v (Value.int IntKind.i64 (applyS f a b).snd))] = Ent.tup [SV.c (SC.v (Value.int IntKind.i64 (0 : Int))), SV.c (SC.v (Value.int IntKind.i64 (8 : Int)))])))))))))) := by
  have ha := wrapS_rng a
  have hb := wrapS_rng b
  have hm := mul32 ha hb
  unfold applyS
  simp only [br_iff, decide_eq_true_eq, decide_eq_false_iff_not]
  repeat' (first | (refine And.intro ?_ ?_) | (intro _))
  all_goals first | rfl | trivial | exact InR_i64.2 (by omega) | (simp [*]; done) | skip
set_option maxHeartbeats 2000000 in
set_option maxRecDepth 100000 in
theorem f54_met : Go.Eng.Met Tryd.prog cx0.gd 54 ctApp :=
  met_of (cx := cx0) (n := 75) (cl := cl54) (by kernel_rfl) tis_ok ⟨f30_met, f69_met, trivial⟩ Tryd.func54 (by kernel_rfl) (by kernel_rfl) rfl (by kernel_rfl) (by kernel_rfl) fun d hd => by
    obtain ⟨f, a, b, ⟨⟩⟩ := d
    exact ex_of (ann54 f a b) (f54_vc f a b) (by kernel_rfl)
@[reducible] def ctVis : CT := { ps := [.int .i64], pre := fun d => True, res := fun d => ([], vB (visS d.1)) }
@[reducible] def cl42 : List (Nat × CT) := []
@[reducible] def ann42 (op : Int) : Nat → Option (St → Ann) := fun _ => none
set_option maxRecDepth 100000 in
theorem f42_vc (op : Int) :
    ([] : List Go.Eng.Res) = [] ∧ Ent.one (SV.c (SC.v (Value.bool (visS op)))) = Ent.one (SV.c (SC.v (Value.bool (decide ((8 : Int) ≤ op) && decide (op ≤ (22 : Int)))))) := by
  refine ⟨rfl, ?_⟩
  rw [show visS op = (decide (8 ≤ op) && decide (op ≤ 22)) by unfold visS; rw [Bool.eq_iff_iff]; simp]
set_option maxHeartbeats 2000000 in
set_option maxRecDepth 100000 in
theorem f42_met : Go.Eng.Met Tryd.prog cx0.gd 42 ctVis :=
  met_of (cx := cx0) (n := 9) (cl := cl42) (by kernel_rfl) tis_ok trivial Tryd.func42 (by kernel_rfl) (by kernel_rfl) rfl (by kernel_rfl) (by kernel_rfl) fun d hd => by
    obtain ⟨op, ⟨⟩⟩ := d
    exact ex_of (ann42 op) (f42_vc op) (by kernel_rfl)
@[reducible] def ctDef : CT := { ps := [shI], pre := fun d => True, res := fun d => ([], .tup [.c (.v (.int .i64 (defS d.1).1)), .c (.v (.bool (defS d.1).2))]) }
@[reducible] def cl35 : List (Nat × CT) := [(47, ct11)]
@[reducible] def ann35 (op : Int) (a : Int) (b : Int) (c : Int) (obj : Int) (n : Int) (fo : Int) (ord : Int) : Nat → Option (St → Ann) := fun _ => none
set_option maxRecDepth 100000 in
theorem f35_vc (op : Int) (a : Int) (b : Int) (c : Int) (obj : Int) (n : Int) (fo : Int) (ord : Int) :
    True ∧ ((!!decide (chkS op a b c obj n fo ord = (0 : Int))) = true → InR IntKind.i64 (op - (1 : Int))) ∧ ((!!decide (chkS op a b c obj n fo ord = (0 : Int))) = true → (0 : Int) ≤ op - (1 : Int) ∧ op - (1 : Int) < (22 : Int)) ∧ ∀ (d : Sh.str.den × ((Sh.arr (7 : Nat) Sh.bool).pair Sh.unit).den), ((!!decide (chkS op a b c obj n fo ord = (0 : Int))) = true → rowsD[(op - (1 : Int)).toNat]? = some d) → ((!!decide (chkS op a b c obj n fo ord = (0 : Int))) = true → (0 : Int) ≤ (0 : Int) ∧ (0 : Int) < (↑(List.length d.snd.fst) : Int)) ∧ ∀ (d_1 : Bool), ((!!decide (chkS op a b c obj n fo ord = (0 : Int))) = true → d.snd.fst[(0 : Nat)]? = some d_1) → br (!decide (chkS op a b c obj n fo ord = (0 : Int)) || !d_1) (([] : List Go.Eng.Res) = [] ∧ Ent.tup [SV.c (SC.v (Value.int IntKind.i64 (defS (op, a, b, c, obj, n, fo, ord, ())).fst)), SV.c (SC.v (Value.bool (defS (op, a, b, c, obj, n, fo, ord, ())).snd))] = Ent.tup [SV.c (SC.v (Value.int IntKind.i64 (0 : Int))), SV.c (SC.v (Value.bool false))]) (([] : List Go.Eng.Res) = [] ∧ Ent.tup [SV.c (SC.v (Value.int IntKind.i64 (defS (op, a, b, c, obj, n, fo, ord, ())).fst)), SV.c (SC.v (Value.bool (defS (op, a, b, c, obj, n, fo, ord, ())).snd))] = Ent.tup [SV.c (SC.v (Value.int IntKind.i64 a)), SV.c (SC.v (Value.bool true))]) := by
  by_cases h : chkS op a b c obj n fo ord = 0
  · obtain ⟨r1, r2, r3, r4⟩ := chkI_regs (i := (op, a, b, c, obj, n, fo, ord, ())) h
    have r4 : 1 ≤ op ∧ op ≤ 22 := r4
    refine ⟨trivial, fun _ => InR_i64.2 (by omega), fun _ => by omega, fun d hd => ?_⟩
    have hd := hd (by simp [h])
    obtain ⟨nm, us, u⟩ := d
    have hu := rows_use r4 hd
    subst hu
    refine ⟨fun _ => by simp, fun d1 hd1 => ?_⟩
    have hd1 : use op 0 = d1 := by simpa [h] using hd1
    subst hd1
    rw [br_iff]
    have hc : chkI (op, a, b, c, obj, n, fo, ord, ()) = 0 := h
    refine ⟨fun q => ?_, fun q => ?_⟩
    · have q : use op 0 = false := by simpa [h] using q
      have e : defS (op, a, b, c, obj, n, fo, ord, ()) = (0, false) := by unfold defS; rw [if_pos (.inr q)]
      rw [e]; exact ⟨rfl, rfl⟩
    · have q : use op 0 = true := by simpa [h] using q
      have e : defS (op, a, b, c, obj, n, fo, ord, ()) = (a, true) := by unfold defS; rw [if_neg (by rw [hc]; simp [q])]
      rw [e]; exact ⟨rfl, rfl⟩
  · have hc : ¬ chkI (op, a, b, c, obj, n, fo, ord, ()) = 0 := h
    have e : defS (op, a, b, c, obj, n, fo, ord, ()) = (0, false) := by unfold defS; rw [if_pos (.inl hc)]
    rw [e]
    refine ⟨trivial, fun q => by simp [h] at q, fun q => by simp [h] at q, fun d hd => ⟨fun q => by simp [h] at q, fun d1 hd1 => ?_⟩⟩
    rw [br_iff]
    exact ⟨fun _ => ⟨rfl, rfl⟩, fun q => by simp [h] at q⟩
set_option maxHeartbeats 2000000 in
set_option maxRecDepth 100000 in
theorem f35_met : Go.Eng.Met Tryd.prog cx0.gd 35 ctDef :=
  met_of (cx := cx0) (n := 19) (cl := cl35) (by kernel_rfl) tis_ok ⟨f47_met, trivial⟩ Tryd.func35 (by kernel_rfl) (by kernel_rfl) rfl (by kernel_rfl) (by kernel_rfl) fun d hd => by
    obtain ⟨⟨op, a, b, c, obj, n, fo, ord, ⟨⟩⟩, ⟨⟩⟩ := d
    exact ex_of (ann35 op a b c obj n fo ord) (f35_vc op a b c obj n fo ord) (by kernel_rfl)
instance (l : List Int) : Decidable (SS l) := inferInstanceAs (Decidable (l.Pairwise (· < ·)))
def validI (l : List Int) : Bool := decide (SS l)
theorem ss_adj : ∀ {l : List Int}, (∀ j x y, l[j]? = some x → l[j + 1]? = some y → x < y) → SS l
  | [], _ => List.Pairwise.nil
  | [a], _ => by simp [SS]
  | a :: b :: l, h => by
    have ih : SS (b :: l) := ss_adj fun j x y h1 h2 => h (j + 1) x y (by simpa using h1) (by simpa using h2)
    refine List.pairwise_cons.2 ⟨fun z hz => ?_, ih⟩
    have hab := h 0 a b rfl rfl
    rcases List.mem_cons.1 hz with rfl | hz
    · exact hab
    · have := (List.pairwise_cons.1 ih).1 z hz; omega
theorem adj_ss {l : List Int} (h : SS l) {j : Nat} {x y : Int} (h1 : l[j]? = some x) (h2 : l[j + 1]? = some y) : x < y := by
  obtain ⟨a1, a2⟩ := List.getElem?_eq_some_iff.1 h1
  obtain ⟨b1, b2⟩ := List.getElem?_eq_some_iff.1 h2
  have := List.pairwise_iff_getElem.1 h j (j + 1) a1 b1 (by omega)
  omega
@[reducible] def ctV : CT := { ps := [.sl (.int .i64)], pre := fun d => d.1.length ≤ 1000000, res := fun d => ([], vB (validI d.1)) }
@[reducible] def cl45 : List (Nat × CT) := []
@[reducible] def ann45 (l : List Int) : Nat → Option (St → Ann) := fun k => match k with
  | 2 => some fun _ => .inv { α := Nat, slots := fun k => [(3, .c (.v (.int .i64 k)))], res := fun _ => [], inv := fun k => (1 ≤ k ∧ (k ≤ l.length ∨ k = 1)) ∧ ∀ j, j + 1 < k → ∀ x y, l[j]? = some x → l[j + 1]? = some y → x < y, meas := fun k => l.length - k }
  | _ => none
set_option maxRecDepth 100000 in
theorem f45_vc (l : List Int) (hpre : ctV.pre (l, ())) :
    (∃ x, (((1 : Nat) ≤ x ∧ (x ≤ l.length ∨ x = (1 : Nat))) ∧ ∀ (j : Nat), j + (1 : Nat) < x → ∀ (x y : Int), l[j]? = some x → l[j + (1 : Nat)]? = some y → x < y) ∧ (SV.c (SC.v (Value.int IntKind.i64 (1 : Int))) = SV.c (SC.v (Value.int IntKind.i64 (↑x : Int))) ∧ True) ∧ ([] : List (Go.Eng.Gd × Go.Eng.Res)) = []) ∧ ∀ (x : Nat), (((1 : Nat) ≤ x ∧ (x ≤ l.length ∨ x = (1 : Nat))) ∧ ∀ (j : Nat), j + (1 : Nat) < x → ∀ (x y : Int), l[j]? = some x → l[j + (1 : Nat)]? = some y → x < y) → br (decide ((↑x : Int) < (↑l.length : Int))) (InR IntKind.i64 ((↑x : Int) - (1 : Int)) ∧ ((0 : Int) ≤ (↑x : Int) - (1 : Int) ∧ (↑x : Int) - (1 : Int) < (↑l.length : Int)) ∧ ∀ (d : Int), l[((↑x : Int) - (1 : Int)).toNat]? = some d → ((0 : Int) ≤ (↑x : Int) ∧ (↑x : Int) < (↑l.length : Int)) ∧ ∀ (d_1 : Int), l[(↑x : Int).toNat]? = some d_1 → br (decide (d_1 ≤ d)) (([] : List Go.Eng.Res) = [] ∧ Ent.one (SV.c (SC.v (Value.bool (validI l)))) = Ent.one (SV.c (SC.v (Value.bool false)))) (InR IntKind.i64 ((↑x : Int) + (1 : Int)) ∧ ∃ x', (((1 : Nat) ≤ x' ∧ (x' ≤ l.length ∨ x' = (1 : Nat))) ∧ ∀ (j : Nat), j + (1 : Nat) < x' → ∀ (x y : Int), l[j]? = some x → l[j + (1 : Nat)]? = some y → x < y) ∧ (SV.c (SC.v (Value.int IntKind.i64 ((↑x : Int) + (1 : Int)))) = SV.c (SC.v (Value.int IntKind.i64 (↑x' : Int))) ∧ True) ∧ ([] : List (Go.Eng.Gd × Go.Eng.Res)) = [] ∧ l.length - x' < l.length - x)) (([] : List Go.Eng.Res) = [] ∧ Ent.one (SV.c (SC.v (Value.bool (validI l)))) = Ent.one (SV.c (SC.v (Value.bool true)))) := by
  have hp : l.length ≤ 1000000 := hpre
  refine ⟨⟨1, ⟨⟨by omega, .inr rfl⟩, fun j hj => by omega⟩, ⟨rfl, trivial⟩, rfl⟩, fun k hk => br_iff.2 ⟨fun h => ?_, fun h => ?_⟩⟩
  · simp only [decide_eq_true_eq] at h
    have hk1 := hk.1.1
    refine ⟨InR_i64.2 (by omega), by omega, fun d hd => ⟨by omega, fun e he => ?_⟩⟩
    have hd : l[k - 1]? = some d := by rw [← hd]; congr 1; omega
    have he : l[k]? = some e := by simpa using he
    have he' : l[k - 1 + 1]? = some e := by rw [show k - 1 + 1 = k by omega]; exact he
    refine br_iff.2 ⟨fun h2 => ?_, fun h2 => ⟨InR_i64.2 (by omega), k + 1, ⟨⟨by omega, .inl (by omega)⟩, fun j hj x y hx hy => ?_⟩, ⟨by simp, trivial⟩, rfl, by omega⟩⟩
    · simp only [decide_eq_true_eq] at h2
      have : validI l = false := decide_eq_false fun hs => by have := adj_ss hs hd he'; omega
      rw [this]; exact ⟨rfl, rfl⟩
    · simp only [decide_eq_false_iff_not] at h2
      by_cases hjk : j + 1 = k
      · have hj' : j = k - 1 := by omega
        subst hj'
        rw [hd] at hx; rw [he'] at hy; cases hx; cases hy; omega
      · exact hk.2 j (by omega) x y hx hy
  · simp only [decide_eq_false_iff_not] at h
    have : validI l = true := decide_eq_true (ss_adj fun j x y hx hy => hk.2 j (by have := (List.getElem?_eq_some_iff.1 hy).1; omega) x y hx hy)
    rw [this]; exact ⟨rfl, rfl⟩
set_option maxHeartbeats 2000000 in
set_option maxRecDepth 100000 in
theorem f45_met : Go.Eng.Met Tryd.prog cx0.gd 45 ctV :=
  met_of (cx := cx0) (n := 20) (cl := cl45) (by kernel_rfl) tis_ok trivial Tryd.func45 (by kernel_rfl) (by kernel_rfl) rfl (by kernel_rfl) (by kernel_rfl) fun d hd => by
    obtain ⟨l, ⟨⟩⟩ := d
    exact ex_of (ann45 l) (f45_vc l hd) (by kernel_rfl)
@[reducible] def ctFilter : CT := { ps := [.sl (.int .i64), .sl (.int .i64), .bool], pre := fun d => d.1.length ≤ 1000000 ∧ d.2.1.length ≤ 1000000, res := fun d => ([.row 3 (.int .i64) (filI (makeI d.1) d.2.1 d.2.2.1)], .one (.c (.row 0))) }
@[reducible] def cl49 : List (Nat × CT) := [(48, ctSorted), (55, ctCon)]
@[reducible] def ann49 (l : List Int) (o : List Int) (b : Bool) : Nat → Option (St → Ann) := fun k => match k with
  | 3 => some fun _ => .inv { α := Nat, slots := fun k => [(13, .c (.v (.int .i64 k))), (7, .c (.row 1))], res := fun k => [(1, .row 3 (.int .i64) (filI ((makeI l).take k) o b))], inv := fun k => k ≤ (makeI l).length, meas := fun k => (makeI l).length - k, nil := [(7, 3, .int .i64)] }
  | _ => none
set_option maxRecDepth 100000 in
theorem f49_vc (l : List Int) (o : List Int) (b : Bool) (hpre : ctFilter.pre (l, o, b, ())) :
    l.length ≤ (1000000 : Nat) ∧ (∃ x, x ≤ (makeI l).length ∧ (SV.c (SC.v (Value.int IntKind.i64 (0 : Int))) = SV.c (SC.v (Value.int IntKind.i64 (↑x : Int))) ∧ SV.c (SC.row (Nat.succ (0 : Nat))) = SV.c (SC.row (1 : Nat)) ∧ True) ∧ [(([] : Go.Eng.Gd), Res.row (3 : TypeId) I6 (makeI l)), (([] : Go.Eng.Gd), Res.row (3 : TypeId) I6 [])] = [(([] : Go.Eng.Gd), Res.row (3 : TypeId) I6 (makeI l)), (([] : Go.Eng.Gd), Res.row (3 : TypeId) I6 (filI (List.take x (makeI l)) o b))]) ∧ ∀ (x : Nat), x ≤ (makeI l).length → br (decide ((↑x : Int) < (↑(makeI l).length : Int))) (((0 : Int) ≤ (↑x : Int) ∧ (↑x : Int) < (↑(makeI l).length : Int)) ∧ (↑x : Int).toNat < (makeI l).length ∧ ∀ (d : Int), (makeI l)[(↑x : Int).toNat]? = some d → o.length ≤ (4611686018427387904 : Nat) ∧ br (hasI o d == b) (InA (List.length (filI (List.take x (makeI l)) o b) + List.length ([d])) (8 : Nat) ∧ InR IntKind.i64 ((↑x : Int) + (1 : Int)) ∧ ∃ x', x' ≤ (makeI l).length ∧ (SV.c (SC.v (Value.int IntKind.i64 ((↑x : Int) + (1 : Int)))) = SV.c (SC.v (Value.int IntKind.i64 (↑x' : Int))) ∧ SV.c (SC.row (1 : Nat)) = SV.c (SC.row (1 : Nat)) ∧ True) ∧ [(([] : Go.Eng.Gd), Res.row (3 : TypeId) I6 (makeI l)), (([] : Go.Eng.Gd), Res.row (3 : TypeId) I6 (filI (List.take x (makeI l)) o b ++ [d]))] = [(([] : Go.Eng.Gd), Res.row (3 : TypeId) I6 (makeI l)), (([] : Go.Eng.Gd), Res.row (3 : TypeId) I6 (filI (List.take x' (makeI l)) o b))] ∧ (makeI l).length - x' < (makeI l).length - x) (InR IntKind.i64 ((↑x : Int) + (1 : Int)) ∧ ∃ x', x' ≤ (makeI l).length ∧ (SV.c (SC.v (Value.int IntKind.i64 ((↑x : Int) + (1 : Int)))) = SV.c (SC.v (Value.int IntKind.i64 (↑x' : Int))) ∧ SV.c (SC.row (1 : Nat)) = SV.c (SC.row (1 : Nat)) ∧ True) ∧ [(([] : Go.Eng.Gd), Res.row (3 : TypeId) I6 (makeI l)), (([] : Go.Eng.Gd), Res.row (3 : TypeId) I6 (filI (List.take x (makeI l)) o b))] = [(([] : Go.Eng.Gd), Res.row (3 : TypeId) I6 (makeI l)), (([] : Go.Eng.Gd), Res.row (3 : TypeId) I6 (filI (List.take x' (makeI l)) o b))] ∧ (makeI l).length - x' < (makeI l).length - x)) ([Res.row (3 : TypeId) I6 (filI (makeI l) o b)] = [Res.row (3 : TypeId) I6 (filI (List.take x (makeI l)) o b)] ∧ Ent.one (SV.c (SC.row (0 : Nat))) = Ent.one (SV.c (SC.row (0 : Nat)))) := by
  have hp : l.length ≤ 1000000 ∧ o.length ≤ 1000000 := hpre
  have hm := make_len l
  have hf : ∀ k, (filI ((makeI l).take k) o b).length ≤ 1000000 := fun k => by
    refine Nat.le_trans (List.length_filter_le _ _) ?_
    rw [List.length_take]; omega
  refine ⟨hp.1, ⟨0, by omega, ⟨rfl, rfl, trivial⟩, by simp [filI]⟩, fun k hk => br_iff.2 ⟨fun h => ?_, fun h => ?_⟩⟩
  · simp only [decide_eq_true_eq] at h
    refine ⟨⟨by omega, h⟩, by omega, fun d hd => ?_⟩
    have hd : (makeI l)[k]? = some d := by simpa using hd
    have e : filI ((makeI l).take (k + 1)) o b = filI ((makeI l).take k) o b ++ (if hasI o d == b then [d] else []) := by
      unfold filI
      rw [List.take_add_one, hd, Option.toList_some, List.filter_append]
      congr 1
      simp only [List.filter_cons, List.filter_nil]
    refine ⟨by omega, br_iff.2 ⟨fun h2 => ⟨?_, InR_i64.2 (by omega), k + 1, by omega, ⟨by simp, rfl, trivial⟩, ?_, by omega⟩, fun h2 => ⟨InR_i64.2 (by omega), k + 1, by omega, ⟨by simp, rfl, trivial⟩, ?_, by omega⟩⟩⟩
    · have := hf k
      rw [InA_iff]; simp; omega
    · rw [e, h2]; rfl
    · rw [e, h2]; simp
  · simp only [decide_eq_false_iff_not] at h
    rw [List.take_of_length_le (by omega)]; exact ⟨rfl, rfl⟩
set_option maxHeartbeats 2000000 in
set_option maxRecDepth 100000 in
theorem f49_met : Go.Eng.Met Tryd.prog cx0.gd 49 ctFilter :=
  met_of (cx := cx0) (n := 28) (cl := cl49) (by kernel_rfl) tis_ok ⟨f48_met, f55_met, trivial⟩ Tryd.func49 (by kernel_rfl) (by kernel_rfl) rfl (by kernel_rfl) (by kernel_rfl) fun d hd => by
    obtain ⟨l, o, b, ⟨⟩⟩ := d
    exact ex_of (ann49 l o b) (f49_vc l o b hd) (by kernel_rfl)
@[reducible] def ctRem : CT := { ps := [.sl (.int .i64), .int .i64], pre := fun d => d.1.length ≤ 1000000, res := fun d => ([.row 3 (.int .i64) (filI (makeI d.1) [d.2.1] false)], .one (.c (.row 0))) }
@[reducible] def cl38 : List (Nat × CT) := [(49, ctFilter)]
@[reducible] def ann38 (l : List Int) (x : Int) : Nat → Option (St → Ann) := fun _ => none
set_option maxRecDepth 100000 in
theorem f38_vc (l : List Int) (x : Int) (hpre : ctRem.pre (l, x, ())) :
    (l.length ≤ (1000000 : Nat) ∧ [x].length ≤ (1000000 : Nat)) ∧ [Res.row (3 : TypeId) I6 (filI (makeI l) [x] false)] = [Res.row (3 : TypeId) I6 (filI (makeI l) [x] false)] ∧ Ent.one (SV.c (SC.row (0 : Nat))) = Ent.one (SV.c (SC.row (0 : Nat))) := by
  have hp : l.length ≤ 1000000 := hpre
  exact ⟨⟨hp, by simp⟩, rfl, rfl⟩
set_option maxHeartbeats 2000000 in
set_option maxRecDepth 100000 in
theorem f38_met : Go.Eng.Met Tryd.prog cx0.gd 38 ctRem :=
  met_of (cx := cx0) (n := 9) (cl := cl38) (by kernel_rfl) tis_ok ⟨f49_met, trivial⟩ Tryd.func38 (by kernel_rfl) (by kernel_rfl) rfl (by kernel_rfl) (by kernel_rfl) fun d hd => by
    obtain ⟨l, x, ⟨⟩⟩ := d
    exact ex_of (ann38 l x) (f38_vc l x hd) (by kernel_rfl)
end Go.Proofs.YtklnffdjhoacoaaDoor
set_option linter.unusedSimpArgs false
set_option linter.unusedVariables false
set_option maxRecDepth 100000
namespace Go.Proofs.YtklnffdjhoacoaaDoor
open Go Go.Eng

@[reducible] def ctSpl : CT := { ps := [.int .i64], pre := fun d => 0 ≤ d.1 ∧ d.1 ≤ 9223372036854775807, res := fun d => ([], .tup [.c (.v (.int .i64 (d.1.tdiv 8 - 1))), .c (.v (.int .i64 (d.1.tmod 8)))]) }
@[reducible] def cl23 : List (Nat × CT) := []
@[reducible] def ann23 (id : Int) : Nat → Option (St → Ann) := fun _ => none
set_option maxRecDepth 100000 in
theorem f23_vc (id : Int) (hpre : ctSpl.pre (id, ())) :
    (8 : Int) ≠ (0 : Int) ∧ InR IntKind.i64 (id.tdiv (8 : Int)) ∧ InR IntKind.i64 (id.tdiv (8 : Int) - (1 : Int)) ∧ (8 : Int) ≠ (0 : Int) ∧ ([] : List Go.Eng.Res) = [] ∧ Ent.tup [SV.c (SC.v (Value.int IntKind.i64 (id.tdiv (8 : Int) - (1 : Int)))), SV.c (SC.v (Value.int IntKind.i64 (id.tmod (8 : Int))))] = Ent.tup [SV.c (SC.v (Value.int IntKind.i64 (id.tdiv (8 : Int) - (1 : Int)))), SV.c (SC.v (Value.int IntKind.i64 (id.tmod (8 : Int))))] := by
  have hp : 0 ≤ id ∧ id ≤ 9223372036854775807 := hpre
  have e : id.tdiv 8 = id / 8 := Int.tdiv_eq_ediv_of_nonneg hp.1
  exact ⟨by decide, InR_i64.2 (by omega), InR_i64.2 (by omega), by decide, rfl, rfl⟩
set_option maxHeartbeats 2000000 in
set_option maxRecDepth 100000 in
theorem f23_met : Go.Eng.Met Tryd.prog cx0.gd 23 ctSpl :=
  met_of (cx := cx0) (n := 9) (cl := cl23) (by kernel_rfl) tis_ok trivial Tryd.func23 (by kernel_rfl) (by kernel_rfl) rfl (by kernel_rfl) (by kernel_rfl) fun d hd => by
    obtain ⟨id, ⟨⟩⟩ := d
    exact ex_of (ann23 id) (f23_vc id hd) (by kernel_rfl)
@[reducible] def ctDep : CT := { ps := [.int .i64], pre := fun d => d.1 ≤ 9223372036854775807, res := fun d => ([], .one (.c (.v (.int .i64 (depthI d.1))))) }
@[reducible] def cl22 : List (Nat × CT) := [(23, ctSpl)]
@[reducible] def ann22 (id : Int) : Nat → Option (St → Ann) := fun k => match k with
  | 4 => some fun _ => .inv { α := Nat × Int, slots := fun x => [(8, .c (.v (.int .i64 x.1))), (0, .c (.v (.int .i64 x.2)))], res := fun _ => [], inv := fun x => x.1 ≤ 5 ∧ 0 ≤ x.2 ∧ x.2 ≤ 9223372036854775807 ∧ depthF (5 - x.1) x.1 x.2 = depthI id, meas := fun x => 5 - x.1 }
  | _ => none
set_option maxRecDepth 100000 in
theorem f22_vc (id : Int) (hpre : ctDep.pre (id, ())) :
    br (decide (id < (0 : Int))) (([] : List Go.Eng.Res) = [] ∧ Ent.one (SV.c (SC.v (Value.int IntKind.i64 (depthI id)))) = Ent.one (SV.c (SC.v (Value.int IntKind.i64 (-1 : Int))))) ((∃ (x : Nat × Int), (x.fst ≤ (5 : Nat) ∧ (0 : Int) ≤ x.snd ∧ x.snd ≤ (9223372036854775807 : Int) ∧ depthF ((5 : Nat) - x.fst) (↑x.fst : Int) x.snd = depthI id) ∧ (SV.c (SC.v (Value.int IntKind.i64 (0 : Int))) = SV.c (SC.v (Value.int IntKind.i64 (↑x.fst : Int))) ∧ SV.c (SC.v (Value.int IntKind.i64 id)) = SV.c (SC.v (Value.int IntKind.i64 x.snd)) ∧ True) ∧ ([] : List (Go.Eng.Gd × Go.Eng.Res)) = []) ∧ ∀ (x : Nat × Int), x.fst ≤ (5 : Nat) ∧ (0 : Int) ≤ x.snd ∧ x.snd ≤ (9223372036854775807 : Int) ∧ depthF ((5 : Nat) - x.fst) (↑x.fst : Int) x.snd = depthI id → br (decide ((↑x.fst : Int) < (5 : Int))) (br (decide (x.snd < (8 : Int))) (([] : List Go.Eng.Res) = [] ∧ Ent.one (SV.c (SC.v (Value.int IntKind.i64 (depthI id)))) = Ent.one (SV.c (SC.v (Value.int IntKind.i64 (↑x.fst : Int))))) (((0 : I6.den) ≤ x.snd ∧ x.snd ≤ (9223372036854775807 : I6.den)) ∧ br (decide ((7 : Int) ≤ x.snd.tmod (8 : Int))) (([] : List Go.Eng.Res) = [] ∧ Ent.one (SV.c (SC.v (Value.int IntKind.i64 (depthI id)))) = Ent.one (SV.c (SC.v (Value.int IntKind.i64 (-1 : Int))))) (InR IntKind.i64 ((↑x.fst : Int) + (1 : Int)) ∧ ∃ (x' : Nat × Int), (x'.fst ≤ (5 : Nat) ∧ (0 : Int) ≤ x'.snd ∧ x'.snd ≤ (9223372036854775807 : Int) ∧ depthF ((5 : Nat) - x'.fst) (↑x'.fst : Int) x'.snd = depthI id) ∧ (SV.c (SC.v (Value.int IntKind.i64 ((↑x.fst : Int) + (1 : Int)))) = SV.c (SC.v (Value.int IntKind.i64 (↑x'.fst : Int))) ∧ SV.c (SC.v (Value.int IntKind.i64 (x.snd.tdiv (8 : Int) - (1 : Int)))) = SV.c (SC.v (Value.int IntKind.i64 x'.snd)) ∧ True) ∧ ([] : List (Go.Eng.Gd × Go.Eng.Res)) = [] ∧ (5 : Nat) - x'.fst < (5 : Nat) - x.fst))) (([] : List Go.Eng.Res) = [] ∧ Ent.one (SV.c (SC.v (Value.int IntKind.i64 (depthI id)))) = Ent.one (SV.c (SC.v (Value.int IntKind.i64 (-1 : Int)))))) := by
  have hp : id ≤ 9223372036854775807 := hpre
  refine br_iff.2 ⟨fun h => ?_, fun h => ?_⟩
  · simp only [decide_eq_true_eq] at h
    have e : depthI id = -1 := by unfold depthI; rw [if_pos h]
    rw [e]; exact ⟨rfl, rfl⟩
  simp only [decide_eq_false_iff_not] at h
  refine ⟨⟨(0, id), ⟨by omega, by simp only; omega, hp, by unfold depthI; rw [if_neg h]; rfl⟩, ⟨rfl, rfl, trivial⟩, rfl⟩, fun x hx => br_iff.2 ⟨fun h2 => ?_, fun h2 => ?_⟩⟩
  · obtain ⟨x1, x2, x3, x4⟩ := hx
    simp only [decide_eq_true_eq] at h2
    obtain ⟨m, hm⟩ : ∃ m, 5 - x.1 = m + 1 := ⟨4 - x.1, by omega⟩
    rw [hm, depthF] at x4
    refine br_iff.2 ⟨fun h3 => ?_, fun h3 => ⟨⟨x2, x3⟩, br_iff.2 ⟨fun h4 => ?_, fun h4 => ?_⟩⟩⟩
    · simp only [decide_eq_true_eq] at h3
      rw [if_pos h3] at x4
      rw [← x4]; exact ⟨rfl, rfl⟩
    · simp only [decide_eq_true_eq, decide_eq_false_iff_not] at h3 h4
      rw [if_neg h3, if_pos h4] at x4
      rw [← x4]; exact ⟨rfl, rfl⟩
    · simp only [decide_eq_false_iff_not] at h3 h4
      rw [if_neg h3, if_neg h4] at x4
      have e : x.2.tdiv 8 = x.2 / 8 := Int.tdiv_eq_ediv_of_nonneg x2
      refine ⟨InR_i64.2 (by omega), (x.1 + 1, x.2.tdiv 8 - 1), ⟨by simp only; omega, by simp only; omega, by simp only; omega, ?_⟩, ⟨rfl, rfl, trivial⟩, rfl, by simp only; omega⟩
      rw [← x4, show 5 - (x.1 + 1) = m by omega]; rfl
  · obtain ⟨x1, x2, x3, x4⟩ := hx
    simp only [decide_eq_false_iff_not] at h2
    rw [show 5 - x.1 = 0 by omega] at x4
    rw [← x4]; exact ⟨rfl, rfl⟩
set_option maxHeartbeats 2000000 in
set_option maxRecDepth 100000 in
theorem f22_met : Go.Eng.Met Tryd.prog cx0.gd 22 ctDep :=
  met_of (cx := cx0) (n := 23) (cl := cl22) (by kernel_rfl) tis_ok ⟨f23_met, trivial⟩ Tryd.func22 (by kernel_rfl) (by kernel_rfl) rfl (by kernel_rfl) (by kernel_rfl) fun d hd => by
    obtain ⟨id, ⟨⟩⟩ := d
    exact ex_of (ann22 id) (f22_vc id hd) (by kernel_rfl)
@[reducible] def ctDpt : CT := { ps := [.int .i64], pre := fun d => d.1 ≤ 9223372036854775807, res := fun d => ([], .one (.c (.v (.int .i64 (depthM d.1))))) }
@[reducible] def cl8 : List (Nat × CT) := [(22, ctDep)]
@[reducible] def ann8 (id : Int) : Nat → Option (St → Ann) := fun _ => none
set_option maxRecDepth 100000 in
theorem f8_vc (id : Int) (hpre : ctDpt.pre (id, ())) :
    id ≤ (9223372036854775807 : I6.den) ∧ ([] : List Go.Eng.Res) = [] ∧ Ent.one (SV.c (SC.v (Value.int IntKind.i64 (depthM id)))) = Ent.one (SV.c (SC.v (Value.int IntKind.i64 (maxI (depthI id) (0 : Int))))) := by
  refine ⟨hpre, rfl, ?_⟩
  have e : depthM id = maxI (depthI id) 0 := by unfold depthM maxI; split <;> first | rfl | omega | (split <;> omega)
  rw [e]
set_option maxHeartbeats 2000000 in
set_option maxRecDepth 100000 in
theorem f8_met : Go.Eng.Met Tryd.prog cx0.gd 8 ctDpt :=
  met_of (cx := cx0) (n := 6) (cl := cl8) (by kernel_rfl) tis_ok ⟨f22_met, trivial⟩ Tryd.func8 (by kernel_rfl) (by kernel_rfl) rfl (by kernel_rfl) (by kernel_rfl) fun d hd => by
    obtain ⟨id, ⟨⟩⟩ := d
    exact ex_of (ann8 id) (f8_vc id hd) (by kernel_rfl)
@[reducible] def ctPar : CT := { ps := [.int .i64], pre := fun d => d.1 ≤ 9223372036854775807, res := fun d => ([], .tup [.c (.v (.int .i64 (parentS d.1).1)), .c (.v (.bool (parentS d.1).2))]) }
@[reducible] def cl7 : List (Nat × CT) := [(22, ctDep), (23, ctSpl)]
@[reducible] def ann7 (id : Int) : Nat → Option (St → Ann) := fun _ => none
set_option maxRecDepth 100000 in
theorem f7_vc (id : Int) (hpre : ctPar.pre (id, ())) :
    id ≤ (9223372036854775807 : I6.den) ∧ br (decide (depthI id < (1 : Int))) (([] : List Go.Eng.Res) = [] ∧ Ent.tup [SV.c (SC.v (Value.int IntKind.i64 (parentS id).fst)), SV.c (SC.v (Value.bool (parentS id).snd))] = Ent.tup [SV.c (SC.v (Value.int IntKind.i64 (0 : Int))), SV.c (SC.v (Value.bool false))]) (((0 : I6.den) ≤ id ∧ id ≤ (9223372036854775807 : I6.den)) ∧ ([] : List Go.Eng.Res) = [] ∧ Ent.tup [SV.c (SC.v (Value.int IntKind.i64 (parentS id).fst)), SV.c (SC.v (Value.bool (parentS id).snd))] = Ent.tup [SV.c (SC.v (Value.int IntKind.i64 (id.tdiv (8 : Int) - (1 : Int)))), SV.c (SC.v (Value.bool true))]) := by
  have hp : id ≤ 9223372036854775807 := hpre
  refine ⟨hp, br_iff.2 ⟨fun h => ?_, fun h => ?_⟩⟩
  · simp only [decide_eq_true_eq] at h
    have e : parentS id = (0, false) := by unfold parentS; rw [if_pos h]
    rw [e]; exact ⟨rfl, rfl⟩
  · simp only [decide_eq_false_iff_not] at h
    have e : parentS id = (id.tdiv 8 - 1, true) := by unfold parentS; rw [if_neg h]
    have := depthI_lt (id := id) (by omega)
    rw [e]; exact ⟨⟨this.1, hp⟩, rfl, rfl⟩
set_option maxHeartbeats 2000000 in
set_option maxRecDepth 100000 in
theorem f7_met : Go.Eng.Met Tryd.prog cx0.gd 7 ctPar :=
  met_of (cx := cx0) (n := 15) (cl := cl7) (by kernel_rfl) tis_ok ⟨f22_met, f23_met, trivial⟩ Tryd.func7 (by kernel_rfl) (by kernel_rfl) rfl (by kernel_rfl) (by kernel_rfl) fun d hd => by
    obtain ⟨id, ⟨⟩⟩ := d
    exact ex_of (ann7 id) (f7_vc id hd) (by kernel_rfl)
@[reducible] def ctChi : CT := { ps := [shT], pre := fun d => d.1.1 ≤ 9223372036854775807, res := fun d => ([], .tup [.c (.v (.int .i64 (childS d.1.1 d.1.2.2.2.2.2.1).1)), .c (.v (.bool (childS d.1.1 d.1.2.2.2.2.2.1).2))]) }
@[reducible] def cl6 : List (Nat × CT) := [(22, ctDep)]
@[reducible] def ann6 (id : Int) (fn : Int) (pc : Int) (rg : List Int) (st : Int) (ch : Int) (ph : Int) (su : Int) (fa : Int) (he : List Int) : Nat → Option (St → Ann) := fun _ => none
set_option maxRecDepth 100000 in
theorem f6_vc (id : Int) (fn : Int) (pc : Int) (rg : List Int) (st : Int) (ch : Int) (ph : Int) (su : Int) (fa : Int) (he : List Int) (hpre : ctChi.pre ((id, fn, pc, rg, st, ch, ph, su, fa, he, ()), ())) :
    id ≤ (9223372036854775807 : I6.den) ∧ br (decide (depthI id < (0 : Int)) || decide (depthI id = (4 : Int)) || decide (ch < (0 : Int)) || decide ((7 : Int) ≤ ch)) (([] : List Go.Eng.Res) = [] ∧ Ent.tup [SV.c (SC.v (Value.int IntKind.i64 (childS id ch).fst)), SV.c (SC.v (Value.bool (childS id ch).snd))] = Ent.tup [SV.c (SC.v (Value.int IntKind.i64 (0 : Int))), SV.c (SC.v (Value.bool false))]) (InR IntKind.i64 (id + (1 : Int)) ∧ InR IntKind.i64 ((8 : Int) * (id + (1 : Int))) ∧ InR IntKind.i64 ((8 : Int) * (id + (1 : Int)) + ch) ∧ ([] : List Go.Eng.Res) = [] ∧ Ent.tup [SV.c (SC.v (Value.int IntKind.i64 (childS id ch).fst)), SV.c (SC.v (Value.bool (childS id ch).snd))] = Ent.tup [SV.c (SC.v (Value.int IntKind.i64 ((8 : Int) * (id + (1 : Int)) + ch))), SV.c (SC.v (Value.bool true))]) := by
  refine ⟨hpre, br_iff.2 ⟨fun h => ?_, fun h => ?_⟩⟩
  · have e : childS id ch = (0, false) := by
      unfold childS
      rw [if_pos (by simpa [or_assoc] using h)]
    rw [e]; exact ⟨rfl, rfl⟩
  · simp only [Bool.or_eq_false_iff, decide_eq_false_iff_not] at h
    have e : childS id ch = (8 * (id + 1) + ch, true) := by
      unfold childS
      rw [if_neg (by omega)]
    have := depthI_lt (id := id) (by omega)
    rw [e]
    exact ⟨InR_i64.2 (by omega), InR_i64.2 (by omega), InR_i64.2 (by omega), rfl, rfl⟩
set_option maxHeartbeats 2000000 in
set_option maxRecDepth 100000 in
theorem f6_met : Go.Eng.Met Tryd.prog cx0.gd 6 ctChi :=
  met_of (cx := cx0) (n := 31) (cl := cl6) (by kernel_rfl) tis_ok ⟨f22_met, trivial⟩ Tryd.func6 (by kernel_rfl) (by kernel_rfl) rfl (by kernel_rfl) (by kernel_rfl) fun d hd => by
    obtain ⟨⟨id, fn, pc, rg, st, ch, ph, su, fa, he, ⟨⟩⟩, ⟨⟩⟩ := d
    exact ex_of (ann6 id fn pc rg st ch ph su fa he) (f6_vc id fn pc rg st ch ph su fa he hd) (by kernel_rfl)
@[reducible] def ctAt : CT := { ps := [shP, shT], pre := fun d => 0 ≤ d.2.1.2.1 ∧ d.2.1.2.1 < d.1.2.2.2.1.length ∧ 0 ≤ d.2.1.2.2.1, res := fun d => ([], .tup [.agg [.v (.int .i64 ((atR d.1.2.2.2.1 d.2.1.2.1 d.2.1.2.2.1).1).1), .v (.int .i64 ((atR d.1.2.2.2.1 d.2.1.2.1 d.2.1.2.2.1).1).2.1), .v (.int .i64 ((atR d.1.2.2.2.1 d.2.1.2.1 d.2.1.2.2.1).1).2.2.1), .v (.int .i64 ((atR d.1.2.2.2.1 d.2.1.2.1 d.2.1.2.2.1).1).2.2.2.1), .v (.int .i64 ((atR d.1.2.2.2.1 d.2.1.2.1 d.2.1.2.2.1).1).2.2.2.2.1), .v (.int .i64 ((atR d.1.2.2.2.1 d.2.1.2.1 d.2.1.2.2.1).1).2.2.2.2.2.1), .v (.int .i64 ((atR d.1.2.2.2.1 d.2.1.2.1 d.2.1.2.2.1).1).2.2.2.2.2.2.1), .v (.int .i64 ((atR d.1.2.2.2.1 d.2.1.2.1 d.2.1.2.2.1).1).2.2.2.2.2.2.2.1)], .c (.v (.bool (atR d.1.2.2.2.1 d.2.1.2.1 d.2.1.2.2.1).2))]) }
@[reducible] def cl34 : List (Nat × CT) := []
@[reducible] def ann34 (vs : List VD) (ms : List ByteArray) (cs : List ByteArray) (fs : List FD) (ts : List SD) (id : Int) (fn : Int) (pc : Int) (rg : List Int) (st : Int) (ch : Int) (ph : Int) (su : Int) (fa : Int) (he : List Int) : Nat → Option (St → Ann) := fun _ => none
@[reducible] def il34 : List (Nat × IP) := []
@[reducible] def hl34 : List (Nat × Nat × CT) := []
@[reducible] def ml34 : List (Nat × MK) := []
set_option maxRecDepth 100000 in
theorem f34_vc (vs : List VD) (ms : List ByteArray) (cs : List ByteArray) (fs : List FD) (ts : List SD) (id : Int) (fn : Int) (pc : Int) (rg : List Int) (st : Int) (ch : Int) (ph : Int) (su : Int) (fa : Int) (he : List Int) (hpre : ctAt.pre ((vs, ms, cs, fs, ts, ()), (id, fn, pc, rg, st, ch, ph, su, fa, he, ()), ())) :
    ((0 : Int) ≤ fn ∧ fn < (↑fs.length : Int)) ∧ ∀ (d : Sh.str.den × (shI.sl.pair Sh.unit).den), fs[fn.toNat]? = some d → br (decide ((↑(List.length d.snd.fst) : Int) ≤ pc)) (([] : List Go.Eng.Res) = [] ∧ Ent.tup [SV.agg [SC.v (Value.int IntKind.i64 (atR fs fn pc).fst.fst), SC.v (Value.int IntKind.i64 (atR fs fn pc).fst.snd.fst), SC.v (Value.int IntKind.i64 (atR fs fn pc).fst.snd.snd.fst), SC.v (Value.int IntKind.i64 (atR fs fn pc).fst.snd.snd.snd.fst), SC.v (Value.int IntKind.i64 (atR fs fn pc).fst.snd.snd.snd.snd.fst), SC.v (Value.int IntKind.i64 (atR fs fn pc).fst.snd.snd.snd.snd.snd.fst), SC.v (Value.int IntKind.i64 (atR fs fn pc).fst.snd.snd.snd.snd.snd.snd.fst), SC.v (Value.int IntKind.i64 (atR fs fn pc).fst.snd.snd.snd.snd.snd.snd.snd.fst)], SV.c (SC.v (Value.bool (atR fs fn pc).snd))] = Ent.tup [SV.agg [SC.v (Value.int IntKind.i64 (0 : Int)), SC.v (Value.int IntKind.i64 (0 : Int)), SC.v (Value.int IntKind.i64 (0 : Int)), SC.v (Value.int IntKind.i64 (0 : Int)), SC.v (Value.int IntKind.i64 (0 : Int)), SC.v (Value.int IntKind.i64 (0 : Int)), SC.v (Value.int IntKind.i64 (0 : Int)), SC.v (Value.int IntKind.i64 (0 : Int))], SV.c (SC.v (Value.bool false))]) (((0 : Int) ≤ pc ∧ pc < (↑(List.length d.snd.fst) : Int)) ∧ ∀ (d_1 : I6.den × (I6.pair (I6.pair (I6.pair (I6.pair (I6.pair (I6.pair (I6.pair Sh.unit))))))).den), d.snd.fst[pc.toNat]? = some d_1 → ([] : List Go.Eng.Res) = [] ∧ Ent.tup [SV.agg [SC.v (Value.int IntKind.i64 (atR fs fn pc).fst.fst), SC.v (Value.int IntKind.i64 (atR fs fn pc).fst.snd.fst), SC.v (Value.int IntKind.i64 (atR fs fn pc).fst.snd.snd.fst), SC.v (Value.int IntKind.i64 (atR fs fn pc).fst.snd.snd.snd.fst), SC.v (Value.int IntKind.i64 (atR fs fn pc).fst.snd.snd.snd.snd.fst), SC.v (Value.int IntKind.i64 (atR fs fn pc).fst.snd.snd.snd.snd.snd.fst), SC.v (Value.int IntKind.i64 (atR fs fn pc).fst.snd.snd.snd.snd.snd.snd.fst), SC.v (Value.int IntKind.i64 (atR fs fn pc).fst.snd.snd.snd.snd.snd.snd.snd.fst)], SV.c (SC.v (Value.bool (atR fs fn pc).snd))] = Ent.tup [SV.agg [SC.v (Value.int IntKind.i64 d_1.fst), SC.v (Value.int IntKind.i64 d_1.snd.fst), SC.v (Value.int IntKind.i64 d_1.snd.snd.fst), SC.v (Value.int IntKind.i64 d_1.snd.snd.snd.fst), SC.v (Value.int IntKind.i64 d_1.snd.snd.snd.snd.fst), SC.v (Value.int IntKind.i64 d_1.snd.snd.snd.snd.snd.fst), SC.v (Value.int IntKind.i64 d_1.snd.snd.snd.snd.snd.snd.fst), SC.v (Value.int IntKind.i64 d_1.snd.snd.snd.snd.snd.snd.snd.fst)], SV.c (SC.v (Value.bool true))]) := by
  obtain ⟨h1, h2, h3⟩ : 0 ≤ fn ∧ fn < (fs.length : Int) ∧ 0 ≤ pc := hpre
  refine ⟨⟨h1, h2⟩, fun x hx => ?_⟩
  obtain ⟨y, hy, ey⟩ := codeF_get ⟨h1, h2⟩
  rw [hx] at hy; cases hy
  refine br_iff.2 ⟨fun h => ?_, fun h => ?_⟩
  · simp only [decide_eq_true_eq] at h
    have e : atR fs fn pc = ((0, 0, 0, 0, 0, 0, 0, 0, ()), false) := by
      unfold atR atS
      rw [ey, List.getElem?_eq_none (by omega)]
    rw [e]; exact ⟨rfl, rfl⟩
  · simp only [decide_eq_false_iff_not] at h
    refine ⟨⟨h3, by omega⟩, fun i hi => ?_⟩
    have e : atR fs fn pc = (i, true) := by
      unfold atR atS
      rw [ey, hi]
    rw [e]; exact ⟨rfl, rfl⟩
set_option maxHeartbeats 2000000 in
set_option maxRecDepth 100000 in
theorem f34_met : Go.Eng.Met Tryd.prog cx0.gd 34 ctAt :=
  (met_all (cx := cx0) (n := 25) (cl := cl34) (il := il34) (hl := hl34) (ml := ml34) (rc := []) (lits := []) (suf := []) (by kernel_rfl) tis_ok trivial trivial trivial trivial Tryd.func34 (by kernel_rfl) (by kernel_rfl) rfl (by kernel_rfl) (by kernel_rfl) (by simp) fun d hd => by
    obtain ⟨⟨vs, ms, cs, fs, ts, ⟨⟩⟩, ⟨id, fn, pc, rg, st, ch, ph, su, fa, he, ⟨⟩⟩, ⟨⟩⟩ := d
    exact ex_of (ann34 vs ms cs fs ts id fn pc rg st ch ph su fa he) (f34_vc vs ms cs fs ts id fn pc rg st ch ph su fa he hd) (by kernel_rfl)).met
@[reducible] def ctEnd : CT := { ps := [shT, .int .i64, .int .i64], pre := fun d => True, res := fun d => ([], .one (.dat shT (endS d.1 d.2.1 d.2.2.1))) }
@[reducible] def cl41 : List (Nat × CT) := []
@[reducible] def ann41 (id : Int) (fn : Int) (pc : Int) (rg : List Int) (st : Int) (ch : Int) (ph : Int) (su : Int) (fa : Int) (he : List Int) (s : Int) (f : Int) : Nat → Option (St → Ann) := fun _ => none
@[reducible] def il41 : List (Nat × IP) := []
@[reducible] def hl41 : List (Nat × Nat × CT) := []
@[reducible] def ml41 : List (Nat × MK) := []
set_option maxRecDepth 100000 in
theorem f41_vc (id : Int) (fn : Int) (pc : Int) (rg : List Int) (st : Int) (ch : Int) (ph : Int) (su : Int) (fa : Int) (he : List Int) (s : Int) (f : Int) :
    ([] : List Go.Eng.Res) = [] ∧ Ent.one (SV.dat shT (endS (id, fn, pc, rg, st, ch, ph, su, fa, he, ()) s f)) = Ent.one (SV.dat shT ((id, fn, pc, rg, st, ch, ph, s, f, he, ()))) := by
  exact ⟨rfl, rfl⟩
set_option maxHeartbeats 2000000 in
set_option maxRecDepth 100000 in
theorem f41_met : Go.Eng.Met Tryd.prog cx0.gd 41 ctEnd :=
  (met_all (cx := cx0) (n := 12) (cl := cl41) (il := il41) (hl := hl41) (ml := ml41) (rc := [.data shT]) (lits := []) (suf := []) (by kernel_rfl) tis_ok trivial trivial trivial trivial Tryd.func41 (by kernel_rfl) (by kernel_rfl) rfl (by kernel_rfl) (by kernel_rfl) (by simp) fun d hd => by
    obtain ⟨⟨id, fn, pc, rg, st, ch, ph, su, fa, he, ⟨⟩⟩, s, f, ⟨⟩⟩ := d
    exact ex_of (ann41 id fn pc rg st ch ph su fa he s f) (f41_vc id fn pc rg st ch ph su fa he s f) (by kernel_rfl)).met
@[reducible] def ctObs : CT := { ps := [shT, shI], pre := fun d => d.1.2.2.2.2.2.2.2.2.2.1.length ≤ 1000000 ∧ d.1.1 ≤ 9223372036854775807, res := fun d => ([], .one (.c (.v (.int .i64 (obsS d.1.1 d.1.2.2.2.2.2.1 d.1.2.2.2.2.2.2.1 d.1.2.2.2.2.2.2.2.2.2.1 d.2.1))))) }
@[reducible] def cl43 : List (Nat × CT) := [(46, ctHas), (6, ctChi)]
@[reducible] def ann43 (id : Int) (fn : Int) (pc : Int) (rg : List Int) (st : Int) (ch : Int) (ph : Int) (su : Int) (fa : Int) (he : List Int) (op : Int) (a : Int) (b : Int) (c : Int) (obj : Int) (n : Int) (fo : Int) (ord : Int) : Nat → Option (St → Ann) := fun _ => none
set_option maxRecDepth 100000 in
theorem f43_vc (id : Int) (fn : Int) (pc : Int) (rg : List Int) (st : Int) (ch : Int) (ph : Int) (su : Int) (fa : Int) (he : List Int) (op : Int) (a : Int) (b : Int) (c : Int) (obj : Int) (n : Int) (fo : Int) (ord : Int) (hpre : ctObs.pre ((id, fn, pc, rg, st, ch, ph, su, fa, he, ()), (op, a, b, c, obj, n, fo, ord, ()), ())) :
    br (!decide (ph = (0 : Int))) (([] : List Go.Eng.Res) = [] ∧ Ent.one (SV.c (SC.v (Value.int IntKind.i64 (obsS id ch ph he (op, a, b, c, obj, n, fo, ord, ()))))) = Ent.one (SV.c (SC.v (Value.int IntKind.i64 (0 : Int))))) (br (decide (op = (18 : Int))) (he.length ≤ (1000000 : Nat) ∧ br (!hasI he n) (([] : List Go.Eng.Res) = [] ∧ Ent.one (SV.c (SC.v (Value.int IntKind.i64 (obsS id ch ph he (op, a, b, c, obj, n, fo, ord, ()))))) = Ent.one (SV.c (SC.v (Value.int IntKind.i64 (27 : Int))))) (([] : List Go.Eng.Res) = [] ∧ Ent.one (SV.c (SC.v (Value.int IntKind.i64 (obsS id ch ph he (op, a, b, c, obj, n, fo, ord, ()))))) = Ent.one (SV.c (SC.v (Value.int IntKind.i64 (0 : Int)))))) (br (decide (op = (16 : Int))) (he.length ≤ (1000000 : Nat) ∧ br (!hasI he obj) (([] : List Go.Eng.Res) = [] ∧ Ent.one (SV.c (SC.v (Value.int IntKind.i64 (obsS id ch ph he (op, a, b, c, obj, n, fo, ord, ()))))) = Ent.one (SV.c (SC.v (Value.int IntKind.i64 (27 : Int))))) (([] : List Go.Eng.Res) = [] ∧ Ent.one (SV.c (SC.v (Value.int IntKind.i64 (obsS id ch ph he (op, a, b, c, obj, n, fo, ord, ()))))) = Ent.one (SV.c (SC.v (Value.int IntKind.i64 (0 : Int)))))) (br (decide (op = (21 : Int))) (id ≤ (9223372036854775807 : I6.den) ∧ br (!(childS id ch).snd) (([] : List Go.Eng.Res) = [] ∧ Ent.one (SV.c (SC.v (Value.int IntKind.i64 (obsS id ch ph he (op, a, b, c, obj, n, fo, ord, ()))))) = Ent.one (SV.c (SC.v (Value.int IntKind.i64 (28 : Int))))) (([] : List Go.Eng.Res) = [] ∧ Ent.one (SV.c (SC.v (Value.int IntKind.i64 (obsS id ch ph he (op, a, b, c, obj, n, fo, ord, ()))))) = Ent.one (SV.c (SC.v (Value.int IntKind.i64 (0 : Int)))))) (([] : List Go.Eng.Res) = [] ∧ Ent.one (SV.c (SC.v (Value.int IntKind.i64 (obsS id ch ph he (op, a, b, c, obj, n, fo, ord, ()))))) = Ent.one (SV.c (SC.v (Value.int IntKind.i64 (0 : Int)))))))) := by
  obtain ⟨h1, h2⟩ : he.length ≤ 1000000 ∧ id ≤ 9223372036854775807 := hpre
  unfold obsS
  simp only [br_iff]
  repeat' (first | exact h1 | exact h2 | (refine And.intro ?_ ?_) | (intro _))
  all_goals first | rfl | (simp_all; done)
set_option maxHeartbeats 2000000 in
set_option maxRecDepth 100000 in
theorem f43_met : Go.Eng.Met Tryd.prog cx0.gd 43 ctObs :=
  met_of (cx := cx0) (n := 35) (cl := cl43) (by kernel_rfl) tis_ok ⟨f46_met, f6_met, trivial⟩ Tryd.func43 (by kernel_rfl) (by kernel_rfl) rfl (by kernel_rfl) (by kernel_rfl) fun d hd => by
    obtain ⟨⟨id, fn, pc, rg, st, ch, ph, su, fa, he, ⟨⟩⟩, ⟨op, a, b, c, obj, n, fo, ord, ⟨⟩⟩, ⟨⟩⟩ := d
    exact ex_of (ann43 id fn pc rg st ch ph su fa he op a b c obj n fo ord) (f43_vc id fn pc rg st ch ph su fa he op a b c obj n fo ord hd) (by kernel_rfl)
end Go.Proofs.YtklnffdjhoacoaaDoor
set_option linter.unusedSimpArgs false
set_option linter.unusedVariables false
set_option maxRecDepth 100000
namespace Go.Proofs.YtklnffdjhoacoaaDoor
open Go Go.Eng

theorem br_dec {c : Prop} [Decidable c] {A B : Prop} : br (decide c) A B ↔ (c → A) ∧ (¬ c → B) := by
  rw [br_iff, decide_eq_true_eq, decide_eq_false_iff_not]
@[reducible] def ctLoc : CT := { ps := [shT, shI], pre := fun d => (0 ≤ d.2.1.2.1 ∧ d.2.1.2.1 < 8) ∧ (0 ≤ d.2.1.2.2.1 ∧ d.2.1.2.2.1 < 8) ∧ (0 ≤ d.2.1.2.2.2.1 ∧ d.2.1.2.2.2.1 < 8) ∧ 0 ≤ d.1.2.2.1 ∧ d.1.2.2.1 ≤ 1000000, res := fun d => ([], .tup [.dat shT (locS d.1 d.2.1).1, .c (.v (.bool (locS d.1 d.2.1).2))]) }
@[reducible] def cl44 : List (Nat × CT) := [(54, ctApp), (41, ctEnd)]
@[reducible] def ann44 (id : Int) (fn : Int) (pc : Int) (rg : List Int) (st : Int) (ch : Int) (ph : Int) (su : Int) (fa : Int) (he : List Int) (op : Int) (a : Int) (b : Int) (c : Int) (obj : Int) (n : Int) (fo : Int) (ord : Int) : Nat → Option (St → Ann) := fun _ => none
@[reducible] def il44 : List (Nat × IP) := []
@[reducible] def hl44 : List (Nat × Nat × CT) := []
@[reducible] def ml44 : List (Nat × MK) := []
set_option maxRecDepth 100000 in
theorem f44_vc (id : Int) (fn : Int) (pc : Int) (rg : List Int) (st : Int) (ch : Int) (ph : Int) (su : Int) (fa : Int) (he : List Int) (op : Int) (a : Int) (b : Int) (c : Int) (obj : Int) (n : Int) (fo : Int) (ord : Int) (hpre : ctLoc.pre ((id, fn, pc, rg, st, ch, ph, su, fa, he, ()), (op, a, b, c, obj, n, fo, ord, ()), ())) :
    InR IntKind.i64 (pc + (1 : Int)) ∧ br (decide (op = (1 : Int))) (((0 : Int) ≤ a ∧ a < (8 : Int)) ∧ a.toNat < (8 : Nat) ∧ ([] : List Go.Eng.Res) = [] ∧ Ent.tup [SV.dat shT (locS (id, fn, pc, rg, st, ch, ph, su, fa, he, ()) (op, a, b, c, obj, n, fo, ord, ())).fst, SV.c (SC.v (Value.bool (locS (id, fn, pc, rg, st, ch, ph, su, fa, he, ()) (op, a, b, c, obj, n, fo, ord, ())).snd))] = Ent.tup [SV.dat shT ((id, fn, pc + (1 : Int), rg.set a.toNat n, st, ch, ph, su, fa, he, ())), SV.c (SC.v (Value.bool true))]) (br (decide (op = (2 : Int))) (((0 : Int) ≤ b ∧ b < (8 : Int)) ∧ b.toNat < (8 : Nat) ∧ ∀ (d : Int), rg[b.toNat]? = some d → ((0 : Int) ≤ a ∧ a < (8 : Int)) ∧ a.toNat < (8 : Nat) ∧ ([] : List Go.Eng.Res) = [] ∧ Ent.tup [SV.dat shT (locS (id, fn, pc, rg, st, ch, ph, su, fa, he, ()) (op, a, b, c, obj, n, fo, ord, ())).fst, SV.c (SC.v (Value.bool (locS (id, fn, pc, rg, st, ch, ph, su, fa, he, ()) (op, a, b, c, obj, n, fo, ord, ())).snd))] = Ent.tup [SV.dat shT ((id, fn, pc + (1 : Int), rg.set a.toNat d, st, ch, ph, su, fa, he, ())), SV.c (SC.v (Value.bool true))]) (br (decide (op = (3 : Int))) (((0 : Int) ≤ b ∧ b < (8 : Int)) ∧ b.toNat < (8 : Nat) ∧ ∀ (d : Int), rg[b.toNat]? = some d → ((0 : Int) ≤ c ∧ c < (8 : Int)) ∧ c.toNat < (8 : Nat) ∧ ∀ (d_1 : Int), rg[c.toNat]? = some d_1 → True ∧ br (decide ((applyS fo d d_1).snd = (0 : Int))) (((0 : Int) ≤ a ∧ a < (8 : Int)) ∧ a.toNat < (8 : Nat) ∧ ([] : List Go.Eng.Res) = [] ∧ Ent.tup [SV.dat shT (locS (id, fn, pc, rg, st, ch, ph, su, fa, he, ()) (op, a, b, c, obj, n, fo, ord, ())).fst, SV.c (SC.v (Value.bool (locS (id, fn, pc, rg, st, ch, ph, su, fa, he, ()) (op, a, b, c, obj, n, fo, ord, ())).snd))] = Ent.tup [SV.dat shT ((id, fn, pc + (1 : Int), rg.set a.toNat (applyS fo d d_1).fst, st, ch, ph, su, fa, he, ())), SV.c (SC.v (Value.bool true))]) (([] : List Go.Eng.Res) = [] ∧ Ent.tup [SV.dat shT (locS (id, fn, pc, rg, st, ch, ph, su, fa, he, ()) (op, a, b, c, obj, n, fo, ord, ())).fst, SV.c (SC.v (Value.bool (locS (id, fn, pc, rg, st, ch, ph, su, fa, he, ()) (op, a, b, c, obj, n, fo, ord, ())).snd))] = Ent.tup [SV.dat shT ((id, fn, pc + (1 : Int), rg, st, ch, ph, su, fa, he, ())), SV.c (SC.v (Value.bool true))])) (br (decide (op = (5 : Int))) (((0 : Int) ≤ b ∧ b < (8 : Int)) ∧ b.toNat < (8 : Nat) ∧ ∀ (d : Int), rg[b.toNat]? = some d → br (decide (d = (0 : Int))) (([] : List Go.Eng.Res) = [] ∧ Ent.tup [SV.dat shT (locS (id, fn, pc, rg, st, ch, ph, su, fa, he, ()) (op, a, b, c, obj, n, fo, ord, ())).fst, SV.c (SC.v (Value.bool (locS (id, fn, pc, rg, st, ch, ph, su, fa, he, ()) (op, a, b, c, obj, n, fo, ord, ())).snd))] = Ent.tup [SV.dat shT ((id, fn, pc + (1 : Int), rg, st, ch, ph, su, fa, he, ())), SV.c (SC.v (Value.bool true))]) (([] : List Go.Eng.Res) = [] ∧ Ent.tup [SV.dat shT (locS (id, fn, pc, rg, st, ch, ph, su, fa, he, ()) (op, a, b, c, obj, n, fo, ord, ())).fst, SV.c (SC.v (Value.bool (locS (id, fn, pc, rg, st, ch, ph, su, fa, he, ()) (op, a, b, c, obj, n, fo, ord, ())).snd))] = Ent.tup [SV.dat shT ((id, fn, n, rg, st, ch, ph, su, fa, he, ())), SV.c (SC.v (Value.bool true))])) (br (decide (op = (4 : Int))) (([] : List Go.Eng.Res) = [] ∧ Ent.tup [SV.dat shT (locS (id, fn, pc, rg, st, ch, ph, su, fa, he, ()) (op, a, b, c, obj, n, fo, ord, ())).fst, SV.c (SC.v (Value.bool (locS (id, fn, pc, rg, st, ch, ph, su, fa, he, ()) (op, a, b, c, obj, n, fo, ord, ())).snd))] = Ent.tup [SV.dat shT ((id, fn, n, rg, st, ch, ph, su, fa, he, ())), SV.c (SC.v (Value.bool true))]) (br (decide (op = (6 : Int))) (((0 : Int) ≤ b ∧ b < (8 : Int)) ∧ b.toNat < (8 : Nat) ∧ ∀ (d : Int), rg[b.toNat]? = some d → br (decide (d = (0 : Int))) (True ∧ ([] : List Go.Eng.Res) = [] ∧ Ent.tup [SV.dat shT (locS (id, fn, pc, rg, st, ch, ph, su, fa, he, ()) (op, a, b, c, obj, n, fo, ord, ())).fst, SV.c (SC.v (Value.bool (locS (id, fn, pc, rg, st, ch, ph, su, fa, he, ()) (op, a, b, c, obj, n, fo, ord, ())).snd))] = Ent.tup [SV.dat shT (endS (id, fn, pc, rg, st, ch, ph, su, fa, he, ()) (3 : Int) (26 : Int)), SV.c (SC.v (Value.bool false))]) (([] : List Go.Eng.Res) = [] ∧ Ent.tup [SV.dat shT (locS (id, fn, pc, rg, st, ch, ph, su, fa, he, ()) (op, a, b, c, obj, n, fo, ord, ())).fst, SV.c (SC.v (Value.bool (locS (id, fn, pc, rg, st, ch, ph, su, fa, he, ()) (op, a, b, c, obj, n, fo, ord, ())).snd))] = Ent.tup [SV.dat shT ((id, fn, pc + (1 : Int), rg, st, ch, ph, su, fa, he, ())), SV.c (SC.v (Value.bool true))])) (br (decide (op = (7 : Int))) (True ∧ ([] : List Go.Eng.Res) = [] ∧ Ent.tup [SV.dat shT (locS (id, fn, pc, rg, st, ch, ph, su, fa, he, ()) (op, a, b, c, obj, n, fo, ord, ())).fst, SV.c (SC.v (Value.bool (locS (id, fn, pc, rg, st, ch, ph, su, fa, he, ()) (op, a, b, c, obj, n, fo, ord, ())).snd))] = Ent.tup [SV.dat shT (endS (id, fn, pc, rg, st, ch, ph, su, fa, he, ()) (2 : Int) (0 : Int)), SV.c (SC.v (Value.bool false))]) (([] : List Go.Eng.Res) = [] ∧ Ent.tup [SV.dat shT (locS (id, fn, pc, rg, st, ch, ph, su, fa, he, ()) (op, a, b, c, obj, n, fo, ord, ())).fst, SV.c (SC.v (Value.bool (locS (id, fn, pc, rg, st, ch, ph, su, fa, he, ()) (op, a, b, c, obj, n, fo, ord, ())).snd))] = Ent.tup [SV.dat shT ((id, fn, pc + (1 : Int), rg, st, ch, ph, su, fa, he, ())), SV.c (SC.v (Value.bool true))]))))))) := by
  obtain ⟨hA, hB, hC, hp0, hp1⟩ : (0 ≤ a ∧ a < 8) ∧ (0 ≤ b ∧ b < 8) ∧ (0 ≤ c ∧ c < 8) ∧ 0 ≤ pc ∧ pc ≤ 1000000 := hpre
  have hA8 : a.toNat < 8 := by omega
  have hB8 : b.toNat < 8 := by omega
  have hC8 : c.toNat < 8 := by omega
  have gd : ∀ {x d : Int}, rg[x.toNat]? = some d → rg.getD x.toNat 0 = d := fun hd => by rw [List.getD_eq_getElem?_getD, hd]; rfl
  refine ⟨InR_i64.2 (by omega), br_dec.2 ⟨fun h => ?_, fun h => br_dec.2 ⟨fun h2 => ?_, fun h2 => br_dec.2 ⟨fun h3 => ?_, fun h3 => br_dec.2 ⟨fun h4 => ?_, fun h4 => br_dec.2 ⟨fun h5 => ?_, fun h5 => br_dec.2 ⟨fun h6 => ?_, fun h6 => br_dec.2 ⟨fun h7 => ?_, fun h7 => ?_⟩⟩⟩⟩⟩⟩⟩⟩
  · have e : locS (id, fn, pc, rg, st, ch, ph, su, fa, he, ()) (op, a, b, c, obj, n, fo, ord, ()) = ((id, fn, pc + 1, rg.set a.toNat n, st, ch, ph, su, fa, he, ()), true) := by simp only [locS, if_pos h]
    rw [e]; exact ⟨hA, hA8, rfl, rfl⟩
  · refine ⟨hB, hB8, fun d hd => ?_⟩
    have e : locS (id, fn, pc, rg, st, ch, ph, su, fa, he, ()) (op, a, b, c, obj, n, fo, ord, ()) = ((id, fn, pc + 1, rg.set a.toNat d, st, ch, ph, su, fa, he, ()), true) := by simp only [locS, if_neg h, if_pos h2, gd hd]
    rw [e]; exact ⟨hA, hA8, rfl, rfl⟩
  · refine ⟨hB, hB8, fun d hd => ⟨hC, hC8, fun d1 hd1 => ⟨trivial, br_dec.2 ⟨fun h8 => ?_, fun h8 => ?_⟩⟩⟩⟩
    · have e : locS (id, fn, pc, rg, st, ch, ph, su, fa, he, ()) (op, a, b, c, obj, n, fo, ord, ()) = ((id, fn, pc + 1, rg.set a.toNat (applyS fo d d1).1, st, ch, ph, su, fa, he, ()), true) := by simp only [locS, if_neg h, if_neg h2, if_pos h3, gd hd, gd hd1, if_pos h8]
      rw [e]; exact ⟨hA, hA8, rfl, rfl⟩
    · have e : locS (id, fn, pc, rg, st, ch, ph, su, fa, he, ()) (op, a, b, c, obj, n, fo, ord, ()) = ((id, fn, pc + 1, rg, st, ch, ph, su, fa, he, ()), true) := by simp only [locS, if_neg h, if_neg h2, if_pos h3, gd hd, gd hd1, if_neg h8]
      rw [e]; exact ⟨rfl, rfl⟩
  · have h45 : ¬ op = 4 := by omega
    refine ⟨hB, hB8, fun d hd => br_dec.2 ⟨fun h8 => ?_, fun h8 => ?_⟩⟩
    · have e : locS (id, fn, pc, rg, st, ch, ph, su, fa, he, ()) (op, a, b, c, obj, n, fo, ord, ()) = ((id, fn, pc + 1, rg, st, ch, ph, su, fa, he, ()), true) := by simp only [locS, if_neg h, if_neg h2, if_neg h3, if_neg h45, if_pos h4, gd hd, if_pos h8]
      rw [e]; exact ⟨rfl, rfl⟩
    · have e : locS (id, fn, pc, rg, st, ch, ph, su, fa, he, ()) (op, a, b, c, obj, n, fo, ord, ()) = ((id, fn, n, rg, st, ch, ph, su, fa, he, ()), true) := by simp only [locS, if_neg h, if_neg h2, if_neg h3, if_neg h45, if_pos h4, gd hd, if_neg h8]
      rw [e]; exact ⟨rfl, rfl⟩
  · have e : locS (id, fn, pc, rg, st, ch, ph, su, fa, he, ()) (op, a, b, c, obj, n, fo, ord, ()) = ((id, fn, n, rg, st, ch, ph, su, fa, he, ()), true) := by simp only [locS, if_neg h, if_neg h2, if_neg h3, if_pos h5]
    rw [e]; exact ⟨rfl, rfl⟩
  · refine ⟨hB, hB8, fun d hd => br_dec.2 ⟨fun h8 => ?_, fun h8 => ?_⟩⟩
    · have e : locS (id, fn, pc, rg, st, ch, ph, su, fa, he, ()) (op, a, b, c, obj, n, fo, ord, ()) = ((id, fn, pc, rg, st, ch, ph, 3, 26, he, ()), false) := by simp only [locS, if_neg h, if_neg h2, if_neg h3, if_neg h5, if_neg h4, gd hd]; rw [if_pos ⟨h6, h8⟩]
      rw [e]; exact ⟨trivial, rfl, rfl⟩
    · have h67 : ¬ op = 7 := by omega
      have e : locS (id, fn, pc, rg, st, ch, ph, su, fa, he, ()) (op, a, b, c, obj, n, fo, ord, ()) = ((id, fn, pc + 1, rg, st, ch, ph, su, fa, he, ()), true) := by simp only [locS, if_neg h, if_neg h2, if_neg h3, if_neg h5, if_neg h4, gd hd, if_neg h67]; rw [if_neg fun q => h8 q.2]
      rw [e]; exact ⟨rfl, rfl⟩
  · have e : locS (id, fn, pc, rg, st, ch, ph, su, fa, he, ()) (op, a, b, c, obj, n, fo, ord, ()) = ((id, fn, pc, rg, st, ch, ph, 2, 0, he, ()), false) := by simp only [locS, if_neg h, if_neg h2, if_neg h3, if_neg h5, if_neg h4, if_pos h7]; rw [if_neg fun q => h6 q.1]
    rw [e]; exact ⟨trivial, rfl, rfl⟩
  · have e : locS (id, fn, pc, rg, st, ch, ph, su, fa, he, ()) (op, a, b, c, obj, n, fo, ord, ()) = ((id, fn, pc + 1, rg, st, ch, ph, su, fa, he, ()), true) := by simp only [locS, if_neg h, if_neg h2, if_neg h3, if_neg h5, if_neg h4, if_neg h7]; rw [if_neg fun q => h6 q.1]
    rw [e]; exact ⟨rfl, rfl⟩
set_option maxHeartbeats 2000000 in
set_option maxRecDepth 100000 in
theorem f44_met : Go.Eng.Met Tryd.prog cx0.gd 44 ctLoc :=
  (met_all (cx := cx0) (n := 87) (cl := cl44) (il := il44) (hl := hl44) (ml := ml44) (rc := [.data shT, .keep]) (lits := []) (suf := []) (by kernel_rfl) tis_ok ⟨f54_met, f41_met, trivial⟩ trivial trivial trivial Tryd.func44 (by kernel_rfl) (by kernel_rfl) rfl (by kernel_rfl) (by kernel_rfl) (by simp) fun d hd => by
    obtain ⟨⟨id, fn, pc, rg, st, ch, ph, su, fa, he, ⟨⟩⟩, ⟨op, a, b, c, obj, n, fo, ord, ⟨⟩⟩, ⟨⟩⟩ := d
    exact ex_of (ann44 id fn pc rg st ch ph su fa he op a b c obj n fo ord) (f44_vc id fn pc rg st ch ph su fa he op a b c obj n fo ord hd) (by kernel_rfl)).met
end Go.Proofs.YtklnffdjhoacoaaDoor
set_option linter.unusedSimpArgs false
set_option linter.unusedVariables false
set_option maxRecDepth 100000
namespace Go.Proofs.YtklnffdjhoacoaaDoor
open Go Go.Eng

@[reducible] def ctStd : CT := { ps := [shP, .int .i64], pre := fun d => bnd (d.1, ()), res := fun d => ([], .one (.c (.v (.int .i64 (stdS (chkP d.1.1 d.1.2.1 d.1.2.2.1 d.1.2.2.2.1 d.1.2.2.2.2.1).1 d.2.1))))) }
@[reducible] noncomputable def cl29 : List (Nat × CT) := [(39, ctChk)]
@[reducible] def ann29 (vs : List VD) (ms : List ByteArray) (cs : List ByteArray) (fs : List FD) (ts : List SD) (bound : Int) : Nat → Option (St → Ann) := fun _ => none
set_option maxRecDepth 100000 in
theorem f29_vc (vs : List VD) (ms : List ByteArray) (cs : List ByteArray) (fs : List FD) (ts : List SD) (bound : Int) (hpre : ctStd.pre ((vs, ms, cs, fs, ts, ()), bound, ())) :
    (vs.length ≤ (1000000 : Nat) ∧ ms.length ≤ (1000000 : Nat) ∧ cs.length ≤ (1000000 : Nat) ∧ fs.length ≤ (1000000 : Nat) ∧ ts.length ≤ (1000000 : Nat) ∧ (∀ (x : Sh.str.den × (shI.sl.pair Sh.unit).den), x ∈ fs → List.length x.snd.fst ≤ (1000000 : Nat)) ∧ (instL fs).length ≤ (1000000 : Nat)) ∧ br (!decide ((chkP vs ms cs fs ts).fst = (0 : Int))) (([] : List Go.Eng.Res) = [] ∧ Ent.one (SV.c (SC.v (Value.int IntKind.i64 (stdS (chkP vs ms cs fs ts).fst bound)))) = Ent.one (SV.c (SC.v (Value.int IntKind.i64 (chkP vs ms cs fs ts).fst)))) (br (decide (bound < (1 : Int)) || decide ((32 : Int) < bound)) (([] : List Go.Eng.Res) = [] ∧ Ent.one (SV.c (SC.v (Value.int IntKind.i64 (stdS (chkP vs ms cs fs ts).fst bound)))) = Ent.one (SV.c (SC.v (Value.int IntKind.i64 (2 : Int))))) (([] : List Go.Eng.Res) = [] ∧ Ent.one (SV.c (SC.v (Value.int IntKind.i64 (stdS (chkP vs ms cs fs ts).fst bound)))) = Ent.one (SV.c (SC.v (Value.int IntKind.i64 (0 : Int)))))) := by
  have hb : bnd ((vs, ms, cs, fs, ts, ()), ()) := hpre
  refine ⟨hb, br_iff.2 ⟨fun h => ?_, fun h => br_iff.2 ⟨fun h2 => ?_, fun h2 => ?_⟩⟩⟩
  · have h : (chkP vs ms cs fs ts).1 ≠ 0 := by simpa using h
    unfold stdS
    rw [if_pos h]; exact ⟨rfl, rfl⟩
  · have h : ¬ (chkP vs ms cs fs ts).1 ≠ 0 := by simpa using h
    have h2 : bound < 1 ∨ 32 < bound := by simpa using h2
    unfold stdS
    rw [if_neg h, if_pos h2]; exact ⟨rfl, rfl⟩
  · have h : ¬ (chkP vs ms cs fs ts).1 ≠ 0 := by simpa using h
    have h2 : ¬ (bound < 1 ∨ 32 < bound) := by simp only [Bool.or_eq_false_iff, decide_eq_false_iff_not] at h2; omega
    unfold stdS
    rw [if_neg h, if_neg h2]; exact ⟨rfl, rfl⟩
set_option maxHeartbeats 2000000 in
set_option maxRecDepth 100000 in
theorem f29_met : Go.Eng.Met Tryd.prog cx0.gd 29 ctStd :=
  met_of (cx := cx0) (n := 23) (cl := cl29) (by kernel_rfl) tis_ok ⟨f39_met, trivial⟩ Tryd.func29 (by kernel_rfl) (by kernel_rfl) rfl (by kernel_rfl) (by kernel_rfl) fun d hd => by
    obtain ⟨⟨vs, ms, cs, fs, ts, ⟨⟩⟩, bound, ⟨⟩⟩ := d
    exact ex_of (ann29 vs ms cs fs ts bound) (f29_vc vs ms cs fs ts bound hd) (by kernel_rfl)
open Classical in
theorem formedB_iff {ms : List ByteArray} {fs : List FD} {bound : Int} {t : TD} : formedB ms fs bound t = true ↔ Formed ms fs bound t := by
  unfold formedB; rw [decide_eq_true_iff]
theorem formedB_false {ms : List ByteArray} {fs : List FD} {bound : Int} {t : TD} (h : ¬ Formed ms fs bound t) : formedB ms fs bound t = false := Bool.eq_false_iff.2 fun q => h (formedB_iff.1 q)
open Classical in
theorem vldB_iff {ms : List ByteArray} {fs : List FD} {bound : Int} {t : TD} : vldB ms fs bound t = true ↔ Vld ms fs bound t := by
  unfold vldB; rw [decide_eq_true_iff]
theorem vldB_false {ms : List ByteArray} {fs : List FD} {bound : Int} {t : TD} (h : ¬ Vld ms fs bound t) : vldB ms fs bound t = false := Bool.eq_false_iff.2 fun q => h (vldB_iff.1 q)
@[reducible] noncomputable def ctFrm : CT := { ps := [shP, .int .i64, shT], pre := fun d => True ∧ d.2.2.1.2.2.2.2.2.2.2.2.2.1.length ≤ 1000000 ∧ d.2.2.1.1 ≤ 9223372036854775807 ∧ d.2.2.1.2.2.2.1.length = 8, res := fun d => ([], vB (formedB d.1.2.1 d.1.2.2.2.1 d.2.1 d.2.2.1)) }
@[reducible] noncomputable def cl33 : List (Nat × CT) := [(22, ctDep), (30, ctWrap), (45, ctV), (34, ctAt), (46, ctHas)]
@[reducible] def ann33 (vs : List VD) (ms : List ByteArray) (cs : List ByteArray) (fs : List FD) (ts : List SD) (bound : Int) (id : Int) (fn : Int) (pc : Int) (rg : List Int) (st : Int) (ch : Int) (ph : Int) (su : Int) (fa : Int) (he : List Int) : Nat → Option (St → Ann) := fun k => match k with
  | 5 => some fun _ => .inv { α := Nat, slots := fun k => [(52, .c (.v (.int .i64 k)))], res := fun _ => [], inv := fun k => k ≤ 8 ∧ ∀ j < k, ∀ r, rg[j]? = some r → valS r = true, meas := fun k => 8 - k }
  | 13 => some fun _ => .inv { α := Nat, slots := fun k => [(97, .c (.v (.int .i64 k)))], res := fun _ => [], inv := fun k => k ≤ he.length ∧ ∀ j < k, ∀ m, he[j]? = some m → 0 ≤ m ∧ m < ms.length, meas := fun k => he.length - k }
  | _ => none
@[reducible] def il33 : List (Nat × IP) := []
@[reducible] def hl33 : List (Nat × Nat × CT) := []
@[reducible] noncomputable def ml33 : List (Nat × MK) := []
set_option maxRecDepth 100000 in
theorem f33_vc (vs : List VD) (ms : List ByteArray) (cs : List ByteArray) (fs : List FD) (ts : List SD) (bound : Int) (id : Int) (fn : Int) (pc : Int) (rg : List Int) (st : Int) (ch : Int) (ph : Int) (su : Int) (fa : Int) (he : List Int) (hpre : ctFrm.pre ((vs, ms, cs, fs, ts, ()), bound, (id, fn, pc, rg, st, ch, ph, su, fa, he, ()), ())) :
    id ≤ (9223372036854775807 : I6.den) ∧ ((!(decide (depthI id < (0 : Int)) || decide (fn < (0 : Int)) || decide ((↑fs.length : Int) ≤ fn) || decide (pc < (0 : Int)))) = true → (0 : Int) ≤ fn ∧ fn < (↑fs.length : Int)) ∧ ∀ (d : Sh.str.den × (shI.sl.pair Sh.unit).den), ((!(decide (depthI id < (0 : Int)) || decide (fn < (0 : Int)) || decide ((↑fs.length : Int) ≤ fn) || decide (pc < (0 : Int)))) = true → fs[fn.toNat]? = some d) → br (decide (depthI id < (0 : Int)) || decide (fn < (0 : Int)) || decide ((↑fs.length : Int) ≤ fn) || decide (pc < (0 : Int)) || decide ((↑(List.length d.snd.fst) : Int) < pc)) (([] : List Go.Eng.Res) = [] ∧ Ent.one (SV.c (SC.v (Value.bool (formedB ms fs bound (id, fn, pc, rg, st, ch, ph, su, fa, he, ()))))) = Ent.one (SV.c (SC.v (Value.bool false)))) ((∃ x, (x ≤ (8 : Nat) ∧ ∀ (j : Nat), j < x → ∀ (r : Int), rg[j]? = some r → valS r = true) ∧ (SV.c (SC.v (Value.int IntKind.i64 (0 : Int))) = SV.c (SC.v (Value.int IntKind.i64 (↑x : Int))) ∧ True) ∧ [(([] : Go.Eng.Gd), Res.blk (43 : Nat) [SC.sl (Sh.str.pair (I6.pair Sh.unit)) vs, SC.sl Sh.str ms, SC.sl Sh.str cs, SC.sl (Sh.str.pair (shI.sl.pair Sh.unit)) fs, SC.sl (I6.pair (I6.pair Sh.unit)) ts]), (([] : Go.Eng.Gd), Res.obj (28 : Nat) shT (id, fn, pc, rg, st, ch, ph, su, fa, he, ()))] = [(([] : Go.Eng.Gd), Res.blk (43 : Nat) [SC.sl (Sh.str.pair (I6.pair Sh.unit)) vs, SC.sl Sh.str ms, SC.sl Sh.str cs, SC.sl (Sh.str.pair (shI.sl.pair Sh.unit)) fs, SC.sl (I6.pair (I6.pair Sh.unit)) ts]), (([] : Go.Eng.Gd), Res.obj (28 : Nat) shT (id, fn, pc, rg, st, ch, ph, su, fa, he, ()))]) ∧ ∀ (x : Nat), (x ≤ (8 : Nat) ∧ ∀ (j : Nat), j < x → ∀ (r : Int), rg[j]? = some r → valS r = true) → br (decide ((↑x : Int) < (8 : Int))) (((0 : Int) ≤ (↑x : Int) ∧ (↑x : Int) < (↑rg.length : Int)) ∧ ∀ (d : Int), rg[(↑x : Int).toNat]? = some d → True ∧ br (!decide (wrapS d = d)) (([] : List Go.Eng.Res) = [] ∧ Ent.one (SV.c (SC.v (Value.bool (formedB ms fs bound (id, fn, pc, rg, st, ch, ph, su, fa, he, ()))))) = Ent.one (SV.c (SC.v (Value.bool false)))) (InR IntKind.i64 ((↑x : Int) + (1 : Int)) ∧ ∃ x', (x' ≤ (8 : Nat) ∧ ∀ (j : Nat), j < x' → ∀ (r : Int), rg[j]? = some r → valS r = true) ∧ (SV.c (SC.v (Value.int IntKind.i64 ((↑x : Int) + (1 : Int)))) = SV.c (SC.v (Value.int IntKind.i64 (↑x' : Int))) ∧ True) ∧ [(([] : Go.Eng.Gd), Res.blk (43 : Nat) [SC.sl (Sh.str.pair (I6.pair Sh.unit)) vs, SC.sl Sh.str ms, SC.sl Sh.str cs, SC.sl (Sh.str.pair (shI.sl.pair Sh.unit)) fs, SC.sl (I6.pair (I6.pair Sh.unit)) ts]), (([] : Go.Eng.Gd), Res.obj (28 : Nat) shT (id, fn, pc, rg, st, ch, ph, su, fa, he, ()))] = [(([] : Go.Eng.Gd), Res.blk (43 : Nat) [SC.sl (Sh.str.pair (I6.pair Sh.unit)) vs, SC.sl Sh.str ms, SC.sl Sh.str cs, SC.sl (Sh.str.pair (shI.sl.pair Sh.unit)) fs, SC.sl (I6.pair (I6.pair Sh.unit)) ts]), (([] : Go.Eng.Gd), Res.obj (28 : Nat) shT (id, fn, pc, rg, st, ch, ph, su, fa, he, ()))] ∧ (8 : Nat) - x' < (8 : Nat) - x)) (((!(decide (st < (0 : Int)) || decide (bound < st) || decide (ch < (0 : Int)) || decide ((7 : Int) < ch) || decide (depthI id = (4 : Int)) && !decide (ch = (0 : Int)))) = true → he.length ≤ (1000000 : Nat)) ∧ br (decide (st < (0 : Int)) || decide (bound < st) || decide (ch < (0 : Int)) || decide ((7 : Int) < ch) || decide (depthI id = (4 : Int)) && !decide (ch = (0 : Int)) || !validI he) (([] : List Go.Eng.Res) = [] ∧ Ent.one (SV.c (SC.v (Value.bool (formedB ms fs bound (id, fn, pc, rg, st, ch, ph, su, fa, he, ()))))) = Ent.one (SV.c (SC.v (Value.bool false)))) ((∃ x, (x ≤ he.length ∧ ∀ (j : Nat), j < x → ∀ (m : Int), he[j]? = some m → (0 : Int) ≤ m ∧ m < (↑ms.length : Int)) ∧ (SV.c (SC.v (Value.int IntKind.i64 (0 : Int))) = SV.c (SC.v (Value.int IntKind.i64 (↑x : Int))) ∧ True) ∧ [(([] : Go.Eng.Gd), Res.blk (43 : Nat) [SC.sl (Sh.str.pair (I6.pair Sh.unit)) vs, SC.sl Sh.str ms, SC.sl Sh.str cs, SC.sl (Sh.str.pair (shI.sl.pair Sh.unit)) fs, SC.sl (I6.pair (I6.pair Sh.unit)) ts]), (([] : Go.Eng.Gd), Res.obj (28 : Nat) shT (id, fn, pc, rg, st, ch, ph, su, fa, he, ()))] = [(([] : Go.Eng.Gd), Res.blk (43 : Nat) [SC.sl (Sh.str.pair (I6.pair Sh.unit)) vs, SC.sl Sh.str ms, SC.sl Sh.str cs, SC.sl (Sh.str.pair (shI.sl.pair Sh.unit)) fs, SC.sl (I6.pair (I6.pair Sh.unit)) ts]), (([] : Go.Eng.Gd), Res.obj (28 : Nat) shT (id, fn, pc, rg, st, ch, ph, su, fa, he, ()))]) ∧ ∀ (x : Nat), (x ≤ he.length ∧ ∀ (j : Nat), j < x → ∀ (m : Int), he[j]? = some m → (0 : Int) ≤ m ∧ m < (↑ms.length : Int)) → br (decide ((↑x : Int) < (↑he.length : Int))) (((0 : Int) ≤ (↑x : Int) ∧ (↑x : Int) < (↑he.length : Int)) ∧ ∀ (d : Int), he[(↑x : Int).toNat]? = some d → br (decide (d < (0 : Int)) || decide ((↑ms.length : Int) ≤ d)) (([] : List Go.Eng.Res) = [] ∧ Ent.one (SV.c (SC.v (Value.bool (formedB ms fs bound (id, fn, pc, rg, st, ch, ph, su, fa, he, ()))))) = Ent.one (SV.c (SC.v (Value.bool false)))) (InR IntKind.i64 ((↑x : Int) + (1 : Int)) ∧ ∃ x', (x' ≤ he.length ∧ ∀ (j : Nat), j < x' → ∀ (m : Int), he[j]? = some m → (0 : Int) ≤ m ∧ m < (↑ms.length : Int)) ∧ (SV.c (SC.v (Value.int IntKind.i64 ((↑x : Int) + (1 : Int)))) = SV.c (SC.v (Value.int IntKind.i64 (↑x' : Int))) ∧ True) ∧ [(([] : Go.Eng.Gd), Res.blk (43 : Nat) [SC.sl (Sh.str.pair (I6.pair Sh.unit)) vs, SC.sl Sh.str ms, SC.sl Sh.str cs, SC.sl (Sh.str.pair (shI.sl.pair Sh.unit)) fs, SC.sl (I6.pair (I6.pair Sh.unit)) ts]), (([] : Go.Eng.Gd), Res.obj (28 : Nat) shT (id, fn, pc, rg, st, ch, ph, su, fa, he, ()))] = [(([] : Go.Eng.Gd), Res.blk (43 : Nat) [SC.sl (Sh.str.pair (I6.pair Sh.unit)) vs, SC.sl Sh.str ms, SC.sl Sh.str cs, SC.sl (Sh.str.pair (shI.sl.pair Sh.unit)) fs, SC.sl (I6.pair (I6.pair Sh.unit)) ts]), (([] : Go.Eng.Gd), Res.obj (28 : Nat) shT (id, fn, pc, rg, st, ch, ph, su, fa, he, ()))] ∧ he.length - x' < he.length - x)) (br (decide (ph = (0 : Int))) (([] : List Go.Eng.Res) = [] ∧ Ent.one (SV.c (SC.v (Value.bool (formedB ms fs bound (id, fn, pc, rg, st, ch, ph, su, fa, he, ()))))) = Ent.one (SV.c (SC.v (Value.bool true)))) (((0 : I6.den) ≤ fn ∧ fn < (↑fs.length : I6.den) ∧ (0 : I6.den) ≤ pc) ∧ (((decide (ph = (1 : Int)) || decide (ph = (2 : Int))) && (atR fs fn pc).snd && decide ((atR fs fn pc).fst.fst = (18 : Int))) = true → he.length ≤ (1000000 : Nat)) ∧ ([] : List Go.Eng.Res) = [] ∧ Ent.one (SV.c (SC.v (Value.bool (formedB ms fs bound (id, fn, pc, rg, st, ch, ph, su, fa, he, ()))))) = Ent.one (SV.c (SC.v (Value.bool ((decide (ph = (1 : Int)) || decide (ph = (2 : Int))) && (atR fs fn pc).snd && decide ((atR fs fn pc).fst.fst = (18 : Int)) && !hasI he (atR fs fn pc).fst.snd.snd.snd.snd.snd.fst))))))))) := by
  obtain ⟨_, hhe, hid, hrg⟩ : True ∧ he.length ≤ 1000000 ∧ id ≤ 9223372036854775807 ∧ rg.length = 8 := hpre
  have fF : ¬ Formed ms fs bound (id, fn, pc, rg, st, ch, ph, su, fa, he, ()) → ([] : List Go.Eng.Res) = [] ∧ Ent.one (SV.c (SC.v (Value.bool (formedB ms fs bound (id, fn, pc, rg, st, ch, ph, su, fa, he, ()))))) = Ent.one (SV.c (SC.v (Value.bool false))) := fun q => ⟨rfl, by rw [formedB_false q]⟩
  refine ⟨hid, fun g => by simp at g; omega, fun x hx => br_iff.2 ⟨fun h => ?_, fun h => ?_⟩⟩
  · refine fF fun q => ?_
    obtain ⟨q1, q2, q3, _⟩ := q
    obtain ⟨y, hy, ey⟩ := codeF_get q2
    have hx := hx (by simp; omega)
    rw [hx] at hy; cases hy
    rw [ey] at q3
    simp at h; omega
  simp only [Bool.or_eq_false_iff, decide_eq_false_iff_not] at h
  obtain ⟨⟨⟨⟨h1, h2⟩, h3⟩, h4⟩, h5⟩ := h
  have hx := hx (by simp; omega)
  have hfn : 0 ≤ fn ∧ fn < (fs.length : Int) := by omega
  obtain ⟨y, hy, ey⟩ := codeF_get hfn
  rw [hx] at hy; cases hy
  have hpc : 0 ≤ pc ∧ pc ≤ ((codeF fs fn).length : Int) := by rw [ey]; omega
  refine ⟨⟨0, ⟨by omega, fun j hj => by omega⟩, ⟨rfl, trivial⟩, rfl⟩, fun k hk => br_iff.2 ⟨fun h => ?_, fun h => ?_⟩⟩
  · simp only [decide_eq_true_eq] at h
    refine ⟨by omega, fun d hd => ⟨trivial, br_iff.2 ⟨fun h6 => ?_, fun h6 => ⟨InR_i64.2 (by omega), k + 1, ⟨by omega, fun j hj r hr => ?_⟩, ⟨rfl, trivial⟩, rfl, by omega⟩⟩⟩⟩
    · refine fF fun q => ?_
      have := q.2.2.2.1 k (by omega) d hd
      unfold valS at this
      have h6 : ¬ wrapS d = d := by simpa using h6
      exact h6 (wrapS_id.2 (by simpa using this))
    · have h6 : wrapS d = d := by simpa using h6
      by_cases hjk : j = k
      · subst hjk
        have hd : rg[j]? = some d := hd
        rw [hd] at hr; cases hr
        unfold valS
        exact decide_eq_true (wrapS_id.1 h6)
      · exact hk.2 j (by omega) r hr
  simp only [decide_eq_false_iff_not] at h
  have hr : ∀ k < 8, ∀ r, rg[k]? = some r → valS r = true := fun j hj r hr => hk.2 j (by omega) r hr
  refine ⟨fun _ => hhe, br_iff.2 ⟨fun h7 => ?_, fun h7 => ?_⟩⟩
  · refine fF fun q => ?_
    obtain ⟨_, _, _, _, q5, q6, q7, _⟩ := q
    have e : validI he = true := decide_eq_true q7
    rw [e] at h7
    simp at h7; omega
  simp only [Bool.or_eq_false_iff, Bool.and_eq_false_iff, Bool.not_eq_false', decide_eq_false_iff_not, decide_eq_true_eq] at h7
  obtain ⟨⟨⟨⟨⟨a1, a2⟩, a3⟩, a4⟩, a5⟩, a6⟩ := h7
  have hss : SS he := of_decide_eq_true a6
  refine ⟨⟨0, ⟨by omega, fun j hj => by omega⟩, ⟨rfl, trivial⟩, rfl⟩, fun m hm => br_iff.2 ⟨fun h8 => ?_, fun h8 => ?_⟩⟩
  · simp only [decide_eq_true_eq] at h8
    refine ⟨by omega, fun d hd => br_iff.2 ⟨fun h9 => ?_, fun h9 => ⟨InR_i64.2 (by omega), m + 1, ⟨by omega, fun j hj r hr => ?_⟩, ⟨rfl, trivial⟩, rfl, by omega⟩⟩⟩
    · refine fF fun q => ?_
      have := q.2.2.2.2.2.2.2.1 d (List.mem_of_getElem? hd)
      simp at h9; omega
    · by_cases hjk : j = m
      · subst hjk
        have hd : he[j]? = some d := hd
        rw [hd] at hr; cases hr
        simp at h9; omega
      · exact hm.2 j (by omega) r hr
  simp only [decide_eq_false_iff_not] at h8
  have hmm : ∀ m ∈ he, 0 ≤ m ∧ m < (ms.length : Int) := fun y hy => by
    obtain ⟨j, hj⟩ := List.getElem?_of_mem hy
    exact hm.2 j (by have := (List.getElem?_eq_some_iff.1 hj).1; omega) y hj
  have base : (ph = 0 ∨ ((ph = 1 ∨ ph = 2) ∧ ∃ i, atS fs fn pc = some i ∧ i.1 = 18 ∧ hasI he i.2.2.2.2.2.1 = false)) ↔ Formed ms fs bound (id, fn, pc, rg, st, ch, ph, su, fa, he, ()) :=
    ⟨fun q => ⟨by omega, hfn, hpc, hr, by omega, ⟨by omega, by omega, fun e => by omega⟩, hss, hmm, q⟩, fun q => q.2.2.2.2.2.2.2.2⟩
  have fB : ∀ b : Bool, (b = true ↔ (ph = 0 ∨ ((ph = 1 ∨ ph = 2) ∧ ∃ i, atS fs fn pc = some i ∧ i.1 = 18 ∧ hasI he i.2.2.2.2.2.1 = false))) → Ent.one (SV.c (SC.v (Value.bool (formedB ms fs bound (id, fn, pc, rg, st, ch, ph, su, fa, he, ()))))) = Ent.one (SV.c (SC.v (Value.bool b))) := fun b hb => by
    have : formedB ms fs bound (id, fn, pc, rg, st, ch, ph, su, fa, he, ()) = b := by
      rw [Bool.eq_iff_iff, hb, base, formedB_iff]
    rw [this]
  refine br_iff.2 ⟨fun h9 => ⟨rfl, fB _ ?_⟩, fun h9 => ⟨⟨hfn.1, hfn.2, hpc.1⟩, fun _ => hhe, rfl, fB _ ?_⟩⟩
  · simp at h9; simp [h9]
  · simp at h9
    cases ha : atS fs fn pc with
    | none => rw [show atR fs fn pc = ((0, 0, 0, 0, 0, 0, 0, 0, ()), false) by unfold atR; rw [ha]]; simp [h9]
    | some i => rw [show atR fs fn pc = (i, true) by unfold atR; rw [ha]]; simp [h9, and_assoc]
set_option maxHeartbeats 2000000 in
set_option maxRecDepth 100000 in
theorem f33_met : Go.Eng.Met Tryd.prog cx0.gd 33 ctFrm :=
  (met_all (cx := cx0) (n := 144) (cl := cl33) (il := il33) (hl := hl33) (ml := ml33) (rc := []) (lits := []) (suf := []) (by kernel_rfl) tis_ok ⟨f22_met, f30_met, f45_met, f34_met, f46_met, trivial⟩ trivial trivial trivial Tryd.func33 (by kernel_rfl) (by kernel_rfl) rfl (by kernel_rfl) (by kernel_rfl) (by simp) fun d hd => by
    obtain ⟨⟨vs, ms, cs, fs, ts, ⟨⟩⟩, bound, ⟨id, fn, pc, rg, st, ch, ph, su, fa, he, ⟨⟩⟩, ⟨⟩⟩ := d
    exact ex_of (ann33 vs ms cs fs ts bound id fn pc rg st ch ph su fa he) (f33_vc vs ms cs fs ts bound id fn pc rg st ch ph su fa he hd) (by kernel_rfl)).met
@[reducible] noncomputable def ctVal2 : CT := { ps := [shP, .int .i64, shT], pre := fun d => (chkP d.1.1 d.1.2.1 d.1.2.2.1 d.1.2.2.2.1 d.1.2.2.2.2.1).1 = 0 ∧ d.2.2.1.2.2.2.2.2.2.2.2.2.1.length ≤ 1000000 ∧ d.2.2.1.1 ≤ 9223372036854775807 ∧ d.2.2.1.2.2.2.1.length = 8, res := fun d => ([], vB (vldB d.1.2.1 d.1.2.2.2.1 d.2.1 d.2.2.1)) }
@[reducible] noncomputable def cl32 : List (Nat × CT) := [(33, ctFrm), (34, ctAt), (42, ctVis), (43, ctObs)]
@[reducible] def ann32 (vs : List VD) (ms : List ByteArray) (cs : List ByteArray) (fs : List FD) (ts : List SD) (bound : Int) (id : Int) (fn : Int) (pc : Int) (rg : List Int) (st : Int) (ch : Int) (ph : Int) (su : Int) (fa : Int) (he : List Int) : Nat → Option (St → Ann) := fun _ => none
@[reducible] def il32 : List (Nat × IP) := []
@[reducible] def hl32 : List (Nat × Nat × CT) := []
@[reducible] noncomputable def ml32 : List (Nat × MK) := []
set_option maxRecDepth 100000 in
theorem f32_vc (vs : List VD) (ms : List ByteArray) (cs : List ByteArray) (fs : List FD) (ts : List SD) (bound : Int) (id : Int) (fn : Int) (pc : Int) (rg : List Int) (st : Int) (ch : Int) (ph : Int) (su : Int) (fa : Int) (he : List Int) (hpre : ctVal2.pre ((vs, ms, cs, fs, ts, ()), bound, (id, fn, pc, rg, st, ch, ph, su, fa, he, ()), ())) :
    (True ∧ he.length ≤ (1000000 : Nat) ∧ id ≤ (9223372036854775807 : I6.den) ∧ rg.length = (8 : Nat)) ∧ br (!formedB ms fs bound (id, fn, pc, rg, st, ch, ph, su, fa, he, ())) (([] : List Go.Eng.Res) = [] ∧ Ent.one (SV.c (SC.v (Value.bool (vldB ms fs bound (id, fn, pc, rg, st, ch, ph, su, fa, he, ()))))) = Ent.one (SV.c (SC.v (Value.bool false)))) (((0 : I6.den) ≤ fn ∧ fn < (↑fs.length : I6.den) ∧ (0 : I6.den) ≤ pc) ∧ br (decide (su = (1 : Int))) (br (decide (su = (1 : Int))) (((!(!decide (fa = (0 : Int)) || !(atR fs fn pc).snd)) = true → True) ∧ ((!(!decide (fa = (0 : Int)) || !(atR fs fn pc).snd || !visS (atR fs fn pc).fst.fst)) = true → he.length ≤ (1000000 : Nat) ∧ id ≤ (9223372036854775807 : I6.den)) ∧ br (!decide (fa = (0 : Int)) || !(atR fs fn pc).snd || !visS (atR fs fn pc).fst.fst || !decide (obsS id ch ph he (atR fs fn pc).fst = (0 : Int))) (([] : List Go.Eng.Res) = [] ∧ Ent.one (SV.c (SC.v (Value.bool (vldB ms fs bound (id, fn, pc, rg, st, ch, ph, su, fa, he, ()))))) = Ent.one (SV.c (SC.v (Value.bool false)))) (([] : List Go.Eng.Res) = [] ∧ Ent.one (SV.c (SC.v (Value.bool (vldB ms fs bound (id, fn, pc, rg, st, ch, ph, su, fa, he, ()))))) = Ent.one (SV.c (SC.v (Value.bool (decide (su = (1 : Int)) && decide (st < bound) || decide (su = (4 : Int)) && decide ((1 : Int) ≤ st))))))) (br (decide (su = (2 : Int))) (([] : List Go.Eng.Res) = [] ∧ Ent.one (SV.c (SC.v (Value.bool (vldB ms fs bound (id, fn, pc, rg, st, ch, ph, su, fa, he, ()))))) = Ent.one (SV.c (SC.v (Value.bool (decide (fa = (0 : Int)) && decide (ph = (0 : Int)) && (!(atR fs fn pc).snd || decide ((atR fs fn pc).fst.fst = (7 : Int)))))))) (br (decide (su = (3 : Int))) (br (!decide (ph = (0 : Int)) || !(atR fs fn pc).snd) (([] : List Go.Eng.Res) = [] ∧ Ent.one (SV.c (SC.v (Value.bool (vldB ms fs bound (id, fn, pc, rg, st, ch, ph, su, fa, he, ()))))) = Ent.one (SV.c (SC.v (Value.bool false)))) (br (decide (fa = (26 : Int))) ((decide ((atR fs fn pc).fst.fst = (6 : Int)) = true → (0 : Int) ≤ (atR fs fn pc).fst.snd.snd.fst ∧ (atR fs fn pc).fst.snd.snd.fst < (8 : Int)) ∧ (decide ((atR fs fn pc).fst.fst = (6 : Int)) = true → (atR fs fn pc).fst.snd.snd.fst.toNat < (8 : Nat)) ∧ ∀ (d : Int), (decide ((atR fs fn pc).fst.fst = (6 : Int)) = true → rg[(atR fs fn pc).fst.snd.snd.fst.toNat]? = some d) → ([] : List Go.Eng.Res) = [] ∧ Ent.one (SV.c (SC.v (Value.bool (vldB ms fs bound (id, fn, pc, rg, st, ch, ph, su, fa, he, ()))))) = Ent.one (SV.c (SC.v (Value.bool (decide ((atR fs fn pc).fst.fst = (6 : Int)) && decide (d = (0 : Int))))))) (br (decide (fa = (29 : Int))) (True ∧ ([] : List Go.Eng.Res) = [] ∧ Ent.one (SV.c (SC.v (Value.bool (vldB ms fs bound (id, fn, pc, rg, st, ch, ph, su, fa, he, ()))))) = Ent.one (SV.c (SC.v (Value.bool !visS (atR fs fn pc).fst.fst)))) (((!decide (fa = (0 : Int))) = true → he.length ≤ (1000000 : Nat) ∧ id ≤ (9223372036854775807 : I6.den)) ∧ ([] : List Go.Eng.Res) = [] ∧ Ent.one (SV.c (SC.v (Value.bool (vldB ms fs bound (id, fn, pc, rg, st, ch, ph, su, fa, he, ()))))) = Ent.one (SV.c (SC.v (Value.bool (!decide (fa = (0 : Int)) && decide (obsS id ch ph he (atR fs fn pc).fst = fa))))))))) (([] : List Go.Eng.Res) = [] ∧ Ent.one (SV.c (SC.v (Value.bool (vldB ms fs bound (id, fn, pc, rg, st, ch, ph, su, fa, he, ()))))) = Ent.one (SV.c (SC.v (Value.bool false))))))) (br (decide (su = (4 : Int))) (((!(!decide (fa = (0 : Int)) || !(atR fs fn pc).snd)) = true → True) ∧ ((!(!decide (fa = (0 : Int)) || !(atR fs fn pc).snd || !visS (atR fs fn pc).fst.fst)) = true → he.length ≤ (1000000 : Nat) ∧ id ≤ (9223372036854775807 : I6.den)) ∧ br (!decide (fa = (0 : Int)) || !(atR fs fn pc).snd || !visS (atR fs fn pc).fst.fst || !decide (obsS id ch ph he (atR fs fn pc).fst = (0 : Int))) (([] : List Go.Eng.Res) = [] ∧ Ent.one (SV.c (SC.v (Value.bool (vldB ms fs bound (id, fn, pc, rg, st, ch, ph, su, fa, he, ()))))) = Ent.one (SV.c (SC.v (Value.bool false)))) (([] : List Go.Eng.Res) = [] ∧ Ent.one (SV.c (SC.v (Value.bool (vldB ms fs bound (id, fn, pc, rg, st, ch, ph, su, fa, he, ()))))) = Ent.one (SV.c (SC.v (Value.bool (decide (su = (1 : Int)) && decide (st < bound) || decide (su = (4 : Int)) && decide ((1 : Int) ≤ st))))))) (br (decide (su = (2 : Int))) (([] : List Go.Eng.Res) = [] ∧ Ent.one (SV.c (SC.v (Value.bool (vldB ms fs bound (id, fn, pc, rg, st, ch, ph, su, fa, he, ()))))) = Ent.one (SV.c (SC.v (Value.bool (decide (fa = (0 : Int)) && decide (ph = (0 : Int)) && (!(atR fs fn pc).snd || decide ((atR fs fn pc).fst.fst = (7 : Int)))))))) (br (decide (su = (3 : Int))) (br (!decide (ph = (0 : Int)) || !(atR fs fn pc).snd) (([] : List Go.Eng.Res) = [] ∧ Ent.one (SV.c (SC.v (Value.bool (vldB ms fs bound (id, fn, pc, rg, st, ch, ph, su, fa, he, ()))))) = Ent.one (SV.c (SC.v (Value.bool false)))) (br (decide (fa = (26 : Int))) ((decide ((atR fs fn pc).fst.fst = (6 : Int)) = true → (0 : Int) ≤ (atR fs fn pc).fst.snd.snd.fst ∧ (atR fs fn pc).fst.snd.snd.fst < (8 : Int)) ∧ (decide ((atR fs fn pc).fst.fst = (6 : Int)) = true → (atR fs fn pc).fst.snd.snd.fst.toNat < (8 : Nat)) ∧ ∀ (d : Int), (decide ((atR fs fn pc).fst.fst = (6 : Int)) = true → rg[(atR fs fn pc).fst.snd.snd.fst.toNat]? = some d) → ([] : List Go.Eng.Res) = [] ∧ Ent.one (SV.c (SC.v (Value.bool (vldB ms fs bound (id, fn, pc, rg, st, ch, ph, su, fa, he, ()))))) = Ent.one (SV.c (SC.v (Value.bool (decide ((atR fs fn pc).fst.fst = (6 : Int)) && decide (d = (0 : Int))))))) (br (decide (fa = (29 : Int))) (True ∧ ([] : List Go.Eng.Res) = [] ∧ Ent.one (SV.c (SC.v (Value.bool (vldB ms fs bound (id, fn, pc, rg, st, ch, ph, su, fa, he, ()))))) = Ent.one (SV.c (SC.v (Value.bool !visS (atR fs fn pc).fst.fst)))) (((!decide (fa = (0 : Int))) = true → he.length ≤ (1000000 : Nat) ∧ id ≤ (9223372036854775807 : I6.den)) ∧ ([] : List Go.Eng.Res) = [] ∧ Ent.one (SV.c (SC.v (Value.bool (vldB ms fs bound (id, fn, pc, rg, st, ch, ph, su, fa, he, ()))))) = Ent.one (SV.c (SC.v (Value.bool (!decide (fa = (0 : Int)) && decide (obsS id ch ph he (atR fs fn pc).fst = fa))))))))) (([] : List Go.Eng.Res) = [] ∧ Ent.one (SV.c (SC.v (Value.bool (vldB ms fs bound (id, fn, pc, rg, st, ch, ph, su, fa, he, ()))))) = Ent.one (SV.c (SC.v (Value.bool false)))))))) := by
  obtain ⟨hc, hhe, hid, hrg⟩ : (chkP vs ms cs fs ts).1 = 0 ∧ he.length ≤ 1000000 ∧ id ≤ 9223372036854775807 ∧ rg.length = 8 := hpre
  refine ⟨⟨trivial, hhe, hid, hrg⟩, br_iff.2 ⟨fun h => ⟨rfl, ?_⟩, fun h => ?_⟩⟩
  · have : vldB ms fs bound (id, fn, pc, rg, st, ch, ph, su, fa, he, ()) = false := vldB_false fun q => by
      have e := formedB_iff.2 q.1
      rw [e] at h; cases h
    rw [this]
  have hF : Formed ms fs bound (id, fn, pc, rg, st, ch, ph, su, fa, he, ()) := by
    have e : formedB ms fs bound (id, fn, pc, rg, st, ch, ph, su, fa, he, ()) = true := by simpa using h
    exact formedB_iff.1 e
  have hfn := hF.2.1
  refine ⟨⟨hfn.1, hfn.2, hF.2.2.1.1⟩, ?_⟩
  have W : ∀ b : Bool, (b = true ↔ (((su = 1 ∧ st < bound ∨ su = 4 ∧ 1 ≤ st) ∧ fa = 0 ∧ ∃ i, atS fs fn pc = some i ∧ visS i.1 = true ∧ obsS id ch ph he i = 0) ∨
     (su = 2 ∧ fa = 0 ∧ ph = 0 ∧ ∀ i, atS fs fn pc = some i → i.1 = 7) ∨
     (su = 3 ∧ ph = 0 ∧ ∃ i, atS fs fn pc = some i ∧ (fa = 26 ∧ i.1 = 6 ∧ rg.getD i.2.2.1.toNat 0 = 0 ∨ fa = 29 ∧ visS i.1 = false ∨ fa ≠ 26 ∧ fa ≠ 29 ∧ fa ≠ 0 ∧ obsS id ch ph he i = fa)))) →
      Ent.one (SV.c (SC.v (Value.bool (vldB ms fs bound (id, fn, pc, rg, st, ch, ph, su, fa, he, ()))))) = Ent.one (SV.c (SC.v (Value.bool b))) := fun b hb => by
    have : vldB ms fs bound (id, fn, pc, rg, st, ch, ph, su, fa, he, ()) = b := by
      rw [Bool.eq_iff_iff, hb, vldB_iff]
      exact ⟨fun q => q.2, fun q => ⟨hF, q⟩⟩
    rw [this]
  cases ha : atS fs fn pc with
  | none =>
    rw [show atR fs fn pc = ((0, 0, 0, 0, 0, 0, 0, 0, ()), false) by unfold atR; rw [ha]]
    simp only [br_iff, ha] at W ⊢
    repeat' (first | exact hhe | exact hid | (refine And.intro ?_ ?_) | (intro _))
    all_goals first | rfl | trivial | exact hhe | exact hid | (refine W _ ?_; simp_all; done) | (simp_all; done)
  | some i =>
    rw [show atR fs fn pc = (i, true) by unfold atR; rw [ha]]
    obtain ⟨r1, r2, r3, r4⟩ := chkI_regs (ci_zero (at_ok hc hfn ha)).1
    have rb8 : i.2.2.1.toNat < 8 := by omega
    have gd : ∀ {x d : Int}, rg[x.toNat]? = some d → rg.getD x.toNat 0 = d := fun hd => by rw [List.getD_eq_getElem?_getD, hd]; rfl
    simp only [br_iff, ha] at W ⊢
    repeat' (first | exact hhe | exact hid | exact r2.1 | exact r2.2 | exact rb8 | (refine And.intro ?_ ?_) | (intro _))
    all_goals first | rfl | trivial | exact hhe | exact hid | exact r2.1 | exact r2.2 | exact rb8 | (refine W _ ?_; simp_all; done) | (refine W _ ?_; clear W; simp_all; grind) | skip
set_option maxHeartbeats 2000000 in
set_option maxRecDepth 100000 in
theorem f32_met : Go.Eng.Met Tryd.prog cx0.gd 32 ctVal2 :=
  (met_all (cx := cx0) (n := 123) (cl := cl32) (il := il32) (hl := hl32) (ml := ml32) (rc := []) (lits := []) (suf := []) (by kernel_rfl) tis_ok ⟨f33_met, f34_met, f42_met, f43_met, trivial⟩ trivial trivial trivial Tryd.func32 (by kernel_rfl) (by kernel_rfl) rfl (by kernel_rfl) (by kernel_rfl) (by simp) fun d hd => by
    obtain ⟨⟨vs, ms, cs, fs, ts, ⟨⟩⟩, bound, ⟨id, fn, pc, rg, st, ch, ph, su, fa, he, ⟨⟩⟩, ⟨⟩⟩ := d
    exact ex_of (ann32 vs ms cs fs ts bound id fn pc rg st ch ph su fa he) (f32_vc vs ms cs fs ts bound id fn pc rg st ch ph su fa he hd) (by kernel_rfl)).met
theorem cc_short {vs : List VD} {ms cs : List ByteArray} {fs : List FD} (h : (ccS vs ms cs fs).1 = 0) : longS fs < 0 := by
  unfold ccS at h
  split at h
  · rename_i d hd
    have hp := List.find?_some hd
    split at h
    · cases h
    · rename_i h1
      simp only [Bool.or_eq_true, decide_eq_true_eq] at hp
      rcases hp with hp | hp
      · exact absurd hp h1
      · exact absurd h hp
  · split at h
    · cases h
    · omega
theorem long_neg {fs : List FD} (h : longS fs < 0) : ∀ f ∈ fs, f.2.1.length ≤ 64 := by
  unfold longS at h
  split at h
  · omega
  · rename_i hn
    rw [List.findIdx?_eq_none_iff] at hn
    intro f hf
    simpa using hn f hf
theorem code_short {vs : List VD} {ms cs : List ByteArray} {fs : List FD} {ts : List SD} (h : (chkP vs ms cs fs ts).1 = 0) {fn : Int} (hf : 0 ≤ fn ∧ fn < fs.length) : (codeF fs fn).length ≤ 64 := by
  obtain ⟨x, hx, ex⟩ := codeF_get hf
  rw [ex]
  exact long_neg (cc_short (chk_zero h).2.1) x (List.mem_of_getElem? hx)
theorem stl_none {fs : List FD} {bound id fn pc st ch ph su fa : Int} {rg he : List Int} {u : Unit} (h : atS fs fn pc = none) (k : Nat) : stlS fs bound k (id, fn, pc, rg, st, ch, ph, su, fa, he, u) = (id, fn, pc, rg, st, ch, ph, 2, 0, he, ()) := by
  cases k <;> (rw [stlS]; unfold topS; simp only [h])
theorem stl_vis {fs : List FD} {bound id fn pc st ch ph su fa : Int} {rg he : List Int} {u : Unit} {i : ID} (h : atS fs fn pc = some i) (hv : visS i.1 = true) (k : Nat) : stlS fs bound k (id, fn, pc, rg, st, ch, ph, su, fa, he, u) =
    if obsS id ch ph he i ≠ 0 then (id, fn, pc, rg, st, ch, ph, 3, obsS id ch ph he i, he, ()) else if st = bound then (id, fn, pc, rg, st, ch, ph, 4, 0, he, ()) else (id, fn, pc, rg, st, ch, ph, su, fa, he, ()) := by
  cases k <;> (rw [stlS]; unfold topS; simp only [h]; rw [if_pos hv])
theorem stl_zero {fs : List FD} {bound id fn pc st ch ph su fa : Int} {rg he : List Int} {u : Unit} {i : ID} (h : atS fs fn pc = some i) (hv : visS i.1 = false) : stlS fs bound 0 (id, fn, pc, rg, st, ch, ph, su, fa, he, u) = (id, fn, pc, rg, st, ch, ph, 3, 29, he, ()) := by
  rw [stlS]; unfold topS; simp only [h]; rw [if_neg (by rw [hv]; simp)]; rfl
theorem stl_succ {fs : List FD} {bound id fn pc st ch ph su fa : Int} {rg he : List Int} {u : Unit} {i : ID} (h : atS fs fn pc = some i) (hv : visS i.1 = false) (k : Nat) : stlS fs bound (k + 1) (id, fn, pc, rg, st, ch, ph, su, fa, he, u) =
    if (locS (id, fn, pc, rg, st, ch, ph, su, fa, he, u) i).2 = true then stlS fs bound k (locS (id, fn, pc, rg, st, ch, ph, su, fa, he, u) i).1 else (locS (id, fn, pc, rg, st, ch, ph, su, fa, he, u) i).1 := by
  rw [stlS]; unfold topS; simp only [h]; rw [if_neg (by rw [hv]; simp)]
theorem loc_len (t : TD) (i : ID) : (locS t i).1.2.2.2.1.length = t.2.2.2.1.length := by
  obtain ⟨id, fn, pc, rg, st, ch, ph, su, fa, hd, u⟩ := t
  obtain ⟨op, a, b, c, obj, n, f, ord, u2⟩ := i
  unfold locS
  simp only
  repeat' split
  all_goals simp
@[reducible] def ctStl : CT := { ps := [shP, .int .i64, shT], pre := fun d => (chkP d.1.1 d.1.2.1 d.1.2.2.1 d.1.2.2.2.1 d.1.2.2.2.2.1).1 = 0 ∧ Formed d.1.2.1 d.1.2.2.2.1 d.2.1 d.2.2.1 ∧ d.2.2.1.2.2.2.2.2.2.2.2.2.1.length ≤ 1000000 ∧ d.2.2.1.1 ≤ 9223372036854775807 ∧ d.2.2.1.2.2.2.1.length = 8, res := fun d => ([], .one (.dat shT (stlS d.1.2.2.2.1 d.2.1 256 d.2.2.1))) }
@[reducible] noncomputable def cl31 : List (Nat × CT) := [(40, ctClone), (34, ctAt), (41, ctEnd), (42, ctVis), (43, ctObs), (44, ctLoc)]
@[reducible] def ann31 (vs : List VD) (ms : List ByteArray) (cs : List ByteArray) (fs : List FD) (ts : List SD) (bound : Int) (id : Int) (fn : Int) (pc : Int) (rg : List Int) (st : Int) (ch : Int) (ph : Int) (su : Int) (fa : Int) (he : List Int) : Nat → Option (St → Ann) := fun k => match k with
  | 4 => some fun _ => .inv { α := Nat × TD, slots := fun x => [(7, .c (.v (.int .i64 x.1)))], res := fun x => [(1, .obj 28 shT x.2)], inv := fun x => x.1 ≤ 256 ∧ Formed ms fs bound x.2 ∧ x.2.2.2.2.2.2.2.2.2.2.1 = he ∧ x.2.1 = id ∧ x.2.2.2.2.1.length = 8 ∧ stlS fs bound (256 - x.1) x.2 = stlS fs bound 256 (id, fn, pc, rg, st, ch, ph, su, fa, he, ()), meas := fun x => 257 - x.1 }
  | _ => none
@[reducible] def il31 : List (Nat × IP) := []
@[reducible] def hl31 : List (Nat × Nat × CT) := []
@[reducible] noncomputable def ml31 : List (Nat × MK) := []
set_option maxRecDepth 100000 in
theorem f31_vc (vs : List VD) (ms : List ByteArray) (cs : List ByteArray) (fs : List FD) (ts : List SD) (bound : Int) (id : Int) (fn : Int) (pc : Int) (rg : List Int) (st : Int) (ch : Int) (ph : Int) (su : Int) (fa : Int) (he : List Int) (hpre : ctStl.pre ((vs, ms, cs, fs, ts, ()), bound, (id, fn, pc, rg, st, ch, ph, su, fa, he, ()), ())) :
    he.length ≤ (1000000 : Nat) ∧ (∃ (x : Nat × TD), (x.fst ≤ (256 : Nat) ∧ Formed ms fs bound x.snd ∧ x.snd.snd.snd.snd.snd.snd.snd.snd.snd.snd.fst = he ∧ x.snd.fst = id ∧ x.snd.snd.snd.snd.fst.length = (8 : Nat) ∧ stlS fs bound ((256 : Nat) - x.fst) x.snd = stlS fs bound (256 : Nat) (id, fn, pc, rg, st, ch, ph, su, fa, he, ())) ∧ (SV.c (SC.v (Value.int IntKind.i64 (0 : Int))) = SV.c (SC.v (Value.int IntKind.i64 (↑x.fst : Int))) ∧ True) ∧ [(([] : Go.Eng.Gd), Res.blk (43 : Nat) [SC.sl (Sh.str.pair (I6.pair Sh.unit)) vs, SC.sl Sh.str ms, SC.sl Sh.str cs, SC.sl (Sh.str.pair (shI.sl.pair Sh.unit)) fs, SC.sl (I6.pair (I6.pair Sh.unit)) ts]), (([] : Go.Eng.Gd), Res.obj (28 : Nat) shT (id, fn, pc, rg, st, ch, ph, su, fa, he, ())), (([] : Go.Eng.Gd), Res.obj (28 : Nat) shT ((0 : Int), (0 : Int), (0 : Int), List.replicate (8 : Nat) (0 : Int), (0 : Int), (0 : Int), (0 : Int), (0 : Int), (0 : Int), [], ())), (([] : Go.Eng.Gd), Res.gone)] = [(([] : Go.Eng.Gd), Res.blk (43 : Nat) [SC.sl (Sh.str.pair (I6.pair Sh.unit)) vs, SC.sl Sh.str ms, SC.sl Sh.str cs, SC.sl (Sh.str.pair (shI.sl.pair Sh.unit)) fs, SC.sl (I6.pair (I6.pair Sh.unit)) ts]), (([] : Go.Eng.Gd), Res.obj (28 : TypeId) shT x.snd), (([] : Go.Eng.Gd), Res.obj (28 : Nat) shT ((0 : Int), (0 : Int), (0 : Int), List.replicate (8 : Nat) (0 : Int), (0 : Int), (0 : Int), (0 : Int), (0 : Int), (0 : Int), [], ())), (([] : Go.Eng.Gd), Res.gone)]) ∧ ∀ (x : Nat × TD), x.fst ≤ (256 : Nat) ∧ Formed ms fs bound x.snd ∧ x.snd.snd.snd.snd.snd.snd.snd.snd.snd.snd.fst = he ∧ x.snd.fst = id ∧ x.snd.snd.snd.snd.fst.length = (8 : Nat) ∧ stlS fs bound ((256 : Nat) - x.fst) x.snd = stlS fs bound (256 : Nat) (id, fn, pc, rg, st, ch, ph, su, fa, he, ()) → ((0 : I6.den) ≤ x.snd.snd.fst ∧ x.snd.snd.fst < (↑fs.length : I6.den) ∧ (0 : I6.den) ≤ x.snd.snd.snd.fst) ∧ br (!(atR fs x.snd.snd.fst x.snd.snd.snd.fst).snd) (True ∧ ([] : List Go.Eng.Res) = [] ∧ Ent.one (SV.dat shT (stlS fs bound (256 : Nat) (id, fn, pc, rg, st, ch, ph, su, fa, he, ()))) = Ent.one (SV.dat shT (endS x.snd (2 : Int) (0 : Int)))) (True ∧ br (visS (atR fs x.snd.snd.fst x.snd.snd.snd.fst).fst.fst) ((List.length x.snd.snd.snd.snd.snd.snd.snd.snd.snd.snd.fst ≤ (1000000 : Nat) ∧ x.snd.fst ≤ (9223372036854775807 : I6.den)) ∧ br (!decide (obsS x.snd.fst x.snd.snd.snd.snd.snd.snd.fst x.snd.snd.snd.snd.snd.snd.snd.fst x.snd.snd.snd.snd.snd.snd.snd.snd.snd.snd.fst (atR fs x.snd.snd.fst x.snd.snd.snd.fst).fst = (0 : Int))) (True ∧ ([] : List Go.Eng.Res) = [] ∧ Ent.one (SV.dat shT (stlS fs bound (256 : Nat) (id, fn, pc, rg, st, ch, ph, su, fa, he, ()))) = Ent.one (SV.dat shT (endS x.snd (3 : Int) (obsS x.snd.fst x.snd.snd.snd.snd.snd.snd.fst x.snd.snd.snd.snd.snd.snd.snd.fst x.snd.snd.snd.snd.snd.snd.snd.snd.snd.snd.fst (atR fs x.snd.snd.fst x.snd.snd.snd.fst).fst)))) (br (decide (x.snd.snd.snd.snd.snd.fst = bound)) (True ∧ ([] : List Go.Eng.Res) = [] ∧ Ent.one (SV.dat shT (stlS fs bound (256 : Nat) (id, fn, pc, rg, st, ch, ph, su, fa, he, ()))) = Ent.one (SV.dat shT (endS x.snd (4 : Int) (0 : Int)))) (([] : List Go.Eng.Res) = [] ∧ Ent.one (SV.dat shT (stlS fs bound (256 : Nat) (id, fn, pc, rg, st, ch, ph, su, fa, he, ()))) = Ent.one (SV.dat shT (x.snd))))) (br (decide ((↑x.fst : Int) = (256 : Int))) (True ∧ ([] : List Go.Eng.Res) = [] ∧ Ent.one (SV.dat shT (stlS fs bound (256 : Nat) (id, fn, pc, rg, st, ch, ph, su, fa, he, ()))) = Ent.one (SV.dat shT (endS x.snd (3 : Int) (29 : Int)))) ((((0 : I6.den) ≤ (atR fs x.snd.snd.fst x.snd.snd.snd.fst).fst.snd.fst ∧ (atR fs x.snd.snd.fst x.snd.snd.snd.fst).fst.snd.fst < (8 : I6.den)) ∧ ((0 : I6.den) ≤ (atR fs x.snd.snd.fst x.snd.snd.snd.fst).fst.snd.snd.fst ∧ (atR fs x.snd.snd.fst x.snd.snd.snd.fst).fst.snd.snd.fst < (8 : I6.den)) ∧ ((0 : I6.den) ≤ (atR fs x.snd.snd.fst x.snd.snd.snd.fst).fst.snd.snd.snd.fst ∧ (atR fs x.snd.snd.fst x.snd.snd.snd.fst).fst.snd.snd.snd.fst < (8 : I6.den)) ∧ (0 : I6.den) ≤ x.snd.snd.snd.fst ∧ x.snd.snd.snd.fst ≤ (1000000 : I6.den)) ∧ br (!(locS x.snd (atR fs x.snd.snd.fst x.snd.snd.snd.fst).fst).snd) (([] : List Go.Eng.Res) = [] ∧ Ent.one (SV.dat shT (stlS fs bound (256 : Nat) (id, fn, pc, rg, st, ch, ph, su, fa, he, ()))) = Ent.one (SV.dat shT ((locS x.snd (atR fs x.snd.snd.fst x.snd.snd.snd.fst).fst).fst))) (InR IntKind.i64 ((↑x.fst : Int) + (1 : Int)) ∧ ∃ (x' : Nat × TD), (x'.fst ≤ (256 : Nat) ∧ Formed ms fs bound x'.snd ∧ x'.snd.snd.snd.snd.snd.snd.snd.snd.snd.snd.fst = he ∧ x'.snd.fst = id ∧ x'.snd.snd.snd.snd.fst.length = (8 : Nat) ∧ stlS fs bound ((256 : Nat) - x'.fst) x'.snd = stlS fs bound (256 : Nat) (id, fn, pc, rg, st, ch, ph, su, fa, he, ())) ∧ (SV.c (SC.v (Value.int IntKind.i64 ((↑x.fst : Int) + (1 : Int)))) = SV.c (SC.v (Value.int IntKind.i64 (↑x'.fst : Int))) ∧ True) ∧ [(([] : Go.Eng.Gd), Res.blk (43 : Nat) [SC.sl (Sh.str.pair (I6.pair Sh.unit)) vs, SC.sl Sh.str ms, SC.sl Sh.str cs, SC.sl (Sh.str.pair (shI.sl.pair Sh.unit)) fs, SC.sl (I6.pair (I6.pair Sh.unit)) ts]), (([] : Go.Eng.Gd), Res.obj (28 : TypeId) shT ((locS x.snd (atR fs x.snd.snd.fst x.snd.snd.snd.fst).fst).fst)), (([] : Go.Eng.Gd), Res.obj (28 : Nat) shT ((0 : Int), (0 : Int), (0 : Int), List.replicate (8 : Nat) (0 : Int), (0 : Int), (0 : Int), (0 : Int), (0 : Int), (0 : Int), [], ())), (([] : Go.Eng.Gd), Res.gone)] = [(([] : Go.Eng.Gd), Res.blk (43 : Nat) [SC.sl (Sh.str.pair (I6.pair Sh.unit)) vs, SC.sl Sh.str ms, SC.sl Sh.str cs, SC.sl (Sh.str.pair (shI.sl.pair Sh.unit)) fs, SC.sl (I6.pair (I6.pair Sh.unit)) ts]), (([] : Go.Eng.Gd), Res.obj (28 : TypeId) shT x'.snd), (([] : Go.Eng.Gd), Res.obj (28 : Nat) shT ((0 : Int), (0 : Int), (0 : Int), List.replicate (8 : Nat) (0 : Int), (0 : Int), (0 : Int), (0 : Int), (0 : Int), (0 : Int), [], ())), (([] : Go.Eng.Gd), Res.gone)] ∧ (257 : Nat) - x'.fst < (257 : Nat) - x.fst)))) := by
  obtain ⟨hc, hF, hhe, hid, hrg⟩ : (chkP vs ms cs fs ts).1 = 0 ∧ Formed ms fs bound (id, fn, pc, rg, st, ch, ph, su, fa, he, ()) ∧ he.length ≤ 1000000 ∧ id ≤ 9223372036854775807 ∧ rg.length = 8 := hpre
  refine ⟨hhe, ⟨(0, (id, fn, pc, rg, st, ch, ph, su, fa, he, ())), ⟨by omega, hF, rfl, rfl, hrg, rfl⟩, ⟨rfl, trivial⟩, rfl⟩, fun x hx => ?_⟩
  obtain ⟨k, id', fn', pc', rg', st', ch', ph', su', fa', he', ⟨⟩⟩ := x
  obtain ⟨x1, x2, x3, x4, x5, x6⟩ := hx
  have x1 : k ≤ 256 := x1
  have x3 : he' = he := x3
  have x4 : id' = id := x4
  have x5 : rg'.length = 8 := x5
  have x6 : stlS fs bound (256 - k) (id', fn', pc', rg', st', ch', ph', su', fa', he', ()) = stlS fs bound 256 (id, fn, pc, rg, st, ch, ph, su, fa, he, ()) := x6
  have x2 : Formed ms fs bound (id', fn', pc', rg', st', ch', ph', su', fa', he', ()) := x2
  subst x3; subst x4
  rw [← x6]
  have hfn := x2.2.1
  have hpc := x2.2.2.1
  refine ⟨⟨hfn.1, hfn.2, hpc.1⟩, ?_⟩
  show br (!(atR fs fn' pc').2) _ _
  cases ha : atS fs fn' pc' with
  | none =>
    rw [show atR fs fn' pc' = ((0, 0, 0, 0, 0, 0, 0, 0, ()), false) by unfold atR; rw [ha]]
    refine br_iff.2 ⟨fun _ => ⟨trivial, rfl, ?_⟩, fun q => by simp at q⟩
    rw [stl_none ha]; rfl
  | some i =>
    rw [show atR fs fn' pc' = (i, true) by unfold atR; rw [ha]]
    obtain ⟨r1, r2, r3, r4⟩ := chkI_regs (ci_zero (at_ok hc hfn ha)).1
    have h64 := code_short hc hfn
    refine br_iff.2 ⟨fun q => by simp at q, fun _ => ⟨trivial, br_iff.2 ⟨fun hv => ?_, fun hv => ?_⟩⟩⟩
    · have hv : visS i.1 = true := hv
      rw [stl_vis ha hv]
      refine ⟨⟨hhe, hid⟩, br_iff.2 ⟨fun h1 => ?_, fun h1 => br_iff.2 ⟨fun h2 => ?_, fun h2 => ?_⟩⟩⟩
      · have h1 : obsS id' ch' ph' he' i ≠ 0 := by simpa using h1
        rw [if_pos h1]; exact ⟨trivial, rfl, rfl⟩
      · have h1 : ¬ obsS id' ch' ph' he' i ≠ 0 := by simpa using h1
        have h2 : st' = bound := by simpa using h2
        rw [if_neg h1, if_pos h2]; exact ⟨trivial, rfl, rfl⟩
      · have h1 : ¬ obsS id' ch' ph' he' i ≠ 0 := by simpa using h1
        have h2 : ¬ st' = bound := by simpa using h2
        rw [if_neg h1, if_neg h2]; exact ⟨rfl, rfl⟩
    · have hv : visS i.1 = false := hv
      refine br_iff.2 ⟨fun h1 => ?_, fun h1 => ?_⟩
      · have h1 : k = 256 := by have : (k : Int) = 256 := by simpa using h1
                                omega
        rw [h1, show 256 - 256 = 0 from rfl, stl_zero ha hv]
        exact ⟨trivial, rfl, rfl⟩
      · have h1 : ¬ k = 256 := by have : ¬ (k : Int) = 256 := by simpa using h1
                                  omega
        obtain ⟨m, hm⟩ : ∃ m, 256 - k = m + 1 := ⟨255 - k, by omega⟩
        rw [hm, stl_succ ha hv]
        have hk := loc_keep (id', fn', pc', rg', st', ch', ph', su', fa', he', ()) i
        have hlen := loc_len (id', fn', pc', rg', st', ch', ph', su', fa', he', ()) i
        have hfo := loc_formed hc x2 ha hv
        refine ⟨⟨r1, r2, r3, hpc.1, show pc' ≤ 1000000 by omega⟩, br_iff.2 ⟨fun h2 => ?_, fun h2 => ⟨InR_i64.2 (show (-9223372036854775808 : Int) ≤ (k : Int) + 1 ∧ (k : Int) + 1 ≤ 9223372036854775807 by omega), (k + 1, (locS (id', fn', pc', rg', st', ch', ph', su', fa', he', ()) i).1), ⟨show k + 1 ≤ 256 by omega, hfo, hk.2.2.2.2.2.1, hk.1, hlen.trans x5, ?_⟩, ⟨rfl, trivial⟩, rfl, show 257 - (k + 1) < 257 - k by omega⟩⟩⟩
        · have h2 : ¬ (locS (id', fn', pc', rg', st', ch', ph', su', fa', he', ()) i).2 = true := by simpa using h2
          rw [if_neg h2]; exact ⟨rfl, rfl⟩
        · have h2 : (locS (id', fn', pc', rg', st', ch', ph', su', fa', he', ()) i).2 = true := by simpa using h2
          show stlS fs bound (256 - (k + 1)) _ = _
          rw [if_pos h2, show 256 - (k + 1) = m by omega]
set_option maxHeartbeats 2000000 in
set_option maxRecDepth 100000 in
theorem f31_met : Go.Eng.Met Tryd.prog cx0.gd 31 ctStl :=
  (met_all (cx := cx0) (n := 59) (cl := cl31) (il := il31) (hl := hl31) (ml := ml31) (rc := [.data shT]) (lits := []) (suf := []) (by kernel_rfl) tis_ok ⟨f40_met, f34_met, f41_met, f42_met, f43_met, f44_met, trivial⟩ trivial trivial trivial Tryd.func31 (by kernel_rfl) (by kernel_rfl) rfl (by kernel_rfl) (by kernel_rfl) (by simp) fun d hd => by
    obtain ⟨⟨vs, ms, cs, fs, ts, ⟨⟩⟩, bound, ⟨id, fn, pc, rg, st, ch, ph, su, fa, he, ⟨⟩⟩, ⟨⟩⟩ := d
    exact ex_of (ann31 vs ms cs fs ts bound id fn pc rg st ch ph su fa he) (f31_vc vs ms cs fs ts bound id fn pc rg st ch ph su fa he hd) (by kernel_rfl)).met
end Go.Proofs.YtklnffdjhoacoaaDoor
set_option linter.unusedSimpArgs false
set_option linter.unusedVariables false
set_option maxRecDepth 100000
namespace Go.Proofs.YtklnffdjhoacoaaDoor
open Go Go.Eng

theorem val_wrap (n : Int) : valS n = decide (wrapS n = n) := by
  unfold valS
  rw [Bool.eq_iff_iff, decide_eq_true_iff, decide_eq_true_iff, wrapS_id]
theorem co_ms {vs : List VD} {ms cs : List ByteArray} {fs : List FD} (h : coS vs ms cs fs = 0) : ms.length ≤ 4 := by
  unfold coS at h
  split at h
  · cases h
  · omega
theorem formed_short {ms : List ByteArray} {fs : List FD} {bound : Int} {t : TD} (h : Formed ms fs bound t) (hm : ms.length ≤ 4) : t.2.2.2.2.2.2.2.2.2.1.length ≤ 4 := by
  obtain ⟨id, fn, pc, rg, st, ch, ph, su, fa, he, u⟩ := t
  exact Nat.le_trans (ss_short h.2.2.2.2.2.2.1 h.2.2.2.2.2.2.2.1) hm
theorem formed_id {ms : List ByteArray} {fs : List FD} {bound : Int} {t : TD} (h : Formed ms fs bound t) : t.1 ≤ 9223372036854775807 := by
  obtain ⟨id, fn, pc, rg, st, ch, ph, su, fa, he, u⟩ := t
  have := depthI_lt h.1
  show id ≤ 9223372036854775807
  omega
theorem cmp_len (t : TD) (i : ID) (r : Int) : (cmpS t i r).2.2.2.1.length = t.2.2.2.1.length := by
  obtain ⟨id, fn, pc, rg, st, ch, ph, su, fa, hd, u⟩ := t
  have e : (if (defS i).2 = true then rg.set (defS i).1.toNat r else rg).length = rg.length := by split <;> simp
  unfold cmpS
  simp only
  split
  · split
    · exact e
    split
    · exact e
    · exact e
  · exact e
theorem defS_reg {i : ID} (h : chkI i = 0) (hd : (defS i).2 = true) : 0 ≤ (defS i).1 ∧ (defS i).1 < 8 := by
  obtain ⟨r1, _⟩ := chkI_regs h
  unfold defS at hd ⊢
  split at hd
  · cases hd
  · rename_i q; rw [if_neg q]; exact r1
@[reducible] def ctNew : CT := { ps := [shP, .int .i64, .int .i64, .int .i64, .int .i64], pre := fun d => bnd (d.1, ()) ∧ d.2.2.1 ≤ 9223372036854775807, res := fun d => ([], .tup [.dat shT (newS (chkP d.1.1 d.1.2.1 d.1.2.2.1 d.1.2.2.2.1 d.1.2.2.2.2.1).1 d.1.2.2.2.1 d.2.1 d.2.2.1 d.2.2.2.1 d.2.2.2.2.1).1, .c (.v (.int .i64 (newS (chkP d.1.1 d.1.2.1 d.1.2.2.1 d.1.2.2.2.1 d.1.2.2.2.2.1).1 d.1.2.2.2.1 d.2.1 d.2.2.1 d.2.2.2.1 d.2.2.2.2.1).2))]) }
@[reducible] noncomputable def cl16 : List (Nat × CT) := [(29, ctStd), (22, ctDep), (30, ctWrap), (31, ctStl)]
@[reducible] def ann16 (vs : List VD) (ms : List ByteArray) (cs : List ByteArray) (fs : List FD) (ts : List SD) (bound : Int) (id : Int) (fn : Int) (arg : Int) : Nat → Option (St → Ann) := fun _ => none
@[reducible] def il16 : List (Nat × IP) := []
@[reducible] def hl16 : List (Nat × Nat × CT) := []
@[reducible] noncomputable def ml16 : List (Nat × MK) := []
set_option maxRecDepth 100000 in
theorem f16_vc (vs : List VD) (ms : List ByteArray) (cs : List ByteArray) (fs : List FD) (ts : List SD) (bound : Int) (id : Int) (fn : Int) (arg : Int) (hpre : ctNew.pre ((vs, ms, cs, fs, ts, ()), bound, id, fn, arg, ())) :
    (vs.length ≤ (1000000 : Nat) ∧ ms.length ≤ (1000000 : Nat) ∧ cs.length ≤ (1000000 : Nat) ∧ fs.length ≤ (1000000 : Nat) ∧ ts.length ≤ (1000000 : Nat) ∧ (∀ (x : Sh.str.den × (shI.sl.pair Sh.unit).den), x ∈ fs → List.length x.snd.fst ≤ (1000000 : Nat)) ∧ (instL fs).length ≤ (1000000 : Nat)) ∧ br (!decide (stdS (chkP vs ms cs fs ts).fst bound = (0 : Int))) (([] : List Go.Eng.Res) = [] ∧ Ent.tup [SV.dat shT (newS (chkP vs ms cs fs ts).fst fs bound id fn arg).fst, SV.c (SC.v (Value.int IntKind.i64 (newS (chkP vs ms cs fs ts).fst fs bound id fn arg).snd))] = Ent.tup [SV.dat shT (((0 : Int), (0 : Int), (0 : Int), [(0 : Int), (0 : Int), (0 : Int), (0 : Int), (0 : Int), (0 : Int), (0 : Int), (0 : Int)], (0 : Int), (0 : Int), (0 : Int), (0 : Int), (0 : Int), [], ())), SV.c (SC.v (Value.int IntKind.i64 (stdS (chkP vs ms cs fs ts).fst bound)))]) (id ≤ (9223372036854775807 : I6.den) ∧ br (decide (depthI id < (0 : Int))) (([] : List Go.Eng.Res) = [] ∧ Ent.tup [SV.dat shT (newS (chkP vs ms cs fs ts).fst fs bound id fn arg).fst, SV.c (SC.v (Value.int IntKind.i64 (newS (chkP vs ms cs fs ts).fst fs bound id fn arg).snd))] = Ent.tup [SV.dat shT (((0 : Int), (0 : Int), (0 : Int), [(0 : Int), (0 : Int), (0 : Int), (0 : Int), (0 : Int), (0 : Int), (0 : Int), (0 : Int)], (0 : Int), (0 : Int), (0 : Int), (0 : Int), (0 : Int), [], ())), SV.c (SC.v (Value.int IntKind.i64 (2 : Int)))]) (br (decide (fn < (0 : Int)) || decide ((↑fs.length : Int) ≤ fn)) (([] : List Go.Eng.Res) = [] ∧ Ent.tup [SV.dat shT (newS (chkP vs ms cs fs ts).fst fs bound id fn arg).fst, SV.c (SC.v (Value.int IntKind.i64 (newS (chkP vs ms cs fs ts).fst fs bound id fn arg).snd))] = Ent.tup [SV.dat shT (((0 : Int), (0 : Int), (0 : Int), [(0 : Int), (0 : Int), (0 : Int), (0 : Int), (0 : Int), (0 : Int), (0 : Int), (0 : Int)], (0 : Int), (0 : Int), (0 : Int), (0 : Int), (0 : Int), [], ())), SV.c (SC.v (Value.int IntKind.i64 (11 : Int)))]) (True ∧ br (!decide (wrapS arg = arg)) (([] : List Go.Eng.Res) = [] ∧ Ent.tup [SV.dat shT (newS (chkP vs ms cs fs ts).fst fs bound id fn arg).fst, SV.c (SC.v (Value.int IntKind.i64 (newS (chkP vs ms cs fs ts).fst fs bound id fn arg).snd))] = Ent.tup [SV.dat shT (((0 : Int), (0 : Int), (0 : Int), [(0 : Int), (0 : Int), (0 : Int), (0 : Int), (0 : Int), (0 : Int), (0 : Int), (0 : Int)], (0 : Int), (0 : Int), (0 : Int), (0 : Int), (0 : Int), [], ())), SV.c (SC.v (Value.int IntKind.i64 (2 : Int)))]) (((0 : Int) ≤ (0 : Int) ∧ (0 : Int) < (8 : Int)) ∧ (0 : Nat) < (8 : Nat) ∧ ((chkP vs ms cs fs ts).fst = (0 : Int) ∧ Formed ms fs bound (id, fn, (0 : Int), [(0 : Int), (0 : Int), (0 : Int), (0 : Int), (0 : Int), (0 : Int), (0 : Int), (0 : Int)].set (0 : Nat) arg, (0 : Int), (0 : Int), (0 : Int), (1 : Int), (0 : Int), [], ()) ∧ (0 : Nat) ≤ (1000000 : Nat) ∧ id ≤ (9223372036854775807 : I6.den) ∧ ([(0 : Int), (0 : Int), (0 : Int), (0 : Int), (0 : Int), (0 : Int), (0 : Int), (0 : Int)].set (0 : Nat) arg).length = (8 : Nat)) ∧ ([] : List Go.Eng.Res) = [] ∧ Ent.tup [SV.dat shT (newS (chkP vs ms cs fs ts).fst fs bound id fn arg).fst, SV.c (SC.v (Value.int IntKind.i64 (newS (chkP vs ms cs fs ts).fst fs bound id fn arg).snd))] = Ent.tup [SV.dat shT (stlS fs bound (256 : Nat) (id, fn, (0 : Int), [(0 : Int), (0 : Int), (0 : Int), (0 : Int), (0 : Int), (0 : Int), (0 : Int), (0 : Int)].set (0 : Nat) arg, (0 : Int), (0 : Int), (0 : Int), (1 : Int), (0 : Int), [], ())), SV.c (SC.v (Value.int IntKind.i64 (0 : Int)))])))) := by
  obtain ⟨hb, hid⟩ : bnd ((vs, ms, cs, fs, ts, ()), ()) ∧ id ≤ 9223372036854775807 := hpre
  refine ⟨hb, br_iff.2 ⟨fun h => ?_, fun h => ⟨hid, br_iff.2 ⟨fun h2 => ?_, fun h2 => br_iff.2 ⟨fun h3 => ?_, fun h3 => ⟨trivial, br_iff.2 ⟨fun h4 => ?_, fun h4 => ?_⟩⟩⟩⟩⟩⟩⟩
  · have h : stdS (chkP vs ms cs fs ts).1 bound ≠ 0 := by simpa using h
    have e : newS (chkP vs ms cs fs ts).1 fs bound id fn arg = (zT, stdS (chkP vs ms cs fs ts).1 bound) := by unfold newS; rw [if_pos h]
    rw [e]; exact ⟨rfl, rfl⟩
  all_goals have h : ¬ stdS (chkP vs ms cs fs ts).1 bound ≠ 0 := by simpa using h
  · have h2 : depthI id < 0 := by simpa using h2
    have e : newS (chkP vs ms cs fs ts).1 fs bound id fn arg = (zT, 2) := by unfold newS; rw [if_neg h, if_pos h2]
    rw [e]; exact ⟨rfl, rfl⟩
  all_goals have h2 : ¬ depthI id < 0 := by simpa using h2
  · have h3 : fn < 0 ∨ (fs.length : Int) ≤ fn := by simpa using h3
    have e : newS (chkP vs ms cs fs ts).1 fs bound id fn arg = (zT, 11) := by unfold newS; rw [if_neg h, if_neg h2, if_pos h3]
    rw [e]; exact ⟨rfl, rfl⟩
  all_goals have h3 : ¬ (fn < 0 ∨ (fs.length : Int) ≤ fn) := by simp only [Bool.or_eq_false_iff, decide_eq_false_iff_not] at h3; omega
  · have h4 : valS arg = false := by rw [val_wrap]; simpa using h4
    have e : newS (chkP vs ms cs fs ts).1 fs bound id fn arg = (zT, 2) := by unfold newS; rw [if_neg h, if_neg h2, if_neg h3, if_pos h4]
    rw [e]; exact ⟨rfl, rfl⟩
  · have h4 : ¬ valS arg = false := by rw [val_wrap]; simpa using h4
    have e : newS (chkP vs ms cs fs ts).1 fs bound id fn arg = (stlS fs bound 256 (id, fn, 0, [arg, 0, 0, 0, 0, 0, 0, 0], 0, 0, 0, 1, 0, [], ()), 0) := by unfold newS; rw [if_neg h, if_neg h2, if_neg h3, if_neg h4]
    have hs := std_zero.1 (Classical.not_not.1 h)
    rw [e]
    exact ⟨⟨by omega, by omega⟩, by omega, ⟨hs.1, new_formed ms hs.2.1 h2 h3 h4, by omega, hid, rfl⟩, rfl, rfl⟩
set_option maxHeartbeats 2000000 in
set_option maxRecDepth 100000 in
theorem f16_met : Go.Eng.Met Tryd.prog cx0.gd 16 ctNew :=
  (met_all (cx := cx0) (n := 50) (cl := cl16) (il := il16) (hl := hl16) (ml := ml16) (rc := [.data shT, .keep]) (lits := []) (suf := []) (by kernel_rfl) tis_ok ⟨f29_met, f22_met, f30_met, f31_met, trivial⟩ trivial trivial trivial Tryd.func16 (by kernel_rfl) (by kernel_rfl) rfl (by kernel_rfl) (by kernel_rfl) (by simp) fun d hd => by
    obtain ⟨⟨vs, ms, cs, fs, ts, ⟨⟩⟩, bound, id, fn, arg, ⟨⟩⟩ := d
    exact ex_of (ann16 vs ms cs fs ts bound id fn arg) (f16_vc vs ms cs fs ts bound id fn arg hd) (by kernel_rfl)).met
@[reducible] noncomputable def ctTV : CT := { ps := [shP, .int .i64, shT], pre := fun d => bnd (d.1, ()) ∧ d.2.2.1.2.2.2.2.2.2.2.2.2.1.length ≤ 1000000 ∧ d.2.2.1.1 ≤ 9223372036854775807 ∧ d.2.2.1.2.2.2.1.length = 8, res := fun d => ([], vB (decide (stdS (chkP d.1.1 d.1.2.1 d.1.2.2.1 d.1.2.2.2.1 d.1.2.2.2.2.1).1 d.2.1 = 0) && vldB d.1.2.1 d.1.2.2.2.1 d.2.1 d.2.2.1)) }
@[reducible] noncomputable def cl17 : List (Nat × CT) := [(29, ctStd), (32, ctVal2)]
@[reducible] def ann17 (vs : List VD) (ms : List ByteArray) (cs : List ByteArray) (fs : List FD) (ts : List SD) (bound : Int) (id : Int) (fn : Int) (pc : Int) (rg : List Int) (st : Int) (ch : Int) (ph : Int) (su : Int) (fa : Int) (he : List Int) : Nat → Option (St → Ann) := fun _ => none
@[reducible] def il17 : List (Nat × IP) := []
@[reducible] def hl17 : List (Nat × Nat × CT) := []
@[reducible] noncomputable def ml17 : List (Nat × MK) := []
set_option maxRecDepth 100000 in
theorem f17_vc (vs : List VD) (ms : List ByteArray) (cs : List ByteArray) (fs : List FD) (ts : List SD) (bound : Int) (id : Int) (fn : Int) (pc : Int) (rg : List Int) (st : Int) (ch : Int) (ph : Int) (su : Int) (fa : Int) (he : List Int) (hpre : ctTV.pre ((vs, ms, cs, fs, ts, ()), bound, (id, fn, pc, rg, st, ch, ph, su, fa, he, ()), ())) :
    (vs.length ≤ (1000000 : Nat) ∧ ms.length ≤ (1000000 : Nat) ∧ cs.length ≤ (1000000 : Nat) ∧ fs.length ≤ (1000000 : Nat) ∧ ts.length ≤ (1000000 : Nat) ∧ (∀ (x : Sh.str.den × (shI.sl.pair Sh.unit).den), x ∈ fs → List.length x.snd.fst ≤ (1000000 : Nat)) ∧ (instL fs).length ≤ (1000000 : Nat)) ∧ (decide (stdS (chkP vs ms cs fs ts).fst bound = (0 : Int)) = true → (chkP vs ms cs fs ts).fst = (0 : Int) ∧ he.length ≤ (1000000 : Nat) ∧ id ≤ (9223372036854775807 : I6.den) ∧ rg.length = (8 : Nat)) ∧ ([] : List Go.Eng.Res) = [] ∧ Ent.one (SV.c (SC.v (Value.bool (decide (stdS (chkP vs ms cs fs ts).fst bound = (0 : Int)) && vldB ms fs bound (id, fn, pc, rg, st, ch, ph, su, fa, he, ()))))) = Ent.one (SV.c (SC.v (Value.bool (decide (stdS (chkP vs ms cs fs ts).fst bound = (0 : Int)) && vldB ms fs bound (id, fn, pc, rg, st, ch, ph, su, fa, he, ()))))) := by
  obtain ⟨hb, hhe, hid, hrg⟩ : bnd ((vs, ms, cs, fs, ts, ()), ()) ∧ he.length ≤ 1000000 ∧ id ≤ 9223372036854775807 ∧ rg.length = 8 := hpre
  exact ⟨hb, fun h => ⟨(std_zero.1 (of_decide_eq_true h)).1, hhe, hid, hrg⟩, rfl, rfl⟩
set_option maxHeartbeats 2000000 in
set_option maxRecDepth 100000 in
theorem f17_met : Go.Eng.Met Tryd.prog cx0.gd 17 ctTV :=
  (met_all (cx := cx0) (n := 17) (cl := cl17) (il := il17) (hl := hl17) (ml := ml17) (rc := []) (lits := []) (suf := []) (by kernel_rfl) tis_ok ⟨f29_met, f32_met, trivial⟩ trivial trivial trivial Tryd.func17 (by kernel_rfl) (by kernel_rfl) rfl (by kernel_rfl) (by kernel_rfl) (by simp) fun d hd => by
    obtain ⟨⟨vs, ms, cs, fs, ts, ⟨⟩⟩, bound, ⟨id, fn, pc, rg, st, ch, ph, su, fa, he, ⟨⟩⟩, ⟨⟩⟩ := d
    exact ex_of (ann17 vs ms cs fs ts bound id fn pc rg st ch ph su fa he) (f17_vc vs ms cs fs ts bound id fn pc rg st ch ph su fa he hd) (by kernel_rfl)).met
def waitS : TD → Int → TD
  | (id, fn, pc, rg, st, ch, ph, su, fa, he, _), m => if ph = 0 then (id, fn, pc, rg, st, ch, 1, su, fa, remI he m, ()) else if ph = 1 then (id, fn, pc, rg, st, ch, 2, su, fa, he, ()) else (id, fn, pc + 1, rg, st, ch, 0, su, fa, addI he m, ())
@[reducible] def ctWai : CT := { ps := [shT, .int .i64], pre := fun d => d.1.2.2.2.2.2.2.2.2.2.1.length ≤ 999999 ∧ 0 ≤ d.1.2.2.1 ∧ d.1.2.2.1 ≤ 1000000, res := fun d => ([], .one (.dat shT (waitS d.1 d.2.1))) }
@[reducible] def cl36 : List (Nat × CT) := [(38, ctRem), (37, ctAdd)]
@[reducible] def ann36 (id : Int) (fn : Int) (pc : Int) (rg : List Int) (st : Int) (ch : Int) (ph : Int) (su : Int) (fa : Int) (he : List Int) (m : Int) : Nat → Option (St → Ann) := fun _ => none
@[reducible] def il36 : List (Nat × IP) := []
@[reducible] def hl36 : List (Nat × Nat × CT) := []
@[reducible] def ml36 : List (Nat × MK) := []
set_option maxRecDepth 100000 in
theorem f36_vc (id : Int) (fn : Int) (pc : Int) (rg : List Int) (st : Int) (ch : Int) (ph : Int) (su : Int) (fa : Int) (he : List Int) (m : Int) (hpre : ctWai.pre ((id, fn, pc, rg, st, ch, ph, su, fa, he, ()), m, ())) :
    br (decide (ph = (0 : Int))) (he.length ≤ (1000000 : Nat) ∧ ([] : List Go.Eng.Res) = [] ∧ Ent.one (SV.dat shT (waitS (id, fn, pc, rg, st, ch, ph, su, fa, he, ()) m)) = Ent.one (SV.dat shT ((id, fn, pc, rg, st, ch, (1 : Int), su, fa, filI (makeI he) [m] false, ())))) (br (decide (ph = (1 : Int))) (([] : List Go.Eng.Res) = [] ∧ Ent.one (SV.dat shT (waitS (id, fn, pc, rg, st, ch, ph, su, fa, he, ()) m)) = Ent.one (SV.dat shT ((id, fn, pc, rg, st, ch, (2 : Int), su, fa, he, ())))) (he.length ≤ (999999 : Nat) ∧ InR IntKind.i64 (pc + (1 : Int)) ∧ ([] : List Go.Eng.Res) = [] ∧ Ent.one (SV.dat shT (waitS (id, fn, pc, rg, st, ch, ph, su, fa, he, ()) m)) = Ent.one (SV.dat shT ((id, fn, pc + (1 : Int), rg, st, ch, (0 : Int), su, fa, makeI (he ++ [m]), ()))))) := by
  obtain ⟨hhe, hp0, hp1⟩ : he.length ≤ 999999 ∧ 0 ≤ pc ∧ pc ≤ 1000000 := hpre
  refine br_iff.2 ⟨fun h => ?_, fun h => br_iff.2 ⟨fun h2 => ?_, fun h2 => ?_⟩⟩
  · have h : ph = 0 := by simpa using h
    have e : waitS (id, fn, pc, rg, st, ch, ph, su, fa, he, ()) m = (id, fn, pc, rg, st, ch, 1, su, fa, remI he m, ()) := by simp only [waitS]; rw [if_pos h]
    rw [e]; exact ⟨by omega, rfl, rfl⟩
  · have h : ¬ ph = 0 := by simpa using h
    have h2 : ph = 1 := by simpa using h2
    have e : waitS (id, fn, pc, rg, st, ch, ph, su, fa, he, ()) m = (id, fn, pc, rg, st, ch, 2, su, fa, he, ()) := by simp only [waitS]; rw [if_neg h, if_pos h2]
    rw [e]; exact ⟨rfl, rfl⟩
  · have h : ¬ ph = 0 := by simpa using h
    have h2 : ¬ ph = 1 := by simpa using h2
    have e : waitS (id, fn, pc, rg, st, ch, ph, su, fa, he, ()) m = (id, fn, pc + 1, rg, st, ch, 0, su, fa, addI he m, ()) := by simp only [waitS]; rw [if_neg h, if_neg h2]
    rw [e]; exact ⟨hhe, InR_i64.2 (by omega), rfl, rfl⟩
set_option maxHeartbeats 2000000 in
set_option maxRecDepth 100000 in
theorem f36_met : Go.Eng.Met Tryd.prog cx0.gd 36 ctWai :=
  (met_all (cx := cx0) (n := 29) (cl := cl36) (il := il36) (hl := hl36) (ml := ml36) (rc := [.data shT]) (lits := []) (suf := []) (by kernel_rfl) tis_ok ⟨f38_met, f37_met, trivial⟩ trivial trivial trivial Tryd.func36 (by kernel_rfl) (by kernel_rfl) rfl (by kernel_rfl) (by kernel_rfl) (by simp) fun d hd => by
    obtain ⟨⟨id, fn, pc, rg, st, ch, ph, su, fa, he, ⟨⟩⟩, m, ⟨⟩⟩ := d
    exact ex_of (ann36 id fn pc rg st ch ph su fa he m) (f36_vc id fn pc rg st ch ph su fa he m hd) (by kernel_rfl)).met
@[reducible] noncomputable def ctCom : CT := { ps := [shP, .int .i64, shT, .int .i64], pre := fun d => bnd (d.1, ()) ∧ d.2.2.1.2.2.2.2.2.2.2.2.2.1.length ≤ 1000000 ∧ d.2.2.1.1 ≤ 9223372036854775807 ∧ d.2.2.1.2.2.2.1.length = 8, res := fun d => ([], .tup [.dat shT (comS (chkP d.1.1 d.1.2.1 d.1.2.2.1 d.1.2.2.2.1 d.1.2.2.2.2.1).1 d.1.2.1 d.1.2.2.2.1 d.2.1 d.2.2.1 d.2.2.2.1).1, .c (.v (.int .i64 (comS (chkP d.1.1 d.1.2.1 d.1.2.2.1 d.1.2.2.2.1 d.1.2.2.2.2.1).1 d.1.2.1 d.1.2.2.2.1 d.2.1 d.2.2.1 d.2.2.2.1).2))]) }
@[reducible] noncomputable def cl21 : List (Nat × CT) := [(29, ctStd), (32, ctVal2), (30, ctWrap), (34, ctAt), (35, ctDef), (31, ctStl), (36, ctWai), (37, ctAdd), (38, ctRem)]
@[reducible] def ann21 (vs : List VD) (ms : List ByteArray) (cs : List ByteArray) (fs : List FD) (ts : List SD) (bound : Int) (id : Int) (fn : Int) (pc : Int) (rg : List Int) (st : Int) (ch : Int) (ph : Int) (su : Int) (fa : Int) (he : List Int) (r : Int) : Nat → Option (St → Ann) := fun _ => none
@[reducible] def il21 : List (Nat × IP) := []
@[reducible] def hl21 : List (Nat × Nat × CT) := []
@[reducible] noncomputable def ml21 : List (Nat × MK) := []
set_option maxRecDepth 100000 in
theorem f21_vc (vs : List VD) (ms : List ByteArray) (cs : List ByteArray) (fs : List FD) (ts : List SD) (bound : Int) (id : Int) (fn : Int) (pc : Int) (rg : List Int) (st : Int) (ch : Int) (ph : Int) (su : Int) (fa : Int) (he : List Int) (r : Int) (hpre : ctCom.pre ((vs, ms, cs, fs, ts, ()), bound, (id, fn, pc, rg, st, ch, ph, su, fa, he, ()), r, ())) :
    (vs.length ≤ (1000000 : Nat) ∧ ms.length ≤ (1000000 : Nat) ∧ cs.length ≤ (1000000 : Nat) ∧ fs.length ≤ (1000000 : Nat) ∧ ts.length ≤ (1000000 : Nat) ∧ (∀ (x : Sh.str.den × (shI.sl.pair Sh.unit).den), x ∈ fs → List.length x.snd.fst ≤ (1000000 : Nat)) ∧ (instL fs).length ≤ (1000000 : Nat)) ∧ br (!decide (stdS (chkP vs ms cs fs ts).fst bound = (0 : Int))) (([] : List Go.Eng.Res) = [] ∧ Ent.tup [SV.dat shT (comS (chkP vs ms cs fs ts).fst ms fs bound (id, fn, pc, rg, st, ch, ph, su, fa, he, ()) r).fst, SV.c (SC.v (Value.int IntKind.i64 (comS (chkP vs ms cs fs ts).fst ms fs bound (id, fn, pc, rg, st, ch, ph, su, fa, he, ()) r).snd))] = Ent.tup [SV.dat shT (((0 : Int), (0 : Int), (0 : Int), [(0 : Int), (0 : Int), (0 : Int), (0 : Int), (0 : Int), (0 : Int), (0 : Int), (0 : Int)], (0 : Int), (0 : Int), (0 : Int), (0 : Int), (0 : Int), [], ())), SV.c (SC.v (Value.int IntKind.i64 (stdS (chkP vs ms cs fs ts).fst bound)))]) (((chkP vs ms cs fs ts).fst = (0 : Int) ∧ he.length ≤ (1000000 : Nat) ∧ id ≤ (9223372036854775807 : I6.den) ∧ rg.length = (8 : Nat)) ∧ br (!vldB ms fs bound (id, fn, pc, rg, st, ch, ph, su, fa, he, ())) (([] : List Go.Eng.Res) = [] ∧ Ent.tup [SV.dat shT (comS (chkP vs ms cs fs ts).fst ms fs bound (id, fn, pc, rg, st, ch, ph, su, fa, he, ()) r).fst, SV.c (SC.v (Value.int IntKind.i64 (comS (chkP vs ms cs fs ts).fst ms fs bound (id, fn, pc, rg, st, ch, ph, su, fa, he, ()) r).snd))] = Ent.tup [SV.dat shT (((0 : Int), (0 : Int), (0 : Int), [(0 : Int), (0 : Int), (0 : Int), (0 : Int), (0 : Int), (0 : Int), (0 : Int), (0 : Int)], (0 : Int), (0 : Int), (0 : Int), (0 : Int), (0 : Int), [], ())), SV.c (SC.v (Value.int IntKind.i64 (1 : Int)))]) (br (!decide (su = (1 : Int))) (([] : List Go.Eng.Res) = [] ∧ Ent.tup [SV.dat shT (comS (chkP vs ms cs fs ts).fst ms fs bound (id, fn, pc, rg, st, ch, ph, su, fa, he, ()) r).fst, SV.c (SC.v (Value.int IntKind.i64 (comS (chkP vs ms cs fs ts).fst ms fs bound (id, fn, pc, rg, st, ch, ph, su, fa, he, ()) r).snd))] = Ent.tup [SV.dat shT (((0 : Int), (0 : Int), (0 : Int), [(0 : Int), (0 : Int), (0 : Int), (0 : Int), (0 : Int), (0 : Int), (0 : Int), (0 : Int)], (0 : Int), (0 : Int), (0 : Int), (0 : Int), (0 : Int), [], ())), SV.c (SC.v (Value.int IntKind.i64 (30 : Int)))]) (True ∧ br (!decide (wrapS r = r)) (([] : List Go.Eng.Res) = [] ∧ Ent.tup [SV.dat shT (comS (chkP vs ms cs fs ts).fst ms fs bound (id, fn, pc, rg, st, ch, ph, su, fa, he, ()) r).fst, SV.c (SC.v (Value.int IntKind.i64 (comS (chkP vs ms cs fs ts).fst ms fs bound (id, fn, pc, rg, st, ch, ph, su, fa, he, ()) r).snd))] = Ent.tup [SV.dat shT (((0 : Int), (0 : Int), (0 : Int), [(0 : Int), (0 : Int), (0 : Int), (0 : Int), (0 : Int), (0 : Int), (0 : Int), (0 : Int)], (0 : Int), (0 : Int), (0 : Int), (0 : Int), (0 : Int), [], ())), SV.c (SC.v (Value.int IntKind.i64 (2 : Int)))]) (((0 : I6.den) ≤ fn ∧ fn < (↑fs.length : I6.den) ∧ (0 : I6.den) ≤ pc) ∧ InR IntKind.i64 (st + (1 : Int)) ∧ True ∧ br (defS (atR fs fn pc).fst).snd (((0 : Int) ≤ (defS (atR fs fn pc).fst).fst ∧ (defS (atR fs fn pc).fst).fst < (8 : Int)) ∧ (defS (atR fs fn pc).fst).fst.toNat < (8 : Nat) ∧ br (decide ((atR fs fn pc).fst.fst = (18 : Int))) ((he.length ≤ (999999 : Nat) ∧ (0 : I6.den) ≤ pc ∧ pc ≤ (1000000 : I6.den)) ∧ ((chkP vs ms cs fs ts).fst = (0 : Int) ∧ Formed ms fs bound (waitS (id, fn, pc, rg.set (defS (atR fs fn pc).fst).fst.toNat r, st + (1 : Int), ch, ph, su, fa, he, ()) (atR fs fn pc).fst.snd.snd.snd.snd.snd.fst) ∧ List.length (waitS (id, fn, pc, rg.set (defS (atR fs fn pc).fst).fst.toNat r, st + (1 : Int), ch, ph, su, fa, he, ()) (atR fs fn pc).fst.snd.snd.snd.snd.snd.fst).snd.snd.snd.snd.snd.snd.snd.snd.snd.fst ≤ (1000000 : Nat) ∧ (waitS (id, fn, pc, rg.set (defS (atR fs fn pc).fst).fst.toNat r, st + (1 : Int), ch, ph, su, fa, he, ()) (atR fs fn pc).fst.snd.snd.snd.snd.snd.fst).fst ≤ (9223372036854775807 : I6.den) ∧ List.length (waitS (id, fn, pc, rg.set (defS (atR fs fn pc).fst).fst.toNat r, st + (1 : Int), ch, ph, su, fa, he, ()) (atR fs fn pc).fst.snd.snd.snd.snd.snd.fst).snd.snd.snd.fst = (8 : Nat)) ∧ ([] : List Go.Eng.Res) = [] ∧ Ent.tup [SV.dat shT (comS (chkP vs ms cs fs ts).fst ms fs bound (id, fn, pc, rg, st, ch, ph, su, fa, he, ()) r).fst, SV.c (SC.v (Value.int IntKind.i64 (comS (chkP vs ms cs fs ts).fst ms fs bound (id, fn, pc, rg, st, ch, ph, su, fa, he, ()) r).snd))] = Ent.tup [SV.dat shT (stlS fs bound (256 : Nat) (waitS (id, fn, pc, rg.set (defS (atR fs fn pc).fst).fst.toNat r, st + (1 : Int), ch, ph, su, fa, he, ()) (atR fs fn pc).fst.snd.snd.snd.snd.snd.fst)), SV.c (SC.v (Value.int IntKind.i64 (0 : Int)))]) (br (decide ((atR fs fn pc).fst.fst = (17 : Int))) (br (decide (r = (0 : Int))) (InR IntKind.i64 (pc + (1 : Int)) ∧ ((chkP vs ms cs fs ts).fst = (0 : Int) ∧ Formed ms fs bound (id, fn, pc + (1 : Int), rg.set (defS (atR fs fn pc).fst).fst.toNat r, st + (1 : Int), ch, ph, su, fa, he, ()) ∧ he.length ≤ (1000000 : Nat) ∧ id ≤ (9223372036854775807 : I6.den) ∧ (rg.set (defS (atR fs fn pc).fst).fst.toNat r).length = (8 : Nat)) ∧ ([] : List Go.Eng.Res) = [] ∧ Ent.tup [SV.dat shT (comS (chkP vs ms cs fs ts).fst ms fs bound (id, fn, pc, rg, st, ch, ph, su, fa, he, ()) r).fst, SV.c (SC.v (Value.int IntKind.i64 (comS (chkP vs ms cs fs ts).fst ms fs bound (id, fn, pc, rg, st, ch, ph, su, fa, he, ()) r).snd))] = Ent.tup [SV.dat shT (stlS fs bound (256 : Nat) (id, fn, pc + (1 : Int), rg.set (defS (atR fs fn pc).fst).fst.toNat r, st + (1 : Int), ch, ph, su, fa, he, ())), SV.c (SC.v (Value.int IntKind.i64 (0 : Int)))]) (he.length ≤ (999999 : Nat) ∧ InR IntKind.i64 (pc + (1 : Int)) ∧ ((chkP vs ms cs fs ts).fst = (0 : Int) ∧ Formed ms fs bound (id, fn, pc + (1 : Int), rg.set (defS (atR fs fn pc).fst).fst.toNat r, st + (1 : Int), ch, ph, su, fa, makeI (he ++ [(atR fs fn pc).fst.snd.snd.snd.snd.fst]), ()) ∧ (makeI (he ++ [(atR fs fn pc).fst.snd.snd.snd.snd.fst])).length ≤ (1000000 : Nat) ∧ id ≤ (9223372036854775807 : I6.den) ∧ (rg.set (defS (atR fs fn pc).fst).fst.toNat r).length = (8 : Nat)) ∧ ([] : List Go.Eng.Res) = [] ∧ Ent.tup [SV.dat shT (comS (chkP vs ms cs fs ts).fst ms fs bound (id, fn, pc, rg, st, ch, ph, su, fa, he, ()) r).fst, SV.c (SC.v (Value.int IntKind.i64 (comS (chkP vs ms cs fs ts).fst ms fs bound (id, fn, pc, rg, st, ch, ph, su, fa, he, ()) r).snd))] = Ent.tup [SV.dat shT (stlS fs bound (256 : Nat) (id, fn, pc + (1 : Int), rg.set (defS (atR fs fn pc).fst).fst.toNat r, st + (1 : Int), ch, ph, su, fa, makeI (he ++ [(atR fs fn pc).fst.snd.snd.snd.snd.fst]), ())), SV.c (SC.v (Value.int IntKind.i64 (0 : Int)))])) (br (decide ((atR fs fn pc).fst.fst = (15 : Int))) (he.length ≤ (999999 : Nat) ∧ InR IntKind.i64 (pc + (1 : Int)) ∧ ((chkP vs ms cs fs ts).fst = (0 : Int) ∧ Formed ms fs bound (id, fn, pc + (1 : Int), rg.set (defS (atR fs fn pc).fst).fst.toNat r, st + (1 : Int), ch, ph, su, fa, makeI (he ++ [(atR fs fn pc).fst.snd.snd.snd.snd.fst]), ()) ∧ (makeI (he ++ [(atR fs fn pc).fst.snd.snd.snd.snd.fst])).length ≤ (1000000 : Nat) ∧ id ≤ (9223372036854775807 : I6.den) ∧ (rg.set (defS (atR fs fn pc).fst).fst.toNat r).length = (8 : Nat)) ∧ ([] : List Go.Eng.Res) = [] ∧ Ent.tup [SV.dat shT (comS (chkP vs ms cs fs ts).fst ms fs bound (id, fn, pc, rg, st, ch, ph, su, fa, he, ()) r).fst, SV.c (SC.v (Value.int IntKind.i64 (comS (chkP vs ms cs fs ts).fst ms fs bound (id, fn, pc, rg, st, ch, ph, su, fa, he, ()) r).snd))] = Ent.tup [SV.dat shT (stlS fs bound (256 : Nat) (id, fn, pc + (1 : Int), rg.set (defS (atR fs fn pc).fst).fst.toNat r, st + (1 : Int), ch, ph, su, fa, makeI (he ++ [(atR fs fn pc).fst.snd.snd.snd.snd.fst]), ())), SV.c (SC.v (Value.int IntKind.i64 (0 : Int)))]) (br (decide ((atR fs fn pc).fst.fst = (16 : Int))) (he.length ≤ (1000000 : Nat) ∧ InR IntKind.i64 (pc + (1 : Int)) ∧ ((chkP vs ms cs fs ts).fst = (0 : Int) ∧ Formed ms fs bound (id, fn, pc + (1 : Int), rg.set (defS (atR fs fn pc).fst).fst.toNat r, st + (1 : Int), ch, ph, su, fa, filI (makeI he) [(atR fs fn pc).fst.snd.snd.snd.snd.fst] false, ()) ∧ (filI (makeI he) [(atR fs fn pc).fst.snd.snd.snd.snd.fst] false).length ≤ (1000000 : Nat) ∧ id ≤ (9223372036854775807 : I6.den) ∧ (rg.set (defS (atR fs fn pc).fst).fst.toNat r).length = (8 : Nat)) ∧ ([] : List Go.Eng.Res) = [] ∧ Ent.tup [SV.dat shT (comS (chkP vs ms cs fs ts).fst ms fs bound (id, fn, pc, rg, st, ch, ph, su, fa, he, ()) r).fst, SV.c (SC.v (Value.int IntKind.i64 (comS (chkP vs ms cs fs ts).fst ms fs bound (id, fn, pc, rg, st, ch, ph, su, fa, he, ()) r).snd))] = Ent.tup [SV.dat shT (stlS fs bound (256 : Nat) (id, fn, pc + (1 : Int), rg.set (defS (atR fs fn pc).fst).fst.toNat r, st + (1 : Int), ch, ph, su, fa, filI (makeI he) [(atR fs fn pc).fst.snd.snd.snd.snd.fst] false, ())), SV.c (SC.v (Value.int IntKind.i64 (0 : Int)))]) (br (decide ((atR fs fn pc).fst.fst = (21 : Int))) (InR IntKind.i64 (ch + (1 : Int)) ∧ InR IntKind.i64 (pc + (1 : Int)) ∧ ((chkP vs ms cs fs ts).fst = (0 : Int) ∧ Formed ms fs bound (id, fn, pc + (1 : Int), rg.set (defS (atR fs fn pc).fst).fst.toNat r, st + (1 : Int), ch + (1 : Int), ph, su, fa, he, ()) ∧ he.length ≤ (1000000 : Nat) ∧ id ≤ (9223372036854775807 : I6.den) ∧ (rg.set (defS (atR fs fn pc).fst).fst.toNat r).length = (8 : Nat)) ∧ ([] : List Go.Eng.Res) = [] ∧ Ent.tup [SV.dat shT (comS (chkP vs ms cs fs ts).fst ms fs bound (id, fn, pc, rg, st, ch, ph, su, fa, he, ()) r).fst, SV.c (SC.v (Value.int IntKind.i64 (comS (chkP vs ms cs fs ts).fst ms fs bound (id, fn, pc, rg, st, ch, ph, su, fa, he, ()) r).snd))] = Ent.tup [SV.dat shT (stlS fs bound (256 : Nat) (id, fn, pc + (1 : Int), rg.set (defS (atR fs fn pc).fst).fst.toNat r, st + (1 : Int), ch + (1 : Int), ph, su, fa, he, ())), SV.c (SC.v (Value.int IntKind.i64 (0 : Int)))]) (InR IntKind.i64 (pc + (1 : Int)) ∧ ((chkP vs ms cs fs ts).fst = (0 : Int) ∧ Formed ms fs bound (id, fn, pc + (1 : Int), rg.set (defS (atR fs fn pc).fst).fst.toNat r, st + (1 : Int), ch, ph, su, fa, he, ()) ∧ he.length ≤ (1000000 : Nat) ∧ id ≤ (9223372036854775807 : I6.den) ∧ (rg.set (defS (atR fs fn pc).fst).fst.toNat r).length = (8 : Nat)) ∧ ([] : List Go.Eng.Res) = [] ∧ Ent.tup [SV.dat shT (comS (chkP vs ms cs fs ts).fst ms fs bound (id, fn, pc, rg, st, ch, ph, su, fa, he, ()) r).fst, SV.c (SC.v (Value.int IntKind.i64 (comS (chkP vs ms cs fs ts).fst ms fs bound (id, fn, pc, rg, st, ch, ph, su, fa, he, ()) r).snd))] = Ent.tup [SV.dat shT (stlS fs bound (256 : Nat) (id, fn, pc + (1 : Int), rg.set (defS (atR fs fn pc).fst).fst.toNat r, st + (1 : Int), ch, ph, su, fa, he, ())), SV.c (SC.v (Value.int IntKind.i64 (0 : Int)))])))))) (br (decide ((atR fs fn pc).fst.fst = (18 : Int))) ((he.length ≤ (999999 : Nat) ∧ (0 : I6.den) ≤ pc ∧ pc ≤ (1000000 : I6.den)) ∧ ((chkP vs ms cs fs ts).fst = (0 : Int) ∧ Formed ms fs bound (waitS (id, fn, pc, rg, st + (1 : Int), ch, ph, su, fa, he, ()) (atR fs fn pc).fst.snd.snd.snd.snd.snd.fst) ∧ List.length (waitS (id, fn, pc, rg, st + (1 : Int), ch, ph, su, fa, he, ()) (atR fs fn pc).fst.snd.snd.snd.snd.snd.fst).snd.snd.snd.snd.snd.snd.snd.snd.snd.fst ≤ (1000000 : Nat) ∧ (waitS (id, fn, pc, rg, st + (1 : Int), ch, ph, su, fa, he, ()) (atR fs fn pc).fst.snd.snd.snd.snd.snd.fst).fst ≤ (9223372036854775807 : I6.den) ∧ List.length (waitS (id, fn, pc, rg, st + (1 : Int), ch, ph, su, fa, he, ()) (atR fs fn pc).fst.snd.snd.snd.snd.snd.fst).snd.snd.snd.fst = (8 : Nat)) ∧ ([] : List Go.Eng.Res) = [] ∧ Ent.tup [SV.dat shT (comS (chkP vs ms cs fs ts).fst ms fs bound (id, fn, pc, rg, st, ch, ph, su, fa, he, ()) r).fst, SV.c (SC.v (Value.int IntKind.i64 (comS (chkP vs ms cs fs ts).fst ms fs bound (id, fn, pc, rg, st, ch, ph, su, fa, he, ()) r).snd))] = Ent.tup [SV.dat shT (stlS fs bound (256 : Nat) (waitS (id, fn, pc, rg, st + (1 : Int), ch, ph, su, fa, he, ()) (atR fs fn pc).fst.snd.snd.snd.snd.snd.fst)), SV.c (SC.v (Value.int IntKind.i64 (0 : Int)))]) (br (decide ((atR fs fn pc).fst.fst = (17 : Int))) (br (decide (r = (0 : Int))) (InR IntKind.i64 (pc + (1 : Int)) ∧ ((chkP vs ms cs fs ts).fst = (0 : Int) ∧ Formed ms fs bound (id, fn, pc + (1 : Int), rg, st + (1 : Int), ch, ph, su, fa, he, ()) ∧ he.length ≤ (1000000 : Nat) ∧ id ≤ (9223372036854775807 : I6.den) ∧ rg.length = (8 : Nat)) ∧ ([] : List Go.Eng.Res) = [] ∧ Ent.tup [SV.dat shT (comS (chkP vs ms cs fs ts).fst ms fs bound (id, fn, pc, rg, st, ch, ph, su, fa, he, ()) r).fst, SV.c (SC.v (Value.int IntKind.i64 (comS (chkP vs ms cs fs ts).fst ms fs bound (id, fn, pc, rg, st, ch, ph, su, fa, he, ()) r).snd))] = Ent.tup [SV.dat shT (stlS fs bound (256 : Nat) (id, fn, pc + (1 : Int), rg, st + (1 : Int), ch, ph, su, fa, he, ())), SV.c (SC.v (Value.int IntKind.i64 (0 : Int)))]) (he.length ≤ (999999 : Nat) ∧ InR IntKind.i64 (pc + (1 : Int)) ∧ ((chkP vs ms cs fs ts).fst = (0 : Int) ∧ Formed ms fs bound (id, fn, pc + (1 : Int), rg, st + (1 : Int), ch, ph, su, fa, makeI (he ++ [(atR fs fn pc).fst.snd.snd.snd.snd.fst]), ()) ∧ (makeI (he ++ [(atR fs fn pc).fst.snd.snd.snd.snd.fst])).length ≤ (1000000 : Nat) ∧ id ≤ (9223372036854775807 : I6.den) ∧ rg.length = (8 : Nat)) ∧ ([] : List Go.Eng.Res) = [] ∧ Ent.tup [SV.dat shT (comS (chkP vs ms cs fs ts).fst ms fs bound (id, fn, pc, rg, st, ch, ph, su, fa, he, ()) r).fst, SV.c (SC.v (Value.int IntKind.i64 (comS (chkP vs ms cs fs ts).fst ms fs bound (id, fn, pc, rg, st, ch, ph, su, fa, he, ()) r).snd))] = Ent.tup [SV.dat shT (stlS fs bound (256 : Nat) (id, fn, pc + (1 : Int), rg, st + (1 : Int), ch, ph, su, fa, makeI (he ++ [(atR fs fn pc).fst.snd.snd.snd.snd.fst]), ())), SV.c (SC.v (Value.int IntKind.i64 (0 : Int)))])) (br (decide ((atR fs fn pc).fst.fst = (15 : Int))) (he.length ≤ (999999 : Nat) ∧ InR IntKind.i64 (pc + (1 : Int)) ∧ ((chkP vs ms cs fs ts).fst = (0 : Int) ∧ Formed ms fs bound (id, fn, pc + (1 : Int), rg, st + (1 : Int), ch, ph, su, fa, makeI (he ++ [(atR fs fn pc).fst.snd.snd.snd.snd.fst]), ()) ∧ (makeI (he ++ [(atR fs fn pc).fst.snd.snd.snd.snd.fst])).length ≤ (1000000 : Nat) ∧ id ≤ (9223372036854775807 : I6.den) ∧ rg.length = (8 : Nat)) ∧ ([] : List Go.Eng.Res) = [] ∧ Ent.tup [SV.dat shT (comS (chkP vs ms cs fs ts).fst ms fs bound (id, fn, pc, rg, st, ch, ph, su, fa, he, ()) r).fst, SV.c (SC.v (Value.int IntKind.i64 (comS (chkP vs ms cs fs ts).fst ms fs bound (id, fn, pc, rg, st, ch, ph, su, fa, he, ()) r).snd))] = Ent.tup [SV.dat shT (stlS fs bound (256 : Nat) (id, fn, pc + (1 : Int), rg, st + (1 : Int), ch, ph, su, fa, makeI (he ++ [(atR fs fn pc).fst.snd.snd.snd.snd.fst]), ())), SV.c (SC.v (Value.int IntKind.i64 (0 : Int)))]) (br (decide ((atR fs fn pc).fst.fst = (16 : Int))) (he.length ≤ (1000000 : Nat) ∧ InR IntKind.i64 (pc + (1 : Int)) ∧ ((chkP vs ms cs fs ts).fst = (0 : Int) ∧ Formed ms fs bound (id, fn, pc + (1 : Int), rg, st + (1 : Int), ch, ph, su, fa, filI (makeI he) [(atR fs fn pc).fst.snd.snd.snd.snd.fst] false, ()) ∧ (filI (makeI he) [(atR fs fn pc).fst.snd.snd.snd.snd.fst] false).length ≤ (1000000 : Nat) ∧ id ≤ (9223372036854775807 : I6.den) ∧ rg.length = (8 : Nat)) ∧ ([] : List Go.Eng.Res) = [] ∧ Ent.tup [SV.dat shT (comS (chkP vs ms cs fs ts).fst ms fs bound (id, fn, pc, rg, st, ch, ph, su, fa, he, ()) r).fst, SV.c (SC.v (Value.int IntKind.i64 (comS (chkP vs ms cs fs ts).fst ms fs bound (id, fn, pc, rg, st, ch, ph, su, fa, he, ()) r).snd))] = Ent.tup [SV.dat shT (stlS fs bound (256 : Nat) (id, fn, pc + (1 : Int), rg, st + (1 : Int), ch, ph, su, fa, filI (makeI he) [(atR fs fn pc).fst.snd.snd.snd.snd.fst] false, ())), SV.c (SC.v (Value.int IntKind.i64 (0 : Int)))]) (br (decide ((atR fs fn pc).fst.fst = (21 : Int))) (InR IntKind.i64 (ch + (1 : Int)) ∧ InR IntKind.i64 (pc + (1 : Int)) ∧ ((chkP vs ms cs fs ts).fst = (0 : Int) ∧ Formed ms fs bound (id, fn, pc + (1 : Int), rg, st + (1 : Int), ch + (1 : Int), ph, su, fa, he, ()) ∧ he.length ≤ (1000000 : Nat) ∧ id ≤ (9223372036854775807 : I6.den) ∧ rg.length = (8 : Nat)) ∧ ([] : List Go.Eng.Res) = [] ∧ Ent.tup [SV.dat shT (comS (chkP vs ms cs fs ts).fst ms fs bound (id, fn, pc, rg, st, ch, ph, su, fa, he, ()) r).fst, SV.c (SC.v (Value.int IntKind.i64 (comS (chkP vs ms cs fs ts).fst ms fs bound (id, fn, pc, rg, st, ch, ph, su, fa, he, ()) r).snd))] = Ent.tup [SV.dat shT (stlS fs bound (256 : Nat) (id, fn, pc + (1 : Int), rg, st + (1 : Int), ch + (1 : Int), ph, su, fa, he, ())), SV.c (SC.v (Value.int IntKind.i64 (0 : Int)))]) (InR IntKind.i64 (pc + (1 : Int)) ∧ ((chkP vs ms cs fs ts).fst = (0 : Int) ∧ Formed ms fs bound (id, fn, pc + (1 : Int), rg, st + (1 : Int), ch, ph, su, fa, he, ()) ∧ he.length ≤ (1000000 : Nat) ∧ id ≤ (9223372036854775807 : I6.den) ∧ rg.length = (8 : Nat)) ∧ ([] : List Go.Eng.Res) = [] ∧ Ent.tup [SV.dat shT (comS (chkP vs ms cs fs ts).fst ms fs bound (id, fn, pc, rg, st, ch, ph, su, fa, he, ()) r).fst, SV.c (SC.v (Value.int IntKind.i64 (comS (chkP vs ms cs fs ts).fst ms fs bound (id, fn, pc, rg, st, ch, ph, su, fa, he, ()) r).snd))] = Ent.tup [SV.dat shT (stlS fs bound (256 : Nat) (id, fn, pc + (1 : Int), rg, st + (1 : Int), ch, ph, su, fa, he, ())), SV.c (SC.v (Value.int IntKind.i64 (0 : Int)))])))))))))) := by
  obtain ⟨hb, hhe, hid, hrg⟩ : bnd ((vs, ms, cs, fs, ts, ()), ()) ∧ he.length ≤ 1000000 ∧ id ≤ 9223372036854775807 ∧ rg.length = 8 := hpre
  refine ⟨hb, br_iff.2 ⟨fun h => ?_, fun h => ?_⟩⟩
  · have h : stdS (chkP vs ms cs fs ts).1 bound ≠ 0 := by simpa using h
    have e : comS (chkP vs ms cs fs ts).1 ms fs bound (id, fn, pc, rg, st, ch, ph, su, fa, he, ()) r = (zT, stdS (chkP vs ms cs fs ts).1 bound) := by unfold comS; rw [if_pos h]
    rw [e]; exact ⟨rfl, rfl⟩
  have h : ¬ stdS (chkP vs ms cs fs ts).1 bound ≠ 0 := by simpa using h
  have hs := std_zero.1 (Classical.not_not.1 h)
  refine ⟨⟨hs.1, hhe, hid, hrg⟩, br_iff.2 ⟨fun h2 => ?_, fun h2 => ?_⟩⟩
  · have h2 : ¬ Vld ms fs bound (id, fn, pc, rg, st, ch, ph, su, fa, he, ()) := fun q => by rw [vldB_iff.2 q] at h2; cases h2
    have e : comS (chkP vs ms cs fs ts).1 ms fs bound (id, fn, pc, rg, st, ch, ph, su, fa, he, ()) r = (zT, 1) := by unfold comS; rw [if_neg h, if_pos h2]
    rw [e]; exact ⟨rfl, rfl⟩
  have hV : Vld ms fs bound (id, fn, pc, rg, st, ch, ph, su, fa, he, ()) := vldB_iff.1 (by simpa using h2)
  have h2 : ¬ ¬ Vld ms fs bound (id, fn, pc, rg, st, ch, ph, su, fa, he, ()) := fun q => q hV
  refine br_iff.2 ⟨fun h3 => ?_, fun h3 => ⟨trivial, br_iff.2 ⟨fun h4 => ?_, fun h4 => ?_⟩⟩⟩
  · have h3 : su ≠ 1 := by simpa using h3
    have e : comS (chkP vs ms cs fs ts).1 ms fs bound (id, fn, pc, rg, st, ch, ph, su, fa, he, ()) r = (zT, 30) := by unfold comS; rw [if_neg h, if_neg h2, if_pos h3]
    rw [e]; exact ⟨rfl, rfl⟩
  all_goals
    have h1 : su = 1 := by simpa using h3
    have h3 : ¬ su ≠ 1 := fun q => q h1
  · have h4 : valS r = false := by rw [val_wrap]; simpa using h4
    have e : comS (chkP vs ms cs fs ts).1 ms fs bound (id, fn, pc, rg, st, ch, ph, su, fa, he, ()) r = (zT, 2) := by unfold comS; rw [if_neg h, if_neg h2, if_neg h3, if_pos h4]
    rw [e]; exact ⟨rfl, rfl⟩
  have hvr : valS r = true := by rw [val_wrap]; simpa using h4
  have h4 : ¬ valS r = false := by rw [hvr]; simp
  obtain ⟨f0, s0, i, ha, vi, oi⟩ := run_at hV h1
  have ha : atS fs fn pc = some i := ha
  have s0 : st < bound := s0
  have hF : Formed ms fs bound (id, fn, pc, rg, st, ch, ph, su, fa, he, ()) := hV.1
  have hfn := hF.2.1
  have hpc := hF.2.2.1
  have hst := hF.2.2.2.2.1
  have hch := hF.2.2.2.2.2.1
  have h64 := code_short hs.1 hfn
  have hci := (ci_zero (at_ok hs.1 hfn ha)).1
  have hm4 := co_ms (chk_zero hs.1).1
  have h4e : he.length ≤ 4 := formed_short hF hm4
  have leaf : ∀ t' : TD, t' = cmpS (id, fn, pc, rg, st, ch, ph, su, fa, he, ()) i r → (((chkP vs ms cs fs ts).1 = 0 ∧ Formed ms fs bound t' ∧ t'.2.2.2.2.2.2.2.2.2.1.length ≤ 1000000 ∧ t'.1 ≤ 9223372036854775807 ∧ t'.2.2.2.1.length = 8) ∧ ([] : List Go.Eng.Res) = [] ∧
      Ent.tup [SV.dat shT (comS (chkP vs ms cs fs ts).1 ms fs bound (id, fn, pc, rg, st, ch, ph, su, fa, he, ()) r).1, SV.c (SC.v (Value.int .i64 (comS (chkP vs ms cs fs ts).1 ms fs bound (id, fn, pc, rg, st, ch, ph, su, fa, he, ()) r).2))] = Ent.tup [SV.dat shT (stlS fs bound 256 t'), SV.c (SC.v (Value.int .i64 0))]) := by
    intro t' et
    subst et
    have hf := cmp_formed hs.1 hV h1 ha hvr
    have e : comS (chkP vs ms cs fs ts).1 ms fs bound (id, fn, pc, rg, st, ch, ph, su, fa, he, ()) r = (stlS fs bound 256 (cmpS (id, fn, pc, rg, st, ch, ph, su, fa, he, ()) i r), 0) := by
      unfold comS
      rw [if_neg h, if_neg h2, if_neg h3, if_neg h4]
      show (stlS fs bound 256 (cmpS (id, fn, pc, rg, st, ch, ph, su, fa, he, ()) (atR fs fn pc).1 r), (0 : Int)) = _
      rw [show atR fs fn pc = (i, true) by unfold atR; rw [ha]]
    rw [e]
    exact ⟨⟨hs.1, hf, Nat.le_trans (formed_short hf hm4) (by omega), formed_id hf, (cmp_len _ _ _).trans hrg⟩, rfl, rfl⟩
  rw [show atR fs fn pc = (i, true) by unfold atR; rw [ha]]
  dsimp only
  have e9 : he.length ≤ 999999 := by omega
  have ep : InR .i64 (pc + 1) := InR_i64.2 (by omega)
  have ec : InR .i64 (ch + 1) := InR_i64.2 (by omega)
  refine ⟨⟨hfn.1, hfn.2, hpc.1⟩, InR_i64.2 (by omega), trivial, br_iff.2 ⟨fun hd => ?_, fun hd => ?_⟩⟩
  · have hr := defS_reg hci hd
    refine ⟨hr, by omega, ?_⟩
    refine br_dec.2 ⟨fun q => ⟨⟨e9, hpc.1, show pc ≤ 1000000 by omega⟩, leaf _ (by simp only [waitS, cmpS, if_pos q, if_pos hd])⟩, fun n18 => br_dec.2 ⟨fun n17 => br_dec.2 ⟨fun q => ⟨ep, leaf _ (by simp [cmpS, n17, hd, q])⟩, fun q => ⟨e9, ep, leaf _ (by simp [cmpS, n17, hd, q, addI])⟩⟩,
      fun n17 => br_dec.2 ⟨fun q => ⟨e9, ep, leaf _ (by simp [cmpS, q, hd, addI])⟩, fun n15 => br_dec.2 ⟨fun q => ⟨hhe, ep, leaf _ (by simp [cmpS, q, hd, remI])⟩, fun n16 => br_dec.2 ⟨fun q => ⟨ec, ep, leaf _ (by simp [cmpS, q, hd])⟩, fun n21 => ⟨ep, leaf _ (by simp [cmpS, n18, n17, n15, n16, n21, hd])⟩⟩⟩⟩⟩⟩
  · refine br_dec.2 ⟨fun q => ⟨⟨e9, hpc.1, show pc ≤ 1000000 by omega⟩, leaf _ (by simp only [waitS, cmpS, if_pos q, hd]; simp)⟩, fun n18 => br_dec.2 ⟨fun n17 => br_dec.2 ⟨fun q => ⟨ep, leaf _ (by simp [cmpS, n17, hd, q])⟩, fun q => ⟨e9, ep, leaf _ (by simp [cmpS, n17, hd, q, addI])⟩⟩,
      fun n17 => br_dec.2 ⟨fun q => ⟨e9, ep, leaf _ (by simp [cmpS, q, hd, addI])⟩, fun n15 => br_dec.2 ⟨fun q => ⟨hhe, ep, leaf _ (by simp [cmpS, q, hd, remI])⟩, fun n16 => br_dec.2 ⟨fun q => ⟨ec, ep, leaf _ (by simp [cmpS, q, hd])⟩, fun n21 => ⟨ep, leaf _ (by simp [cmpS, n18, n17, n15, n16, n21, hd])⟩⟩⟩⟩⟩⟩
set_option maxHeartbeats 2000000 in
set_option maxRecDepth 100000 in
theorem f21_met : Go.Eng.Met Tryd.prog cx0.gd 21 ctCom :=
  (met_all (cx := cx0) (n := 103) (cl := cl21) (il := il21) (hl := hl21) (ml := ml21) (rc := [.data shT, .keep]) (lits := []) (suf := []) (by kernel_rfl) tis_ok ⟨f29_met, f32_met, f30_met, f34_met, f35_met, f31_met, f36_met, f37_met, f38_met, trivial⟩ trivial trivial trivial Tryd.func21 (by kernel_rfl) (by kernel_rfl) rfl (by kernel_rfl) (by kernel_rfl) (by simp) fun d hd => by
    obtain ⟨⟨vs, ms, cs, fs, ts, ⟨⟩⟩, bound, ⟨id, fn, pc, rg, st, ch, ph, su, fa, he, ⟨⟩⟩, r, ⟨⟩⟩ := d
    exact ex_of (ann21 vs ms cs fs ts bound id fn pc rg st ch ph su fa he r) (f21_vc vs ms cs fs ts bound id fn pc rg st ch ph su fa he r hd) (by kernel_rfl)).met
end Go.Proofs.YtklnffdjhoacoaaDoor
set_option linter.unusedSimpArgs false
set_option linter.unusedVariables false
set_option maxRecDepth 100000
namespace Go.Proofs.YtklnffdjhoacoaaDoor
open Go Go.Eng

def exP (l : List ID) : PD := ([(⟨#[120]⟩, 0, ())], [], [], [(⟨#[102]⟩, l, ())], [(0, 0, ())], ())
@[reducible] def ctEx : CT := { ps := [.sl shI], pre := fun d => True, res := fun d => ([], .one (ofDat shP (exP d.1))) }
@[reducible] def cl24 : List (Nat × CT) := []
@[reducible] def ann24 (l : List ID) : Nat → Option (St → Ann) := fun _ => none
@[reducible] def il24 : List (Nat × IP) := []
@[reducible] def hl24 : List (Nat × Nat × CT) := []
@[reducible] def ml24 : List (Nat × MK) := []
set_option maxRecDepth 100000 in
theorem f24_vc (l : List ID) :
    ([] : List Go.Eng.Res) = [] ∧ Ent.one (SV.agg [SC.sl (Sh.str.pair (I6.pair Sh.unit)) [({ data := #[(120 : UInt8)] : ByteArray }, (0 : Int), ())], SC.sl Sh.str [], SC.sl Sh.str [], SC.sl (Sh.str.pair (shI.sl.pair Sh.unit)) [({ data := #[(102 : UInt8)] : ByteArray }, l, ())], SC.sl (I6.pair (I6.pair Sh.unit)) [((0 : Int), (0 : Int), ())]]) = Ent.one (SV.agg [SC.sl (Sh.str.pair (I6.pair Sh.unit)) [({ data := #[(120 : UInt8)] : ByteArray }, (0 : Int), ())], SC.sl Sh.str [], SC.sl Sh.str [], SC.sl (Sh.str.pair (shI.sl.pair Sh.unit)) [({ data := #[(102 : UInt8)] : ByteArray }, l, ())], SC.sl (I6.pair (I6.pair Sh.unit)) [((0 : Int), (0 : Int), ())]]) := by
  exact ⟨rfl, rfl⟩
set_option maxHeartbeats 2000000 in
set_option maxRecDepth 100000 in
theorem f24_met : Go.Eng.Met Tryd.prog cx0.gd 24 ctEx :=
  (met_all (cx := cx0) (n := 11) (cl := cl24) (il := il24) (hl := hl24) (ml := ml24) (rc := [.data shP]) (lits := []) (suf := []) (by kernel_rfl) tis_ok trivial trivial trivial trivial Tryd.func24 (by kernel_rfl) (by kernel_rfl) rfl (by kernel_rfl) (by kernel_rfl) (by simp) fun d hd => by
    obtain ⟨l, ⟨⟩⟩ := d
    exact ex_of (ann24 l) (f24_vc l) (by kernel_rfl)).met
def exF : List FD := [(⟨#[102]⟩, [(1, 1, 0, 0, 0, 5, 0, 0, ()), (9, 0, 1, 0, 0, 0, 0, 0, ())], ())]
def exT : TD := stlS exF 1 256 (0, 0, 0, [3, 0, 0, 0, 0, 0, 0, 0], 0, 0, 0, 1, 0, [], ())
@[reducible] def ctLiv : CT := { ps := [], pre := fun _ => True, res := fun _ => ([], vB true) }
@[reducible] noncomputable def cl9 : List (Nat × CT) := [(24, ctEx), (16, ctNew), (17, ctTV), (21, ctCom), (6, ctChi)]
@[reducible] def ann9  : Nat → Option (St → Ann) := fun _ => none
@[reducible] def il9 : List (Nat × IP) := []
@[reducible] def hl9 : List (Nat × Nat × CT) := []
@[reducible] noncomputable def ml9 : List (Nat × MK) := []
set_option maxRecDepth 100000 in
theorem f9_vc  :
    True ∧ (((1 : Nat) ≤ (1000000 : Nat) ∧ (0 : Nat) ≤ (1000000 : Nat) ∧ (0 : Nat) ≤ (1000000 : Nat) ∧ (1 : Nat) ≤ (1000000 : Nat) ∧ (1 : Nat) ≤ (1000000 : Nat) ∧ (∀ (x : Sh.str.den × (shI.sl.pair Sh.unit).den), x ∈ [({ data := #[(102 : UInt8)] : ByteArray }, [((1 : Int), (1 : Int), (0 : Int), (0 : Int), (0 : Int), (5 : Int), (0 : Int), (0 : Int), ()), ((9 : Int), (0 : Int), (1 : Int), (0 : Int), (0 : Int), (0 : Int), (0 : Int), (0 : Int), ())], ())] → List.length x.snd.fst ≤ (1000000 : Nat)) ∧ (2 : Nat) ≤ (1000000 : Nat)) ∧ (0 : Int) ≤ (9223372036854775807 : I6.den)) ∧ (true = true → (0 : Int) ≤ (0 : Int) ∧ (0 : Int) < (8 : Int)) ∧ (true = true → (0 : Nat) < (8 : Nat)) ∧ ∀ (d : Int), (true = true → ([(3 : Int), (0 : Int), (0 : Int), (0 : Int), (0 : Int), (0 : Int), (0 : Int), (0 : Int)].set (1 : Nat) (5 : Int))[(0 : Nat)]? = some d) → ((!(false || !decide (d = (3 : Int)))) = true → (0 : Int) ≤ (1 : Int) ∧ (1 : Int) < (8 : Int)) ∧ ((!(false || !decide (d = (3 : Int)))) = true → (1 : Nat) < (8 : Nat)) ∧ ∀ (d_1 : Int), ((!(false || !decide (d = (3 : Int)))) = true → ([(3 : Int), (0 : Int), (0 : Int), (0 : Int), (0 : Int), (0 : Int), (0 : Int), (0 : Int)].set (1 : Nat) (5 : Int))[(1 : Nat)]? = some d_1) → ((!(false || !decide (d = (3 : Int)) || !decide (d_1 = (5 : Int)) || false)) = true → ((1 : Nat) ≤ (1000000 : Nat) ∧ (0 : Nat) ≤ (1000000 : Nat) ∧ (0 : Nat) ≤ (1000000 : Nat) ∧ (1 : Nat) ≤ (1000000 : Nat) ∧ (1 : Nat) ≤ (1000000 : Nat) ∧ (∀ (x : Sh.str.den × (shI.sl.pair Sh.unit).den), x ∈ [({ data := #[(102 : UInt8)] : ByteArray }, [((1 : Int), (1 : Int), (0 : Int), (0 : Int), (0 : Int), (5 : Int), (0 : Int), (0 : Int), ()), ((9 : Int), (0 : Int), (1 : Int), (0 : Int), (0 : Int), (0 : Int), (0 : Int), (0 : Int), ())], ())] → List.length x.snd.fst ≤ (1000000 : Nat)) ∧ (2 : Nat) ≤ (1000000 : Nat)) ∧ (0 : Nat) ≤ (1000000 : Nat) ∧ (0 : Int) ≤ (9223372036854775807 : I6.den) ∧ (8 : Nat) = (8 : Nat)) ∧ br (false || !decide (d = (3 : Int)) || !decide (d_1 = (5 : Int)) || false || !vldB [] exF 1 exT) (([] : List Go.Eng.Res) = [] ∧ Ent.one (SV.c (SC.v (Value.bool true))) = Ent.one (SV.c (SC.v (Value.bool false)))) ((((1 : Nat) ≤ (1000000 : Nat) ∧ (0 : Nat) ≤ (1000000 : Nat) ∧ (0 : Nat) ≤ (1000000 : Nat) ∧ (1 : Nat) ≤ (1000000 : Nat) ∧ (1 : Nat) ≤ (1000000 : Nat) ∧ (∀ (x : Sh.str.den × (shI.sl.pair Sh.unit).den), x ∈ [({ data := #[(102 : UInt8)] : ByteArray }, [((1 : Int), (1 : Int), (0 : Int), (0 : Int), (0 : Int), (5 : Int), (0 : Int), (0 : Int), ()), ((9 : Int), (0 : Int), (1 : Int), (0 : Int), (0 : Int), (0 : Int), (0 : Int), (0 : Int), ())], ())] → List.length x.snd.fst ≤ (1000000 : Nat)) ∧ (2 : Nat) ≤ (1000000 : Nat)) ∧ (0 : Nat) ≤ (1000000 : Nat) ∧ (0 : Int) ≤ (9223372036854775807 : I6.den) ∧ (8 : Nat) = (8 : Nat)) ∧ True ∧ (((1 : Nat) ≤ (1000000 : Nat) ∧ (0 : Nat) ≤ (1000000 : Nat) ∧ (0 : Nat) ≤ (1000000 : Nat) ∧ (1 : Nat) ≤ (1000000 : Nat) ∧ (1 : Nat) ≤ (1000000 : Nat) ∧ (∀ (x : Sh.str.den × (shI.sl.pair Sh.unit).den), x ∈ [({ data := #[(102 : UInt8)] : ByteArray }, [((4 : Int), (0 : Int), (0 : Int), (0 : Int), (0 : Int), (0 : Int), (0 : Int), (0 : Int), ())], ())] → List.length x.snd.fst ≤ (1000000 : Nat)) ∧ (1 : Nat) ≤ (1000000 : Nat)) ∧ (0 : Int) ≤ (9223372036854775807 : I6.den)) ∧ (1 : Int) ≤ (9223372036854775807 : I6.den) ∧ ([] : List Go.Eng.Res) = [] ∧ Ent.one (SV.c (SC.v (Value.bool true))) = Ent.one (SV.c (SC.v (Value.bool (decide ((comS 0 [] exF 1 exT 0).2 = 0) && decide ((comS 0 [] exF 1 exT 0).1.2.2.1 = 2) && decide ((comS 0 [] exF 1 exT 0).1.2.2.2.2.1 = 1) && decide ((comS 0 [] exF 1 exT 0).1.2.2.2.2.2.2.2.1 = 2) && true && true && true && true && true))))) := by
  have hc : (chkP [(⟨#[120]⟩, 0, ())] [] [] exF [(0, 0, ())]).1 = 0 := by decide
  have hT : exT = (0, 0, 1, [3, 5, 0, 0, 0, 0, 0, 0], 0, 0, 0, 1, 0, [], ()) := by kernel_rfl
  have hV : Vld [] exF 1 exT := stl_vld hc (by omega) _ _ (new_formed [] (by omega) (by decide) (by decide) (by decide)) rfl rfl
  have hC : comS 0 [] exF 1 exT 0 = ((0, 0, 2, [3, 5, 0, 0, 0, 0, 0, 0], 1, 0, 0, 2, 0, [], ()), 0) := by
    rw [comS, if_neg (by decide), if_neg (fun q => q hV), if_neg (by rw [hT]; simp), if_neg (by decide)]
    kernel_rfl
  rw [hC, vldB_iff.2 hV]
  simp
set_option maxHeartbeats 2000000 in
set_option maxRecDepth 100000 in
theorem f9_met : Go.Eng.Met Tryd.prog cx0.gd 9 ctLiv :=
  (met_all (cx := cx0) (n := 105) (cl := cl9) (il := il9) (hl := hl9) (ml := ml9) (rc := []) (lits := []) (suf := []) (by kernel_rfl) tis_ok ⟨f24_met, f16_met, f17_met, f21_met, f6_met, trivial⟩ trivial trivial trivial Tryd.func9 (by kernel_rfl) (by kernel_rfl) rfl (by kernel_rfl) (by kernel_rfl) (by simp) fun d hd => by
    obtain ⟨⟩ := d
    exact ex_of (ann9 ) (f9_vc ) (by kernel_rfl)).met
end Go.Proofs.YtklnffdjhoacoaaDoor
