/- The Thread chapter: plain laws of 32-bit arithmetic, of ids, of threads. Conditions: none. -/
import Derived.Test.YtklnffdjhoacoaaDoorPK2
import Derived.Test.YtklnffdjhoacoaaDoorEngV
set_option linter.unusedSimpArgs false
set_option linter.unusedVariables false
namespace Go.Proofs.YtklnffdjhoacoaaDoor
open Go Go.Eng

/-- The value that differs by a multiple of 2^32. -/
def wrapS (n : Int) : Int := if n % 4294967296 ≤ 2147483647 then n % 4294967296 else n % 4294967296 - 4294967296
theorem wrapS_rng (n : Int) : -2147483648 ≤ wrapS n ∧ wrapS n ≤ 2147483647 := by
  unfold wrapS; split <;> omega
theorem wrapS_id {n : Int} : wrapS n = n ↔ -2147483648 ≤ n ∧ n ≤ 2147483647 := by
  unfold wrapS
  constructor
  · intro h; split at h <;> omega
  · intro h; split <;> omega
theorem wrapS_mod {n m : Int} (h : n % 4294967296 = m % 4294967296) : wrapS n = wrapS m := by
  unfold wrapS; rw [h]
theorem wrapS_emod (n : Int) : wrapS n % 4294967296 = n % 4294967296 := by
  unfold wrapS; split <;> omega
theorem wrap_conv (n : Int) : IntKind.i64.wrap (IntKind.i32.wrap (IntKind.u32.wrap n)) = wrapS n := by
  simp only [IntKind.wrap, IntKind.bits, IntKind.signed, wrapS]
  simp
  split <;> split <;> split <;> omega
/-- The reference's. -/
def wrapR (n : Int) : Int :=
  if (if n.tmod 4294967296 < 0 then n.tmod 4294967296 + 4294967296 else n.tmod 4294967296) > 2147483647 then
    (if n.tmod 4294967296 < 0 then n.tmod 4294967296 + 4294967296 else n.tmod 4294967296) - 4294967296
  else (if n.tmod 4294967296 < 0 then n.tmod 4294967296 + 4294967296 else n.tmod 4294967296)
theorem tmod_cases (n : Int) {m : Int} (hm : 0 < m) : n.tmod m = if 0 ≤ n ∨ n % m = 0 then n % m else n % m - m := by
  rw [Int.tmod_eq_emod]
  have h1 : (m ∣ n) ↔ n % m = 0 := Int.dvd_iff_emod_eq_zero
  simp only [h1]
  split
  · simp
  · have : (m.natAbs : Int) = m := by omega
    simp [this]
theorem wrapR_eq (n : Int) : wrapR n = wrapS n := by
  unfold wrapR wrapS
  rw [tmod_cases n (by omega)]
  split <;> split <;> split <;> first | omega | (split <;> omega)

/-- The bits of two numbers, put together by a table. -/
def bitsN (X Y : Nat) (r : List Int) : Nat → Int
  | 0 => 0
  | i + 1 => bitsN X Y r i + 2 ^ i * r.getD (2 * (X / 2 ^ i % 2) + Y / 2 ^ i % 2) 0
theorem bitsN_rng {X Y : Nat} {r : List Int} (h : ∀ v ∈ r, v = 0 ∨ v = 1) : ∀ i, 0 ≤ bitsN X Y r i ∧ bitsN X Y r i < 2 ^ i
  | 0 => by simp [bitsN]
  | i + 1 => by
    have ih := bitsN_rng (X := X) (Y := Y) h i
    have hv : r.getD (2 * (X / 2 ^ i % 2) + Y / 2 ^ i % 2) 0 = 0 ∨ r.getD (2 * (X / 2 ^ i % 2) + Y / 2 ^ i % 2) 0 = 1 := by
      rw [List.getD_eq_getElem?_getD]
      cases hq : r[2 * (X / 2 ^ i % 2) + Y / 2 ^ i % 2]? with
      | none => exact .inl rfl
      | some v => exact h v (List.mem_of_getElem? hq)
    unfold bitsN
    rw [Int.pow_succ]
    rcases hv with e | e <;> rw [e] <;> omega
theorem nat_mod_succ (n i : Nat) : n % 2 ^ (i + 1) = n % 2 ^ i + 2 ^ i * (n / 2 ^ i % 2) := by
  rw [Nat.pow_succ, Nat.mod_mul]
theorem bit_div (n i : Nat) : n / 2 ^ i % 2 = (n.testBit i).toNat := by
  rw [Nat.testBit_eq_decide_div_mod_eq]
  rcases Nat.mod_two_eq_zero_or_one (n / 2 ^ i) with h | h <;> simp [h]
theorem bits_op {X Y Z : Nat} {r : List Int} (h : ∀ i, r.getD (2 * (X.testBit i).toNat + (Y.testBit i).toNat) 0 = ((Z.testBit i).toNat : Int)) : ∀ i, bitsN X Y r i = ((Z % 2 ^ i : Nat) : Int)
  | 0 => by simp [bitsN, Nat.mod_one]
  | i + 1 => by
    unfold bitsN
    rw [bits_op h i, nat_mod_succ, bit_div, bit_div, h, bit_div]
    push_cast
    rfl
theorem ofInt_mod (x : Int) : ((BitVec.ofInt 64 x).toNat % 4294967296 : Nat) = (x % 4294967296).toNat := by
  rw [BitVec.toNat_ofInt]
  omega
theorem i64_wrap_mod (n : Int) : IntKind.i64.wrap n % 4294967296 = n % 4294967296 := by
  simp only [IntKind.wrap, IntKind.bits, IntKind.signed]
  simp
  split <;> omega
theorem mod_mod_cast (n : Nat) : ((n % 2 ^ 32 % 2 ^ 32 : Nat) : Int) % 4294967296 = (n : Int) % 4294967296 := by omega
theorem bits_and {x y : Int} : wrapS (bitsN (x % 4294967296).toNat (y % 4294967296).toNat [0, 0, 0, 1] 32) = wrapS (bitop .and .i64 x y) := by
  apply wrapS_mod
  rw [bits_op (Z := (x % 4294967296).toNat &&& (y % 4294967296).toNat) fun i => by
    rw [Nat.testBit_and]
    cases ((x % 4294967296).toNat.testBit i) <;> cases ((y % 4294967296).toNat.testBit i) <;> rfl]
  simp only [bitop]
  rw [i64_wrap_mod, BitVec.toNat_and, ← ofInt_mod, ← ofInt_mod]
  rw [show (4294967296 : Nat) = 2 ^ 32 from rfl, ← Nat.and_mod_two_pow]
  exact mod_mod_cast _
theorem bits_or {x y : Int} : wrapS (bitsN (x % 4294967296).toNat (y % 4294967296).toNat [0, 1, 1, 1] 32) = wrapS (bitop .or .i64 x y) := by
  apply wrapS_mod
  rw [bits_op (Z := (x % 4294967296).toNat ||| (y % 4294967296).toNat) fun i => by
    rw [Nat.testBit_or]
    cases ((x % 4294967296).toNat.testBit i) <;> cases ((y % 4294967296).toNat.testBit i) <;> rfl]
  simp only [bitop]
  rw [i64_wrap_mod, BitVec.toNat_or, ← ofInt_mod, ← ofInt_mod]
  rw [show (4294967296 : Nat) = 2 ^ 32 from rfl, ← Nat.or_mod_two_pow]
  exact mod_mod_cast _
theorem bits_xor {x y : Int} : wrapS (bitsN (x % 4294967296).toNat (y % 4294967296).toNat [0, 1, 1, 0] 32) = wrapS (bitop .xor .i64 x y) := by
  apply wrapS_mod
  rw [bits_op (Z := (x % 4294967296).toNat ^^^ (y % 4294967296).toNat) fun i => by
    rw [Nat.testBit_xor]
    cases ((x % 4294967296).toNat.testBit i) <;> cases ((y % 4294967296).toNat.testBit i) <;> rfl]
  simp only [bitop]
  rw [i64_wrap_mod, BitVec.toNat_xor, ← ofInt_mod, ← ofInt_mod]
  rw [show (4294967296 : Nat) = 2 ^ 32 from rfl, ← Nat.xor_mod_two_pow]
  exact mod_mod_cast _
/-- What value.Apply answers. -/
def applyS (f a b : Int) : Int × Int :=
  if f = 1 then (wrapS (wrapS a + wrapS b), 0) else if f = 2 then (wrapS (wrapS a - wrapS b), 0) else if f = 3 then (wrapS (wrapS a * wrapS b), 0)
  else if f = 4 then (wrapS (bitop .and .i64 (wrapS a) (wrapS b)), 0) else if f = 5 then (wrapS (bitop .or .i64 (wrapS a) (wrapS b)), 0) else if f = 6 then (wrapS (bitop .xor .i64 (wrapS a) (wrapS b)), 0)
  else if f = 7 then (if wrapS a = wrapS b then 1 else 0, 0) else if f = 8 then (if wrapS a = wrapS b then 0 else 1, 0) else if f = 9 then (if wrapS a < wrapS b then 1 else 0, 0)
  else if f = 10 then (if wrapS a ≤ wrapS b then 1 else 0, 0) else (0, 8)
theorem applyS_rng (f a b : Int) : -2147483648 ≤ (applyS f a b).1 ∧ (applyS f a b).1 ≤ 2147483647 := by
  unfold applyS
  repeat' split
  all_goals first | exact wrapS_rng _ | (constructor <;> omega)
end Go.Proofs.YtklnffdjhoacoaaDoor
set_option linter.unusedSimpArgs false
set_option linter.unusedVariables false
namespace Go.Proofs.YtklnffdjhoacoaaDoor
open Go Go.Eng

/-! Ids. -/
def depthF : Nat → Int → Int → Int
  | 0, _, _ => -1
  | n + 1, d, id => if id < 8 then d else if 7 ≤ id.tmod 8 then -1 else depthF n (d + 1) (id.tdiv 8 - 1)
def depthI (id : Int) : Int := if id < 0 then -1 else depthF 5 0 id
theorem depthF_rng : ∀ (n : Nat) (d id : Int), 0 ≤ d → depthF n d id = -1 ∨ (d ≤ depthF n d id ∧ depthF n d id < d + n)
  | 0, d, id, h => .inl rfl
  | n + 1, d, id, h => by
    unfold depthF
    split
    · right; omega
    · split
      · exact .inl rfl
      · rcases depthF_rng n (d + 1) (id.tdiv 8 - 1) (by omega) with e | e
        · exact .inl e
        · right; omega
theorem depthI_rng (id : Int) : -1 ≤ depthI id ∧ depthI id ≤ 4 := by
  unfold depthI
  split
  · omega
  · rcases depthF_rng 5 0 id (by omega) with e | e <;> omega
theorem depthF_shift : ∀ (n : Nat) (d id r : Int), depthF (n + 1) d id = r → 0 ≤ d → 0 ≤ r → r < d + n → depthF n (d + 1) id = r + 1
  | 0, d, id, r, h, h0, h1, h2 => by
    have h : depthF 1 d id = r := h
    rcases depthF_rng 1 d id h0 with e | e <;> omega
  | n + 1, d, id, r, h, h0, h1, h2 => by
    unfold depthF at h ⊢
    split at h
    · rename_i q; rw [if_pos q]; omega
    · rename_i q
      rw [if_neg q]
      split at h
      · omega
      · rename_i q2
        rw [if_neg q2]
        exact depthF_shift n (d + 1) _ r h (by omega) h1 (by omega)
def bndF : Nat → Int
  | 0 => 0
  | n + 1 => 8 * (bndF n + 1)
theorem depthF_lt : ∀ (n : Nat) (d id : Int), 0 ≤ d → 0 ≤ id → 0 ≤ depthF n d id → id < bndF n
  | 0, d, id, h0, h1, h2 => by simp [depthF] at h2
  | n + 1, d, id, h0, h1, h2 => by
    have hp : 0 ≤ bndF n := by
      clear h2
      induction n with
      | zero => simp [bndF]
      | succ n ih => unfold bndF; omega
    unfold depthF at h2
    unfold bndF
    split at h2
    · omega
    · split at h2
      · omega
      · have e : id.tdiv 8 = id / 8 := Int.tdiv_eq_ediv_of_nonneg h1
        rw [e] at h2
        have := depthF_lt n (d + 1) (id / 8 - 1) (by omega) (by omega) h2
        omega
theorem depthI_lt {id : Int} (h : 0 ≤ depthI id) : 0 ≤ id ∧ id < 37448 := by
  unfold depthI at h
  split at h
  · omega
  · have := depthF_lt 5 0 id (by omega) (by omega) h
    simp only [bndF] at this
    omega
def childS (id ch : Int) : Int × Bool := if depthI id < 0 ∨ depthI id = 4 ∨ ch < 0 ∨ 7 ≤ ch then (0, false) else (8 * (id + 1) + ch, true)
def parentS (id : Int) : Int × Bool := if depthI id < 1 then (0, false) else (id.tdiv 8 - 1, true)
def depthM (id : Int) : Int := if depthI id < 0 then 0 else depthI id
theorem child_depth {id ch : Int} (h0 : 0 ≤ depthI id) (h4 : depthI id ≠ 4) (c0 : 0 ≤ ch) (c7 : ch < 7) : depthI (8 * (id + 1) + ch) = depthI id + 1 ∧ (8 * (id + 1) + ch).tdiv 8 - 1 = id := by
  obtain ⟨i0, i1⟩ := depthI_lt h0
  have e1 : (8 * (id + 1) + ch).tdiv 8 = id + 1 := by rw [Int.tdiv_eq_ediv_of_nonneg (by omega)]; omega
  have e2 : (8 * (id + 1) + ch).tmod 8 = ch := by rw [Int.tmod_eq_emod_of_nonneg (by omega)]; omega
  have hr := depthI_rng id
  refine ⟨?_, by omega⟩
  have hd : depthI (8 * (id + 1) + ch) = depthF 4 1 id := by
    unfold depthI
    rw [if_neg (by omega)]
    rw [depthF, if_neg (by omega), e2, if_neg (by omega), e1, show id + 1 - 1 = id by omega]
    rfl
  rw [hd]
  have : depthI id = depthF 5 0 id := by unfold depthI; rw [if_neg (by omega)]
  exact depthF_shift 4 0 id _ this.symm (by omega) h0 (by omega)

/-! Threads. -/
@[reducible] def shT : Sh := .pair (.int .i64) (.pair (.int .i64) (.pair (.int .i64) (.pair (.arr 8 (.int .i64)) (.pair (.int .i64) (.pair (.int .i64) (.pair (.int .i64) (.pair (.int .i64) (.pair (.int .i64) (.pair (.sl (.int .i64)) .unit)))))))))
abbrev TD := Int × Int × Int × List Int × Int × Int × Int × Int × Int × List Int × Unit
def visS (op : Int) : Bool := decide (8 ≤ op ∧ op ≤ 22)
def defS (i : ID) : Int × Bool := if chkI i ≠ 0 ∨ use i.1 0 = false then (0, false) else (i.2.1, true)
def codeF (fs : List FD) (fn : Int) : List ID := (fs.getD fn.toNat (⟨#[]⟩, [], ())).2.1
def atS (fs : List FD) (fn pc : Int) : Option ID := (codeF fs fn)[pc.toNat]?
def atR (fs : List FD) (fn pc : Int) : ID × Bool := match atS fs fn pc with
  | some i => (i, true)
  | none => ((0, 0, 0, 0, 0, 0, 0, 0, ()), false)
/-- The fault of the instruction. -/
def obsS (id ch ph : Int) (hd : List Int) (i : ID) : Int :=
  if ph ≠ 0 then 0 else if i.1 = 18 then (if hasI hd i.2.2.2.2.2.1 = true then 0 else 27) else if i.1 = 16 then (if hasI hd i.2.2.2.2.1 = true then 0 else 27)
  else if i.1 = 21 then (if (childS id ch).2 = true then 0 else 28) else 0
/-- Well-formed threads. -/
def Formed (ms : List ByteArray) (fs : List FD) (bound : Int) : TD → Prop
  | (id, fn, pc, rg, st, ch, ph, su, fa, hd, _) => 0 ≤ depthI id ∧ (0 ≤ fn ∧ fn < fs.length) ∧ (0 ≤ pc ∧ pc ≤ (codeF fs fn).length) ∧ (∀ k < 8, ∀ r, rg[k]? = some r → valS r = true) ∧
    (0 ≤ st ∧ st ≤ bound) ∧ (0 ≤ ch ∧ ch ≤ 7 ∧ (depthI id = 4 → ch = 0)) ∧ SS hd ∧ (∀ m ∈ hd, 0 ≤ m ∧ m < ms.length) ∧
    (ph = 0 ∨ ((ph = 1 ∨ ph = 2) ∧ ∃ i, atS fs fn pc = some i ∧ i.1 = 18 ∧ hasI hd i.2.2.2.2.2.1 = false))
open Classical in
noncomputable def formedB (ms : List ByteArray) (fs : List FD) (bound : Int) (t : TD) : Bool := decide (Formed ms fs bound t)
/-- One local instruction. -/
def locS : TD → ID → TD × Bool
  | (id, fn, pc, rg, st, ch, ph, su, fa, hd, _), (op, a, b, c, obj, n, f, _, _) =>
    if op = 1 then ((id, fn, pc + 1, rg.set a.toNat n, st, ch, ph, su, fa, hd, ()), true)
    else if op = 2 then ((id, fn, pc + 1, rg.set a.toNat (rg.getD b.toNat 0), st, ch, ph, su, fa, hd, ()), true)
    else if op = 3 then ((id, fn, pc + 1, if (applyS f (rg.getD b.toNat 0) (rg.getD c.toNat 0)).2 = 0 then rg.set a.toNat (applyS f (rg.getD b.toNat 0) (rg.getD c.toNat 0)).1 else rg, st, ch, ph, su, fa, hd, ()), true)
    else if op = 4 then ((id, fn, n, rg, st, ch, ph, su, fa, hd, ()), true)
    else if op = 5 then ((id, fn, if rg.getD b.toNat 0 = 0 then pc + 1 else n, rg, st, ch, ph, su, fa, hd, ()), true)
    else if op = 6 ∧ rg.getD b.toNat 0 = 0 then ((id, fn, pc, rg, st, ch, ph, 3, 26, hd, ()), false)
    else if op = 7 then ((id, fn, pc, rg, st, ch, ph, 2, 0, hd, ()), false)
    else ((id, fn, pc + 1, rg, st, ch, ph, su, fa, hd, ()), true)
def endS : TD → Int → Int → TD
  | (id, fn, pc, rg, st, ch, ph, _, _, hd, _), s, f => (id, fn, pc, rg, st, ch, ph, s, f, hd, ())
/-- A round of settling: at an instruction that is not visible, the rest. -/
def topS (fs : List FD) (bound : Int) (t : TD) (rest : ID → TD) : TD := match t with
  | (id, fn, pc, rg, st, ch, ph, su, fa, hd, _) => match atS fs fn pc with
    | none => (id, fn, pc, rg, st, ch, ph, 2, 0, hd, ())
    | some i => if visS i.1 = true then
        (if obsS id ch ph hd i ≠ 0 then (id, fn, pc, rg, st, ch, ph, 3, obsS id ch ph hd i, hd, ()) else if st = bound then (id, fn, pc, rg, st, ch, ph, 4, 0, hd, ()) else (id, fn, pc, rg, st, ch, ph, su, fa, hd, ()))
      else rest i
def stlS (fs : List FD) (bound : Int) : Nat → TD → TD
  | 0, t => topS fs bound t fun _ => endS t 3 29
  | k + 1, t => topS fs bound t fun i => if (locS t i).2 = true then stlS fs bound k (locS t i).1 else (locS t i).1
/-- Valid threads of a valid program. -/
def Vld (ms : List ByteArray) (fs : List FD) (bound : Int) : TD → Prop
  | (id, fn, pc, rg, st, ch, ph, su, fa, hd, u) => Formed ms fs bound (id, fn, pc, rg, st, ch, ph, su, fa, hd, u) ∧
    (((su = 1 ∧ st < bound ∨ su = 4 ∧ 1 ≤ st) ∧ fa = 0 ∧ ∃ i, atS fs fn pc = some i ∧ visS i.1 = true ∧ obsS id ch ph hd i = 0) ∨
     (su = 2 ∧ fa = 0 ∧ ph = 0 ∧ ∀ i, atS fs fn pc = some i → i.1 = 7) ∨
     (su = 3 ∧ ph = 0 ∧ ∃ i, atS fs fn pc = some i ∧ (fa = 26 ∧ i.1 = 6 ∧ rg.getD i.2.2.1.toNat 0 = 0 ∨ fa = 29 ∧ visS i.1 = false ∨ fa ≠ 26 ∧ fa ≠ 29 ∧ fa ≠ 0 ∧ obsS id ch ph hd i = fa)))
open Classical in
noncomputable def vldB (ms : List ByteArray) (fs : List FD) (bound : Int) (t : TD) : Bool := decide (Vld ms fs bound t)

/-! Valid programs. -/
theorem chkI_regs {i : ID} (h : chkI i = 0) : (0 ≤ i.2.1 ∧ i.2.1 < 8) ∧ (0 ≤ i.2.2.1 ∧ i.2.2.1 < 8) ∧ (0 ≤ i.2.2.2.1 ∧ i.2.2.2.1 < 8) ∧ (1 ≤ i.1 ∧ i.1 ≤ 22) := by
  unfold chkI chkS at h
  split at h
  · simp at h
  split at h
  · simp at h
  split at h
  · simp at h
  · rename_i h1 h2 h3
    simp only [regS, knownS] at h1 h3
    simp only [Bool.or_eq_true, Bool.not_eq_true', Bool.and_eq_false_iff, decide_eq_false_iff_not] at h1 h3
    refine ⟨?_, ?_, ?_, ?_⟩ <;> omega
theorem chkI_fn {i : ID} (h : chkI i = 0) (h3 : i.1 = 3) : 1 ≤ i.2.2.2.2.2.2.1 ∧ i.2.2.2.2.2.2.1 ≤ 10 := by
  unfold chkI chkS at h
  repeat' split at h
  all_goals first | (simp at h; done) | skip
  rename_i h1 h2 h4 h5 h6 h7
  have hu : use i.1 5 = true := by rw [h3]; rfl
  rw [hu] at h6
  by_cases hc : 1 ≤ i.2.2.2.2.2.2.1 ∧ i.2.2.2.2.2.2.1 ≤ 10
  · exact hc
  · exfalso; apply h6
    unfold nameS
    rw [if_neg hc]; rfl
theorem chkI_n {i : ID} (h : chkI i = 0) (h1 : i.1 = 1) : valS i.2.2.2.2.2.1 = true := by
  unfold chkI chkS at h
  repeat' split at h
  all_goals first | (simp at h; done) | skip
  rename_i q1 q2 q3 q4 q5 q6
  simp [h1] at q6
  unfold valS
  simp; omega
theorem inst_in {fs : List FD} {k : Nat} {x : FD} (hx : fs[k]? = some x) {j : Nat} {i : ID} (hj : x.2.1[j]? = some i) : (((k : Int), (j : Int), ()), i, ()) ∈ instL fs := by
  unfold instL
  rw [instG_cut k fs 0 hx]
  refine List.mem_append_right _ (List.mem_append_left _ ?_)
  unfold instF
  rw [List.mem_map]
  refine ⟨(i, j), ?_, by simp⟩
  rw [List.mem_iff_getElem?]
  exact ⟨j, by rw [List.getElem?_zipIdx, hj]; simp⟩
theorem codeF_get {fs : List FD} {fn : Int} (h : 0 ≤ fn ∧ fn < fs.length) : ∃ x, fs[fn.toNat]? = some x ∧ codeF fs fn = x.2.1 := by
  have hl : fn.toNat < fs.length := by omega
  refine ⟨fs[fn.toNat], List.getElem?_eq_getElem hl, ?_⟩
  unfold codeF
  rw [List.getD_eq_getElem?_getD, List.getElem?_eq_getElem hl]; rfl
theorem at_ok {vs : List VD} {ms cs : List ByteArray} {fs : List FD} {ts : List SD} (h : (chkP vs ms cs fs ts).1 = 0) {fn pc : Int} {i : ID} (hf : 0 ≤ fn ∧ fn < fs.length) (hi : atS fs fn pc = some i) : ciI vs ms cs fs i (codeF fs fn).length = 0 := by
  obtain ⟨c1, c2, c3⟩ := chk_zero h
  obtain ⟨x, hx, ex⟩ := codeF_get hf
  unfold atS at hi
  rw [ex] at hi ⊢
  have := cc_all c2 _ (inst_in hx hi)
  rwa [ce_at hx] at this
theorem ci_zero {vs : List VD} {ms cs : List ByteArray} {fs : List FD} {i : ID} {m : Int} (h : ciI vs ms cs fs i m = 0) : chkI i = 0 ∧ (0 ≤ objS vs ms cs fs i.1 → 0 ≤ i.2.2.2.2.1 ∧ i.2.2.2.2.1 < objS vs ms cs fs i.1) ∧ (i.1 = 18 → 0 ≤ i.2.2.2.2.2.1 ∧ i.2.2.2.2.2.1 < ms.length) ∧ (i.1 = 4 ∨ i.1 = 5 → 0 ≤ i.2.2.2.2.2.1 ∧ i.2.2.2.2.2.1 ≤ m) := by
  unfold ciI ciS at h
  split at h
  · rename_i q; exact absurd h q
  split at h
  · cases h
  split at h
  · cases h
  split at h
  · cases h
  · rename_i q1 q2 q3 q4
    refine ⟨Classical.not_not.1 q1, fun h0 => ?_, fun h0 => ?_, fun h0 => ?_⟩
    · omega
    · omega
    · omega
end Go.Proofs.YtklnffdjhoacoaaDoor
set_option linter.unusedSimpArgs false
set_option linter.unusedVariables false
namespace Go.Proofs.YtklnffdjhoacoaaDoor
open Go Go.Eng

theorem regs_set {rg : List Int} {a : Nat} {v : Int} (h : ∀ k < 8, ∀ r, rg[k]? = some r → valS r = true) (hv : valS v = true) : ∀ k < 8, ∀ r, (rg.set a v)[k]? = some r → valS r = true := by
  intro k hk r hr
  rw [List.getElem?_set] at hr
  split at hr
  · split at hr
    · cases hr; exact hv
    · cases hr
  · exact h k hk r hr
theorem regs_get {rg : List Int} {b : Int} (h : ∀ k < 8, ∀ r, rg[k]? = some r → valS r = true) (hb : 0 ≤ b ∧ b < 8) : valS (rg.getD b.toNat 0) = true := by
  rw [List.getD_eq_getElem?_getD]
  cases hq : rg[b.toNat]? with
  | none => rfl
  | some r => exact h _ (by omega) r hq
theorem app_val (f a b : Int) : valS (applyS f a b).1 = true := by
  have := applyS_rng f a b
  unfold valS
  simpa using this
theorem pc_succ {pc : Int} {n : Nat} (h : 0 ≤ pc) (h2 : pc.toNat < n) : 0 ≤ pc + 1 ∧ pc + 1 ≤ (n : Int) := by omega
theorem at_lt {fs : List FD} {fn pc : Int} {i : ID} (h : atS fs fn pc = some i) : pc.toNat < (codeF fs fn).length := (List.getElem?_eq_some_iff.1 h).1
theorem vis_ph {ms : List ByteArray} {fs : List FD} {bound id fn pc st ch ph su fa : Int} {rg hd : List Int} {u : Unit} {i : ID} (h : Formed ms fs bound (id, fn, pc, rg, st, ch, ph, su, fa, hd, u)) (hi : atS fs fn pc = some i) (hv : visS i.1 = false) : ph = 0 := by
  rcases h.2.2.2.2.2.2.2.2 with e | ⟨_, j, hj, h18, _⟩
  · exact e
  · rw [hi] at hj; cases hj
    rw [h18] at hv; cases hv
theorem none_ph {ms : List ByteArray} {fs : List FD} {bound id fn pc st ch ph su fa : Int} {rg hd : List Int} {u : Unit} (h : Formed ms fs bound (id, fn, pc, rg, st, ch, ph, su, fa, hd, u)) (hi : atS fs fn pc = none) : ph = 0 := by
  rcases h.2.2.2.2.2.2.2.2 with e | ⟨_, j, hj, h18, _⟩
  · exact e
  · rw [hi] at hj; cases hj
theorem loc_formed {vs : List VD} {ms cs : List ByteArray} {fs : List FD} {ts : List SD} (hc : (chkP vs ms cs fs ts).1 = 0) {bound : Int} {t : TD} {i : ID} (h : Formed ms fs bound t) (hi : atS fs t.2.1 t.2.2.1 = some i) (hv : visS i.1 = false) : Formed ms fs bound (locS t i).1 := by
  obtain ⟨id, fn, pc, rg, st, ch, ph, su, fa, hd, u⟩ := t
  obtain ⟨op, a, b, c, obj, n, f, ord, u2⟩ := i
  have hi : atS fs fn pc = some (op, a, b, c, obj, n, f, ord, u2) := hi
  have hp := vis_ph h hi hv
  have hlt := at_lt hi
  obtain ⟨h1, h2, h3, h4, h5, h6, h7, h8, h9⟩ := h
  have ok := at_ok hc h2 hi
  obtain ⟨k1, k2, k3, k4⟩ := ci_zero ok
  obtain ⟨r1, r2, r3, r4⟩ := chkI_regs k1
  have k4 : op = 4 ∨ op = 5 → 0 ≤ n ∧ n ≤ ((codeF fs fn).length : Int) := k4
  have hpc := pc_succ h3.1 hlt
  have key : ∀ (pc' : Int) (rg' : List Int) (su' fa' : Int), (0 ≤ pc' ∧ pc' ≤ ((codeF fs fn).length : Int)) → (∀ k < 8, ∀ r, rg'[k]? = some r → valS r = true) → Formed ms fs bound (id, fn, pc', rg', st, ch, ph, su', fa', hd, ()) :=
    fun pc' rg' su' fa' q1 q2 => ⟨h1, h2, q1, q2, h5, h6, h7, h8, .inl hp⟩
  unfold locS
  simp only
  split
  · rename_i e; exact key _ _ _ _ hpc (regs_set h4 (chkI_n k1 e))
  split
  · exact key _ _ _ _ hpc (regs_set h4 (regs_get h4 r2))
  split
  · split
    · exact key _ _ _ _ hpc (regs_set h4 (app_val _ _ _))
    · exact key _ _ _ _ hpc h4
  split
  · rename_i e; exact key _ _ _ _ (k4 (.inl e)) h4
  split
  · rename_i e
    split
    · exact key _ _ _ _ hpc h4
    · exact key _ _ _ _ (k4 (.inr e)) h4
  split
  · exact key _ _ _ _ h3 h4
  split
  · exact key _ _ _ _ h3 h4
  · exact key _ _ _ _ hpc h4
theorem loc_keep (t : TD) (i : ID) : (locS t i).1.1 = t.1 ∧ (locS t i).1.2.1 = t.2.1 ∧ (locS t i).1.2.2.2.2.1 = t.2.2.2.2.1 ∧ (locS t i).1.2.2.2.2.2.1 = t.2.2.2.2.2.1 ∧ (locS t i).1.2.2.2.2.2.2.1 = t.2.2.2.2.2.2.1 ∧ (locS t i).1.2.2.2.2.2.2.2.2.2.1 = t.2.2.2.2.2.2.2.2.2.1 ∧ ((locS t i).2 = true → (locS t i).1.2.2.2.2.2.2.2.1 = t.2.2.2.2.2.2.2.1 ∧ (locS t i).1.2.2.2.2.2.2.2.2.1 = t.2.2.2.2.2.2.2.2.1) := by
  obtain ⟨id, fn, pc, rg, st, ch, ph, su, fa, hd, u⟩ := t
  obtain ⟨op, a, b, c, obj, n, f, ord, u2⟩ := i
  unfold locS
  simp only
  repeat' split
  all_goals simp
theorem formed_end {ms : List ByteArray} {fs : List FD} {bound id fn pc st ch ph su fa : Int} {rg hd : List Int} {u : Unit} (h : Formed ms fs bound (id, fn, pc, rg, st, ch, ph, su, fa, hd, u)) (su' fa' : Int) : Formed ms fs bound (id, fn, pc, rg, st, ch, ph, su', fa', hd, ()) := h
theorem obs_cases (id ch ph : Int) (hd : List Int) (i : ID) : obsS id ch ph hd i = 0 ∨ (ph = 0 ∧ (obsS id ch ph hd i = 27 ∨ obsS id ch ph hd i = 28)) := by
  unfold obsS
  repeat' split
  all_goals first | exact .inl rfl | (right; constructor <;> first | omega | simp)
/-- Settled threads are valid: one round. -/
theorem top_vld {ms : List ByteArray} {fs : List FD} {bound : Int} (hb : 1 ≤ bound) {rest : ID → TD} {id fn pc st ch ph : Int} {rg hd : List Int} {u : Unit} (h : Formed ms fs bound (id, fn, pc, rg, st, ch, ph, 1, 0, hd, u))
    (hr : ∀ i, atS fs fn pc = some i → visS i.1 = false → ph = 0 → Vld ms fs bound (rest i)) : Vld ms fs bound (topS fs bound (id, fn, pc, rg, st, ch, ph, 1, 0, hd, u) rest) := by
  unfold topS
  simp only
  split
  · rename_i hi
    exact ⟨h, .inr (.inl ⟨rfl, rfl, none_ph h hi, fun i q => by rw [hi] at q; cases q⟩)⟩
  rename_i i hi
  split
  · rename_i hv
    have ho := obs_cases id ch ph hd i
    split
    · rename_i e
      refine ⟨h, .inr (.inr ⟨rfl, by omega, i, hi, .inr (.inr ⟨by omega, by omega, by omega, rfl⟩)⟩)⟩
    · rename_i e
      have e : obsS id ch ph hd i = 0 := by omega
      have hst := h.2.2.2.2.1
      split
      · exact ⟨h, .inl ⟨.inr ⟨rfl, by omega⟩, rfl, i, hi, hv, e⟩⟩
      · exact ⟨h, .inl ⟨.inl ⟨rfl, by omega⟩, rfl, i, hi, hv, e⟩⟩
  · rename_i hv
    have hv : visS i.1 = false := by simpa using hv
    exact hr i hi hv (vis_ph h hi hv)
/-- Settled threads are valid. -/
theorem stl_vld {vs : List VD} {ms cs : List ByteArray} {fs : List FD} {ts : List SD} (hc : (chkP vs ms cs fs ts).1 = 0) {bound : Int} (hb : 1 ≤ bound) : ∀ (k : Nat) (t : TD), Formed ms fs bound t → t.2.2.2.2.2.2.2.1 = 1 → t.2.2.2.2.2.2.2.2.1 = 0 → Vld ms fs bound (stlS fs bound k t) := by
  intro k
  induction k with
  | zero =>
    rintro ⟨id, fn, pc, rg, st, ch, ph, su, fa, hd, u⟩ h h1 h2
    have h1 : su = 1 := h1
    have h2 : fa = 0 := h2
    subst h1; subst h2
    rw [stlS]
    refine top_vld hb h fun i hi hv hp => ?_
    show Vld ms fs bound (id, fn, pc, rg, st, ch, ph, 3, 29, hd, ())
    exact ⟨h, .inr (.inr ⟨rfl, hp, i, hi, .inr (.inl ⟨rfl, hv⟩)⟩)⟩
  | succ k ih =>
    rintro ⟨id, fn, pc, rg, st, ch, ph, su, fa, hd, u⟩ h h1 h2
    have h1 : su = 1 := h1
    have h2 : fa = 0 := h2
    subst h1; subst h2
    rw [stlS]
    refine top_vld hb h fun i hi hv hp => ?_
    have hf := loc_formed hc (t := (id, fn, pc, rg, st, ch, ph, 1, 0, hd, u)) h hi hv
    have hk := loc_keep (id, fn, pc, rg, st, ch, ph, 1, 0, hd, u) i
    split
    · rename_i e
      exact ih _ hf (hk.2.2.2.2.2.2 e).1 (hk.2.2.2.2.2.2 e).2
    · rename_i e
      obtain ⟨op, a, b, c, obj, n, f, ord, u2⟩ := i
      unfold locS at e ⊢
      simp only at e ⊢
      by_cases n1 : op = 1
      · rw [if_pos n1] at e; exact absurd rfl e
      rw [if_neg n1] at e ⊢
      by_cases n2 : op = 2
      · rw [if_pos n2] at e; exact absurd rfl e
      rw [if_neg n2] at e ⊢
      by_cases n3 : op = 3
      · rw [if_pos n3] at e; exact absurd rfl e
      rw [if_neg n3] at e ⊢
      by_cases n4 : op = 4
      · rw [if_pos n4] at e; exact absurd rfl e
      rw [if_neg n4] at e ⊢
      by_cases n5 : op = 5
      · rw [if_pos n5] at e; exact absurd rfl e
      rw [if_neg n5] at e ⊢
      by_cases n6 : op = 6 ∧ rg.getD b.toNat 0 = 0
      · rw [if_pos n6]
        exact ⟨h, .inr (.inr ⟨rfl, hp, _, hi, .inl ⟨rfl, n6.1, n6.2⟩⟩)⟩
      rw [if_neg n6] at e ⊢
      by_cases n7 : op = 7
      · rw [if_pos n7]
        exact ⟨h, .inr (.inl ⟨rfl, rfl, hp, fun j hj => by rw [hi] at hj; cases hj; exact n7⟩)⟩
      rw [if_neg n7] at e
      exact absurd rfl e
/-- A valid running thread is settled. -/
theorem top_id {ms : List ByteArray} {fs : List FD} {bound : Int} {t : TD} (h : Vld ms fs bound t) (h1 : t.2.2.2.2.2.2.2.1 = 1) (rest : ID → TD) : topS fs bound t rest = t := by
  obtain ⟨id, fn, pc, rg, st, ch, ph, su, fa, hd, u⟩ := t
  have h1 : su = 1 := h1
  subst h1
  obtain ⟨hf, q | q | q⟩ := h
  · obtain ⟨q1, q2, i, hi, hv, ho⟩ := q
    subst q2
    have q1 : st < bound := by
      rcases q1 with ⟨_, q1⟩ | ⟨q1, _⟩
      · exact q1
      · exact absurd q1 (by decide)
    unfold topS
    simp only [hi]
    rw [if_pos hv, if_neg (by rw [ho]; simp), if_neg (by omega)]
  · exact absurd q.1 (by decide)
  · exact absurd q.1 (by decide)
theorem stl_id {ms : List ByteArray} {fs : List FD} {bound : Int} {t : TD} (h : Vld ms fs bound t) (h1 : t.2.2.2.2.2.2.2.1 = 1) (k : Nat) : stlS fs bound k t = t := by
  cases k <;> rw [stlS] <;> exact top_id h h1 _
theorem top_keep {fs : List FD} {bound : Int} {t : TD} {rest : ID → TD} (hr : ∀ i, (rest i).1 = t.1 ∧ (rest i).2.1 = t.2.1 ∧ (rest i).2.2.2.2.1 = t.2.2.2.2.1 ∧ (rest i).2.2.2.2.2.2.2.2.2.1 = t.2.2.2.2.2.2.2.2.2.1) :
    (topS fs bound t rest).1 = t.1 ∧ (topS fs bound t rest).2.1 = t.2.1 ∧ (topS fs bound t rest).2.2.2.2.1 = t.2.2.2.2.1 ∧ (topS fs bound t rest).2.2.2.2.2.2.2.2.2.1 = t.2.2.2.2.2.2.2.2.2.1 := by
  obtain ⟨id, fn, pc, rg, st, ch, ph, su, fa, hd, u⟩ := t
  unfold topS
  simp only
  split
  · exact ⟨rfl, rfl, rfl, rfl⟩
  split
  · repeat' split
    all_goals exact ⟨rfl, rfl, rfl, rfl⟩
  · exact hr _
theorem stl_keep (fs : List FD) (bound : Int) : ∀ (k : Nat) (t : TD), (stlS fs bound k t).1 = t.1 ∧ (stlS fs bound k t).2.1 = t.2.1 ∧ (stlS fs bound k t).2.2.2.2.1 = t.2.2.2.2.1 ∧ (stlS fs bound k t).2.2.2.2.2.2.2.2.2.1 = t.2.2.2.2.2.2.2.2.2.1 := by
  intro k
  induction k with
  | zero =>
    intro t
    rw [stlS]
    exact top_keep fun i => ⟨rfl, rfl, rfl, rfl⟩
  | succ k ih =>
    intro t
    rw [stlS]
    refine top_keep fun i => ?_
    have hk := loc_keep t i
    have := ih (locS t i).1
    split
    · exact ⟨this.1.trans hk.1, this.2.1.trans hk.2.1, this.2.2.1.trans hk.2.2.1, this.2.2.2.trans hk.2.2.2.2.2.1⟩
    · exact ⟨hk.1, hk.2.1, hk.2.2.1, hk.2.2.2.2.2.1⟩
end Go.Proofs.YtklnffdjhoacoaaDoor
set_option linter.unusedSimpArgs false
set_option linter.unusedVariables false
namespace Go.Proofs.YtklnffdjhoacoaaDoor
open Go Go.Eng

def filI (l o : List Int) (b : Bool) : List Int := l.filter fun x => hasI o x == b
def remI (l : List Int) (x : Int) : List Int := filI (makeI l) [x] false
def addI (l : List Int) (x : Int) : List Int := makeI (l ++ [x])
theorem rem_ss (l : List Int) (x : Int) : SS (remI l x) := List.Pairwise.filter _ (make_ss l)
theorem rem_mem {l : List Int} {x y : Int} : y ∈ remI l x ↔ y ∈ l ∧ y ≠ x := by
  unfold remI filI
  rw [List.mem_filter, make_mem]
  have : (hasI [x] y == false) = true ↔ y ≠ x := by
    rw [beq_iff_eq, hasI_false, List.mem_singleton]
  rw [this]
theorem add_mem {l : List Int} {x y : Int} : y ∈ addI l x ↔ y ∈ l ∨ y = x := by
  unfold addI
  rw [make_mem]; simp
theorem with_eq {l : List Int} {n : Int} (h : SS l) : l.filter (fun x => decide (x < n)) ++ [n] ++ l.filter (fun x => decide (n < x)) = addI l n := by
  refine ss_ext ?_ (make_ss _) fun x => ?_
  · unfold SS
    rw [List.append_assoc, List.pairwise_append]
    refine ⟨List.Pairwise.filter _ h, ?_, fun a ha b hb => ?_⟩
    · rw [List.singleton_append, List.pairwise_cons]
      refine ⟨fun b hb => ?_, List.Pairwise.filter _ h⟩
      simpa using (List.mem_filter.1 hb).2
    · have ha : a < n := by simpa using (List.mem_filter.1 ha).2
      rw [List.singleton_append, List.mem_cons] at hb
      rcases hb with rfl | hb
      · exact ha
      · have hb : n < b := by simpa using (List.mem_filter.1 hb).2
        omega
  · rw [add_mem]
    simp only [List.append_assoc, List.singleton_append, List.mem_append, List.mem_cons, List.mem_filter, decide_eq_true_eq]
    constructor
    · rintro (⟨q, _⟩ | q | ⟨q, _⟩)
      · exact .inl q
      · exact .inr q
      · exact .inl q
    · rintro (q | q)
      · by_cases h1 : x < n
        · exact .inl ⟨q, h1⟩
        · by_cases h2 : x = n
          · exact .inr (.inl h2)
          · exact .inr (.inr ⟨q, by omega⟩)
      · exact .inr (.inl q)
theorem without_eq {l : List Int} {n : Int} (h : SS l) : l.filter (fun x => decide (x ≠ n)) = remI l n := by
  refine ss_ext (List.Pairwise.filter _ h) (rem_ss _ _) fun x => ?_
  rw [rem_mem, List.mem_filter]; simp
def zT : TD := (0, 0, 0, [0, 0, 0, 0, 0, 0, 0, 0], 0, 0, 0, 0, 0, [], ())
/-- The thread after its instruction, before its local steps. -/
def cmpS : TD → ID → Int → TD
  | (id, fn, pc, rg, st, ch, ph, su, fa, hd, _), i, result =>
    if i.1 = 18 then
      (if ph = 0 then (id, fn, pc, if (defS i).2 = true then rg.set (defS i).1.toNat result else rg, st + 1, ch, 1, su, fa, remI hd i.2.2.2.2.2.1, ())
       else if ph = 1 then (id, fn, pc, if (defS i).2 = true then rg.set (defS i).1.toNat result else rg, st + 1, ch, 2, su, fa, hd, ())
       else (id, fn, pc + 1, if (defS i).2 = true then rg.set (defS i).1.toNat result else rg, st + 1, ch, 0, su, fa, addI hd i.2.2.2.2.2.1, ()))
    else (id, fn, pc + 1, if (defS i).2 = true then rg.set (defS i).1.toNat result else rg, st + 1, if i.1 = 21 then ch + 1 else ch, ph, su, fa,
      if i.1 = 15 ∨ (i.1 = 17 ∧ result ≠ 0) then addI hd i.2.2.2.2.1 else if i.1 = 16 then remI hd i.2.2.2.2.1 else hd, ())
theorem obj_mutex {vs : List VD} {ms cs : List ByteArray} {fs : List FD} {op : Int} (h : op = 15 ∨ op = 16 ∨ op = 17) : objS vs ms cs fs op = ms.length := by
  unfold objS
  rw [if_neg (by omega), if_pos h]
theorem run_at {ms : List ByteArray} {fs : List FD} {bound : Int} {t : TD} (h : Vld ms fs bound t) (h1 : t.2.2.2.2.2.2.2.1 = 1) : t.2.2.2.2.2.2.2.2.1 = 0 ∧ t.2.2.2.2.1 < bound ∧ ∃ i, atS fs t.2.1 t.2.2.1 = some i ∧ visS i.1 = true ∧ obsS t.1 t.2.2.2.2.2.1 t.2.2.2.2.2.2.1 t.2.2.2.2.2.2.2.2.2.1 i = 0 := by
  obtain ⟨id, fn, pc, rg, st, ch, ph, su, fa, hd, u⟩ := t
  have h1 : su = 1 := h1
  subst h1
  obtain ⟨hf, q | q | q⟩ := h
  · obtain ⟨q1, q2, i, hi, hv, ho⟩ := q
    rcases q1 with ⟨_, q1⟩ | ⟨q1, _⟩
    · exact ⟨q2, q1, i, hi, hv, ho⟩
    · exact absurd q1 (by decide)
  · exact absurd q.1 (by decide)
  · exact absurd q.1 (by decide)
theorem cmp_formed {vs : List VD} {ms cs : List ByteArray} {fs : List FD} {ts : List SD} (hc : (chkP vs ms cs fs ts).1 = 0) {bound : Int} {t : TD} (h : Vld ms fs bound t) (h1 : t.2.2.2.2.2.2.2.1 = 1) {i : ID} (hi : atS fs t.2.1 t.2.2.1 = some i) {result : Int} (hv : valS result = true) : Formed ms fs bound (cmpS t i result) := by
  obtain ⟨f0, s0, j, hj, vj, oj⟩ := run_at h h1
  rw [hi] at hj; cases hj
  obtain ⟨id, fn, pc, rg, st, ch, ph, su, fa, hd, u⟩ := t
  have hf : Formed ms fs bound (id, fn, pc, rg, st, ch, ph, su, fa, hd, u) := h.1
  have hi : atS fs fn pc = some i := hi
  have s0 : st < bound := s0
  have oj : obsS id ch ph hd i = 0 := oj
  have hlt := at_lt hi
  obtain ⟨a1, a2, a3, a4, a5, a6, a7, a8, a9⟩ := hf
  obtain ⟨k1, k2, k3, k4⟩ := ci_zero (at_ok hc a2 hi)
  have hpc := pc_succ a3.1 hlt
  have hst : 0 ≤ st + 1 ∧ st + 1 ≤ bound := ⟨Int.add_nonneg a5.1 (by decide), s0⟩
  have hrg : ∀ k < 8, ∀ r, (if (defS i).2 = true then rg.set (defS i).1.toNat result else rg)[k]? = some r → valS r = true := by
    split
    · exact regs_set a4 hv
    · exact a4
  have hrem : ∀ x, SS (remI hd x) ∧ ∀ m ∈ remI hd x, 0 ≤ m ∧ m < (ms.length : Int) := fun x => ⟨rem_ss _ _, fun m hm => a8 m (rem_mem.1 hm).1⟩
  have hadd : ∀ x, 0 ≤ x ∧ x < (ms.length : Int) → SS (addI hd x) ∧ ∀ m ∈ addI hd x, 0 ≤ m ∧ m < (ms.length : Int) := fun x hx => ⟨make_ss _, fun m hm => by
    rcases add_mem.1 hm with q | q
    · exact a8 m q
    · subst q; exact hx⟩
  unfold cmpS
  simp only
  split
  · rename_i e
    split
    · rename_i e0
      subst e0
      refine ⟨a1, a2, a3, hrg, hst, a6, (hrem _).1, (hrem _).2, .inr ⟨.inl rfl, i, hi, e, ?_⟩⟩
      rw [hasI_false]
      exact fun q => (rem_mem.1 q).2 rfl
    rename_i n0
    have a10 := a9.resolve_left n0
    split
    · exact ⟨a1, a2, a3, hrg, hst, a6, a7, a8, .inr ⟨.inr rfl, a10.2⟩⟩
    · exact ⟨a1, a2, hpc, hrg, hst, a6, (hadd _ (k3 e)).1, (hadd _ (k3 e)).2, .inl rfl⟩
  · rename_i e
    have e0 : ph = 0 := by
      rcases a9 with q | ⟨_, j, hj, q, _⟩
      · exact q
      · rw [hi] at hj; cases hj; exact absurd q e
    subst e0
    have hch : 0 ≤ (if i.1 = 21 then ch + 1 else ch) ∧ (if i.1 = 21 then ch + 1 else ch) ≤ 7 ∧ (depthI id = 4 → (if i.1 = 21 then ch + 1 else ch) = 0) := by
      split
      · rename_i e21
        have : (childS id ch).2 = true := by
          unfold obsS at oj
          rw [if_neg (by simp), if_neg e, if_neg (by omega), if_pos e21] at oj
          by_cases q : (childS id ch).2 = true
          · exact q
          · rw [if_neg q] at oj; cases oj
        unfold childS at this
        split at this
        · cases this
        · rename_i q; omega
      · exact a6
    refine ⟨a1, a2, hpc, hrg, hst, hch, ?_, ?_, .inl rfl⟩
    · split
      · exact make_ss _
      split
      · exact rem_ss _ _
      · exact a7
    · split
      · rename_i q
        have ho := obj_mutex (vs := vs) (ms := ms) (cs := cs) (fs := fs) (op := i.1) (by omega)
        rw [ho] at k2
        exact (hadd _ (k2 (by omega))).2
      split
      · exact (hrem _).2
      · exact a8
theorem cmp_keep (t : TD) (i : ID) (r : Int) : (cmpS t i r).1 = t.1 ∧ (cmpS t i r).2.1 = t.2.1 ∧ (cmpS t i r).2.2.2.2.1 = t.2.2.2.2.1 + 1 ∧ (cmpS t i r).2.2.2.2.2.2.2.1 = t.2.2.2.2.2.2.2.1 ∧ (cmpS t i r).2.2.2.2.2.2.2.2.1 = t.2.2.2.2.2.2.2.2.1 := by
  obtain ⟨id, fn, pc, rg, st, ch, ph, su, fa, hd, u⟩ := t
  unfold cmpS
  simp only
  repeat' split
  all_goals simp
/-- The error of a program and a bound. -/
def stdS (e bound : Int) : Int := if e ≠ 0 then e else if bound < 1 ∨ 32 < bound then 2 else 0
theorem std_zero {e bound : Int} : stdS e bound = 0 ↔ e = 0 ∧ 1 ≤ bound ∧ bound ≤ 32 := by
  unfold stdS
  constructor
  · intro h
    split at h
    · rename_i q; exact absurd h q
    · rename_i q
      split at h
      · cases h
      · omega
  · rintro ⟨h1, h2, h3⟩
    rw [if_neg (by omega), if_neg (by omega)]
def newS (e : Int) (fs : List FD) (bound id fn arg : Int) : TD × Int :=
  if stdS e bound ≠ 0 then (zT, stdS e bound) else if depthI id < 0 then (zT, 2) else if fn < 0 ∨ (fs.length : Int) ≤ fn then (zT, 11) else if valS arg = false then (zT, 2)
  else (stlS fs bound 256 (id, fn, 0, [arg, 0, 0, 0, 0, 0, 0, 0], 0, 0, 0, 1, 0, [], ()), 0)
theorem new_formed (ms : List ByteArray) {fs : List FD} {bound id fn arg : Int} (hb : 1 ≤ bound) (h1 : ¬ depthI id < 0) (h2 : ¬ (fn < 0 ∨ (fs.length : Int) ≤ fn)) (h3 : ¬ valS arg = false) : Formed ms fs bound (id, fn, 0, [arg, 0, 0, 0, 0, 0, 0, 0], 0, 0, 0, 1, 0, [], ()) := by
  refine ⟨by omega, by omega, by omega, fun k hk r hr => ?_, by omega, ⟨by omega, by omega, fun _ => rfl⟩, List.Pairwise.nil, fun m hm => (nomatch hm), .inl rfl⟩
  match k, hr with
  | 0, hr => cases hr; simpa using h3
  | k + 1, hr =>
    have : r = 0 := by
      have := List.mem_of_getElem? (show [(0 : Int), 0, 0, 0, 0, 0, 0][k]? = some r by simpa using hr)
      simpa using this
    rw [this]; rfl
open Classical in
noncomputable def setS (e : Int) (ms : List ByteArray) (fs : List FD) (bound : Int) (t : TD) : TD × Int :=
  if stdS e bound ≠ 0 then (zT, stdS e bound) else if ¬ Formed ms fs bound t ∨ t.2.2.2.2.2.2.2.2.1 ≠ 0 then (zT, 1) else if t.2.2.2.2.2.2.2.1 ≠ 1 then (zT, 30) else (stlS fs bound 256 t, 0)
open Classical in
noncomputable def pndS (e : Int) (ms : List ByteArray) (fs : List FD) (t : TD) : ID × Bool :=
  if e = 0 ∧ t.2.2.2.2.2.2.2.1 = 1 ∧ Vld ms fs 32 t then atR fs t.2.1 t.2.2.1 else ((0, 0, 0, 0, 0, 0, 0, 0, ()), false)
open Classical in
noncomputable def comS (e : Int) (ms : List ByteArray) (fs : List FD) (bound : Int) (t : TD) (result : Int) : TD × Int :=
  if stdS e bound ≠ 0 then (zT, stdS e bound) else if ¬ Vld ms fs bound t then (zT, 1) else if t.2.2.2.2.2.2.2.1 ≠ 1 then (zT, 30) else if valS result = false then (zT, 2)
  else (stlS fs bound 256 (cmpS t (atR fs t.2.1 t.2.2.1).1 result), 0)
end Go.Proofs.YtklnffdjhoacoaaDoor
