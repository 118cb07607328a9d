/- The engine, part E: the operations that change no memory. -/
import Derived.Test.YtklnffdjhoacoaaDoorEngD
set_option linter.unusedSimpArgs false
set_option linter.unusedVariables false
namespace Go.Eng
open Go Go.RowKit

@[reducible] def allOne : List Value → Bool
  | [] => true
  | v :: l => andB (isOne v) (allOne l)
theorem allOne_ok : ∀ {l : List Value}, allOne l = true → ∀ v ∈ l, oneC v
  | [], _, v, hv => by simp at hv
  | x :: l, h, v, hv => by
    simp only [allOne, andB_eq, Bool.and_eq_true] at h
    rcases List.mem_cons.1 hv with rfl | hv
    · exact isOne_one h.1
    · exact allOne_ok h.2 v hv

inductive Cl where
  | i | b | s
  deriving DecidableEq

structure TI where
  desc : TypeDesc
  size : Nat
  bytes : Nat
  zero : List Value
  shp : Option Sh
  eqf : List Cl := []

@[reducible] def aggD : TypeDesc → Bool
  | .struct _ => true
  | .array _ _ => true
  | _ => false

/-- The zero of a shape. -/
@[reducible] def zdat : (s : Sh) → s.den
  | .int _ => (0 : Int)
  | .bool => false
  | .str => ByteArray.empty
  | .any => undef
  | .sl _ => []
  | .pair a b => (zdat a, zdat b)
  | .unit => ()
  | .arr n s => List.replicate n (zdat s)

/-- A field, but for its names. -/
@[reducible] def fld (t o : Nat) : Field := { name := "", type := t, offset := o, embedded := false, tag := "", pkgPath := "", byteOffset := 0 }
def eraseF (f : Field) : Field := fld f.type f.offset
def nf : TypeDesc → TypeDesc
  | .struct fs => .struct (fs.map eraseF)
  | d => d
def isSt : TypeDesc → Bool
  | .struct _ => true
  | _ => false

/-- Structs that == takes field by field: 0 an integer, 1 a boolean, 2 a string. -/
def clsOf (P : Program) (t : TypeId) : Option Cl := match P.underlying t with
  | some (.int _) => some .i
  | some .bool => some .b
  | some .string => some .s
  | _ => none
def eqFs (P : Program) : Nat → List Cl → List Field → Bool
  | i, c :: cs, f :: fs => f.name != "_" && f.offset == i && clsOf P f.type == some c && eqFs P (i + 1) cs fs
  | _, [], [] => true
  | _, _, _ => false
def eqOK (P : Program) (t : TypeId) (cls : List Cl) : Bool := match P.underlying t with
  | some (.struct fs) => eqFs P 0 cls fs.toList && !P.stoodInHeld t && !P.eqGuardType P.depth t
  | some (.array _ e) => clsOf P e == some .i && P.cellsOf e == 1 && (P.info? e).isSome && !P.eqGuardType P.depth t
  | _ => false

structure TIOK (P : Program) (t : TypeId) (i : TI) : Prop where
  und : ∃ d, P.underlying t = some d ∧ nf d = i.desc
  info : ∃ inf z, P.info? t = some inf ∧ inf.size = i.size ∧ inf.bytes = i.bytes ∧ inf.zero = some z ∧ z.cells = i.zero.toArray
  zlen : i.zero.length = i.size
  zone : ∀ v ∈ i.zero, oneC v
  zshp : ∀ s, i.shp = some s → Rd (fun _ _ => none) s i.zero (zdat s) ∧ s.isAgg = aggD i.desc
  eqf : i.eqf ≠ [] → eqOK P t i.eqf = true

theorem TIOK.und' {P : Program} {t : TypeId} {i : TI} (k : TIOK P t i) {D : TypeDesc} (hd : i.desc = D) (h : isSt D = false) : P.underlying t = some D := by
  obtain ⟨d, h1, h2⟩ := k.und
  rw [h1]
  rw [hd] at h2
  cases d <;> first
    | (simp only [nf] at h2; rw [h2])
    | (simp only [nf] at h2; rw [← h2] at h; cases h)
theorem TIOK.undS {P : Program} {t : TypeId} {i : TI} (k : TIOK P t i) {fs : Array Field} (hd : i.desc = .struct fs) : ∃ fs0, P.underlying t = some (.struct fs0) ∧ fs0.map eraseF = fs := by
  obtain ⟨d, h1, h2⟩ := k.und
  rw [hd] at h2
  cases d <;> simp only [nf] at h2 <;> first
    | (cases h2; exact ⟨_, h1, rfl⟩)
    | cases h2
theorem nf_agg (d : TypeDesc) : aggD (nf d) = aggD d := by cases d <;> rfl

/-- The cells of a shape's zero. -/
@[reducible] def zc : Sh → List Value
  | .int k => [.int k 0]
  | .bool => [.bool false]
  | .str => [.string ByteArray.empty]
  | .any => []
  | .sl _ => [.slice none 0 0]
  | .pair a b => zc a ++ zc b
  | .unit => []
  | .arr n s => (List.replicate n (zc s)).flatten
@[reducible] def noAny : Sh → Bool
  | .any => false
  | .pair a b => noAny a && noAny b
  | .arr _ s => noAny s
  | _ => true
theorem zc_ok : ∀ {s : Sh}, noAny s = true → Rd (fun _ _ => none) s (zc s) (zdat s)
  | .int _, _ => rfl
  | .bool, _ => rfl
  | .str, _ => rfl
  | .any, h => by cases h
  | .sl _, _ => ⟨_, rfl, .inl ⟨rfl, rfl⟩⟩
  | .pair a b, h => by
    simp only [noAny, Bool.and_eq_true] at h
    exact ⟨_, _, rfl, zc_ok h.1, zc_ok h.2⟩
  | .unit, _ => rfl
  | .arr n s, h => by
    refine ⟨by simp [zdat], ?_⟩
    have r := zc_ok (s := s) h
    have : ∀ n, RdL (Rd (fun _ _ => none) s) (List.replicate n (zc s)).flatten (List.replicate n (zdat s)) := by
      intro n
      induction n with
      | zero => rfl
      | succ n ih => exact ⟨zc s, _, by rw [List.replicate_succ, List.flatten_cons], r, ih⟩
    exact this n

theorem zshp_of {i : TI} {s0 : Sh} (h : i.shp = some s0) (h1 : noAny s0 = true) (h2 : zc s0 = i.zero) (h3 : s0.isAgg = aggD i.desc) : ∀ s, i.shp = some s → Rd (fun _ _ => none) s i.zero (zdat s) ∧ s.isAgg = aggD i.desc := by
  intro s hs
  rw [h] at hs; cases hs
  exact ⟨by rw [← h2]; exact zc_ok h1, h3⟩

structure Cx where
  ti : List (Nat × TI)
  gd : Nat → Option (Sigma Sh.den)

@[reducible] def lkT : List (Nat × TI) → Nat → Option TI
  | [], _ => none
  | (k, e) :: l, n => cnd (Nat.beq k n) (some e) (lkT l n)

theorem TIOK.of_eq {P : Program} {t : TypeId} {i : TI} (h1 : (P.underlying t).map nf = some i.desc) (h2 : (P.info? t).map (fun x => (x.size, x.bytes, x.zero.map (·.cells))) = some (i.size, i.bytes, some i.zero.toArray))
    (h3 : i.zero.length = i.size) (h4 : allOne i.zero = true) (h5 : ∀ s, i.shp = some s → Rd (fun _ _ => none) s i.zero (zdat s) ∧ s.isAgg = aggD i.desc) (h6 : i.eqf ≠ [] → eqOK P t i.eqf = true := by intro h; exact absurd rfl h) : TIOK P t i where
  und := by
    cases h : P.underlying t with
    | none => rw [h] at h1; cases h1
    | some d => rw [h] at h1; exact ⟨d, rfl, by simpa using h1⟩
  info := by
    cases h : P.info? t with
    | none => rw [h] at h2; cases h2
    | some x =>
      rw [h] at h2
      simp only [Option.map_some, Option.some.injEq, Prod.mk.injEq] at h2
      cases hz : x.zero with
      | none => rw [hz] at h2; cases h2.2.2
      | some z => rw [hz] at h2; exact ⟨x, z, rfl, h2.1, h2.2.1, hz, by simpa using h2.2.2⟩
  zlen := h3
  zone := allOne_ok h4
  zshp := h5
  eqf := h6

def TisOK (P : Program) : List (Nat × TI) → Prop
  | [] => True
  | (k, e) :: l => TIOK P k e ∧ TisOK P l
theorem TisOK.get {P : Program} : ∀ {l : List (Nat × TI)} {t : Nat} {i : TI}, TisOK P l → lkT l t = some i → TIOK P t i
  | [], _, _, _, e => by simp [lkT] at e
  | (k, x) :: l, t, i, ⟨h1, h2⟩, e => by
    simp only [lkT, cnd_eq] at e
    split at e
    · rename_i hk
      have : k = t := by simpa using hk
      subst this; cases e; exact h1
    · exact TisOK.get h2 e

def GlobOK (gd : Nat → Option (Sigma Sh.den)) (h : FH) : Prop := ∀ g p, gd g = some p → ∃ cs, Rd h p.1 cs p.2 ∧ At h g 0 cs
theorem GlobOK.mono {gd : Nat → Option (Sigma Sh.den)} {h h' : FH} (g : GlobOK gd h) (le : h.le h') : GlobOK gd h' := fun k p e => by
  obtain ⟨cs, r, a⟩ := g k p e
  exact ⟨cs, r.mono le p.1, a.mono le⟩

theorem cells_const {h : FH} {β : List RV} : ∀ {l : List Value}, (∀ v ∈ l, oneC v) → All2 (fun x y => CnC h β x y ∧ oneC y) (mapL SC.v l) l
  | [], _ => trivial
  | x :: l, k => ⟨⟨⟨rfl, k x (by simp)⟩, k x (by simp)⟩, cells_const fun v hv => k v (by simp [hv])⟩

@[reducible] def constE (v : Value) : Option Ent := match v with
  | .agg cs => match allOne (tl cs) with
    | true => some (.one (.agg (mapL SC.v (tl cs))))
    | false => none
  | .tuple _ => none
  | v => some (.one (.c (.v v)))

theorem constE_ok {h : FH} {β : List RV} {v : Value} {e : Ent} (k : constE v = some e) : CnE h β e v := by
  unfold constE at k
  split at k
  · rename_i cs
    split at k
    · rename_i ha
      cases k
      exact ⟨tl cs, by cases cs; rfl, cells_const (allOne_ok ha)⟩
    · cases k
  · cases k
  · rename_i h1 h2
    cases k
    have : isOne v = true := by
      cases v <;> first | rfl | exact (h1 _ rfl).elim | exact (h2 _ rfl).elim
    exact ⟨⟨rfl, isOne_one this⟩, isOne_one this⟩

/-- What an operand holds, under a guard. -/
@[reducible] def getE (cx : Cx) (s : St) (G : Gd) : Operand → Option Ent
  | .tmp t => match lkE s.env t with
    | some (G', e) => match gsub G' G with
      | true => some e
      | false => none
    | none => none
  | .const v => constE v
  | .global g => match cx.gd g with
    | some p => some (.one (.c (.fp p.1 p.2)))
    | none => none
  | .func f => some (.one (.c (.v (.func (.func f) #[] #[]))))

theorem getE_ok {cx : Cx} {N : Nat} {B : Base} {h0 : FH} {s : St} {h : FH} {β : List RV} {w : World} {a : Act} (sat : Sat N B h0 s h β w a) (hg : GlobOK cx.gd h) {G : Gd} (hG : gv s.gl G = true) :
    ∀ {x : Operand} {e : Ent}, getE cx s G x = some e → CnE h β e (a.eval x)
  | .tmp t, e, k => by
    simp only [getE] at k
    split at k
    · rename_i G' e' hk
      split at k
      · rename_i hs
        cases k
        obtain ⟨z, q1, q2, q3⟩ := sat.env _ _ _ hk
        have : a.eval (.tmp t) = z := by simp [Act.eval, q1]
        rw [this]; exact q2 (gsub_gv hs hG)
      · cases k
    · cases k
  | .const v, e, k => constE_ok k
  | .global g, e, k => by
    simp only [getE] at k
    split at k
    · rename_i p hp
      cases k
      obtain ⟨cs, r, at_⟩ := hg g p hp
      exact ⟨⟨g, 0, cs, rfl, r, at_⟩, rfl, rfl⟩
    · cases k
  | .func f, e, k => by
    simp only [getE] at k
    cases k
    exact ⟨⟨rfl, rfl, rfl⟩, rfl, rfl⟩

@[reducible] def side (gl : List Bool) (G : Gd) (p : Prop) : Prop := match G with
  | [] => p
  | x :: g => gv gl (x :: g) = true → p
theorem side_ok {gl : List Bool} {G : Gd} {p : Prop} (h : side gl G p) (hG : gv gl G = true) : p := by
  cases G with
  | nil => exact h
  | cons x g => exact h hG

/-- In the range of its kind. -/
def InR (k : IntKind) (n : Int) : Prop := k.wrap n = n
def InL (n : Nat) : Prop := (n : Int) ≤ IntKind.i64.max

def bitop (op : BinOp) (k : IntKind) (x y : Int) : Int :=
  let a := BitVec.ofInt k.bits x
  let b := BitVec.ofInt k.bits y
  match op with
  | .and => k.wrap (a &&& b).toNat
  | .or => k.wrap (a ||| b).toNat
  | .xor => k.wrap (a ^^^ b).toNat
  | _ => k.wrap (a &&& ~~~b).toNat
def shlv (k : IntKind) (x y : Int) : Int := k.wrap (x * 2 ^ (min y.toNat k.bits))
def shrv (k : IntKind) (x y : Int) : Int := x.fdiv (2 ^ (min y.toNat k.bits))
def strLt (x y : ByteArray) : Bool := Op.bytesLess x.toList y.toList

@[reducible] def isI64 : IntKind → Bool
  | .i64 => true
  | _ => false

@[reducible] def vI (k : IntKind) (n : Int) : Ent := .one (.c (.v (.int k n)))
@[reducible] def vB (b : Bool) : Ent := .one (.c (.v (.bool b)))
@[reducible] def vS (s : ByteArray) : Ent := .one (.c (.v (.string s)))

@[reducible] def arith (gl : List Bool) (G : Gd) (k : IntKind) (n : Int) (K : Ent → Prop) : Prop := match isI64 k with
  | true => side gl G (InR k n) ∧ K (vI k n)
  | false => K (vI k (k.wrap n))

/-- Two numbers of one kind. -/
@[reducible] def binI (gl : List Bool) (G : Gd) (op : BinOp) (k : IntKind) (x y : Int) (K : Ent → Prop) : Prop := match op with
  | .add => arith gl G k (x + y) K
  | .sub => arith gl G k (x - y) K
  | .mul => arith gl G k (x * y) K
  | .quo => side gl G (y ≠ 0) ∧ arith gl G k (x.tdiv y) K
  | .rem => side gl G (y ≠ 0) ∧ K (vI k (x.tmod y))
  | .and => K (vI k (bitop .and k x y))
  | .or => K (vI k (bitop .or k x y))
  | .xor => K (vI k (bitop .xor k x y))
  | .andNot => K (vI k (bitop .andNot k x y))
  | .eql => K (vB (decide (x = y)))
  | .neq => K (vB (!decide (x = y)))
  | .lss => K (vB (decide (x < y)))
  | .leq => K (vB (decide (x ≤ y)))
  | .gtr => K (vB (decide (y < x)))
  | .geq => K (vB (decide (y ≤ x)))
  | .shl => False
  | .shr => False

@[reducible] def binS (gl : List Bool) (G : Gd) (op : BinOp) (x y : ByteArray) (K : Ent → Prop) : Prop := match op with
  | .add => side gl G (InL (x.size + y.size)) ∧ K (vS (x ++ y))
  | .eql => K (vB (decide (x = y)))
  | .neq => K (vB (!decide (x = y)))
  | .lss => K (vB (strLt x y))
  | .leq => K (vB (strLt x y || decide (x = y)))
  | .gtr => K (vB (!(strLt x y || decide (x = y))))
  | .geq => K (vB (!strLt x y))
  | _ => False

@[reducible] def isBoolT (cx : Cx) (t : TypeId) : Bool := match lkT cx.ti t with
  | some i => match i.desc with
    | .bool => true
    | _ => false
  | none => false

@[reducible] def binV (cx : Cx) (gl : List Bool) (G : Gd) (op : BinOp) (xt : TypeId) (a b : Value) (K : Ent → Prop) : Prop := match a with
  | .int k x => match b with
    | .int k' y => match op with
      | .shl => side gl G (0 ≤ y) ∧ K (vI k (shlv k x y))
      | .shr => side gl G (0 ≤ y) ∧ K (vI k (shrv k x y))
      | op => cnd (Nat.beq (ikn k) (ikn k')) (binI gl G op k x y K) False
    | _ => False
  | .string x => match b with
    | .string y => binS gl G op x y K
    | _ => False
  | .bool x => match b with
    | .bool y => match isBoolT cx xt with
      | true => match op with
        | .eql => K (vB (x == y))
        | .neq => K (vB (!(x == y)))
        | _ => False
      | false => False
    | _ => False
  | _ => False

/-- A run that changes nothing and gives a value of its own. -/
def RunV (P : Program) (m : Sem Value) (v : Value) : Prop := ∀ w, m.run P w = .ok v w

def Good (gl : List Bool) (G : Gd) (P : Program) (m : Sem Value) (K : Ent → Prop) : Prop :=
  ∃ v, K (.one (.c (.v v))) ∧ oneC v ∧ (gv gl G = true → RunV P m v)

theorem arith_ok {gl : List Bool} {G : Gd} {k : IntKind} {n : Int} {K : Ent → Prop} {P : Program} {m : Sem Value} (h : arith gl G k n K)
    (hm : gv gl G = true → RunV P m (.int k (k.wrap n))) : Good gl G P m K := by
  unfold arith at h
  split at h
  · obtain ⟨h1, h2⟩ := h
    exact ⟨_, h2, oneC_int _ _, fun hG => by have := side_ok h1 hG; unfold InR at this; rw [this] at hm; exact hm hG⟩
  · exact ⟨_, h, oneC_int _ _, hm⟩

theorem binI_ok {gl : List Bool} {G : Gd} {op : BinOp} {k : IntKind} {x y : Int} {K : Ent → Prop} {P : Program} {t : TypeId} (h : binI gl G op k x y K) :
    Good gl G P (binOp op t (.int k x) (.int k y)) K := by
  unfold binI at h
  cases op <;> simp only at h
  case add => exact arith_ok h fun _ w => by simp [binOp, Op.intArith]
  case sub => exact arith_ok h fun _ w => by simp [binOp, Op.intArith]
  case mul => exact arith_ok h fun _ w => by simp [binOp, Op.intArith]
  case quo =>
    obtain ⟨h1, h2⟩ := h
    exact arith_ok h2 fun hG w => by have := side_ok h1 hG; simp [binOp, Op.intDiv, this]
  case rem =>
    obtain ⟨h1, h2⟩ := h
    exact ⟨_, h2, oneC_int _ _, fun hG w => by have := side_ok h1 hG; simp [binOp, Op.intDiv, this]⟩
  case and => exact ⟨_, h, oneC_int _ _, fun hG w => by simp [binOp, Op.intBits, bitop]⟩
  case or => exact ⟨_, h, oneC_int _ _, fun hG w => by simp [binOp, Op.intBits, bitop]⟩
  case xor => exact ⟨_, h, oneC_int _ _, fun hG w => by simp [binOp, Op.intBits, bitop]⟩
  case andNot => exact ⟨_, h, oneC_int _ _, fun hG w => by simp [binOp, Op.intBits, bitop]⟩
  case eql => exact ⟨_, h, oneC_bool _, fun hG w => by simp [binOp, Op.intCmp]; rfl⟩
  case neq => exact ⟨_, h, oneC_bool _, fun hG w => by simp [binOp, Op.intCmp, bne]; rfl⟩
  case lss => exact ⟨_, h, oneC_bool _, fun hG w => by simp [binOp, Op.intCmp]⟩
  case leq => exact ⟨_, h, oneC_bool _, fun hG w => by simp [binOp, Op.intCmp]⟩
  case gtr => exact ⟨_, h, oneC_bool _, fun hG w => by simp [binOp, Op.intCmp]⟩
  case geq => exact ⟨_, h, oneC_bool _, fun hG w => by simp [binOp, Op.intCmp]⟩

theorem bytes_eq (x y : ByteArray) : (x.toList == y.toList) = decide (x = y) := by
  have key : ∀ a : ByteArray, a.toList = a.data.toList := fun a => ByteArray.toList_eq a
  rw [key, key]
  by_cases h : x = y
  · subst h; simp
  · rw [decide_eq_false h]
    rw [beq_eq_false_iff_ne]
    intro e
    apply h
    cases x; cases y
    simp only [ByteArray.mk.injEq]
    exact Array.ext' e

theorem binS_ok {gl : List Bool} {G : Gd} {op : BinOp} {x y : ByteArray} {K : Ent → Prop} {P : Program} {t : TypeId} (h : binS gl G op x y K) :
    Good gl G P (binOp op t (.string x) (.string y)) K := by
  unfold binS at h
  cases op <;> simp only at h
  case add =>
    obtain ⟨h1, h2⟩ := h
    refine ⟨_, h2, oneC_string _, fun hG w => ?_⟩
    have := side_ok h1 hG
    unfold InL at this
    have hn : ¬ (((x.size + y.size : Nat) : Int) > IntKind.i64.max) := by omega
    simp only [binOp, Op.stringOp]
    rw [if_neg hn]; rfl
  case eql => exact ⟨_, h, oneC_bool _, fun hG w => by simp only [binOp, Op.stringOp, bytes_eq]; rfl⟩
  case neq => exact ⟨_, h, oneC_bool _, fun hG w => by simp only [binOp, Op.stringOp, bytes_eq]; rfl⟩
  case lss => exact ⟨_, h, oneC_bool _, fun hG w => by simp only [binOp, Op.stringOp, strLt]; rfl⟩
  case leq => exact ⟨_, h, oneC_bool _, fun hG w => by simp only [binOp, Op.stringOp, bytes_eq, strLt]; rfl⟩
  case gtr => exact ⟨_, h, oneC_bool _, fun hG w => by simp only [binOp, Op.stringOp, bytes_eq, strLt]; rfl⟩
  case geq => exact ⟨_, h, oneC_bool _, fun hG w => by simp only [binOp, Op.stringOp, strLt]; rfl⟩

theorem binV_ok {cx : Cx} {P : Program} (hc : TisOK P cx.ti) {gl : List Bool} {G : Gd} {op : BinOp} {xt : TypeId} {a b : Value} {K : Ent → Prop} (h : binV cx gl G op xt a b K) :
    Good gl G P (binOp op xt a b) K := by
  unfold binV at h
  split at h
  · rename_i k x
    split at h
    · rename_i k' y
      split at h
      · exact ⟨_, h.2, oneC_int _ _, fun hG w => by have := side_ok h.1 hG; simp [binOp, Op.shift, shlv, show ¬ y < 0 by omega]⟩
      · exact ⟨_, h.2, oneC_int _ _, fun hG w => by have := side_ok h.1 hG; simp [binOp, Op.shift, shrv, show ¬ y < 0 by omega]⟩
      · rw [cnd_eq] at h
        split at h
        · rename_i hk
          have := ikn_inj hk; subst this
          exact binI_ok h
        · exact h.elim
    · exact h.elim
  · split at h
    · exact binS_ok h
    · exact h.elim
  · split at h
    · split at h
      · rename_i hb
        have hu : P.underlying xt = some .bool := by
          unfold isBoolT at hb
          split at hb
          · rename_i i hi
            split at hb
            · rename_i hd; exact (hc.get hi).und' hd rfl
            · cases hb
          · cases hb
        split at h
        · exact ⟨_, h, oneC_bool _, fun hG w => run_eql_bool w xt _ _ hu⟩
        · exact ⟨_, h, oneC_bool _, fun hG w => run_neq_bool w xt _ _ hu⟩
        · exact h.elim
      · exact h.elim
    · exact h.elim
  · exact h.elim

@[reducible] def guardFree : Value → Bool
  | .agg _ => false
  | .nilIface => false
  | _ => true

theorem eqGuard_free (P : Program) (op : BinOp) (t : TypeId) (x y : Operand) {a b : Value} (h : guardFree a = true) (w : World) : (eqGuard op t x y a b).run P w = .ok () w := by
  unfold eqGuard
  cases a <;> first
    | (simp [guardFree] at h; done)
    | (cases op <;> rfl)
end Go.Eng
