/- The engine, part A: typed data in frozen memory, symbolic values, resources, and how they stand to a world. -/
import Derived.WalkKit
import Derived.RangeFuncCalls
import Derived.OrdersIn
set_option linter.unusedVariables false
namespace Go.Eng
open Go Go.RowKit

/-- The shape of a Go type's values. -/
inductive Sh where
  | int (k : IntKind) | bool | str | any | sl (s : Sh) | pair (a b : Sh) | unit | arr (n : Nat) (s : Sh)
  deriving DecidableEq

@[reducible] def Sh.den : Sh → Type
  | .int _ => Int
  | .bool => Bool
  | .str => ByteArray
  | .any => Value
  | .sl s => List s.den
  | .pair a b => a.den × b.den
  | .unit => Unit
  | .arr _ s => List s.den

@[reducible] def Sh.size : Sh → Nat
  | .pair a b => a.size + b.size
  | .unit => 0
  | .arr n s => n * s.size
  | .int _ => 1
  | .bool => 1
  | .str => 1
  | .any => 1
  | .sl _ => 1

@[reducible] def Sh.isAgg : Sh → Bool
  | .pair _ _ => true
  | .unit => true
  | .arr _ _ => true
  | _ => false

/-- The frozen cells. -/
abbrev FH := Nat → Nat → Option Value
def FH.le (h h' : FH) : Prop := ∀ b o v, h b o = some v → h' b o = some v
theorem FH.le.refl (h : FH) : h.le h := fun _ _ _ e => e
theorem FH.le.trans {a b c : FH} (x : a.le b) (y : b.le c) : a.le c := fun _ _ _ e => y _ _ _ (x _ _ _ e)

def oneC (v : Value) : Prop := v.cells = #[v] ∧ v.oneCell' = true

def RdL {α : Type} (R : List Value → α → Prop) : List Value → List α → Prop
  | cs, [] => cs = []
  | cs, d :: l => ∃ c r, cs = c ++ r ∧ R c d ∧ RdL R r l

def At (h : FH) (b o : Nat) (cs : List Value) : Prop := ∀ j u, cs[j]? = some u → h b (o + j) = some u

def SlAt {α : Type} (h : FH) (R : List Value → α → Prop) (v : Value) (l : List α) : Prop :=
  (v = .slice none 0 0 ∧ l = []) ∨ (∃ a cap, v = .slice (some a) 0 cap ∧ l = [] ∧ cap ≤ maxLen) ∨
  ∃ b off cap, v = .slice (some ⟨b, off, none⟩) l.length cap ∧ l.length ≤ cap ∧ cap ≤ maxLen ∧ ∃ cs, RdL R cs l ∧ At h b off cs

def Rd (h : FH) : (s : Sh) → List Value → s.den → Prop
  | .int k, cs, n => cs = [.int k n]
  | .bool, cs, b => cs = [.bool b]
  | .str, cs, b => cs = [.string b]
  | .any, cs, v => cs = [v] ∧ oneC v
  | .unit, cs, _ => cs = []
  | .pair a b, cs, (x, y) => ∃ c1 c2, cs = c1 ++ c2 ∧ Rd h a c1 x ∧ Rd h b c2 y
  | .arr n s, cs, l => l.length = n ∧ RdL (Rd h s) cs l
  | .sl s, cs, l => ∃ v, cs = [v] ∧ SlAt h (Rd h s) v l

theorem At.mono {h h' : FH} (le : h.le h') {b o : Nat} {cs : List Value} (x : At h b o cs) : At h' b o cs := fun j u e => le _ _ _ (x j u e)

theorem RdL.mono {α : Type} {R R' : List Value → α → Prop} (hR : ∀ c d, R c d → R' c d) : ∀ {l : List α} {cs : List Value}, RdL R cs l → RdL R' cs l
  | [], _, h => h
  | _ :: _, _, ⟨c, r, e, h1, h2⟩ => ⟨c, r, e, hR _ _ h1, RdL.mono hR h2⟩

theorem SlAt.mono {α : Type} {h h' : FH} (le : h.le h') {R R' : List Value → α → Prop} (hR : ∀ c d, R c d → R' c d) {v : Value} {l : List α} (x : SlAt h R v l) : SlAt h' R' v l := by
  rcases x with x | x | ⟨b, off, cap, e, h1, h2, cs, h3, h4⟩
  · exact .inl x
  · exact .inr (.inl x)
  · exact .inr (.inr ⟨b, off, cap, e, h1, h2, cs, h3.mono hR, h4.mono le⟩)

theorem Rd.mono {h h' : FH} (le : h.le h') : ∀ (s : Sh) {cs : List Value} {d : s.den}, Rd h s cs d → Rd h' s cs d
  | .int _, _, _, x => x
  | .bool, _, _, x => x
  | .str, _, _, x => x
  | .any, _, _, x => x
  | .unit, _, _, x => x
  | .pair a b, _, (_, _), ⟨c1, c2, e, h1, h2⟩ => ⟨c1, c2, e, Rd.mono le a h1, Rd.mono le b h2⟩
  | .arr _ s, _, _, ⟨e, x⟩ => ⟨e, x.mono fun _ _ => Rd.mono le s⟩
  | .sl s, _, _, ⟨v, e, x⟩ => ⟨v, e, x.mono le fun _ _ => Rd.mono le s⟩

theorem RdL.size {α : Type} {R : List Value → α → Prop} {k : Nat} (hR : ∀ c d, R c d → c.length = k) : ∀ {l : List α} {cs : List Value}, RdL R cs l → cs.length = l.length * k
  | [], _, h => by simp [show _ = [] from h]
  | _ :: _, _, ⟨c, r, e, h1, h2⟩ => by
    have := RdL.size hR h2
    rw [e, List.length_append, hR _ _ h1, this, List.length_cons, Nat.succ_mul]; omega

theorem Rd.size {h : FH} : ∀ (s : Sh) {cs : List Value} {d : s.den}, Rd h s cs d → cs.length = s.size
  | .int _, _, _, x => by simp [show _ = [_] from x]
  | .bool, _, _, x => by simp [show _ = [_] from x]
  | .str, _, _, x => by simp [show _ = [_] from x]
  | .any, _, _, x => by simp [show _ = [_] from x.1]
  | .unit, _, _, x => by simp [show _ = [] from x]
  | .pair a b, _, (_, _), ⟨c1, c2, e, h1, h2⟩ => by rw [e, List.length_append, Rd.size a h1, Rd.size b h2]
  | .arr _ s, _, _, ⟨e, x⟩ => by rw [RdL.size (fun _ _ => Rd.size s) x, e]
  | .sl s, _, _, ⟨v, e, x⟩ => by simp [e]

theorem oneC_int (k : IntKind) (n : Int) : oneC (.int k n) := ⟨rfl, rfl⟩
theorem oneC_bool (b : Bool) : oneC (.bool b) := ⟨rfl, rfl⟩
theorem oneC_string (b : ByteArray) : oneC (.string b) := ⟨rfl, rfl⟩
theorem SlAt.oneC {α : Type} {h : FH} {R : List Value → α → Prop} {v : Value} {l : List α} (x : SlAt h R v l) : oneC v := by
  rcases x with ⟨e, _⟩ | ⟨a, cap, e, _⟩ | ⟨b, off, cap, e, _⟩ <;> subst e <;> exact ⟨rfl, rfl⟩

theorem RdL.all {α : Type} {R : List Value → α → Prop} {p : Value → Prop} (hR : ∀ c d, R c d → ∀ v ∈ c, p v) : ∀ {l : List α} {cs : List Value}, RdL R cs l → ∀ v ∈ cs, p v
  | [], _, h, v, hv => by simp [show _ = [] from h] at hv
  | _ :: _, _, ⟨c, r, e, h1, h2⟩, v, hv => by
    rw [e, List.mem_append] at hv
    exact hv.elim (hR _ _ h1 v) (RdL.all hR h2 v)

theorem Rd.one {h : FH} : ∀ (s : Sh) {cs : List Value} {d : s.den}, Rd h s cs d → ∀ v ∈ cs, Eng.oneC v
  | .int _, _, _, x, v, hv => by simp [show _ = [_] from x] at hv; subst hv; exact oneC_int _ _
  | .bool, _, _, x, v, hv => by simp [show _ = [_] from x] at hv; subst hv; exact oneC_bool _
  | .str, _, _, x, v, hv => by simp [show _ = [_] from x] at hv; subst hv; exact oneC_string _
  | .any, _, _, x, v, hv => by simp [show _ = [_] from x.1] at hv; subst hv; exact x.2
  | .unit, _, _, x, v, hv => by simp [show _ = [] from x] at hv
  | .pair a b, _, (_, _), ⟨c1, c2, e, h1, h2⟩, v, hv => by
    rw [e, List.mem_append] at hv
    exact hv.elim (Rd.one a h1 v) (Rd.one b h2 v)
  | .arr _ s, _, _, ⟨_, x⟩, v, hv => RdL.all (fun _ _ => Rd.one s) x v hv
  | .sl s, _, _, ⟨u, e, x⟩, v, hv => by simp [e] at hv; subst hv; exact x.oneC

theorem RdL.append {α : Type} {R : List Value → α → Prop} : ∀ {l l' : List α} {cs cs' : List Value}, RdL R cs l → RdL R cs' l' → RdL R (cs ++ cs') (l ++ l')
  | [], _, _, _, h, h' => by simp [show _ = [] from h]; exact h'
  | _ :: _, _, _, _, ⟨c, r, e, h1, h2⟩, h' => ⟨c, r ++ _, by rw [e, List.append_assoc], h1, RdL.append h2 h'⟩

theorem RdL.split {α : Type} {R : List Value → α → Prop} {k : Nat} (hR : ∀ c d, R c d → c.length = k) : ∀ {l l' : List α} {cs : List Value}, RdL R cs (l ++ l') → RdL R (cs.take (l.length * k)) l ∧ RdL R (cs.drop (l.length * k)) l'
  | [], _, _, h => by simpa [RdL] using h
  | d :: l, l', _, ⟨c, r, e, h1, h2⟩ => by
    have hc := hR _ _ h1
    obtain ⟨i1, i2⟩ := RdL.split hR h2
    have e1 : (d :: l).length * k = c.length + l.length * k := by rw [List.length_cons, Nat.succ_mul, hc]; omega
    rw [e1, e, List.take_length_add_append, List.drop_length_add_append]
    exact ⟨⟨c, _, rfl, h1, i1⟩, i2⟩

theorem RdL.get {α : Type} {R : List Value → α → Prop} {k : Nat} (hR : ∀ c d, R c d → c.length = k) : ∀ {l : List α} {cs : List Value} {j : Nat} {d : α}, RdL R cs l → l[j]? = some d → R ((cs.drop (j * k)).take k) d ∧ (j + 1) * k ≤ cs.length
  | [], _, _, _, _, e => by simp at e
  | x :: l, _, 0, d, ⟨c, r, e, h1, h2⟩, hj => by
    have hc := hR _ _ h1
    simp at hj; subst hj
    simp only [Nat.zero_mul, List.drop_zero]
    refine ⟨?_, ?_⟩
    · rw [e, show k = c.length from hc.symm, List.take_left]; exact h1
    · rw [e, List.length_append]; omega
  | x :: l, _, j + 1, d, ⟨c, r, e, h1, h2⟩, hj => by
    have hc := hR _ _ h1
    have ih := RdL.get hR h2 (show l[j]? = some d by simpa using hj)
    have e1 : (j + 1) * k = c.length + j * k := by rw [Nat.succ_mul, hc]; omega
    refine ⟨?_, ?_⟩
    · rw [e, e1, List.drop_length_add_append]; exact ih.1
    · rw [e, List.length_append, Nat.succ_mul, hc]; have := ih.2; omega

theorem At.sub {h : FH} {b o : Nat} {cs : List Value} (x : At h b o cs) (i k : Nat) : At h b (o + i) ((cs.drop i).take k) := by
  intro j u e
  rw [List.getElem?_take] at e
  split at e
  · rw [List.getElem?_drop] at e
    rw [Nat.add_assoc]; exact x _ _ e
  · cases e

/-- The value of a type whose cells are given. -/
def mkV (s : Sh) (cs : List Value) : Value := if s.isAgg then .agg cs.toArray else cs.headD undef

/-- Arguments as typed data. -/
@[reducible] def dens : List Sh → Type
  | [] => Unit
  | s :: l => s.den × dens l

/-- A value that is typed data. -/
def DV (h : FH) (s : Sh) (d : s.den) (v : Value) : Prop := ∃ cs, v = mkV s cs ∧ Rd h s cs d
def DVs (h : FH) : (ss : List Sh) → dens ss → List Value → Prop
  | [], _, [] => True
  | s :: l, d, v :: vs => DV h s d.1 v ∧ DVs h l d.2 vs
  | _, _, _ => False
theorem DV.mono {h h' : FH} (le : h.le h') {s : Sh} {d : s.den} {v : Value} (x : DV h s d v) : DV h' s d v := by
  obtain ⟨cs, e, r⟩ := x
  exact ⟨cs, e, r.mono le s⟩
theorem DVs.mono {h h' : FH} (le : h.le h') : ∀ {ss : List Sh} {d : dens ss} {vs : List Value}, DVs h ss d vs → DVs h' ss d vs
  | [], _, [], _ => trivial
  | [], _, _ :: _, x => x.elim
  | _ :: _, _, [], x => x.elim
  | _ :: _, _, _ :: _, ⟨a, b⟩ => ⟨a.mono le, DVs.mono le b⟩

/-- What a function literal has caught: cells, frozen. -/
def capD (h : FH) : (ss : List Sh) → dens ss → List Value → Prop
  | [], _, [] => True
  | s :: l, d, y :: m => (∃ b cs, y = .pointer (some ⟨b, 0, none⟩) ∧ Rd h s cs d.1 ∧ At h b 0 cs) ∧ capD h l d.2 m
  | _, _, _ => False
theorem capD.mono {h h' : FH} (le : h.le h') : ∀ {ss : List Sh} {d : dens ss} {ys : List Value}, capD h ss d ys → capD h' ss d ys
  | [], _, [], _ => trivial
  | [], _, _ :: _, x => x.elim
  | _ :: _, _, [], x => x.elim
  | s :: _, _, _ :: _, ⟨⟨b, cs, e, r, a⟩, x⟩ => ⟨⟨b, cs, e, r.mono le s, a.mono le⟩, capD.mono le x⟩

/-- The frozen cells lie as they lay. -/
def HW (h : FH) (w : World) : Prop := ∀ b o v, h b o = some v → w.cell? ⟨b, o, none⟩ = some v
theorem HW.mono {h h' : FH} (le : h.le h') {w : World} (x : HW h' w) : HW h w := fun b o v e => x b o v (le b o v e)

/-- The world has grown; what was drawn counts up. -/
structure Gb (w w' : World) (row : Option Nat) : Prop extends World.grownBy w w' row where
  dr : w.drawn ≤ w'.drawn
theorem gb_alloc (w : World) (o : Obj) (row : Option Nat) : Gb w (w.alloc o) row := ⟨World.grownBy_alloc _ _ _, Nat.le_refl _⟩

def FnIs (P : Program) (f : FuncId) : Prop := ∃ fn, P.funcs[f]? = some fn ∧ fn.body.isSome = true ∧ (fn.name == "runtime.NumGoroutine") = false

/-- From A to A' only blocks of G are written. -/
structure Gs (G : Nat → Prop) (A A' : World) : Prop where
  os : A'.os = A.os
  tape : A'.tape = A.tape
  output : A'.output = A.output
  size : A.heap.size ≤ A'.heap.size
  dr : A.drawn ≤ A'.drawn
  block : ∀ k, k < A.heap.size → ¬ G k → A'.heap[k]? = A.heap[k]?
/-- Blocks that an iterator calls its own. -/
def Own' (G G' : Nat → Prop) (A A' : World) : Prop := ∀ b, G' b → b < A'.heap.size ∧ (G b ∨ A.heap.size ≤ b)

/-- A function value over which a range gives the data L, one after the other. J: what holds after so many rounds (none: a round has left), while the blocks of G are the iterator's own. -/
def Gives (P : Program) (h : FH) (ss : List Sh) (L : List (dens ss)) (y : Value) : Prop :=
  ∃ g lb, y = .func (.func g) #[] lb ∧ FnIs P g ∧ ∀ (l : Nat) (J : Option Nat → (Nat → Prop) → World → Prop) (W : World),
    (∀ i G A, J i G A → HW h A) → (∀ i G G' A A', J i G A → Gs G A A' → Own' G G' A A' → J i G' A') →
    (∀ i d vs G A, L[i]? = some d → DVs h ss d vs → J (some i) G A → YieldAt Fence.wide 0 P l vs.toArray A fun e A' => (∀ b, G b → A'.heap[b]? = A.heap[b]?) ∧
      ((e = .returned (.bool true) ∧ J (some (i + 1)) G A') ∨ (e = .returned (.bool false) ∧ J none G A'))) →
    J (some 0) (fun _ => False) W → CallsIn Fence.wide 0 P g (#[.func (.yield l) #[] #[]] ++ lb) W fun e W' => (∃ v, e = .returned v) ∧ ∃ G, J (some L.length) G W' ∨ J none G W'

/-- A function value that computes f, and leaves what lay as it lay. -/
def GivesF (P : Program) (h : FH) (ss : List Sh) (r : Sh) (pre : dens ss → Prop) (f : dens ss → r.den) (y : Value) : Prop :=
  ∃ g lb, y = .func (.func g) #[] lb ∧ FnIs P g ∧ ∀ (d : dens ss) (vs : List Value) (h' : FH) (w : World), h.le h' → HW h' w → DVs h' ss d vs → pre d →
    Calls P g (vs.toArray ++ lb) w fun en w' => ∃ v, en = .returned v ∧ DV (fun _ _ => none) r (f d) v ∧ Below w.heap.size w w' ∧ w.drawn ≤ w'.drawn

/-- Function values. -/
inductive Abs where
  | seq (P : Program) (ss : List Sh) (L : List (dens ss))
  | clo (P : Program) (ss : List Sh) (r : Sh) (pre : dens ss → Prop) (f : dens ss → r.den)
  | yld (l : Nat)
def Abs.rel (h : FH) : Abs → Value → Prop
  | .seq P ss L, y => Gives P h ss L y
  | .clo P ss r pre f, y => GivesF P h ss r pre f y
  | .yld l, y => y = .func (.yield l) #[] #[]
theorem Abs.rel_mono {h h' : FH} (le : h.le h') : ∀ {x : Abs} {y : Value}, x.rel h y → x.rel h' y
  | .seq P ss L, y, ⟨g, lb, e, f, k⟩ => ⟨g, lb, e, f, fun l J W h1 h2 h3 h4 => k l J W (fun i G A a => (h1 i G A a).mono le) h2 (fun i d vs G A hi hd hj => h3 i d vs G A hi (hd.mono le) hj) h4⟩
  | .clo P ss r pre f, y, ⟨g, lb, e, fi, k⟩ => ⟨g, lb, e, fi, fun d vs h'' w l1 => k d vs h'' w (le.trans l1)⟩
  | .yld l, y, e => e
theorem Abs.rel_one {h : FH} : ∀ {x : Abs} {y : Value}, x.rel h y → oneC y
  | .seq P ss L, y, ⟨g, lb, e, _⟩ => by subst e; exact ⟨rfl, rfl⟩
  | .clo P ss r pre f, y, ⟨g, lb, e, _⟩ => by subst e; exact ⟨rfl, rfl⟩
  | .yld l, y, e => by subst e; exact ⟨rfl, rfl⟩

/-- A function literal: what it catches, and what it then is. -/
structure MK where
  ss : List Sh
  f : dens ss → Abs
  pre : dens ss → Prop := fun _ => True

/-! Symbolic values. -/

inductive SC where
  | v (x : Value)
  | sl (s : Sh) (l : List s.den)
  | fp (s : Sh) (d : s.den)
  | own (i off : Nat)
  | row (i : Nat)
  | rowp (i j sz off : Nat)
  | abs (x : Abs)
  | junk

inductive SV where
  | c (x : SC)
  | agg (xs : List SC)
  | dat (s : Sh) (d : s.den)
  | und

inductive Ent where
  | one (x : SV)
  | tup (xs : List SV)

inductive Res where
  | blk (t : TypeId) (cs : List SC)
  | row (t : TypeId) (s : Sh) (l : List s.den)
  | obj (t : TypeId) (s : Sh) (d : s.den)
  | gone

inductive RV where
  | blk (b : Nat)
  | row (v : Value)
  | no

/-- The block that a slice's row takes, if it has room at all. -/
def rowBlk : Value → Option Nat
  | .slice (some a) _ c => if c = 0 then none else some a.block
  | _ => none
theorem rowBlk_own {g o n cap : Nat} {x : Option Nat} (h : 1 ≤ cap) : rowBlk (.slice (some ⟨g, o, x⟩) n cap) = some g := by
  simp [rowBlk]; omega

def RV.block : RV → Option Nat
  | .blk b => some b
  | .row v => rowBlk v
  | .no => none
theorem block_own {g o n cap : Nat} {x : Option Nat} (h : 1 ≤ cap) : (RV.row (.slice (some ⟨g, o, x⟩) n cap)).block = some g := rowBlk_own (n := n) h

def All2 {α β : Type} (R : α → β → Prop) : List α → List β → Prop
  | [], [] => True
  | a :: l, b :: m => R a b ∧ All2 R l m
  | _, _ => False

def CnC (h : FH) (β : List RV) : SC → Value → Prop
  | .v x, y => y = x ∧ oneC x
  | .sl s l, y => SlAt h (Rd h s) y l
  | .fp s d, y => ∃ b o cs, y = .pointer (some ⟨b, o, none⟩) ∧ Rd h s cs d ∧ At h b o cs
  | .own i off, y => ∃ b, β[i]? = some (.blk b) ∧ y = .pointer (some ⟨b, off, none⟩)
  | .row i, y => β[i]? = some (.row y)
  | .rowp i j sz off, y => ∃ v g, β[i]? = some v ∧ v.block = some g ∧ y = .pointer (some ⟨g, j * sz + off, none⟩)
  | .abs x, y => x.rel h y
  | .junk, _ => True

def CnV (h : FH) (β : List RV) : SV → Value → Prop
  | .c x, y => CnC h β x y ∧ oneC y
  | .agg xs, y => ∃ ys, y = .agg ys.toArray ∧ All2 (fun x y => CnC h β x y ∧ oneC y) xs ys
  | .dat s d, y => s.isAgg = true ∧ ∃ cs, y = .agg cs.toArray ∧ Rd h s cs d
  | .und, y => y = undef

def CnE (h : FH) (β : List RV) : Ent → Value → Prop
  | .one x, y => CnV h β x y
  | .tup xs, y => ∃ ys, y = .tuple ys.toArray ∧ All2 (CnV h β) xs ys

def Holds (h : FH) (β : List RV) (w : World) : Res → RV → Prop
  | .blk t cs, .blk b => ∃ ys : List Value, w.heap[b]? = some (.cells ys.toArray t (0, 0)) ∧ All2 (fun x y => CnC h β x y ∧ oneC y) cs ys
  | .row t s l, .row v => (v = .slice none 0 0 ∧ l = []) ∨ (∃ a, v = .slice (some a) 0 0 ∧ l = []) ∨
      ∃ g cap cur, v = .slice (some ⟨g, 0, none⟩) l.length cap ∧ w.heap[g]? = some (.cells cur t (0, 0)) ∧ l.length ≤ cap ∧ (1 ≤ cap ∧ cap ≤ maxLen) ∧
        cur.size = cap * s.size ∧ RdL (Rd h s) (cur.toList.take (l.length * s.size)) l
  | .obj t s d, .blk b => ∃ ys : List Value, w.heap[b]? = some (.cells ys.toArray t (0, 0)) ∧ Rd h s ys d
  | .gone, _ => True
  | _, _ => False

@[reducible] def Res.live : Res → Bool
  | .gone => false
  | _ => true

/-- The world at a function's beginning; and what must stay: objects that are no cells. -/
structure Base extends World where
  nc : Nat → Obj → Prop
  cell : ∀ k o, nc k o → o.isCells = false
  al : Nat → Prop
  up : ∀ k, heap.size ≤ k → al k
instance : CoeOut Base World := ⟨Base.toWorld⟩
/-- A function's: what has been made since its call is its own. -/
@[reducible] def Base.of (B : World) : Base := { B with nc := fun _ _ => False, cell := fun _ _ h => h.elim, al := fun k => B.heap.size ≤ k, up := fun _ h => h }

/-- The world has grown from the base; what is not the function's own lies as it lay. -/
structure Bw (B : Base) (w : World) : Prop where
  os : w.os = B.os
  tape : w.tape = B.tape
  output : w.output = B.output
  size : B.heap.size ≤ w.heap.size
  block : ∀ k, k < B.heap.size → ¬ B.al k → w.heap[k]? = B.heap[k]?
theorem Bw.refl (B : Base) : Bw B B.toWorld := ⟨rfl, rfl, rfl, Nat.le_refl _, fun _ _ _ => rfl⟩
theorem Bw.bel {B w : World} (x : Bw (Base.of B) w) : Below B.heap.size B w := ⟨x.os, x.tape, x.output, x.size, fun k hk => x.block k hk (by show ¬ B.heap.size ≤ k; omega)⟩
theorem Bw.below {B : Base} {w w' : World} (x : Bw B w) (y : Below w.heap.size w w') : Bw B w' :=
  ⟨y.os.trans x.os, y.tape.trans x.tape, y.output.trans x.output, Nat.le_trans x.size y.size, fun k hk ha => (y.block k (Nat.lt_of_lt_of_le hk x.size)).trans (x.block k hk ha)⟩
theorem Bw.grown {B : Base} {w w' : World} {row : Option Nat} (x : Bw B w) (hg : World.grownBy w w' row) (hr : ∀ k, row = some k → B.al k) : Bw B w' :=
  ⟨hg.os.trans x.os, hg.tape.trans x.tape, hg.output.trans x.output, Nat.le_trans x.size hg.size, fun k hk ha => (hg.block k (Nat.lt_of_lt_of_le hk x.size) (fun e => ha (hr k e.symm))).trans (x.block k hk ha)⟩

structure OK (B : Base) (h0 : FH) (T : List Res) (h : FH) (β : List RV) (w : World) : Prop where
  below : Bw B w
  dr : B.drawn ≤ w.drawn
  len : β.length = T.length
  holds : ∀ (i : Nat) r v, T[i]? = some r → β[i]? = some v → Holds h β w r v
  own : ∀ (i : Nat) r v b, T[i]? = some r → r.live = true → β[i]? = some v → v.block = some b → B.al b ∧ b < w.heap.size ∧ ∀ o, h b o = none
  inj : ∀ (i j : Nat) r r' u v b, T[i]? = some r → r.live = true → T[j]? = some r' → r'.live = true → β[i]? = some u → β[j]? = some v → u.block = some b → v.block = some b → i = j
  hle : h0.le h
  hw : ∀ b o v, h b o = some v → w.cell? ⟨b, o, none⟩ = some v
  hg : ∀ b o v, h b o = some v → h0 b o = some v ∨ B.al b
  kn : ∀ k o, B.nc k o → w.heap[k]? = some o

theorem All2.mono {α β : Type} {R R' : α → β → Prop} (hR : ∀ a b, R a b → R' a b) : ∀ {l : List α} {m : List β}, All2 R l m → All2 R' l m
  | [], [], _ => trivial
  | _ :: _, _ :: _, ⟨a, b⟩ => ⟨hR _ _ a, All2.mono hR b⟩

theorem All2.length {α β : Type} {R : α → β → Prop} : ∀ {l : List α} {m : List β}, All2 R l m → l.length = m.length
  | [], [], _ => rfl
  | _ :: _, _ :: _, ⟨_, b⟩ => by simp [All2.length b]

theorem All2.get {α β : Type} {R : α → β → Prop} : ∀ {l : List α} {m : List β} {i : Nat} {a : α}, All2 R l m → l[i]? = some a → ∃ b, m[i]? = some b ∧ R a b
  | [], [], _, _, _, e => by simp at e
  | _ :: _, y :: _, 0, _, ⟨a, _⟩, e => by simp at e; subst e; exact ⟨y, rfl, a⟩
  | _ :: _, _ :: _, i + 1, _, ⟨_, b⟩, e => by simpa using All2.get b (by simpa using e)

/-- β only grows; entries that are still in use stay. -/
def Ext (β β' : List RV) : Prop := ∀ (i : Nat) v, β[i]? = some v → β'[i]? = some v

theorem Ext.refl (β : List RV) : Ext β β := fun _ _ e => e
theorem Ext.append (β γ : List RV) : Ext β (β ++ γ) := fun i v e => by
  rw [List.getElem?_append_left (by exact (List.getElem?_eq_some_iff.1 e).1)]; exact e

theorem CnC.mono {h h' : FH} {β β' : List RV} (le : h.le h') (eb : Ext β β') : ∀ {x : SC} {y : Value}, CnC h β x y → CnC h' β' x y
  | .v _, _, e => e
  | .sl s _, _, e => SlAt.mono le (fun _ _ => Rd.mono le s) e
  | .fp s _, _, ⟨b, o, cs, e, r, a⟩ => ⟨b, o, cs, e, r.mono le s, a.mono le⟩
  | .own _ _, _, ⟨b, e, e'⟩ => ⟨b, eb _ _ e, e'⟩
  | .row _, _, e => eb _ _ e
  | .rowp _ _ _ _, _, ⟨v, g, e, e'⟩ => ⟨v, g, eb _ _ e, e'⟩
  | .abs _, _, e => Abs.rel_mono le e
  | .junk, _, _ => trivial

theorem CnV.mono {h h' : FH} {β β' : List RV} (le : h.le h') (eb : Ext β β') : ∀ {x : SV} {y : Value}, CnV h β x y → CnV h' β' x y
  | .c _, _, ⟨e, o⟩ => ⟨e.mono le eb, o⟩
  | .agg _, _, ⟨ys, e, a⟩ => ⟨ys, e, a.mono fun _ _ ⟨p, q⟩ => ⟨p.mono le eb, q⟩⟩
  | .dat s _, _, ⟨g, cs, e, r⟩ => ⟨g, cs, e, r.mono le s⟩
  | .und, _, e => e

theorem CnE.mono {h h' : FH} {β β' : List RV} (le : h.le h') (eb : Ext β β') : ∀ {x : Ent} {y : Value}, CnE h β x y → CnE h' β' x y
  | .one _, _, e => CnV.mono le eb e
  | .tup _, _, ⟨ys, e, a⟩ => ⟨ys, e, a.mono fun _ _ => CnV.mono le eb⟩

/-- What has memory lies in a block of cells. -/
theorem Holds.cells {h : FH} {β : List RV} {w : World} {b : Nat} : ∀ {r : Res} {v : RV}, Holds h β w r v → r.live = true → v.block = some b → ∃ o, w.heap[b]? = some o ∧ o.isCells = true
  | .blk _ _, .blk c, ⟨ys, e, _⟩, _, hb => by simp [RV.block] at hb; subst hb; exact ⟨_, e, rfl⟩
  | .obj _ _ _, .blk c, ⟨ys, e, _⟩, _, hb => by simp [RV.block] at hb; subst hb; exact ⟨_, e, rfl⟩
  | .row _ _ _, .row v, .inl ⟨e, _⟩, _, hb => by subst e; simp [RV.block, rowBlk] at hb
  | .row _ _ _, .row v, .inr (.inl ⟨a, e, _⟩), _, hb => by subst e; simp [RV.block, rowBlk] at hb
  | .row _ _ _, .row v, .inr (.inr ⟨g, cap, cur, e, e1, _, e3, _⟩), _, hb => by
    subst e
    rw [block_own e3.1] at hb; cases hb
    exact ⟨_, e1, rfl⟩
  | .gone, _, _, hl, _ => by cases hl

/-- What must stay does, while only blocks of cells are written. -/
theorem OK.kept {B : Base} {h0 : FH} {T : List Res} {h : FH} {β : List RV} {w w' : World} (ok : OK B h0 T h β w) {row : Option Nat} (hg : Gb w w' row)
    (hr : ∀ b, row = some b → ∃ o, w.heap[b]? = some o ∧ o.isCells = true) : ∀ k o, B.nc k o → w'.heap[k]? = some o := by
  intro k o hk
  have h1 := ok.kn k o hk
  refine (hg.block k (Array.getElem?_eq_some_iff.1 h1).1 fun e => ?_).trans h1
  obtain ⟨o', e1, e2⟩ := hr k e.symm
  rw [h1] at e1; cases e1
  rw [B.cell k o hk] at e2; cases e2
end Go.Eng
