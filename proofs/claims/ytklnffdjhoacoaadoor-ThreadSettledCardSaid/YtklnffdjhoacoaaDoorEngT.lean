/- The engine, part T: slices that are cut short, and rows that are frozen where they are put into others. -/
import Derived.Test.YtklnffdjhoacoaaDoorEngR
set_option linter.unusedSimpArgs false
set_option linter.unusedVariables false
namespace Go.Eng
open Go Go.RowKit

def isZI : Int → Bool
  | .ofNat 0 => true
  | _ => false
theorem isZI_eq {n : Int} (h : isZI n = true) : n = 0 := by
  unfold isZI at h
  split at h
  · rfl
  · cases h
@[reducible] def isZ0 : Operand → Bool
  | .const v => match v with
    | .int _ n => isZI n
    | _ => false
  | _ => false
theorem isZ0_eq {x : Operand} (h : isZ0 x = true) : ∃ k, x = .const (.int k 0) := by
  unfold isZ0 at h
  split at h
  · split at h
    · rename_i k n; rw [isZI_eq h]; exact ⟨k, rfl⟩
    · cases h
  · cases h
@[reducible] def isZO : Option Operand → Bool
  | none => true
  | some x => isZ0 x
@[reducible] def isZS : Option Operand → Bool
  | none => false
  | some x => isZ0 x
@[reducible] def isSlC : SC → Bool
  | .sl _ _ => true
  | .v v => match v with
    | .slice none 0 0 => true
    | _ => false
  | _ => false

@[reducible] def empK (cx : Cx) (s : St) (d : Option Nat) (t : TypeId) (x : Operand) (lo hi : Option Operand) (K : St → Prop) : Prop := match descOf cx t with
  | .slice el => match lkT cx.ti el with
    | none => False
    | some ie => match ie.shp with
      | none => False
      | some sh => match getE cx s [] x with
        | some (.one (.c y)) => match andB (isSlC y) (andB (isZO lo) (isZS hi)) with
          | true => K ({ s with T := snoc s.T ([], .row el sh []) }.put d [] (.one (.c (.row (lenL s.T)))))
          | false => False
        | _ => False
  | _ => False
@[reducible] def truncK (cx : Cx) (s : St) (d : Option Nat) (t : TypeId) (i : Nat) (lo hi : Option Operand) (K : St → Prop) : Prop := match descOf cx t with
  | .slice el => match lkT cx.ti el with
    | none => False
    | some _ => match isZO lo with
      | false => False
      | true => match hi with
        | none => False
        | some h => match getE cx s [] h with
          | some (.one (.c (.v (.int _ n)))) => match nthL s.T i with
            | some ([], .row el' sh l) => (0 ≤ n ∧ n ≤ l.length) ∧ K ({ s with T := setL (jkT i s.T) i ([], .row el' sh (l.take n.toNat)), env := jkEnv i s.env }.put d [] (.one (.c (.row i))))
            | _ => False
          | _ => False
  | _ => False
@[reducible] def nilK (cx : Cx) (s : St) (d : Option Nat) (t : TypeId) (lo hi : Option Operand) (K : St → Prop) : Prop := match descOf cx t with
  | .slice el => match lkT cx.ti el with
    | none => False
    | some _ => match bndE cx s [] lo 0 with
      | none => False
      | some a => match bndE cx s [] hi 0 with
        | none => False
        | some b => (0 ≤ a ∧ a ≤ b ∧ b ≤ 0) ∧ K (s.put d [] (.one (.c (.v (.slice none 0 0)))))
  | _ => False
/-- The larger one. -/
def maxI (a b : Int) : Int := if b > a then b else a
@[reducible] def maxK (cx : Cx) (s : St) (d : Option Nat) (x y : Operand) (K : St → Prop) : Prop := match getE cx s [] x with
  | some (.one (.c (.v (.int .i64 a)))) => match getE cx s [] y with
    | some (.one (.c (.v (.int .i64 b)))) => K (s.put d [] (vI .i64 (maxI a b)))
    | _ => False
  | _ => False
@[reducible] def capK (cx : Cx) (s : St) (d : Option Nat) (t : TypeId) (x : Operand) (K : St → Prop) : Prop := match descOf cx t with
  | .slice _ => match getE cx s [] x with
    | some (.one (.c (.v (.slice none 0 0)))) => K (s.put d [] (vI .i64 0))
    | _ => False
  | _ => False

/-- Is a slice nil? Of an empty one that is not known. -/
@[reducible] def nilEqK (s : St) (d : Option Nat) (eq : Bool) (x : SC) (K : St → Prop) : Prop := match x with
  | .v _ => K (s.put d [] (vB eq))
  | .sl _ l => ∀ b : Bool, (b = true → l = []) → K (s.put d [] (vB (cnd eq b (!b))))
  | .row i => match nthL s.T i with
    | some ([], .row _ _ l) => ∀ b : Bool, (b = true → l = []) → K (s.put d [] (vB (cnd eq b (!b))))
    | _ => False
  | _ => False
@[reducible] def isEqOp : BinOp → Option Bool
  | .eql => some true
  | .neq => some false
  | _ => none
@[reducible] def isSlD (cx : Cx) (t : TypeId) : Bool := match descOf cx t with
  | .slice _ => true
  | _ => false
@[reducible] def slLike : SC → Bool
  | .sl _ _ => true
  | .row _ => true
  | .v v => match v with
    | .slice none 0 0 => true
    | _ => false
  | _ => false
/-- append(nil, make([]T, n)...). -/
@[reducible] def appZK (cx : Cx) (s : St) (d : Option Nat) (t t' : TypeId) (y : Operand) (K : St → Prop) : Prop := match descOf cx t' with
  | .int .i64 => match descOf cx t with
    | .slice el => match lkT cx.ti el with
      | none => False
      | some ie => match ie.shp with
        | none => False
        | some sh => match andB (Nat.beq sh.size ie.size) (andB (Nat.ble 1 ie.bytes) (Nat.ble 1 ie.size)) with
          | true => match getE cx s [] y with
            | some (.one (.c (.v (.int .i64 n)))) => (0 ≤ n ∧ InA n.toNat ie.bytes) ∧ K ({ s with T := snoc s.T ([], .row el sh (List.replicate n.toNat (zdat sh))) }.put d [] (.one (.c (.row (lenL s.T)))))
            | _ => False
          | false => False
    | _ => False
  | _ => False

/-! Freezing a row: what led to it holds its data. -/
@[reducible] def frzC (i : Nat) (sh : Sh) (l : List sh.den) (x : SC) : SC := match x with
  | .row j => match Nat.beq i j with
    | true => .sl sh l
    | false => .row j
  | .rowp j k sz off => match Nat.beq i j with
    | true => .junk
    | false => .rowp j k sz off
  | .own j off => match Nat.beq i j with
    | true => .junk
    | false => .own j off
  | x => x
@[reducible] def frzV (i : Nat) (sh : Sh) (l : List sh.den) : SV → SV
  | .c x => .c (frzC i sh l x)
  | .agg xs => .agg (mapL (frzC i sh l) xs)
  | v => v
@[reducible] def frzE (i : Nat) (sh : Sh) (l : List sh.den) : Ent → Ent
  | .one v => .one (frzV i sh l v)
  | .tup vs => .tup (mapL (frzV i sh l) vs)
@[reducible] def frzR (i : Nat) (sh : Sh) (l : List sh.den) : Res → Res
  | .blk t cs => .blk t (mapL (frzC i sh l) cs)
  | r => r
@[reducible] def frzEnv (i : Nat) (sh : Sh) (l : List sh.den) : List (Nat × Gd × Ent) → List (Nat × Gd × Ent)
  | [] => []
  | (k, g, e) :: r => (k, g, frzE i sh l e) :: frzEnv i sh l r
@[reducible] def frzT (i : Nat) (sh : Sh) (l : List sh.den) : List (Gd × Res) → List (Gd × Res)
  | [] => []
  | (g, r) :: t => (g, frzR i sh l r) :: frzT i sh l t
@[reducible] def frzS (s : St) (i : Nat) : St := match nthL s.T i with
  | some ([], .row _ sh l) => { s with T := setL (frzT i sh l s.T) i ([], .gone), env := frzEnv i sh l s.env }
  | _ => s
@[reducible] def frzAll (s : St) : List Nat → St
  | [] => s
  | i :: r => frzAll (frzS s i) r
@[reducible] def rowsC : List SC → List Nat → List Nat
  | [], r => r
  | x :: xs, r => match x with
    | .row i => i :: rowsC xs r
    | _ => rowsC xs r
@[reducible] def rowsOf (cx : Cx) (s : St) : List (Nat × Operand) → List Nat
  | [] => []
  | (_, x) :: r => match getE cx s [] x with
    | some (.one (.c (.row i))) => i :: rowsOf cx s r
    | some (.one (.agg xs)) => rowsC xs (rowsOf cx s r)
    | _ => rowsOf cx s r

@[reducible] def extP (cx : Cx) (s : St) (o : Oper) (K : St → Prop) : Option Prop := match o.guard with
  | some _ => none
  | none => match o.op with
    | .slice t x lo hi mx => match mx with
      | some m => match isZ0 m with
        | true => some (empK cx s o.dst t x lo hi K)
        | false => none
      | none => match getE cx s [] x with
        | some (.one (.c (.row i))) => some (truncK cx s o.dst t i lo hi K)
        | some (.one (.c (.v (.slice none 0 0)))) => some (nilK cx s o.dst t lo hi K)
        | _ => none
    | .binOp op t x y t' => match isEqOp op with
      | none => none
      | some eq => match getE cx s [] y with
        | some (.one (.c (.v (.slice none 0 0)))) => match getE cx s [] x with
          | some (.one (.c z)) => match andB (slLike z) (isSlD cx t) with
            | true => some (nilEqK s o.dst eq z K)
            | false => none
          | _ => none
        | _ => none
    | .call c => match c.callee with
      | .builtin .append => match tl c.args with
        | [x, y] => match tl c.argTypes with
          | [t, t'] => match Nat.beq t t' with
            | true => none
            | false => match getE cx s [] x with
              | some (.one (.c (.v (.slice none 0 0)))) => some (appZK cx s o.dst t t' y K)
              | _ => none
          | _ => none
        | _ => none
      | .builtin .cap => match tl c.args with
        | [x] => match tl c.argTypes with
          | [t] => some (capK cx s o.dst t x K)
          | _ => none
        | _ => none
      | .builtin .max => match tl c.args with
        | [x, y] => some (maxK cx s o.dst x y K)
        | _ => none
      | _ => none
    | .buildSlice t n ps => match rowsOf cx s (tl ps) with
      | [] => none
      | i :: r => some (buildSliceK cx (frzAll s (i :: r)) [] o.dst t n (tl ps) K)
    | _ => none

section
variable {cx : Cx} {P : Program} {N : Nat} {B : Base} {h0 : FH} {s : St} {h : FH} {β : List RV} {w : World} {a : Act} {o : Oper} {K : St → Prop}

theorem frz_one {h h' : FH} {β : List RV} {i : Nat} {sh : Sh} {l : List sh.den} {v : Value} (le : h.le h') (hu : β[i]? = some (.row v)) (sl : SlAt h' (Rd h' sh) v l) {x : SC} {y : Value} (c : CnC h β x y) : CnC h' β (frzC i sh l x) y := by
  unfold frzC
  split
  · rename_i j
    split
    · rename_i hj
      have := Nat.eq_of_beq_eq_true hj; subst this
      have e : β[i]? = some (.row y) := c
      rw [hu] at e; cases e; exact sl
    · exact CnC.mono (x := .row j) le (Ext.refl β) c
  · split
    · trivial
    · exact c.mono le (Ext.refl β)
  · split
    · trivial
    · exact c.mono le (Ext.refl β)
  · exact c.mono le (Ext.refl β)
theorem frz_all {h h' : FH} {β : List RV} {i : Nat} {sh : Sh} {l : List sh.den} {v : Value} (le : h.le h') (hu : β[i]? = some (.row v)) (sl : SlAt h' (Rd h' sh) v l) : ∀ {xs : List SC} {ys : List Value},
    All2 (fun x y => CnC h β x y ∧ oneC y) xs ys → All2 (fun x y => CnC h' β x y ∧ oneC y) (mapL (frzC i sh l) xs) ys
  | [], [], _ => trivial
  | _ :: _, _ :: _, ⟨a, b⟩ => ⟨⟨frz_one le hu sl a.1, a.2⟩, frz_all le hu sl b⟩
theorem frz_v {h h' : FH} {β : List RV} {i : Nat} {sh : Sh} {l : List sh.den} {v : Value} (le : h.le h') (hu : β[i]? = some (.row v)) (sl : SlAt h' (Rd h' sh) v l) : ∀ {x : SV} {y : Value}, CnV h β x y → CnV h' β (frzV i sh l x) y
  | .c _, _, c => ⟨frz_one le hu sl c.1, c.2⟩
  | .agg _, _, ⟨ys, e, a⟩ => ⟨ys, e, frz_all le hu sl a⟩
  | .dat s _, _, ⟨g, cs, e, r⟩ => ⟨g, cs, e, r.mono le s⟩
  | .und, _, c => c
theorem frz_e {h h' : FH} {β : List RV} {i : Nat} {sh : Sh} {l : List sh.den} {v : Value} (le : h.le h') (hu : β[i]? = some (.row v)) (sl : SlAt h' (Rd h' sh) v l) : ∀ {x : Ent} {y : Value}, CnE h β x y → CnE h' β (frzE i sh l x) y
  | .one _, _, c => frz_v le hu sl c
  | .tup _, _, ⟨ys, e, a⟩ => ⟨ys, e, go a⟩
where
  go : ∀ {xs : List SV} {ys : List Value}, All2 (CnV h β) xs ys → All2 (CnV h' β) (mapL (frzV i sh l) xs) ys
    | [], [], _ => trivial
    | _ :: _, _ :: _, ⟨a, b⟩ => ⟨frz_v le hu sl a, go b⟩
theorem frz_holds {h h' : FH} {β : List RV} {w : World} {i : Nat} {sh : Sh} {l : List sh.den} {v : Value} (le : h.le h') (hu : β[i]? = some (.row v)) (sl : SlAt h' (Rd h' sh) v l) : ∀ {r : Res} {u : RV}, Holds h β w r u → Holds h' β w (frzR i sh l r) u
  | .blk _ _, .blk _, ⟨ys, e, a⟩ => ⟨ys, e, frz_all le hu sl a⟩
  | .row _ s _, .row _, .inl e => .inl e
  | .row _ s _, .row _, .inr (.inl e) => .inr (.inl e)
  | .row _ s _, .row _, .inr (.inr ⟨g, cap, cur, e, q1, q2, q3, q4, q5⟩) => .inr (.inr ⟨g, cap, cur, e, q1, q2, q3, q4, q5.mono fun _ _ => Rd.mono le s⟩)
  | .obj _ s _, .blk _, ⟨ys, e, r⟩ => ⟨ys, e, r.mono le s⟩
  | .gone, _, _ => trivial
theorem frzR_live (i : Nat) (sh : Sh) (l : List sh.den) (r : Res) : (frzR i sh l r).live = r.live := by cases r <;> rfl

theorem lkE_frz {i : Nat} {sh : Sh} {l : List sh.den} : ∀ {env : List (Nat × Gd × Ent)} {t : Nat} {G : Gd} {e : Ent}, lkE (frzEnv i sh l env) t = some (G, e) → ∃ e0, lkE env t = some (G, e0) ∧ e = frzE i sh l e0
  | [], _, _, _, h => by simp [frzEnv, lkE] at h
  | (k, g, e0) :: r, t, G, e, h => by
    simp only [frzEnv] at h
    rw [lkE_cons] at h ⊢
    split at h
    · rename_i hk; cases h; exact ⟨e0, by rw [if_pos hk], rfl⟩
    · rename_i hk; rw [if_neg hk]; exact lkE_frz h
theorem lkE_frz' {i : Nat} {sh : Sh} {l : List sh.den} : ∀ {env : List (Nat × Gd × Ent)} {t : Nat} {G : Gd} {e : Ent}, lkE env t = some (G, e) → lkE (frzEnv i sh l env) t = some (G, frzE i sh l e)
  | [], _, _, _, h => by simp [lkE] at h
  | (k, g, e0) :: r, t, G, e, h => by
    simp only [frzEnv]
    rw [lkE_cons] at h ⊢
    split at h
    · rename_i hk; cases h; rw [if_pos hk]
    · rename_i hk; rw [if_neg hk]; exact lkE_frz' h
theorem eff_frz (gl : List Bool) (i : Nat) (sh : Sh) (l : List sh.den) : ∀ {T : List (Gd × Res)}, eff gl (frzT i sh l T) = (eff gl T).map (frzR i sh l)
  | [] => rfl
  | (g, r) :: t => by
    simp only [frzT, eff, List.map_cons, eff_frz gl i sh l (T := t)]
    congr 1
    cases gv gl g <;> rfl
theorem frzT_gd {i : Nat} {sh : Sh} {l : List sh.den} {p : Gd × Res} : ∀ {T : List (Gd × Res)}, p ∈ frzT i sh l T → ∃ q ∈ T, q.1 = p.1
  | [], h => by simp [frzT] at h
  | (g, r) :: t, h => by
    simp only [frzT, List.mem_cons] at h
    rcases h with rfl | h
    · exact ⟨(g, r), by simp, rfl⟩
    · obtain ⟨q, h1, h2⟩ := frzT_gd h; exact ⟨q, by simp [h1], h2⟩

theorem Sat.frz1 (sat : Sat N B h0 s h β w a) (i : Nat) : ∃ h', h.le h' ∧ Sat N B h0 (frzS s i) h' β w a := by
  unfold frzS
  split
  · rename_i t sh l hT
    have hT' : (eff s.gl s.T)[i]? = some (.row t sh l) := by rw [eff_get, ← nthL_eq, hT]; rfl
    cases hu : β[i]? with
    | none =>
      have h1 := (List.getElem?_eq_some_iff.1 hT').1
      have h2 := sat.ok.len
      have := List.getElem?_eq_none_iff.1 hu
      omega
    | some u =>
      have hold := sat.ok.holds i _ _ hT' hu
      cases u with
      | blk b => exact hold.elim
      | no => exact hold.elim
      | row v =>
        obtain ⟨h', le, ok', sl⟩ := sat.ok.freeze hT' hu
        refine ⟨h', le, ?_, ?_, ?_, sat.defers, sat.sz, ?_, ?_⟩
        · show OK B h0 (eff s.gl (setL (frzT i sh l s.T) i ([], .gone))) h' β w
          rw [eff_set, eff_frz]
          have key : ∀ {j : Nat} {r : Res}, (((eff s.gl s.T).map (frzR i sh l)).set i .gone)[j]? = some r → ∃ r0, ((eff s.gl s.T).set i .gone)[j]? = some r0 ∧ r = frzR i sh l r0 := by
            intro j r e
            by_cases hj : j = i
            · subst hj
              have hlt : j < (eff s.gl s.T).length := (List.getElem?_eq_some_iff.1 hT').1
              rw [List.getElem?_set_self (by simpa using hlt)] at e
              cases e
              exact ⟨.gone, by rw [List.getElem?_set_self hlt], rfl⟩
            · rw [List.getElem?_set_ne (Ne.symm hj), List.getElem?_map] at e
              cases hj' : (eff s.gl s.T)[j]? with
              | none => rw [hj'] at e; cases e
              | some r0 => rw [hj'] at e; cases e; exact ⟨r0, by rw [List.getElem?_set_ne (Ne.symm hj)]; exact hj', rfl⟩
          exact {
            below := ok'.below
            dr := ok'.dr
            len := by have := ok'.len; simpa using this
            holds := fun j r v' e e' => by
              obtain ⟨r0, e0, rfl⟩ := key e
              by_cases hj : j = i
              · subst hj
                have hlt : j < (eff s.gl s.T).length := (List.getElem?_eq_some_iff.1 hT').1
                rw [List.getElem?_set_self hlt] at e0
                cases e0; cases v' <;> trivial
              · rw [List.getElem?_set_ne (Ne.symm hj)] at e0
                exact frz_holds le hu sl (sat.ok.holds j r0 v' e0 e')
            own := fun j r v' b e hl e' hb => by
              obtain ⟨r0, e0, rfl⟩ := key e
              exact ok'.own j r0 v' b e0 (by rw [← frzR_live i sh l]; exact hl) e' hb
            inj := fun j k r1 r2 u v' b e1 l1 e2 l2 e3 e4 b1 b2 => by
              obtain ⟨r0, f1, rfl⟩ := key e1
              obtain ⟨r0', f2, rfl⟩ := key e2
              exact ok'.inj j k r0 r0' u v' b f1 (by rw [← frzR_live i sh l]; exact l1) f2 (by rw [← frzR_live i sh l]; exact l2) e3 e4 b1 b2
            hle := ok'.hle
            hw := ok'.hw
            hg := ok'.hg
            kn := ok'.kn }
        · intro t' G e ht
          obtain ⟨e0, h1, rfl⟩ := lkE_frz ht
          obtain ⟨z, q1, q2, q3⟩ := sat.env t' G e0 h1
          exact ⟨z, q1, fun hG => frz_e le hu sl (q2 hG), q3⟩
        · intro d j hj
          obtain ⟨G, b, q1, q2⟩ := sat.gs d j hj
          exact ⟨G, b, lkE_frz' q1, q2⟩
        · intro t' G e ht
          obtain ⟨e0, h1, rfl⟩ := lkE_frz ht
          exact sat.gb t' G e0 h1
        · intro p hp
          simp only at hp
          rw [setL_eq] at hp
          rcases List.mem_or_eq_of_mem_set hp with hp | hp
          · obtain ⟨q, h1, h2⟩ := frzT_gd hp
            rw [← h2]; exact sat.gT q h1
          · subst hp; rfl
  · exact ⟨h, FH.le.refl h, sat⟩

theorem Sat.frz : ∀ {l : List Nat} {s : St} {h : FH}, Sat N B h0 s h β w a → ∃ h', h.le h' ∧ Sat N B h0 (frzAll s l) h' β w a
  | [], s, h, sat => ⟨h, FH.le.refl h, sat⟩
  | i :: r, s, h, sat => by
    obtain ⟨h1, le1, sat1⟩ := sat.frz1 i
    obtain ⟨h2, le2, sat2⟩ := Sat.frz (l := r) sat1
    exact ⟨h2, le1.trans le2, sat2⟩

theorem OpW.le {h h' : FH} {b : Bool} (le : h.le h') (k : OpW P N B h0 h' w a o b K) : OpW P N B h0 h w a o b K := fun Nx Q next => k Nx Q fun s' h2 β' w' v k' le' sat => next s' h2 β' w' v k' (le.trans le') sat

theorem slc_form {h : FH} {β : List RV} {y : SC} {v : Value} (hy : isSlC y = true) (c : CnC h β y v) : ∃ ad len cap, v = .slice ad len cap ∧ len ≤ cap ∧ (ad = none → len = 0 ∧ cap = 0) := by
  unfold isSlC at hy
  split at hy
  · rcases c with ⟨rfl, _⟩ | ⟨ad, cap, rfl, _⟩ | ⟨b, off, cap, rfl, h1, _⟩
    · exact ⟨none, 0, 0, rfl, Nat.le_refl _, fun _ => ⟨rfl, rfl⟩⟩
    · exact ⟨some ad, 0, cap, rfl, Nat.zero_le _, fun h => by cases h⟩
    · exact ⟨_, _, cap, rfl, h1, fun h => by cases h⟩
  · split at hy
    · obtain ⟨rfl, _⟩ := c; exact ⟨none, 0, 0, rfl, Nat.le_refl _, fun _ => ⟨rfl, rfl⟩⟩
    · cases hy
  · cases hy

theorem emp_step (hc : TisOK P cx.ti) (sat : Sat N B h0 s h β w a) (hg : GlobOK cx.gd h) (hd : dOK N o.dst = true) {t : TypeId} {x m : Operand} {lo hi : Option Operand} (ho : o.op = .slice t x lo hi (some m)) (hm : isZ0 m = true)
    (k : empK cx s o.dst t x lo hi K) : OpW P N B h0 h w a o true K := by
  have tr : gv s.gl [] = true := rfl
  unfold empK at k
  split at k
  · rename_i el hde
    have hu := descOf_und hc hde (by simp)
    split at k
    · exact k.elim
    rename_i ie hie
    have tie := hc.get hie
    split at k
    · exact k.elim
    rename_i sh hsh
    split at k
    · rename_i y hy
      split at k
      · rename_i hz
        rw [andB_eq, andB_eq, Bool.and_eq_true, Bool.and_eq_true] at hz
        obtain ⟨hz1, hz2, hz3⟩ := hz
        have cy := (getE_ok sat hg tr hy : CnV h β (.c y) (a.eval x))
        obtain ⟨ad, len, cap, ev, hle, hnil⟩ := slc_form hz1 cy.1
        obtain ⟨km, rfl⟩ := isZ0_eq hm
        obtain ⟨hx, rfl⟩ : ∃ x, hi = some x := by cases hi with | none => simp [isZS] at hz3 | some x => exact ⟨x, rfl⟩
        obtain ⟨kh, rfl⟩ := isZ0_eq (show isZ0 hx = true from hz3)
        have run : (Instr.sliceAt t (a.eval x) (lo.map a.eval) ((some (Operand.const (.int kh 0))).map a.eval) ((some (Operand.const (.int km 0))).map a.eval)).run P w = .ok (.slice ad 0 0) w := by
          rw [ev]
          have e1 : (Instr.sliceBounds true len cap (lo.map a.eval) (some (.int kh 0)) (some (.int km 0))).run P w = .ok (0, 0, 0) w := by
            cases lo with
            | none => simp [Instr.sliceBounds, Instr.sliceBound, asIntOf]
            | some z =>
              obtain ⟨kz, rfl⟩ := isZ0_eq (show isZ0 z = true from hz2)
              simp [Instr.sliceBounds, Instr.sliceBound, asIntOf, Act.eval]
          simp only [Instr.sliceAt, Instr.slice, Sem.run_bind, run_underlying hu, Result.andThen_ok, Option.map_some, Act.eval, e1, run_sizeOf tie, Sem.run_pure]
          simp
        have nw := new_step (P := P) sat (o := o) (G := []) rfl hd (r := .row el sh []) (e := .one (.c (.row (lenL s.T)))) (K := K) k fun _ =>
          ⟨.slice ad 0 0, w, .row (.slice ad 0 0), by simp only [execOp, ho, Sem.run_bind]; rw [run]; rfl, grown_refl _ _, fun b hb => by cases ad <;> simp [RV.block, rowBlk] at hb, by
            cases ad with
            | none => exact .inl ⟨rfl, rfl⟩
            | some ad => exact .inr (.inl ⟨ad, rfl, rfl⟩), by
            refine ⟨last_ref (sat_len sat) _, rfl, rfl⟩⟩
        exact nw.weak
      · exact k.elim
    · exact k.elim
  · exact k.elim

theorem val_step (sat : Sat N B h0 s h β w a) (hd : dOK N o.dst = true) {v : Value} {e : Ent} (run : (execOp a.eval o).run P w = .ok (.value v) w) (c : CnE h β e v) (k : K (s.put o.dst [] e)) : OpW P N B h0 h w a o true K := by
  intro Nx Q next
  rw [if_pos rfl]
  exact wp_value run (next _ _ _ _ _ k (FH.le.refl h) (sat.put (dOK_lt hd) rfl (fun _ => c) fun hh => by cases hh))

theorem trunc_step (hc : TisOK P cx.ti) (sat : Sat N B h0 s h β w a) (hg : GlobOK cx.gd h) (hd : dOK N o.dst = true) {t : TypeId} {x : Operand} {lo hi : Option Operand} {i : Nat} (ho : o.op = .slice t x lo hi none)
    (hx : getE cx s [] x = some (.one (.c (.row i)))) (k : truncK cx s o.dst t i lo hi K) : OpW P N B h0 h w a o true K := by
  have tr : gv s.gl [] = true := rfl
  unfold truncK at k
  split at k
  · rename_i el hde
    have hu := descOf_und hc hde (by simp)
    split at k
    · exact k.elim
    rename_i ie hie
    have tie := hc.get hie
    split at k
    · exact k.elim
    rename_i hlo
    split at k
    · exact k.elim
    rename_i hh
    split at k
    · rename_i ik n hn
      split at k
      · rename_i el' sh l hT
        obtain ⟨hb, k⟩ := k
        have ch := (getE_ok sat hg tr hn : CnV h β (.c (.v (.int ik n))) (a.eval hh))
        have eh : a.eval hh = .int ik n := ch.1.1
        have cr := (getE_ok sat hg tr hx : CnV h β (.c (.row i)) (a.eval x))
        have hβ : β[i]? = some (.row (a.eval x)) := cr.1
        have hold := sat.ok.holds i _ _ (effres hT tr) hβ
        have hi' : i < β.length := (List.getElem?_eq_some_iff.1 hβ).1
        have hlo' : (lo.map a.eval = none ∧ (0 : Int) = 0) ∨ ∃ k, lo.map a.eval = some (.int k 0) := by
          cases lo with
          | none => exact .inl ⟨rfl, rfl⟩
          | some z =>
            obtain ⟨kz, rfl⟩ := isZ0_eq (show isZ0 z = true from hlo)
            exact .inr ⟨kz, rfl⟩
        have run : ∀ (ad : Option Addr) (cap : Nat), a.eval x = .slice ad l.length cap → l.length ≤ cap → (execOp a.eval o).run P w = .ok (.value (.slice ad n.toNat cap)) w := by
          intro ad cap ev hle
          have := run_bounds (P := P) (w := w) (isS := true) (len := l.length) (cap := cap) (lo := lo.map a.eval) (hi := some (.int ik n)) (a := 0) (b := n) hlo' (.inr ⟨ik, rfl⟩) (by omega) hle
          have r2 : (Instr.sliceAt t (a.eval x) (lo.map a.eval) ((some hh).map a.eval) none).run P w = .ok (.slice ad n.toNat cap) w := by
            rw [ev]
            simp only [Instr.sliceAt, Instr.slice, Sem.run_bind, run_underlying hu, Result.andThen_ok, Option.map_some, eh, this, run_sizeOf tie, Sem.run_pure]
            cases ad <;> simp [Addr.add]
          simp only [execOp, ho, Sem.run_bind, Option.map_none]
          rw [r2]; rfl
        have fin : ∀ (v' : Value), (execOp a.eval o).run P w = .ok (.value v') w → (∀ b, rowBlk v' = some b → rowBlk (a.eval x) = some b) → Holds h (β.set i (.row v')) w (.row el' sh (l.take n.toNat)) (.row v') → oneC v' → OpW P N B h0 h w a o true K := by
          intro v' r hv hold' h1
          intro Nx Q next
          rw [if_pos rfl]
          refine wp_value r (next _ _ _ _ _ k (FH.le.refl h) ((jk_sat sat hT rfl hβ (grown_refl _ _) (v := .row v') (fun b hb => .inl (hv b hb)) hold').put (dOK_lt hd) rfl (fun _ => ⟨?_, h1⟩) fun hh => by cases hh))
          show (β.set i (.row v'))[i]? = some (.row v')
          rw [List.getElem?_set_self hi']
        rcases hold with ⟨ev, hl⟩ | ⟨ra, ev, hl⟩ | ⟨g, cap, cur, ev, q1, q2, q3, q4, q5⟩
        · have hn0 : n.toNat = 0 := by rw [hl] at hb; simp at hb; omega
          refine fin _ (run none 0 (by rw [ev, hl]; rfl) (by rw [hl]; exact Nat.le_refl _)) (fun b hb => by simp [rowBlk] at hb) (.inl ⟨by rw [hn0], by rw [hl]; simp⟩) ⟨rfl, rfl⟩
        · have hn0 : n.toNat = 0 := by rw [hl] at hb; simp at hb; omega
          refine fin _ (run (some ra) 0 (by rw [ev, hl]; rfl) (by rw [hl]; exact Nat.le_refl _)) (fun b hb => by simp [rowBlk] at hb) (.inr (.inl ⟨ra, by rw [hn0], by rw [hl]; simp⟩)) ⟨rfl, rfl⟩
        · have hlen : (l.take n.toNat).length = n.toNat := by rw [List.length_take]; omega
          refine fin _ (run (some ⟨g, 0, none⟩) cap ev q2) (fun b hb => by rw [ev, rowBlk_own q3.1]; rw [rowBlk_own q3.1] at hb; exact hb) (.inr (.inr ⟨g, cap, cur, by rw [hlen], q1, by rw [hlen]; omega, q3, q4, ?_⟩)) ⟨rfl, rfl⟩
          have := RdL.takeDrop (fun _ _ => Rd.size sh) q5 (a := 0) (b := n.toNat) (Nat.zero_le _) (by omega)
          simp only [Nat.zero_mul, List.drop_zero] at this
          rw [hlen]
          rw [List.take_take, Nat.min_eq_left (Nat.mul_le_mul_right _ (by omega))] at this
          exact this
      · exact k.elim
    · exact k.elim
  · exact k.elim

theorem nil_step (hc : TisOK P cx.ti) (sat : Sat N B h0 s h β w a) (hg : GlobOK cx.gd h) (hd : dOK N o.dst = true) {t : TypeId} {x : Operand} {lo hi : Option Operand} (ho : o.op = .slice t x lo hi none)
    (hx : getE cx s [] x = some (.one (.c (.v (.slice none 0 0))))) (k : nilK cx s o.dst t lo hi K) : OpW P N B h0 h w a o true K := by
  have tr : gv s.gl [] = true := rfl
  unfold nilK at k
  split at k
  · rename_i el hde
    have hu := descOf_und hc hde (by simp)
    split at k
    · exact k.elim
    rename_i ie hie
    have tie := hc.get hie
    split at k
    · exact k.elim
    rename_i p hp
    split at k
    · exact k.elim
    rename_i q hq
    obtain ⟨hb, k⟩ := k
    have cx' := (getE_ok sat hg tr hx : CnV h β (.c (.v (.slice none 0 0))) (a.eval x))
    have ev : a.eval x = .slice none 0 0 := cx'.1.1
    have bnd : ∀ {o : Option Operand} {n : Int}, bndE cx s [] o 0 = some n → (o.map a.eval = none ∧ n = 0) ∨ ∃ k, o.map a.eval = some (.int k n) := by
      intro o n e
      rcases bndE_ok sat hg tr e with ⟨rfl, rfl⟩ | ⟨x, ik, rfl, e'⟩
      · exact .inl ⟨rfl, rfl⟩
      · exact .inr ⟨ik, by simp [e']⟩
    have := run_bounds (P := P) (w := w) (isS := true) (len := 0) (cap := 0) (bnd hp) (bnd hq) (by simpa using hb) (Nat.le_refl _)
    refine val_step sat hd (v := .slice none 0 0) (e := .one (.c (.v (.slice none 0 0)))) ?_ ⟨⟨rfl, rfl, rfl⟩, rfl, rfl⟩ k
    have h1 : p.toNat = 0 := by omega
    have h2 : q.toNat = 0 := by omega
    have r2 : (Instr.sliceAt t (a.eval x) (lo.map a.eval) (hi.map a.eval) none).run P w = .ok (.slice none 0 0) w := by
      rw [ev]
      simp only [Instr.sliceAt, Instr.slice, Sem.run_bind, run_underlying hu, Result.andThen_ok, this, run_sizeOf tie, Sem.run_pure, h1, h2]
      simp
    simp only [execOp, ho, Sem.run_bind, Option.map_none]
    rw [r2]; rfl
  · exact k.elim

theorem cap_step (hc : TisOK P cx.ti) (sat : Sat N B h0 s h β w a) (hg : GlobOK cx.gd h) (hd : dOK N o.dst = true) {t : TypeId} {x : Operand} {c : Call} (ho : o.op = .call c) (hcal : c.callee = .builtin .cap) (ha : c.args = #[x]) (ht : c.argTypes = #[t])
    (k : capK cx s o.dst t x K) : OpW P N B h0 h w a o true K := by
  have tr : gv s.gl [] = true := rfl
  unfold capK at k
  split at k
  · rename_i el hde
    have hu := descOf_und hc hde (by simp)
    split at k
    · rename_i hx
      have cx' := (getE_ok sat hg tr hx : CnV h β (.c (.v (.slice none 0 0))) (a.eval x))
      have ev : a.eval x = .slice none 0 0 := cx'.1.1
      refine val_step sat hd (v := goInt 0) (e := vI .i64 0) ?_ ⟨⟨rfl, oneC_int _ _⟩, oneC_int _ _⟩ k
      simp [execOp, ho, resolve, hcal, ha, ht, invoke, builtin, ev, Builtin.cap_, run_underlying hu]
    · exact k.elim
  · exact k.elim

theorem max_step (sat : Sat N B h0 s h β w a) (hg : GlobOK cx.gd h) (hd : dOK N o.dst = true) {x y : Operand} {c : Call} (ho : o.op = .call c) (hcal : c.callee = .builtin .max) (ha : c.args = #[x, y])
    (k : maxK cx s o.dst x y K) : OpW P N B h0 h w a o true K := by
  have tr : gv s.gl [] = true := rfl
  unfold maxK at k
  split at k
  · rename_i n hx
    have ex : a.eval x = .int .i64 n := (getE_ok sat hg tr hx : CnV h β (.c (.v (.int .i64 n))) (a.eval x)).1.1
    split at k
    · rename_i m hy
      have ey : a.eval y = .int .i64 m := (getE_ok sat hg tr hy : CnV h β (.c (.v (.int .i64 m))) (a.eval y)).1.1
      refine val_step sat hd (v := .int .i64 (maxI n m)) (e := vI .i64 (maxI n m)) ?_ ⟨⟨rfl, oneC_int _ _⟩, oneC_int _ _⟩ k
      simp [execOp, ho, resolve, hcal, ha, invoke, builtin, ex, ey, Builtin.max_, Builtin.max2, maxI]
    · exact k.elim
  · exact k.elim

theorem run_nilEq {P : Program} {w : World} {t : TypeId} {el : TypeId} (hu : P.underlying t = some (.slice el)) (ad : Option Addr) (n c : Nat) (op : BinOp) (eq : Bool) (he : isEqOp op = some eq) (x y : Operand) :
    (eqGuard op t x y (.slice ad n c) (.slice none 0 0)).run P w = .ok () w ∧ (binOp op t (.slice ad n c) (.slice none 0 0)).run P w = .ok (.bool (cnd eq ad.isNone (!ad.isNone))) w := by
  refine ⟨eqGuard_free P op t x y (by rfl) w, ?_⟩
  have key : ∀ d, (Op.equalIn (d + 1) t (.slice ad n c) (.slice none 0 0)).run P w = .ok ad.isNone w := by
    intro d
    cases ad <;> simp [Op.equalIn, run_underlying hu]
  have k2 := key 9999
  have hq2 : Op.equal t (.slice ad n c) (.slice none 0 0) = Op.equalIn (9999 + 1) t (.slice ad n c) (.slice none 0 0) := rfl
  unfold isEqOp at he
  split at he
  · cases he
    have e : (binOp .eql t (.slice ad n c) (.slice none 0 0)).run P w = ((Op.equal t (.slice ad n c) (.slice none 0 0)).run P w).andThen fun b w => .ok (.bool b) w := by
      simp only [binOp]
      generalize Op.equal t (.slice ad n c) (.slice none 0 0) = q
      simp
    rw [e, hq2, k2]; rfl
  · cases he
    have e : (binOp .neq t (.slice ad n c) (.slice none 0 0)).run P w = ((Op.equal t (.slice ad n c) (.slice none 0 0)).run P w).andThen fun b w => .ok (.bool (!b)) w := by
      simp only [binOp]
      generalize Op.equal t (.slice ad n c) (.slice none 0 0) = q
      simp
    rw [e, hq2, k2]; rfl
  · cases he

theorem nilEq_step (hc : TisOK P cx.ti) (sat : Sat N B h0 s h β w a) (hg : GlobOK cx.gd h) (hd : dOK N o.dst = true) {t t' : TypeId} {x y : Operand} {op : BinOp} {eq : Bool} (ho : o.op = .binOp op t x y t') (he : isEqOp op = some eq)
    (hy : getE cx s [] y = some (.one (.c (.v (.slice none 0 0))))) {z : SC} (hx : getE cx s [] x = some (.one (.c z))) (hz : slLike z = true) (ht : isSlD cx t = true) (k : nilEqK s o.dst eq z K) : OpW P N B h0 h w a o true K := by
  have tr : gv s.gl [] = true := rfl
  obtain ⟨el, hu⟩ : ∃ el, P.underlying t = some (.slice el) := by
    unfold isSlD at ht
    split at ht
    · rename_i el hde; exact ⟨el, descOf_und hc hde (by simp)⟩
    · cases ht
  have cy := (getE_ok sat hg tr hy : CnV h β (.c (.v (.slice none 0 0))) (a.eval y))
  have ey : a.eval y = .slice none 0 0 := cy.1.1
  have cz := (getE_ok sat hg tr hx : CnV h β (.c z) (a.eval x))
  have exec : ∀ ad n c, a.eval x = .slice ad n c → (execOp a.eval o).run P w = .ok (.value (.bool (cnd eq ad.isNone (!ad.isNone)))) w := by
    intro ad n c e
    obtain ⟨g1, g2⟩ := run_nilEq (P := P) (w := w) hu ad n c op eq he x y
    simp only [execOp, ho, Sem.run_bind, e, ey, g1, g2, Result.andThen_ok, Sem.run_pure]
  have fin : ∀ ad n c (b : Bool), a.eval x = .slice ad n c → K (s.put o.dst [] (vB (cnd eq ad.isNone (!ad.isNone)))) → OpW P N B h0 h w a o true K := fun ad n c b e k =>
    val_step sat hd (e := vB (cnd eq ad.isNone (!ad.isNone))) (exec ad n c e) ⟨⟨rfl, oneC_bool _⟩, oneC_bool _⟩ k
  unfold nilEqK at k
  split at k
  · rename_i v
    unfold slLike at hz
    have ev : a.eval x = .slice none 0 0 := by
      simp only at hz
      split at hz
      · exact cz.1.1
      · cases hz
    refine fin none 0 0 true ev ?_
    cases eq <;> exact k
  · rename_i sh l
    rcases cz.1 with ⟨e, hl⟩ | ⟨ad, cap, e, hl, _⟩ | ⟨b, off, cap, e, _⟩
    · exact fin _ _ _ true e (k true fun _ => hl)
    · exact fin _ _ _ true e (k false fun hh => by cases hh)
    · exact fin _ _ _ true e (k false fun hh => by cases hh)
  · rename_i i
    split at k
    · rename_i t2 sh l hT
      have hβ : β[i]? = some (.row (a.eval x)) := cz.1
      rcases sat.ok.holds i _ _ (effres hT tr) hβ with ⟨e, hl⟩ | ⟨ra, e, hl⟩ | ⟨g, cap, cur, e, _⟩
      · exact fin _ _ _ true e (k true fun _ => hl)
      · exact fin _ _ _ true e (k false fun hh => by cases hh)
      · exact fin _ _ _ true e (k false fun hh => by cases hh)
    · exact k.elim
  · exact k.elim

theorem run_appZ {P : Program} {w : World} {t t' ty el : TypeId} {i : TypeInfo} {z : Value} (ht : P.underlying t = some (.slice el)) (ht' : P.underlying t' = some (.int .i64)) (hi : P.info? el = some i) (hz : i.zero = some z) (hs : 1 ≤ i.size) (n : Nat) (h0 : 0 < n) (h48 : n * i.bytes ≤ 140737488355328) (hb : 1 ≤ i.bytes) :
    (Builtin.append_ #[t, t'] ty #[.slice none 0 0, .int .i64 n]).run P w =
      .ok (.slice (some ⟨w.heap.size, 0, none⟩) n (grownCap w n 0 el)) (w.drew.alloc (.cells (Builtin.zeroCells z.cells n ++ Builtin.zeroCells z.cells (grownCap w n 0 el - n)) el)) := by
  have hn63 : n ≤ 140737488355328 := Nat.le_trans (Nat.le_mul_of_pos_right _ hb) h48
  have hn : n ≠ 0 := by omega
  have hw : IntKind.i64.wrap (n : Int) = n := by simp [IntKind.wrap, IntKind.bits, IntKind.signed]; omega
  have hneg : ¬ ((n : Int) < 0) := by omega
  have h48i : ¬ ((281474976710656 : Int) < (n : Int) * (i.bytes : Int)) := by
    have : ((n * i.bytes : Nat) : Int) ≤ 140737488355328 := by omega
    rw [Int.natCast_mul] at this; omega
  have h63' : ¬ (9223372036854775807 < (n : Int)) := by omega
  have h48' : ¬ (281474976710656 < Builtin.nextslicecap n 0 * i.bytes) := by rw [nextslicecap_zero h0]; omega
  have hns : ¬ (n * i.size = 0) := by
    intro hh
    rcases Nat.mul_eq_zero.1 hh with h | h <;> omega
  have hns2 : ¬ (i.size = 0) := by omega
  simp [Builtin.append_, run_underlying ht, run_underlying ht', sizeOf, typeInfo, zeroValue, hi, hz, Builtin.lenOf, hn, hw, hneg, h48i, h63', h48', Question.forced, run_firstCells_none, newRow, grownCap, asInt, asIntOf, hns, hns2]

theorem appZ_step (hc : TisOK P cx.ti) (sat : Sat N B h0 s h β w a) (hg : GlobOK cx.gd h) (hd : dOK N o.dst = true) {t t' : TypeId} {x y : Operand} {c : Call} (ho : o.op = .call c) (hcal : c.callee = .builtin .append) (ha : c.args = #[x, y]) (ht : c.argTypes = #[t, t'])
    (hx : getE cx s [] x = some (.one (.c (.v (.slice none 0 0))))) (k : appZK cx s o.dst t t' y K) : OpW P N B h0 h w a o true K := by
  have tr : gv s.gl [] = true := rfl
  unfold appZK at k
  split at k
  · rename_i hdi
    have hui := descOf_und hc hdi (by simp)
    split at k
    · rename_i el hde
      have hu := descOf_und hc hde (by simp)
      split at k
      · exact k.elim
      rename_i ie hie
      have tie := hc.get hie
      split at k
      · exact k.elim
      rename_i sh hsh
      split at k
      · rename_i hz
        rw [andB_eq, andB_eq, Bool.and_eq_true, Bool.and_eq_true] at hz
        have hz1 : sh.size = ie.size := Nat.eq_of_beq_eq_true hz.1
        have hz2 : 1 ≤ ie.bytes := Nat.le_of_ble_eq_true hz.2.1
        have hz3 : 1 ≤ ie.size := Nat.le_of_ble_eq_true hz.2.2
        split at k
        · rename_i n hn
          obtain ⟨⟨hn0, hroom⟩, k⟩ := k
          have ex : a.eval x = .slice none 0 0 := (getE_ok sat hg tr hx : CnV h β (.c (.v (.slice none 0 0))) (a.eval x)).1.1
          have ey : a.eval y = .int .i64 n := (getE_ok sat hg tr hn : CnV h β (.c (.v (.int .i64 n))) (a.eval y)).1.1
          obtain ⟨inf, z, i1, i2, i3, i4, i5⟩ := tie.info
          obtain ⟨m, rfl⟩ : ∃ m : Nat, n = m := ⟨n.toNat, by omega⟩
          rw [Int.toNat_natCast] at hroom k
          unfold InA at hroom
          refine OpOK.weak (new_step (P := P) sat (o := o) (G := []) rfl hd (r := .row el sh (List.replicate m (zdat sh))) (e := .one (.c (.row (lenL s.T)))) (K := K) k fun _ => ?_)
          by_cases hm : m = 0
          · subst hm
            refine ⟨.slice none 0 0, w, .row (.slice none 0 0), ?_, grown_refl _ _, fun b hb => by simp [RV.block, rowBlk] at hb, .inl ⟨rfl, rfl⟩, last_ref (sat_len sat) _, rfl, rfl⟩
            simp [execOp, ho, resolve, hcal, ha, ht, invoke, builtin, ex, ey, Builtin.append_, run_underlying hu, run_underlying hui, sizeOf, typeInfo, i1, asInt, asIntOf, IntKind.wrap, IntKind.bits, IntKind.signed]
          · have r := run_appZ (P := P) (w := w) (ty := o.type) hu hui i1 i4 (by omega) m (by omega) (by rw [i3]; exact hroom) (by omega)
            have hge := grownCap_ge w m 0 el
            have hle : m ≤ 140737488355328 := Nat.le_trans (Nat.le_mul_of_pos_right _ hz2) hroom
            refine ⟨.slice (some ⟨w.heap.size, 0, none⟩) m (grownCap w m 0 el), w.drew.alloc (.cells (Builtin.zeroCells z.cells m ++ Builtin.zeroCells z.cells (grownCap w m 0 el - m)) el), .row (.slice (some ⟨w.heap.size, 0, none⟩) m (grownCap w m 0 el)), ?_, ⟨⟨rfl, rfl, rfl, by simp, fun k hk _ => (World.grownBy_alloc w.drew _ none).block k hk (by simp)⟩, Nat.le_succ _⟩, ?_, ?_, last_ref (sat_len sat) _, rfl, rfl⟩
            · simp only [execOp, ho, resolve, hcal, ha, ht, invoke, builtin, Sem.run_bind, Sem.run_pure, Result.andThen_ok]
              simp [ex, ey, r]
            · intro b hb; simp [RV.block, rowBlk] at hb; obtain ⟨_, rfl⟩ := hb; simp
            · have zsz : z.cells.size = ie.size := by rw [i5]; simpa using tie.zlen
              have hzz : ∀ q, Builtin.zeroCells z.cells q = (repL q ie.zero).toArray := by
                intro q
                unfold Builtin.zeroCells
                rw [i5]
                have := zeros_eq (zero := ie.zero) (n := q) (by rw [tie.zlen]; omega)
                simpa using this
              refine .inr (.inr ⟨w.heap.size, _, _, by rw [List.length_replicate], heap_alloc_new w.drew _, by rw [List.length_replicate]; omega, ⟨by omega, grownCap_le_maxLen w m 0 el (by simp only [maxLen]; omega)⟩, ?_, ?_⟩)
              · simp only [Array.size_append, size_zeroCells, zsz, hz1, ← Nat.add_mul]; congr 1; omega
              · rw [List.length_replicate, hzz, hzz]
                simp only [Array.toList_append, List.toList_toArray]
                rw [List.take_append_of_le_length (by rw [repL_len, tie.zlen, hz1]; exact Nat.le_refl _), hz1, ← tie.zlen, repL_take (Nat.le_refl _)]
                exact RdL_rep (Rd_empty (tie.zshp sh hsh).1) _
        · exact k.elim
      · exact k.elim
    · exact k.elim
  · exact k.elim

theorem extP_ok (hc : TisOK P cx.ti) (sat : Sat N B h0 s h β w a) (hg : GlobOK cx.gd h) (hd : dOK N o.dst = true) {ops : Array Oper} {p : Prop} (e : extP cx s o K = some p) (k : p) : OpW P N B h0 h w a o (Region.wanted o (yielded ops a.tmps)) K := by
  unfold extP at e
  split at e
  · cases e
  rename_i hgd
  rw [show Region.wanted o (yielded ops a.tmps) = true by simp [Region.wanted, hgd]]
  split at e
  · rename_i t x lo hi mx ho
    split at e
    · rename_i m
      split at e
      · rename_i hm
        cases e
        exact emp_step hc sat hg hd ho hm k
      · cases e
    · split at e
      · rename_i i hx
        cases e
        exact trunc_step hc sat hg hd ho hx k
      · rename_i hx
        cases e
        exact nil_step hc sat hg hd ho hx k
      · cases e
  · rename_i op t x y t' ho
    split at e
    · cases e
    · rename_i eq he
      split at e
      · rename_i hy
        split at e
        · rename_i z hx
          split at e
          · rename_i hz
            rw [andB_eq, Bool.and_eq_true] at hz
            cases e
            exact nilEq_step hc sat hg hd ho he hy hx hz.1 hz.2 k
          · cases e
        · cases e
      · cases e
  · rename_i c ho
    split at e
    · rename_i hcal
      split at e
      · rename_i x y ha
        split at e
        · rename_i t t' ht
          split at e
          · cases e
          · split at e
            · rename_i hx
              cases e
              exact appZ_step hc sat hg hd ho hcal (tl_eq ha) (tl_eq ht) hx k
            · cases e
        · cases e
      · cases e
    · rename_i hcal
      split at e
      · rename_i x ha
        split at e
        · rename_i t ht
          cases e
          exact cap_step hc sat hg hd ho hcal (tl_eq ha) (tl_eq ht) k
        · cases e
      · cases e
    · rename_i hcal
      split at e
      · rename_i x y ha
        cases e
        exact max_step sat hg hd ho hcal (tl_eq ha) k
      · cases e
    · cases e
  · rename_i t n ps ho
    split at e
    · cases e
    · rename_i i r hr
      cases e
      obtain ⟨h', le, sat'⟩ := sat.frz (l := i :: r)
      have := buildSlice_step hc sat' (hg.mono le) (G := []) rfl hd ho k
      exact OpW.le le this.weak
  · cases e
end
end Go.Eng
