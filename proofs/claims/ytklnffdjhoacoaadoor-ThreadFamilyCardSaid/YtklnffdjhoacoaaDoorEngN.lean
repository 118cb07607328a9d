/- The engine, part N: contracts and calls. -/
import Derived.Test.YtklnffdjhoacoaaDoorEngM
set_option linter.unusedSimpArgs false
set_option linter.unusedVariables false
namespace Go.Eng
open Go Go.RowKit

@[reducible] def ofDats : (ss : List Sh) → dens ss → List SV
  | [], _ => []
  | s :: l, d => ofDat s d.1 :: ofDats l d.2
@[reducible] def datA : (ss : List Sh) → List SV → Option (dens ss)
  | [], vs => match vs with
    | [] => some ()
    | _ => none
  | s :: l, vs => match vs with
    | v :: r => match toDat s v with
      | some d => match datA l r with
        | some e => some (d, e)
        | none => none
      | none => none
    | _ => none

theorem datA_ok {h : FH} {β : List RV} : ∀ {ss : List Sh} {vs : List SV} {ys : List Value} {d : dens ss}, datA ss vs = some d → All2 (CnV h β) vs ys → All2 (CnV h β) (ofDats ss d) ys
  | [], vs, ys, d, e, a => by
    unfold datA at e
    split at e
    · cases ys with
      | nil => trivial
      | cons _ _ => exact a.elim
    · cases e
  | s :: l, vs, ys, d, e, a => by
    unfold datA at e
    split at e
    · rename_i v r
      cases ys with
      | nil => exact a.elim
      | cons y ys =>
        split at e
        · rename_i d1 hd
          split at e
          · rename_i d2 hr
            cases e
            obtain ⟨cs, e1, rd⟩ := toDat_ok hd a.1
            rw [e1]
            exact ⟨ofDat_ok s rd, datA_ok hr a.2⟩
          · cases e
        · cases e
    · cases e

/-- A contract: what goes in, what must hold, what comes back. -/
structure CT where
  ps : List Sh
  pre : dens ps → Prop
  res : dens ps → List Res × Ent

def CTOK (P : Program) (gd : Nat → Option (Sigma Sh.den)) (f : FuncId) (ct : CT) : Prop :=
  ∀ (d : dens ct.ps) (vs : List Value) (h : FH) (B : World), (∀ b o v, h b o = some v → B.cell? ⟨b, o, none⟩ = some v) → GlobOK gd h → All2 (CnV h []) (ofDats ct.ps d) vs → ct.pre d →
    Calls P f vs.toArray B (fun en w' => ∃ h' β y, en = .returned y ∧ OK (Base.of B) h (ct.res d).1 h' β w' ∧ CnE h' β (ct.res d).2 y)

/-- The same where functions that are no variables stand behind the data. -/
def CTX (P : Program) (gd : Nat → Option (Sigma Sh.den)) (f : FuncId) (suf : List Value) (ct : CT) : Prop :=
  ∀ (d : dens ct.ps) (vs : List Value) (h : FH) (B : World), (∀ b o v, h b o = some v → B.cell? ⟨b, o, none⟩ = some v) → GlobOK gd h → All2 (CnV h []) (ofDats ct.ps d) vs → ct.pre d →
    Calls P f (vs ++ suf).toArray B (fun en w' => ∃ h' β y, en = .returned y ∧ OK (Base.of B) h (ct.res d).1 h' β w' ∧ CnE h' β (ct.res d).2 y)
theorem CTOK.x {P : Program} {gd : Nat → Option (Sigma Sh.den)} {f : FuncId} {ct : CT} (h : CTOK P gd f ct) : CTX P gd f [] ct := by
  intro d vs h' B; simpa using h d vs h' B
theorem CTX.ok {P : Program} {gd : Nat → Option (Sigma Sh.den)} {f : FuncId} {ct : CT} (h : CTX P gd f [] ct) : CTOK P gd f ct := by
  intro d vs h' B; simpa using h d vs h' B

@[reducible] def SC.sh (n : Nat) : SC → SC
  | .own i off => .own (n + i) off
  | .row i => .row (n + i)
  | .rowp i j sz off => .rowp (n + i) j sz off
  | x => x
@[reducible] def SV.sh (n : Nat) : SV → SV
  | .c x => .c (x.sh n)
  | .agg xs => .agg (mapL (SC.sh n) xs)
  | v => v
@[reducible] def Ent.sh (n : Nat) : Ent → Ent
  | .one v => .one (v.sh n)
  | .tup vs => .tup (mapL (SV.sh n) vs)
@[reducible] def Res.sh (n : Nat) : Res → Res
  | .blk t cs => .blk t (mapL (SC.sh n) cs)
  | r => r

@[reducible] def shFlat : Sh → Bool
  | .int _ => true
  | .bool => true
  | .str => true
  | .unit => true
  | .pair a b => andB (shFlat a) (shFlat b)
  | .arr _ s => shFlat s
  | _ => false
@[reducible] def scFlat : SC → Bool
  | .v _ => true
  | .own _ _ => true
  | .row _ => true
  | _ => false
@[reducible] def allL {α : Type} (p : α → Bool) : List α → Bool
  | [] => true
  | x :: l => andB (p x) (allL p l)
@[reducible] def svFlat : SV → Bool
  | .c x => scFlat x
  | .agg xs => allL scFlat xs
  | .dat s _ => shFlat s
  | .und => true
@[reducible] def entFlat : Ent → Bool
  | .one v => svFlat v
  | .tup vs => allL svFlat vs
@[reducible] def resFlat : Res → Bool
  | .blk _ cs => allL scFlat cs
  | .row _ s _ => shFlat s
  | .obj _ s _ => shFlat s
  | .gone => true

theorem Rd.flat {h h' : FH} : ∀ (s : Sh) {cs : List Value} {d : s.den}, shFlat s = true → Rd h s cs d → Rd h' s cs d
  | .int _, _, _, _, r => r
  | .bool, _, _, _, r => r
  | .str, _, _, _, r => r
  | .unit, _, _, _, r => r
  | .any, _, _, f, _ => by simp [shFlat] at f
  | .sl _, _, _, f, _ => by simp [shFlat] at f
  | .pair a b, _, (_, _), f, ⟨c1, c2, e, r1, r2⟩ => by
    simp only [shFlat, andB_eq, Bool.and_eq_true] at f
    exact ⟨c1, c2, e, r1.flat a f.1, r2.flat b f.2⟩
  | .arr _ s, _, _, f, ⟨e, r⟩ => ⟨e, r.mono fun _ _ => Rd.flat s f⟩

theorem last_shift {β β' : List RV} {i : Nat} {v : RV} (e : β'[i]? = some v) : (β ++ β')[β.length + i]? = some v := by
  rw [List.getElem?_append_right (by omega)]; simpa using e

theorem CnC.shift {h : FH} {β β' : List RV} : ∀ {x : SC} {y : Value}, CnC h β' x y → CnC h (β ++ β') (x.sh β.length) y
  | .v _, _, c => c
  | .sl _ _, _, c => c
  | .fp _ _, _, c => c
  | .own _ _, _, ⟨b, e, e'⟩ => ⟨b, last_shift e, e'⟩
  | .row _, _, e => last_shift e
  | .rowp _ _ _ _, _, ⟨v, g, e, e'⟩ => ⟨v, g, last_shift e, e'⟩
  | .abs _, _, c => c
  | .junk, _, _ => trivial
theorem CnC.flat {h h' : FH} {β : List RV} : ∀ {x : SC} {y : Value}, scFlat x = true → CnC h β x y → CnC h' β x y
  | .v _, _, _, c => c
  | .own _ _, _, _, c => c
  | .row _, _, _, c => c
  | .sl _ _, _, f, _ => by simp [scFlat] at f
  | .fp _ _, _, f, _ => by simp [scFlat] at f
  | .rowp _ _ _ _, _, f, _ => by simp [scFlat] at f
  | .abs _, _, f, _ => by simp [scFlat] at f
  | .junk, _, f, _ => by simp [scFlat] at f

theorem All2.mapL {α β : Type} {R R' : α → β → Prop} {f : α → α} (hR : ∀ a b, R a b → R' (f a) b) : ∀ {l : List α} {m : List β}, All2 R l m → All2 R' (mapL f l) m
  | [], [], _ => trivial
  | _ :: _, _ :: _, ⟨a, b⟩ => ⟨hR _ _ a, All2.mapL hR b⟩
theorem All2.allL {α β : Type} {R R' : α → β → Prop} {p : α → Bool} (hR : ∀ a b, p a = true → R a b → R' a b) : ∀ {l : List α} {m : List β}, allL p l = true → All2 R l m → All2 R' l m
  | [], [], _, _ => trivial
  | _ :: _, _ :: _, f, ⟨a, b⟩ => by
    simp only [Eng.allL, andB_eq, Bool.and_eq_true] at f
    exact ⟨hR _ _ f.1 a, All2.allL hR f.2 b⟩

theorem CnV.shift {h : FH} {β β' : List RV} : ∀ {x : SV} {y : Value}, CnV h β' x y → CnV h (β ++ β') (x.sh β.length) y
  | .c _, _, c => ⟨c.1.shift, c.2⟩
  | .agg _, _, ⟨ys, e, a⟩ => ⟨ys, e, a.mapL fun _ _ ⟨p, q⟩ => ⟨p.shift, q⟩⟩
  | .dat _ _, _, c => c
  | .und, _, c => c
theorem CnV.flat {h h' : FH} {β : List RV} : ∀ {x : SV} {y : Value}, svFlat x = true → CnV h β x y → CnV h' β x y
  | .c _, _, f, c => ⟨c.1.flat f, c.2⟩
  | .agg _, _, f, ⟨ys, e, a⟩ => ⟨ys, e, a.allL (fun _ _ f ⟨p, q⟩ => ⟨p.flat f, q⟩) f⟩
  | .dat s _, _, f, ⟨g, cs, e, r⟩ => ⟨g, cs, e, r.flat s f⟩
  | .und, _, _, c => c
theorem CnE.shift {h : FH} {β β' : List RV} : ∀ {x : Ent} {y : Value}, CnE h β' x y → CnE h (β ++ β') (x.sh β.length) y
  | .one _, _, c => CnV.shift c
  | .tup _, _, ⟨ys, e, a⟩ => ⟨ys, e, a.mapL (f := SV.sh β.length) fun _ _ c => CnV.shift c⟩
theorem CnE.flat {h h' : FH} {β : List RV} : ∀ {x : Ent} {y : Value}, entFlat x = true → CnE h β x y → CnE h' β x y
  | .one _, _, f, c => CnV.flat f c
  | .tup _, _, f, ⟨ys, e, a⟩ => ⟨ys, e, a.allL (fun _ _ => CnV.flat) f⟩
theorem Holds.shift {h : FH} {β β' : List RV} {w : World} : ∀ {r : Res} {v : RV}, Holds h β' w r v → Holds h (β ++ β') w (r.sh β.length) v
  | .blk _ _, .blk _, ⟨ys, e, a⟩ => ⟨ys, e, a.mapL fun _ _ ⟨p, q⟩ => ⟨p.shift, q⟩⟩
  | .row _ _ _, .row _, c => c
  | .obj _ _ _, .blk _, c => c
  | .gone, _, _ => trivial
theorem Holds.flat {h h' : FH} {β : List RV} {w : World} : ∀ {r : Res} {v : RV}, resFlat r = true → Holds h β w r v → Holds h' β w r v
  | .blk _ _, .blk _, f, ⟨ys, e, a⟩ => ⟨ys, e, a.allL (fun _ _ f ⟨p, q⟩ => ⟨p.flat f, q⟩) f⟩
  | .row _ s _, .row _, f, c => c.elim .inl fun c => c.elim (fun c => .inr (.inl c)) fun ⟨g, cap, cur, e, q1, q2, q3, q4, q5⟩ => .inr (.inr ⟨g, cap, cur, e, q1, q2, q3, q4, q5.mono fun _ _ => Rd.flat s f⟩)
  | .obj _ s _, .blk _, f, ⟨ys, e, r⟩ => ⟨ys, e, r.flat s f⟩
  | .gone, _, _, _ => trivial
theorem Res.sh_live (n : Nat) (r : Res) : (r.sh n).live = r.live := by cases r <;> rfl

/-- A caller's resources and those that a call has made. -/
theorem OK.call {B : Base} {h0 : FH} {T : List Res} {h : FH} {β : List RV} {w : World} (ok : OK B h0 T h β w) {hb : FH} {T' : List Res} {h' : FH} {β' : List RV} {w' : World} (ok' : OK (Base.of w) hb T' h' β' w') {hn : FH} (le : h.le hn)
    (conv : ∀ (j : Nat) r v, T'[j]? = some r → Holds h' β' w' r v → Holds hn (β ++ β') w' (r.sh β.length) v)
    (hnw : ∀ b o v, hn b o = some v → w'.cell? ⟨b, o, none⟩ = some v) (hng : ∀ b o v, hn b o = some v → h b o = some v ∨ (w.heap.size ≤ b ∧ h' b o = some v)) :
    OK B h0 (T ++ T'.map (Res.sh β.length)) hn (β ++ β') w' := by
  have L := ok.len
  have L' := ok'.len
  have own' : ∀ (i : Nat) r v b, T'[i]? = some r → r.live = true → β'[i]? = some v → v.block = some b → w.heap.size ≤ b ∧ b < w'.heap.size ∧ ∀ o, h' b o = none := ok'.own
  have below' : Below w.heap.size w w' := Bw.bel ok'.below
  have dr' : w.drawn ≤ w'.drawn := ok'.dr
  have split : ∀ {i : Nat} {r : Res} {v : RV}, (T ++ T'.map (Res.sh β.length))[i]? = some r → (β ++ β')[i]? = some v →
      (T[i]? = some r ∧ β[i]? = some v) ∨ ∃ j r', i = β.length + j ∧ T'[j]? = some r' ∧ r = r'.sh β.length ∧ β'[j]? = some v := by
    intro i r v e e'
    by_cases hi : i < T.length
    · rw [List.getElem?_append_left hi] at e
      rw [List.getElem?_append_left (by omega)] at e'
      exact .inl ⟨e, e'⟩
    · rw [List.getElem?_append_right (by omega), List.getElem?_map] at e
      rw [List.getElem?_append_right (by omega)] at e'
      cases hj : T'[i - T.length]? with
      | none => rw [hj] at e; cases e
      | some r' => rw [hj] at e; cases e; exact .inr ⟨i - T.length, r', by omega, hj, rfl, by rw [show i - T.length = i - β.length by omega]; exact e'⟩
  have oldnone : ∀ {i : Nat} {r : Res} {v : RV} {b : Nat}, T[i]? = some r → r.live = true → β[i]? = some v → v.block = some b → ∀ o, hn b o = none := by
    intro i r v b e1 e2 e3 e4 o
    obtain ⟨a1, a2, a3⟩ := ok.own i r v b e1 e2 e3 e4
    cases hh : hn b o with
    | none => rfl
    | some u =>
      rcases hng b o u hh with h1 | h1
      · rw [a3 o] at h1; cases h1
      · omega
  have newnone : ∀ {i : Nat} {r : Res} {v : RV} {b : Nat}, T'[i]? = some r → r.live = true → β'[i]? = some v → v.block = some b → ∀ o, hn b o = none := by
    intro i r v b e1 e2 e3 e4 o
    obtain ⟨a1, a2, a3⟩ := own' i r v b e1 e2 e3 e4
    cases hh : hn b o with
    | none => rfl
    | some u =>
      rcases hng b o u hh with h1 | h1
      · have := World.block_lt_of_cell? _ _ (ok.hw b o u h1); simp at this; omega
      · rw [a3 o] at h1; cases h1.2
  exact {
    below := ok.below.below below'
    dr := Nat.le_trans ok.dr dr'
    len := by simp [L, L']
    holds := by
      intro i r v e e'
      rcases split e e' with ⟨f1, f2⟩ | ⟨j, r', hi, f1, hr, f2⟩
      · exact (ok.holds i r v f1 f2).move le (Ext.append _ _) fun hl b hb => below'.block b (ok.own i r v b f1 hl f2 hb).2.1
      · rw [hr]; exact conv j r' v f1 (ok'.holds j r' v f1 f2)
    own := by
      intro i r v b e hl e' hb'
      rcases split e e' with ⟨f1, f2⟩ | ⟨j, r', hi, f1, hr, f2⟩
      · obtain ⟨a1, a2, a3⟩ := ok.own i r v b f1 hl f2 hb'
        exact ⟨a1, Nat.lt_of_lt_of_le a2 below'.size, oldnone f1 hl f2 hb'⟩
      · rw [hr, Res.sh_live] at hl
        obtain ⟨a1, a2, a3⟩ := own' j r' v b f1 hl f2 hb'
        exact ⟨B.up _ (Nat.le_trans ok.below.size a1), a2, newnone f1 hl f2 hb'⟩
    inj := by
      intro i j r1 r2 u v b e1 l1 e2 l2 e3 e4 b1 b2
      rcases split e1 e3 with ⟨f1, f3⟩ | ⟨i', r1', hi, f1, hr1, f3⟩ <;> rcases split e2 e4 with ⟨f2, f4⟩ | ⟨j', r2', hj, f2, hr2, f4⟩
      · exact ok.inj i j r1 r2 u v b f1 l1 f2 l2 f3 f4 b1 b2
      · rw [hr2, Res.sh_live] at l2
        have a1 := ok.own i r1 u b f1 l1 f3 b1
        have a2 := own' j' r2' v b f2 l2 f4 b2
        omega
      · rw [hr1, Res.sh_live] at l1
        have a1 := ok.own j r2 v b f2 l2 f4 b2
        have a2 := own' i' r1' u b f1 l1 f3 b1
        omega
      · rw [hr1, Res.sh_live] at l1
        rw [hr2, Res.sh_live] at l2
        rw [hi, hj, ok'.inj i' j' r1' r2' u v b f1 l1 f2 l2 f3 f4 b1 b2]
    hle := ok.hle.trans le
    hw := hnw
    hg := by
      intro b o v hh
      rcases hng b o v hh with h1 | h1
      · exact ok.hg b o v h1
      · exact .inr (B.up _ (Nat.le_trans ok.below.size h1.1))
    kn := fun k o hk => by
      have h1 := ok.kn k o hk
      exact (below'.block k (Array.getElem?_eq_some_iff.1 h1).1).trans h1 }

/-- Where nothing happened. -/
theorem OK.addGone {B : Base} {h0 : FH} {h : FH} {w : World} : ∀ (m : Nat) {T : List Res} {β : List RV}, OK B h0 T h β w → OK B h0 (T ++ List.replicate m .gone) h (β ++ List.replicate m .no) w
  | 0, T, β, ok => by simpa using ok
  | m + 1, T, β, ok => by
    have := OK.addGone m (ok.add (r := .gone) (v := .no) (grown_refl w none) (fun b hb => by cases hb) trivial)
    simpa [List.replicate_succ] using this

@[reducible] def catT (G : Gd) (n : Nat) : List (Gd × Res) → List Res → List (Gd × Res)
  | T, [] => T
  | T, r :: l => catT G n (snoc T (G, r.sh n)) l

theorem catT_eq (G : Gd) (n : Nat) : ∀ (l : List Res) (T : List (Gd × Res)), catT G n T l = T ++ l.map fun r => (G, r.sh n)
  | [], T => by simp [catT]
  | r :: l, T => by simp [catT, catT_eq G n l, snoc_eq]

theorem eff_append (gl : List Bool) : ∀ (T U : List (Gd × Res)), eff gl (T ++ U) = eff gl T ++ eff gl U
  | [], _ => rfl
  | (g, r) :: l, U => by simp [eff, eff_append gl l U]

theorem eff_new_true {gl : List Bool} {G : Gd} {n : Nat} (hG : gv gl G = true) : ∀ (l : List Res), eff gl (l.map fun r => (G, r.sh n)) = l.map (Res.sh n)
  | [] => rfl
  | r :: l => by simp [eff, hG, cnd_eq, eff_new_true hG l]
theorem eff_new_false {gl : List Bool} {G : Gd} {n : Nat} (hG : gv gl G = false) : ∀ (l : List Res), eff gl (l.map fun r => (G, r.sh n)) = List.replicate l.length .gone
  | [] => rfl
  | r :: l => by simp [eff, hG, cnd_eq, eff_new_false hG l, List.replicate_succ]

/-! Arguments. -/

@[reducible] def borC (s : St) (G : Gd) (x : SC) : Option SC := match x with
  | .v u => some (.v u)
  | .sl sh l => some (.sl sh l)
  | .fp sh d => some (.fp sh d)
  | .row r => match nthL s.T r with
    | some (Gr, .row _ sh l) => match gsub Gr G with
      | true => some (.sl sh l)
      | false => none
    | _ => none
  | _ => none
@[reducible] def borL (s : St) (G : Gd) : List SC → Option (List SC)
  | [] => some []
  | x :: l => match borC s G x with
    | some y => match borL s G l with
      | some m => some (y :: m)
      | none => none
    | none => none
@[reducible] def borV (s : St) (G : Gd) (v : SV) : Option SV := match v with
  | .c x => match borC s G x with
    | some y => some (.c y)
    | none => none
  | .agg xs => match borL s G xs with
    | some ys => some (.agg ys)
    | none => none
  | .dat sh d => some (.dat sh d)
  | .und => none
@[reducible] def isRow : SC → Bool
  | .row _ => true
  | _ => false
@[reducible] def noRow : SV → Bool
  | .c x => !(isRow x)
  | .agg xs => allL (fun x => !(isRow x)) xs
  | _ => true

@[reducible] def argsV (cx : Cx) (s : St) (G : Gd) : List Operand → Option (List SV)
  | [] => some []
  | x :: l => match getE cx s G x with
    | some (.one v) => match argsV cx s G l with
      | some r => some (v :: r)
      | none => none
    | _ => none
@[reducible] def borA (s : St) (G : Gd) : List SV → Option (List SV)
  | [] => some []
  | x :: l => match borV s G x with
    | some v => match borA s G l with
      | some r => some (v :: r)
      | none => none
    | none => none

@[reducible] def orB : Bool → Bool → Bool
  | true, _ => true
  | false, b => b

@[reducible] def callK (cx : Cx) (ct : Nat → Option CT) (s : St) (G : Gd) (d : Option Nat) (f : Nat) (args : List Operand) (K : St → Prop) : Prop := match ct f with
  | none => False
  | some c => match argsV cx s G args with
    | none => False
    | some vs => match borA s G vs with
      | none => False
      | some bs => match datA c.ps bs with
        | none => False
        | some dd => match orB (allL noRow vs) (andB (entFlat (c.res dd).2) (allL resFlat (c.res dd).1)) with
          | true => side s.gl G (c.pre dd) ∧ K ({ s with T := catT G (lenL s.T) s.T (c.res dd).1 }.put d G ((c.res dd).2.sh (lenL s.T)))
          | false => False

section
variable {cx : Cx} {P : Program} {N : Nat} {B : Base} {h0 : FH} {s : St} {h : FH} {β : List RV} {w : World} {a : Act} {G : Gd} {o : Oper} {K : St → Prop}

theorem argsV_ok (sat : Sat N B h0 s h β w a) (hg : GlobOK cx.gd h) (hG : gv s.gl G = true) : ∀ {l : List Operand} {vs : List SV}, argsV cx s G l = some vs → All2 (CnV h β) vs (l.map a.eval)
  | [], vs, e => by simp [argsV] at e; subst e; trivial
  | x :: l, vs, e => by
    unfold argsV at e
    split at e
    · rename_i v hv
      split at e
      · rename_i r hr
        cases e
        exact ⟨getE_ok sat hg hG hv, argsV_ok sat hg hG hr⟩
      · cases e
    · cases e

/-- All cells of a world. -/
def FH.all (w : World) : FH := fun b o => w.cell? ⟨b, o, none⟩

theorem borC_ok (sat : Sat N B h0 s h β w a) (hG : gv s.gl G = true) {x y : SC} {v : Value} (e : borC s G x = some y) (c : CnC h β x v) :
    CnC (FH.all w) [] y v ∧ (isRow x = false → CnC h [] y v) := by
  have le : h.le (FH.all w) := sat.ok.hw
  unfold borC at e
  split at e
  · cases e; exact ⟨c, fun _ => c⟩
  · cases e; exact ⟨SlAt.mono le (fun _ _ => Rd.mono le _) c, fun _ => c⟩
  · cases e
    obtain ⟨b, o, cs, e, r, at_⟩ := c
    exact ⟨⟨b, o, cs, e, r.mono le _, at_.mono le⟩, fun _ => ⟨b, o, cs, e, r, at_⟩⟩
  · rename_i r
    split at e
    · rename_i Gr tt sh l hT
      split at e
      · rename_i hs
        cases e
        refine ⟨?_, fun hh => by cases hh⟩
        rcases sat.ok.holds r _ _ (effres hT (gsub_gv hs hG)) c with ⟨e1, e2⟩ | ⟨ra, e1, e2⟩ | ⟨g, cap, cur, e1, q1, q2, q3, q4, q5⟩
        · exact .inl ⟨e1, e2⟩
        · exact .inr (.inl ⟨ra, 0, e1, e2, Nat.zero_le _⟩)
        · refine .inr (.inr ⟨g, 0, cap, e1, q2, q3.2, _, q5.mono fun _ _ => Rd.mono le sh, fun j u hj => ?_⟩)
          show w.cell? ⟨g, 0 + j, none⟩ = some u
          rw [Nat.zero_add, cell_of_row w g j cur tt (0, 0) q1]
          rw [List.getElem?_take] at hj
          split at hj
          · simpa using hj
          · cases hj
      · cases e
    · cases e
  · cases e

theorem borL_ok (sat : Sat N B h0 s h β w a) (hG : gv s.gl G = true) : ∀ {xs ys : List SC} {vs : List Value}, borL s G xs = some ys → All2 (fun x y => CnC h β x y ∧ oneC y) xs vs →
    All2 (fun x y => CnC (FH.all w) [] x y ∧ oneC y) ys vs ∧ (allL (fun x => !(isRow x)) xs = true → All2 (fun x y => CnC h [] x y ∧ oneC y) ys vs)
  | [], ys, [], e, _ => by simp [borL] at e; subst e; exact ⟨trivial, fun _ => trivial⟩
  | x :: l, ys, v :: vs, e, ⟨c, r⟩ => by
    unfold borL at e
    split at e
    · rename_i y hy
      split at e
      · rename_i m hm
        cases e
        obtain ⟨h1, h2⟩ := borC_ok sat hG hy c.1
        obtain ⟨h3, h4⟩ := borL_ok sat hG hm r
        refine ⟨⟨⟨h1, c.2⟩, h3⟩, fun hh => ?_⟩
        simp only [allL, andB_eq, Bool.and_eq_true] at hh
        exact ⟨⟨h2 (by simpa using hh.1), c.2⟩, h4 hh.2⟩
      · cases e
    · cases e

theorem borV_ok (sat : Sat N B h0 s h β w a) (hG : gv s.gl G = true) {x y : SV} {v : Value} (e : borV s G x = some y) (c : CnV h β x v) :
    CnV (FH.all w) [] y v ∧ (noRow x = true → CnV h [] y v) := by
  have le : h.le (FH.all w) := sat.ok.hw
  unfold borV at e
  split at e
  · split at e
    · rename_i y hy
      cases e
      obtain ⟨h1, h2⟩ := borC_ok sat hG hy c.1
      exact ⟨⟨h1, c.2⟩, fun hh => ⟨h2 (by simpa [noRow] using hh), c.2⟩⟩
    · cases e
  · split at e
    · rename_i ys hy
      cases e
      obtain ⟨vs, e1, e2⟩ := c
      obtain ⟨h1, h2⟩ := borL_ok sat hG hy e2
      exact ⟨⟨vs, e1, h1⟩, fun hh => ⟨vs, e1, h2 hh⟩⟩
    · cases e
  · cases e
    obtain ⟨g, cs, e1, r⟩ := c
    exact ⟨⟨g, cs, e1, r.mono le _⟩, fun _ => ⟨g, cs, e1, r⟩⟩
  · cases e

theorem borA_ok (sat : Sat N B h0 s h β w a) (hG : gv s.gl G = true) : ∀ {xs ys : List SV} {vs : List Value}, borA s G xs = some ys → All2 (CnV h β) xs vs →
    All2 (CnV (FH.all w) []) ys vs ∧ (allL noRow xs = true → All2 (CnV h []) ys vs)
  | [], ys, [], e, _ => by simp [borA] at e; subst e; exact ⟨trivial, fun _ => trivial⟩
  | x :: l, ys, v :: vs, e, ⟨c, r⟩ => by
    unfold borA at e
    split at e
    · rename_i y hy
      split at e
      · rename_i m hm
        cases e
        obtain ⟨h1, h2⟩ := borV_ok sat hG hy c
        obtain ⟨h3, h4⟩ := borA_ok sat hG hm r
        refine ⟨⟨h1, h3⟩, fun hh => ?_⟩
        simp only [allL, andB_eq, Bool.and_eq_true] at hh
        exact ⟨h2 hh.1, h4 hh.2⟩
      · cases e
    · cases e

theorem call_stepX {ct : Nat → Option CT} {suf : List Value} (hct : ∀ f c, ct f = some c → CTX P cx.gd f suf c) (sat : Sat N B h0 s h β w a) (hg : GlobOK cx.gd h) (hG : gbd s.gl.length G = true) (hd : dOK N o.dst = true) {c : Call} {f : FuncId} (ho : o.op = .call c)
    {x : Operand} {xs : List Operand} (hcal : c.callee = .value x) (hx : gv s.gl G = true → a.eval x = .func (.func f) #[] #[]) (hxs : c.args.map a.eval = (xs.map a.eval ++ suf).toArray)
    (hf : ∃ fn, P.funcs[f]? = some fn ∧ fn.body.isSome = true ∧ (fn.name == "runtime.NumGoroutine") = false)
    (k : callK cx ct s G o.dst f xs K) : OpOK P N B h0 h w a o (gv s.gl G) K := by
  unfold callK at k
  split at k
  · exact k.elim
  rename_i cc hcc
  split at k
  · exact k.elim
  rename_i vs hvs
  split at k
  · exact k.elim
  rename_i bs hbs
  split at k
  · exact k.elim
  rename_i dd hdd
  split at k
  · rename_i hflat
    obtain ⟨T', hT'⟩ : ∃ T', T' = (cc.res dd).1 := ⟨_, rfl⟩
    obtain ⟨e, he0⟩ : ∃ e, e = (cc.res dd).2 := ⟨_, rfl⟩
    rw [← hT', ← he0] at k hflat
    have gT : ∀ p ∈ catT G (lenL s.T) s.T T', gbd s.gl.length p.1 = true := by
      intro p hp
      rw [catT_eq, List.mem_append] at hp
      rcases hp with hp | hp
      · exact sat.gT p hp
      · simp only [List.mem_map] at hp
        obtain ⟨r, _, rfl⟩ := hp
        exact hG
    have hlen := sat_len sat
    intro Nx Q next
    cases hgv : gv s.gl G with
    | false =>
      rw [if_neg (by simp)]
      refine next _ h (β ++ List.replicate T'.length .no) _ _ k.2 (FH.le.refl h) (fun _ => Gro.refl w) ?_
      have ok : OK B h0 (eff s.gl (catT G (lenL s.T) s.T T')) h (β ++ List.replicate T'.length .no) w := by
        rw [catT_eq, eff_append, eff_new_false hgv]
        exact sat.ok.addGone _
      exact (sat.mem ok (FH.le.refl h) (Ext.append _ _) gT).put (dOK_lt hd) hG (fun hh => by simp only at hh; rw [hgv] at hh; cases hh) fun _ => rfl
    | true =>
      rw [if_pos rfl]
      obtain ⟨fn, hfn, hbody, hname⟩ := hf
      have hav := argsV_ok sat hg hgv hvs
      have hpre := side_ok k.1 hgv
      have exec : (execOp a.eval o).run P w = .ok (.enter f (c.args.map a.eval)) w := by
        simp only [execOp, ho, resolve, hcal, hx hgv, Deferred.ofValue, invoke, Sem.run_bind, Sem.run_pure, Result.andThen_ok, callFunc, run_program, Array.empty_append, Array.append_empty, hfn, hname]
        simp [hbody]
        cases hb : fn.body with
        | none => rw [hb] at hbody; cases hbody
        | some _ => simp
      have hargs := hxs
      unfold Oper.wp
      rw [exec]
      simp only [Oper.upon]
      rw [hargs]
      obtain ⟨b1, b2⟩ := borA_ok sat hgv hbs hav
      have fin : ∀ {hb : FH} {h' : FH} {β' : List RV} {w' : World} {y : Value} {hn : FH}, OK (Base.of w) hb T' h' β' w' → h.le hn →
          (∀ (j : Nat) r v, T'[j]? = some r → Holds h' β' w' r v → Holds hn (β ++ β') w' (r.sh β.length) v) → (∀ b o v, hn b o = some v → w'.cell? ⟨b, o, none⟩ = some v) →
          (∀ b o v, hn b o = some v → h b o = some v ∨ (w.heap.size ≤ b ∧ h' b o = some v)) → CnE hn (β ++ β') (e.sh β.length) y → Nx (a.put o.dst y) w' := by
        intro hb h' β' w' y hn ok' le conv hnw hng he
        have ok := sat.ok.call ok' le conv hnw hng
        refine next _ hn (β ++ β') _ _ k.2 le (fun _ => Gro.of_below (Bw.bel ok'.below)) ?_
        have okT : OK B h0 (eff s.gl (catT G (lenL s.T) s.T T')) hn (β ++ β') w' := by
          rw [catT_eq, eff_append, eff_new_true hgv, ← hlen]; exact ok
        rw [hlen] at he
        exact (sat.mem okT le (Ext.append _ _) gT).put (dOK_lt hd) hG (fun _ => he) fun hh => by simp only at hh; rw [hgv] at hh; cases hh
      have keep : ∀ {hb h' : FH} {β' : List RV} {w' : World}, OK (Base.of w) hb T' h' β' w' → ∀ b o v, h b o = some v → w'.cell? ⟨b, o, none⟩ = some v := by
        intro hb h' β' w' ok' b o v hh
        have h1 := sat.ok.hw b o v hh
        have h2 := World.block_lt_of_cell? _ _ h1
        rw [(Bw.bel ok'.below).cell (p := ⟨b, o, none⟩) h2]; exact h1
      cases hnr : allL noRow vs with
      | true =>
        refine (hct f cc hcc dd _ h w sat.ok.hw hg (datA_ok hdd (b2 hnr)) hpre).mono ?_
        rintro en w' ⟨h', β', y, rfl, ok', he⟩
        rw [← hT'] at ok'
        rw [← he0] at he
        refine fin ok' ok'.hle (fun j r v _ hh => hh.shift) ok'.hw (fun b o v hh => ?_) he.shift
        rcases ok'.hg b o v hh with h1 | h1
        · exact .inl h1
        · exact .inr ⟨h1, hh⟩
      | false =>
        rw [hnr] at hflat
        simp only [orB, andB_eq, Bool.and_eq_true] at hflat
        refine (hct f cc hcc dd _ (FH.all w) w (fun _ _ _ hh => hh) (hg.mono sat.ok.hw) (datA_ok hdd b1) hpre).mono ?_
        rintro en w' ⟨h', β', y, rfl, ok', he⟩
        rw [← hT'] at ok'
        rw [← he0] at he
        refine fin ok' (FH.le.refl h) (fun j r v hj hh => (hh.flat ?_).shift) (keep ok') (fun b o v hh => .inl hh) (he.flat hflat.1).shift
        have : ∀ {l : List Res} {j : Nat} {r : Res}, allL resFlat l = true → l[j]? = some r → resFlat r = true := by
          intro l
          induction l with
          | nil => intro j r _ e; simp at e
          | cons x l ih =>
            intro j r hh e
            simp only [allL, andB_eq, Bool.and_eq_true] at hh
            cases j with
            | zero => simp at e; subst e; exact hh.1
            | succ j => exact ih hh.2 (by simpa using e)
        exact this hflat.2 hj
  · exact k.elim

theorem call_step {ct : Nat → Option CT} (hct : ∀ f c, ct f = some c → CTOK P cx.gd f c) (sat : Sat N B h0 s h β w a) (hg : GlobOK cx.gd h) (hG : gbd s.gl.length G = true) (hd : dOK N o.dst = true) {c : Call} {f : FuncId} (ho : o.op = .call c) (hcal : c.callee = .value (.func f))
    (hf : ∃ fn, P.funcs[f]? = some fn ∧ fn.body.isSome = true ∧ (fn.name == "runtime.NumGoroutine") = false)
    (k : callK cx ct s G o.dst f (tl c.args) K) : OpOK P N B h0 h w a o (gv s.gl G) K :=
  call_stepX (suf := []) (fun f c e => (hct f c e).x) sat hg hG hd ho hcal (fun _ => rfl) (by cases c.args; simp) hf k
end
end Go.Eng
