/- Texts of this claim, part 2: EngN, EngW, EngS, EngR, EngT, EngBr, EngO, EngRg, EngP. Conditions: those of the given rows. -/
import Derived.Test.YtklnffdjhoacoaaGreatDoorB1
import Derived.Still
import Derived.LoopNIn
import Derived.Deep.LoopGhost
set_option linter.unusedSimpArgs false
set_option linter.unusedVariables false
namespace Go.Eng
open Go Go.RowKit

@[reducible] def ofDats : (ss : List Sh) → dens ss → List SV
  | [], _ => []
  | s :: l, d => ofDat s d.1 :: ofDats l d.2
@[reducible] def datA : (ss : List Sh) → List SV → Option (dens ss)
  | [], vs => match vs with
    | [] => some ()
    | _ => none
  | s :: l, vs => match vs with
    | v :: r => match toDat s v with
      | some d => match datA l r with
        | some e => some (d, e)
        | none => none
      | none => none
    | _ => none

theorem datA_ok {h : FH} {β : List RV} : ∀ {ss : List Sh} {vs : List SV} {ys : List Value} {d : dens ss}, datA ss vs = some d → All2 (CnV h β) vs ys → All2 (CnV h β) (ofDats ss d) ys
  | [], vs, ys, d, e, a => by
    unfold datA at e
    split at e
    · cases ys with
      | nil => trivial
      | cons _ _ => exact a.elim
    · cases e
  | s :: l, vs, ys, d, e, a => by
    unfold datA at e
    split at e
    · rename_i v r
      cases ys with
      | nil => exact a.elim
      | cons y ys =>
        split at e
        · rename_i d1 hd
          split at e
          · rename_i d2 hr
            cases e
            obtain ⟨cs, e1, rd⟩ := toDat_ok hd a.1
            rw [e1]
            exact ⟨ofDat_ok s rd, datA_ok hr a.2⟩
          · cases e
        · cases e
    · cases e

/-- A contract: what goes in, what must hold, what comes back. -/
structure CT where
  ps : List Sh
  pre : dens ps → Prop
  res : dens ps → List Res × Ent

def CTOK (P : Program) (gd : Nat → Option (Sigma Sh.den)) (f : FuncId) (ct : CT) : Prop :=
  ∀ (d : dens ct.ps) (vs : List Value) (h : FH) (B : World), (∀ b o v, h b o = some v → B.cell? ⟨b, o, none⟩ = some v) → GlobOK gd h → All2 (CnV h []) (ofDats ct.ps d) vs → ct.pre d →
    Calls P f vs.toArray B (fun en w' => ∃ h' β y, en = .returned y ∧ OK (Base.of B) h (ct.res d).1 h' β w' ∧ CnE h' β (ct.res d).2 y)

/-- The same where functions that are no variables stand behind the data. -/
def CTX (P : Program) (gd : Nat → Option (Sigma Sh.den)) (f : FuncId) (suf : List Value) (ct : CT) : Prop :=
  ∀ (d : dens ct.ps) (vs : List Value) (h : FH) (B : World), (∀ b o v, h b o = some v → B.cell? ⟨b, o, none⟩ = some v) → GlobOK gd h → All2 (CnV h []) (ofDats ct.ps d) vs → ct.pre d →
    Calls P f (vs ++ suf).toArray B (fun en w' => ∃ h' β y, en = .returned y ∧ OK (Base.of B) h (ct.res d).1 h' β w' ∧ CnE h' β (ct.res d).2 y)
theorem CTOK.x {P : Program} {gd : Nat → Option (Sigma Sh.den)} {f : FuncId} {ct : CT} (h : CTOK P gd f ct) : CTX P gd f [] ct := by
  intro d vs h' B; simpa using h d vs h' B
theorem CTX.ok {P : Program} {gd : Nat → Option (Sigma Sh.den)} {f : FuncId} {ct : CT} (h : CTX P gd f [] ct) : CTOK P gd f ct := by
  intro d vs h' B; simpa using h d vs h' B

@[reducible] def SC.sh (n : Nat) : SC → SC
  | .own i off => .own (n + i) off
  | .row i => .row (n + i)
  | .rowp i j sz off => .rowp (n + i) j sz off
  | x => x
@[reducible] def SV.sh (n : Nat) : SV → SV
  | .c x => .c (x.sh n)
  | .agg xs => .agg (mapL (SC.sh n) xs)
  | v => v
@[reducible] def Ent.sh (n : Nat) : Ent → Ent
  | .one v => .one (v.sh n)
  | .tup vs => .tup (mapL (SV.sh n) vs)
@[reducible] def Res.sh (n : Nat) : Res → Res
  | .blk t cs => .blk t (mapL (SC.sh n) cs)
  | r => r

@[reducible] def shFlat : Sh → Bool
  | .int _ => true
  | .bool => true
  | .str => true
  | .unit => true
  | .pair a b => andB (shFlat a) (shFlat b)
  | .arr _ s => shFlat s
  | _ => false
@[reducible] def scFlat : SC → Bool
  | .v _ => true
  | .own _ _ => true
  | .row _ => true
  | _ => false
@[reducible] def allL {α : Type} (p : α → Bool) : List α → Bool
  | [] => true
  | x :: l => andB (p x) (allL p l)
@[reducible] def svFlat : SV → Bool
  | .c x => scFlat x
  | .agg xs => allL scFlat xs
  | .dat s _ => shFlat s
  | .und => true
@[reducible] def entFlat : Ent → Bool
  | .one v => svFlat v
  | .tup vs => allL svFlat vs
@[reducible] def resFlat : Res → Bool
  | .blk _ cs => allL scFlat cs
  | .row _ s _ => shFlat s
  | .obj _ s _ => shFlat s
  | .gone => true

theorem Rd.flat {h h' : FH} : ∀ (s : Sh) {cs : List Value} {d : s.den}, shFlat s = true → Rd h s cs d → Rd h' s cs d
  | .int _, _, _, _, r => r
  | .bool, _, _, _, r => r
  | .str, _, _, _, r => r
  | .unit, _, _, _, r => r
  | .any, _, _, f, _ => by simp [shFlat] at f
  | .sl _, _, _, f, _ => by simp [shFlat] at f
  | .pair a b, _, (_, _), f, ⟨c1, c2, e, r1, r2⟩ => by
    simp only [shFlat, andB_eq, Bool.and_eq_true] at f
    exact ⟨c1, c2, e, r1.flat a f.1, r2.flat b f.2⟩
  | .arr _ s, _, _, f, ⟨e, r⟩ => ⟨e, r.mono fun _ _ => Rd.flat s f⟩

theorem last_shift {β β' : List RV} {i : Nat} {v : RV} (e : β'[i]? = some v) : (β ++ β')[β.length + i]? = some v := by
  rw [List.getElem?_append_right (by omega)]; simpa using e

theorem CnC.shift {h : FH} {β β' : List RV} : ∀ {x : SC} {y : Value}, CnC h β' x y → CnC h (β ++ β') (x.sh β.length) y
  | .v _, _, c => c
  | .sl _ _, _, c => c
  | .fp _ _, _, c => c
  | .own _ _, _, ⟨b, e, e'⟩ => ⟨b, last_shift e, e'⟩
  | .row _, _, e => last_shift e
  | .rowp _ _ _ _, _, ⟨v, g, e, e'⟩ => ⟨v, g, last_shift e, e'⟩
  | .abs _, _, c => c
  | .junk, _, _ => trivial
theorem CnC.flat {h h' : FH} {β : List RV} : ∀ {x : SC} {y : Value}, scFlat x = true → CnC h β x y → CnC h' β x y
  | .v _, _, _, c => c
  | .own _ _, _, _, c => c
  | .row _, _, _, c => c
  | .sl _ _, _, f, _ => by simp [scFlat] at f
  | .fp _ _, _, f, _ => by simp [scFlat] at f
  | .rowp _ _ _ _, _, f, _ => by simp [scFlat] at f
  | .abs _, _, f, _ => by simp [scFlat] at f
  | .junk, _, f, _ => by simp [scFlat] at f

theorem All2.mapL {α β : Type} {R R' : α → β → Prop} {f : α → α} (hR : ∀ a b, R a b → R' (f a) b) : ∀ {l : List α} {m : List β}, All2 R l m → All2 R' (mapL f l) m
  | [], [], _ => trivial
  | _ :: _, _ :: _, ⟨a, b⟩ => ⟨hR _ _ a, All2.mapL hR b⟩
theorem All2.allL {α β : Type} {R R' : α → β → Prop} {p : α → Bool} (hR : ∀ a b, p a = true → R a b → R' a b) : ∀ {l : List α} {m : List β}, allL p l = true → All2 R l m → All2 R' l m
  | [], [], _, _ => trivial
  | _ :: _, _ :: _, f, ⟨a, b⟩ => by
    simp only [Eng.allL, andB_eq, Bool.and_eq_true] at f
    exact ⟨hR _ _ f.1 a, All2.allL hR f.2 b⟩

theorem CnV.shift {h : FH} {β β' : List RV} : ∀ {x : SV} {y : Value}, CnV h β' x y → CnV h (β ++ β') (x.sh β.length) y
  | .c _, _, c => ⟨c.1.shift, c.2⟩
  | .agg _, _, ⟨ys, e, a⟩ => ⟨ys, e, a.mapL fun _ _ ⟨p, q⟩ => ⟨p.shift, q⟩⟩
  | .dat _ _, _, c => c
  | .und, _, c => c
theorem CnV.flat {h h' : FH} {β : List RV} : ∀ {x : SV} {y : Value}, svFlat x = true → CnV h β x y → CnV h' β x y
  | .c _, _, f, c => ⟨c.1.flat f, c.2⟩
  | .agg _, _, f, ⟨ys, e, a⟩ => ⟨ys, e, a.allL (fun _ _ f ⟨p, q⟩ => ⟨p.flat f, q⟩) f⟩
  | .dat s _, _, f, ⟨g, cs, e, r⟩ => ⟨g, cs, e, r.flat s f⟩
  | .und, _, _, c => c
theorem CnE.shift {h : FH} {β β' : List RV} : ∀ {x : Ent} {y : Value}, CnE h β' x y → CnE h (β ++ β') (x.sh β.length) y
  | .one _, _, c => CnV.shift c
  | .tup _, _, ⟨ys, e, a⟩ => ⟨ys, e, a.mapL (f := SV.sh β.length) fun _ _ c => CnV.shift c⟩
theorem CnE.flat {h h' : FH} {β : List RV} : ∀ {x : Ent} {y : Value}, entFlat x = true → CnE h β x y → CnE h' β x y
  | .one _, _, f, c => CnV.flat f c
  | .tup _, _, f, ⟨ys, e, a⟩ => ⟨ys, e, a.allL (fun _ _ => CnV.flat) f⟩
theorem Holds.shift {h : FH} {β β' : List RV} {w : World} : ∀ {r : Res} {v : RV}, Holds h β' w r v → Holds h (β ++ β') w (r.sh β.length) v
  | .blk _ _, .blk _, ⟨ys, e, a⟩ => ⟨ys, e, a.mapL fun _ _ ⟨p, q⟩ => ⟨p.shift, q⟩⟩
  | .row _ _ _, .row _, c => c
  | .obj _ _ _, .blk _, c => c
  | .gone, _, _ => trivial
theorem Holds.flat {h h' : FH} {β : List RV} {w : World} : ∀ {r : Res} {v : RV}, resFlat r = true → Holds h β w r v → Holds h' β w r v
  | .blk _ _, .blk _, f, ⟨ys, e, a⟩ => ⟨ys, e, a.allL (fun _ _ f ⟨p, q⟩ => ⟨p.flat f, q⟩) f⟩
  | .row _ s _, .row _, f, c => c.elim .inl fun c => c.elim (fun c => .inr (.inl c)) fun ⟨g, cap, cur, e, q1, q2, q3, q4, q5⟩ => .inr (.inr ⟨g, cap, cur, e, q1, q2, q3, q4, q5.mono fun _ _ => Rd.flat s f⟩)
  | .obj _ s _, .blk _, f, ⟨ys, e, r⟩ => ⟨ys, e, r.flat s f⟩
  | .gone, _, _, _ => trivial
theorem Res.sh_live (n : Nat) (r : Res) : (r.sh n).live = r.live := by cases r <;> rfl

/-- A caller's resources and those that a call has made. -/
theorem OK.call {B : Base} {h0 : FH} {T : List Res} {h : FH} {β : List RV} {w : World} (ok : OK B h0 T h β w) {hb : FH} {T' : List Res} {h' : FH} {β' : List RV} {w' : World} (ok' : OK (Base.of w) hb T' h' β' w') {hn : FH} (le : h.le hn)
    (conv : ∀ (j : Nat) r v, T'[j]? = some r → Holds h' β' w' r v → Holds hn (β ++ β') w' (r.sh β.length) v)
    (hnw : ∀ b o v, hn b o = some v → w'.cell? ⟨b, o, none⟩ = some v) (hng : ∀ b o v, hn b o = some v → h b o = some v ∨ (w.heap.size ≤ b ∧ h' b o = some v)) :
    OK B h0 (T ++ T'.map (Res.sh β.length)) hn (β ++ β') w' := by
  have L := ok.len
  have L' := ok'.len
  have own' : ∀ (i : Nat) r v b, T'[i]? = some r → r.live = true → β'[i]? = some v → v.block = some b → w.heap.size ≤ b ∧ b < w'.heap.size ∧ ∀ o, h' b o = none := ok'.own
  have below' : Below w.heap.size w w' := Bw.bel ok'.below
  have dr' : w.drawn ≤ w'.drawn := ok'.dr
  have split : ∀ {i : Nat} {r : Res} {v : RV}, (T ++ T'.map (Res.sh β.length))[i]? = some r → (β ++ β')[i]? = some v →
      (T[i]? = some r ∧ β[i]? = some v) ∨ ∃ j r', i = β.length + j ∧ T'[j]? = some r' ∧ r = r'.sh β.length ∧ β'[j]? = some v := by
    intro i r v e e'
    by_cases hi : i < T.length
    · rw [List.getElem?_append_left hi] at e
      rw [List.getElem?_append_left (by omega)] at e'
      exact .inl ⟨e, e'⟩
    · rw [List.getElem?_append_right (by omega), List.getElem?_map] at e
      rw [List.getElem?_append_right (by omega)] at e'
      cases hj : T'[i - T.length]? with
      | none => rw [hj] at e; cases e
      | some r' => rw [hj] at e; cases e; exact .inr ⟨i - T.length, r', by omega, hj, rfl, by rw [show i - T.length = i - β.length by omega]; exact e'⟩
  have oldnone : ∀ {i : Nat} {r : Res} {v : RV} {b : Nat}, T[i]? = some r → r.live = true → β[i]? = some v → v.block = some b → ∀ o, hn b o = none := by
    intro i r v b e1 e2 e3 e4 o
    obtain ⟨a1, a2, a3⟩ := ok.own i r v b e1 e2 e3 e4
    cases hh : hn b o with
    | none => rfl
    | some u =>
      rcases hng b o u hh with h1 | h1
      · rw [a3 o] at h1; cases h1
      · omega
  have newnone : ∀ {i : Nat} {r : Res} {v : RV} {b : Nat}, T'[i]? = some r → r.live = true → β'[i]? = some v → v.block = some b → ∀ o, hn b o = none := by
    intro i r v b e1 e2 e3 e4 o
    obtain ⟨a1, a2, a3⟩ := own' i r v b e1 e2 e3 e4
    cases hh : hn b o with
    | none => rfl
    | some u =>
      rcases hng b o u hh with h1 | h1
      · have := World.block_lt_of_cell? _ _ (ok.hw b o u h1); simp at this; omega
      · rw [a3 o] at h1; cases h1.2
  exact {
    below := ok.below.below below'
    dr := Nat.le_trans ok.dr dr'
    len := by simp [L, L']
    holds := by
      intro i r v e e'
      rcases split e e' with ⟨f1, f2⟩ | ⟨j, r', hi, f1, hr, f2⟩
      · exact (ok.holds i r v f1 f2).move le (Ext.append _ _) fun hl b hb => below'.block b (ok.own i r v b f1 hl f2 hb).2.1
      · rw [hr]; exact conv j r' v f1 (ok'.holds j r' v f1 f2)
    own := by
      intro i r v b e hl e' hb'
      rcases split e e' with ⟨f1, f2⟩ | ⟨j, r', hi, f1, hr, f2⟩
      · obtain ⟨a1, a2, a3⟩ := ok.own i r v b f1 hl f2 hb'
        exact ⟨a1, Nat.lt_of_lt_of_le a2 below'.size, oldnone f1 hl f2 hb'⟩
      · rw [hr, Res.sh_live] at hl
        obtain ⟨a1, a2, a3⟩ := own' j r' v b f1 hl f2 hb'
        exact ⟨B.up _ (Nat.le_trans ok.below.size a1), a2, newnone f1 hl f2 hb'⟩
    inj := by
      intro i j r1 r2 u v b e1 l1 e2 l2 e3 e4 b1 b2
      rcases split e1 e3 with ⟨f1, f3⟩ | ⟨i', r1', hi, f1, hr1, f3⟩ <;> rcases split e2 e4 with ⟨f2, f4⟩ | ⟨j', r2', hj, f2, hr2, f4⟩
      · exact ok.inj i j r1 r2 u v b f1 l1 f2 l2 f3 f4 b1 b2
      · rw [hr2, Res.sh_live] at l2
        have a1 := ok.own i r1 u b f1 l1 f3 b1
        have a2 := own' j' r2' v b f2 l2 f4 b2
        omega
      · rw [hr1, Res.sh_live] at l1
        have a1 := ok.own j r2 v b f2 l2 f4 b2
        have a2 := own' i' r1' u b f1 l1 f3 b1
        omega
      · rw [hr1, Res.sh_live] at l1
        rw [hr2, Res.sh_live] at l2
        rw [hi, hj, ok'.inj i' j' r1' r2' u v b f1 l1 f2 l2 f3 f4 b1 b2]
    hle := ok.hle.trans le
    hw := hnw
    hg := by
      intro b o v hh
      rcases hng b o v hh with h1 | h1
      · exact ok.hg b o v h1
      · exact .inr (B.up _ (Nat.le_trans ok.below.size h1.1))
    kn := fun k o hk => by
      have h1 := ok.kn k o hk
      exact (below'.block k (Array.getElem?_eq_some_iff.1 h1).1).trans h1 }

/-- Where nothing happened. -/
theorem OK.addGone {B : Base} {h0 : FH} {h : FH} {w : World} : ∀ (m : Nat) {T : List Res} {β : List RV}, OK B h0 T h β w → OK B h0 (T ++ List.replicate m .gone) h (β ++ List.replicate m .no) w
  | 0, T, β, ok => by simpa using ok
  | m + 1, T, β, ok => by
    have := OK.addGone m (ok.add (r := .gone) (v := .no) (grown_refl w none) (fun b hb => by cases hb) trivial)
    simpa [List.replicate_succ] using this

@[reducible] def catT (G : Gd) (n : Nat) : List (Gd × Res) → List Res → List (Gd × Res)
  | T, [] => T
  | T, r :: l => catT G n (snoc T (G, r.sh n)) l

theorem catT_eq (G : Gd) (n : Nat) : ∀ (l : List Res) (T : List (Gd × Res)), catT G n T l = T ++ l.map fun r => (G, r.sh n)
  | [], T => by simp [catT]
  | r :: l, T => by simp [catT, catT_eq G n l, snoc_eq]

theorem eff_append (gl : List Bool) : ∀ (T U : List (Gd × Res)), eff gl (T ++ U) = eff gl T ++ eff gl U
  | [], _ => rfl
  | (g, r) :: l, U => by simp [eff, eff_append gl l U]

theorem eff_new_true {gl : List Bool} {G : Gd} {n : Nat} (hG : gv gl G = true) : ∀ (l : List Res), eff gl (l.map fun r => (G, r.sh n)) = l.map (Res.sh n)
  | [] => rfl
  | r :: l => by simp [eff, hG, cnd_eq, eff_new_true hG l]
theorem eff_new_false {gl : List Bool} {G : Gd} {n : Nat} (hG : gv gl G = false) : ∀ (l : List Res), eff gl (l.map fun r => (G, r.sh n)) = List.replicate l.length .gone
  | [] => rfl
  | r :: l => by simp [eff, hG, cnd_eq, eff_new_false hG l, List.replicate_succ]

/-! Arguments. -/

@[reducible] def borC (s : St) (G : Gd) (x : SC) : Option SC := match x with
  | .v u => some (.v u)
  | .sl sh l => some (.sl sh l)
  | .fp sh d => some (.fp sh d)
  | .row r => match nthL s.T r with
    | some (Gr, .row _ sh l) => match gsub Gr G with
      | true => some (.sl sh l)
      | false => none
    | _ => none
  | _ => none
@[reducible] def borL (s : St) (G : Gd) : List SC → Option (List SC)
  | [] => some []
  | x :: l => match borC s G x with
    | some y => match borL s G l with
      | some m => some (y :: m)
      | none => none
    | none => none
@[reducible] def borV (s : St) (G : Gd) (v : SV) : Option SV := match v with
  | .c x => match borC s G x with
    | some y => some (.c y)
    | none => none
  | .agg xs => match borL s G xs with
    | some ys => some (.agg ys)
    | none => none
  | .dat sh d => some (.dat sh d)
  | .und => none
@[reducible] def isRow : SC → Bool
  | .row _ => true
  | _ => false
@[reducible] def noRow : SV → Bool
  | .c x => !(isRow x)
  | .agg xs => allL (fun x => !(isRow x)) xs
  | _ => true

@[reducible] def argsV (cx : Cx) (s : St) (G : Gd) : List Operand → Option (List SV)
  | [] => some []
  | x :: l => match getE cx s G x with
    | some (.one v) => match argsV cx s G l with
      | some r => some (v :: r)
      | none => none
    | _ => none
@[reducible] def borA (s : St) (G : Gd) : List SV → Option (List SV)
  | [] => some []
  | x :: l => match borV s G x with
    | some v => match borA s G l with
      | some r => some (v :: r)
      | none => none
    | none => none

@[reducible] def orB : Bool → Bool → Bool
  | true, _ => true
  | false, b => b

@[reducible] def callK (cx : Cx) (ct : Nat → Option CT) (s : St) (G : Gd) (d : Option Nat) (f : Nat) (args : List Operand) (K : St → Prop) : Prop := match ct f with
  | none => False
  | some c => match argsV cx s G args with
    | none => False
    | some vs => match borA s G vs with
      | none => False
      | some bs => match datA c.ps bs with
        | none => False
        | some dd => match orB (allL noRow vs) (andB (entFlat (c.res dd).2) (allL resFlat (c.res dd).1)) with
          | true => side s.gl G (c.pre dd) ∧ K ({ s with T := catT G (lenL s.T) s.T (c.res dd).1 }.put d G ((c.res dd).2.sh (lenL s.T)))
          | false => False

section
variable {cx : Cx} {P : Program} {N : Nat} {B : Base} {h0 : FH} {s : St} {h : FH} {β : List RV} {w : World} {a : Act} {G : Gd} {o : Oper} {K : St → Prop}

theorem argsV_ok (sat : Sat N B h0 s h β w a) (hg : GlobOK cx.gd h) (hG : gv s.gl G = true) : ∀ {l : List Operand} {vs : List SV}, argsV cx s G l = some vs → All2 (CnV h β) vs (l.map a.eval)
  | [], vs, e => by simp [argsV] at e; subst e; trivial
  | x :: l, vs, e => by
    unfold argsV at e
    split at e
    · rename_i v hv
      split at e
      · rename_i r hr
        cases e
        exact ⟨getE_ok sat hg hG hv, argsV_ok sat hg hG hr⟩
      · cases e
    · cases e

/-- All cells of a world. -/
def FH.all (w : World) : FH := fun b o => w.cell? ⟨b, o, none⟩

theorem borC_ok (sat : Sat N B h0 s h β w a) (hG : gv s.gl G = true) {x y : SC} {v : Value} (e : borC s G x = some y) (c : CnC h β x v) :
    CnC (FH.all w) [] y v ∧ (isRow x = false → CnC h [] y v) := by
  have le : h.le (FH.all w) := sat.ok.hw
  unfold borC at e
  split at e
  · cases e; exact ⟨c, fun _ => c⟩
  · cases e; exact ⟨SlAt.mono le (fun _ _ => Rd.mono le _) c, fun _ => c⟩
  · cases e
    obtain ⟨b, o, cs, e, r, at_⟩ := c
    exact ⟨⟨b, o, cs, e, r.mono le _, at_.mono le⟩, fun _ => ⟨b, o, cs, e, r, at_⟩⟩
  · rename_i r
    split at e
    · rename_i Gr tt sh l hT
      split at e
      · rename_i hs
        cases e
        refine ⟨?_, fun hh => by cases hh⟩
        rcases sat.ok.holds r _ _ (effres hT (gsub_gv hs hG)) c with ⟨e1, e2⟩ | ⟨ra, e1, e2⟩ | ⟨g, cap, cur, e1, q1, q2, q3, q4, q5⟩
        · exact .inl ⟨e1, e2⟩
        · exact .inr (.inl ⟨ra, 0, e1, e2, Nat.zero_le _⟩)
        · refine .inr (.inr ⟨g, 0, cap, e1, q2, q3.2, _, q5.mono fun _ _ => Rd.mono le sh, fun j u hj => ?_⟩)
          show w.cell? ⟨g, 0 + j, none⟩ = some u
          rw [Nat.zero_add, cell_of_row w g j cur tt (0, 0) q1]
          rw [List.getElem?_take] at hj
          split at hj
          · simpa using hj
          · cases hj
      · cases e
    · cases e
  · cases e

theorem borL_ok (sat : Sat N B h0 s h β w a) (hG : gv s.gl G = true) : ∀ {xs ys : List SC} {vs : List Value}, borL s G xs = some ys → All2 (fun x y => CnC h β x y ∧ oneC y) xs vs →
    All2 (fun x y => CnC (FH.all w) [] x y ∧ oneC y) ys vs ∧ (allL (fun x => !(isRow x)) xs = true → All2 (fun x y => CnC h [] x y ∧ oneC y) ys vs)
  | [], ys, [], e, _ => by simp [borL] at e; subst e; exact ⟨trivial, fun _ => trivial⟩
  | x :: l, ys, v :: vs, e, ⟨c, r⟩ => by
    unfold borL at e
    split at e
    · rename_i y hy
      split at e
      · rename_i m hm
        cases e
        obtain ⟨h1, h2⟩ := borC_ok sat hG hy c.1
        obtain ⟨h3, h4⟩ := borL_ok sat hG hm r
        refine ⟨⟨⟨h1, c.2⟩, h3⟩, fun hh => ?_⟩
        simp only [allL, andB_eq, Bool.and_eq_true] at hh
        exact ⟨⟨h2 (by simpa using hh.1), c.2⟩, h4 hh.2⟩
      · cases e
    · cases e

theorem borV_ok (sat : Sat N B h0 s h β w a) (hG : gv s.gl G = true) {x y : SV} {v : Value} (e : borV s G x = some y) (c : CnV h β x v) :
    CnV (FH.all w) [] y v ∧ (noRow x = true → CnV h [] y v) := by
  have le : h.le (FH.all w) := sat.ok.hw
  unfold borV at e
  split at e
  · split at e
    · rename_i y hy
      cases e
      obtain ⟨h1, h2⟩ := borC_ok sat hG hy c.1
      exact ⟨⟨h1, c.2⟩, fun hh => ⟨h2 (by simpa [noRow] using hh), c.2⟩⟩
    · cases e
  · split at e
    · rename_i ys hy
      cases e
      obtain ⟨vs, e1, e2⟩ := c
      obtain ⟨h1, h2⟩ := borL_ok sat hG hy e2
      exact ⟨⟨vs, e1, h1⟩, fun hh => ⟨vs, e1, h2 hh⟩⟩
    · cases e
  · cases e
    obtain ⟨g, cs, e1, r⟩ := c
    exact ⟨⟨g, cs, e1, r.mono le _⟩, fun _ => ⟨g, cs, e1, r⟩⟩
  · cases e

theorem borA_ok (sat : Sat N B h0 s h β w a) (hG : gv s.gl G = true) : ∀ {xs ys : List SV} {vs : List Value}, borA s G xs = some ys → All2 (CnV h β) xs vs →
    All2 (CnV (FH.all w) []) ys vs ∧ (allL noRow xs = true → All2 (CnV h []) ys vs)
  | [], ys, [], e, _ => by simp [borA] at e; subst e; exact ⟨trivial, fun _ => trivial⟩
  | x :: l, ys, v :: vs, e, ⟨c, r⟩ => by
    unfold borA at e
    split at e
    · rename_i y hy
      split at e
      · rename_i m hm
        cases e
        obtain ⟨h1, h2⟩ := borV_ok sat hG hy c
        obtain ⟨h3, h4⟩ := borA_ok sat hG hm r
        refine ⟨⟨h1, h3⟩, fun hh => ?_⟩
        simp only [allL, andB_eq, Bool.and_eq_true] at hh
        exact ⟨h2 hh.1, h4 hh.2⟩
      · cases e
    · cases e

theorem call_stepX {ct : Nat → Option CT} {suf : List Value} (hct : ∀ f c, ct f = some c → CTX P cx.gd f suf c) (sat : Sat N B h0 s h β w a) (hg : GlobOK cx.gd h) (hG : gbd s.gl.length G = true) (hd : dOK N o.dst = true) {c : Call} {f : FuncId} (ho : o.op = .call c)
    {x : Operand} {xs : List Operand} (hcal : c.callee = .value x) (hx : gv s.gl G = true → a.eval x = .func (.func f) #[] #[]) (hxs : c.args.map a.eval = (xs.map a.eval ++ suf).toArray)
    (hf : ∃ fn, P.funcs[f]? = some fn ∧ fn.body.isSome = true ∧ (fn.name == "runtime.NumGoroutine") = false)
    (k : callK cx ct s G o.dst f xs K) : OpOK P N B h0 h w a o (gv s.gl G) K := by
  unfold callK at k
  split at k
  · exact k.elim
  rename_i cc hcc
  split at k
  · exact k.elim
  rename_i vs hvs
  split at k
  · exact k.elim
  rename_i bs hbs
  split at k
  · exact k.elim
  rename_i dd hdd
  split at k
  · rename_i hflat
    obtain ⟨T', hT'⟩ : ∃ T', T' = (cc.res dd).1 := ⟨_, rfl⟩
    obtain ⟨e, he0⟩ : ∃ e, e = (cc.res dd).2 := ⟨_, rfl⟩
    rw [← hT', ← he0] at k hflat
    have gT : ∀ p ∈ catT G (lenL s.T) s.T T', gbd s.gl.length p.1 = true := by
      intro p hp
      rw [catT_eq, List.mem_append] at hp
      rcases hp with hp | hp
      · exact sat.gT p hp
      · simp only [List.mem_map] at hp
        obtain ⟨r, _, rfl⟩ := hp
        exact hG
    have hlen := sat_len sat
    intro Nx Q next
    cases hgv : gv s.gl G with
    | false =>
      rw [if_neg (by simp)]
      refine next _ h (β ++ List.replicate T'.length .no) _ _ k.2 (FH.le.refl h) (fun _ => Gro.refl w) ?_
      have ok : OK B h0 (eff s.gl (catT G (lenL s.T) s.T T')) h (β ++ List.replicate T'.length .no) w := by
        rw [catT_eq, eff_append, eff_new_false hgv]
        exact sat.ok.addGone _
      exact (sat.mem ok (FH.le.refl h) (Ext.append _ _) gT).put (dOK_lt hd) hG (fun hh => by simp only at hh; rw [hgv] at hh; cases hh) fun _ => rfl
    | true =>
      rw [if_pos rfl]
      obtain ⟨fn, hfn, hbody, hname⟩ := hf
      have hav := argsV_ok sat hg hgv hvs
      have hpre := side_ok k.1 hgv
      have exec : (execOp a.eval o).run P w = .ok (.enter f (c.args.map a.eval)) w := by
        simp only [execOp, ho, resolve, hcal, hx hgv, Deferred.ofValue, invoke, Sem.run_bind, Sem.run_pure, Result.andThen_ok, callFunc, run_program, Array.empty_append, Array.append_empty, hfn, hname]
        simp [hbody]
        cases hb : fn.body with
        | none => rw [hb] at hbody; cases hbody
        | some _ => simp
      have hargs := hxs
      unfold Oper.wp
      rw [exec]
      simp only [Oper.upon]
      rw [hargs]
      obtain ⟨b1, b2⟩ := borA_ok sat hgv hbs hav
      have fin : ∀ {hb : FH} {h' : FH} {β' : List RV} {w' : World} {y : Value} {hn : FH}, OK (Base.of w) hb T' h' β' w' → h.le hn →
          (∀ (j : Nat) r v, T'[j]? = some r → Holds h' β' w' r v → Holds hn (β ++ β') w' (r.sh β.length) v) → (∀ b o v, hn b o = some v → w'.cell? ⟨b, o, none⟩ = some v) →
          (∀ b o v, hn b o = some v → h b o = some v ∨ (w.heap.size ≤ b ∧ h' b o = some v)) → CnE hn (β ++ β') (e.sh β.length) y → Nx (a.put o.dst y) w' := by
        intro hb h' β' w' y hn ok' le conv hnw hng he
        have ok := sat.ok.call ok' le conv hnw hng
        refine next _ hn (β ++ β') _ _ k.2 le (fun _ => Gro.of_below (Bw.bel ok'.below)) ?_
        have okT : OK B h0 (eff s.gl (catT G (lenL s.T) s.T T')) hn (β ++ β') w' := by
          rw [catT_eq, eff_append, eff_new_true hgv, ← hlen]; exact ok
        rw [hlen] at he
        exact (sat.mem okT le (Ext.append _ _) gT).put (dOK_lt hd) hG (fun _ => he) fun hh => by simp only at hh; rw [hgv] at hh; cases hh
      have keep : ∀ {hb h' : FH} {β' : List RV} {w' : World}, OK (Base.of w) hb T' h' β' w' → ∀ b o v, h b o = some v → w'.cell? ⟨b, o, none⟩ = some v := by
        intro hb h' β' w' ok' b o v hh
        have h1 := sat.ok.hw b o v hh
        have h2 := World.block_lt_of_cell? _ _ h1
        rw [(Bw.bel ok'.below).cell (p := ⟨b, o, none⟩) h2]; exact h1
      cases hnr : allL noRow vs with
      | true =>
        refine (hct f cc hcc dd _ h w sat.ok.hw hg (datA_ok hdd (b2 hnr)) hpre).mono ?_
        rintro en w' ⟨h', β', y, rfl, ok', he⟩
        rw [← hT'] at ok'
        rw [← he0] at he
        refine fin ok' ok'.hle (fun j r v _ hh => hh.shift) ok'.hw (fun b o v hh => ?_) he.shift
        rcases ok'.hg b o v hh with h1 | h1
        · exact .inl h1
        · exact .inr ⟨h1, hh⟩
      | false =>
        rw [hnr] at hflat
        simp only [orB, andB_eq, Bool.and_eq_true] at hflat
        refine (hct f cc hcc dd _ (FH.all w) w (fun _ _ _ hh => hh) (hg.mono sat.ok.hw) (datA_ok hdd b1) hpre).mono ?_
        rintro en w' ⟨h', β', y, rfl, ok', he⟩
        rw [← hT'] at ok'
        rw [← he0] at he
        refine fin ok' (FH.le.refl h) (fun j r v hj hh => (hh.flat ?_).shift) (keep ok') (fun b o v hh => .inl hh) (he.flat hflat.1).shift
        have : ∀ {l : List Res} {j : Nat} {r : Res}, allL resFlat l = true → l[j]? = some r → resFlat r = true := by
          intro l
          induction l with
          | nil => intro j r _ e; simp at e
          | cons x l ih =>
            intro j r hh e
            simp only [allL, andB_eq, Bool.and_eq_true] at hh
            cases j with
            | zero => simp at e; subst e; exact hh.1
            | succ j => exact ih hh.2 (by simpa using e)
        exact this hflat.2 hj
  · exact k.elim

theorem call_step {ct : Nat → Option CT} (hct : ∀ f c, ct f = some c → CTOK P cx.gd f c) (sat : Sat N B h0 s h β w a) (hg : GlobOK cx.gd h) (hG : gbd s.gl.length G = true) (hd : dOK N o.dst = true) {c : Call} {f : FuncId} (ho : o.op = .call c) (hcal : c.callee = .value (.func f))
    (hf : ∃ fn, P.funcs[f]? = some fn ∧ fn.body.isSome = true ∧ (fn.name == "runtime.NumGoroutine") = false)
    (k : callK cx ct s G o.dst f (tl c.args) K) : OpOK P N B h0 h w a o (gv s.gl G) K :=
  call_stepX (suf := []) (fun f c e => (hct f c e).x) sat hg hG hd ho hcal (fun _ => rfl) (by cases c.args; simp) hf k
end
end Go.Eng
set_option linter.unusedSimpArgs false
set_option linter.unusedVariables false
namespace Go.Eng
open Go Go.RowKit

section
variable {P : Program} {ops : Array Oper} {md : Region.Mode}

@[reducible] def noQ : Exit → Act → World → Prop := fun _ _ _ => False

/-- Operation number i comes up; nothing panics. -/
def wpO (P : Program) (ops : Array Oper) (i : Nat) (K : Act → World → Prop) (a : Act) (w : World) : Prop :=
  match ops[i]? with
  | none => K a w
  | some o => if Region.wanted o (yielded ops a.tmps) = true then o.wp P a w K noQ else K (a.put o.dst undef) w

theorem letsOut_no {Q : Exit → Act → World → Prop} (h : LetsOut noQ) : LetsOut Q := by
  unfold LetsOut at *
  obtain ⟨_, _, hh⟩ := h
  exact False.elim hh

theorem wp_noQ {o : Oper} {a : Act} {w : World} {K : Act → World → Prop} {Q : Exit → Act → World → Prop} (h : o.wp P a w K noQ) : o.wp P a w K Q := by
  unfold Oper.wp at *
  generalize (execOp a.eval o).run P w = r at *
  cases r with
  | ok n w' =>
    cases n <;> simp only [Oper.upon] at h ⊢
    case enter f args =>
      refine h.mono fun e w'' he => ?_
      cases e with
      | returned v => exact he
      | panicked c => exact False.elim he
      | outgrown => exact letsOut_no he
    all_goals first | exact h | exact h.elim
  | halt x w' => cases x <;> simp only [Oper.upon] at h ⊢ <;> exact False.elim h

theorem wpO_mono {i : Nat} {K K' : Act → World → Prop} {a : Act} {w : World} (h : ∀ a w, K a w → K' a w) (hh : wpO P ops i K a w) : wpO P ops i K' a w := by
  unfold wpO at *
  split
  · exact h _ _ (by simpa [*] using hh)
  · rename_i o ho
    simp only [ho] at hh
    split
    · rename_i hw; rw [if_pos hw] at hh; exact Oper.wp_mono h hh
    · rename_i hw; rw [if_neg hw] at hh; exact h _ _ hh

theorem wpO_op {i : Nat} {K : Act → World → Prop} {Q : Exit → Act → World → Prop} {a : Act} {w : World} (h : wpO P ops i K a w) : wpOp P ops Q i K a w := by
  unfold wpO at h
  unfold wpOp
  split
  · rename_i ho; simpa [ho] using h
  · rename_i o ho
    simp only [ho] at h
    split
    · rename_i hw; rw [if_pos hw] at h; exact .inl (wp_noQ h)
    · rename_i hw; rw [if_neg hw] at h; exact h

@[reducible] def sfe (ops : Array Oper) (i : Nat) : Bool := match ops[i]? with
  | some o => quietly o.op
  | none => true

/-- Whatever order is picked from here on; quiet operations only make the world grow. -/
def anyI (P : Program) (md : Region.Mode) (ops : Array Oper) (R : Act → World → Prop) : Nat → Array Bool → Act → World → Prop
  | 0, listed, a, w => Region.ready md ops listed = [] ∧ R a w
  | fuel + 1, listed, a, w => (Region.ready md ops listed = [] → R a w) ∧
    ∀ i ∈ Region.ready md ops listed, wpO P ops i (fun a' w' => (sfe ops i = true → Gro w w') ∧ anyI P md ops R fuel (listed.setIfInBounds i true) a' w') a w

theorem anyI_any {R : Act → World → Prop} {Q : Exit → Act → World → Prop} (hR : ∀ a w, R a w → Q .normal a w) : ∀ (fuel : Nat) (listed : Array Bool) (a : Act) (w : World),
    anyI P md ops R fuel listed a w → wpAny P md ops Q fuel listed a w
  | 0, _, _, _, h => ⟨h.1, hR _ _ h.2⟩
  | fuel + 1, _, _, _, h => ⟨fun e => hR _ _ (h.1 e), fun i hi => wpO_op (wpO_mono (fun a w hh => anyI_any hR fuel _ a w hh.2) (h.2 i hi))⟩

/-- The operation yields v here and in every world that grows from w0. -/
def YI (P : Program) (ops : Array Oper) (ld : Bool) (w0 : World) (o : Oper) (v : Value) (a : Act) : Prop :=
  (Region.wanted o (yielded ops a.tmps) = true ∧ ∀ w, (ld = true → Gro w0 w) → (execOp a.eval o).run P w = .ok (.value v) w) ∨
  (Region.wanted o (yielded ops a.tmps) = false ∧ v = undef)

theorem YI.of_same {ld : Bool} {w0 : World} {o : Oper} {v : Value} {a a' : Act} (hy : YI P ops ld w0 o v a) (he : execOp a'.eval o = execOp a.eval o)
    (hw : Region.wanted o (yielded ops a'.tmps) = Region.wanted o (yielded ops a.tmps)) : YI P ops ld w0 o v a' := by
  unfold YI at *
  rw [he, hw]
  exact hy

theorem YI.wpO {ld : Bool} {w0 : World} {i : Nat} {o : Oper} {v : Value} {a : Act} (hi : ops[i]? = some o) (hy : YI P ops ld w0 o v a) {K : Act → World → Prop} {w : World} (hg : ld = true → Gro w0 w)
    (h : K (a.put o.dst v) w) : wpO P ops i K a w := by
  unfold Go.Eng.wpO
  simp only [hi]
  rcases hy with ⟨hw, hv⟩ | ⟨hw, rfl⟩
  · rw [if_pos hw]; unfold Oper.wp; rw [hv w hg]; exact h
  · rw [if_neg (by rw [hw]; simp)]; exact h

theorem wpO_put {ld : Bool} {w0 : World} {j : Nat} {oi oj : Oper} {v : Value} (hj : ops[j]? = some oj) (hap : oi.apart ops oj = true)
    (hsi : ∀ cs b, oi.op ≠ .select cs b) (hsj : ∀ cs b, oj.op ≠ .select cs b) {K : Act → World → Prop} {a : Act} {w : World}
    (hy : YI P ops ld w0 oi v a) (h : wpO P ops j K (a.put oi.dst v) w) :
    wpO P ops j (fun a' w' => YI P ops ld w0 oi v a' ∧ K (a'.put oi.dst v) w') a w := by
  obtain ⟨h1, h2, h3⟩ := Oper.apart_spec hap
  have keep : ∀ (a : Act), YI P ops ld w0 oi v a → ∀ u, YI P ops ld w0 oi v (a.put oj.dst u) := fun a hy u =>
    hy.of_same (execOp_put oi hsi a oj.dst u h3) (wanted_put oi a oj.dst u h3)
  have keepD : ∀ d, YI P ops ld w0 oi v { a with defers := d :: a.defers } := fun d => hy.of_same rfl rfl
  unfold wpO at *
  simp only [hj] at *
  rw [wanted_put oj a oi.dst v h1] at h
  split
  · rename_i hw
    rw [if_pos hw] at h
    unfold Oper.wp at *
    rw [execOp_put oj hsj a oi.dst v h1] at h
    generalize (execOp a.eval oj).run P w = r at *
    cases r with
    | ok n w' =>
      cases n <;> simp only [Oper.upon] at h ⊢
      case value u => exact ⟨keep a hy u, by rw [← Act.put_comm a v u h2]; exact h⟩
      case skip => exact ⟨keep a hy _, by rw [← Act.put_comm a v undef h2]; exact h⟩
      case defer d =>
        refine ⟨(keep _ (keepD d) _), ?_⟩
        rw [← Act.put_comm _ v undef h2, ← Act.put_defers]
        exact h
      case enter f args =>
        refine h.mono fun e w'' he => ?_
        cases e with
        | returned u => exact ⟨keep a hy u, by rw [← Act.put_comm a v u h2]; exact he⟩
        | panicked c => exact he
        | outgrown => exact he
      case row r args =>
        refine Rows.mono h fun u w'' he => ?_
        exact ⟨keep a hy u, by rw [← Act.put_comm a v u h2]; exact he⟩
      all_goals exact h
    | halt x w' => cases x <;> simp only [Oper.upon] at h ⊢ <;> exact h
  · rename_i hw
    rw [if_neg hw] at h
    exact ⟨keep a hy _, by rw [← Act.put_comm a v undef h2]; exact h⟩

/-- What waits for i, through others too. -/
def Waits (md : Region.Mode) (ops : Array Oper) (listed : Array Bool) (i : Nat) (bl : List Nat) : Prop :=
  ∀ j ∈ bl, listed.getD j true = false ∧ ∃ o, ops[j]? = some o ∧ ∃ e ∈ o.after, Region.binds md e = true ∧ (e.on = i ∨ e.on ∈ bl)

theorem getD_dflt {listed : Array Bool} {i : Nat} (h : listed.getD i true = false) : listed.getD i false = false := by
  rcases Nat.lt_or_ge i listed.size with h' | h'
  · simp [h'] at h ⊢; exact h
  · simp [Array.getElem?_eq_none h'] at h

theorem not_ready {listed : Array Bool} {i j : Nat} {bl : List Nat} (hi : listed.getD i true = false) (hw : Waits md ops listed i bl) (hj : j ∈ bl) : j ∉ Region.ready md ops listed := by
  intro hr
  obtain ⟨_, oj, hoj, hall⟩ := mem_ready.1 hr
  obtain ⟨_, o, ho, e, he, hb, hh⟩ := hw j hj
  rw [hoj] at ho; cases ho
  have h1 := hall e he hb
  rcases hh with hh | hh
  · rw [hh, getD_dflt hi] at h1; cases h1
  · rw [getD_dflt (hw _ hh).1] at h1; cases h1

theorem anyI_first {R : Act → World → Prop} {ld : Bool} {w0 : World} {i : Nat} {oi : Oper} {v : Value} {bl : List Nat} (hi : ops[i]? = some oi) (hsel : ∀ (j : Nat) (o : Oper) cs b, ops[j]? = some o → o.op ≠ .select cs b)
    (hq : sfe ops i = true) :
    ∀ (fuel : Nat) (listed : Array Bool) (a : Act) (w : World),
      (∀ j oj, ops[j]? = some oj → j ≠ i → listed.getD j true = false → (∀ e ∈ oj.after, Region.binds md e = true → e.on ≠ i) → oi.apart ops oj = true) →
      (ld = true → Waits md ops listed i bl ∧ ∀ j, j ≠ i → listed.getD j true = false → sfe ops j = false → j ∈ bl) →
      i ∈ Region.ready md ops listed → YI P ops ld w0 oi v a → (ld = true → Gro w0 w) →
      anyI P md ops R fuel (listed.setIfInBounds i true) (a.put oi.dst v) w → anyI P md ops R (fuel + 1) listed a w := by
  intro fuel
  induction fuel with
  | zero =>
    intro listed a w _ _ hr hy hg H
    refine ⟨fun h => (by rw [h] at hr; cases hr), fun j hj => ?_⟩
    by_cases hji : j = i
    · subst hji; exact hy.wpO hi hg ⟨fun _ => Gro.refl w, H⟩
    · have := ready_mono hj hji
      rw [H.1] at this
      cases this
  | succ fuel ih =>
    intro listed a w hfree hbl hr hy hg H
    refine ⟨fun h => (by rw [h] at hr; cases hr), fun j hj => ?_⟩
    by_cases hji : j = i
    · subst hji; exact hy.wpO hi hg ⟨fun _ => Gro.refl w, H⟩
    · have h1 := H.2 j (ready_mono hj hji)
      obtain ⟨hjun, oj, hoj, hall⟩ := mem_ready.1 hj
      have hiun := (mem_ready.1 hr).1
      have hnot : ∀ e ∈ oj.after, Region.binds md e = true → e.on ≠ i := fun e he hb heq => by
        have h1 := hall e he hb
        rw [heq, getD_dflt hiun] at h1; cases h1
      have h2 := wpO_put hoj (hfree j oj hoj hji hjun hnot) (fun cs b => hsel i oi cs b hi) (fun cs b => hsel j oj cs b hoj) hy h1
      have hfree' : ∀ k ok, ops[k]? = some ok → k ≠ i → (listed.setIfInBounds j true).getD k true = false →
          (∀ e ∈ ok.after, Region.binds md e = true → e.on ≠ i) → oi.apart ops ok = true := fun k ok hk hki hun hno => by
        refine hfree k ok hk hki ?_ hno
        by_cases hjk : j = k
        · subst hjk; exact hjun
        · rw [getD_set_ne true hjk] at hun; exact hun
      have hjbl : ld = true → j ∉ bl := fun e hm => not_ready hiun (hbl e).1 hm hj
      have hsj : ld = true → sfe ops j = true := fun e => by
        cases hs : sfe ops j with
        | true => rfl
        | false => exact absurd ((hbl e).2 j hji hjun hs) (hjbl e)
      have hbl' : ld = true → Waits md ops (listed.setIfInBounds j true) i bl ∧ ∀ k, k ≠ i → (listed.setIfInBounds j true).getD k true = false → sfe ops k = false → k ∈ bl := fun e => by
        refine ⟨fun k hk => ?_, fun k hki hun hs => ?_⟩
        · obtain ⟨g1, g2⟩ := (hbl e).1 k hk
          refine ⟨?_, g2⟩
          rw [getD_set_ne true (fun hh => hjbl e (by rw [hh]; exact hk))]; exact g1
        · refine (hbl e).2 k hki ?_ hs
          by_cases hjk : j = k
          · subst hjk; exact hjun
          · rw [getD_set_ne true hjk] at hun; exact hun
      refine wpO_mono (fun a' w' h3 => ⟨h3.2.1, ih (listed.setIfInBounds j true) a' w' hfree' hbl' (ready_mono hr (Ne.symm hji)) h3.1 (fun e => (hg e).trans (h3.2.1 (hsj e))) ?_⟩) h2
      rw [Array.setIfInBounds_comm _ _ hji]
      exact h3.2.2
end
end Go.Eng
set_option linter.unusedSimpArgs false
set_option linter.unusedVariables false
namespace Go.Eng
open Go Go.RowKit

@[reducible] def swN (i k n : Nat) : Nat := match Nat.beq n i with
  | true => k
  | false => match Nat.beq n k with
    | true => i
    | false => n
theorem beq_ne {n i : Nat} (h : ¬ n = i) : Nat.beq n i = false := by
  cases hb : Nat.beq n i with
  | true => exact absurd (Nat.eq_of_beq_eq_true hb) h
  | false => rfl
theorem swN_eq (i k n : Nat) : swN i k n = if n = i then k else if n = k then i else n := by
  unfold swN
  by_cases h : n = i
  · subst h; simp
  · rw [if_neg h, beq_ne h]
    by_cases h2 : n = k
    · subst h2; simp
    · rw [if_neg h2, beq_ne h2]
theorem swN_swN (i k n : Nat) : swN i k (swN i k n) = n := by
  simp only [swN_eq]; split <;> split <;> simp_all <;> omega

@[reducible] def SC.sw (i k : Nat) : SC → SC
  | .own a o => .own (swN i k a) o
  | .row a => .row (swN i k a)
  | .rowp a j sz o => .rowp (swN i k a) j sz o
  | x => x
@[reducible] def SV.sw (i k : Nat) : SV → SV
  | .c x => .c (x.sw i k)
  | .agg xs => .agg (mapL (SC.sw i k) xs)
  | v => v
@[reducible] def Ent.sw (i k : Nat) : Ent → Ent
  | .one x => .one (x.sw i k)
  | .tup xs => .tup (mapL (SV.sw i k) xs)
@[reducible] def Res.sw (i k : Nat) : Res → Res
  | .blk t cs => .blk t (mapL (SC.sw i k) cs)
  | r => r

/-- β' is β with i and k exchanged. -/
def Swapped (i k : Nat) (β β' : List RV) : Prop := ∀ j, β'[swN i k j]? = β[j]?

theorem CnC.sw {h : FH} {β β' : List RV} {i k : Nat} (sb : Swapped i k β β') : ∀ {x : SC} {y : Value}, CnC h β x y → CnC h β' (x.sw i k) y
  | .v _, _, e => e
  | .sl _ _, _, e => e
  | .fp _ _, _, e => e
  | .own a o, _, ⟨b, e, e'⟩ => ⟨b, by rw [sb]; exact e, e'⟩
  | .row a, y, e => by show β'[swN i k a]? = _; rw [sb]; exact e
  | .rowp _ _ _ _, _, ⟨v, g, e, e'⟩ => ⟨v, g, by rw [sb]; exact e, e'⟩
  | .abs _, _, e => e
  | .junk, _, _ => trivial

theorem all2_mapL {α β : Type} {R R' : α → β → Prop} {f : α → α} (hR : ∀ a b, R a b → R' (f a) b) : ∀ {l : List α} {m : List β}, All2 R l m → All2 R' (mapL f l) m
  | [], [], _ => trivial
  | _ :: _, _ :: _, ⟨a, b⟩ => ⟨hR _ _ a, all2_mapL hR b⟩

theorem CnV.sw {h : FH} {β β' : List RV} {i k : Nat} (sb : Swapped i k β β') : ∀ {x : SV} {y : Value}, CnV h β x y → CnV h β' (x.sw i k) y
  | .c _, _, ⟨e, o⟩ => ⟨e.sw sb, o⟩
  | .agg _, _, ⟨ys, e, a⟩ => ⟨ys, e, all2_mapL (fun _ _ ⟨p, q⟩ => ⟨p.sw sb, q⟩) a⟩
  | .dat _ _, _, e => e
  | .und, _, e => e
theorem CnE.sw {h : FH} {β β' : List RV} {i k : Nat} (sb : Swapped i k β β') : ∀ {x : Ent} {y : Value}, CnE h β x y → CnE h β' (x.sw i k) y
  | .one _, _, e => CnV.sw sb e
  | .tup _, _, ⟨ys, e, a⟩ => ⟨ys, e, all2_mapL (fun _ _ p => CnV.sw sb p) a⟩
theorem Holds.sw {h : FH} {β β' : List RV} {w : World} {i k : Nat} (sb : Swapped i k β β') : ∀ {r : Res} {v : RV}, Holds h β w r v → Holds h β' w (r.sw i k) v
  | .blk _ _, .blk _, ⟨ys, e, a⟩ => ⟨ys, e, all2_mapL (fun _ _ ⟨p, q⟩ => ⟨p.sw sb, q⟩) a⟩
  | .row _ _ _, .row _, e => e
  | .obj _ _ _, .blk _, e => e
  | .gone, _, _ => trivial
theorem Res.sw_live {i k : Nat} (r : Res) : (r.sw i k).live = r.live := by cases r <;> rfl

theorem OK.sw {B : Base} {h0 : FH} {T T' : List Res} {h : FH} {β β' : List RV} {w : World} {i k : Nat} (ok : OK B h0 T h β w) (sb : Swapped i k β β') (hl : β'.length = T'.length)
    (sT : ∀ j, T'[swN i k j]? = (T[j]?).map (Res.sw i k)) : OK B h0 T' h β' w := by
  have gT : ∀ {j : Nat} {r : Res}, T'[j]? = some r → ∃ r0, T[swN i k j]? = some r0 ∧ r = r0.sw i k := by
    intro j r e
    have := sT (swN i k j)
    rw [swN_swN, e] at this
    cases hT : T[swN i k j]? with
    | none => rw [hT] at this; cases this
    | some r0 => rw [hT] at this; exact ⟨r0, rfl, by simpa using this⟩
  have gB : ∀ {j : Nat} {v : RV}, β'[j]? = some v → β[swN i k j]? = some v := by
    intro j v e
    have := sb (swN i k j)
    rw [swN_swN, e] at this
    exact this.symm
  refine ⟨ok.below, ok.dr, hl, fun j r v e1 e2 => ?_, fun j r v b e1 l1 e2 e3 => ?_, fun j j' r r' u v b e1 l1 e2 l2 e3 e4 e5 e6 => ?_, ok.hle, ok.hw, ok.hg, ok.kn⟩
  · obtain ⟨r0, f1, rfl⟩ := gT e1
    exact (ok.holds _ _ _ f1 (gB e2)).sw sb
  · obtain ⟨r0, f1, rfl⟩ := gT e1
    exact ok.own _ _ _ _ f1 (by rw [← Res.sw_live]; exact l1) (gB e2) e3
  · obtain ⟨r0, f1, rfl⟩ := gT e1
    obtain ⟨r1, f2, rfl⟩ := gT e2
    have := ok.inj _ _ _ _ _ _ _ f1 (by rw [← Res.sw_live]; exact l1) f2 (by rw [← Res.sw_live]; exact l2) (gB e3) (gB e4) e5 e6
    have h2 := congrArg (swN i k) this
    rwa [swN_swN, swN_swN] at h2

@[reducible] def swE (i k : Nat) : List (Nat × Gd × Ent) → List (Nat × Gd × Ent)
  | [] => []
  | (t, g, e) :: l => (t, g, e.sw i k) :: swE i k l
@[reducible] def swT (i k : Nat) (T : List (Gd × Res)) : List (Gd × Res) := match nthL T i with
  | some a => match nthL T k with
    | some b => mapL (fun p => (p.1, p.2.sw i k)) (setL (setL T i b) k a)
    | none => T
  | none => T
@[reducible] def swS (i k : Nat) (s : St) : St := { s with T := swT i k s.T, env := swE i k s.env }

theorem lkE_sw {i k : Nat} : ∀ {l : List (Nat × Gd × Ent)} {t : Nat}, lkE (swE i k l) t = (lkE l t).map fun p => (p.1, p.2.sw i k)
  | [], _ => rfl
  | (u, g, e) :: l, t => by
    rw [show swE i k ((u, g, e) :: l) = (u, g, e.sw i k) :: swE i k l from rfl, lkE_cons, lkE_cons]
    split
    · rfl
    · exact lkE_sw

theorem mapL_map {α β : Type} (f : α → β) : ∀ l : List α, mapL f l = l.map f
  | [] => rfl
  | _ :: l => by simp [mapL, mapL_map f l]

theorem swT_get {i k : Nat} {T : List (Gd × Res)} (hi : i < T.length) (hk : k < T.length) (j : Nat) : (swT i k T)[swN i k j]? = (T[j]?).map fun p => (p.1, p.2.sw i k) := by
  unfold swT
  rw [nthL_eq, List.getElem?_eq_getElem hi]
  simp only
  rw [nthL_eq, List.getElem?_eq_getElem hk]
  simp only
  rw [mapL_map, List.getElem?_map, setL_eq, setL_eq]
  congr 1
  rw [swN_eq]
  by_cases h1 : j = i
  · subst h1; rw [if_pos rfl, List.getElem?_set_self (by simpa using hk), List.getElem?_eq_getElem hi]
  · rw [if_neg h1]
    by_cases h2 : j = k
    · subst h2
      rw [if_pos rfl, List.getElem?_set_ne (by omega), List.getElem?_set_self hi, List.getElem?_eq_getElem hk]
    · rw [if_neg h2, List.getElem?_set_ne (by omega), List.getElem?_set_ne (by omega)]

theorem swT_len {i k : Nat} {T : List (Gd × Res)} : (swT i k T).length = T.length := by
  unfold swT
  split
  · split
    · rw [mapL_map, setL_eq, setL_eq]; simp
    · rfl
  · rfl

theorem swapped_ex {β : List RV} {i k : Nat} (hi : i < β.length) (hk : k < β.length) : ∃ β', β'.length = β.length ∧ Swapped i k β β' := by
  refine ⟨(β.set i β[k]).set k β[i], by simp, fun j => ?_⟩
  rw [swN_eq]
  by_cases h1 : j = i
  · subst h1; rw [if_pos rfl, List.getElem?_set_self (by simpa using hk), List.getElem?_eq_getElem hi]
  · rw [if_neg h1]
    by_cases h2 : j = k
    · subst h2
      rw [if_pos rfl, List.getElem?_set_ne (by omega), List.getElem?_set_self hi, List.getElem?_eq_getElem hk]
    · rw [if_neg h2, List.getElem?_set_ne (by omega), List.getElem?_set_ne (by omega)]

theorem Sat.sw {N : Nat} {B : Base} {h0 : FH} {s : St} {h : FH} {β : List RV} {w : World} {a : Act} (sat : Sat N B h0 s h β w a) {i k : Nat} (hi : i < s.T.length) (hk : k < s.T.length) :
    ∃ β', Sat N B h0 (swS i k s) h β' w a := by
  have hlen : β.length = s.T.length := by rw [sat.ok.len, eff_len]
  obtain ⟨β', hl, sb⟩ := swapped_ex (β := β) (i := i) (k := k) (by omega) (by omega)
  refine ⟨β', ?_, ?_, ?_, sat.defers, sat.sz, ?_, ?_⟩
  · refine sat.ok.sw sb (by rw [hl, eff_len, swT_len, hlen]) fun j => ?_
    rw [eff_get, eff_get, swT_get hi hk]
    cases s.T[j]? with
    | none => rfl
    | some p =>
      simp only [Option.map_some]
      cases gv s.gl p.1 <;> rfl
  · intro t G e ht
    rw [show (swS i k s).env = swE i k s.env from rfl, lkE_sw] at ht
    cases hl : lkE s.env t with
    | none => rw [hl] at ht; cases ht
    | some p =>
      rw [hl] at ht
      cases ht
      obtain ⟨z, q1, q2, q3⟩ := sat.env t p.1 p.2 hl
      exact ⟨z, q1, fun hh => (q2 hh).sw sb, q3⟩
  · intro d j hd
    obtain ⟨G, b, q1, q2⟩ := sat.gs d j hd
    exact ⟨G, b, by rw [show (swS i k s).env = swE i k s.env from rfl, lkE_sw, q1]; rfl, q2⟩
  · intro t G e ht
    rw [show (swS i k s).env = swE i k s.env from rfl, lkE_sw] at ht
    cases hl : lkE s.env t with
    | none => rw [hl] at ht; cases ht
    | some p =>
      rw [hl] at ht
      cases ht
      exact sat.gb t p.1 p.2 hl
  · intro p hp
    obtain ⟨j, hj⟩ := List.getElem?_of_mem hp
    have h1 := swT_get hi hk (swN i k j)
    rw [swN_swN] at h1
    rw [show (swS i k s).T = swT i k s.T from rfl, h1] at hj
    cases hT : s.T[swN i k j]? with
    | none => rw [hT] at hj; cases hj
    | some q =>
      rw [hT] at hj
      cases hj
      exact sat.gT q (List.mem_of_getElem? hT)

@[reducible] def swAll : List (Nat × Nat) → St → St
  | [], s => s
  | (i, k) :: l, s => match andB (Nat.ble (i + 1) (lenL s.T)) (Nat.ble (k + 1) (lenL s.T)) with
    | true => swAll l (swS i k s)
    | false => s
theorem Sat.swAll {N : Nat} {B : Base} {h0 : FH} {h : FH} {w : World} {a : Act} : ∀ (l : List (Nat × Nat)) {s : St} {β : List RV}, Sat N B h0 s h β w a → ∃ β', Sat N B h0 (swAll l s) h β' w a
  | [], s, β, sat => ⟨β, sat⟩
  | (i, k) :: l, s, β, sat => by
    unfold Go.Eng.swAll
    split
    · rename_i hc
      rw [andB_eq, Bool.and_eq_true, lenL_eq] at hc
      have h1 := Nat.le_of_ble_eq_true hc.1
      have h2 := Nat.le_of_ble_eq_true hc.2
      obtain ⟨β', sat'⟩ := sat.sw (i := i) (k := k) (by omega) (by omega)
      exact Sat.swAll l sat'
    · exact ⟨β, sat⟩
end Go.Eng
set_option linter.unusedSimpArgs false
set_option linter.unusedVariables false
namespace Go.Eng
open Go Go.RowKit

/-- A contract of a function that changes its first argument, a slice with a row of its own, in place; with 'back' it returns that slice. -/
structure IP where
  sh : Sh
  ps : List Sh
  pre : List sh.den → dens ps → Prop
  res : List sh.den → dens ps → List sh.den
  back : Bool

def IPOK (P : Program) (gd : Nat → Option (Sigma Sh.den)) (f : FuncId) (ip : IP) : Prop :=
  ∀ (t : TypeId) (l : List ip.sh.den) (d : dens ip.ps) (v : Value) (vs : List Value) (h : FH) (w : World), (∀ b o u, h b o = some u → w.cell? ⟨b, o, none⟩ = some u) → GlobOK gd h →
    Holds h [] w (.row t ip.sh l) (.row v) → (∀ b, rowBlk v = some b → ∀ o, h b o = none) → All2 (CnV h []) (ofDats ip.ps d) vs → ip.pre l d →
    Calls P f (v :: vs).toArray w (fun en w' => ∃ v' y, en = .returned y ∧ Gb w w' (rowBlk v) ∧ (∀ b, rowBlk v' = some b → rowBlk v = some b ∨ (w.heap.size ≤ b ∧ b < w'.heap.size)) ∧
      Holds h [] w' (.row t ip.sh (ip.res l d)) (.row v') ∧ (ip.back = true → y = v') ∧ (ip.back = false → y = .tuple #[] ∧ v' = v))

@[reducible] def ipK (cx : Cx) (ip : IP) (s : St) (d : Option Nat) (args : List Operand) (K : St → Prop) : Prop := match args with
  | [] => False
  | x :: r => match getE cx s [] x with
    | some (.one (.c (.row i))) => match nthL s.T i with
      | some ([], .row t sh l) => match castD (.sl sh) l (.sl ip.sh) with
        | none => False
        | some l => match argsV cx s [] r with
          | none => False
          | some vs => match allL noRow vs with
            | false => False
            | true => match borA s [] vs with
              | none => False
              | some bs => match datA ip.ps bs with
                | none => False
                | some dd => ip.pre l dd ∧ (match ip.back with
                  | false => K ({ s with T := setL s.T i ([], .row t ip.sh (ip.res l dd)) }.put d [] (.tup []))
                  | true => K ({ s with T := setL (jkT i s.T) i ([], .row t ip.sh (ip.res l dd)), env := jkEnv i s.env }.put d [] (.one (.c (.row i)))))
      | _ => False
    | _ => False

/-- One operation is met; nothing is said of what it changes. -/
def OpW (P : Program) (N : Nat) (B : Base) (h0 : FH) (h : FH) (w : World) (a : Act) (o : Oper) (wanted : Bool) (K : St → Prop) : Prop :=
  ∀ (Nx : Act → World → Prop) (Q : Exit → Act → World → Prop),
    (∀ s' h' β' w' v, K s' → h.le h' → Sat N B h0 s' h' β' w' (a.put o.dst v) → Nx (a.put o.dst v) w') →
    if wanted = true then o.wp P a w Nx Q else Nx (a.put o.dst undef) w

theorem OpOK.weak {P : Program} {N : Nat} {B : Base} {h0 h : FH} {w : World} {a : Act} {o : Oper} {b : Bool} {K : St → Prop} (k : OpOK P N B h0 h w a o b K) : OpW P N B h0 h w a o b K :=
  fun Nx Q next => k Nx Q fun s' h' β' w' v k' le _ sat => next s' h' β' w' v k' le sat

section
variable {cx : Cx} {P : Program} {N : Nat} {B : Base} {h0 : FH} {s : St} {h : FH} {β : List RV} {w : World} {a : Act} {o : Oper} {K : St → Prop}

theorem jk_sat (sat : Sat N B h0 s h β w a) {r : Nat} {x x' : Res} {u v : RV} {w' : World} (hT : nthL s.T r = some ([], x)) (hl : x.live = true) (hu : β[r]? = some u)
    (hg : Gb w w' u.block) (hv : ∀ b, v.block = some b → u.block = some b ∨ (w.heap.size ≤ b ∧ b < w'.heap.size)) (hold : Holds h (β.set r v) w' x' v) :
    Sat N B h0 { s with T := setL (jkT r s.T) r ([], x'), env := jkEnv r s.env } h (β.set r v) w' a := by
  have tr : gv s.gl [] = true := rfl
  have hT' := effres hT tr
  have okj := sat.ok.jk r
  have hTj : ((eff s.gl s.T).map (jkR r))[r]? = some (jkR r x) := by rw [List.getElem?_map, hT']; rfl
  have ok : OK B h0 (eff s.gl (setL (jkT r s.T) r ([], x'))) h (β.set r v) w' := by
    rw [eff_set, eff_jk]
    refine okj.upd hTj (by rw [jkR_live]; exact hl) hu hg hv (.inr fun j rj _ ej => ?_) hold
    rw [List.getElem?_map] at ej
    cases hj : (eff s.gl s.T)[j]? with
    | none => rw [hj] at ej; cases ej
    | some q => rw [hj] at ej; cases ej; exact jkR_free r q
  refine ⟨ok, ?_, ?_, sat.defers, sat.sz, ?_, ?_⟩
  · intro t G e ht
    obtain ⟨e0, h1, rfl⟩ := lkE_jk r ht
    obtain ⟨z, q1, q2, q3⟩ := sat.env t G e0 h1
    exact ⟨z, q1, fun hG => (q2 hG).jk v, q3⟩
  · intro d i hi
    obtain ⟨G, b, q1, q2⟩ := sat.gs d i hi
    exact ⟨G, b, lkE_jk' r q1, q2⟩
  · intro t G e ht
    obtain ⟨e0, h1, rfl⟩ := lkE_jk r ht
    exact sat.gb t G e0 h1
  · intro p hp
    simp only at hp
    rw [setL_eq] at hp
    rcases List.mem_or_eq_of_mem_set hp with hp | hp
    · have : ∀ {l : List (Gd × Res)}, p ∈ jkT r l → ∃ q ∈ l, q.1 = p.1 := by
        intro l
        induction l with
        | nil => intro hh; simp [jkT] at hh
        | cons q l ih =>
          obtain ⟨g, q⟩ := q
          intro hh
          simp only [jkT, List.mem_cons] at hh
          rcases hh with rfl | hh
          · exact ⟨(g, q), by simp, rfl⟩
          · obtain ⟨q', h1, h2⟩ := ih hh; exact ⟨q', by simp [h1], h2⟩
      obtain ⟨q, h1, h2⟩ := this hp
      rw [← h2]; exact sat.gT q h1
    · subst hp; rfl

theorem Holds.anyβ {h : FH} {β β' : List RV} {w : World} {t : TypeId} {s : Sh} {l : List s.den} {v : RV} (x : Holds h β w (.row t s l) v) : Holds h β' w (.row t s l) v := by
  cases v <;> exact x

theorem ip_step {f : FuncId} {ip : IP} (hip : IPOK P cx.gd f ip) (hf : ∃ fn, P.funcs[f]? = some fn ∧ fn.body.isSome = true ∧ (fn.name == "runtime.NumGoroutine") = false)
    (sat : Sat N B h0 s h β w a) (hg : GlobOK cx.gd h) (hd : dOK N o.dst = true) {c : Call} (ho : o.op = .call c) (hcal : c.callee = .value (.func f))
    (k : ipK cx ip s o.dst (tl c.args) K) : OpW P N B h0 h w a o true K := by
  have tr : gv s.gl [] = true := rfl
  unfold ipK at k
  split at k
  · exact k.elim
  rename_i x r hargs0
  split at k
  · rename_i i hx
    split at k
    · rename_i t sh l0 hT
      split at k
      · exact k.elim
      rename_i l hl
      split at k
      · exact k.elim
      rename_i vs hvs
      split at k
      · exact k.elim
      rename_i hnr
      split at k
      · exact k.elim
      rename_i bs hbs
      split at k
      · exact k.elim
      rename_i dd hdd
      obtain ⟨hpre, k⟩ := k
      obtain ⟨e1, e2⟩ := castSl hl
      subst e1; simp only at e2; subst e2
      have cr : CnV h β (.c (.row i)) (a.eval x) := getE_ok sat hg tr hx
      have hu : β[i]? = some (.row (a.eval x)) := cr.1
      have hold := sat.ok.holds i _ _ (effres hT tr) hu
      have hav := argsV_ok sat hg tr hvs
      obtain ⟨_, b2⟩ := borA_ok sat tr hbs hav
      intro Nx Q next
      rw [if_pos rfl]
      obtain ⟨fn, hfn, hbody, hname⟩ := hf
      have exec : (execOp a.eval o).run P w = .ok (.enter f (c.args.map a.eval)) w := by
        simp only [execOp, ho, resolve, hcal, Act.eval, Deferred.ofValue, invoke, Sem.run_bind, Sem.run_pure, Result.andThen_ok, callFunc, run_program, hfn, hname]
        simp [hbody]
        cases hb : fn.body with
        | none => rw [hb] at hbody; cases hbody
        | some _ => simp
      have hargs : (c.args.map a.eval) = (a.eval x :: r.map a.eval).toArray := by
        have : c.args = (x :: r).toArray := by
          cases hc : c.args with
          | mk q => rw [hc] at hargs0; simp only [tl] at hargs0; rw [hargs0]
        rw [this]; simp
      unfold Oper.wp
      rw [exec]
      simp only [Oper.upon]
      rw [hargs]
      refine (hip t l0 dd (a.eval x) _ h w sat.ok.hw hg hold.anyβ (fun b hb => (sat.ok.own i _ _ b (effres hT tr) rfl hu hb).2.2) (datA_ok hdd (b2 hnr)) hpre).mono ?_
      rintro en w' ⟨v', y, rfl, hgr, hv, hold', hb1, hb2⟩
      have hi : i < β.length := (List.getElem?_eq_some_iff.1 hu).1
      cases hb : ip.back with
      | false =>
        rw [hb] at k
        obtain ⟨rfl, rfl⟩ := hb2 hb
        have hT' := effres hT tr
        have ok : OK B h0 (eff s.gl (setL s.T i ([], .row t ip.sh (ip.res l0 dd)))) h β w' := by
          rw [effset]
          have := sat.ok.upd (r' := .row t ip.sh (ip.res l0 dd)) (v := .row (a.eval x)) hT' rfl hu hgr (fun b hb => .inl hb) (.inl rfl) hold'.anyβ
          rwa [set_same hu] at this
        exact next _ _ _ _ _ k (FH.le.refl h) ((sat.mem ok (FH.le.refl h) (Ext.refl β) (gT_set sat)).put (dOK_lt hd) rfl (fun _ => ⟨[], rfl, trivial⟩) fun hh => by cases hh)
      | true =>
        rw [hb] at k
        obtain rfl := hb1 hb
        refine next _ _ _ _ _ k (FH.le.refl h) ((jk_sat sat hT rfl hu hgr hv (x' := .row t ip.sh (ip.res l0 dd)) (v := .row y) hold'.anyβ).put (dOK_lt hd) rfl (fun _ => ?_) fun hh => by cases hh)
        refine ⟨?_, ?_⟩
        · show (β.set i (.row y))[i]? = some (.row y)
          rw [List.getElem?_set_self hi]
        · rcases hold' with ⟨rfl, _⟩ | ⟨_, rfl, _⟩ | ⟨g, cap, cur, rfl, _⟩ <;> exact ⟨rfl, rfl⟩
    · exact k.elim
  · exact k.elim
end
end Go.Eng
set_option linter.unusedSimpArgs false
set_option linter.unusedVariables false
namespace Go.Eng
open Go Go.RowKit

def isZI : Int → Bool
  | .ofNat 0 => true
  | _ => false
theorem isZI_eq {n : Int} (h : isZI n = true) : n = 0 := by
  unfold isZI at h
  split at h
  · rfl
  · cases h
@[reducible] def isZ0 : Operand → Bool
  | .const v => match v with
    | .int _ n => isZI n
    | _ => false
  | _ => false
theorem isZ0_eq {x : Operand} (h : isZ0 x = true) : ∃ k, x = .const (.int k 0) := by
  unfold isZ0 at h
  split at h
  · split at h
    · rename_i k n; rw [isZI_eq h]; exact ⟨k, rfl⟩
    · cases h
  · cases h
@[reducible] def isZO : Option Operand → Bool
  | none => true
  | some x => isZ0 x
@[reducible] def isZS : Option Operand → Bool
  | none => false
  | some x => isZ0 x
@[reducible] def isSlC : SC → Bool
  | .sl _ _ => true
  | .v v => match v with
    | .slice none 0 0 => true
    | _ => false
  | _ => false

@[reducible] def empK (cx : Cx) (s : St) (d : Option Nat) (t : TypeId) (x : Operand) (lo hi : Option Operand) (K : St → Prop) : Prop := match descOf cx t with
  | .slice el => match lkT cx.ti el with
    | none => False
    | some ie => match ie.shp with
      | none => False
      | some sh => match getE cx s [] x with
        | some (.one (.c y)) => match andB (isSlC y) (andB (isZO lo) (isZS hi)) with
          | true => K ({ s with T := snoc s.T ([], .row el sh []) }.put d [] (.one (.c (.row (lenL s.T)))))
          | false => False
        | _ => False
  | _ => False
@[reducible] def truncK (cx : Cx) (s : St) (d : Option Nat) (t : TypeId) (i : Nat) (lo hi : Option Operand) (K : St → Prop) : Prop := match descOf cx t with
  | .slice el => match lkT cx.ti el with
    | none => False
    | some _ => match isZO lo with
      | false => False
      | true => match hi with
        | none => False
        | some h => match getE cx s [] h with
          | some (.one (.c (.v (.int _ n)))) => match nthL s.T i with
            | some ([], .row el' sh l) => (0 ≤ n ∧ n ≤ l.length) ∧ K ({ s with T := setL (jkT i s.T) i ([], .row el' sh (l.take n.toNat)), env := jkEnv i s.env }.put d [] (.one (.c (.row i))))
            | _ => False
          | _ => False
  | _ => False
@[reducible] def nilK (cx : Cx) (s : St) (d : Option Nat) (t : TypeId) (lo hi : Option Operand) (K : St → Prop) : Prop := match descOf cx t with
  | .slice el => match lkT cx.ti el with
    | none => False
    | some _ => match bndE cx s [] lo 0 with
      | none => False
      | some a => match bndE cx s [] hi 0 with
        | none => False
        | some b => (0 ≤ a ∧ a ≤ b ∧ b ≤ 0) ∧ K (s.put d [] (.one (.c (.v (.slice none 0 0)))))
  | _ => False
/-- The larger one. -/
def maxI (a b : Int) : Int := if b > a then b else a
@[reducible] def maxK (cx : Cx) (s : St) (d : Option Nat) (x y : Operand) (K : St → Prop) : Prop := match getE cx s [] x with
  | some (.one (.c (.v (.int .i64 a)))) => match getE cx s [] y with
    | some (.one (.c (.v (.int .i64 b)))) => K (s.put d [] (vI .i64 (maxI a b)))
    | _ => False
  | _ => False
@[reducible] def capK (cx : Cx) (s : St) (d : Option Nat) (t : TypeId) (x : Operand) (K : St → Prop) : Prop := match descOf cx t with
  | .slice _ => match getE cx s [] x with
    | some (.one (.c (.v (.slice none 0 0)))) => K (s.put d [] (vI .i64 0))
    | _ => False
  | _ => False

/-- Is a slice nil? Of an empty one that is not known. -/
@[reducible] def nilEqK (s : St) (d : Option Nat) (eq : Bool) (x : SC) (K : St → Prop) : Prop := match x with
  | .v _ => K (s.put d [] (vB eq))
  | .sl _ l => ∀ b : Bool, (b = true → l = []) → K (s.put d [] (vB (cnd eq b (!b))))
  | .row i => match nthL s.T i with
    | some ([], .row _ _ l) => ∀ b : Bool, (b = true → l = []) → K (s.put d [] (vB (cnd eq b (!b))))
    | _ => False
  | _ => False
@[reducible] def isEqOp : BinOp → Option Bool
  | .eql => some true
  | .neq => some false
  | _ => none
@[reducible] def isSlD (cx : Cx) (t : TypeId) : Bool := match descOf cx t with
  | .slice _ => true
  | _ => false
@[reducible] def slLike : SC → Bool
  | .sl _ _ => true
  | .row _ => true
  | .v v => match v with
    | .slice none 0 0 => true
    | _ => false
  | _ => false
/-- append(nil, make([]T, n)...). -/
@[reducible] def appZK (cx : Cx) (s : St) (d : Option Nat) (t t' : TypeId) (y : Operand) (K : St → Prop) : Prop := match descOf cx t' with
  | .int .i64 => match descOf cx t with
    | .slice el => match lkT cx.ti el with
      | none => False
      | some ie => match ie.shp with
        | none => False
        | some sh => match andB (Nat.beq sh.size ie.size) (andB (Nat.ble 1 ie.bytes) (Nat.ble 1 ie.size)) with
          | true => match getE cx s [] y with
            | some (.one (.c (.v (.int .i64 n)))) => (0 ≤ n ∧ InA n.toNat ie.bytes) ∧ K ({ s with T := snoc s.T ([], .row el sh (List.replicate n.toNat (zdat sh))) }.put d [] (.one (.c (.row (lenL s.T)))))
            | _ => False
          | false => False
    | _ => False
  | _ => False

/-! Freezing a row: what led to it holds its data. -/
@[reducible] def frzC (i : Nat) (sh : Sh) (l : List sh.den) (x : SC) : SC := match x with
  | .row j => match Nat.beq i j with
    | true => .sl sh l
    | false => .row j
  | .rowp j k sz off => match Nat.beq i j with
    | true => .junk
    | false => .rowp j k sz off
  | .own j off => match Nat.beq i j with
    | true => .junk
    | false => .own j off
  | x => x
@[reducible] def frzV (i : Nat) (sh : Sh) (l : List sh.den) : SV → SV
  | .c x => .c (frzC i sh l x)
  | .agg xs => .agg (mapL (frzC i sh l) xs)
  | v => v
@[reducible] def frzE (i : Nat) (sh : Sh) (l : List sh.den) : Ent → Ent
  | .one v => .one (frzV i sh l v)
  | .tup vs => .tup (mapL (frzV i sh l) vs)
@[reducible] def frzR (i : Nat) (sh : Sh) (l : List sh.den) : Res → Res
  | .blk t cs => .blk t (mapL (frzC i sh l) cs)
  | r => r
@[reducible] def frzEnv (i : Nat) (sh : Sh) (l : List sh.den) : List (Nat × Gd × Ent) → List (Nat × Gd × Ent)
  | [] => []
  | (k, g, e) :: r => (k, g, frzE i sh l e) :: frzEnv i sh l r
@[reducible] def frzT (i : Nat) (sh : Sh) (l : List sh.den) : List (Gd × Res) → List (Gd × Res)
  | [] => []
  | (g, r) :: t => (g, frzR i sh l r) :: frzT i sh l t
@[reducible] def frzS (s : St) (i : Nat) : St := match nthL s.T i with
  | some ([], .row _ sh l) => { s with T := setL (frzT i sh l s.T) i ([], .gone), env := frzEnv i sh l s.env }
  | _ => s
@[reducible] def frzAll (s : St) : List Nat → St
  | [] => s
  | i :: r => frzAll (frzS s i) r
@[reducible] def rowsC : List SC → List Nat → List Nat
  | [], r => r
  | x :: xs, r => match x with
    | .row i => i :: rowsC xs r
    | _ => rowsC xs r
@[reducible] def rowsOf (cx : Cx) (s : St) : List (Nat × Operand) → List Nat
  | [] => []
  | (_, x) :: r => match getE cx s [] x with
    | some (.one (.c (.row i))) => i :: rowsOf cx s r
    | some (.one (.agg xs)) => rowsC xs (rowsOf cx s r)
    | _ => rowsOf cx s r

@[reducible] def extP (cx : Cx) (s : St) (o : Oper) (K : St → Prop) : Option Prop := match o.guard with
  | some _ => none
  | none => match o.op with
    | .slice t x lo hi mx => match mx with
      | some m => match isZ0 m with
        | true => some (empK cx s o.dst t x lo hi K)
        | false => none
      | none => match getE cx s [] x with
        | some (.one (.c (.row i))) => some (truncK cx s o.dst t i lo hi K)
        | some (.one (.c (.v (.slice none 0 0)))) => some (nilK cx s o.dst t lo hi K)
        | _ => none
    | .binOp op t x y t' => match isEqOp op with
      | none => none
      | some eq => match getE cx s [] y with
        | some (.one (.c (.v (.slice none 0 0)))) => match getE cx s [] x with
          | some (.one (.c z)) => match andB (slLike z) (isSlD cx t) with
            | true => some (nilEqK s o.dst eq z K)
            | false => none
          | _ => none
        | _ => none
    | .call c => match c.callee with
      | .builtin .append => match tl c.args with
        | [x, y] => match tl c.argTypes with
          | [t, t'] => match Nat.beq t t' with
            | true => none
            | false => match getE cx s [] x with
              | some (.one (.c (.v (.slice none 0 0)))) => some (appZK cx s o.dst t t' y K)
              | _ => none
          | _ => none
        | _ => none
      | .builtin .cap => match tl c.args with
        | [x] => match tl c.argTypes with
          | [t] => some (capK cx s o.dst t x K)
          | _ => none
        | _ => none
      | .builtin .max => match tl c.args with
        | [x, y] => some (maxK cx s o.dst x y K)
        | _ => none
      | _ => none
    | .buildSlice t n ps => match rowsOf cx s (tl ps) with
      | [] => none
      | i :: r => some (buildSliceK cx (frzAll s (i :: r)) [] o.dst t n (tl ps) K)
    | _ => none

section
variable {cx : Cx} {P : Program} {N : Nat} {B : Base} {h0 : FH} {s : St} {h : FH} {β : List RV} {w : World} {a : Act} {o : Oper} {K : St → Prop}

theorem frz_one {h h' : FH} {β : List RV} {i : Nat} {sh : Sh} {l : List sh.den} {v : Value} (le : h.le h') (hu : β[i]? = some (.row v)) (sl : SlAt h' (Rd h' sh) v l) {x : SC} {y : Value} (c : CnC h β x y) : CnC h' β (frzC i sh l x) y := by
  unfold frzC
  split
  · rename_i j
    split
    · rename_i hj
      have := Nat.eq_of_beq_eq_true hj; subst this
      have e : β[i]? = some (.row y) := c
      rw [hu] at e; cases e; exact sl
    · exact CnC.mono (x := .row j) le (Ext.refl β) c
  · split
    · trivial
    · exact c.mono le (Ext.refl β)
  · split
    · trivial
    · exact c.mono le (Ext.refl β)
  · exact c.mono le (Ext.refl β)
theorem frz_all {h h' : FH} {β : List RV} {i : Nat} {sh : Sh} {l : List sh.den} {v : Value} (le : h.le h') (hu : β[i]? = some (.row v)) (sl : SlAt h' (Rd h' sh) v l) : ∀ {xs : List SC} {ys : List Value},
    All2 (fun x y => CnC h β x y ∧ oneC y) xs ys → All2 (fun x y => CnC h' β x y ∧ oneC y) (mapL (frzC i sh l) xs) ys
  | [], [], _ => trivial
  | _ :: _, _ :: _, ⟨a, b⟩ => ⟨⟨frz_one le hu sl a.1, a.2⟩, frz_all le hu sl b⟩
theorem frz_v {h h' : FH} {β : List RV} {i : Nat} {sh : Sh} {l : List sh.den} {v : Value} (le : h.le h') (hu : β[i]? = some (.row v)) (sl : SlAt h' (Rd h' sh) v l) : ∀ {x : SV} {y : Value}, CnV h β x y → CnV h' β (frzV i sh l x) y
  | .c _, _, c => ⟨frz_one le hu sl c.1, c.2⟩
  | .agg _, _, ⟨ys, e, a⟩ => ⟨ys, e, frz_all le hu sl a⟩
  | .dat s _, _, ⟨g, cs, e, r⟩ => ⟨g, cs, e, r.mono le s⟩
  | .und, _, c => c
theorem frz_e {h h' : FH} {β : List RV} {i : Nat} {sh : Sh} {l : List sh.den} {v : Value} (le : h.le h') (hu : β[i]? = some (.row v)) (sl : SlAt h' (Rd h' sh) v l) : ∀ {x : Ent} {y : Value}, CnE h β x y → CnE h' β (frzE i sh l x) y
  | .one _, _, c => frz_v le hu sl c
  | .tup _, _, ⟨ys, e, a⟩ => ⟨ys, e, go a⟩
where
  go : ∀ {xs : List SV} {ys : List Value}, All2 (CnV h β) xs ys → All2 (CnV h' β) (mapL (frzV i sh l) xs) ys
    | [], [], _ => trivial
    | _ :: _, _ :: _, ⟨a, b⟩ => ⟨frz_v le hu sl a, go b⟩
theorem frz_holds {h h' : FH} {β : List RV} {w : World} {i : Nat} {sh : Sh} {l : List sh.den} {v : Value} (le : h.le h') (hu : β[i]? = some (.row v)) (sl : SlAt h' (Rd h' sh) v l) : ∀ {r : Res} {u : RV}, Holds h β w r u → Holds h' β w (frzR i sh l r) u
  | .blk _ _, .blk _, ⟨ys, e, a⟩ => ⟨ys, e, frz_all le hu sl a⟩
  | .row _ s _, .row _, .inl e => .inl e
  | .row _ s _, .row _, .inr (.inl e) => .inr (.inl e)
  | .row _ s _, .row _, .inr (.inr ⟨g, cap, cur, e, q1, q2, q3, q4, q5⟩) => .inr (.inr ⟨g, cap, cur, e, q1, q2, q3, q4, q5.mono fun _ _ => Rd.mono le s⟩)
  | .obj _ s _, .blk _, ⟨ys, e, r⟩ => ⟨ys, e, r.mono le s⟩
  | .gone, _, _ => trivial
theorem frzR_live (i : Nat) (sh : Sh) (l : List sh.den) (r : Res) : (frzR i sh l r).live = r.live := by cases r <;> rfl

theorem lkE_frz {i : Nat} {sh : Sh} {l : List sh.den} : ∀ {env : List (Nat × Gd × Ent)} {t : Nat} {G : Gd} {e : Ent}, lkE (frzEnv i sh l env) t = some (G, e) → ∃ e0, lkE env t = some (G, e0) ∧ e = frzE i sh l e0
  | [], _, _, _, h => by simp [frzEnv, lkE] at h
  | (k, g, e0) :: r, t, G, e, h => by
    simp only [frzEnv] at h
    rw [lkE_cons] at h ⊢
    split at h
    · rename_i hk; cases h; exact ⟨e0, by rw [if_pos hk], rfl⟩
    · rename_i hk; rw [if_neg hk]; exact lkE_frz h
theorem lkE_frz' {i : Nat} {sh : Sh} {l : List sh.den} : ∀ {env : List (Nat × Gd × Ent)} {t : Nat} {G : Gd} {e : Ent}, lkE env t = some (G, e) → lkE (frzEnv i sh l env) t = some (G, frzE i sh l e)
  | [], _, _, _, h => by simp [lkE] at h
  | (k, g, e0) :: r, t, G, e, h => by
    simp only [frzEnv]
    rw [lkE_cons] at h ⊢
    split at h
    · rename_i hk; cases h; rw [if_pos hk]
    · rename_i hk; rw [if_neg hk]; exact lkE_frz' h
theorem eff_frz (gl : List Bool) (i : Nat) (sh : Sh) (l : List sh.den) : ∀ {T : List (Gd × Res)}, eff gl (frzT i sh l T) = (eff gl T).map (frzR i sh l)
  | [] => rfl
  | (g, r) :: t => by
    simp only [frzT, eff, List.map_cons, eff_frz gl i sh l (T := t)]
    congr 1
    cases gv gl g <;> rfl
theorem frzT_gd {i : Nat} {sh : Sh} {l : List sh.den} {p : Gd × Res} : ∀ {T : List (Gd × Res)}, p ∈ frzT i sh l T → ∃ q ∈ T, q.1 = p.1
  | [], h => by simp [frzT] at h
  | (g, r) :: t, h => by
    simp only [frzT, List.mem_cons] at h
    rcases h with rfl | h
    · exact ⟨(g, r), by simp, rfl⟩
    · obtain ⟨q, h1, h2⟩ := frzT_gd h; exact ⟨q, by simp [h1], h2⟩

theorem Sat.frz1 (sat : Sat N B h0 s h β w a) (i : Nat) : ∃ h', h.le h' ∧ Sat N B h0 (frzS s i) h' β w a := by
  unfold frzS
  split
  · rename_i t sh l hT
    have hT' : (eff s.gl s.T)[i]? = some (.row t sh l) := by rw [eff_get, ← nthL_eq, hT]; rfl
    cases hu : β[i]? with
    | none =>
      have h1 := (List.getElem?_eq_some_iff.1 hT').1
      have h2 := sat.ok.len
      have := List.getElem?_eq_none_iff.1 hu
      omega
    | some u =>
      have hold := sat.ok.holds i _ _ hT' hu
      cases u with
      | blk b => exact hold.elim
      | no => exact hold.elim
      | row v =>
        obtain ⟨h', le, ok', sl⟩ := sat.ok.freeze hT' hu
        refine ⟨h', le, ?_, ?_, ?_, sat.defers, sat.sz, ?_, ?_⟩
        · show OK B h0 (eff s.gl (setL (frzT i sh l s.T) i ([], .gone))) h' β w
          rw [eff_set, eff_frz]
          have key : ∀ {j : Nat} {r : Res}, (((eff s.gl s.T).map (frzR i sh l)).set i .gone)[j]? = some r → ∃ r0, ((eff s.gl s.T).set i .gone)[j]? = some r0 ∧ r = frzR i sh l r0 := by
            intro j r e
            by_cases hj : j = i
            · subst hj
              have hlt : j < (eff s.gl s.T).length := (List.getElem?_eq_some_iff.1 hT').1
              rw [List.getElem?_set_self (by simpa using hlt)] at e
              cases e
              exact ⟨.gone, by rw [List.getElem?_set_self hlt], rfl⟩
            · rw [List.getElem?_set_ne (Ne.symm hj), List.getElem?_map] at e
              cases hj' : (eff s.gl s.T)[j]? with
              | none => rw [hj'] at e; cases e
              | some r0 => rw [hj'] at e; cases e; exact ⟨r0, by rw [List.getElem?_set_ne (Ne.symm hj)]; exact hj', rfl⟩
          exact {
            below := ok'.below
            dr := ok'.dr
            len := by have := ok'.len; simpa using this
            holds := fun j r v' e e' => by
              obtain ⟨r0, e0, rfl⟩ := key e
              by_cases hj : j = i
              · subst hj
                have hlt : j < (eff s.gl s.T).length := (List.getElem?_eq_some_iff.1 hT').1
                rw [List.getElem?_set_self hlt] at e0
                cases e0; cases v' <;> trivial
              · rw [List.getElem?_set_ne (Ne.symm hj)] at e0
                exact frz_holds le hu sl (sat.ok.holds j r0 v' e0 e')
            own := fun j r v' b e hl e' hb => by
              obtain ⟨r0, e0, rfl⟩ := key e
              exact ok'.own j r0 v' b e0 (by rw [← frzR_live i sh l]; exact hl) e' hb
            inj := fun j k r1 r2 u v' b e1 l1 e2 l2 e3 e4 b1 b2 => by
              obtain ⟨r0, f1, rfl⟩ := key e1
              obtain ⟨r0', f2, rfl⟩ := key e2
              exact ok'.inj j k r0 r0' u v' b f1 (by rw [← frzR_live i sh l]; exact l1) f2 (by rw [← frzR_live i sh l]; exact l2) e3 e4 b1 b2
            hle := ok'.hle
            hw := ok'.hw
            hg := ok'.hg
            kn := ok'.kn }
        · intro t' G e ht
          obtain ⟨e0, h1, rfl⟩ := lkE_frz ht
          obtain ⟨z, q1, q2, q3⟩ := sat.env t' G e0 h1
          exact ⟨z, q1, fun hG => frz_e le hu sl (q2 hG), q3⟩
        · intro d j hj
          obtain ⟨G, b, q1, q2⟩ := sat.gs d j hj
          exact ⟨G, b, lkE_frz' q1, q2⟩
        · intro t' G e ht
          obtain ⟨e0, h1, rfl⟩ := lkE_frz ht
          exact sat.gb t' G e0 h1
        · intro p hp
          simp only at hp
          rw [setL_eq] at hp
          rcases List.mem_or_eq_of_mem_set hp with hp | hp
          · obtain ⟨q, h1, h2⟩ := frzT_gd hp
            rw [← h2]; exact sat.gT q h1
          · subst hp; rfl
  · exact ⟨h, FH.le.refl h, sat⟩

theorem Sat.frz : ∀ {l : List Nat} {s : St} {h : FH}, Sat N B h0 s h β w a → ∃ h', h.le h' ∧ Sat N B h0 (frzAll s l) h' β w a
  | [], s, h, sat => ⟨h, FH.le.refl h, sat⟩
  | i :: r, s, h, sat => by
    obtain ⟨h1, le1, sat1⟩ := sat.frz1 i
    obtain ⟨h2, le2, sat2⟩ := Sat.frz (l := r) sat1
    exact ⟨h2, le1.trans le2, sat2⟩

theorem OpW.le {h h' : FH} {b : Bool} (le : h.le h') (k : OpW P N B h0 h' w a o b K) : OpW P N B h0 h w a o b K := fun Nx Q next => k Nx Q fun s' h2 β' w' v k' le' sat => next s' h2 β' w' v k' (le.trans le') sat

theorem slc_form {h : FH} {β : List RV} {y : SC} {v : Value} (hy : isSlC y = true) (c : CnC h β y v) : ∃ ad len cap, v = .slice ad len cap ∧ len ≤ cap ∧ (ad = none → len = 0 ∧ cap = 0) := by
  unfold isSlC at hy
  split at hy
  · rcases c with ⟨rfl, _⟩ | ⟨ad, cap, rfl, _⟩ | ⟨b, off, cap, rfl, h1, _⟩
    · exact ⟨none, 0, 0, rfl, Nat.le_refl _, fun _ => ⟨rfl, rfl⟩⟩
    · exact ⟨some ad, 0, cap, rfl, Nat.zero_le _, fun h => by cases h⟩
    · exact ⟨_, _, cap, rfl, h1, fun h => by cases h⟩
  · split at hy
    · obtain ⟨rfl, _⟩ := c; exact ⟨none, 0, 0, rfl, Nat.le_refl _, fun _ => ⟨rfl, rfl⟩⟩
    · cases hy
  · cases hy

theorem emp_step (hc : TisOK P cx.ti) (sat : Sat N B h0 s h β w a) (hg : GlobOK cx.gd h) (hd : dOK N o.dst = true) {t : TypeId} {x m : Operand} {lo hi : Option Operand} (ho : o.op = .slice t x lo hi (some m)) (hm : isZ0 m = true)
    (k : empK cx s o.dst t x lo hi K) : OpW P N B h0 h w a o true K := by
  have tr : gv s.gl [] = true := rfl
  unfold empK at k
  split at k
  · rename_i el hde
    have hu := descOf_und hc hde (by simp)
    split at k
    · exact k.elim
    rename_i ie hie
    have tie := hc.get hie
    split at k
    · exact k.elim
    rename_i sh hsh
    split at k
    · rename_i y hy
      split at k
      · rename_i hz
        rw [andB_eq, andB_eq, Bool.and_eq_true, Bool.and_eq_true] at hz
        obtain ⟨hz1, hz2, hz3⟩ := hz
        have cy := (getE_ok sat hg tr hy : CnV h β (.c y) (a.eval x))
        obtain ⟨ad, len, cap, ev, hle, hnil⟩ := slc_form hz1 cy.1
        obtain ⟨km, rfl⟩ := isZ0_eq hm
        obtain ⟨hx, rfl⟩ : ∃ x, hi = some x := by cases hi with | none => simp [isZS] at hz3 | some x => exact ⟨x, rfl⟩
        obtain ⟨kh, rfl⟩ := isZ0_eq (show isZ0 hx = true from hz3)
        have run : (Instr.sliceAt t (a.eval x) (lo.map a.eval) ((some (Operand.const (.int kh 0))).map a.eval) ((some (Operand.const (.int km 0))).map a.eval)).run P w = .ok (.slice ad 0 0) w := by
          rw [ev]
          have e1 : (Instr.sliceBounds true len cap (lo.map a.eval) (some (.int kh 0)) (some (.int km 0))).run P w = .ok (0, 0, 0) w := by
            cases lo with
            | none => simp [Instr.sliceBounds, Instr.sliceBound, asIntOf]
            | some z =>
              obtain ⟨kz, rfl⟩ := isZ0_eq (show isZ0 z = true from hz2)
              simp [Instr.sliceBounds, Instr.sliceBound, asIntOf, Act.eval]
          simp only [Instr.sliceAt, Instr.slice, Sem.run_bind, run_underlying hu, Result.andThen_ok, Option.map_some, Act.eval, e1, run_sizeOf tie, Sem.run_pure]
          simp
        have nw := new_step (P := P) sat (o := o) (G := []) rfl hd (r := .row el sh []) (e := .one (.c (.row (lenL s.T)))) (K := K) k fun _ =>
          ⟨.slice ad 0 0, w, .row (.slice ad 0 0), by simp only [execOp, ho, Sem.run_bind]; rw [run]; rfl, grown_refl _ _, fun b hb => by cases ad <;> simp [RV.block, rowBlk] at hb, by
            cases ad with
            | none => exact .inl ⟨rfl, rfl⟩
            | some ad => exact .inr (.inl ⟨ad, rfl, rfl⟩), by
            refine ⟨last_ref (sat_len sat) _, rfl, rfl⟩⟩
        exact nw.weak
      · exact k.elim
    · exact k.elim
  · exact k.elim

theorem val_step (sat : Sat N B h0 s h β w a) (hd : dOK N o.dst = true) {v : Value} {e : Ent} (run : (execOp a.eval o).run P w = .ok (.value v) w) (c : CnE h β e v) (k : K (s.put o.dst [] e)) : OpW P N B h0 h w a o true K := by
  intro Nx Q next
  rw [if_pos rfl]
  exact wp_value run (next _ _ _ _ _ k (FH.le.refl h) (sat.put (dOK_lt hd) rfl (fun _ => c) fun hh => by cases hh))

theorem trunc_step (hc : TisOK P cx.ti) (sat : Sat N B h0 s h β w a) (hg : GlobOK cx.gd h) (hd : dOK N o.dst = true) {t : TypeId} {x : Operand} {lo hi : Option Operand} {i : Nat} (ho : o.op = .slice t x lo hi none)
    (hx : getE cx s [] x = some (.one (.c (.row i)))) (k : truncK cx s o.dst t i lo hi K) : OpW P N B h0 h w a o true K := by
  have tr : gv s.gl [] = true := rfl
  unfold truncK at k
  split at k
  · rename_i el hde
    have hu := descOf_und hc hde (by simp)
    split at k
    · exact k.elim
    rename_i ie hie
    have tie := hc.get hie
    split at k
    · exact k.elim
    rename_i hlo
    split at k
    · exact k.elim
    rename_i hh
    split at k
    · rename_i ik n hn
      split at k
      · rename_i el' sh l hT
        obtain ⟨hb, k⟩ := k
        have ch := (getE_ok sat hg tr hn : CnV h β (.c (.v (.int ik n))) (a.eval hh))
        have eh : a.eval hh = .int ik n := ch.1.1
        have cr := (getE_ok sat hg tr hx : CnV h β (.c (.row i)) (a.eval x))
        have hβ : β[i]? = some (.row (a.eval x)) := cr.1
        have hold := sat.ok.holds i _ _ (effres hT tr) hβ
        have hi' : i < β.length := (List.getElem?_eq_some_iff.1 hβ).1
        have hlo' : (lo.map a.eval = none ∧ (0 : Int) = 0) ∨ ∃ k, lo.map a.eval = some (.int k 0) := by
          cases lo with
          | none => exact .inl ⟨rfl, rfl⟩
          | some z =>
            obtain ⟨kz, rfl⟩ := isZ0_eq (show isZ0 z = true from hlo)
            exact .inr ⟨kz, rfl⟩
        have run : ∀ (ad : Option Addr) (cap : Nat), a.eval x = .slice ad l.length cap → l.length ≤ cap → (execOp a.eval o).run P w = .ok (.value (.slice ad n.toNat cap)) w := by
          intro ad cap ev hle
          have := run_bounds (P := P) (w := w) (isS := true) (len := l.length) (cap := cap) (lo := lo.map a.eval) (hi := some (.int ik n)) (a := 0) (b := n) hlo' (.inr ⟨ik, rfl⟩) (by omega) hle
          have r2 : (Instr.sliceAt t (a.eval x) (lo.map a.eval) ((some hh).map a.eval) none).run P w = .ok (.slice ad n.toNat cap) w := by
            rw [ev]
            simp only [Instr.sliceAt, Instr.slice, Sem.run_bind, run_underlying hu, Result.andThen_ok, Option.map_some, eh, this, run_sizeOf tie, Sem.run_pure]
            cases ad <;> simp [Addr.add]
          simp only [execOp, ho, Sem.run_bind, Option.map_none]
          rw [r2]; rfl
        have fin : ∀ (v' : Value), (execOp a.eval o).run P w = .ok (.value v') w → (∀ b, rowBlk v' = some b → rowBlk (a.eval x) = some b) → Holds h (β.set i (.row v')) w (.row el' sh (l.take n.toNat)) (.row v') → oneC v' → OpW P N B h0 h w a o true K := by
          intro v' r hv hold' h1
          intro Nx Q next
          rw [if_pos rfl]
          refine wp_value r (next _ _ _ _ _ k (FH.le.refl h) ((jk_sat sat hT rfl hβ (grown_refl _ _) (v := .row v') (fun b hb => .inl (hv b hb)) hold').put (dOK_lt hd) rfl (fun _ => ⟨?_, h1⟩) fun hh => by cases hh))
          show (β.set i (.row v'))[i]? = some (.row v')
          rw [List.getElem?_set_self hi']
        rcases hold with ⟨ev, hl⟩ | ⟨ra, ev, hl⟩ | ⟨g, cap, cur, ev, q1, q2, q3, q4, q5⟩
        · have hn0 : n.toNat = 0 := by rw [hl] at hb; simp at hb; omega
          refine fin _ (run none 0 (by rw [ev, hl]; rfl) (by rw [hl]; exact Nat.le_refl _)) (fun b hb => by simp [rowBlk] at hb) (.inl ⟨by rw [hn0], by rw [hl]; simp⟩) ⟨rfl, rfl⟩
        · have hn0 : n.toNat = 0 := by rw [hl] at hb; simp at hb; omega
          refine fin _ (run (some ra) 0 (by rw [ev, hl]; rfl) (by rw [hl]; exact Nat.le_refl _)) (fun b hb => by simp [rowBlk] at hb) (.inr (.inl ⟨ra, by rw [hn0], by rw [hl]; simp⟩)) ⟨rfl, rfl⟩
        · have hlen : (l.take n.toNat).length = n.toNat := by rw [List.length_take]; omega
          refine fin _ (run (some ⟨g, 0, none⟩) cap ev q2) (fun b hb => by rw [ev, rowBlk_own q3.1]; rw [rowBlk_own q3.1] at hb; exact hb) (.inr (.inr ⟨g, cap, cur, by rw [hlen], q1, by rw [hlen]; omega, q3, q4, ?_⟩)) ⟨rfl, rfl⟩
          have := RdL.takeDrop (fun _ _ => Rd.size sh) q5 (a := 0) (b := n.toNat) (Nat.zero_le _) (by omega)
          simp only [Nat.zero_mul, List.drop_zero] at this
          rw [hlen]
          rw [List.take_take, Nat.min_eq_left (Nat.mul_le_mul_right _ (by omega))] at this
          exact this
      · exact k.elim
    · exact k.elim
  · exact k.elim

theorem nil_step (hc : TisOK P cx.ti) (sat : Sat N B h0 s h β w a) (hg : GlobOK cx.gd h) (hd : dOK N o.dst = true) {t : TypeId} {x : Operand} {lo hi : Option Operand} (ho : o.op = .slice t x lo hi none)
    (hx : getE cx s [] x = some (.one (.c (.v (.slice none 0 0))))) (k : nilK cx s o.dst t lo hi K) : OpW P N B h0 h w a o true K := by
  have tr : gv s.gl [] = true := rfl
  unfold nilK at k
  split at k
  · rename_i el hde
    have hu := descOf_und hc hde (by simp)
    split at k
    · exact k.elim
    rename_i ie hie
    have tie := hc.get hie
    split at k
    · exact k.elim
    rename_i p hp
    split at k
    · exact k.elim
    rename_i q hq
    obtain ⟨hb, k⟩ := k
    have cx' := (getE_ok sat hg tr hx : CnV h β (.c (.v (.slice none 0 0))) (a.eval x))
    have ev : a.eval x = .slice none 0 0 := cx'.1.1
    have bnd : ∀ {o : Option Operand} {n : Int}, bndE cx s [] o 0 = some n → (o.map a.eval = none ∧ n = 0) ∨ ∃ k, o.map a.eval = some (.int k n) := by
      intro o n e
      rcases bndE_ok sat hg tr e with ⟨rfl, rfl⟩ | ⟨x, ik, rfl, e'⟩
      · exact .inl ⟨rfl, rfl⟩
      · exact .inr ⟨ik, by simp [e']⟩
    have := run_bounds (P := P) (w := w) (isS := true) (len := 0) (cap := 0) (bnd hp) (bnd hq) (by simpa using hb) (Nat.le_refl _)
    refine val_step sat hd (v := .slice none 0 0) (e := .one (.c (.v (.slice none 0 0)))) ?_ ⟨⟨rfl, rfl, rfl⟩, rfl, rfl⟩ k
    have h1 : p.toNat = 0 := by omega
    have h2 : q.toNat = 0 := by omega
    have r2 : (Instr.sliceAt t (a.eval x) (lo.map a.eval) (hi.map a.eval) none).run P w = .ok (.slice none 0 0) w := by
      rw [ev]
      simp only [Instr.sliceAt, Instr.slice, Sem.run_bind, run_underlying hu, Result.andThen_ok, this, run_sizeOf tie, Sem.run_pure, h1, h2]
      simp
    simp only [execOp, ho, Sem.run_bind, Option.map_none]
    rw [r2]; rfl
  · exact k.elim

theorem cap_step (hc : TisOK P cx.ti) (sat : Sat N B h0 s h β w a) (hg : GlobOK cx.gd h) (hd : dOK N o.dst = true) {t : TypeId} {x : Operand} {c : Call} (ho : o.op = .call c) (hcal : c.callee = .builtin .cap) (ha : c.args = #[x]) (ht : c.argTypes = #[t])
    (k : capK cx s o.dst t x K) : OpW P N B h0 h w a o true K := by
  have tr : gv s.gl [] = true := rfl
  unfold capK at k
  split at k
  · rename_i el hde
    have hu := descOf_und hc hde (by simp)
    split at k
    · rename_i hx
      have cx' := (getE_ok sat hg tr hx : CnV h β (.c (.v (.slice none 0 0))) (a.eval x))
      have ev : a.eval x = .slice none 0 0 := cx'.1.1
      refine val_step sat hd (v := goInt 0) (e := vI .i64 0) ?_ ⟨⟨rfl, oneC_int _ _⟩, oneC_int _ _⟩ k
      simp [execOp, ho, resolve, hcal, ha, ht, invoke, builtin, ev, Builtin.cap_, run_underlying hu]
    · exact k.elim
  · exact k.elim

theorem max_step (sat : Sat N B h0 s h β w a) (hg : GlobOK cx.gd h) (hd : dOK N o.dst = true) {x y : Operand} {c : Call} (ho : o.op = .call c) (hcal : c.callee = .builtin .max) (ha : c.args = #[x, y])
    (k : maxK cx s o.dst x y K) : OpW P N B h0 h w a o true K := by
  have tr : gv s.gl [] = true := rfl
  unfold maxK at k
  split at k
  · rename_i n hx
    have ex : a.eval x = .int .i64 n := (getE_ok sat hg tr hx : CnV h β (.c (.v (.int .i64 n))) (a.eval x)).1.1
    split at k
    · rename_i m hy
      have ey : a.eval y = .int .i64 m := (getE_ok sat hg tr hy : CnV h β (.c (.v (.int .i64 m))) (a.eval y)).1.1
      refine val_step sat hd (v := .int .i64 (maxI n m)) (e := vI .i64 (maxI n m)) ?_ ⟨⟨rfl, oneC_int _ _⟩, oneC_int _ _⟩ k
      simp [execOp, ho, resolve, hcal, ha, invoke, builtin, ex, ey, Builtin.max_, Builtin.max2, maxI]
    · exact k.elim
  · exact k.elim

theorem run_nilEq {P : Program} {w : World} {t : TypeId} {el : TypeId} (hu : P.underlying t = some (.slice el)) (ad : Option Addr) (n c : Nat) (op : BinOp) (eq : Bool) (he : isEqOp op = some eq) (x y : Operand) :
    (eqGuard op t x y (.slice ad n c) (.slice none 0 0)).run P w = .ok () w ∧ (binOp op t (.slice ad n c) (.slice none 0 0)).run P w = .ok (.bool (cnd eq ad.isNone (!ad.isNone))) w := by
  refine ⟨eqGuard_free P op t x y (by rfl) w, ?_⟩
  have key : ∀ d, (Op.equalIn (d + 1) t (.slice ad n c) (.slice none 0 0)).run P w = .ok ad.isNone w := by
    intro d
    cases ad <;> simp [Op.equalIn, run_underlying hu]
  have k2 := key 9999
  have hq2 : Op.equal t (.slice ad n c) (.slice none 0 0) = Op.equalIn (9999 + 1) t (.slice ad n c) (.slice none 0 0) := rfl
  unfold isEqOp at he
  split at he
  · cases he
    have e : (binOp .eql t (.slice ad n c) (.slice none 0 0)).run P w = ((Op.equal t (.slice ad n c) (.slice none 0 0)).run P w).andThen fun b w => .ok (.bool b) w := by
      simp only [binOp]
      generalize Op.equal t (.slice ad n c) (.slice none 0 0) = q
      simp
    rw [e, hq2, k2]; rfl
  · cases he
    have e : (binOp .neq t (.slice ad n c) (.slice none 0 0)).run P w = ((Op.equal t (.slice ad n c) (.slice none 0 0)).run P w).andThen fun b w => .ok (.bool (!b)) w := by
      simp only [binOp]
      generalize Op.equal t (.slice ad n c) (.slice none 0 0) = q
      simp
    rw [e, hq2, k2]; rfl
  · cases he

theorem nilEq_step (hc : TisOK P cx.ti) (sat : Sat N B h0 s h β w a) (hg : GlobOK cx.gd h) (hd : dOK N o.dst = true) {t t' : TypeId} {x y : Operand} {op : BinOp} {eq : Bool} (ho : o.op = .binOp op t x y t') (he : isEqOp op = some eq)
    (hy : getE cx s [] y = some (.one (.c (.v (.slice none 0 0))))) {z : SC} (hx : getE cx s [] x = some (.one (.c z))) (hz : slLike z = true) (ht : isSlD cx t = true) (k : nilEqK s o.dst eq z K) : OpW P N B h0 h w a o true K := by
  have tr : gv s.gl [] = true := rfl
  obtain ⟨el, hu⟩ : ∃ el, P.underlying t = some (.slice el) := by
    unfold isSlD at ht
    split at ht
    · rename_i el hde; exact ⟨el, descOf_und hc hde (by simp)⟩
    · cases ht
  have cy := (getE_ok sat hg tr hy : CnV h β (.c (.v (.slice none 0 0))) (a.eval y))
  have ey : a.eval y = .slice none 0 0 := cy.1.1
  have cz := (getE_ok sat hg tr hx : CnV h β (.c z) (a.eval x))
  have exec : ∀ ad n c, a.eval x = .slice ad n c → (execOp a.eval o).run P w = .ok (.value (.bool (cnd eq ad.isNone (!ad.isNone)))) w := by
    intro ad n c e
    obtain ⟨g1, g2⟩ := run_nilEq (P := P) (w := w) hu ad n c op eq he x y
    simp only [execOp, ho, Sem.run_bind, e, ey, g1, g2, Result.andThen_ok, Sem.run_pure]
  have fin : ∀ ad n c (b : Bool), a.eval x = .slice ad n c → K (s.put o.dst [] (vB (cnd eq ad.isNone (!ad.isNone)))) → OpW P N B h0 h w a o true K := fun ad n c b e k =>
    val_step sat hd (e := vB (cnd eq ad.isNone (!ad.isNone))) (exec ad n c e) ⟨⟨rfl, oneC_bool _⟩, oneC_bool _⟩ k
  unfold nilEqK at k
  split at k
  · rename_i v
    unfold slLike at hz
    have ev : a.eval x = .slice none 0 0 := by
      simp only at hz
      split at hz
      · exact cz.1.1
      · cases hz
    refine fin none 0 0 true ev ?_
    cases eq <;> exact k
  · rename_i sh l
    rcases cz.1 with ⟨e, hl⟩ | ⟨ad, cap, e, hl, _⟩ | ⟨b, off, cap, e, _⟩
    · exact fin _ _ _ true e (k true fun _ => hl)
    · exact fin _ _ _ true e (k false fun hh => by cases hh)
    · exact fin _ _ _ true e (k false fun hh => by cases hh)
  · rename_i i
    split at k
    · rename_i t2 sh l hT
      have hβ : β[i]? = some (.row (a.eval x)) := cz.1
      rcases sat.ok.holds i _ _ (effres hT tr) hβ with ⟨e, hl⟩ | ⟨ra, e, hl⟩ | ⟨g, cap, cur, e, _⟩
      · exact fin _ _ _ true e (k true fun _ => hl)
      · exact fin _ _ _ true e (k false fun hh => by cases hh)
      · exact fin _ _ _ true e (k false fun hh => by cases hh)
    · exact k.elim
  · exact k.elim

theorem run_appZ {P : Program} {w : World} {t t' ty el : TypeId} {i : TypeInfo} {z : Value} (ht : P.underlying t = some (.slice el)) (ht' : P.underlying t' = some (.int .i64)) (hi : P.info? el = some i) (hz : i.zero = some z) (hs : 1 ≤ i.size) (n : Nat) (h0 : 0 < n) (h48 : n * i.bytes ≤ 140737488355328) (hb : 1 ≤ i.bytes) :
    (Builtin.append_ #[t, t'] ty #[.slice none 0 0, .int .i64 n]).run P w =
      .ok (.slice (some ⟨w.heap.size, 0, none⟩) n (grownCap w n 0 el)) (w.drew.alloc (.cells (Builtin.zeroCells z.cells n ++ Builtin.zeroCells z.cells (grownCap w n 0 el - n)) el)) := by
  have hn63 : n ≤ 140737488355328 := Nat.le_trans (Nat.le_mul_of_pos_right _ hb) h48
  have hn : n ≠ 0 := by omega
  have hw : IntKind.i64.wrap (n : Int) = n := by simp [IntKind.wrap, IntKind.bits, IntKind.signed]; omega
  have hneg : ¬ ((n : Int) < 0) := by omega
  have h48i : ¬ ((281474976710656 : Int) < (n : Int) * (i.bytes : Int)) := by
    have : ((n * i.bytes : Nat) : Int) ≤ 140737488355328 := by omega
    rw [Int.natCast_mul] at this; omega
  have h63' : ¬ (9223372036854775807 < (n : Int)) := by omega
  have h48' : ¬ (281474976710656 < Builtin.nextslicecap n 0 * i.bytes) := by rw [nextslicecap_zero h0]; omega
  have hns : ¬ (n * i.size = 0) := by
    intro hh
    rcases Nat.mul_eq_zero.1 hh with h | h <;> omega
  have hns2 : ¬ (i.size = 0) := by omega
  simp [Builtin.append_, run_underlying ht, run_underlying ht', sizeOf, typeInfo, zeroValue, hi, hz, Builtin.lenOf, hn, hw, hneg, h48i, h63', h48', Question.forced, run_firstCells_none, newRow, grownCap, asInt, asIntOf, hns, hns2]

theorem appZ_step (hc : TisOK P cx.ti) (sat : Sat N B h0 s h β w a) (hg : GlobOK cx.gd h) (hd : dOK N o.dst = true) {t t' : TypeId} {x y : Operand} {c : Call} (ho : o.op = .call c) (hcal : c.callee = .builtin .append) (ha : c.args = #[x, y]) (ht : c.argTypes = #[t, t'])
    (hx : getE cx s [] x = some (.one (.c (.v (.slice none 0 0))))) (k : appZK cx s o.dst t t' y K) : OpW P N B h0 h w a o true K := by
  have tr : gv s.gl [] = true := rfl
  unfold appZK at k
  split at k
  · rename_i hdi
    have hui := descOf_und hc hdi (by simp)
    split at k
    · rename_i el hde
      have hu := descOf_und hc hde (by simp)
      split at k
      · exact k.elim
      rename_i ie hie
      have tie := hc.get hie
      split at k
      · exact k.elim
      rename_i sh hsh
      split at k
      · rename_i hz
        rw [andB_eq, andB_eq, Bool.and_eq_true, Bool.and_eq_true] at hz
        have hz1 : sh.size = ie.size := Nat.eq_of_beq_eq_true hz.1
        have hz2 : 1 ≤ ie.bytes := Nat.le_of_ble_eq_true hz.2.1
        have hz3 : 1 ≤ ie.size := Nat.le_of_ble_eq_true hz.2.2
        split at k
        · rename_i n hn
          obtain ⟨⟨hn0, hroom⟩, k⟩ := k
          have ex : a.eval x = .slice none 0 0 := (getE_ok sat hg tr hx : CnV h β (.c (.v (.slice none 0 0))) (a.eval x)).1.1
          have ey : a.eval y = .int .i64 n := (getE_ok sat hg tr hn : CnV h β (.c (.v (.int .i64 n))) (a.eval y)).1.1
          obtain ⟨inf, z, i1, i2, i3, i4, i5⟩ := tie.info
          obtain ⟨m, rfl⟩ : ∃ m : Nat, n = m := ⟨n.toNat, by omega⟩
          rw [Int.toNat_natCast] at hroom k
          unfold InA at hroom
          refine OpOK.weak (new_step (P := P) sat (o := o) (G := []) rfl hd (r := .row el sh (List.replicate m (zdat sh))) (e := .one (.c (.row (lenL s.T)))) (K := K) k fun _ => ?_)
          by_cases hm : m = 0
          · subst hm
            refine ⟨.slice none 0 0, w, .row (.slice none 0 0), ?_, grown_refl _ _, fun b hb => by simp [RV.block, rowBlk] at hb, .inl ⟨rfl, rfl⟩, last_ref (sat_len sat) _, rfl, rfl⟩
            simp [execOp, ho, resolve, hcal, ha, ht, invoke, builtin, ex, ey, Builtin.append_, run_underlying hu, run_underlying hui, sizeOf, typeInfo, i1, asInt, asIntOf, IntKind.wrap, IntKind.bits, IntKind.signed]
          · have r := run_appZ (P := P) (w := w) (ty := o.type) hu hui i1 i4 (by omega) m (by omega) (by rw [i3]; exact hroom) (by omega)
            have hge := grownCap_ge w m 0 el
            have hle : m ≤ 140737488355328 := Nat.le_trans (Nat.le_mul_of_pos_right _ hz2) hroom
            refine ⟨.slice (some ⟨w.heap.size, 0, none⟩) m (grownCap w m 0 el), w.drew.alloc (.cells (Builtin.zeroCells z.cells m ++ Builtin.zeroCells z.cells (grownCap w m 0 el - m)) el), .row (.slice (some ⟨w.heap.size, 0, none⟩) m (grownCap w m 0 el)), ?_, ⟨⟨rfl, rfl, rfl, by simp, fun k hk _ => (World.grownBy_alloc w.drew _ none).block k hk (by simp)⟩, Nat.le_succ _⟩, ?_, ?_, last_ref (sat_len sat) _, rfl, rfl⟩
            · simp only [execOp, ho, resolve, hcal, ha, ht, invoke, builtin, Sem.run_bind, Sem.run_pure, Result.andThen_ok]
              simp [ex, ey, r]
            · intro b hb; simp [RV.block, rowBlk] at hb; obtain ⟨_, rfl⟩ := hb; simp
            · have zsz : z.cells.size = ie.size := by rw [i5]; simpa using tie.zlen
              have hzz : ∀ q, Builtin.zeroCells z.cells q = (repL q ie.zero).toArray := by
                intro q
                unfold Builtin.zeroCells
                rw [i5]
                have := zeros_eq (zero := ie.zero) (n := q) (by rw [tie.zlen]; omega)
                simpa using this
              refine .inr (.inr ⟨w.heap.size, _, _, by rw [List.length_replicate], heap_alloc_new w.drew _, by rw [List.length_replicate]; omega, ⟨by omega, grownCap_le_maxLen w m 0 el (by simp only [maxLen]; omega)⟩, ?_, ?_⟩)
              · simp only [Array.size_append, size_zeroCells, zsz, hz1, ← Nat.add_mul]; congr 1; omega
              · rw [List.length_replicate, hzz, hzz]
                simp only [Array.toList_append, List.toList_toArray]
                rw [List.take_append_of_le_length (by rw [repL_len, tie.zlen, hz1]; exact Nat.le_refl _), hz1, ← tie.zlen, repL_take (Nat.le_refl _)]
                exact RdL_rep (Rd_empty (tie.zshp sh hsh).1) _
        · exact k.elim
      · exact k.elim
    · exact k.elim
  · exact k.elim

theorem extP_ok (hc : TisOK P cx.ti) (sat : Sat N B h0 s h β w a) (hg : GlobOK cx.gd h) (hd : dOK N o.dst = true) {ops : Array Oper} {p : Prop} (e : extP cx s o K = some p) (k : p) : OpW P N B h0 h w a o (Region.wanted o (yielded ops a.tmps)) K := by
  unfold extP at e
  split at e
  · cases e
  rename_i hgd
  rw [show Region.wanted o (yielded ops a.tmps) = true by simp [Region.wanted, hgd]]
  split at e
  · rename_i t x lo hi mx ho
    split at e
    · rename_i m
      split at e
      · rename_i hm
        cases e
        exact emp_step hc sat hg hd ho hm k
      · cases e
    · split at e
      · rename_i i hx
        cases e
        exact trunc_step hc sat hg hd ho hx k
      · rename_i hx
        cases e
        exact nil_step hc sat hg hd ho hx k
      · cases e
  · rename_i op t x y t' ho
    split at e
    · cases e
    · rename_i eq he
      split at e
      · rename_i hy
        split at e
        · rename_i z hx
          split at e
          · rename_i hz
            rw [andB_eq, Bool.and_eq_true] at hz
            cases e
            exact nilEq_step hc sat hg hd ho he hy hx hz.1 hz.2 k
          · cases e
        · cases e
      · cases e
  · rename_i c ho
    split at e
    · rename_i hcal
      split at e
      · rename_i x y ha
        split at e
        · rename_i t t' ht
          split at e
          · cases e
          · split at e
            · rename_i hx
              cases e
              exact appZ_step hc sat hg hd ho hcal (tl_eq ha) (tl_eq ht) hx k
            · cases e
        · cases e
      · cases e
    · rename_i hcal
      split at e
      · rename_i x ha
        split at e
        · rename_i t ht
          cases e
          exact cap_step hc sat hg hd ho hcal (tl_eq ha) (tl_eq ht) k
        · cases e
      · cases e
    · rename_i hcal
      split at e
      · rename_i x y ha
        cases e
        exact max_step sat hg hd ho hcal (tl_eq ha) k
      · cases e
    · cases e
  · rename_i t n ps ho
    split at e
    · cases e
    · rename_i i r hr
      cases e
      obtain ⟨h', le, sat'⟩ := sat.frz (l := i :: r)
      have := buildSlice_step hc sat' (hg.mono le) (G := []) rfl hd ho k
      exact OpW.le le this.weak
  · cases e
end
end Go.Eng
set_option linter.unusedSimpArgs false
set_option linter.unusedVariables false
namespace Go.Eng
open Go Go.RowKit

/-- The widest fence, in a round or not. -/
def Wd (F : Fence) : Prop := F = Fence.wide ∨ ∃ l, F = Fence.wide.inRound l
theorem Wd.fn {F : Fence} (h : Wd F) (f : FuncId) : F.fn f := by rcases h with rfl | ⟨l, rfl⟩ <;> trivial
theorem Wd.depth {F : Fence} (h : Wd F) : F.depth = none := by rcases h with rfl | ⟨l, rfl⟩ <;> rfl
theorem Wd.calls {F : Fence} (hF : Wd F) {n : Nat} {P : Program} {f : FuncId} {args : Array Value} {w : World} {R : Ending → World → Prop} (h : Calls P f args w R) : CallsIn F n P f args w R := by
  rcases hF with rfl | ⟨l, rfl⟩
  · exact callsIn_wide.2 h
  · exact (callsIn_wide.2 h : CallsIn Fence.wide n P f args w R).inRound l

@[reducible] def notDef : Op → Bool
  | .defer _ => false
  | _ => true
@[reducible] def ndL : List Oper → Bool
  | [] => true
  | o :: l => andB (notDef o.op) (ndL l)

section
variable {F : Fence} {n : Nat} {P : Program} {ops : Array Oper} {md : Region.Mode}

theorem wp_In (hF : Wd F) {o : Oper} (hd : notDef o.op = true) {a : Act} {w : World} {Nx : Act → World → Prop} {Q Q' : Exit → Act → World → Prop} (h : o.wp P a w Nx noQ) : o.wpIn F n P a w Nx Q' := by
  refine ⟨fun f _ => hF.fn f, ?_⟩
  rw [Oper.semAt_eq _ _ _ (fun c hc => by rw [hc] at hd; cases hd)]
  unfold Oper.wp at h
  generalize (execOp a.eval o).run P w = r at *
  cases r with
  | ok m w' =>
    cases m <;> simp only [Oper.upon] at h <;> simp only [Oper.uponIn]
    case enter f args =>
      refine ⟨fun hh => (by rw [hF.depth] at hh; cases hh), hF.calls (h.mono fun e w'' he => ?_)⟩
      cases e with
      | returned v => exact he
      | panicked c => exact False.elim he
      | outgrown => exact letsOut_no he
    case row row args =>
      refine ⟨fun hh => (by rw [hF.depth] at hh; cases hh), fun c cs _ => ?_⟩
      obtain ⟨v, w'', hr, hs⟩ := h c cs
      refine ⟨v, w'', hr, ?_⟩
      have : StepsIn (Machine.fenced P Fence.wide) P (lone (Frame.ofRow P row args .normal) (c :: cs) w') (lone (c.finish v) cs w'') := stepsIn_wide.2 hs
      rcases hF with rfl | ⟨l, rfl⟩
      · exact this
      · exact this
    all_goals first | exact h | exact h.elim
  | halt x w' => cases x <;> simp only [Oper.upon] at h <;> first | exact h.elim | exact False.elim h

/-- A region's operations in the order in which they stand. -/
def wpL (P : Program) (ops : Array Oper) (R : Act → World → Prop) : List Oper → Act → World → Prop
  | [], a, w => R a w
  | o :: rest, a, w => if Region.wanted o (yielded ops a.tmps) = true then o.wp P a w (wpL P ops R rest) noQ else wpL P ops R rest (a.put o.dst undef) w

theorem wpL_In (hF : Wd F) {R : Act → World → Prop} {Q : Exit → Act → World → Prop} (hR : ∀ a w, R a w → Q .normal a w) : ∀ (l : List Oper) (k : Nat) (a : Act) (w : World), (∀ j, l[j]? = ops[k + j]?) → ndL l = true → wpL P ops R l a w →
    wpOpsIn F n P ops Q (List.range' k l.length) a w
  | [], k, a, w, _, _, h => hR _ _ h
  | o :: l, k, a, w, hl, hn, h => by
    have h0 : ops[k]? = some o := by simpa using (hl 0).symm
    simp only [ndL, andB_eq, Bool.and_eq_true] at hn
    have ih : ∀ a w, wpL P ops R l a w → wpOpsIn F n P ops Q (List.range' (k + 1) l.length) a w := fun a w => wpL_In hF hR l (k + 1) a w (fun j => by have := hl (j + 1); simpa [Nat.add_assoc, Nat.add_comm 1 j] using this) hn.2
    simp only [List.length_cons, List.range'_succ, wpOpsIn, h0]
    unfold wpL at h
    split
    · rename_i hw; rw [if_pos hw] at h; exact Oper.wpIn_mono ih (wp_In (Q := Q) hF hn.1 h)
    · rename_i hw; rw [if_neg hw] at h; exact ⟨fun f _ => hF.fn f, ih _ _ h⟩

theorem wpL_region (hF : Wd F) {R : Act → World → Prop} {Q : Exit → Act → World → Prop} (hR : ∀ a w, R a w → Q .normal a w) {id : Nat} {a : Act} {w : World} (hn : ndL ops.toList = true) (h : wpL P ops R ops.toList a w) : (Code.region id ops false).wpIn F n P Q a w :=
  wpIn_region (by
    have := wpL_In (n := n) hF hR ops.toList 0 a w (fun j => by simp) hn h
    rw [List.range_eq_range']
    simpa using this)

theorem nd_get (hn : ndL ops.toList = true) {i : Nat} {o : Oper} (h : ops[i]? = some o) : notDef o.op = true := by
  have key : ∀ {l : List Oper}, ndL l = true → o ∈ l → notDef o.op = true := by
    intro l
    induction l with
    | nil => intro _ hm; cases hm
    | cons x l ih =>
      intro hh hm
      simp only [ndL, andB_eq, Bool.and_eq_true] at hh
      rcases List.mem_cons.1 hm with rfl | hm
      · exact hh.1
      · exact ih hh.2 hm
  exact key hn (List.mem_of_getElem? (i := i) (by simpa using h))

theorem wpO_In (hF : Wd F) (hn : ndL ops.toList = true) {i : Nat} {K : Act → World → Prop} {Q : Exit → Act → World → Prop} {a : Act} {w : World} (h : wpO P ops i K a w) : wpOpIn F n P ops Q i K a w := by
  unfold wpO at h
  unfold wpOpIn
  split
  · rename_i ho; simpa [ho] using h
  · rename_i o ho
    simp only [ho] at h
    split
    · rename_i hw; rw [if_pos hw] at h; exact wp_In (Q := Q) hF (nd_get hn ho) h
    · rename_i hw; rw [if_neg hw] at h; exact ⟨fun f _ => hF.fn f, h⟩

theorem anyI_In (hF : Wd F) (hn : ndL ops.toList = true) {R : Act → World → Prop} {Q : Exit → Act → World → Prop} (hR : ∀ a w, R a w → Q .normal a w) : ∀ (fuel : Nat) (listed : Array Bool) (a : Act) (w : World),
    anyI P md ops R fuel listed a w → wpAnyIn F n P md ops Q fuel listed a w
  | 0, _, _, _, h => ⟨h.1, hR _ _ h.2⟩
  | fuel + 1, _, _, _, h => ⟨fun e => hR _ _ (h.1 e), fun i hi => wpO_In hF hn (wpO_mono (fun a w hh => anyI_In hF hn hR fuel _ a w hh.2) (h.2 i hi))⟩

theorem stOp_In (hF : Wd F) (hn : ndL ops.toList = true) {i : Nat} {w : World} {K : Act → Prop} {K' : Act → World → Prop} (hK : ∀ a, K a → K' a w) {Q : Exit → Act → World → Prop} {a : Act} (h : stOp P ops w i K a) : wpOpIn F n P ops Q i K' a w := by
  unfold stOp at h
  unfold wpOpIn
  split
  · rename_i ho; simp only [ho] at h; exact hK _ h
  · rename_i o ho
    simp only [ho] at h
    split
    · rename_i hw; rw [if_pos hw] at h; exact wp_In (Q := Q) hF (nd_get hn ho) (Oper.wp_of_still hK h)
    · rename_i hw; rw [if_neg hw] at h; exact ⟨fun f _ => hF.fn f, hK _ h⟩

theorem anyS_In (hF : Wd F) (hn : ndL ops.toList = true) {w : World} {R : Act → Prop} {Q : Exit → Act → World → Prop} (hR : ∀ a, R a → Q .normal a w) : ∀ (fuel : Nat) (listed : Array Bool) (a : Act),
    wpAnyS P md ops w R fuel listed a → wpAnyIn F n P md ops Q fuel listed a w
  | 0, _, _, h => ⟨h.1, hR _ h.2⟩
  | fuel + 1, _, _, h => ⟨fun e => hR _ (h.1 e), fun i hi => stOp_In hF hn (fun a hh => anyS_In hF hn hR fuel _ a hh) (h.2 i hi)⟩

theorem still_region (hF : Wd F) (hn : ndL ops.toList = true) {id : Nat} {Q : Exit → Act → World → Prop} {a : Act} {w : World} (hm : P.follows .mixedOrders = true) (hB : Region.lexB .any ops = true)
    (h : wpStill P ops { w with drawn := w.drawn + 1 } (fun a' => Q .normal a' { w with drawn := w.drawn + 1 }) ops.toList a) : (Code.region id ops true).wpIn F n P Q a w := by
  simp only [Region.lexB, Bool.and_eq_true] at hB
  refine wpIn_region_any hm (anyS_In (R := fun a' => Q .normal a' { w with drawn := w.drawn + 1 }) hF hn (fun _ h => h) _ _ _ ?_)
  have := wpAnyS_lex (md := .any) hB.1 ops.toList 0 (Array.replicate ops.size false) a (by simp) (by simpa using hB.2) h
  simpa using this

theorem wpIn_loop_ghost {Q : Exit → Act → World → Prop} {a : Act} {w : World} {c : Code} (I : Nat → Act → World → Prop) (n₀ : Nat) (h₀ : I n₀ a w)
    (round : ∀ m a w, I m a w → c.wpIn F n P (Exit.then (fun a' w' => ∃ n', n' < m ∧ I n' a' w') Q) a w) : (Code.loop c).wpIn F n P Q a w := by
  refine wpIn_loop (fun a w => ∃ m, I m a w) (fun a w => leastOf (fun m => I m a w)) ⟨n₀, h₀⟩ ?_
  intro a w hI
  refine wpIn_mono (round _ a w (leastOf_spec hI).1) ?_
  intro e a' w' hq
  cases e with
  | normal =>
    obtain ⟨n', hlt, hI'⟩ := hq
    exact show (∃ m, I m a' w') ∧ leastOf (fun m => I m a' w') < leastOf (fun m => I m a w) from ⟨⟨n', hI'⟩, Nat.lt_of_le_of_lt ((leastOf_spec ⟨n', hI'⟩).2 n' hI') hlt⟩
  | exit id => exact hq
  | goto l => exact hq
  | ret => exact hq
  | panic ch => exact hq
  | outgrown => exact hq
end
end Go.Eng
set_option linter.unusedSimpArgs false
set_option linter.unusedVariables false
namespace Go.Eng
open Go Go.RowKit

/-- A loop's relation: how the state at its head looks, given some data. -/
structure LA where
  α : Type
  slots : α → List (Nat × SV)
  res : α → List (Nat × Res)
  inv : α → Prop
  meas : α → Nat
  ren : List (Nat × Nat) := []
  drop : List Nat := []
  nil : List (Nat × TypeId × Sh) := []
  frz : List Nat := []
  pad : Nat := 0

/-- What holds between the rounds of a range over a function, after so many of them. -/
structure RA where
  α : Type
  res : α → List (Nat × Res)
  inv : Nat → α → Prop
  drop : List Nat := []
  nil : List (Nat × TypeId × Sh) := []
  frz : List Nat := []

inductive Ann where
  | inv (a : LA)
  | gen (a : LA) (gh : a.α → Nat)
  | unroll (n : Nat)
  | rng (a : RA)
  | cut (a : LA)

/-- The form of a result: as it is; typed data, frozen; a row of its own, where it may be nil. -/
inductive RC where
  | keep
  | data (s : Sh)
  | row (t : TypeId) (s : Sh)

/-- All that a run is looked at with. -/
structure Env where
  cx : Cx
  n : Nat
  ct : Nat → Option CT
  ann : Nat → Option (St → Ann)
  ip : Nat → Option IP := fun _ => none
  rc : List RC := []
  lits : List Nat := []
  P : Option Program := none
  rd : Bool := false
  hc : Nat → Nat → Option CT := fun _ _ => none
  mkf : Nat → Option MK := fun _ => none

@[reducible] def rowsA : List SV → List Nat
  | [] => []
  | v :: r => match v with
    | .c (.row i) => i :: rowsA r
    | .agg xs => rowsC xs (rowsA r)
    | _ => rowsA r
/-- Where a call is given rows and what it returns may refer to them, they are frozen ahead of it. -/
@[reducible] def frzL (E : Env) (s : St) (G : Gd) (f : Nat) (args : List Operand) : List Nat := match G with
  | _ :: _ => []
  | [] => match E.ct f with
    | none => []
    | some cc => match argsV E.cx s [] args with
      | none => []
      | some vs => match allL noRow vs with
        | true => []
        | false => match borA s [] vs with
          | none => []
          | some bs => match datA cc.ps bs with
            | none => []
            | some dd => match andB (entFlat (cc.res dd).2) (allL resFlat (cc.res dd).1) with
              | true => []
              | false => rowsA vs
@[reducible] def frzB (E : Env) (s : St) (G : Gd) (ps : List (Nat × Operand)) : List Nat := match G with
  | _ :: _ => []
  | [] => rowsOf E.cx s ps
/-- The rows in a value that is stored among data. -/
@[reducible] def frzSt (E : Env) (s : St) (p x : Operand) : List Nat := match getE E.cx s [] x with
  | some (.one v) => match rowsA [v] with
    | [] => []
    | i :: r => match getE E.cx s [] p with
      | some (.one (.c (.own q _))) => match nthL s.T q with
        | some ([], .obj _ _ _) => i :: r
        | _ => []
      | some (.one (.c (.rowp _ _ _ _))) => i :: r
      | _ => []
  | _ => []
@[reducible] def stepK (E : Env) (ops : List Oper) (o : Oper) (s : St) (K : St → Prop) : Prop := match dOK E.n o.dst with
  | false => False
  | true => guardK E.lits s ops o.guard fun G s => match o.op with
    | .alloc t => allocK E.cx s G o.dst t K
    | .box t x => boxK E.cx s G o.dst t x K
    | .buildSlice t n ps => buildSliceK E.cx (frzAll s (frzB E s G (tl ps))) G o.dst t n (tl ps) K
    | .makeSlice t l c => makeK E.cx s G o.dst t l c K
    | .store t p x => match G with
      | [] => storeK E.cx (frzAll s (frzSt E s p x)) o.dst t p x K
      | _ :: _ => False
    | .call c => match c.callee with
      | .value (.func f) => callK E.cx E.ct (frzAll s (frzL E s G f (tl c.args))) G o.dst f (tl c.args) K
      | .builtin .append => match G with
        | [] => match tl c.args with
          | [x, y] => match tl c.argTypes with
            | [t, t'] => match Nat.beq t t' with
              | true => appendK E.cx s o.dst t x y K
              | false => False
            | _ => False
          | _ => False
        | _ :: _ => False
      | _ => pureK E.cx s G o fun e => K (s.put o.dst G e)
    | _ => pureK E.cx s G o fun e => K (s.put o.dst G e)

structure EnvOK (P : Program) (E : Env) : Prop where
  prog : ∀ P', E.P = some P' → P' = P
  hc : ∀ f g c, E.hc f g = some c → CTX P E.cx.gd f [.func (.func g) #[] #[]] c ∧ FnIs P f
  mkf : ∀ g m, E.mkf g = some m → ∀ d h lb, m.pre d → GlobOK E.cx.gd h → capD h m.ss d lb → (m.f d).rel h (.func (.func g) #[] lb.toArray)
  mixed : P.follows .mixedOrders = true
  ti : TisOK P E.cx.ti
  ct : ∀ f c, E.ct f = some c → CTOK P E.cx.gd f c ∧ ∃ fn, P.funcs[f]? = some fn ∧ fn.body.isSome = true ∧ (fn.name == "runtime.NumGoroutine") = false
  ip : ∀ f c, E.ip f = some c → IPOK P E.cx.gd f c ∧ ∃ fn, P.funcs[f]? = some fn ∧ fn.body.isSome = true ∧ (fn.name == "runtime.NumGoroutine") = false

theorem OpOK.cast {P : Program} {N : Nat} {B : Base} {h0 h : FH} {w : World} {a : Act} {o : Oper} {b b' : Bool} {K : St → Prop} (e : b = b') (h' : OpOK P N B h0 h w a o b' K) : OpOK P N B h0 h w a o b K := by rw [e]; exact h'

theorem frzS_gl (s : St) (i : Nat) : (frzS s i).gl = s.gl := by
  unfold frzS
  split <;> rfl
theorem frzAll_gl : ∀ {l : List Nat} {s : St}, (frzAll s l).gl = s.gl
  | [], _ => rfl
  | i :: l, s => by
    show (frzAll (frzS s i) l).gl = s.gl
    rw [frzAll_gl, frzS_gl]
theorem OpOK.le {P : Program} {N : Nat} {B : Base} {h0 h h' : FH} {w : World} {a : Act} {o : Oper} {b : Bool} {K : St → Prop} (le : h.le h') (k : OpOK P N B h0 h' w a o b K) : OpOK P N B h0 h w a o b K :=
  fun Nx Q next => k Nx Q fun s' h2 β' w' v k' le' q sat => next s' h2 β' w' v k' (le.trans le') q sat
theorem stepK_ok {P : Program} {E : Env} (ok : EnvOK P E) {B : Base} {h0 : FH} {s : St} {h : FH} {β : List RV} {w : World} {a : Act} (sat : Sat E.n B h0 s h β w a) (hg : GlobOK E.cx.gd h) {ops : Array Oper} {o : Oper} {K : St → Prop}
    (k : stepK E (tl ops) o s K) : OpOK P E.n B h0 h w a o (Region.wanted o (yielded ops a.tmps)) K := by
  unfold stepK at k
  split at k
  · exact k.elim
  rename_i hd
  obtain ⟨G, s', k, sat', hw, hG⟩ := guardK_ok sat k
  refine OpOK.cast hw ?_
  split at k
  · rename_i t ho; exact alloc_step ok.ti sat' hG hd ho k
  · rename_i t x ho; exact box_step ok.ti sat' hg hG hd ho k
  · rename_i t n ps ho
    obtain ⟨h', le, sat2⟩ := sat'.frz (l := frzB E s' G (tl ps))
    have := buildSlice_step ok.ti sat2 (hg.mono le) (by rw [frzAll_gl]; exact hG) hd ho k
    rw [frzAll_gl] at this
    exact OpOK.le le this
  · rename_i t l c ho; exact make_step ok.ti sat' hg hG hd ho k
  · rename_i t p x ho
    split at k
    · obtain ⟨h', le, sat2⟩ := sat'.frz (l := frzSt E s' p x)
      have := store_step ok.ti sat2 (hg.mono le) hd ho k
      rw [frzAll_gl] at this
      exact OpOK.le le this
    · exact k.elim
  · rename_i c ho
    split at k
    · rename_i f hcal
      obtain ⟨h', le, sat2⟩ := sat'.frz (l := frzL E s' G f (tl c.args))
      refine OpOK.le le ?_
      rw [← frzAll_gl (l := frzL E s' G f (tl c.args)) (s := s')] at hG ⊢
      generalize frzAll s' (frzL E s' G f (tl c.args)) = s' at k sat2 hG ⊢
      unfold callK at k
      cases hct : E.ct f with
      | none => rw [hct] at k; exact k.elim
      | some cc => exact call_step (fun f c e => (ok.ct f c e).1) sat2 (hg.mono le) hG hd ho hcal (ok.ct f cc hct).2 k
    · rename_i hcal
      split at k
      · split at k
        · rename_i x y ha
          split at k
          · rename_i t t' ht
            split at k
            · rename_i htt
              have htt : t = t' := Nat.eq_of_beq_eq_true htt
              subst htt
              exact append_step ok.ti sat' hg hd ho hcal (tl_eq ha) (tl_eq ht) k
            · exact k.elim
          · exact k.elim
        · exact k.elim
      · exact k.elim
    · exact pure_step ok.ti sat' hg hG hd k
  · exact pure_step ok.ti sat' hg hG hd k

@[reducible] def opsK (E : Env) (ops : List Oper) : List Oper → St → (St → Prop) → Prop
  | [], s, K => K s
  | o :: r, s, K => stepK E ops o s fun s => opsK E ops r s K

@[reducible] def memN (k : Nat) : List Nat → Bool
  | [] => false
  | j :: l => match Nat.beq k j with
    | true => true
    | false => memN k l
theorem memN_cons {k j : Nat} {l : List Nat} : memN k (j :: l) = (Nat.beq k j || memN k l) := by
  simp only [memN]; cases Nat.beq k j <;> rfl
theorem memN_cat {k : Nat} {m : List Nat} : ∀ {l : List Nat}, memN k (catL l m) = (memN k l || memN k m)
  | [] => rfl
  | j :: l => by rw [show catL (j :: l) m = j :: catL l m from rfl, memN_cons, memN_cons, memN_cat, Bool.or_assoc]

@[reducible] def dsts : List Oper → List Nat
  | [] => []
  | o :: l => match o.dst with
    | some d => d :: dsts l
    | none => dsts l

/-- Slots that are not listed hold what they held. -/
def Same (ws : List Nat) (a a' : Act) : Prop := ∀ t, memN t ws = false → a'.tmps[t]? = a.tmps[t]?
theorem Same.refl (ws : List Nat) (a : Act) : Same ws a a := fun _ _ => rfl
theorem Same.trans {ws : List Nat} {a b c : Act} (x : Same ws a b) (y : Same ws b c) : Same ws a c := fun t h => (y t h).trans (x t h)
theorem Same.left {l m : List Nat} {a b : Act} (x : Same l a b) : Same (catL l m) a b := fun t h => x t (by rw [memN_cat, Bool.or_eq_false_iff] at h; exact h.1)
theorem Same.right {l m : List Nat} {a b : Act} (x : Same m a b) : Same (catL l m) a b := fun t h => x t (by rw [memN_cat, Bool.or_eq_false_iff] at h; exact h.2)

theorem Same.put {o : Oper} {l : List Oper} {a : Act} {v : Value} {b : Act} (x : Same (dsts l) (a.put o.dst v) b) : Same (dsts (o :: l)) a b := by
  intro t h
  cases hd : o.dst with
  | none =>
    have e : dsts (o :: l) = dsts l := by simp only [dsts, hd]
    rw [e] at h
    rw [x t h, hd]; rfl
  | some d =>
    have e : dsts (o :: l) = d :: dsts l := by simp only [dsts, hd]
    rw [e, memN_cons, Bool.or_eq_false_iff] at h
    rw [x t h.2, hd]
    have hne : d ≠ t := fun hh => Nat.ne_of_beq_eq_false h.1 hh.symm
    simp [Act.put, Array.getElem?_setIfInBounds_ne hne]

/-- A call that changes its first argument's row. -/
@[reducible] def ipOf (E : Env) (s : St) (o : Oper) : Option IP := match o.guard with
  | some _ => none
  | none => match o.op with
    | .call c => match c.callee with
      | .value (.func f) => match E.ip f with
        | none => none
        | some ip => match tl c.args with
          | [] => none
          | x :: _ => match getE E.cx s [] x with
            | some (.one (.c (.row _))) => some ip
            | _ => none
      | _ => none
    | _ => none
@[reducible] def argsOf : Op → List Operand
  | .call c => tl c.args
  | _ => []
/-- Calls with a function as the last argument; calls of a function that a variable is known to hold; function literals. -/
@[reducible] def lastF : List Operand → Option (List Operand × Nat)
  | [] => none
  | x :: l => match l with
    | [] => match x with
      | .func g => some ([], g)
      | _ => none
    | _ :: _ => match lastF l with
      | some (m, g) => some (x :: m, g)
      | none => none
@[reducible] def fnOf : Value → Option Nat
  | .func (.func f) a b => match tl a with
    | [] => match tl b with
      | [] => some f
      | _ :: _ => none
    | _ :: _ => none
  | _ => none
@[reducible] def resQ (sh : Sh) : Res → Option SV
  | .obj _ s d => match andB sh.isAgg s.isAgg with
    | true => some (.dat s d)
    | false => none
  | .blk _ xs => match sh.isAgg with
    | true => some (.agg xs)
    | false => match xs with
      | [x] => some (.c x)
      | _ => none
  | _ => none
@[reducible] def capS (s : St) : (ss : List Sh) → List Operand → Option (St × dens ss)
  | [], [] => some (s, ())
  | sh :: ss, x :: l => match x with
    | .tmp t => match lkE s.env t with
      | some ([], .one (.c (.own i 0))) => match nthL s.T i with
        | some ([], r) => match resQ sh r with
          | some v => match toDat sh v with
            | some d => match capS { s with T := setL s.T i ([], .gone) } ss l with
              | some (s', ds) => some (s', (d, ds))
              | none => none
            | none => none
          | none => none
        | _ => none
      | _ => none
    | _ => none
  | _, _ => none
inductive HO where
  | hc (c : CT) (xs : List Operand)
  | cc (f : Nat) (xs : List Operand)
  | mk (g : Nat) (cap : List Operand)
@[reducible] def hoOf (E : Env) (s : St) (o : Oper) : Option HO := match o.guard with
  | some _ => none
  | none => match o.op with
    | .call c => match c.callee with
      | .value (.func f) => match lastF (tl c.args) with
        | some (xs, g) => match E.hc f g with
          | some ct => some (.hc ct xs)
          | none => none
        | none => none
      | .value (.tmp t) => match lkE s.env t with
        | some ([], .one (.c (.v v))) => match fnOf v with
          | some f => some (.cc f (tl c.args))
          | none => none
        | _ => none
      | _ => none
    | .makeFunc (.func g) fst cap => match tl fst with
      | [] => some (.mk g (tl cap))
      | _ :: _ => none
    | _ => none
@[reducible] def hoK (E : Env) (s : St) (d : Option Nat) (x : HO) (K : St → Prop) : Prop := match x with
  | .hc c xs => callK E.cx (fun _ => some c) s [] d 0 xs K
  | .cc f xs => callK E.cx E.ct s [] d f xs K
  | .mk g cap => match E.mkf g with
    | none => False
    | some m => match capS s m.ss cap with
      | none => False
      | some (s', ds) => m.pre ds ∧ K (s'.put d [] (.one (.c (.abs (m.f ds)))))

@[reducible] def stepI (E : Env) (ops : List Oper) (o : Oper) (s : St) (K : St → Prop) : Prop := match hoOf E s o with
  | some x => match dOK E.n o.dst with
    | false => False
    | true => hoK E s o.dst x K
  | none => match ipOf E s o with
  | none => match extP E.cx s o K with
    | none => stepK E ops o s K
    | some p => match dOK E.n o.dst with
      | false => False
      | true => p
  | some ip => match dOK E.n o.dst with
    | false => False
    | true => ipK E.cx ip s o.dst (argsOf o.op) K
@[reducible] def opsI (E : Env) (ops : List Oper) : List Oper → St → (St → Prop) → Prop
  | [], s, K => K s
  | o :: r, s, K => stepI E ops o s fun s => opsI E ops r s K

theorem ipOf_spec {E : Env} {s : St} {o : Oper} {ip : IP} (e : ipOf E s o = some ip) : o.guard = none ∧ ∃ c f, o.op = .call c ∧ c.callee = .value (.func f) ∧ E.ip f = some ip := by
  unfold ipOf at e
  split at e
  · cases e
  · rename_i hgd
    split at e
    · rename_i c ho
      split at e
      · rename_i f hcal
        split at e
        · cases e
        · rename_i ip' hip
          split at e
          · cases e
          · split at e
            · cases e; exact ⟨hgd, c, f, ho, hcal, hip⟩
            · cases e
      · cases e
    · cases e

theorem lastF_eq {a : Act} : ∀ {l xs : List Operand} {g : Nat}, lastF l = some (xs, g) → l.map a.eval = xs.map a.eval ++ [.func (.func g) #[] #[]]
  | [], _, _, h => by simp [lastF] at h
  | [x], xs, g, h => by
    simp only [lastF] at h
    split at h
    · cases h; rfl
    · cases h
  | x :: y :: l, xs, g, h => by
    simp only [lastF] at h
    split at h
    · rename_i m g' hm
      cases h
      have := lastF_eq (a := a) (l := y :: l) hm
      simp only [List.map_cons] at this ⊢
      rw [this]; rfl
    · cases h

theorem fnOf_eq {v : Value} {f : Nat} (h : fnOf v = some f) : v = .func (.func f) #[] #[] := by
  unfold fnOf at h
  split at h
  · rename_i f' x y
    split at h
    · rename_i hx
      split at h
      · rename_i hy
        cases h
        rw [tl_eq hx, tl_eq hy]
      · cases h
    · cases h
  · cases h

theorem sz_one {s : Sh} (h : s.isAgg = false) : s.size = 1 := by cases s <;> simp_all [Sh.isAgg, Sh.size]

theorem capS_ok {N : Nat} {B : Base} {h0 : FH} {w : World} {a : Act} {β : List RV} : ∀ {ss : List Sh} {l : List Operand} {s s' : St} {h : FH} {ds : dens ss}, Sat N B h0 s h β w a → capS s ss l = some (s', ds) →
    ∃ h', h.le h' ∧ Sat N B h0 s' h' β w a ∧ capD h' ss ds (l.map a.eval)
  | [], [], s, s', h, ds, sat, e => by simp [capS] at e; subst e; exact ⟨h, FH.le.refl h, sat, trivial⟩
  | [], _ :: _, s, s', h, ds, sat, e => by simp [capS] at e
  | _ :: _, [], s, s', h, ds, sat, e => by simp [capS] at e
  | sh :: ss, x :: l, s, s', h, ds, sat, e => by
    unfold capS at e
    split at e
    · rename_i t
      split at e
      · rename_i i hlk
        split at e
        · rename_i r hT
          split at e
          · rename_i v hv
            split at e
            · rename_i d hd
              split at e
              · rename_i s2 ds2 hc
                cases e
                obtain ⟨z, z1, z2, _⟩ := sat.env t [] _ hlk
                obtain ⟨b, hb, ez⟩ : ∃ b, β[i]? = some (.blk b) ∧ z = .pointer (some ⟨b, 0, none⟩) := (z2 rfl : CnV h β (.c (.own i 0)) z).1
                have hT' := effres hT (show gv s.gl [] = true from rfl)
                have hold := sat.ok.holds i r _ hT' hb
                have hlive : r.live = true := by cases r <;> first | rfl | (simp [resQ] at hv)
                obtain ⟨le1, ok1⟩ := sat.ok.freezeBlk hT' hlive hb (show (RV.blk b).block = some b from rfl)
                have sat1 : Sat N B h0 { s with T := setL s.T i ([], .gone) } (h.plus w b) β w a := sat.mem (by rw [eff_set]; exact ok1) le1 (Ext.refl _) (by
                  intro q hq
                  rw [setL_eq] at hq
                  rcases List.mem_or_eq_of_mem_set hq with hq | hq
                  · exact sat.gT q hq
                  · subst hq; rfl)
                obtain ⟨h', le2, sat2, cap⟩ := capS_ok (l := l) sat1 hc
                refine ⟨h', le1.trans le2, sat2, ⟨?_, cap⟩⟩
                have ev : a.eval (.tmp t) = z := by simp [Act.eval, z1]
                rw [ev, ez]
                have at_ : ∀ (ys : List Value) (tt : TypeId), w.heap[b]? = some (.cells ys.toArray tt (0, 0)) → At h' b 0 ys := by
                  intro ys tt hw j u hj
                  refine le2 _ _ _ ?_
                  unfold FH.plus
                  rw [if_pos rfl, Nat.zero_add, cell_of_row w b j ys.toArray tt (0, 0) hw]
                  simpa using hj
                have key : ∀ (ys : List Value) (tt : TypeId), w.heap[b]? = some (.cells ys.toArray tt (0, 0)) → (sh.isAgg = true → CnV h β v (.agg ys.toArray)) → (sh.isAgg = false → ∃ y, ys = [y] ∧ CnV h β v y) →
                    ∃ b' cs, (Value.pointer (some ⟨b, 0, none⟩)) = .pointer (some ⟨b', 0, none⟩) ∧ Rd h' sh cs d ∧ At h' b' 0 cs := by
                  intro ys tt hw k1 k2
                  cases hag : sh.isAgg with
                  | true =>
                    obtain ⟨cs, e1, rd⟩ := toDat_ok hd (k1 hag)
                    unfold mkV at e1
                    rw [if_pos hag] at e1
                    injection e1 with e1
                    have e1 : ys = cs := by simpa using e1
                    subst e1
                    exact ⟨b, ys, rfl, (rd.mono le1 _).mono le2 _, at_ ys tt hw⟩
                  | false =>
                    obtain ⟨y, rfl, c⟩ := k2 hag
                    obtain ⟨cs, e1, rd⟩ := toDat_ok hd c
                    unfold mkV at e1
                    rw [if_neg (by rw [hag]; simp)] at e1
                    have hs := Rd.size sh rd
                    rw [sz_one hag] at hs
                    obtain ⟨u, rfl⟩ := List.length_eq_one_iff.1 hs
                    have e1 : y = u := e1
                    subst e1
                    exact ⟨b, [y], rfl, (rd.mono le1 _).mono le2 _, at_ [y] tt hw⟩
                cases r with
                | obj tt s0 d0 =>
                  simp only [resQ] at hv
                  split at hv
                  · rename_i hag
                    rw [andB_eq, Bool.and_eq_true] at hag
                    cases hv
                    obtain ⟨ys, e1, rd⟩ := hold
                    exact key ys tt e1 (fun _ => ⟨hag.2, ys, rfl, rd⟩) (fun hh => by rw [hag.1] at hh; cases hh)
                  · cases hv
                | blk tt cs =>
                  obtain ⟨ys, e1, al⟩ := hold
                  simp only [resQ] at hv
                  split at hv
                  · rename_i hag
                    cases hv
                    exact key ys tt e1 (fun _ => ⟨ys, rfl, al⟩) (fun hh => by rw [hag] at hh; cases hh)
                  · rename_i hag
                    split at hv
                    · rename_i x
                      cases hv
                      cases ys with
                      | nil => exact al.elim
                      | cons y ys =>
                        cases ys with
                        | cons _ _ => exact al.2.elim
                        | nil => exact key [y] tt e1 (fun hh => by rw [hag] at hh; cases hh) (fun _ => ⟨y, rfl, al.1⟩)
                    · cases hv
                | row _ _ _ => simp [resQ] at hv
                | gone => simp [resQ] at hv
              · cases e
            · cases e
          · cases e
        · cases e
      · cases e
    · cases e

theorem hoK_ok {P : Program} {E : Env} (ok : EnvOK P E) {ops : Array Oper} {B : Base} {h0 : FH} {s : St} {h : FH} {β : List RV} {w : World} {a : Act} (sat : Sat E.n B h0 s h β w a) (hg : GlobOK E.cx.gd h) {o : Oper} {x : HO} (hx : hoOf E s o = some x) (hd : dOK E.n o.dst = true) {K : St → Prop}
    (k : hoK E s o.dst x K) : OpOK P E.n B h0 h w a o (Region.wanted o (yielded ops a.tmps)) K := by
  unfold hoOf at hx
  split at hx
  · cases hx
  rename_i hgd
  rw [show Region.wanted o (yielded ops a.tmps) = gv s.gl [] by simp [Region.wanted, hgd, gv]]
  split at hx
  · rename_i c ho
    split at hx
    · rename_i f hcal
      split at hx
      · rename_i xs g hl
        split at hx
        · rename_i ct hct
          cases hx
          obtain ⟨hc, hf⟩ := ok.hc f g ct hct
          simp only [hoK] at k
          have k' : callK E.cx (fun f' => if f' = f then some ct else none) s [] o.dst f xs K := by
            unfold callK at k ⊢
            simpa using k
          exact call_stepX (suf := [.func (.func g) #[] #[]]) (fun f' c' e => by
            split at e
            · rename_i hff; cases e; rw [hff]; exact hc
            · cases e) sat hg rfl hd ho hcal (fun _ => rfl) (by
            have := lastF_eq (a := a) hl
            rw [← this]; cases c.args; simp) hf k'
        · cases hx
      · cases hx
    · rename_i t hcal
      split at hx
      · rename_i v hlk
        split at hx
        · rename_i f hfn
          cases hx
          simp only [hoK] at k
          obtain ⟨z, z1, z2, _⟩ := sat.env t [] _ hlk
          have ez : z = .func (.func f) #[] #[] := ((z2 rfl : CnV h β (.c (.v v)) z).1.1).trans (fnOf_eq hfn)
          have hct : ∃ cc, E.ct f = some cc := by
            unfold callK at k
            cases hh : E.ct f with
            | none => rw [hh] at k; exact k.elim
            | some cc => exact ⟨cc, rfl⟩
          obtain ⟨cc, hct⟩ := hct
          exact call_stepX (suf := []) (fun f' c' e => (ok.ct f' c' e).1.x) sat hg rfl hd ho hcal (fun _ => by simp [Act.eval, z1, ez]) (by cases c.args; simp) (ok.ct f cc hct).2 k
        · cases hx
      · cases hx
    · cases hx
  · rename_i g fst cap ho
    split at hx
    · rename_i hfst
      cases hx
      simp only [hoK] at k
      split at k
      · exact k.elim
      rename_i m hm
      split at k
      · exact k.elim
      rename_i s' ds hcap
      obtain ⟨h', le, sat', cap'⟩ := capS_ok sat hcap
      obtain ⟨hmp, k⟩ := k
      have rel := ok.mkf g m hm ds h' _ hmp (hg.mono le) cap'
      intro Nx Q next
      rw [if_pos rfl]
      refine wp_value (v := .func (.func g) #[] ((tl cap).map a.eval).toArray) ?_ (next _ _ _ _ _ k le (fun _ => Gro.refl w) (sat'.put (dOK_lt hd) rfl (fun _ => ⟨rel, Abs.rel_one rel⟩) fun hh => by cases hh))
      simp only [execOp, ho, Instr.makeFunc, Sem.run_bind, Sem.run_pure, Result.andThen_ok]
      rw [tl_eq hfst]
      have : cap.map a.eval = ((tl cap).map a.eval).toArray := by cases cap; simp
      rw [this]; simp
    · cases hx
  · cases hx

theorem stepI_ok {P : Program} {E : Env} (ok : EnvOK P E) {B : Base} {h0 : FH} {s : St} {h : FH} {β : List RV} {w : World} {a : Act} (sat : Sat E.n B h0 s h β w a) (hg : GlobOK E.cx.gd h) {ops : Array Oper} {o : Oper} {K : St → Prop}
    (k : stepI E (tl ops) o s K) : OpW P E.n B h0 h w a o (Region.wanted o (yielded ops a.tmps)) K := by
  unfold stepI at k
  split at k
  · rename_i x hx
    split at k
    · exact k.elim
    · rename_i hd
      exact (hoK_ok ok sat hg hx hd k).weak
  split at k
  · split at k
    · exact (stepK_ok ok sat hg k).weak
    · rename_i p hp
      split at k
      · exact k.elim
      · rename_i hd
        exact extP_ok ok.ti sat hg hd hp k
  · rename_i ip hip
    obtain ⟨hgd, c, f, ho, hcal, hf⟩ := ipOf_spec hip
    split at k
    · exact k.elim
    · rename_i hd
      rw [show Region.wanted o (yielded ops a.tmps) = true by simp [Region.wanted, hgd]]
      rw [show argsOf o.op = tl c.args by simp only [argsOf, ho]] at k
      exact ip_step (ok.ip f ip hf).1 (ok.ip f ip hf).2 sat hg hd ho hcal k

theorem opsI_ok {P : Program} {E : Env} (ok : EnvOK P E) {B : Base} {h0 : FH} (hg : GlobOK E.cx.gd h0) {ops : Array Oper} {R : Act → World → Prop} {K : St → Prop} : ∀ (l : List Oper) {s : St} {h : FH} {β : List RV} {w : World} {a : Act}, Sat E.n B h0 s h β w a →
    opsI E (tl ops) l s K → (∀ s' h' β' w' a', K s' → h.le h' → Sat E.n B h0 s' h' β' w' a' → Same (dsts l) a a' → R a' w') → wpL P ops R l a w
  | [], s, h, β, w, a, sat, k, next => next _ _ _ _ _ k (FH.le.refl h) sat (Same.refl _ _)
  | o :: r, s, h, β, w, a, sat, k, next => by
    have := stepI_ok ok sat (hg.mono sat.ok.hle) k (wpL P ops R r) noQ fun s' h' β' w' v k' le sat' => opsI_ok ok hg r sat' k' fun s2 h2 β2 w2 a2 k2 le2 sat2 sm => next s2 h2 β2 w2 a2 k2 (le.trans le2) sat2 sm.put
    unfold wpL
    split
    · rename_i hw; rw [if_pos hw] at this; exact this
    · rename_i hw; rw [if_neg hw] at this; exact this

/-! Regions that draw their order. -/

def blOf (ops : Array Oper) (listed : Array Bool) (i : Nat) : List Nat :=
  (List.range ops.size).foldl (fun acc j => if j != i && !listed.getD j true && (match ops[j]? with | some o => o.after.any (fun e => Region.binds .any e && (e.on == i || acc.contains e.on)) | none => false) then j :: acc else acc) []

def waitsB (ops : Array Oper) (listed : Array Bool) (i : Nat) (bl : List Nat) : Bool :=
  (bl.all fun j => !listed.getD j true && (match ops[j]? with | some o => o.after.any (fun e => Region.binds .any e && (e.on == i || bl.contains e.on)) | none => false)) &&
  ((List.range ops.size).all fun j => j == i || listed.getD j true || sfe ops j || bl.contains j)

theorem waitsB_spec {ops : Array Oper} {listed : Array Bool} {i : Nat} {bl : List Nat} (h : waitsB ops listed i bl = true) :
    Waits .any ops listed i bl ∧ ∀ j, j ≠ i → listed.getD j true = false → sfe ops j = false → j ∈ bl := by
  simp only [waitsB, Bool.and_eq_true, List.all_eq_true] at h
  refine ⟨fun j hj => ?_, fun j hji hun hs => ?_⟩
  · have h1 := h.1 j hj
    simp only [Bool.not_eq_true'] at h1
    refine ⟨h1.1, ?_⟩
    cases ho : ops[j]? with
    | none => rw [ho] at h1; exact absurd h1.2 (by simp)
    | some o =>
      rw [ho] at h1
      obtain ⟨e, he, hb⟩ := Array.any_eq_true'.1 h1.2
      simp only [Bool.and_eq_true, Bool.or_eq_true, beq_iff_eq, List.contains_iff_mem] at hb
      exact ⟨o, rfl, e, he, hb.1, hb.2⟩
  · rcases Nat.lt_or_ge j ops.size with hlt | hge
    · have h2 := h.2 j (List.mem_range.2 hlt)
      simp only [Bool.or_eq_true, beq_iff_eq, hji, hun, hs, List.contains_iff_mem, Bool.false_eq_true, false_or] at h2
      exact h2
    · have : ops[j]? = none := Array.getElem?_eq_none hge
      simp [sfe, this] at hs

/-- Orders: what floats goes first; where several are ready, each of them. -/
inductive DT where
  | done
  | fl (i : Nat) (t : DT)
  | op (i : Nat) (t : DT)
  | alt (i : Nat) (t m : DT)
inductive OT where
  | done
  | op (o : Oper) (t : OT)
  | alt (o : Oper) (t m : OT)

def DT.alts : DT → List Nat
  | .op i _ => [i]
  | .alt i _ m => i :: m.alts
  | _ => []

def floatsB (ops : Array Oper) (listed : Array Bool) (i : Nat) : Bool := match ops[i]? with
  | some o => isFloat o.op && Region.free .any ops listed i && (Region.ready .any ops listed).contains i && (!isLoad o.op || waitsB ops listed i (blOf ops listed i))
  | none => false

def chkT (ops : Array Oper) : DT → Bool → Nat → Array Bool → Bool
  | .done, top, n, listed => top && n == 0 && (Region.ready .any ops listed).isEmpty
  | .fl i t, top, n, listed => top && n != 0 && floatsB ops listed i && chkT ops t true (n - 1) (listed.setIfInBounds i true)
  | .op i t, top, n, listed => (!top || Region.ready .any ops listed == [i]) && n != 0 && (ops[i]?).isSome && chkT ops t true (n - 1) (listed.setIfInBounds i true)
  | .alt i t m, top, n, listed => (!top || Region.ready .any ops listed == i :: m.alts) && n != 0 && (ops[i]?).isSome && chkT ops t true (n - 1) (listed.setIfInBounds i true) && chkT ops m false n listed

def goT (g : Nat → DT) : List Nat → DT
  | [] => .done
  | [i] => .op i (g i)
  | i :: r => .alt i (g i) (goT g r)
def genT (ops : Array Oper) : Nat → Array Bool → DT
  | 0, _ => .done
  | f + 1, listed =>
    let rs := Region.ready .any ops listed
    match rs.find? (fun i => floatsB ops listed i) with
    | some i => .fl i (genT ops f (listed.setIfInBounds i true))
    | none => goT (fun i => genT ops f (listed.setIfInBounds i true)) rs

def opT (ops : Array Oper) : DT → OT
  | .done => .done
  | .fl i t => match ops[i]? with
    | some o => .op o (opT ops t)
    | none => .done
  | .op i t => match ops[i]? with
    | some o => .op o (opT ops t)
    | none => .done
  | .alt i t m => match ops[i]? with
    | some o => .alt o (opT ops t) (opT ops m)
    | none => .done
def ofL : List Oper → OT
  | [] => .done
  | o :: l => .op o (ofL l)

@[reducible] def treeK (E : Env) (ops : List Oper) : OT → St → (St → Prop) → Prop
  | .done, s, K => K s
  | .op o t, s, K => stepK E ops o s fun s => treeK E ops t s K
  | .alt o t m, s, K => (stepK E ops o s fun s => treeK E ops t s K) ∧ treeK E ops m s K
theorem treeK_eq {E : Env} {ops : List Oper} {K : St → Prop} : ∀ (l : List Oper), (fun s => treeK E ops (ofL l) s K) = fun s => opsK E ops l s K
  | [] => rfl
  | o :: l => by
    funext s
    show stepK E ops o s (fun s => treeK E ops (ofL l) s K) = stepK E ops o s fun s => opsK E ops l s K
    rw [treeK_eq l]
theorem treeK_ofL {E : Env} {ops : List Oper} {K : St → Prop} (l : List Oper) {s : St} (h : treeK E ops (ofL l) s K) : opsK E ops l s K := by
  have := congrFun (treeK_eq (E := E) (ops := ops) (K := K) l) s
  rw [← this]; exact h

def isPure (o : Oper) : Bool := match o.op with
  | .alloc _ | .box .. | .buildSlice .. | .makeSlice .. | .store .. => false
  | .call c => (match c.callee with | .value (.func _) => false | .builtin .append => false | _ => true)
  | _ => true

/-- The operations in the orders that serve for all. -/
def drawOrd (ops : Array Oper) : Option OT :=
  if ops.all isPure && Region.lexB .any ops then some (ofL ops.toList)
  else
    let t := genT ops ops.size (Array.replicate ops.size false)
    if Region.noSelect ops && chkT ops t true ops.size (Array.replicate ops.size false) then some (opT ops t) else none

section
variable {P : Program} {E : Env} {B : Base} {h0 : FH} {s : St} {h : FH} {β : List RV} {w : World} {a : Act} {o : Oper} {ops : Array Oper} {K : St → Prop}

theorem guardK_mono {L : List Nat} {s : St} {l : List Oper} {g : Option (Nat × Bool)} {K K' : Gd → St → Prop} (hk : ∀ G s, K G s → K' G s) (h : guardK L s l g K) : guardK L s l g K' := by
  unfold guardK at *
  split at h
  · exact hk _ _ h
  · split at h
    · exact h.elim
    · split at h
      · split at h
        · split at h
          · split at h
            · exact hk _ _ h
            · exact h.elim
          · split at h
            · exact h.elim
            · exact hk _ _ h
        · exact h.elim
      · split at h
        · split at h
          · exact hk _ _ h
          · exact hk _ _ h
        · exact h.elim

theorem stepK_pure (hp : isPure o = true) (k : stepK E (tl ops) o s K) : dOK E.n o.dst = true ∧ guardK E.lits s (tl ops) o.guard fun G s => pureK E.cx s G o fun e => K (s.put o.dst G e) := by
  unfold stepK at k
  split at k
  · exact k.elim
  rename_i hd
  refine ⟨hd, ?_⟩
  have key : ∀ G s, (match o.op with
    | .alloc t => allocK E.cx s G o.dst t K
    | .box t x => boxK E.cx s G o.dst t x K
    | .buildSlice t n ps => buildSliceK E.cx (frzAll s (frzB E s G (tl ps))) G o.dst t n (tl ps) K
    | .makeSlice t l c => makeK E.cx s G o.dst t l c K
    | .store t p x => match G with
      | [] => storeK E.cx (frzAll s (frzSt E s p x)) o.dst t p x K
      | _ :: _ => False
    | .call c => match c.callee with
      | .value (.func f) => callK E.cx E.ct (frzAll s (frzL E s G f (tl c.args))) G o.dst f (tl c.args) K
      | .builtin .append => match G with
        | [] => match tl c.args with
          | [x, y] => match tl c.argTypes with
            | [t, t'] => match Nat.beq t t' with
              | true => appendK E.cx s o.dst t x y K
              | false => False
            | _ => False
          | _ => False
        | _ :: _ => False
      | _ => pureK E.cx s G o fun e => K (s.put o.dst G e)
    | _ => pureK E.cx s G o fun e => K (s.put o.dst G e)) → pureK E.cx s G o fun e => K (s.put o.dst G e) := by
    intro G s k
    split at k
    · rename_i ho; simp [isPure, ho] at hp
    · rename_i ho; simp [isPure, ho] at hp
    · rename_i ho; simp [isPure, ho] at hp
    · rename_i ho; simp [isPure, ho] at hp
    · rename_i ho; simp [isPure, ho] at hp
    · rename_i c ho
      split at k
      · rename_i hc; simp [isPure, ho, hc] at hp
      · rename_i hc; simp [isPure, ho, hc] at hp
      · exact k
    · exact k
  exact guardK_mono key k

theorem lenB {x : Callee} (h : (match x with | .builtin .len => true | _ => false) = true) : x = .builtin .len := by
  split at h
  · rfl
  · cases h
theorem float_pure (hf : isFloat o.op = true) : isPure o = true := by
  cases ho : o.op with
  | call c =>
    rw [ho] at hf
    have : c.callee = .builtin .len := lenB hf
    simp [isPure, ho, this]
  | _ =>
    rw [ho] at hf
    first
      | (simp [isPure, ho]; done)
      | (simp [isFloat, isFloat0] at hf; done)
theorem float_quiet {x : Op} (hf : isFloat x = true) : quietly x = true := by
  cases x with
  | call c =>
    have : c.callee = .builtin .len := lenB hf
    simp [quietly, this]
  | _ =>
    first
      | rfl
      | (simp [isFloat, isFloat0] at hf; done)

theorem float_step (ok : EnvOK P E) (sat : Sat E.n B h0 s h β w a) (hg : GlobOK E.cx.gd h) (hf : isFloat o.op = true) (k : stepK E (tl ops) o s K) :
    ∃ v s', YI P ops (isLoad o.op) w o v a ∧ K s' ∧ Sat E.n B h0 s' h β w (a.put o.dst v) := by
  obtain ⟨hd, k⟩ := stepK_pure (float_pure hf) k
  obtain ⟨G, s', k, sat', hw, hG⟩ := guardK_ok sat k
  obtain ⟨e, k1, k2⟩ := pureK_ext ok.ti sat' hg hf k
  cases hgv : gv s'.gl G with
  | true =>
    obtain ⟨v, r, c⟩ := k2 hgv
    refine ⟨v, _, .inl ⟨by rw [hw]; exact hgv, fun w' hg' => ?_⟩, k1, sat'.put (dOK_lt hd) hG (fun _ => c) fun hh => by rw [hgv] at hh; cases hh⟩
    exact r w' hg'
  | false =>
    exact ⟨undef, _, .inr ⟨by rw [hw]; exact hgv, rfl⟩, k1, sat'.put (dOK_lt hd) hG (fun hh => by rw [hgv] at hh; cases hh) fun _ => rfl⟩

theorem still_step (ok : EnvOK P E) (sat : Sat E.n B h0 s h β w a) (hg : GlobOK E.cx.gd h) (hp : isPure o = true) (k : stepK E (tl ops) o s K) {Nx : Act → Prop}
    (next : ∀ v s', K s' → Sat E.n B h0 s' h β w (a.put o.dst v) → Nx (a.put o.dst v)) : if Region.wanted o (yielded ops a.tmps) then o.still P a w Nx else Nx (a.put o.dst undef) := by
  obtain ⟨hd, k⟩ := stepK_pure hp k
  obtain ⟨G, s', k, sat', hw, hG⟩ := guardK_ok sat k
  obtain ⟨e, k1, k2⟩ := pureK_ok ok.ti sat' hg k
  rw [hw]
  cases hgv : gv s'.gl G with
  | true =>
    obtain ⟨v, r, c⟩ := k2 hgv
    rw [if_pos rfl]
    unfold Oper.still
    rw [r, Oper.stillUpon_value]
    exact next _ _ k1 (sat'.put (dOK_lt hd) hG (fun _ => c) fun hh => by rw [hgv] at hh; cases hh)
  | false =>
    rw [if_neg (by simp)]
    exact next _ _ k1 (sat'.put (dOK_lt hd) hG (fun hh => by rw [hgv] at hh; cases hh) fun _ => rfl)

theorem still_ok (ok : EnvOK P E) (hg : GlobOK E.cx.gd h0) {R : Act → Prop} : ∀ (l : List Oper) {s : St} {a : Act}, l.all isPure = true → Sat E.n B h0 s h β w a → opsK E (tl ops) l s K →
    (∀ s' a', K s' → Sat E.n B h0 s' h β w a' → Same (dsts l) a a' → R a') → wpStill P ops w R l a
  | [], s, a, _, sat, k, next => next _ _ k sat (Same.refl _ _)
  | o :: r, s, a, hp, sat, k, next => by
    simp only [List.all_cons, Bool.and_eq_true] at hp
    exact still_step ok sat (hg.mono sat.ok.hle) hp.1 k fun v s' k' sat' => still_ok ok hg r hp.2 sat' k' fun s2 a2 k2 sat2 sm => next s2 a2 k2 sat2 sm.put

theorem mem_dsts {t : Nat} : ∀ {l : List Oper}, memN t (dsts l) = true ↔ ∃ o ∈ l, o.dst = some t
  | [] => by simp [dsts, memN]
  | o :: l => by
    cases hd : o.dst with
    | none =>
      have e : dsts (o :: l) = dsts l := by simp only [dsts, hd]
      rw [e, mem_dsts]
      simp [hd]
    | some d =>
      have e : dsts (o :: l) = d :: dsts l := by simp only [dsts, hd]
      rw [e, memN_cons, Bool.or_eq_true, mem_dsts]
      constructor
      · rintro (h | ⟨o', h1, h2⟩)
        · exact ⟨o, by simp, by rw [hd, Nat.eq_of_beq_eq_true h]⟩
        · exact ⟨o', by simp [h1], h2⟩
      · rintro ⟨o', h1, h2⟩
        rcases List.mem_cons.1 h1 with rfl | h1
        · rw [hd] at h2; cases h2; exact .inl (Nat.beq_refl _)
        · exact .inr ⟨o', h1, h2⟩

theorem Same.sub {l m : List Oper} {a b : Act} (hs : ∀ o ∈ l, o ∈ m) (x : Same (dsts l) a b) : Same (dsts m) a b := fun t h => x t (by
  cases hh : memN t (dsts l) with
  | false => rfl
  | true =>
    obtain ⟨o, h1, h2⟩ := mem_dsts.1 hh
    rw [mem_dsts.2 ⟨o, hs o h1, h2⟩] at h; cases h)

theorem Same.put_mem {ol : List Oper} {o : Oper} (ho : o ∈ ol) {a b : Act} {v : Value} (x : Same (dsts ol) (a.put o.dst v) b) : Same (dsts ol) a b := by
  intro t h
  rw [x t h]
  cases hd : o.dst with
  | none => rfl
  | some d =>
    have hne : d ≠ t := by
      rintro rfl
      rw [mem_dsts.2 ⟨o, ho, hd⟩] at h; cases h
    simp [Act.put, Array.getElem?_setIfInBounds_ne hne]

theorem tree_ok (ok : EnvOK P E) (hg : GlobOK E.cx.gd h0) (hs : Region.noSelect ops = true) {R : Act → World → Prop} : ∀ (t : DT) {n : Nat} {listed : Array Bool} {s : St} {h : FH} {β : List RV} {w : World} {a : Act},
    Sat E.n B h0 s h β w a → treeK E (tl ops) (opT ops t) s K → (∀ s' h' β' w' a', K s' → h.le h' → Sat E.n B h0 s' h' β' w' a' → Same (dsts ops.toList) a a' → R a' w') →
    (chkT ops t true n listed = true → anyI P .any ops R n listed a w) ∧
    (chkT ops t false n listed = true → ∀ i ∈ t.alts, wpO P ops i (fun a' w' => (sfe ops i = true → Gro w w') ∧ anyI P .any ops R (n - 1) (listed.setIfInBounds i true) a' w') a w)
  | .done, n, listed, s, h, β, w, a, sat, k, next => by
    refine ⟨fun hc => ?_, fun hc => by simp [chkT] at hc⟩
    simp only [chkT, Bool.true_and, Bool.and_eq_true, beq_iff_eq] at hc
    obtain ⟨rfl, he⟩ := hc
    exact ⟨by simpa using he, next _ _ _ _ _ k (FH.le.refl h) sat (Same.refl _ _)⟩
  | .fl i t, n, listed, s, h, β, w, a, sat, k, next => by
    refine ⟨fun hc => ?_, fun hc => by simp [chkT] at hc⟩
    simp only [chkT, Bool.true_and, Bool.and_eq_true, bne_iff_ne, ne_eq] at hc
    obtain ⟨⟨hn, hb⟩, hc⟩ := hc
    obtain ⟨n, rfl⟩ : ∃ m, n = m + 1 := ⟨n - 1, by omega⟩
    unfold floatsB at hb
    cases hi : ops[i]? with
    | none => rw [hi] at hb; simp at hb
    | some o =>
      rw [hi] at hb
      simp only [Bool.and_eq_true] at hb
      simp only [opT, hi, treeK] at k
      have hmem : o ∈ ops.toList := List.mem_of_getElem? (i := i) (by simpa using hi)
      obtain ⟨⟨⟨hf, hfree⟩, hr⟩, hl⟩ := hb
      obtain ⟨v, s', hy, k', sat'⟩ := float_step ok sat (hg.mono sat.ok.hle) hf k
      have hq : sfe ops i = true := by
        simp only [sfe, hi]
        exact float_quiet hf
      refine anyI_first (bl := blOf ops listed i) hi (Region.noSelect_spec hs) hq n listed a w (Region.free_spec hi hfree) (fun e => ?_) (by simpa using hr) hy (fun _ => Gro.refl w)
        ((tree_ok ok hg hs t sat' k' fun s2 h2 β2 w2 a2 k2 le2 sat2 sm => next s2 h2 β2 w2 a2 k2 le2 sat2 (sm.put_mem hmem)).1 hc)
      rw [e] at hl
      exact waitsB_spec (by simpa using hl)
  | .op i t, n, listed, s, h, β, w, a, sat, k, next => by
    have key : n ≠ 0 → (ops[i]?).isSome = true → chkT ops t true (n - 1) (listed.setIfInBounds i true) = true → wpO P ops i (fun a' w' => (sfe ops i = true → Gro w w') ∧ anyI P .any ops R (n - 1) (listed.setIfInBounds i true) a' w') a w := by
      intro hn hi hc
      obtain ⟨o, hi⟩ := Option.isSome_iff_exists.1 hi
      have hmem : o ∈ ops.toList := List.mem_of_getElem? (i := i) (by simpa using hi)
      simp only [opT, hi, treeK] at k
      unfold wpO
      simp only [hi]
      refine stepK_ok ok sat (hg.mono sat.ok.hle) k _ noQ fun s' h' β' w' v k' le gro sat' => ⟨fun e => gro (by simpa [sfe, hi] using e), ?_⟩
      exact (tree_ok ok hg hs t sat' k' fun s2 h2 β2 w2 a2 k2 le2 sat2 sm => next s2 h2 β2 w2 a2 k2 (le.trans le2) sat2 (sm.put_mem hmem)).1 hc
    refine ⟨fun hc => ?_, fun hc j hj => ?_⟩
    · simp only [chkT, Bool.not_true, Bool.false_or, Bool.and_eq_true, bne_iff_ne, ne_eq, beq_iff_eq] at hc
      obtain ⟨⟨⟨hr, hn⟩, hi⟩, hc⟩ := hc
      obtain ⟨m, rfl⟩ : ∃ m, n = m + 1 := ⟨n - 1, by omega⟩
      refine ⟨fun h0 => by rw [hr] at h0; simp at h0, fun j hj => ?_⟩
      rw [hr] at hj
      simp at hj
      subst hj
      exact key hn hi hc
    · simp only [chkT, Bool.not_false, Bool.true_or, Bool.true_and, Bool.and_eq_true, bne_iff_ne, ne_eq] at hc
      simp only [DT.alts, List.mem_singleton] at hj
      subst hj
      exact key hc.1.1 hc.1.2 hc.2
  | .alt i t m, n, listed, s, h, β, w, a, sat, k, next => by
    have key : n ≠ 0 → (ops[i]?).isSome = true → chkT ops t true (n - 1) (listed.setIfInBounds i true) = true → chkT ops m false n listed = true →
        ∀ j ∈ i :: m.alts, wpO P ops j (fun a' w' => (sfe ops j = true → Gro w w') ∧ anyI P .any ops R (n - 1) (listed.setIfInBounds j true) a' w') a w := by
      intro hn hi hc hm j hj
      obtain ⟨o, hi⟩ := Option.isSome_iff_exists.1 hi
      have hmem : o ∈ ops.toList := List.mem_of_getElem? (i := i) (by simpa using hi)
      simp only [opT, hi, treeK] at k
      rcases List.mem_cons.1 hj with rfl | hj
      · unfold wpO
        simp only [hi]
        refine stepK_ok ok sat (hg.mono sat.ok.hle) k.1 _ noQ fun s' h' β' w' v k' le gro sat' => ⟨fun e => gro (by simpa [sfe, hi] using e), ?_⟩
        exact (tree_ok ok hg hs t sat' k' fun s2 h2 β2 w2 a2 k2 le2 sat2 sm => next s2 h2 β2 w2 a2 k2 (le.trans le2) sat2 (sm.put_mem hmem)).1 hc
      · exact (tree_ok ok hg hs m sat k.2 next).2 hm j hj
    refine ⟨fun hc => ?_, fun hc j hj => ?_⟩
    · simp only [chkT, Bool.not_true, Bool.false_or, Bool.and_eq_true, bne_iff_ne, ne_eq, beq_iff_eq] at hc
      obtain ⟨⟨⟨⟨hr, hn⟩, hi⟩, hc⟩, hm⟩ := hc
      obtain ⟨q, rfl⟩ : ∃ m, n = m + 1 := ⟨n - 1, by omega⟩
      refine ⟨fun h0 => by rw [hr] at h0; simp at h0, fun j hj => ?_⟩
      rw [hr] at hj
      exact key hn hi hc hm j hj
    · simp only [chkT, Bool.not_false, Bool.true_or, Bool.true_and, Bool.and_eq_true, bne_iff_ne, ne_eq] at hc
      exact key hc.1.1.1 hc.1.1.2 hc.1.2 hc.2 j hj

theorem Sat.drawn (sat : Sat E.n B h0 s h β w a) (n : Nat) (hn : w.drawn ≤ n) : Sat E.n B h0 s h β { w with drawn := n } a where
  ok := ⟨⟨sat.ok.below.os, sat.ok.below.tape, sat.ok.below.output, sat.ok.below.size, sat.ok.below.block⟩, Nat.le_trans sat.ok.dr hn, sat.ok.len, fun i r v h1 h2 => by
      have := sat.ok.holds i r v h1 h2
      cases r <;> cases v <;> exact this, sat.ok.own, sat.ok.inj, sat.ok.hle, sat.ok.hw, sat.ok.hg, sat.ok.kn⟩
  env := sat.env
  gs := sat.gs
  defers := sat.defers
  sz := sat.sz
  gb := sat.gb
  gT := sat.gT

theorem draw_ok (ok : EnvOK P E) (hg : GlobOK E.cx.gd h0) {id : Nat} {ol : OT} (ho : drawOrd ops = some ol) (sat : Sat E.n B h0 s h β w a) (k : treeK E (tl ops) ol s K) {F : Fence} {n : Nat} (hF : Wd F) (hn : ndL ops.toList = true) {Q : Exit → Act → World → Prop}
    (next : ∀ s' h' β' w' a', K s' → h.le h' → Sat E.n B h0 s' h' β' w' a' → Same (dsts (tl ops)) a a' → Q .normal a' w') : (Code.region id ops true).wpIn F n P Q a w := by
  unfold drawOrd at ho
  have et : tl ops = ops.toList := by cases ops; rfl
  split at ho
  · rename_i hp
    cases ho
    simp only [Bool.and_eq_true] at hp
    refine still_region hF hn ok.mixed hp.2 (still_ok ok hg ops.toList (by simpa using hp.1) (sat.drawn _ (Nat.le_succ _)) (treeK_ofL _ k) fun s' a' k' sat' sm => next _ _ _ _ _ k' (FH.le.refl h) sat' (by rw [et]; exact sm))
  · simp only at ho
    split at ho
    · rename_i hp
      cases ho
      simp only [Bool.and_eq_true, beq_iff_eq] at hp
      refine wpIn_region_any ok.mixed (anyI_In (R := fun a w => Q .normal a w) hF hn (fun _ _ hh => hh) _ _ _ _ ?_)
      exact (tree_ok ok hg hp.1 (R := fun a w => Q .normal a w) (genT ops ops.size (Array.replicate ops.size false)) (sat.drawn (w.drawn + 1) (Nat.le_succ _)) k fun s' h' β' w' a' k' le sat' sm => next _ _ _ _ _ k' le sat' (by rw [et]; exact sm)).1 hp.2
    · cases ho
end

/-! At a region's end the guards are forgotten. -/

@[reducible] def isNil {α : Type} : List α → Bool
  | [] => true
  | _ :: _ => false
@[reducible] def cleanE (seen : List Nat) : List (Nat × Gd × Ent) → List (Nat × Gd × Ent)
  | [] => []
  | (k, g, e) :: l => match memN k seen with
    | true => cleanE seen l
    | false => match isNil g with
      | true => (k, g, e) :: cleanE (k :: seen) l
      | false => cleanE (k :: seen) l
@[reducible] def cleanT : List (Gd × Res) → List (Gd × Res)
  | [] => []
  | (g, r) :: l => match isNil g with
    | true => ([], r) :: cleanT l
    | false => ([], .gone) :: cleanT l
@[reducible] def clean (s : St) : St := { env := cleanE [] s.env, T := cleanT s.T, gl := [], gs := [] }

theorem cleanE_get : ∀ {l : List (Nat × Gd × Ent)} {seen : List Nat} {t : Nat} {G : Gd} {e : Ent}, lkE (cleanE seen l) t = some (G, e) → memN t seen = false ∧ lkE l t = some (G, e) ∧ G = []
  | [], _, _, _, _, h => by simp [cleanE, lkE] at h
  | (k, g, e0) :: l, seen, t, G, e, h => by
    unfold cleanE at h
    split at h
    · rename_i hm
      obtain ⟨h1, h2, h3⟩ := cleanE_get h
      refine ⟨h1, ?_, h3⟩
      rw [lkE_cons, if_neg]
      · exact h2
      · rintro rfl; rw [hm] at h1; cases h1
    · rename_i hm
      have sub : lkE (cleanE (k :: seen) l) t = some (G, e) → memN t seen = false ∧ lkE ((k, g, e0) :: l) t = some (G, e) ∧ G = [] := by
        intro h
        obtain ⟨h1, h2, h3⟩ := cleanE_get h
        rw [memN_cons, Bool.or_eq_false_iff] at h1
        refine ⟨h1.2, ?_, h3⟩
        rw [lkE_cons, if_neg]
        · exact h2
        · rintro rfl; exact Nat.ne_of_beq_eq_false h1.1 rfl
      split at h
      · rename_i hn
        rw [lkE_cons] at h
        split at h
        · rename_i hk
          subst hk
          cases h
          refine ⟨hm, by rw [lkE_cons, if_pos rfl], ?_⟩
          cases g with
          | nil => rfl
          | cons _ _ => cases hn
        · exact sub h
      · exact sub h

theorem cleanT_eff (gl : List Bool) : ∀ (T : List (Gd × Res)) (i : Nat) (r : Res), (eff [] (cleanT T))[i]? = some r → r.live = true → (eff gl T)[i]? = some r
  | [], i, r, h, _ => by simp [cleanT, eff] at h
  | (g, r0) :: l, i, r, h, hl => by
    have e1 : eff [] (cleanT ((g, r0) :: l)) = (match isNil g with | true => r0 | false => Res.gone) :: eff [] (cleanT l) := by
      simp only [cleanT]; cases isNil g <;> rfl
    rw [e1] at h
    cases i with
    | zero =>
      simp only [List.getElem?_cons_zero, Option.some.injEq] at h
      cases g with
      | nil => simp only [isNil] at h; subst h; rfl
      | cons _ _ => simp only [isNil] at h; subst h; cases hl
    | succ i =>
      simp only [List.getElem?_cons_succ, eff] at h ⊢
      exact cleanT_eff gl l i r h hl
theorem cleanT_len : ∀ (T : List (Gd × Res)), (cleanT T).length = T.length
  | [] => rfl
  | (g, r) :: l => by simp only [cleanT]; split <;> simp [cleanT_len l]
theorem cleanT_nil : ∀ {T : List (Gd × Res)} {p : Gd × Res}, p ∈ cleanT T → p.1 = []
  | [], p, h => by simp [cleanT] at h
  | (g, r) :: l, p, h => by
    simp only [cleanT] at h
    split at h
    · rcases List.mem_cons.1 h with rfl | h
      · rfl
      · exact cleanT_nil h
    · rcases List.mem_cons.1 h with rfl | h
      · rfl
      · exact cleanT_nil h

/-- Fewer resources are known. -/
theorem OK.weaken {B : Base} {h0 : FH} {T T' : List Res} {h : FH} {β : List RV} {w : World} (ok : OK B h0 T h β w) (hl : T'.length = T.length) (sub : ∀ (i : Nat) r, T'[i]? = some r → r.live = true → T[i]? = some r) : OK B h0 T' h β w where
  below := ok.below
  dr := ok.dr
  len := by rw [hl]; exact ok.len
  holds := by
    intro i r v e e'
    cases hr : r.live with
    | true => exact ok.holds i r v (sub i r e hr) e'
    | false => cases r <;> first | (cases hr; done) | (cases v <;> trivial)
  own := fun i r v b e l e' hb => ok.own i r v b (sub i r e l) l e' hb
  inj := fun i j r r' u v b e l e' l' f f' hb hb' => ok.inj i j r r' u v b (sub i r e l) l (sub j r' e' l') l' f f' hb hb'
  hle := ok.hle
  hw := ok.hw
  hg := ok.hg
  kn := ok.kn

theorem Sat.clean {N : Nat} {B : Base} {h0 : FH} {s : St} {h : FH} {β : List RV} {w : World} {a : Act} (sat : Sat N B h0 s h β w a) : Sat N B h0 (clean s) h β w a := by
  refine ⟨?_, ?_, ?_, sat.defers, sat.sz, ?_, ?_⟩
  · exact sat.ok.weaken (by simp [eff_len, cleanT_len]) fun i r e l => cleanT_eff s.gl s.T i r e l
  · intro t G e ht
    obtain ⟨_, h1, rfl⟩ := cleanE_get ht
    exact sat.env t [] e h1
  · intro d i hi
    have hi : lkG [] d = some i := hi
    cases hi
  · intro t G e ht
    obtain ⟨_, h1, rfl⟩ := cleanE_get ht
    rfl
  · intro p hp; rw [cleanT_nil hp]

/-! Loops. -/

@[reducible] def writes : Code → List Nat
  | .region _ ops _ => dsts (tl ops)
  | .seq a b => catL (writes a) (writes b)
  | .cond _ a b => catL (writes a) (writes b)
  | .block _ c => writes c
  | .loop c => writes c
  | _ => []
@[reducible] def keyOf : Code → Nat
  | .region id _ _ => id
  | .seq a _ => keyOf a
  | .cond _ a _ => keyOf a
  | .block _ c => keyOf c
  | .loop c => keyOf c
  | _ => 0

@[reducible] def scBelow (n : Nat) : SC → Bool
  | .own i _ => Nat.ble (i + 1) n
  | .row i => Nat.ble (i + 1) n
  | .rowp i _ _ _ => Nat.ble (i + 1) n
  | _ => true
@[reducible] def svBelow (n : Nat) : SV → Bool
  | .c x => scBelow n x
  | .agg xs => allL (scBelow n) xs
  | _ => true
@[reducible] def entBelow (n : Nat) : Ent → Bool
  | .one v => svBelow n v
  | .tup vs => allL (svBelow n) vs
@[reducible] def resBelow (n : Nat) : Res → Bool
  | .blk _ xs => allL (scBelow n) xs
  | _ => true

@[reducible] def scRefFree : SC → Bool
  | .v _ => true
  | .sl _ _ => true
  | .fp _ _ => true
  | .abs _ => true
  | .junk => true
  | _ => false
@[reducible] def svRefFree : SV → Bool
  | .c x => scRefFree x
  | .agg xs => allL scRefFree xs
  | _ => true
@[reducible] def entRefFree : Ent → Bool
  | .one v => svRefFree v
  | .tup vs => allL svRefFree vs
/-- One entry that leads to a resource. -/
@[reducible] def entRef (n : Nat) : Ent → Bool
  | .one (.c (.own i _)) => Nat.ble (i + 1) n
  | .one (.c (.row i)) => Nat.ble (i + 1) n
  | _ => false

/-- What the body leaves alone: data. -/
@[reducible] def keepE (ws : List Nat) (seen : List Nat) : List (Nat × Gd × Ent) → List (Nat × Gd × Ent)
  | [] => []
  | (k, g, e) :: l => match memN k seen with
    | true => keepE ws seen l
    | false => match memN k ws with
      | true => keepE ws (k :: seen) l
      | false => match andB (isNil g) (entRefFree e) with
        | true => (k, g, e) :: keepE ws (k :: seen) l
        | false => keepE ws (k :: seen) l
/-- What the body leaves alone: ways to resources. -/
@[reducible] def keepR (n : Nat) (ws : List Nat) (seen : List Nat) : List (Nat × Gd × Ent) → List (Nat × SV)
  | [] => []
  | (k, g, e) :: l => match memN k seen with
    | true => keepR n ws seen l
    | false => match memN k ws with
      | true => keepR n ws (k :: seen) l
      | false => match isNil g with
        | true => match e with
          | .one (.c (.own i off)) => match Nat.ble (i + 1) n with
            | true => (k, .c (.own i off)) :: keepR n ws (k :: seen) l
            | false => keepR n ws (k :: seen) l
          | .one (.c (.row i)) => match Nat.ble (i + 1) n with
            | true => (k, .c (.row i)) :: keepR n ws (k :: seen) l
            | false => keepR n ws (k :: seen) l
          | _ => keepR n ws (k :: seen) l
        | false => keepR n ws (k :: seen) l

/-- The ways to resources are still there. -/
@[reducible] def hasR (s : St) : List (Nat × SV) → Bool
  | [] => true
  | (k, .c (.own i off)) :: l => match lkE s.env k with
    | some ([], .one (.c (.own i' off'))) => andB (andB (Nat.beq i i') (Nat.beq off off')) (hasR s l)
    | _ => false
  | (k, .c (.row i)) :: l => match lkE s.env k with
    | some ([], .one (.c (.row i'))) => andB (Nat.beq i i') (hasR s l)
    | _ => false
  | _ => false

@[reducible] def slotE : List (Nat × SV) → List (Nat × Gd × Ent)
  | [] => []
  | (k, v) :: l => (k, [], .one v) :: slotE l
@[reducible] def updT : List (Nat × Res) → List (Gd × Res) → List (Gd × Res)
  | [], T => T
  | (i, r) :: l, T => updT l (setL T i ([], r))
@[reducible] def headSt (ws : List Nat) (s : St) (sl : List (Nat × SV)) (rs : List (Nat × Res)) : St :=
  { env := catL (slotE sl) (catL (slotE (keepR (lenL s.T) ws [] s.env)) (keepE ws [] s.env)), T := updT rs s.T, gl := [], gs := [] }

@[reducible] def hasE (s : St) : List (Nat × SV) → Prop
  | [] => True
  | (k, v) :: l => (match lkE s.env k with
    | some ([], .one u) => u = v
    | _ => False) ∧ hasE s l

@[reducible] def goodT (n : Nat) (T : List (Gd × Res)) : Bool := allL (fun p => andB (isNil p.1) (resBelow n p.2)) T
@[reducible] def goodS (n : Nat) (ws : List Nat) (sl : List (Nat × SV)) : Bool := allL (fun p => andB (svBelow n p.2) (memN p.1 ws)) sl

/-- Nil slices that a loop takes for rows. -/
@[reducible] def nil1 (s : St) (k : Nat) (t : TypeId) (sh : Sh) : St := match lkE s.env k with
  | some ([], .one (.c (.v (.slice none 0 0)))) => { s with T := snoc s.T ([], .row t sh []), env := (k, [], .one (.c (.row (lenL s.T)))) :: s.env, gs := rmG s.gs k }
  | some ([], .one (.c (.own i 0))) => match nthL s.T i with
    | some ([], .blk t' [.v (.slice none 0 0)]) => { s with T := setL s.T i ([], .blk t' [.sl sh []]) }
    | _ => s
  | _ => s
/-- A resource is read otherwise. -/
theorem OK.reread {B : Base} {h0 : FH} {T : List Res} {h : FH} {β : List RV} {w : World} (ok : OK B h0 T h β w) {i : Nat} {r r' : Res} (hT : T[i]? = some r) (hl : r.live = true) (hold : ∀ v, Holds h β w r v → Holds h β w r' v) : OK B h0 (T.set i r') h β w := by
  have hi : i < T.length := (List.getElem?_eq_some_iff.1 hT).1
  have key : ∀ {m : Nat} {rm : Res}, (T.set i r')[m]? = some rm → rm.live = true → ∃ rm', T[m]? = some rm' ∧ rm'.live = true := by
    intro m rm e l
    by_cases hm : m = i
    · subst hm; exact ⟨r, hT, hl⟩
    · rw [List.getElem?_set_ne (Ne.symm hm)] at e; exact ⟨rm, e, l⟩
  exact {
    below := ok.below
    dr := ok.dr
    len := by simp [ok.len]
    holds := by
      intro j rj vj ej ej'
      by_cases hj : j = i
      · subst hj
        rw [List.getElem?_set_self hi] at ej
        cases ej
        exact hold vj (ok.holds j r vj hT ej')
      · rw [List.getElem?_set_ne (Ne.symm hj)] at ej; exact ok.holds j rj vj ej ej'
    own := by
      intro j rj vj b ej l ej' hb
      obtain ⟨rm, e1, e2⟩ := key ej l
      exact ok.own j rm vj b e1 e2 ej' hb
    inj := by
      intro j k r1 r2 u v b e1 l1 e2 l2 e3 e4 b1 b2
      obtain ⟨q1, f1, f2⟩ := key e1 l1
      obtain ⟨q2, g1, g2⟩ := key e2 l2
      exact ok.inj j k q1 q2 u v b f1 f2 g1 g2 e3 e4 b1 b2
    hle := ok.hle
    hw := ok.hw
    hg := ok.hg
    kn := ok.kn }
@[reducible] def frzSlot (s : St) (k : Nat) : St := match lkE s.env k with
  | some ([], .one (.c (.row r))) => frzS s r
  | _ => s
@[reducible] def frzSlots (s : St) : List Nat → St
  | [] => s
  | k :: l => frzSlots (frzSlot s k) l
theorem Sat.frzSlots {N : Nat} {B : Base} {h0 : FH} {w : World} {a : Act} {β : List RV} : ∀ (l : List Nat) {s : St} {h : FH}, Sat N B h0 s h β w a → ∃ h', h.le h' ∧ Sat N B h0 (frzSlots s l) h' β w a
  | [], s, h, sat => ⟨h, FH.le.refl h, sat⟩
  | k :: l, s, h, sat => by
    have h1 : ∃ h', h.le h' ∧ Sat N B h0 (frzSlot s k) h' β w a := by
      unfold frzSlot
      split
      · exact sat.frz1 _
      · exact ⟨h, FH.le.refl h, sat⟩
    obtain ⟨h1, le1, sat1⟩ := h1
    obtain ⟨h2, le2, sat2⟩ := Sat.frzSlots l sat1
    exact ⟨h2, le1.trans le2, sat2⟩
@[reducible] def nilSt (s : St) : List (Nat × TypeId × Sh) → St
  | [] => s
  | (k, t, sh) :: l => nilSt (nil1 s k t sh) l

theorem Sat.nil1 {N : Nat} {B : Base} {h0 : FH} {s : St} {h : FH} {β : List RV} {w : World} {a : Act} (sat : Sat N B h0 s h β w a) (k : Nat) (t : TypeId) (sh : Sh) : ∃ β', Sat N B h0 (nil1 s k t sh) h β' w a := by
  unfold Eng.nil1
  split
  · rename_i hk
    obtain ⟨z, z1, z2, _⟩ := sat.env k _ _ hk
    have ez : z = .slice none 0 0 := (z2 rfl : CnV h β (.c (.v (.slice none 0 0))) z).1.1
    subst ez
    have ok : OK B h0 (eff s.gl (snoc s.T ([], .row t sh []))) h (β ++ [.row (.slice none 0 0)]) w := by
      rw [eff_snoc]
      exact sat.ok.add (r := .row t sh []) (v := .row (.slice none 0 0)) (grown_refl w none) (fun b hb => by simp [RV.block, rowBlk] at hb) (.inl ⟨rfl, rfl⟩)
    have gT : ∀ p ∈ snoc s.T (([] : Gd), Res.row t sh []), gbd s.gl.length p.1 = true := by
      intro p hp
      rw [snoc_eq, List.mem_append] at hp
      rcases hp with hp | hp
      · exact sat.gT p hp
      · simp at hp; subst hp; rfl
    have sm := sat.mem ok (FH.le.refl h) (Ext.append _ _) gT
    refine ⟨_, ok, ?_, ?_, sat.defers, sat.sz, ?_, gT⟩
    · intro t' G e ht
      rw [lkE_cons] at ht
      split at ht
      · rename_i hkt
        subst hkt; cases ht
        refine ⟨_, z1, fun _ => ⟨?_, rfl, rfl⟩, fun hh => by cases hh⟩
        show (β ++ [.row (.slice none 0 0)])[lenL s.T]? = some (.row (.slice none 0 0))
        have : lenL s.T = β.length := by rw [sat.ok.len, eff_len, lenL_eq]
        rw [this]; simp
      · exact sm.env t' G e ht
    · intro d i hi
      obtain ⟨hne, hi⟩ := lkG_rm _ _ _ _ hi
      obtain ⟨G, b, q1, q2⟩ := sat.gs d i hi
      exact ⟨G, b, by rw [lkE_cons, if_neg (Ne.symm hne)]; exact q1, q2⟩
    · intro t' G e ht
      rw [lkE_cons] at ht
      split at ht
      · cases ht; rfl
      · exact sat.gb _ _ _ ht
  · rename_i i hk
    split
    · rename_i t' hT
      refine ⟨β, ?_, sat.env, sat.gs, sat.defers, sat.sz, sat.gb, ?_⟩
      · show OK B h0 (eff s.gl (setL s.T i ([], .blk t' [.sl sh []]))) h β w
        rw [eff_set]
        refine sat.ok.reread (effres hT (show gv s.gl [] = true from rfl)) rfl fun v hv => ?_
        cases v with
        | blk b =>
          obtain ⟨ys, e1, al⟩ := hv
          refine ⟨ys, e1, ?_⟩
          cases ys with
          | nil => exact al.elim
          | cons y ys =>
            cases ys with
            | cons _ _ => exact al.2.elim
            | nil =>
              obtain ⟨⟨c, o⟩, _⟩ := al
              obtain rfl : y = .slice none 0 0 := c.1
              exact ⟨⟨.inl ⟨rfl, rfl⟩, o⟩, trivial⟩
        | row _ => exact hv.elim
        | no => exact hv.elim
      · intro p hp
        rw [setL_eq] at hp
        rcases List.mem_or_eq_of_mem_set hp with hp | hp
        · exact sat.gT p hp
        · subst hp; rfl
    · exact ⟨β, sat⟩
  · exact ⟨β, sat⟩
theorem Sat.nilSt {N : Nat} {B : Base} {h0 : FH} {h : FH} {w : World} {a : Act} : ∀ (l : List (Nat × TypeId × Sh)) {s : St} {β : List RV}, Sat N B h0 s h β w a → ∃ β', Sat N B h0 (nilSt s l) h β' w a
  | [], s, β, sat => ⟨β, sat⟩
  | (k, t, sh) :: l, s, β, sat => by
    obtain ⟨β1, sat1⟩ := sat.nil1 k t sh
    exact Sat.nilSt l sat1

@[reducible] def loopK (body : St → (Exit → St → Prop) → Prop) (ws : List Nat) (la : LA) (s : St) (K : Exit → St → Prop) : Prop :=
  (∃ x, la.inv x ∧ hasE s (la.slots x) ∧ s.T = updT (la.res x) s.T) ∧
  ∀ x, la.inv x → match andB (goodT (lenL s.T) (updT (la.res x) s.T)) (goodS (lenL s.T) ws (la.slots x)) with
    | false => False
    | true => body (headSt ws s (la.slots x) (la.res x)) fun e s' => match e with
      | .normal => match hasR (swAll la.ren s') (keepR (lenL s.T) ws [] s.env) with
        | true => ∃ x', la.inv x' ∧ hasE (swAll la.ren s') (la.slots x') ∧ takeL (lenL s.T) (swAll la.ren s').T = updT (la.res x') s.T ∧ la.meas x' < la.meas x
        | false => False
      | e => K e s'

@[reducible] def roundsK (body : St → (Exit → St → Prop) → Prop) : Nat → St → (Exit → St → Prop) → Prop
  | 0, _, _ => False
  | n + 1, s, K => body s fun e s' => match e with
    | .normal => roundsK body n s' K
    | e => K e s'

@[reducible] def annK (E : Env) (c : Code) (s : St) : Option Ann := match E.ann (keyOf c) with
  | some f => some (f s)
  | none => none

/-! What a loop's relation may ask of the state before it. -/
@[reducible] def slotI (s : St) (t : Nat) : Int := match lkE s.env t with
  | some (_, .one (.c (.v (.int _ n)))) => n
  | _ => 0
@[reducible] def slotB (s : St) (t : Nat) : Bool := match lkE s.env t with
  | some (_, .one (.c (.v (.bool b)))) => b
  | _ => false
@[reducible] def slotS (s : St) (t : Nat) : ByteArray := match lkE s.env t with
  | some (_, .one (.c (.v (.string b)))) => b
  | _ => ByteArray.empty
@[reducible] def slotL (sh : Sh) (s : St) (t : Nat) : List sh.den := match lkE s.env t with
  | some (_, .one v) => match srcD s sh v with
    | some l => l
    | none => []
  | _ => []
@[reducible] def slotD (sh : Sh) (s : St) (t : Nat) : sh.den := match lkE s.env t with
  | some (_, .one v) => match toDat sh v with
    | some d => d
    | none => dflt sh
  | _ => dflt sh

/-- What the resource holds that a slot leads to. -/
@[reducible] def slotO (sh : Sh) (s : St) (t : Nat) : sh.den := match lkE s.env t with
  | some (_, .one (.c (.own k _))) => match nthL s.T k with
    | some (_, r) => match resQ sh r with
      | some v => match toDat sh v with
        | some d => d
        | none => dflt sh
      | none => dflt sh
    | none => dflt sh
  | _ => dflt sh
/-- A branch. -/
@[reducible] def br (b : Bool) (X Y : Prop) : Prop := match b with
  | true => X
  | false => Y
theorem br_iff {b : Bool} {X Y : Prop} : br b X Y ↔ (b = true → X) ∧ (b = false → Y) := by cases b <;> simp [br]

/-- The parameters of a round. -/
@[reducible] def parE : (ps : List Nat) → (ss : List Sh) → dens ss → List (Nat × Gd × Ent)
  | p :: ps, s :: ss, d => (p, [], .one (ofDat s d.1)) :: parE ps ss d.2
  | _, _, _ => []
@[reducible] def parOK (n : Nat) : List Nat → List Sh → Bool
  | [], [] => true
  | p :: ps, _ :: ss => andB (andB (Nat.ble (p + 1) n) (!(memN p ps))) (parOK n ps ss)
  | _, _ => false
/-- What the caller's slots hold in a round, and behind the loop. -/
@[reducible] def rdE (ws dr : List Nat) (s : St) : List (Nat × Gd × Ent) := catL (slotE (keepR (lenL s.T) ws [] s.env)) (keepE dr [] s.env)
@[reducible] def rangeK (n : Nat) (body : St → (Exit → St → Prop) → Prop) (ws : List Nat) (ra : RA) (ps : List Nat) (ss : List Sh) (L : List (dens ss)) (s : St) (K : Exit → St → Prop) : Prop :=
  match parOK n ps ss with
  | false => False
  | true =>
  (∃ x, ra.inv 0 x ∧ s.T = updT (ra.res x) s.T) ∧
  (∀ i x d, ra.inv i x → L[i]? = some d → match goodT (lenL s.T) (updT (ra.res x) s.T) with
    | false => False
    | true => body { env := catL (parE ps ss d) (rdE ws (catL ra.drop ps) s), T := updT (ra.res x) s.T, gl := [], gs := [] } fun e s' => match hasR s' (keepR (lenL s.T) ws [] s.env) with
      | false => False
      | true => match e with
        | .normal => ∃ x', ra.inv (i + 1) x' ∧ takeL (lenL s.T) s'.T = updT (ra.res x') s.T
        | .ret => K .ret { env := rdE ws ra.drop s, T := s'.T, gl := s'.gl, gs := [] }
        | .exit j => K (.exit j) { env := rdE ws ra.drop s, T := s'.T, gl := s'.gl, gs := [] }
        | _ => False) ∧
  ∀ x, ra.inv (lenL L) x → match goodT (lenL s.T) (updT (ra.res x) s.T) with
    | false => False
    | true => K .normal { env := rdE ws ra.drop s, T := updT (ra.res x) s.T, gl := [], gs := [] }

/-- Resources to come. -/
@[reducible] def padS : Nat → St → St
  | 0, s => s
  | n + 1, s => padS n { s with T := snoc s.T ([], .gone) }
theorem Sat.padS {N : Nat} {B : Base} {h0 : FH} {h : FH} {w : World} {a : Act} : ∀ (n : Nat) {s : St} {β : List RV}, Sat N B h0 s h β w a → ∃ β', Sat N B h0 (padS n s) h β' w a
  | 0, s, β, sat => ⟨β, sat⟩
  | n + 1, s, β, sat => by
    refine Sat.padS n (β := β ++ [.no]) (s := { s with T := snoc s.T ([], .gone) }) ?_
    refine sat.mem ?_ (FH.le.refl h) (Ext.append _ _) fun p hp => ?_
    · rw [eff_snoc]
      exact sat.ok.add (r := .gone) (v := .no) (grown_refl w none) (fun b hb => by cases hb) trivial
    · rw [snoc_eq, List.mem_append] at hp
      rcases hp with hp | hp
      · exact sat.gT p hp
      · simp at hp; subst hp; rfl

/-- A cut: behind a piece of code the state is known by a relation alone. -/
@[reducible] def cutA (E : Env) (c : Code) (s : St) : Option LA := match annK E c s with
  | some (.cut la) => some la
  | _ => none
@[reducible] def cutI (ws : List Nat) (la : LA) (s s' : St) : Prop := match hasR (swAll la.ren (nilSt (frzSlots s' la.frz) la.nil)) (keepR (lenL s.T) ws [] s.env) with
  | true => ∃ v, la.inv v ∧ hasE (swAll la.ren (nilSt (frzSlots s' la.frz) la.nil)) (la.slots v) ∧ takeL (lenL s.T) (swAll la.ren (nilSt (frzSlots s' la.frz) la.nil)).T = updT (la.res v) s.T
  | false => False

@[reducible] def codeK : Env → Code → St → (Exit → St → Prop) → Prop
  | E, .skip, s, K => K .normal s
  | E, .region _ ops draw, s, K => match ndL (tl ops) with
    | false => False
    | true => match draw with
      | false => opsI E (tl ops) (tl ops) s fun s => K .normal (clean s)
      | true => match drawOrd ops with
        | some l => treeK E (tl ops) l s fun s => K .normal (clean s)
        | none => False
  | E, .seq x y, s, K => match cutA E y s with
    | some la => (codeK E x (padS la.pad s) fun e s' => match e with
        | .normal => cutI (catL la.drop (writes x)) la (padS la.pad s) s'
        | e => K e s') ∧ ∀ v, la.inv v → match andB (goodT (lenL (padS la.pad s).T) (updT (la.res v) (padS la.pad s).T)) (goodS (lenL (padS la.pad s).T) (catL la.drop (writes x)) (la.slots v)) with
          | false => False
          | true => codeK E y (headSt (catL la.drop (writes x)) (padS la.pad s) (la.slots v) (la.res v)) K
    | none => codeK E x s fun e s' => match e with
      | .normal => codeK E y s' K
      | e => K e s'
  | E, .cond c x y, s, K => match getE E.cx s [] c with
    | some (.one (.c (.v (.bool b)))) => br b (codeK E x s K) (codeK E y s K)
    | _ => False
  | E, .block id c, s, K => codeK E c s fun e s' => match e with
    | .exit i => match Nat.beq i id with
      | true => K .normal s'
      | false => K (.exit i) s'
    | e => K e s'
  | E, .loop c, s, K => match annK E c s with
    | some (.inv la) => loopK (codeK E c) (catL la.drop (writes c)) la (padS la.pad (nilSt (frzSlots s la.frz) la.nil)) K
    | some (.unroll n) => roundsK (codeK E c) n s K
    | _ => False
  | E, .rangeFunc g ps asg c, s, K => match E.rd with
    | true => False
    | false => match getE E.cx s [] g with
      | some (.one (.c (.abs (.seq P' ss L)))) => match annK E c s with
        | some (.rng ra) => E.P = some P' ∧ rangeK E.n (fun s K => codeK { E with rd := true } asg s fun e s' => match e with
          | .normal => codeK { E with rd := true } c s' K
          | _ => False) (catL ra.drop (catL (tl ps) (catL (writes asg) (writes c)))) ra (tl ps) ss L (nilSt (frzSlots s ra.frz) ra.nil) K
        | _ => False
      | _ => False
  | E, .exit i, s, K => K (.exit i) s
  | E, .ret, s, K => K .ret s
  | _, _, _, _ => False
end Go.Eng
set_option linter.unusedSimpArgs false
set_option linter.unusedVariables false
namespace Go.Eng
open Go Go.RowKit

@[reducible] def markOf (D : Nat) : Deferred := { target := .collected D, args := #[] }

theorem gs_loop (w : World) (a b : Obj) (G : Nat → Prop) : Gs G w ((w.alloc a).alloc b) :=
  ⟨rfl, rfl, rfl, by simp; omega, Nat.le_refl _, fun k hk _ => by
    rw [Below.heap_alloc _ _ _ (by simp; omega), Below.heap_alloc _ _ _ hk]⟩

/-- How a round may be left. -/
def roundQ (A : World) (l D : Nat) (G : Nat → Prop) (I : World → Prop) (Ix : Code → World → Prop) : Exit → Act → World → Prop
  | .normal, _, A' => (∀ b, b = l ∨ b = D ∨ G b → A'.heap[b]? = A.heap[b]?) ∧ I A'
  | .ret, _, A' => (∀ b, b = l ∨ b = D ∨ G b → A'.heap[b]? = A.heap[b]?) ∧ Ix .ret A'
  | .exit id, _, A' => (∀ b, b = l ∨ b = D ∨ G b → A'.heap[b]? = A.heap[b]?) ∧ Ix (.exit id) A'
  | .goto t, _, _ => False
  | .panic _, _, _ => False
  | .outgrown, _, _ => False

theorem range_law {P : Program} {h : FH} {ss : List Sh} {L : List (dens ss)} {g : Operand} {ps : Array Tmp} {asg body : Code} {Q : Exit → Act → World → Prop} {a : Act} {w : World} {n : Nat}
    (gv : Gives P h ss L (a.eval g)) (hps : ps.size = ss.length)
    (I : Nat → (Nat → Prop) → World → Prop) (Ix : Code → (Nat → Prop) → World → Prop) (hI : ∀ i G A, I i G A → HW h A) (hX : ∀ c G A, Ix c G A → HW h A)
    (hIg : ∀ i G G' A A', I i G A → Gs G A A' → Own' G G' A A' → I i G' A') (hXg : ∀ c G G' A A', Ix c G A → Gs G A A' → Own' G G' A A' → Ix c G' A')
    (hIp : ∀ i G A l o o', I i G A → w.heap.size ≤ l → A.heap[l]? = some o → o.isCells = false → I i G (A.putObj l o'))
    (hXp : ∀ c G A l o o', Ix c G A → w.heap.size ≤ l → A.heap[l]? = some o → o.isCells = false → Ix c G (A.putObj l o'))
    (h0 : I 0 (fun _ => False) w)
    (hbody : ∀ (i : Nat) (d : dens ss) (vs : List Value) (G : Nat → Prop) (A : World) (l : Nat) (o1 o1' o2 : Obj), L[i]? = some d → DVs h ss d vs → I i G A → w.heap.size < l → A.heap[l]? = some o1 → o1.isCells = false → o1'.isCells = false → A.heap[w.heap.size]? = some o2 → o2.isCells = false → ¬ G l →
      asg.wpIn (Fence.wide.inRound l) 0 P (Exit.then (fun a1 A1 => (∀ b, b = l ∨ b = w.heap.size ∨ G b → A1.heap[b]? = A.heap[b]?) ∧
        body.wpIn (Fence.wide.inRound l) 0 P (roundQ (A1.putObj l o1') l w.heap.size G (I (i + 1) G) (fun c => Ix c G)) a1 (A1.putObj l o1')) (fun _ _ _ => False)) { tmps := (ps.zip vs.toArray).foldl (fun t (p, v) => t.setIfInBounds p v) a.tmps, defers := [] } A)
    (hdone : ∀ G A, I L.length G A → A.heap[w.heap.size]? = some (.deferred (some [])) → Q .normal { a with defers := markOf w.heap.size :: a.defers } A)
    (hret : ∀ G A, Ix .ret G A → A.heap[w.heap.size]? = some (.deferred (some [])) → Q .ret { a with defers := markOf w.heap.size :: a.defers } A)
    (hexit : ∀ j G A, Ix (.exit j) G A → A.heap[w.heap.size]? = some (.deferred (some [])) → Q (.exit j) { a with defers := markOf w.heap.size :: a.defers } A) :
    (Code.rangeFunc g ps asg body).wpIn Fence.wide n P Q a w := by
  refine wpIn_rangeFunc fun fn hfn => ?_
  obtain ⟨gf, lb, hg, ⟨fng, hfg, hbg, hng⟩, gives⟩ := gv
  obtain ⟨rec, hrec⟩ : ∃ rec : LoopState → Option Code → Loop, rec = fun st pe => { state := st, pending := pe, fn, tmps := a.tmps, params := ps, assign := asg, body, defers := w.heap.size } := ⟨_, rfl⟩
  obtain ⟨W1, hW1⟩ : ∃ W1, (w.alloc (.deferred (some []))).alloc (.loop (rec .ready none)) = W1 := ⟨_, rfl⟩
  have hL1 : W1.heap[w.heap.size + 1]? = some (.loop (rec .ready none)) := by
    rw [← hW1]; have := World.alloc_heap_new (w.alloc (.deferred (some []))) (.loop (rec .ready none)); rwa [World.size_alloc] at this
  have hD1 : W1.heap[w.heap.size]? = some (.deferred (some [])) := by
    rw [← hW1]; exact (Below.heap_alloc _ _ _ (by simp)).trans (World.alloc_heap_new w _)
  have hI1 : I 0 (fun _ => False) W1 := hIg 0 _ _ _ _ h0 (by rw [← hW1]; exact gs_loop w _ _ _) (fun b hb => hb.elim)
  have kd : ∀ {G G' : Nat → Prop} {A A' : World} {k : Nat} {o : Obj}, A.heap[k]? = some o → ¬ G k → Gs G A A' → Own' G G' A A' → A'.heap[k]? = some o ∧ ¬ G' k := fun hk hn hgs ho =>
    ⟨(hgs.block _ (Array.getElem?_eq_some_iff.1 hk).1 hn).trans hk, fun hh => by
      have h1 := (Array.getElem?_eq_some_iff.1 hk).1
      rcases (ho _ hh).2 with h2 | h2
      · exact hn h2
      · omega⟩
  refine ⟨w.heap.size + 1, [markOf w.heap.size], W1, { target := .fn (.func gf) lb, args := #[.func (.yield (w.heap.size + 1)) #[] #[]] }, W1, gf,
    #[.func (.yield (w.heap.size + 1)) #[] #[]] ++ lb, W1, ?_, ?_, ?_, ?_, fun hh => (by cases hh), ?_⟩
  · rw [← hW1, hrec]; exact run_enterLoop_outer _ _ _ _ _
  · simp only [resolve, hg]
    simp [go_sem]
  · intro f' hf'; trivial
  · have e : (callFunc gf (#[.func (.yield (w.heap.size + 1)) #[] #[]] ++ lb)).run P W1 = .ok (.enter gf (#[.func (.yield (w.heap.size + 1)) #[] #[]] ++ lb)) W1 := by
      simp only [callFunc, Sem.run_bind, run_program, Result.andThen_ok, hfg, hng]
      simp [hbg]
      cases hb : fng.body with
      | none => rw [hb] at hbg; cases hbg
      | some _ => simp
    simp [invoke, go_sem, e]
  · have hc := gives (w.heap.size + 1)
      (fun i G A => match i with
        | some i => I i G A ∧ (A.heap[w.heap.size + 1]? = some (.loop (rec .ready none)) ∧ ¬ G (w.heap.size + 1)) ∧ (A.heap[w.heap.size]? = some (.deferred (some [])) ∧ ¬ G w.heap.size)
        | none => ∃ c, (c = .ret ∨ ∃ j, c = .exit j) ∧ Ix c G A ∧ (A.heap[w.heap.size + 1]? = some (.loop (rec .done (some c))) ∧ ¬ G (w.heap.size + 1)) ∧ (A.heap[w.heap.size]? = some (.deferred (some [])) ∧ ¬ G w.heap.size)) W1
      (fun i G A x => by
        cases i with
        | some i => exact hI i G A x.1
        | none => obtain ⟨c, _, x1, _⟩ := x; exact hX c G A x1)
      (fun i G G' A A' x hgs ho => by
        cases i with
        | some i => exact ⟨hIg i _ _ _ _ x.1 hgs ho, kd x.2.1.1 x.2.1.2 hgs ho, kd x.2.2.1 x.2.2.2 hgs ho⟩
        | none =>
          obtain ⟨c, hc, x1, x2, x3⟩ := x
          exact ⟨c, hc, hXg c _ _ _ _ x1 hgs ho, kd x2.1 x2.2 hgs ho, kd x3.1 x3.2 hgs ho⟩)
      (fun i d vs G A hd hv x => by
        obtain ⟨x1, ⟨x2, y2n⟩, x3, y3n⟩ := x
        have hlt : w.heap.size + 1 < A.heap.size := (Array.getElem?_eq_some_iff.1 x2).1
        have hvl : vs.length = ss.length := by
          have : ∀ {ss : List Sh} {d : dens ss} {vs : List Value}, DVs h ss d vs → vs.length = ss.length := by
            intro ss
            induction ss with
            | nil => intro d vs x; cases vs with | nil => rfl | cons _ _ => exact x.elim
            | cons s l ih => intro d vs x; cases vs with | nil => exact x.elim | cons v vs => simp [ih x.2]
          exact this hv
        have hy := run_yield (P := P) (args := vs.toArray) x2 (by rw [hrec]; simp [hps, hvl])
        rw [hrec] at hy
        refine ⟨fn, _, asg, body, hy, (roundIn_of_wpIn (F := Fence.wide) (n := 0) trivial ?_ : RoundIn Fence.wide _ P _ _ _ _ _ _ _)⟩
        refine wpIn_mono (hbody i d vs G A (w.heap.size + 1) _ (.loop { rec .ready none with state := .busy }) _ hd hv x1 (by omega) x2 rfl rfl x3 rfl y2n) ?_
        intro e0 a1 A1 h1
        cases e0 with
        | exit j => exact h1
        | goto j => exact h1
        | ret => exact h1
        | panic c => exact h1
        | outgrown => exact h1
        | normal =>
        obtain ⟨k1, h1⟩ := h1
        have z2 : A1.heap[w.heap.size + 1]? = some (.loop (rec .ready none)) := (k1 _ (.inl rfl)).trans x2
        have z3 : A1.heap[w.heap.size]? = some (.deferred (some [])) := (k1 _ (.inr (.inl rfl))).trans x3
        have hlt1 : w.heap.size + 1 < A1.heap.size := (Array.getElem?_eq_some_iff.1 z2).1
        refine ⟨_, run_beginRound z2 (by rw [hrec]), ?_⟩
        have y2 : (A1.putObj (w.heap.size + 1) (.loop { rec .ready none with state := .busy })).heap[w.heap.size + 1]? = some (.loop { rec .ready none with state := .busy }) := World.putObj_heap_same hlt1
        have y3 : (A1.putObj (w.heap.size + 1) (.loop { rec .ready none with state := .busy })).heap[w.heap.size]? = some (.deferred (some [])) := (World.putObj_heap_other (by omega)).trans z3
        have fin : ∀ (jump : Option Code) (A3 : World), A3.heap[w.heap.size + 1]? = some (.loop { rec .ready none with state := .busy }) → A3.heap[w.heap.size]? = some (.deferred (some [])) →
            (Instr.endRound (w.heap.size + 1) jump).run P A3 = .ok (.bool jump.isNone) (A3.putObj (w.heap.size + 1) (.loop (rec (if jump.isNone then .ready else .done) jump))) ∧
            (A3.putObj (w.heap.size + 1) (.loop (rec (if jump.isNone then .ready else .done) jump))).heap[w.heap.size + 1]? = some (.loop (rec (if jump.isNone then .ready else .done) jump)) ∧
            (A3.putObj (w.heap.size + 1) (.loop (rec (if jump.isNone then .ready else .done) jump))).heap[w.heap.size]? = some (.deferred (some [])) := fun jump A3 h3 h4 => by
          have := run_endRound (P := P) jump h3
          rw [hrec] at this ⊢
          exact ⟨this, World.putObj_heap_same (Array.getElem?_eq_some_iff.1 h3).1, (World.putObj_heap_other (by omega)).trans h4⟩
        have kg : ∀ (A3 : World) (o' : Obj), (∀ b, b = w.heap.size + 1 ∨ b = w.heap.size ∨ G b → A3.heap[b]? = (A1.putObj (w.heap.size + 1) (.loop { rec .ready none with state := .busy })).heap[b]?) → ∀ b, G b → (A3.putObj (w.heap.size + 1) o').heap[b]? = A.heap[b]? := by
          intro A3 o' hk b hb
          have hne : b ≠ w.heap.size + 1 := by rintro rfl; exact y2n hb
          rw [World.putObj_heap_other hne, hk b (.inr (.inr hb)), World.putObj_heap_other hne, k1 b (.inr (.inr hb))]
        refine wpIn_mono h1 ?_
        rintro e a3 A3 hp
        cases e with
        | normal =>
          obtain ⟨p0, p3⟩ := hp
          have p1 := p0 _ (.inl rfl)
          have p2 := p0 _ (.inr (.inl rfl))
          rw [y2] at p1; rw [y3] at p2
          obtain ⟨q1, q2, q3⟩ := fin none A3 p1 p2
          exact ⟨_, _, q1, kg A3 _ p0, .inl ⟨rfl, hIp _ _ _ _ _ _ p3 (by omega) p1 rfl, ⟨q2, y2n⟩, q3, y3n⟩⟩
        | ret =>
          obtain ⟨p0, p3⟩ := hp
          have p1 := p0 _ (.inl rfl)
          have p2 := p0 _ (.inr (.inl rfl))
          rw [y2] at p1; rw [y3] at p2
          obtain ⟨q1, q2, q3⟩ := fin (some .ret) A3 p1 p2
          exact ⟨_, _, q1, kg A3 _ p0, .inr ⟨rfl, .ret, .inl rfl, hXp _ _ _ _ _ _ p3 (by omega) p1 rfl, ⟨q2, y2n⟩, q3, y3n⟩⟩
        | exit id =>
          obtain ⟨p0, p3⟩ := hp
          have p1 := p0 _ (.inl rfl)
          have p2 := p0 _ (.inr (.inl rfl))
          rw [y2] at p1; rw [y3] at p2
          obtain ⟨q1, q2, q3⟩ := fin (some (.exit id)) A3 p1 p2
          exact ⟨_, _, q1, kg A3 _ p0, .inr ⟨rfl, .exit id, .inr ⟨id, rfl⟩, hXp _ _ _ _ _ _ p3 (by omega) p1 rfl, ⟨q2, y2n⟩, q3, y3n⟩⟩
        | goto t => exact hp.elim
        | panic ch => exact hp.elim
        | outgrown => exact hp.elim)
      ⟨hI1, ⟨hL1, fun hh => hh⟩, hD1, fun hh => hh⟩
    refine CallsIn.mono (F := Fence.wide) (n := n - 1) (callsIn_wide.2 (callsIn_wide.1 hc)) ?_
    rintro e W2 ⟨⟨v, rfl⟩, G, hJ⟩
    rcases hJ with ⟨x1, ⟨x2, _⟩, x3, _⟩ | ⟨c, hc, x1, ⟨x2, _⟩, x3, _⟩
    · refine ⟨none, _, by have := run_endLoop (P := P) x2 (by rw [hrec]; simp); rw [hrec] at this; exact this, ?_⟩
      exact hdone G _ (hIp _ _ _ _ _ _ x1 (by omega) x2 rfl) ((World.putObj_heap_other (by omega)).trans x3)
    · refine ⟨some c, _, by have := run_endLoop (P := P) x2 (by rw [hrec]; simp); rw [hrec] at this; exact this, ?_⟩
      have y1 := hXp _ _ _ _ _ (.loop { rec .done (some c) with state := .exhausted }) x1 (show w.heap.size ≤ w.heap.size + 1 by omega) x2 rfl
      have y3 : (W2.putObj (w.heap.size + 1) (.loop { rec .done (some c) with state := .exhausted })).heap[w.heap.size]? = some (.deferred (some [])) := (World.putObj_heap_other (by omega)).trans x3
      rw [hrec] at y1 y3
      rcases hc with rfl | ⟨j, rfl⟩
      · exact wpIn_ret (hret G _ y1 y3)
      · exact wpIn_exit (hexit _ G _ y1 y3)
end Go.Eng
set_option linter.unusedSimpArgs false
set_option linter.unusedVariables false
namespace Go.Eng
open Go Go.RowKit

theorem lkE_cat : ∀ {l m : List (Nat × Gd × Ent)} {t : Nat}, lkE (catL l m) t = match lkE l t with | some x => some x | none => lkE m t
  | [], m, t => rfl
  | (k, x) :: l, m, t => by
    rw [show catL ((k, x) :: l) m = (k, x) :: catL l m from rfl, lkE_cons, lkE_cons]
    split
    · rfl
    · exact lkE_cat

theorem slotE_get : ∀ {l : List (Nat × SV)} {t : Nat} {G : Gd} {e : Ent}, lkE (slotE l) t = some (G, e) → ∃ v, e = .one v ∧ G = [] ∧ (t, v) ∈ l
  | [], _, _, _, h => by simp [slotE, lkE] at h
  | (k, v) :: l, t, G, e, h => by
    simp only [slotE] at h
    rw [lkE_cons] at h
    split at h
    · rename_i hk; subst hk; cases h; exact ⟨v, rfl, rfl, by simp⟩
    · obtain ⟨u, h1, h2, h3⟩ := slotE_get h; exact ⟨u, h1, h2, by simp [h3]⟩

theorem keepE_get {ws : List Nat} : ∀ {l : List (Nat × Gd × Ent)} {seen : List Nat} {t : Nat} {G : Gd} {e : Ent}, lkE (keepE ws seen l) t = some (G, e) →
    memN t seen = false ∧ memN t ws = false ∧ lkE l t = some (G, e) ∧ G = [] ∧ entRefFree e = true
  | [], _, _, _, _, h => by simp [keepE, lkE] at h
  | (k, g, e0) :: l, seen, t, G, e, h => by
    have skip : lkE (keepE ws (k :: seen) l) t = some (G, e) → memN t seen = false ∧ memN t ws = false ∧ lkE ((k, g, e0) :: l) t = some (G, e) ∧ G = [] ∧ entRefFree e = true := by
      intro h
      obtain ⟨h1, h2, h3, h4⟩ := keepE_get h
      rw [memN_cons, Bool.or_eq_false_iff] at h1
      refine ⟨h1.2, h2, ?_, h4⟩
      rw [lkE_cons, if_neg]
      · exact h3
      · rintro rfl; exact Nat.ne_of_beq_eq_false h1.1 rfl
    unfold keepE at h
    split at h
    · rename_i hm
      obtain ⟨h1, h2, h3, h4⟩ := keepE_get h
      refine ⟨h1, h2, ?_, h4⟩
      rw [lkE_cons, if_neg]
      · exact h3
      · rintro rfl; rw [hm] at h1; cases h1
    · rename_i hm
      split at h
      · exact skip h
      · rename_i hw
        split at h
        · rename_i hc
          rw [andB_eq, Bool.and_eq_true] at hc
          rw [lkE_cons] at h
          split at h
          · rename_i hk
            subst hk
            cases h
            refine ⟨hm, hw, by rw [lkE_cons, if_pos rfl], ?_, hc.2⟩
            cases g with
            | nil => rfl
            | cons _ _ => have := hc.1; cases this
          · exact skip h
        · exact skip h

theorem hasE_mem {s : St} : ∀ {l : List (Nat × SV)}, hasE s l → ∀ p ∈ l, lkE s.env p.1 = some ([], .one p.2)
  | [], _, p, hp => by simp at hp
  | (k, v) :: l, ⟨h1, h2⟩, p, hp => by
    rcases List.mem_cons.1 hp with rfl | hp
    · split at h1
      · rename_i u hu; rw [hu, h1]
      · exact h1.elim
    · exact hasE_mem h2 p hp

theorem hasR_mem {s : St} : ∀ {l : List (Nat × SV)}, hasR s l = true → ∀ p ∈ l, lkE s.env p.1 = some ([], .one p.2)
  | [], _, p, hp => by simp at hp
  | (k, .c (.own i off)) :: l, h, p, hp => by
    simp only [hasR] at h
    split at h
    · rename_i i' off' hu
      rw [andB_eq, andB_eq, Bool.and_eq_true, Bool.and_eq_true] at h
      rcases List.mem_cons.1 hp with rfl | hp
      · have e1 := Nat.eq_of_beq_eq_true h.1.1
        have e2 := Nat.eq_of_beq_eq_true h.1.2
        rw [hu, e1, e2]
      · exact hasR_mem h.2 p hp
    · cases h
  | (k, .c (.row i)) :: l, h, p, hp => by
    simp only [hasR] at h
    split at h
    · rename_i i' hu
      rw [andB_eq, Bool.and_eq_true] at h
      rcases List.mem_cons.1 hp with rfl | hp
      · have e1 := Nat.eq_of_beq_eq_true h.1
        rw [hu, e1]
      · exact hasR_mem h.2 p hp
    · cases h
  | (k, .c (.v _)) :: l, h, p, hp => by cases h
  | (k, .c (.sl _ _)) :: l, h, p, hp => by cases h
  | (k, .c (.fp _ _)) :: l, h, p, hp => by cases h
  | (k, .c (.rowp _ _ _ _)) :: l, h, p, hp => by cases h
  | (k, .c (.abs _)) :: l, h, p, hp => by cases h
  | (k, .c .junk) :: l, h, p, hp => by cases h
  | (k, .agg _) :: l, h, p, hp => by cases h
  | (k, .dat _ _) :: l, h, p, hp => by cases h
  | (k, .und) :: l, h, p, hp => by cases h

theorem keepR_below {n : Nat} {ws : List Nat} : ∀ {l : List (Nat × Gd × Ent)} {seen : List Nat}, ∀ p ∈ keepR n ws seen l, svBelow n p.2 = true
  | [], _, p, hp => by simp [keepR] at hp
  | (k, g, e) :: l, seen, p, hp => by
    unfold keepR at hp
    repeat' (split at hp)
    all_goals first
      | exact keepR_below p hp
      | (rcases List.mem_cons.1 hp with rfl | hp
         · assumption
         · exact keepR_below p hp)

theorem keepR_mem {n : Nat} {ws : List Nat} : ∀ {l : List (Nat × Gd × Ent)} {seen : List Nat}, ∀ p ∈ keepR n ws seen l, memN p.1 seen = false ∧ lkE l p.1 = some ([], .one p.2)
  | [], _, p, hp => by simp [keepR] at hp
  | (k, g, e) :: l, seen, p, hp => by
    have skip1 : memN k seen = true → p ∈ keepR n ws seen l → memN p.1 seen = false ∧ lkE ((k, g, e) :: l) p.1 = some ([], .one p.2) := by
      intro hm hp
      obtain ⟨h1, h2⟩ := keepR_mem p hp
      refine ⟨h1, ?_⟩
      rw [lkE_cons, if_neg]
      · exact h2
      · rintro rfl; rw [hm] at h1; cases h1
    have skip2 : p ∈ keepR n ws (k :: seen) l → memN p.1 seen = false ∧ lkE ((k, g, e) :: l) p.1 = some ([], .one p.2) := by
      intro hp
      obtain ⟨h1, h2⟩ := keepR_mem p hp
      rw [memN_cons, Bool.or_eq_false_iff] at h1
      refine ⟨h1.2, ?_⟩
      rw [lkE_cons, if_neg]
      · exact h2
      · rintro rfl; exact Nat.ne_of_beq_eq_false h1.1 rfl
    unfold keepR at hp
    split at hp
    · rename_i hm; exact skip1 hm hp
    · rename_i hm
      split at hp
      · exact skip2 hp
      · split at hp
        · rename_i hn
          have hg : g = [] := by cases g with | nil => rfl | cons _ _ => simp [isNil] at hn
          subst hg
          split at hp
          · split at hp
            · rcases List.mem_cons.1 hp with rfl | hp
              · exact ⟨hm, by rw [lkE_cons, if_pos rfl]⟩
              · exact skip2 hp
            · exact skip2 hp
          · split at hp
            · rcases List.mem_cons.1 hp with rfl | hp
              · exact ⟨hm, by rw [lkE_cons, if_pos rfl]⟩
              · exact skip2 hp
            · exact skip2 hp
          · exact skip2 hp
        · exact skip2 hp

theorem take_get {α : Type} {l : List α} {n i : Nat} (h : i < n) : (l.take n)[i]? = l[i]? := by
  rw [List.getElem?_take, if_pos h]
theorem CnC.below {h : FH} {β : List RV} {n : Nat} : ∀ {x : SC} {y : Value}, scBelow n x = true → CnC h β x y → CnC h (β.take n) x y
  | .v _, _, _, c => c
  | .sl _ _, _, _, c => c
  | .fp _ _, _, _, c => c
  | .own i _, _, f, ⟨b, e, e'⟩ => ⟨b, by rw [take_get (by have := Nat.le_of_ble_eq_true f; omega)]; exact e, e'⟩
  | .row i, _, f, e => by
    show (β.take n)[i]? = _
    rw [take_get (by have := Nat.le_of_ble_eq_true f; omega)]; exact e
  | .rowp i _ _ _, _, f, ⟨v, g, e, e'⟩ => ⟨v, g, by rw [take_get (by have := Nat.le_of_ble_eq_true f; omega)]; exact e, e'⟩
  | .abs _, _, _, c => c
  | .junk, _, _, _ => trivial
theorem CnV.below {h : FH} {β : List RV} {n : Nat} : ∀ {x : SV} {y : Value}, svBelow n x = true → CnV h β x y → CnV h (β.take n) x y
  | .c _, _, f, c => ⟨c.1.below f, c.2⟩
  | .agg _, _, f, ⟨ys, e, a⟩ => ⟨ys, e, a.allL (fun _ _ f ⟨p, q⟩ => ⟨p.below f, q⟩) f⟩
  | .dat _ _, _, _, c => c
  | .und, _, _, c => c
theorem Holds.below {h : FH} {β : List RV} {w : World} {n : Nat} : ∀ {r : Res} {v : RV}, resBelow n r = true → Holds h β w r v → Holds h (β.take n) w r v
  | .blk _ _, .blk _, f, ⟨ys, e, a⟩ => ⟨ys, e, a.allL (fun _ _ f ⟨p, q⟩ => ⟨p.below f, q⟩) f⟩
  | .row _ _ _, .row _, _, c => c
  | .obj _ _ _, .blk _, _, c => c
  | .gone, _, _, _ => trivial

theorem CnC.refFree {h : FH} {β : List RV} : ∀ {x : SC} {y : Value}, scRefFree x = true → CnC h β x y → ∀ β', CnC h β' x y
  | .v _, _, _, c => fun _ => c
  | .sl _ _, _, _, c => fun _ => c
  | .fp _ _, _, _, c => fun _ => c
  | .abs _, _, _, c => fun _ => c
  | .junk, _, _, _ => fun _ => trivial
  | .own _ _, _, f, _ => by simp [scRefFree] at f
  | .row _, _, f, _ => by simp [scRefFree] at f
  | .rowp _ _ _ _, _, f, _ => by simp [scRefFree] at f
theorem CnV.refFree {h : FH} {β : List RV} (β' : List RV) : ∀ {x : SV} {y : Value}, svRefFree x = true → CnV h β x y → CnV h β' x y
  | .c _, _, f, c => ⟨c.1.refFree f β', c.2⟩
  | .agg _, _, f, ⟨ys, e, a⟩ => ⟨ys, e, a.allL (fun _ _ f ⟨p, q⟩ => ⟨p.refFree f β', q⟩) f⟩
  | .dat _ _, _, _, c => c
  | .und, _, _, c => c
theorem CnE.refFree {h : FH} {β : List RV} (β' : List RV) : ∀ {x : Ent} {y : Value}, entRefFree x = true → CnE h β x y → CnE h β' x y
  | .one _, _, f, c => CnV.refFree β' f c
  | .tup _, _, f, ⟨ys, e, a⟩ => ⟨ys, e, a.allL (R' := CnV h β') (fun _ _ f c => CnV.refFree β' f c) f⟩

theorem OK.take {B : Base} {h0 : FH} {T : List Res} {h : FH} {β : List RV} {w : World} (ok : OK B h0 T h β w) {n : Nat} (hn : n ≤ T.length) (below : ∀ r ∈ T.take n, resBelow n r = true) : OK B h0 (T.take n) h (β.take n) w where
  below := ok.below
  dr := ok.dr
  len := by simp [ok.len]
  holds := by
    intro i r v e e'
    have hi : i < n := by have := (List.getElem?_eq_some_iff.1 e).1; simp at this; omega
    have hm := below r (List.mem_of_getElem? e)
    rw [take_get hi] at e e'
    exact (ok.holds i r v e e').below hm
  own := by
    intro i r v b e l e' hb
    have hi : i < n := by have := (List.getElem?_eq_some_iff.1 e).1; simp at this; omega
    rw [take_get hi] at e e'
    exact ok.own i r v b e l e' hb
  inj := by
    intro i j r r' u v b e l e' l' f f' hb hb'
    have hi : i < n := by have := (List.getElem?_eq_some_iff.1 e).1; simp at this; omega
    have hj : j < n := by have := (List.getElem?_eq_some_iff.1 e').1; simp at this; omega
    rw [take_get hi] at e f
    rw [take_get hj] at e' f'
    exact ok.inj i j r r' u v b e l e' l' f f' hb hb'
  hle := ok.hle
  hw := ok.hw
  hg := ok.hg
  kn := ok.kn

theorem allL_mem {α : Type} {p : α → Bool} : ∀ {l : List α}, allL p l = true → ∀ x ∈ l, p x = true
  | [], _, x, hx => by simp at hx
  | y :: l, h, x, hx => by
    simp only [allL, andB_eq, Bool.and_eq_true] at h
    rcases List.mem_cons.1 hx with rfl | hx
    · exact h.1
    · exact allL_mem h.2 x hx

theorem eff_nil_take {gl : List Bool} : ∀ {T : List (Gd × Res)} {n : Nat}, (∀ p ∈ T.take n, p.1 = []) → eff [] (T.take n) = (eff gl T).take n
  | [], n, _ => by simp [eff]
  | (g, r) :: l, 0, _ => by simp [eff]
  | (g, r) :: l, n + 1, h => by
    have hg : g = [] := h (g, r) (by simp)
    subst hg
    simp only [List.take_succ_cons, eff]
    rw [eff_nil_take (gl := gl) (T := l) fun p hp => h p (by simp [hp])]

theorem updT_len : ∀ (rs : List (Nat × Res)) (T : List (Gd × Res)), (updT rs T).length = T.length
  | [], _ => rfl
  | (i, r) :: l, T => by simp only [updT]; rw [updT_len, setL_eq, List.length_set]

/-- The state at a loop's head. -/
theorem head_ok {N : Nat} {B : Base} {h0 : FH} {s s' : St} {h : FH} {β : List RV} {w : World} {a : Act} (sat : Sat N B h0 s' h β w a) {ws : List Nat} {sl : List (Nat × SV)} {rs : List (Nat × Res)}
    (hT : takeL (lenL s.T) s'.T = updT rs s.T) (gT : goodT (lenL s.T) (updT rs s.T) = true) (gS : goodS (lenL s.T) ws sl = true) (hE : hasE s' sl)
    (hR : ∀ p ∈ keepR (lenL s.T) ws [] s.env, lkE s'.env p.1 = some ([], .one p.2))
    (D : ∀ t e, lkE (keepE ws [] s.env) t = some ([], e) → ∃ z, a.tmps[t]? = some z ∧ CnE h [] e z) :
    Sat N B h0 (headSt ws s sl rs) h (β.take (lenL s.T)) w a := by
  have e1 := hT
  rw [takeL_eq] at e1
  have g1 : ∀ p ∈ updT rs s.T, p.1 = [] ∧ resBelow (lenL s.T) p.2 = true := by
    intro p hp
    have := allL_mem gT p hp
    rw [andB_eq, Bool.and_eq_true] at this
    refine ⟨?_, this.2⟩
    have h2 := this.1
    cases hh : p.1 with
    | nil => rfl
    | cons _ _ => rw [hh] at h2; simp [isNil] at h2
  have hlen : lenL s.T ≤ s'.T.length := by
    have := congrArg List.length e1
    rw [updT_len, List.length_take, lenL_eq] at this
    rw [lenL_eq]; omega
  have look : ∀ {v : SV} {t : Nat}, svBelow (lenL s.T) v = true → lkE s'.env t = some ([], .one v) → ∃ z, a.tmps[t]? = some z ∧ CnV h (β.take (lenL s.T)) v z := by
    intro v t hb hl
    obtain ⟨z, q1, q2, _⟩ := sat.env t [] _ hl
    exact ⟨z, q1, CnV.below hb (q2 rfl)⟩
  refine ⟨?_, ?_, ?_, sat.defers, sat.sz, ?_, ?_⟩
  · show OK B h0 (eff [] (updT rs s.T)) h (β.take (lenL s.T)) w
    rw [← e1, eff_nil_take (gl := s'.gl) fun p hp => by rw [e1] at hp; exact (g1 p hp).1]
    refine sat.ok.take (by rw [eff_len]; exact hlen) ?_
    rw [← eff_nil_take (gl := s'.gl) fun p hp => by rw [e1] at hp; exact (g1 p hp).1]
    rw [e1]
    have : ∀ {l : List (Gd × Res)}, (∀ p ∈ l, p.1 = [] ∧ resBelow (lenL s.T) p.2 = true) → ∀ r ∈ eff [] l, resBelow (lenL s.T) r = true := by
      intro l
      induction l with
      | nil => intro _ r hr; simp [eff] at hr
      | cons q l ih =>
        obtain ⟨g, r0⟩ := q
        intro hh r hr
        have hg := hh (g, r0) (by simp)
        have hg1 : g = [] := hg.1
        subst hg1
        simp only [eff] at hr
        rcases List.mem_cons.1 hr with rfl | hr
        · exact hg.2
        · exact ih (fun p hp => hh p (by simp [hp])) r hr
    exact this g1
  · intro t G e ht
    simp only [headSt] at ht ⊢
    rw [lkE_cat] at ht
    split at ht
    · rename_i x hx
      cases ht
      obtain ⟨v, rfl, rfl, hm⟩ := slotE_get hx
      have hb := allL_mem gS _ hm
      rw [andB_eq, Bool.and_eq_true] at hb
      obtain ⟨z, q1, q2⟩ := look hb.1 (hasE_mem hE _ hm)
      exact ⟨z, q1, fun _ => q2, fun hh => by cases hh⟩
    · rw [lkE_cat] at ht
      split at ht
      · rename_i x hx
        cases ht
        obtain ⟨v, rfl, rfl, hm⟩ := slotE_get hx
        obtain ⟨z, q1, q2⟩ := look (keepR_below _ hm) (hR _ hm)
        exact ⟨z, q1, fun _ => q2, fun hh => by cases hh⟩
      · obtain ⟨_, _, _, rfl, hf⟩ := keepE_get ht
        obtain ⟨z, q1, q2⟩ := D t e ht
        exact ⟨z, q1, fun _ => CnE.refFree _ hf q2, fun hh => by cases hh⟩
  · intro d i hi; cases hi
  · intro t G e ht
    simp only [headSt] at ht
    rw [lkE_cat] at ht
    split at ht
    · rename_i x hx
      cases ht
      obtain ⟨_, _, rfl, _⟩ := slotE_get hx; rfl
    · rw [lkE_cat] at ht
      split at ht
      · rename_i x hx
        cases ht
        obtain ⟨_, _, rfl, _⟩ := slotE_get hx; rfl
      · obtain ⟨_, _, _, rfl, _⟩ := keepE_get ht; rfl
  · intro p hp
    rw [(g1 p hp).1]

/-! The base may come to know more objects that stay. -/
def Base.leB (B B' : Base) : Prop := B'.toWorld = B.toWorld ∧ B'.al = B.al ∧ ∀ k o, B.nc k o → B'.nc k o
theorem Base.leB.refl (B : Base) : B.leB B := ⟨rfl, rfl, fun _ _ h => h⟩
theorem Base.leB.trans {A B C : Base} (x : A.leB B) (y : B.leB C) : A.leB C := ⟨y.1.trans x.1, y.2.1.trans x.2.1, fun k o h => y.2.2 k o (x.2.2 k o h)⟩

/-- In a round nothing more comes to be known. -/
def Base.leR (r : Bool) (B B' : Base) : Prop := B.leB B' ∧ (r = true → B' = B)
theorem Base.leR.refl {r : Bool} (B : Base) : Base.leR r B B := ⟨.refl B, fun _ => rfl⟩
theorem Base.leR.trans {r : Bool} {A B C : Base} (x : Base.leR r A B) (y : Base.leR r B C) : Base.leR r A C := ⟨x.1.trans y.1, fun h => (y.2 h).trans (x.2 h)⟩

theorem OK.rebase {B B' : Base} {h0 : FH} {T : List Res} {h : FH} {β : List RV} {w : World} (ok : OK B h0 T h β w) (e : B'.toWorld = B.toWorld) (ea : B'.al = B.al) (kn : ∀ k o, B'.nc k o → w.heap[k]? = some o) : OK B' h0 T h β w where
  below := ⟨by rw [e]; exact ok.below.os, by rw [e]; exact ok.below.tape, by rw [e]; exact ok.below.output, by rw [e]; exact ok.below.size, by rw [e, ea]; exact ok.below.block⟩
  dr := by rw [e]; exact ok.dr
  len := ok.len
  holds := ok.holds
  own := by rw [ea]; exact ok.own
  inj := ok.inj
  hle := ok.hle
  hw := ok.hw
  hg := by rw [ea]; exact ok.hg
  kn := kn

/-- A function's own memory, as it stands. -/
def ownB (T : List Res) (β : List RV) (b : Nat) : Prop := ∃ (i : Nat) (r : Res) (v : RV), T[i]? = some r ∧ r.live = true ∧ β[i]? = some v ∧ v.block = some b
/-- The base of a round: all that is not the caller's own must stay. -/
@[reducible] def Base.rd (B : Base) (T : List Res) (β : List RV) (A : World) : Base :=
  { A with nc := B.nc, cell := B.cell, al := fun k => ownB T β k ∨ A.heap.size ≤ k, up := fun _ h => .inr h }

theorem OK.enter {B : Base} {h0 : FH} {T : List Res} {h : FH} {β : List RV} {A : World} (ok : OK B h0 T h β A) : OK (B.rd T β A) h T h β A where
  below := ⟨rfl, rfl, rfl, Nat.le_refl _, fun _ _ _ => rfl⟩
  dr := Nat.le_refl _
  len := ok.len
  holds := ok.holds
  own := fun i r v b e hl e' hb => ⟨.inl ⟨i, r, v, e, hl, e', hb⟩, (ok.own i r v b e hl e' hb).2⟩
  inj := ok.inj
  hle := FH.le.refl h
  hw := ok.hw
  hg := fun b o v hh => .inl hh
  kn := ok.kn

theorem OK.leave {B : Base} {h0 : FH} {T : List Res} {h : FH} {β : List RV} {A : World} (ok : OK B h0 T h β A) {T' : List Res} {h' : FH} {β' : List RV} {A' : World} {Br : Base} (e : Br.toWorld = A) (ea : Br.al = (B.rd T β A).al) (en : ∀ k o, B.nc k o → Br.nc k o) (ok' : OK Br h T' h' β' A') : OK B h0 T' h' β' A' := by
  have toB : ∀ k, Br.al k → B.al k := by
    intro k hk
    rw [ea] at hk
    rcases hk with ⟨i, r, v, h1, h2, h3, h4⟩ | hk
    · exact (ok.own i r v k h1 h2 h3 h4).1
    · exact B.up k (Nat.le_trans ok.below.size hk)
  subst e
  have cell : ∀ k, ownB T β k → ∃ o, Br.heap[k]? = some o ∧ o.isCells = true := by
    rintro k ⟨i, r, v, h1, h2, h3, h4⟩
    exact (ok.holds i r v h1 h3).cells h2 h4
  refine ⟨⟨ok'.below.os.trans ok.below.os, ok'.below.tape.trans ok.below.tape, ok'.below.output.trans ok.below.output, Nat.le_trans ok.below.size ok'.below.size, fun k hk ha => ?_⟩, Nat.le_trans ok.dr ok'.dr, ok'.len, ok'.holds,
    fun i r v b e1 l1 e2 hb => ⟨toB b (ok'.own i r v b e1 l1 e2 hb).1, (ok'.own i r v b e1 l1 e2 hb).2⟩, ok'.inj, ok.hle.trans ok'.hle, ok'.hw, fun b o v hh => ?_, fun k o hk => ok'.kn k o (en k o hk)⟩
  · exact (ok'.below.block k (Nat.lt_of_lt_of_le hk ok.below.size) (fun hh => ha (toB k hh))).trans (ok.below.block k hk ha)
  · rcases ok'.hg b o v hh with h1 | h1
    · exact ok.hg b o v h1
    · exact .inr (toB b h1)

/-- An iterator has written its own blocks. -/
theorem OK.gs {B : Base} {h0 : FH} {T : List Res} {h : FH} {β : List RV} {A A' : World} (ok : OK B h0 T h β A) {G : Nat → Prop} (gs : Gs G A A') (hB : ∀ k, G k → B.heap.size ≤ k) (hO : ∀ k, ownB T β k → ¬ G k) (hF : ∀ k o v, h k o = some v → ¬ G k) (hN : ∀ k o, B.nc k o → ¬ G k) : OK B h0 T h β A' := by
  have cl : ∀ b o v, h b o = some v → A'.cell? ⟨b, o, none⟩ = some v := by
    intro b o v hh
    have h1 := ok.hw b o v hh
    have h2 := World.block_lt_of_cell? _ _ h1
    simp at h2
    rw [block_of_cell (gs.block b h2 (hF b o v hh))]; exact h1
  exact {
    below := ⟨gs.os.trans ok.below.os, gs.tape.trans ok.below.tape, gs.output.trans ok.below.output, Nat.le_trans ok.below.size gs.size, fun k hk ha => (gs.block k (Nat.lt_of_lt_of_le hk ok.below.size) (fun hg => by have := hB k hg; omega)).trans (ok.below.block k hk ha)⟩
    dr := Nat.le_trans ok.dr gs.dr
    len := ok.len
    holds := fun i r v e e' => (ok.holds i r v e e').move (FH.le.refl h) (Ext.refl _) fun hl b hb => gs.block b (ok.own i r v b e hl e' hb).2.1 (hO b ⟨i, r, v, e, hl, e', hb⟩)
    own := fun i r v b e hl e' hb => by
      obtain ⟨h1, h2, h3⟩ := ok.own i r v b e hl e' hb
      exact ⟨h1, Nat.lt_of_lt_of_le h2 gs.size, h3⟩
    inj := ok.inj
    hle := ok.hle
    hw := cl
    hg := ok.hg
    kn := fun k o hk => by
      have h1 := ok.kn k o hk
      exact (gs.block k (Array.getElem?_eq_some_iff.1 h1).1 (hN k o hk)).trans h1 }
/-- An object that is no cells, and of which nothing is known, is turned. -/
theorem OK.turn {B : Base} {h0 : FH} {T : List Res} {h : FH} {β : List RV} {w : World} (ok : OK B h0 T h β w) {l : Nat} {o o' : Obj} (hB : B.al l) (hn : ∀ k u, B.nc k u → k ≠ l) (hl : w.heap[l]? = some o) (ho : o.isCells = false) : OK B h0 T h β (w.putObj l o') := by
  have cl : ∀ {a : Addr} {v : Value}, w.cell? a = some v → (w.putObj l o').cell? a = some v := by
    intro a v hv
    have hne : a.block ≠ l := by
      intro e
      unfold World.cell? at hv
      rw [e, hl] at hv
      cases o <;> simp_all [Obj.isCells]
    unfold World.cell? at hv ⊢
    rw [World.putObj_heap_other hne]; exact hv
  exact {
    below := ok.below.grown (row := some l) ⟨rfl, rfl, rfl, by simp, fun k _ hk => World.putObj_heap_other (fun e => hk (by rw [e]))⟩ (fun k e => by cases e; exact hB)
    dr := ok.dr
    len := ok.len
    holds := fun i r v e e' => (ok.holds i r v e e').move (FH.le.refl h) (Ext.refl _) fun hlv b hb => World.putObj_heap_other (by
      rintro rfl
      obtain ⟨o1, h1, h2⟩ := (ok.holds i r v e e').cells hlv hb
      rw [hl] at h1; cases h1; rw [ho] at h2; cases h2)
    own := fun i r v b e hlv e' hb => by
      obtain ⟨h1, h2, h3⟩ := ok.own i r v b e hlv e' hb
      exact ⟨h1, by simpa using h2, h3⟩
    inj := ok.inj
    hle := ok.hle
    hw := fun b o v hh => cl (ok.hw b o v hh)
    hg := ok.hg
    kn := fun k u hk => (World.putObj_heap_other (hn k u hk)).trans (ok.kn k u hk) }

theorem keepR_ws {n : Nat} {ws : List Nat} : ∀ {l : List (Nat × Gd × Ent)} {seen : List Nat}, ∀ p ∈ keepR n ws seen l, memN p.1 ws = false
  | [], _, p, hp => by simp [keepR] at hp
  | (k, g, e) :: l, seen, p, hp => by
    unfold keepR at hp
    repeat' (split at hp)
    all_goals first
      | exact keepR_ws p hp
      | (rcases List.mem_cons.1 hp with rfl | hp
         · assumption
         · exact keepR_ws p hp)

theorem good_all {n : Nat} {T : List (Gd × Res)} (h : goodT n T = true) : ∀ p ∈ T, p.1 = [] ∧ resBelow n p.2 = true := by
  intro p hp
  have := allL_mem h p hp
  rw [andB_eq, Bool.and_eq_true] at this
  refine ⟨?_, this.2⟩
  have h2 := this.1
  cases hh : p.1 with
  | nil => rfl
  | cons _ _ => rw [hh] at h2; simp [isNil] at h2
theorem eff_nil {gl : List Bool} : ∀ {T : List (Gd × Res)}, (∀ p ∈ T, p.1 = []) → eff [] T = eff gl T
  | [], _ => rfl
  | (g, r) :: l, h => by
    have hg : g = [] := h (g, r) (by simp)
    subst hg
    simp only [eff]
    rw [eff_nil (gl := gl) (T := l) fun p hp => h p (by simp [hp])]

/-- What a caller's slots hold, in a round and behind the loop. -/
theorem rd_env {N : Nat} {B : Base} {h0 : FH} {s : St} {h : FH} {β : List RV} {w : World} {a : Act} (sat : Sat N B h0 s h β w a) {ws dr : List Nat} {h' : FH} {β' : List RV} (le : h.le h')
    (refs : ∀ p ∈ keepR (lenL s.T) ws [] s.env, ∃ z, a.tmps[p.1]? = some z ∧ CnV h' β' p.2 z) : ∀ t G e, lkE (rdE ws dr s) t = some (G, e) → G = [] ∧ (memN t ws = false ∨ memN t dr = false) ∧ ∃ z, a.tmps[t]? = some z ∧ CnE h' β' e z := by
  intro t G e ht
  simp only [rdE] at ht
  rw [lkE_cat] at ht
  split at ht
  · rename_i x hx
    cases ht
    obtain ⟨v, rfl, rfl, hm⟩ := slotE_get hx
    obtain ⟨z, q1, q2⟩ := refs _ hm
    exact ⟨rfl, .inl (keepR_ws _ hm), z, q1, q2⟩
  · obtain ⟨_, hd, hl, rfl, hf⟩ := keepE_get ht
    obtain ⟨z, q1, q2, _⟩ := sat.env t [] e hl
    exact ⟨rfl, .inr hd, z, q1, (CnE.refFree β' hf (q2 rfl)).mono le (Ext.refl _)⟩

theorem rd_sat {N : Nat} {B B' : Base} {h0 : FH} {s : St} {h : FH} {β : List RV} {w : World} {a : Act} (sat : Sat N B h0 s h β w a) {ws dr : List Nat} {h' : FH} {β' : List RV} {A : World} {a' : Act} (le : h.le h')
    (refs : ∀ p ∈ keepR (lenL s.T) ws [] s.env, ∃ z, a.tmps[p.1]? = some z ∧ CnV h' β' p.2 z) {T : List (Gd × Res)} {gl : List Bool} (ok : OK B' h0 (eff gl T) h' β' A) (gT : ∀ p ∈ T, gbd gl.length p.1 = true) (ht : a'.tmps = a.tmps) (df : Dfr B' a') :
    Sat N B' h0 { env := rdE ws dr s, T := T, gl := gl, gs := [] } h' β' A a' where
  ok := ok
  env := fun t G e h1 => by
    obtain ⟨rfl, _, z, q1, q2⟩ := rd_env sat le refs t G e h1
    exact ⟨z, by rw [ht]; exact q1, fun _ => q2, fun hh => by cases hh⟩
  gs := fun d i hi => by cases hi
  defers := df
  sz := by rw [ht]; exact sat.sz
  gb := fun t G e h1 => by
    obtain ⟨rfl, _⟩ := rd_env sat le refs t G e h1; rfl
  gT := gT

theorem fold_size : ∀ (l : List (Nat × Value)) (t : Array Value), (l.foldl (fun t (p : Nat × Value) => t.setIfInBounds p.1 p.2) t).size = t.size
  | [], _ => rfl
  | _ :: l, t => by simp only [List.foldl_cons]; rw [fold_size l]; simp
theorem fold_other {k : Nat} : ∀ (l : List (Nat × Value)) (t : Array Value), (∀ p ∈ l, p.1 ≠ k) → (l.foldl (fun t (p : Nat × Value) => t.setIfInBounds p.1 p.2) t)[k]? = t[k]?
  | [], _, _ => rfl
  | (p, v) :: l, t, h => by
    simp only [List.foldl_cons]
    rw [fold_other l _ fun q hq => h q (by simp [hq])]
    exact Array.getElem?_setIfInBounds_ne (h (p, v) (by simp))

theorem zip_fold (ps : Array Tmp) (vs : List Value) (t : Array Value) : (ps.zip vs.toArray).foldl (fun t (p, v) => t.setIfInBounds p v) t = ((tl ps).zip vs).foldl (fun t (p : Nat × Value) => t.setIfInBounds p.1 p.2) t := by
  cases ps with
  | mk l => simp

theorem par_ok {h : FH} {n : Nat} : ∀ {ps : List Nat} {ss : List Sh} {d : dens ss} {vs : List Value} {t : Array Value}, t.size = n → parOK n ps ss = true → DVs h ss d vs →
    (∀ k G e, lkE (parE ps ss d) k = some (G, e) → G = [] ∧ ∃ z, ((ps.zip vs).foldl (fun t (p : Nat × Value) => t.setIfInBounds p.1 p.2) t)[k]? = some z ∧ ∀ β, CnE h β e z) ∧
    (∀ k, lkE (parE ps ss d) k = none → memN k ps = false)
  | [], [], d, vs, t, _, _, _ => ⟨fun k G e hh => by simp [parE, lkE] at hh, fun k _ => rfl⟩
  | [], _ :: _, d, vs, t, _, hp, _ => by simp [parOK] at hp
  | _ :: _, [], d, vs, t, _, hp, _ => by simp [parOK] at hp
  | p :: ps, s :: ss, d, vs, t, hn, hp, hv => by
    cases vs with
    | nil => exact hv.elim
    | cons v vs =>
      simp only [parOK, andB_eq, Bool.and_eq_true] at hp
      obtain ⟨⟨hp1, hp2⟩, hp3⟩ := hp
      have hp2 : memN p ps = false := by simpa using hp2
      have hp1 := Nat.le_of_ble_eq_true hp1
      obtain ⟨i1, i2⟩ := par_ok (t := t.setIfInBounds p v) (by simp [hn]) hp3 hv.2
      have hnot : ∀ q ∈ ps.zip vs, q.1 ≠ p := by
        intro q hq e
        have hm : q.1 ∈ ps := (List.of_mem_zip hq).1
        rw [e] at hm
        have : ∀ {l : List Nat}, p ∈ l → memN p l = true := by
          intro l
          induction l with
          | nil => intro h; cases h
          | cons x l ih =>
            intro h
            rw [memN_cons]
            rcases List.mem_cons.1 h with rfl | h
            · simp
            · rw [ih h]; simp
        rw [this hm] at hp2; cases hp2
      refine ⟨fun k G e hh => ?_, fun k hh => ?_⟩
      · simp only [parE] at hh
        rw [lkE_cons] at hh
        split at hh
        · rename_i hk
          subst hk
          cases hh
          refine ⟨rfl, v, ?_, fun β => ?_⟩
          · simp only [List.zip_cons_cons, List.foldl_cons]
            rw [fold_other _ _ hnot]
            rw [Array.getElem?_setIfInBounds_self_of_lt (by omega)]
          · obtain ⟨cs, rfl, r⟩ := hv.1
            exact ofDat_ok s r
        · simpa only [List.zip_cons_cons, List.foldl_cons] using i1 k G e hh
      · simp only [parE] at hh
        rw [lkE_cons] at hh
        split at hh
        · cases hh
        · rename_i hk
          rw [memN_cons, i2 k hh, Bool.or_false]
          cases hb : Nat.beq k p with
          | false => rfl
          | true => exact absurd (Nat.eq_of_beq_eq_true hb).symm hk

/-- The iterator's blocks are no one else's. -/
def Apt (n : Nat) (T : List Res) (h : FH) (β : List RV) (G : Nat → Prop) : Prop := (∀ b, G b → n ≤ b) ∧ (∀ b, ownB T β b → ¬ G b) ∧ ∀ b o v, h b o = some v → ¬ G b

/-- A piece of a round has been walked. -/
theorem piece_out {N n : Nat} {B : Base} {h0 : FH} {T : List Res} {h : FH} {β : List RV} {A : World} {G : Nat → Prop} (ok' : OK B h0 T h β A) (ap : Apt n T h β G) (apb : ∀ b, G b → b < A.heap.size)
    {B2 : Base} {s2 : St} {h2 : FH} {β2 : List RV} {A2 : World} {a2 : Act} (lb2 : (B.rd T β A).leB B2) (sat2 : Sat N B2 h s2 h2 β2 A2 a2) :
    OK B h0 (eff s2.gl s2.T) h2 β2 A2 ∧ Apt n (eff s2.gl s2.T) h2 β2 G ∧ A.heap.size ≤ A2.heap.size ∧ (∀ k, k < A.heap.size → ¬ ownB T β k → A2.heap[k]? = A.heap[k]?) ∧
      (∀ k o, A.heap[k]? = some o → o.isCells = false → ¬ ownB T β k) := by
  have same : ∀ k, k < A.heap.size → ¬ ownB T β k → A2.heap[k]? = A.heap[k]? := by
    intro k hk hn
    have h1 := sat2.ok.below
    have h2 := lb2.1
    have h3 : B2.al k ↔ (ownB T β k ∨ A.heap.size ≤ k) := by rw [lb2.2.1]
    have h4 := h1.block k (by rw [h2]; exact hk) (fun hh => by rcases h3.1 hh with hh | hh <;> first | exact hn hh | omega)
    rw [h2] at h4
    exact h4
  refine ⟨ok'.leave lb2.1 lb2.2.1 lb2.2.2 sat2.ok, ⟨ap.1, ?_, ?_⟩, ?_, same, ?_⟩
  · rintro b ⟨i, r, v, e1, e2, e3, e4⟩ hb
    have hh := (sat2.ok.own i r v b e1 e2 e3 e4).1
    rw [lb2.2.1] at hh
    rcases hh with hh | hh
    · exact ap.2.1 b hh hb
    · have := apb b hb; omega
  · intro b o v hh hb
    rcases sat2.ok.hg b o v hh with h1 | h1
    · exact ap.2.2 b o v h1 hb
    · rw [lb2.2.1] at h1
      rcases h1 with h1 | h1
      · exact ap.2.1 b h1 hb
      · have := apb b hb; omega
  · have := sat2.ok.below.size
    rw [lb2.1] at this
    exact this
  · rintro k o hk ho ⟨i, r, v, e1, e2, e3, e4⟩
    obtain ⟨o', q1, q2⟩ := (ok'.holds i r v e1 e3).cells e2 e4
    rw [hk] at q1; cases q1; rw [ho] at q2; cases q2

/-- A range over a function, walked by its rounds. -/
theorem range_ok {P : Program} {h0 : FH} {n : Nat} {asg c : Code} (rec : ∀ (c' : Code), c' = asg ∨ c' = c → ∀ (h0 : FH) (E : Env) (B : Base) (s : St) (h : FH) (β : List RV) (w : World) (a : Act) (K : Exit → St → Prop) (Q : Exit → Act → World → Prop) (l : Nat), EnvOK P E → GlobOK E.cx.gd h0 → E.rd = true → Sat E.n B h0 s h β w a →
      codeK E c' s K → (∀ e s' h' β' w' a' B', Base.leR E.rd B B' → K e s' → h.le h' → Sat E.n B' h0 s' h' β' w' a' → Same (writes c') a a' → Q e a' w') → c'.wpIn (Fence.wide.inRound l) 0 P Q a w)
    {E : Env} (ok : EnvOK P E) (hg : GlobOK E.cx.gd h0) {B : Base} {s : St} {h : FH} {β : List RV} {w : World} {a : Act} {K : Exit → St → Prop} {Q : Exit → Act → World → Prop} (sat : Sat E.n B h0 s h β w a)
    {g : Operand} {ss : List Sh} {L : List (dens ss)} (gv : Gives P h ss L (a.eval g)) {ps : Array Tmp} {ra : RA}
    (k : rangeK E.n (fun s K => codeK { E with rd := true } asg s fun e s' => match e with
      | .normal => codeK { E with rd := true } c s' K
      | _ => False) (catL ra.drop (catL (tl ps) (catL (writes asg) (writes c)))) ra (tl ps) ss L s K)
    (hrd : E.rd = false) (next : ∀ e s' h' β' w' a' B', Base.leR E.rd B B' → K e s' → h.le h' → Sat E.n B' h0 s' h' β' w' a' → Same [] a a' → Q e a' w') : (Code.rangeFunc g ps asg c).wpIn Fence.wide n P Q a w := by
  unfold rangeK at k
  split at k
  · exact k.elim
  rename_i hpar
  obtain ⟨⟨x0, i0, t0⟩, kr, kd⟩ := k
  obtain ⟨ws, hws⟩ : ∃ ws, ws = catL ra.drop (catL (tl ps) (catL (writes asg) (writes c))) := ⟨_, rfl⟩
  rw [← hws] at kr kd
  have good : ∀ i x, i ≤ L.length → ra.inv i x → goodT (lenL s.T) (updT (ra.res x) s.T) = true := by
    intro i x hi hx
    cases hd : L[i]? with
    | some d =>
      have := kr i x d hx hd
      split at this
      · exact this.elim
      · rename_i hh; exact hh
    | none =>
      have he : i = lenL L := by rw [lenL_eq]; have := List.getElem?_eq_none_iff.1 hd; omega
      subst he
      have := kd x hx
      split at this
      · exact this.elim
      · rename_i hh; exact hh
  have tlen : ∀ x, lenL s.T = (updT (ra.res x) s.T).length := fun x => by rw [updT_len, lenL_eq]
  have hpl : ps.size = ss.length := by
    have : ∀ {l : List Nat} {ss : List Sh}, parOK E.n l ss = true → l.length = ss.length := by
      intro l
      induction l with
      | nil => intro ss h; cases ss with | nil => rfl | cons _ _ => simp [parOK] at h
      | cons x l ih =>
        intro ss h
        cases ss with
        | nil => simp [parOK] at h
        | cons s ss =>
          simp only [parOK, andB_eq, Bool.and_eq_true] at h
          simp [ih h.2]
    have h1 := this hpar
    cases ps; simpa using h1
  have psw : ∀ t, memN t ws = false → memN t (tl ps) = false ∧ memN t (writes asg) = false ∧ memN t (writes c) = false := by
    intro t ht
    rw [hws, memN_cat, memN_cat, memN_cat, Bool.or_eq_false_iff, Bool.or_eq_false_iff, Bool.or_eq_false_iff] at ht
    exact ⟨ht.2.1, ht.2.2.1, ht.2.2.2⟩
  have fold_ne : ∀ (vs : List Value) t, memN t (tl ps) = false → ((ps.zip vs.toArray).foldl (fun t (p, v) => t.setIfInBounds p v) a.tmps)[t]? = a.tmps[t]? := by
    intro vs t ht
    rw [zip_fold]
    refine fold_other _ _ fun q hq e => ?_
    have hm : q.1 ∈ tl ps := (List.of_mem_zip hq).1
    rw [e] at hm
    have : ∀ {l : List Nat}, t ∈ l → memN t l = true := by
      intro l
      induction l with
      | nil => intro h; cases h
      | cons x l ih =>
        intro h
        rw [memN_cons]
        rcases List.mem_cons.1 h with rfl | h
        · simp
        · rw [ih h]; simp
    rw [this hm] at ht; cases ht
  have refs0 : ∀ p ∈ keepR (lenL s.T) ws [] s.env, ∃ z, a.tmps[p.1]? = some z ∧ CnV h β p.2 z := by
    intro p hp
    obtain ⟨z, q1, q2, _⟩ := sat.env _ _ _ (keepR_mem p hp).2
    exact ⟨z, q1, q2 rfl⟩
  have nclt : ∀ kk o, B.nc kk o → kk < w.heap.size := fun kk o hk => (Array.getElem?_eq_some_iff.1 (sat.ok.kn kk o hk)).1
  have hBs : B.heap.size ≤ w.heap.size := sat.ok.below.size
  -- the iterator's blocks are no one else's
  let Ap : List Res → FH → List RV → (Nat → Prop) → Prop := fun T h' β' G => Apt w.heap.size T h' β' G
  have apG : ∀ {T : List Res} {h' : FH} {β' : List RV} {G G' : Nat → Prop} {A A' : World}, OK B h0 T h' β' A → w.heap.size ≤ A.heap.size → Ap T h' β' G → Own' G G' A A' → Ap T h' β' G' := by
    intro T h' β' G G' A A' ok' hsz ⟨a1, a2, a3⟩ ho
    refine ⟨fun b hb => ?_, fun b hb hg => ?_, fun b o v hb hg => ?_⟩
    · rcases (ho b hb).2 with h1 | h1
      · exact a1 b h1
      · omega
    · rcases (ho b hg).2 with h1 | h1
      · exact a2 b hb h1
      · obtain ⟨i, r, v, e1, e2, e3, e4⟩ := hb
        have := (ok'.own i r v b e1 e2 e3 e4).2.1
        omega
    · rcases (ho b hg).2 with h1 | h1
      · exact a3 b o v hb h1
      · have := World.block_lt_of_cell? _ _ (ok'.hw b o v hb)
        simp at this
        omega
  have gsO : ∀ {T : List Res} {h' : FH} {β' : List RV} {G : Nat → Prop} {A A' : World}, OK B h0 T h' β' A → Ap T h' β' G → Gs G A A' → OK B h0 T h' β' A' := fun ok' ⟨a1, a2, a3⟩ gs =>
    ok'.gs gs (fun k hk => Nat.le_trans hBs (a1 k hk)) a2 a3 (fun k o hk hg => by have := nclt k o hk; have := a1 k hg; omega)
  -- what holds between the rounds; what holds where a round has left
  let I : Nat → (Nat → Prop) → World → Prop := fun i G A => i ≤ L.length ∧ (w.heap.size ≤ A.heap.size ∧ ∀ b, G b → b < A.heap.size) ∧ ∃ x h' β', Ap (eff [] (updT (ra.res x) s.T)) h' β' G ∧ ra.inv i x ∧ h.le h' ∧ OK B h0 (eff [] (updT (ra.res x) s.T)) h' β' A ∧ ∀ p ∈ keepR (lenL s.T) ws [] s.env, ∃ z, a.tmps[p.1]? = some z ∧ CnV h' β' p.2 z
  let Ix : Code → (Nat → Prop) → World → Prop := fun cc G A => w.heap.size ≤ A.heap.size ∧ ∃ e T gl h' β', Ap (eff gl T) h' β' G ∧ ((cc = .ret ∧ e = Exit.ret) ∨ ∃ j, cc = .exit j ∧ e = Exit.exit j) ∧ K e { env := rdE ws ra.drop s, T := T, gl := gl, gs := [] } ∧ h.le h' ∧ OK B h0 (eff gl T) h' β' A ∧
    (∀ p ∈ T, gbd gl.length p.1 = true) ∧ ∀ p ∈ keepR (lenL s.T) ws [] s.env, ∃ z, a.tmps[p.1]? = some z ∧ CnV h' β' p.2 z
  have dfr : ∀ A, A.heap[w.heap.size]? = some (.deferred (some [])) → ∃ B' : Base, B.leB B' ∧ Dfr B' { a with defers := markOf w.heap.size :: a.defers } ∧ (∀ {T h' β'}, OK B h0 T h' β' A → OK B' h0 T h' β' A) := by
    intro A hA
    refine ⟨{ B with nc := fun k o => B.nc k o ∨ (k = w.heap.size ∧ o = .deferred (some [])), cell := fun k o hh => hh.elim (B.cell k o) fun hh => by rw [hh.2]; rfl }, ⟨rfl, rfl, fun k o hh => .inl hh⟩, ?_, fun ok' => ok'.rebase rfl rfl (fun k o hh => hh.elim (ok'.kn k o) fun hh => by rw [hh.1, hh.2]; exact hA)⟩
    obtain ⟨X, x1, x2, x3⟩ := sat.defers
    refine ⟨w.heap.size :: X, by simp [x1, markOf], ?_, ?_⟩
    · refine List.nodup_cons.2 ⟨fun hm => ?_, x2⟩
      have := nclt _ _ (x3 _ hm).2
      omega
    · intro D hD
      rcases List.mem_cons.1 hD with rfl | hD
      · exact ⟨B.up _ hBs, .inr ⟨rfl, rfl⟩⟩
      · exact ⟨(x3 D hD).1, .inl (x3 D hD).2⟩
  have fin : ∀ e cc G A, ((cc = .ret ∧ e = Exit.ret) ∨ ∃ j, cc = .exit j ∧ e = Exit.exit j) → Ix cc G A → A.heap[w.heap.size]? = some (.deferred (some [])) → Q e { a with defers := markOf w.heap.size :: a.defers } A := by
    rintro e cc G A he ⟨_, e', T, gl, h', β', _, he', kk, le, ok', gT, refs⟩ hA
    have hee : e' = e := by
      rcases he with ⟨rfl, rfl⟩ | ⟨j, rfl, rfl⟩ <;> rcases he' with ⟨h1, h2⟩ | ⟨j', h1, h2⟩ <;> first | (cases h1; exact h2) | cases h1
    subst hee
    obtain ⟨B', lb, df, up⟩ := dfr A hA
    exact next _ _ h' β' A _ B' ⟨lb, fun hh => (by rw [hrd] at hh; cases hh)⟩ kk le (rd_sat sat le refs (up ok') gT rfl df) fun _ _ => rfl
  refine range_law gv hpl I Ix ?_ ?_ ?_ ?_ ?_ ?_ ?_ ?_ ?_ (fun G A hA => fin .ret .ret G A (.inl ⟨rfl, rfl⟩) hA) (fun j G A hA => fin (.exit j) (.exit j) G A (.inr ⟨j, rfl, rfl⟩) hA)
  · rintro i G A ⟨_, _, x, h', β', _, _, le, ok', _⟩
    exact HW.mono le ok'.hw
  · rintro cc G A ⟨_, e, T, gl, h', β', _, he, kk, le, ok', _⟩
    exact HW.mono le ok'.hw
  · rintro i G G' A A' ⟨hi, hsz, x, h', β', ap, i1, le, ok', refs⟩ gs ho
    exact ⟨hi, ⟨Nat.le_trans hsz.1 gs.size, fun b hb => (ho b hb).1⟩, x, h', β', apG ok' hsz.1 ap ho, i1, le, gsO ok' ap gs, refs⟩
  · rintro cc G G' A A' ⟨hsz, e, T, gl, h', β', ap, he, kk, le, ok', gT, refs⟩ gs ho
    exact ⟨Nat.le_trans hsz gs.size, e, T, gl, h', β', apG ok' hsz ap ho, he, kk, le, gsO ok' ap gs, gT, refs⟩
  · rintro i G A l o o' ⟨hi, hsz, x, h', β', ap, i1, le, ok', refs⟩ hl hA ho
    exact ⟨hi, ⟨by simpa using hsz.1, by simpa using hsz.2⟩, x, h', β', ap, i1, le, ok'.turn (B.up _ (Nat.le_trans hBs hl)) (fun kk u hk e => by have := nclt kk u hk; omega) hA ho, refs⟩
  · rintro cc G A l o o' ⟨hsz, e, T, gl, h', β', ap, he, kk, le, ok', gT, refs⟩ hl hA ho
    exact ⟨by simpa using hsz, e, T, gl, h', β', ap, he, kk, le, ok'.turn (B.up _ (Nat.le_trans hBs hl)) (fun kk u hk e => by have := nclt kk u hk; omega) hA ho, gT, refs⟩
  · refine ⟨Nat.zero_le _, ⟨Nat.le_refl _, fun b hb => hb.elim⟩, x0, h, β, ⟨fun b hb => hb.elim, fun b _ hb => hb.elim, fun b o v _ hb => hb.elim⟩, i0, FH.le.refl h, ?_, refs0⟩
    have g0 := good 0 x0 (Nat.zero_le _) i0
    rw [eff_nil (gl := s.gl) fun p hp => (good_all g0 p hp).1, ← t0]
    exact sat.ok
  · rintro i d vs G A l o1 o1' o2 hd hv ⟨hi, ⟨hsz, apb⟩, x, h', β', ap, i1, le, ok', refs⟩ hl hA1 ho1 ho1' hA2 ho2 hGl
    have kk := kr i x d i1 hd
    have gx := good i x hi i1
    rw [gx] at kk
    simp only at kk
    have blen : β'.length = lenL s.T := by rw [ok'.len, eff_len, ← tlen]
    obtain ⟨p1, p2⟩ := par_ok (t := a.tmps) (n := E.n) sat.sz hpar hv
    have satr : Sat E.n (B.rd (eff [] (updT (ra.res x) s.T)) β' A) h'
        { env := catL (parE (tl ps) ss d) (rdE ws (catL ra.drop (tl ps)) s), T := updT (ra.res x) s.T, gl := [], gs := [] } h' β' A { tmps := (ps.zip vs.toArray).foldl (fun t (p, v) => t.setIfInBounds p v) a.tmps, defers := [] } := by
      refine ⟨ok'.enter, ?_, ?_, Dfr.nil rfl, ?_, ?_, ?_⟩
      · intro t G e ht
        simp only at ht ⊢
        rw [lkE_cat] at ht
        split at ht
        · rename_i y hy
          cases ht
          obtain ⟨rfl, z, z1, z2⟩ := p1 t G e hy
          refine ⟨z, by rw [zip_fold]; exact z1, fun _ => (z2 β').mono le (Ext.refl _), fun hh => by cases hh⟩
        · rename_i hy
          obtain ⟨rfl, hm, z, z1, z2⟩ := rd_env sat le refs t G e ht
          have hps : memN t (tl ps) = false := p2 t hy
          exact ⟨z, by rw [fold_ne vs t hps]; exact z1, fun _ => z2, fun hh => by cases hh⟩
      · intro dd ii hh; cases hh
      · rw [zip_fold, fold_size]; exact sat.sz
      · intro t G e ht
        simp only at ht
        rw [lkE_cat] at ht
        split at ht
        · rename_i y hy
          cases ht
          obtain ⟨rfl, _⟩ := p1 t G e hy; rfl
        · obtain ⟨rfl, _⟩ := rd_env sat le refs t G e ht; rfl
      · intro p hp; rw [(good_all gx p hp).1]
    have okE : EnvOK P { E with rd := true } := ⟨ok.prog, ok.hc, ok.mkf, ok.mixed, ok.ti, ok.ct, ok.ip⟩
    refine rec asg (.inl rfl) h' { E with rd := true } _ _ h' β' A _ _ _ l okE (hg.mono ok'.hle) rfl satr kk ?_
    rintro e1 s1 h1 β1 A1 a1 B1 ⟨lb1, lr1⟩ k1 le1 sat1 sm1
    cases e1 with
    | exit j => exact k1.elim
    | goto j => exact k1.elim
    | ret => exact k1.elim
    | panic c => exact k1.elim
    | outgrown => exact k1.elim
    | normal =>
    obtain ⟨q1, q2, q3, q4, q5⟩ := piece_out ok' ap apb lb1 sat1
    have keep1 : ∀ b, b = l ∨ b = w.heap.size ∨ G b → A1.heap[b]? = A.heap[b]? := by
      rintro b (rfl | rfl | hb)
      · exact q4 _ (Array.getElem?_eq_some_iff.1 hA1).1 (q5 _ _ hA1 ho1)
      · exact q4 _ (Array.getElem?_eq_some_iff.1 hA2).1 (q5 _ _ hA2 ho2)
      · exact q4 b (apb b hb) (fun hh => ap.2.1 b hh hb)
    refine ⟨keep1, ?_⟩
    have hB1 : A1.heap[l]? = some o1 := (keep1 l (.inl rfl)).trans hA1
    have hl1 : l < A1.heap.size := (Array.getElem?_eq_some_iff.1 hB1).1
    -- the record is turned; all else stands
    have okt : OK B h0 (eff s1.gl s1.T) h1 β1 (A1.putObj l o1') := q1.turn (B.up _ (Nat.le_trans hBs (by omega))) (fun kk u hk e => by have := nclt kk u hk; omega) hB1 ho1
    have sat1' : Sat E.n (B.rd (eff s1.gl s1.T) β1 (A1.putObj l o1')) h1 s1 h1 β1 (A1.putObj l o1') a1 := by
      have hd1 : a1.defers = [] := by
        obtain ⟨X, x1, x2, x3⟩ := sat1.defers
        cases X with
        | nil => simpa using x1
        | cons D X =>
          exfalso
          obtain ⟨d1, d2⟩ := x3 D (by simp)
          rw [lr1 rfl] at d1 d2
          have hk := ok'.kn D _ d2
          rcases d1 with d1 | d1
          · obtain ⟨i, r, v, e1, e2, e3, e4⟩ := d1
            obtain ⟨o', q1, q2⟩ := (ok'.holds i r v e1 e3).cells e2 e4
            rw [hk] at q1; cases q1; cases q2
          · have := (Array.getElem?_eq_some_iff.1 hk).1
            omega
      exact ⟨okt.enter, sat1.env, sat1.gs, Dfr.nil hd1, sat1.sz, sat1.gb, sat1.gT⟩
    have hsz1 : w.heap.size ≤ (A1.putObj l o1').heap.size := by simp; omega
    have apb1 : ∀ b, G b → b < (A1.putObj l o1').heap.size := fun b hb => by have := apb b hb; simp; omega
    have hT2 : (A1.putObj l o1').heap[w.heap.size]? = some o2 := (World.putObj_heap_other (by omega)).trans ((keep1 _ (.inr (.inl rfl))).trans hA2)
    have hT1 : (A1.putObj l o1').heap[l]? = some o1' := World.putObj_heap_same hl1
    refine rec c (.inr rfl) h1 { E with rd := true } _ _ h1 β1 _ _ _ _ l okE (hg.mono (ok'.hle.trans le1)) rfl sat1' k1 ?_
    rintro e s2 h2 β2 A2 a2 B2 ⟨lb2, _⟩ k2 le2 sat2 sm2
    obtain ⟨ok2, ap2, q8, q9, q10⟩ := piece_out okt q2 apb1 lb2 sat2
    have keep : ∀ b, b = l ∨ b = w.heap.size ∨ G b → A2.heap[b]? = (A1.putObj l o1').heap[b]? := by
      rintro b (rfl | rfl | hb)
      · exact q9 _ (Array.getElem?_eq_some_iff.1 hT1).1 (q10 _ _ hT1 ho1')
      · exact q9 _ (Array.getElem?_eq_some_iff.1 hT2).1 (q10 _ _ hT2 ho2)
      · exact q9 b (apb1 b hb) (fun hh => q2.2.1 b hh hb)
    split at k2
    · exact k2.elim
    rename_i hR
    have hsz2 : w.heap.size ≤ A2.heap.size := Nat.le_trans hsz1 q8
    have refs2 : ∀ p ∈ keepR (lenL s.T) ws [] s.env, ∃ z, a.tmps[p.1]? = some z ∧ CnV h2 β2 p.2 z := by
      intro p hp
      obtain ⟨z, q1, q2, _⟩ := sat2.env _ _ _ (hasR_mem hR p hp)
      obtain ⟨w1, w2, w3⟩ := psw _ (keepR_ws p hp)
      have e1 := sm2 p.1 w3
      have e2 := sm1 p.1 w2
      simp only at e2
      rw [e1, e2, fold_ne vs _ w1] at q1
      exact ⟨z, q1, q2 rfl⟩
    cases e with
    | normal =>
      simp only at k2
      obtain ⟨x', j1, j2⟩ := k2
      have hi1 : i + 1 ≤ L.length := (List.getElem?_eq_some_iff.1 hd).1
      have gx' := good (i + 1) x' hi1 j1
      have et : eff [] (updT (ra.res x') s.T) = (eff s2.gl s2.T).take (lenL s.T) := by
        rw [takeL_eq] at j2
        rw [← j2, eff_nil_take (gl := s2.gl) fun p hp => by rw [j2] at hp; exact (good_all gx' p hp).1]
      refine ⟨keep, hi1, ⟨hsz2, fun b hb => Nat.lt_of_lt_of_le (apb1 b hb) q8⟩, x', h2, β2.take (lenL s.T), ?_, j1, (le.trans le1).trans le2, ?_, fun p hp => ?_⟩
      · refine ⟨ap2.1, ?_, ap2.2.2⟩
        rintro b ⟨i, r, v, e1, e2, e3, e4⟩ hb
        rw [et] at e1
        have hi : i < lenL s.T := by have := (List.getElem?_eq_some_iff.1 e1).1; simp at this; omega
        rw [take_get hi] at e1 e3
        exact ap2.2.1 b ⟨i, r, v, e1, e2, e3, e4⟩ hb
      · rw [et]
        rw [takeL_eq] at j2
        have hlen : lenL s.T ≤ s2.T.length := by
          have := congrArg List.length j2
          rw [updT_len, List.length_take, lenL_eq] at this
          rw [lenL_eq]; omega
        refine ok2.take (by rw [eff_len]; exact hlen) ?_
        rw [← et]
        have : ∀ {l : List (Gd × Res)}, (∀ p ∈ l, p.1 = [] ∧ resBelow (lenL s.T) p.2 = true) → ∀ r ∈ eff [] l, resBelow (lenL s.T) r = true := by
          intro l
          induction l with
          | nil => intro _ r hr; simp [eff] at hr
          | cons q l ih =>
            obtain ⟨g, r0⟩ := q
            intro hh r hr
            have hg := hh (g, r0) (by simp)
            have hg1 : g = [] := hg.1
            subst hg1
            simp only [eff] at hr
            rcases List.mem_cons.1 hr with rfl | hr
            · exact hg.2
            · exact ih (fun p hp => hh p (by simp [hp])) r hr
        exact this (good_all gx')
      · obtain ⟨z, q1, q2⟩ := refs2 p hp
        exact ⟨z, q1, CnV.below (keepR_below p hp) q2⟩
    | ret => exact ⟨keep, hsz2, .ret, s2.T, s2.gl, h2, β2, ap2, .inl ⟨rfl, rfl⟩, k2, (le.trans le1).trans le2, ok2, sat2.gT, refs2⟩
    | exit j => exact ⟨keep, hsz2, .exit j, s2.T, s2.gl, h2, β2, ap2, .inr ⟨j, rfl, rfl⟩, k2, (le.trans le1).trans le2, ok2, sat2.gT, refs2⟩
    | goto t => exact k2.elim
    | panic ch => exact k2.elim
    | outgrown => exact k2.elim
  · rintro G A ⟨_, _, x, h', β', _, i1, le, ok', refs⟩ hA
    have kk := kd x (by rw [lenL_eq]; exact i1)
    have gx := good _ x (Nat.le_refl _) i1
    rw [gx] at kk
    simp only at kk
    obtain ⟨B', lb, df, up⟩ := dfr A hA
    exact next _ _ h' β' A _ B' ⟨lb, fun hh => (by rw [hrd] at hh; cases hh)⟩ kk le (rd_sat sat le refs (up ok') (fun p hp => by rw [(good_all gx p hp).1]) rfl df) fun _ _ => rfl

theorem codeK_ok {P : Program} {n : Nat} : ∀ (c : Code) {h0 : FH} {E : Env} (ok : EnvOK P E) (hg : GlobOK E.cx.gd h0) {F : Fence} (hF : Wd F) (hr : E.rd = false → F = Fence.wide) {B : Base} {s : St} {h : FH} {β : List RV} {w : World} {a : Act} {K : Exit → St → Prop} {Q : Exit → Act → World → Prop}, Sat E.n B h0 s h β w a →
    codeK E c s K → (∀ e s' h' β' w' a' B', Base.leR E.rd B B' → K e s' → h.le h' → Sat E.n B' h0 s' h' β' w' a' → Same (writes c) a a' → Q e a' w') → c.wpIn F n P Q a w
  | .skip, h0, E, ok, hg, F, hF, hr, B, s, h, β, w, a, K, Q, sat, k, next => wpIn_skip (next _ _ _ _ _ _ _ (.refl _) k (FH.le.refl h) sat (Same.refl _ _))
  | .exit i, h0, E, ok, hg, F, hF, hr, B, s, h, β, w, a, K, Q, sat, k, next => wpIn_exit (next _ _ _ _ _ _ _ (.refl _) k (FH.le.refl h) sat (Same.refl _ _))
  | .ret, h0, E, ok, hg, F, hF, hr, B, s, h, β, w, a, K, Q, sat, k, next => wpIn_ret (next _ _ _ _ _ _ _ (.refl _) k (FH.le.refl h) sat (Same.refl _ _))
  | .region id ops false, h0, E, ok, hg, F, hF, hr, B, s, h, β, w, a, K, Q, sat, k, next => by
    simp only [codeK] at k
    split at k
    · exact k.elim
    rename_i hnd
    have et : tl ops = ops.toList := by cases ops; rfl
    rw [et] at hnd k
    refine wpL_region (R := fun a w => Q .normal a w) hF (fun _ _ hh => hh) hnd (opsI_ok ok hg ops.toList sat (by rw [et]; exact k) fun s' h' β' w' a' k' le sat' sm => next .normal _ _ _ _ _ _ (.refl _) k' le sat'.clean ?_)
    simp only [writes]; rw [et]; exact sm
  | .seq x y, h0, E, ok, hg, F, hF, hr, B, s, h, β, w, a, K, Q, sat, k, next => by
    simp only [codeK] at k
    split at k
    · rename_i la _
      obtain ⟨β0, sat0⟩ := sat.padS la.pad
      clear sat
      generalize padS la.pad s = s at sat0 k
      generalize β0 = β at sat0
      have sat := sat0
      obtain ⟨k1, k2⟩ := k
      have D0 : ∀ h' a', h.le h' → Same (writes x) a a' → ∀ t e, lkE (keepE (catL la.drop (writes x)) [] s.env) t = some ([], e) → ∃ z, a'.tmps[t]? = some z ∧ CnE h' [] e z := by
        intro h' a' le sm t e ht
        obtain ⟨_, hw, hl, _, hf⟩ := keepE_get ht
        obtain ⟨z, q1, q2, _⟩ := sat.env t [] e hl
        exact ⟨z, by rw [sm t (by rw [memN_cat, Bool.or_eq_false_iff] at hw; exact hw.2)]; exact q1, (CnE.refFree [] hf (q2 rfl)).mono le (Ext.refl _)⟩
      refine wpIn_seq (codeK_ok x ok hg hF hr sat k1 fun e s' h' β' w' a' B1 lb k' le sat' sm => ?_)
      cases e with
      | normal =>
        simp only at k'
        unfold cutI at k'
        obtain ⟨h1, le1, sat1⟩ := Sat.frzSlots la.frz sat'
        obtain ⟨β1, sat2⟩ := Sat.nilSt la.nil sat1
        obtain ⟨β2, sat3⟩ := sat2.swAll la.ren
        split at k'
        · rename_i hR
          obtain ⟨v, j1, j2, j3⟩ := k'
          have kk := k2 v j1
          split at kk
          · exact kk.elim
          · rename_i hc
            rw [andB_eq, Bool.and_eq_true] at hc
            exact codeK_ok y ok hg hF hr (head_ok sat3 j3 hc.1 hc.2 j2 (hasR_mem hR) (D0 h1 a' (le.trans le1) sm)) kk fun e s2 h2 β3 w2 a2 B2 lb2 k3 le2 sat4 sm2 => next e s2 h2 β3 w2 a2 B2 (lb.trans lb2) k3 ((le.trans le1).trans le2) sat4 (sm.left.trans sm2.right)
        · exact k'.elim
      | exit i => exact next _ _ _ _ _ _ _ lb k' le sat' sm.left
      | goto l => exact next _ _ _ _ _ _ _ lb k' le sat' sm.left
      | ret => exact next _ _ _ _ _ _ _ lb k' le sat' sm.left
      | panic ch => exact next _ _ _ _ _ _ _ lb k' le sat' sm.left
      | outgrown => exact next _ _ _ _ _ _ _ lb k' le sat' sm.left
    · refine wpIn_seq (codeK_ok x ok hg hF hr sat k fun e s' h' β' w' a' B1 lb k' le sat' sm => ?_)
      cases e with
      | normal => exact codeK_ok y ok hg hF hr sat' k' fun e s2 h2 β2 w2 a2 B2 lb2 k2 le2 sat2 sm2 => next e s2 h2 β2 w2 a2 B2 (lb.trans lb2) k2 (le.trans le2) sat2 (sm.left.trans sm2.right)
      | exit i => exact next _ _ _ _ _ _ _ lb k' le sat' sm.left
      | goto l => exact next _ _ _ _ _ _ _ lb k' le sat' sm.left
      | ret => exact next _ _ _ _ _ _ _ lb k' le sat' sm.left
      | panic ch => exact next _ _ _ _ _ _ _ lb k' le sat' sm.left
      | outgrown => exact next _ _ _ _ _ _ _ lb k' le sat' sm.left
  | .cond c x y, h0, E, ok, hg, F, hF, hr, B, s, h, β, w, a, K, Q, sat, k, next => by
    simp only [codeK] at k
    split at k
    · rename_i b hb
      have hc : a.eval c = .bool b := (getE_ok sat (hg.mono sat.ok.hle) (show gv s.gl [] = true from rfl) hb).1.1
      refine wpIn_cond_split hc (fun ht => codeK_ok x ok hg hF hr sat ((br_iff.1 k).1 ht) fun e s' h' β' w' a' B1 lb k' le sat' sm => next _ _ _ _ _ _ _ lb k' le sat' sm.left)
        (fun hf => codeK_ok y ok hg hF hr sat ((br_iff.1 k).2 hf) fun e s' h' β' w' a' B1 lb k' le sat' sm => next _ _ _ _ _ _ _ lb k' le sat' sm.right)
    · exact k.elim
  | .block id c, h0, E, ok, hg, F, hF, hr, B, s, h, β, w, a, K, Q, sat, k, next => by
    refine wpIn_block (codeK_ok c ok hg hF hr sat k fun e s' h' β' w' a' B1 lb k' le sat' sm => ?_)
    cases e with
    | normal => exact next _ _ _ _ _ _ _ lb k' le sat' sm
    | exit i =>
      simp only at k'
      simp only [Exit.inBlock]
      split at k'
      · rename_i hi
        have : i = id := Nat.eq_of_beq_eq_true hi
        rw [if_pos this]
        exact next _ _ _ _ _ _ _ lb k' le sat' sm
      · rename_i hi
        have : ¬ i = id := fun hh => by rw [hh] at hi; simp at hi
        rw [if_neg this]
        exact next _ _ _ _ _ _ _ lb k' le sat' sm
    | goto l => exact next _ _ _ _ _ _ _ lb k' le sat' sm
    | ret => exact next _ _ _ _ _ _ _ lb k' le sat' sm
    | panic ch => exact next _ _ _ _ _ _ _ lb k' le sat' sm
    | outgrown => exact next _ _ _ _ _ _ _ lb k' le sat' sm
  | .loop c, h0, E, ok, hg, F, hF, hr, B, s, h, β, w, a, K, Q, sat, k, next => by
    simp only [codeK] at k
    split at k
    · rename_i la _
      obtain ⟨h1, le1, sat1⟩ := Sat.frzSlots la.frz sat
      replace next := fun e s' h' β' w' a' B1 lb k' le sat' sm => next e s' h' β' w' a' B1 lb k' (le1.trans le) sat' sm
      clear le1 sat
      clear h
      rename FH => h
      generalize frzSlots s la.frz = s at sat1 k
      obtain ⟨β, sat⟩ := Sat.nilSt la.nil sat1
      clear sat1
      generalize nilSt s la.nil = s at sat k
      obtain ⟨β1, sat1⟩ := sat.padS la.pad
      clear sat
      generalize padS la.pad s = s at sat1 k
      have sat := sat1
      clear sat1
      obtain ⟨⟨x, i1, i2, i3⟩, k2⟩ := k
      have good : ∀ x, la.inv x → goodT (lenL s.T) (updT (la.res x) s.T) = true ∧ goodS (lenL s.T) (catL la.drop (writes c)) (la.slots x) = true ∧
          codeK E c (headSt (catL la.drop (writes c)) s (la.slots x) (la.res x)) (fun e s' => match e with
            | .normal => match hasR (swAll la.ren s') (keepR (lenL s.T) (catL la.drop (writes c)) [] s.env) with
              | true => ∃ x', la.inv x' ∧ hasE (swAll la.ren s') (la.slots x') ∧ takeL (lenL s.T) (swAll la.ren s').T = updT (la.res x') s.T ∧ la.meas x' < la.meas x
              | false => False
            | e => K e s') := by
        intro x hx
        have := k2 x hx
        split at this
        · exact this.elim
        · rename_i hc
          rw [andB_eq, Bool.and_eq_true] at hc
          exact ⟨hc.1, hc.2, this⟩
      have D0 : ∀ h' a', h.le h' → Same (writes c) a a' → ∀ t e, lkE (keepE (catL la.drop (writes c)) [] s.env) t = some ([], e) → ∃ z, a'.tmps[t]? = some z ∧ CnE h' [] e z := by
        intro h' a' le sm t e ht
        obtain ⟨_, hw, hl, _, hf⟩ := keepE_get ht
        obtain ⟨z, q1, q2, _⟩ := sat.env t [] e hl
        exact ⟨z, by rw [sm t (by rw [memN_cat, Bool.or_eq_false_iff] at hw; exact hw.2)]; exact q1, (CnE.refFree [] hf (q2 rfl)).mono le (Ext.refl _)⟩
      refine wpIn_loop_ghost (fun n a' w' => ∃ x h' β' B1, Base.leR E.rd B B1 ∧ la.meas x = n ∧ la.inv x ∧ h.le h' ∧ Sat E.n B1 h0 (headSt (catL la.drop (writes c)) s (la.slots x) (la.res x)) h' β' w' a' ∧ Same (writes c) a a') (la.meas x) ?_ ?_
      · obtain ⟨g1, g2, _⟩ := good x i1
        refine ⟨x, h, _, B, .refl _, rfl, i1, FH.le.refl h, head_ok sat ?_ g1 g2 i2 (fun p hp => (keepR_mem p hp).2) (D0 h a (FH.le.refl h) (Same.refl _ _)), Same.refl _ _⟩
        rw [← i3, takeL_eq, lenL_eq, List.take_length]
      · rintro n a' w' ⟨x, h', β', B1, lb, rfl, hx, le, sat', sm⟩
        obtain ⟨g1, g2, kk⟩ := good x hx
        refine codeK_ok c ok hg hF hr sat' kk fun e s2 h2 β2 w2 a2 B2 lb2 k2 le2 sat2 sm2 => ?_
        cases e with
        | normal =>
          simp only at k2
          split at k2
          · rename_i hR
            obtain ⟨x', j1, j2, j3, j4⟩ := k2
            obtain ⟨g1', g2', _⟩ := good x' j1
            obtain ⟨β3, sat2⟩ := sat2.swAll la.ren
            refine ⟨la.meas x', j4, x', h2, _, B2, lb.trans lb2, rfl, j1, le.trans le2, head_ok sat2 j3 g1' g2' j2 (hasR_mem hR) (D0 h2 a2 (le.trans le2) (sm.trans sm2)), sm.trans sm2⟩
          · exact k2.elim
        | exit i => exact next _ _ _ _ _ _ _ (lb.trans lb2) k2 (le.trans le2) sat2 (sm.trans sm2)
        | goto l => exact next _ _ _ _ _ _ _ (lb.trans lb2) k2 (le.trans le2) sat2 (sm.trans sm2)
        | ret => exact next _ _ _ _ _ _ _ (lb.trans lb2) k2 (le.trans le2) sat2 (sm.trans sm2)
        | panic ch => exact next _ _ _ _ _ _ _ (lb.trans lb2) k2 (le.trans le2) sat2 (sm.trans sm2)
        | outgrown => exact next _ _ _ _ _ _ _ (lb.trans lb2) k2 (le.trans le2) sat2 (sm.trans sm2)
    · rename_i m _
      refine wpIn_loop_rounds m ?_
      have key : ∀ (m : Nat) {B : Base} {s : St} {h : FH} {β : List RV} {w : World} {a : Act} {K : Exit → St → Prop} {Q : Exit → Act → World → Prop}, Sat E.n B h0 s h β w a → roundsK (codeK E c) m s K →
          (∀ e s' h' β' w' a' B', Base.leR E.rd B B' → K e s' → h.le h' → Sat E.n B' h0 s' h' β' w' a' → Same (writes c) a a' → Q e a' w') → Code.roundsIn F n P c Q m a w := by
        intro m
        induction m with
        | zero => intro B s h β w a K Q sat k next; exact k.elim
        | succ m ih =>
          intro B s h β w a K Q sat k next
          rw [roundsIn_succ]
          refine codeK_ok c ok hg hF hr sat k fun e s2 h2 β2 w2 a2 B2 lb2 k2 le2 sat2 sm2 => ?_
          cases e with
          | normal => exact ih sat2 k2 fun e s3 h3 β3 w3 a3 B3 lb3 k3 le3 sat3 sm3 => next e s3 h3 β3 w3 a3 B3 (lb2.trans lb3) k3 (le2.trans le3) sat3 (sm2.trans sm3)
          | exit i => exact next _ _ _ _ _ _ _ lb2 k2 le2 sat2 sm2
          | goto l => exact next _ _ _ _ _ _ _ lb2 k2 le2 sat2 sm2
          | ret => exact next _ _ _ _ _ _ _ lb2 k2 le2 sat2 sm2
          | panic ch => exact next _ _ _ _ _ _ _ lb2 k2 le2 sat2 sm2
          | outgrown => exact next _ _ _ _ _ _ _ lb2 k2 le2 sat2 sm2
      exact key m sat k next
    · exact k.elim
  | .region id ops true, h0, E, ok, hg, F, hF, hr, B, s, h, β, w, a, K, Q, sat, k, next => by
    simp only [codeK] at k
    split at k
    · exact k.elim
    rename_i hnd
    have et : tl ops = ops.toList := by cases ops; rfl
    cases hd : drawOrd ops with
    | none => rw [hd] at k; exact k.elim
    | some l =>
      rw [hd] at k
      exact draw_ok ok hg hd sat k hF (by rw [et] at hnd; exact hnd) fun s' h' β' w' a' k' le sat' sm => next .normal _ _ _ _ _ _ (.refl _) k' le sat'.clean sm
  | .rangeFunc g ps asg c, h0, E, ok, hg, F, hF, hr, B, s, h, β, w, a, K, Q, sat, k, next => by
    simp only [codeK] at k
    split at k
    · exact k.elim
    rename_i hrd
    have hF' := hr hrd
    subst hF'
    split at k
    · rename_i P' ss L hgE
      split at k
      · rename_i ra _
        obtain ⟨hP, k⟩ := k
        have hP := ok.prog _ hP
        subst hP
        have gv0 : Gives P' h ss L (a.eval g) := (getE_ok sat (hg.mono sat.ok.hle) (show gv s.gl [] = true from rfl) hgE).1
        obtain ⟨h1, le1, sat1⟩ := Sat.frzSlots ra.frz sat
        replace next := fun e s' h' β' w' a' B1 lb k' le sat' sm => next e s' h' β' w' a' B1 lb k' (le1.trans le) sat' sm
        have gv1 := Abs.rel_mono (x := .seq P' ss L) le1 gv0
        generalize frzSlots s ra.frz = s1 at sat1 k
        obtain ⟨β1, sat2⟩ := Sat.nilSt ra.nil sat1
        generalize nilSt s1 ra.nil = s2 at sat2 k
        refine range_ok (fun c' hc' h0' E' B' s' h' β' w' a' K' Q' l ok' hg' he sat' k' next' => ?_) ok hg sat2 gv1 k hrd next
        rcases hc' with rfl | rfl
        · exact codeK_ok _ ok' hg' (F := Fence.wide.inRound l) (.inr ⟨l, rfl⟩) (fun hh => by rw [he] at hh; cases hh) sat' k' next'
        · exact codeK_ok _ ok' hg' (F := Fence.wide.inRound l) (.inr ⟨l, rfl⟩) (fun hh => by rw [he] at hh; cases hh) sat' k' next'
      · exact k.elim
    · exact k.elim
  | .scope _, h0, E, ok, hg, F, hF, hr, B, s, h, β, w, a, K, Q, sat, k, next => k.elim
  | .label _, h0, E, ok, hg, F, hF, hr, B, s, h, β, w, a, K, Q, sat, k, next => k.elim
  | .goto _, h0, E, ok, hg, F, hF, hr, B, s, h, β, w, a, K, Q, sat, k, next => k.elim
  | .refuse _, h0, E, ok, hg, F, hF, hr, B, s, h, β, w, a, K, Q, sat, k, next => k.elim
end Go.Eng
