/- The engine, part Q: a function's results, and its contract. -/
import Derived.Test.YtklnffdjhoacoaaDoorEngP
set_option linter.unusedSimpArgs false
set_option linter.unusedVariables false
namespace Go.Eng
open Go Go.RowKit

@[reducible] def resV (cx : Cx) (s : St) (r : ResultVar) (K : SV → Prop) : Prop := match r with
  | .tmp t => match lkE s.env t with
    | some ([], .one v) => K v
    | _ => False
  | .cell p t => match lkE s.env p with
    | some ([], .one (.c q)) => loadK cx s [] t q fun e => match e with
      | .one v => K v
      | _ => False
    | _ => False
@[reducible] def resL (cx : Cx) (s : St) : List ResultVar → (List SV → Prop) → Prop
  | [], K => K []
  | r :: l, K => resV cx s r fun v => resL cx s l fun vs => K (v :: vs)

@[reducible] def memA (i : Nat) : List (Nat × Res) → Bool
  | [] => false
  | (j, _) :: l => match Nat.beq i j with
    | true => true
    | false => memA i l

@[reducible] def selC (T : List (Gd × Res)) (x : SC) (acc : List (Nat × Res)) : Option (SC × List (Nat × Res)) := match x with
  | .v u => some (.v u, acc)
  | .sl sh l => some (.sl sh l, acc)
  | .fp sh d => some (.fp sh d, acc)
  | .abs x => some (.abs x, acc)
  | .row i => match nthL T i with
    | some ([], .row t sh l) => match memA i acc with
      | true => none
      | false => some (.row (lenL acc), snoc acc (i, .row t sh l))
    | _ => none
  | _ => none
@[reducible] def selCs (T : List (Gd × Res)) : List SC → List (Nat × Res) → Option (List SC × List (Nat × Res))
  | [], acc => some ([], acc)
  | x :: l, acc => match selC T x acc with
    | some (y, acc) => match selCs T l acc with
      | some (m, acc) => some (y :: m, acc)
      | none => none
    | none => none
@[reducible] def selV (T : List (Gd × Res)) (v : SV) (acc : List (Nat × Res)) : Option (SV × List (Nat × Res)) := match v with
  | .c x => match selC T x acc with
    | some (y, acc) => some (.c y, acc)
    | none => none
  | .agg xs => match selCs T xs acc with
    | some (ys, acc) => some (.agg ys, acc)
    | none => none
  | .dat sh d => some (.dat sh d, acc)
  | .und => none
@[reducible] def selVs (T : List (Gd × Res)) : List SV → List (Nat × Res) → Option (List SV × List (Nat × Res))
  | [], acc => some ([], acc)
  | x :: l, acc => match selV T x acc with
    | some (y, acc) => match selVs T l acc with
      | some (m, acc) => some (y :: m, acc)
      | none => none
    | none => none

@[reducible] def mkEnt : List SV → Ent
  | [v] => .one v
  | vs => .tup vs
@[reducible] def sndL : List (Nat × Res) → List Res
  | [] => []
  | (_, r) :: l => r :: sndL l

@[reducible] def outK (T : List (Gd × Res)) (vs : List SV) (R : List Res → Ent → Prop) : Prop := match selVs T vs [] with
  | some (vs', acc) => R (sndL acc) (mkEnt vs')
  | none => False

@[reducible] def argE (n : Nat) : List SV → List (Nat × Gd × Ent)
  | [] => []
  | v :: l => (n, [], .one v) :: argE (Nat.succ n) l

/-! Results in the form that the contract says: rows frozen, nil slices as rows. -/
@[reducible] def frC (T : List (Gd × Res)) (x : SC) : Option (List (Gd × Res) × SC) := match x with
  | .row i => match nthL T i with
    | some ([], .row _ sh l) => some (setL T i ([], .gone), .sl sh l)
    | _ => none
  | x => some (T, x)
@[reducible] def frL (T : List (Gd × Res)) : List SC → Option (List (Gd × Res) × List SC)
  | [] => some (T, [])
  | x :: l => match frC T x with
    | some (T, y) => match frL T l with
      | some (T, m) => some (T, y :: m)
      | none => none
    | none => none
@[reducible] def frV (T : List (Gd × Res)) (v : SV) : Option (List (Gd × Res) × SV) := match v with
  | .c x => match frC T x with
    | some (T, y) => some (T, .c y)
    | none => none
  | .agg xs => match frL T xs with
    | some (T, ys) => some (T, .agg ys)
    | none => none
  | v => some (T, v)
@[reducible] def coV (c : RC) (T : List (Gd × Res)) (v : SV) (K : List (Gd × Res) → SV → Prop) : Prop := match c with
  | .keep => K T v
  | .data sh => match frV T v with
    | some (T, v) => match toDat sh v with
      | some d => K T (ofDat sh d)
      | none => False
    | none => False
  | .row t sh => match v with
    | .c (.v (.slice none 0 0)) => K (snoc T ([], .row t sh [])) (.c (.row (lenL T)))
    | v => K T v
@[reducible] def coK : List RC → List (Gd × Res) → List SV → (List (Gd × Res) → List SV → Prop) → Prop
  | [], T, vs, K => K T vs
  | _ :: _, T, [], K => K T []
  | c :: cs, T, v :: vs, K => coV c T v fun T v => coK cs T vs fun T vs => K T (v :: vs)

section
variable {B : Base} {h0 : FH} {gl : List Bool} {w : World}
theorem frC_ok {T T' : List (Gd × Res)} {h : FH} {β : List RV} (ok : OK B h0 (eff gl T) h β w) {x x' : SC} {y : Value} (e : frC T x = some (T', x')) (c : CnC h β x y) :
    ∃ h', h.le h' ∧ OK B h0 (eff gl T') h' β w ∧ CnC h' β x' y := by
  unfold frC at e
  split at e
  · rename_i i
    split at e
    · rename_i t sh l hT
      cases e
      have hT' : (eff gl T)[i]? = some (.row t sh l) := by rw [eff_get, ← nthL_eq, hT]; rfl
      obtain ⟨h', le, ok', sl⟩ := ok.freeze hT' c
      exact ⟨h', le, by rw [eff_set]; exact ok', sl⟩
    · cases e
  · cases e; exact ⟨h, FH.le.refl h, ok, c⟩
theorem frL_ok : ∀ {xs xs' : List SC} {T T' : List (Gd × Res)} {h : FH} {β : List RV} {ys : List Value}, OK B h0 (eff gl T) h β w → frL T xs = some (T', xs') → All2 (fun x y => CnC h β x y ∧ oneC y) xs ys →
    ∃ h', h.le h' ∧ OK B h0 (eff gl T') h' β w ∧ All2 (fun x y => CnC h' β x y ∧ oneC y) xs' ys
  | [], xs', T, T', h, β, [], ok, e, _ => by simp [frL] at e; obtain ⟨rfl, rfl⟩ := e; exact ⟨h, FH.le.refl h, ok, trivial⟩
  | x :: l, xs', T, T', h, β, y :: ys, ok, e, ⟨c, r⟩ => by
    unfold frL at e
    split at e
    · rename_i T1 x1 h1
      split at e
      · rename_i T2 m h2
        cases e
        obtain ⟨ha, le1, ok1, c1⟩ := frC_ok ok h1 c.1
        obtain ⟨hb, le2, ok2, c2⟩ := frL_ok ok1 h2 (r.mono fun _ _ q => ⟨q.1.mono le1 (Ext.refl β), q.2⟩)
        exact ⟨hb, le1.trans le2, ok2, ⟨c1.mono le2 (Ext.refl β), c.2⟩, c2⟩
      · cases e
    · cases e
theorem frV_ok {T T' : List (Gd × Res)} {h : FH} {β : List RV} (ok : OK B h0 (eff gl T) h β w) {x x' : SV} {y : Value} (e : frV T x = some (T', x')) (c : CnV h β x y) :
    ∃ h', h.le h' ∧ OK B h0 (eff gl T') h' β w ∧ CnV h' β x' y := by
  unfold frV at e
  split at e
  · split at e
    · rename_i T1 y1 h1
      cases e
      obtain ⟨h', le, ok', c'⟩ := frC_ok ok h1 c.1
      exact ⟨h', le, ok', c', c.2⟩
    · cases e
  · split at e
    · rename_i T1 y1 h1
      cases e
      obtain ⟨ys, rfl, a⟩ := c
      obtain ⟨h', le, ok', c'⟩ := frL_ok ok h1 a
      exact ⟨h', le, ok', ys, rfl, c'⟩
    · cases e
  · cases e; exact ⟨h, FH.le.refl h, ok, c⟩

theorem coV_ok {T : List (Gd × Res)} {h : FH} {β : List RV} (ok : OK B h0 (eff gl T) h β w) {c : RC} {v : SV} {y : Value} {K : List (Gd × Res) → SV → Prop} (k : coV c T v K) (cv : CnV h β v y) :
    ∃ T' v' h' β', K T' v' ∧ h.le h' ∧ Ext β β' ∧ OK B h0 (eff gl T') h' β' w ∧ CnV h' β' v' y := by
  unfold coV at k
  split at k
  · exact ⟨T, v, h, β, k, FH.le.refl h, Ext.refl β, ok, cv⟩
  · split at k
    · rename_i T1 v1 h1
      split at k
      · rename_i d hd
        obtain ⟨h', le, ok', c'⟩ := frV_ok ok h1 cv
        obtain ⟨cs, rfl, rd⟩ := toDat_ok hd c'
        exact ⟨T1, _, h', β, k, le, Ext.refl β, ok', ofDat_ok _ rd⟩
      · exact k.elim
    · exact k.elim
  · rename_i t sh
    split at k
    · obtain ⟨e, _⟩ := cv
      obtain ⟨rfl, _⟩ := e
      refine ⟨_, _, h, β ++ [.row (.slice none 0 0)], k, FH.le.refl h, Ext.append _ _, ?_, ?_⟩
      · rw [snoc_eq, eff_append]
        exact ok.add (r := .row t sh []) (v := .row (.slice none 0 0)) (grown_refl w none) (fun b hb => by cases hb) (.inl ⟨rfl, rfl⟩)
      · refine ⟨?_, rfl, rfl⟩
        show (β ++ [.row (.slice none 0 0)])[lenL T]? = some (.row (.slice none 0 0))
        have : lenL T = β.length := by rw [ok.len, eff_len, lenL_eq]
        rw [this]; simp
    · exact ⟨T, v, h, β, k, FH.le.refl h, Ext.refl β, ok, cv⟩

theorem coK_ok : ∀ {cs : List RC} {vs : List SV} {ys : List Value} {T : List (Gd × Res)} {h : FH} {β : List RV} {K : List (Gd × Res) → List SV → Prop}, OK B h0 (eff gl T) h β w → coK cs T vs K → All2 (CnV h β) vs ys →
    ∃ T' vs' h' β', K T' vs' ∧ h.le h' ∧ Ext β β' ∧ OK B h0 (eff gl T') h' β' w ∧ All2 (CnV h' β') vs' ys
  | [], vs, ys, T, h, β, K, ok, k, a => ⟨T, vs, h, β, k, FH.le.refl h, Ext.refl β, ok, a⟩
  | _ :: _, [], ys, T, h, β, K, ok, k, a => ⟨T, [], h, β, k, FH.le.refl h, Ext.refl β, ok, a⟩
  | c :: cs, v :: vs, y :: ys, T, h, β, K, ok, k, ⟨cv, a⟩ => by
    obtain ⟨T1, v1, h1, β1, k1, le1, eb1, ok1, c1⟩ := coV_ok ok k cv
    obtain ⟨T2, vs2, h2, β2, k2, le2, eb2, ok2, c2⟩ := coK_ok ok1 k1 (a.mono fun _ _ q => q.mono le1 eb1)
    exact ⟨T2, v1 :: vs2, h2, β2, k2, le1.trans le2, fun i u e => eb2 i u (eb1 i u e), ok2, c1.mono le2 eb2, c2⟩
end

/-- What a function's text comes to. -/
@[reducible] def funcK (E : Env) (body : Code) (rs : List ResultVar) (args : List SV) (R : List Res → Ent → Prop) : Prop :=
  codeK E body { env := argE 0 args, T := [], gl := [], gs := [] } fun e s => match e with
    | .normal => resL E.cx s rs fun vs => coK E.rc s.T vs fun T vs => outK T vs R
    | .ret => resL E.cx s rs fun vs => coK E.rc s.T vs fun T vs => outK T vs R
    | _ => False

section
variable {B : Base} {h0 : FH} {h : FH} {β : List RV} {w : World} {T : List (Gd × Res)} {gl : List Bool}

structure AccOK (T : List Res) (acc : List (Nat × Res)) : Prop where
  at_ : ∀ p ∈ acc, T[p.1]? = some p.2 ∧ (∃ t sh l, p.2 = .row t sh l)
  dup : ∀ (i j : Nat) p q, acc[i]? = some p → acc[j]? = some q → p.1 = q.1 → i = j

def betaOf (β : List RV) (acc : List (Nat × Res)) : List RV := acc.map fun p => β.getD p.1 .no

theorem memA_false : ∀ {acc : List (Nat × Res)} {i : Nat}, memA i acc = false → ∀ p ∈ acc, p.1 ≠ i
  | [], i, _, p, hp => by simp at hp
  | (j, r) :: l, i, h, p, hp => by
    simp only [memA] at h
    split at h
    · cases h
    · rename_i hij
      rcases List.mem_cons.1 hp with rfl | hp
      · exact fun hh => Nat.ne_of_beq_eq_false hij hh.symm
      · exact memA_false h p hp

theorem AccOK.snoc {T : List Res} {acc : List (Nat × Res)} (k : AccOK T acc) {i : Nat} {r : Res} (hT : T[i]? = some r) (hr : ∃ t sh l, r = .row t sh l) (hm : memA i acc = false) : AccOK T (acc ++ [(i, r)]) where
  at_ := by
    intro p hp
    rw [List.mem_append] at hp
    rcases hp with hp | hp
    · exact k.at_ p hp
    · simp at hp; subst hp; exact ⟨hT, hr⟩
  dup := by
    intro a b p q ha hb e
    rcases getElem?_append_some ha with ⟨h1, ha⟩ | ⟨h1, rfl⟩ <;> rcases getElem?_append_some hb with ⟨h2, hb⟩ | ⟨h2, rfl⟩
    · exact k.dup a b p q ha hb e
    · exact (memA_false hm p (List.mem_of_getElem? ha) e).elim
    · exact (memA_false hm q (List.mem_of_getElem? hb) e.symm).elim
    · omega

theorem betaOf_ext (β : List RV) (acc ext : List (Nat × Res)) : Ext (betaOf β acc) (betaOf β (acc ++ ext)) := by
  unfold betaOf; rw [List.map_append]; exact Ext.append _ _

theorem selC_ok (ok : OK B h0 (eff gl T) h β w) {x x' : SC} {acc acc' : List (Nat × Res)} {y : Value} (e : selC T x acc = some (x', acc')) (k : AccOK (eff gl T) acc) (c : CnC h β x y) :
    AccOK (eff gl T) acc' ∧ (∃ ext, acc' = acc ++ ext) ∧ CnC h (betaOf β acc') x' y := by
  unfold selC at e
  split at e
  · cases e; exact ⟨k, ⟨[], by simp⟩, c⟩
  · cases e; exact ⟨k, ⟨[], by simp⟩, c⟩
  · cases e; exact ⟨k, ⟨[], by simp⟩, c⟩
  · cases e; exact ⟨k, ⟨[], by simp⟩, c⟩
  · rename_i i
    split at e
    · rename_i t sh l hT
      split at e
      · cases e
      · rename_i hm
        cases e
        have hT' : (eff gl T)[i]? = some (.row t sh l) := by rw [eff_get, ← nthL_eq, hT]; rfl
        rw [snoc_eq]
        refine ⟨k.snoc hT' ⟨t, sh, l, rfl⟩ hm, ⟨_, rfl⟩, ?_⟩
        show (betaOf β (acc ++ [(i, .row t sh l)]))[lenL acc]? = some (.row y)
        have c : β[i]? = some (.row y) := c
        unfold betaOf
        rw [List.map_append, lenL_eq, List.getElem?_append_right (by simp)]
        simp [c]
    · cases e
  · cases e

theorem selCs_ok (ok : OK B h0 (eff gl T) h β w) : ∀ {xs xs' : List SC} {acc acc' : List (Nat × Res)} {ys : List Value}, selCs T xs acc = some (xs', acc') → AccOK (eff gl T) acc → All2 (fun x y => CnC h β x y ∧ oneC y) xs ys →
    AccOK (eff gl T) acc' ∧ (∃ ext, acc' = acc ++ ext) ∧ All2 (fun x y => CnC h (betaOf β acc') x y ∧ oneC y) xs' ys
  | [], xs', acc, acc', [], e, k, _ => by simp [selCs] at e; obtain ⟨rfl, rfl⟩ := e; exact ⟨k, ⟨[], by simp⟩, trivial⟩
  | x :: l, xs', acc, acc', y :: ys, e, k, ⟨c, r⟩ => by
    unfold selCs at e
    split at e
    · rename_i x1 acc1 h1
      split at e
      · rename_i m acc2 h2
        cases e
        obtain ⟨k1, ⟨ext1, rfl⟩, c1⟩ := selC_ok ok h1 k c.1
        obtain ⟨k2, ⟨ext2, rfl⟩, c2⟩ := selCs_ok ok h2 k1 r
        exact ⟨k2, ⟨ext1 ++ ext2, by rw [List.append_assoc]⟩, ⟨c1.mono (FH.le.refl h) (betaOf_ext _ _ _), c.2⟩, c2⟩
      · cases e
    · cases e

theorem selV_ok (ok : OK B h0 (eff gl T) h β w) {x x' : SV} {acc acc' : List (Nat × Res)} {y : Value} (e : selV T x acc = some (x', acc')) (k : AccOK (eff gl T) acc) (c : CnV h β x y) :
    AccOK (eff gl T) acc' ∧ (∃ ext, acc' = acc ++ ext) ∧ CnV h (betaOf β acc') x' y := by
  unfold selV at e
  split at e
  · split at e
    · rename_i y1 acc1 h1
      cases e
      obtain ⟨k1, e1, c1⟩ := selC_ok ok h1 k c.1
      exact ⟨k1, e1, c1, c.2⟩
    · cases e
  · split at e
    · rename_i y1 acc1 h1
      cases e
      obtain ⟨vs, e0, a⟩ := c
      obtain ⟨k1, e1, c1⟩ := selCs_ok ok h1 k a
      exact ⟨k1, e1, vs, e0, c1⟩
    · cases e
  · cases e; exact ⟨k, ⟨[], by simp⟩, c⟩
  · cases e

theorem selVs_ok (ok : OK B h0 (eff gl T) h β w) : ∀ {xs xs' : List SV} {acc acc' : List (Nat × Res)} {ys : List Value}, selVs T xs acc = some (xs', acc') → AccOK (eff gl T) acc → All2 (CnV h β) xs ys →
    AccOK (eff gl T) acc' ∧ (∃ ext, acc' = acc ++ ext) ∧ All2 (CnV h (betaOf β acc')) xs' ys
  | [], xs', acc, acc', [], e, k, _ => by simp [selVs] at e; obtain ⟨rfl, rfl⟩ := e; exact ⟨k, ⟨[], by simp⟩, trivial⟩
  | x :: l, xs', acc, acc', y :: ys, e, k, ⟨c, r⟩ => by
    unfold selVs at e
    split at e
    · rename_i x1 acc1 h1
      split at e
      · rename_i m acc2 h2
        cases e
        obtain ⟨k1, ⟨ext1, rfl⟩, c1⟩ := selV_ok ok h1 k c
        obtain ⟨k2, ⟨ext2, rfl⟩, c2⟩ := selVs_ok ok h2 k1 r
        exact ⟨k2, ⟨ext1 ++ ext2, by rw [List.append_assoc]⟩, CnV.mono (FH.le.refl h) (betaOf_ext _ _ _) c1, c2⟩
      · cases e
    · cases e

theorem sndL_eq : ∀ (l : List (Nat × Res)), sndL l = l.map (·.2)
  | [] => rfl
  | (_, r) :: l => by simp [sndL, sndL_eq l]

theorem OK.pick {T : List Res} (ok : OK B h0 T h β w) {acc : List (Nat × Res)} (k : AccOK T acc) : OK B h0 (sndL acc) h (betaOf β acc) w := by
  have get : ∀ {i : Nat} {r : Res} {v : RV}, (sndL acc)[i]? = some r → (betaOf β acc)[i]? = some v → ∃ p, acc[i]? = some p ∧ T[p.1]? = some r ∧ β[p.1]? = some v ∧ (∃ t sh l, r = .row t sh l) := by
    intro i r v e e'
    rw [sndL_eq, List.getElem?_map] at e
    unfold betaOf at e'
    rw [List.getElem?_map] at e'
    cases hp : acc[i]? with
    | none => rw [hp] at e; cases e
    | some p =>
      rw [hp] at e e'
      cases e; cases e'
      obtain ⟨h1, h2⟩ := k.at_ p (List.mem_of_getElem? hp)
      have hlt : p.1 < β.length := by rw [ok.len]; exact (List.getElem?_eq_some_iff.1 h1).1
      exact ⟨p, rfl, h1, by simp [hlt], h2⟩
  exact {
    below := ok.below
    dr := ok.dr
    len := by rw [sndL_eq]; simp [betaOf]
    holds := by
      intro i r v e e'
      obtain ⟨p, _, h1, h2, t, sh, l, rfl⟩ := get e e'
      have := ok.holds _ _ _ h1 h2
      cases v with
      | row y => exact this
      | _ => exact this.elim
    own := by
      intro i r v b e l e' hb
      obtain ⟨p, _, h1, h2, _⟩ := get e e'
      exact ok.own _ r v b h1 l h2 hb
    inj := by
      intro i j r r' u v b e l e' l' f f' hb hb'
      obtain ⟨p, p1, h1, h2, _⟩ := get e f
      obtain ⟨q, q1, h3, h4, _⟩ := get e' f'
      exact k.dup i j p q p1 q1 (ok.inj _ _ r r' u v b h1 l h3 l' h2 h4 hb hb')
    hle := ok.hle
    hw := ok.hw
    hg := ok.hg
    kn := ok.kn }
end

def rOne (a : Act) : ResultVar → Sem Value
  | .tmp t => pure (a.tmps.getD t undef)
  | .cell p t => do loadVar t (← asAddr (a.tmps.getD p undef))

theorem resV_ok {cx : Cx} {P : Program} (hc : TisOK P cx.ti) {N : Nat} {B : Base} {h0 : FH} {s : St} {h : FH} {β : List RV} {w : World} {a : Act} (sat : Sat N B h0 s h β w a) {r : ResultVar} {K : SV → Prop} (k : resV cx s r K) :
    ∃ v y, K v ∧ (rOne a r).run P w = .ok y w ∧ CnV h β v y := by
  unfold resV at k
  split at k
  · rename_i t
    split at k
    · rename_i v hv
      obtain ⟨z, q1, q2, _⟩ := sat.env _ _ _ hv
      exact ⟨v, z, k, by simp [rOne, q1], q2 rfl⟩
    · exact k.elim
  · rename_i p t
    split at k
    · rename_i q hq
      obtain ⟨z, q1, q2, _⟩ := sat.env _ _ _ hq
      obtain ⟨e, k1, k2⟩ := loadK_ok hc sat k
      split at k1
      · rename_i v
        obtain ⟨y, r1, r2⟩ := k2 rfl z (q2 rfl).1
        refine ⟨v, y, k1, ?_, r2⟩
        have hz : ∃ ad, z = .pointer (some ad) := by
          have c := (q2 rfl).1
          cases q with
          | v x =>
            unfold loadK at k
            split at k
            · exact k.elim
            · exact k.elim
          | sl _ _ =>
            unfold loadK at k
            split at k
            · exact k.elim
            · exact k.elim
          | fp _ _ => obtain ⟨b, o, _, e, _⟩ := c; exact ⟨_, e⟩
          | own _ _ => obtain ⟨b, _, e⟩ := c; exact ⟨_, e⟩
          | row _ =>
            unfold loadK at k
            split at k
            · exact k.elim
            · exact k.elim
          | rowp _ _ _ _ => obtain ⟨_, g, _, _, e⟩ := c; exact ⟨_, e⟩
          | abs _ =>
            unfold loadK at k
            split at k
            · exact k.elim
            · exact k.elim
          | junk =>
            unfold loadK at k
            split at k
            · exact k.elim
            · exact k.elim
        obtain ⟨ad, rfl⟩ := hz
        have hg : a.tmps.getD p undef = .pointer (some ad) := by simp [q1]
        simp only [rOne]
        rw [hg]
        simpa [Instr.loadAt, Instr.sureAddr, asAddr] using r1 w (Gro.refl w)
      · exact k1.elim
    · exact k.elim

theorem resL_ok {cx : Cx} {P : Program} (hc : TisOK P cx.ti) {N : Nat} {B : Base} {h0 : FH} {s : St} {h : FH} {β : List RV} {w : World} {a : Act} (sat : Sat N B h0 s h β w a) : ∀ {rs : List ResultVar} {K : List SV → Prop}, resL cx s rs K →
    ∃ vs ys, K vs ∧ (rs.mapM (rOne a)).run P w = .ok ys w ∧ All2 (CnV h β) vs ys
  | [], K, k => ⟨[], [], k, rfl, trivial⟩
  | r :: l, K, k => by
    obtain ⟨v, y, k1, r1, c1⟩ := resV_ok hc sat k
    obtain ⟨vs, ys, k2, r2, c2⟩ := resL_ok hc sat k1
    refine ⟨v :: vs, y :: ys, k2, ?_, c1, c2⟩
    rw [List.mapM_cons]
    simp only [Sem.run_bind, Sem.run_pure]
    rw [r1]
    simp only [Result.andThen_ok]
    rw [r2]
    rfl

theorem results_eq (fn : Func) (a : Act) : results fn a.tmps = (do let vs ← fn.results.mapM (rOne a); pure (if h : vs.size = 1 then vs[0] else .tuple vs) : Sem Value) := by
  unfold results
  congr 1

theorem results_run {P : Program} {fn : Func} {a : Act} {w : World} {ys : List Value}
    (h : ((tl fn.results).mapM (rOne a)).run P w = .ok ys w) :
    (results fn a.tmps).run P w = .ok (match ys with | [y] => y | _ => .tuple ys.toArray) w := by
  rw [results_eq]
  have e : (fn.results.mapM (rOne a)).run P w = .ok ys.toArray w := by
    cases hr : fn.results with
    | mk l =>
      rw [hr] at h
      have e2 := List.mapM_toArray (m := Sem) (f := (rOne a)) (l := l)
      refine (congrArg (fun x => Sem.run P x w) e2).trans ?_
      simp only [Sem.run_map]
      rw [show Sem.run P (List.mapM (rOne a) l) w = _ from h]; rfl
  simp only [Sem.run_bind]
  rw [e]
  simp only [Result.andThen_ok, Sem.run_pure]
  congr 1
  match ys with
  | [] => rfl
  | [y] => rfl
  | _ :: _ :: _ => simp

@[reducible] def bodyOf (fn : Func) : Code := match fn.body with
  | some c => c
  | none => .skip

/-- At its end a function turns the marks that it has been given. -/
theorem leave_marks {P : Program} {fn : Func} {tmps : Array Value} {R : Ending → World → Prop} {N : Nat} {B : World} {h0 : FH} {s : St} {h : FH} {β : List RV} : ∀ (X : List Nat) {w : World}, X.Nodup → (∀ D ∈ X, B.heap.size ≤ D ∧ w.heap[D]? = some (.deferred (some []))) →
    Sat N (Base.of B) h0 s h β w { tmps := tmps, defers := [] } → (∀ w', Sat N (Base.of B) h0 s h β w' { tmps := tmps, defers := [] } → ∃ v, (results fn tmps).run P w' = .ok v w' ∧ R (.returned v) w') →
    LeavesInM Fence.wide 0 P fn tmps R (X.map (fun D => ({ target := .collected D, args := #[] } : Deferred))) .returning w
  | [], w, _, _, sat, fin => fin w sat
  | D :: X, w, hn, hx, sat, fin => by
    obtain ⟨h1, h2⟩ := hx D (by simp)
    have hn := List.nodup_cons.1 hn
    refine ⟨fun hh => (by cases hh), .inl ⟨D, w.putObj D (.deferred none), rfl, run_takeDeferred h2, ?_⟩⟩
    refine leave_marks X hn.2 (fun D' hD' => ?_) ⟨sat.ok.turn h1 (fun k u hk => hk.elim) h2 rfl, sat.env, sat.gs, Dfr.nil rfl, sat.sz, sat.gb, sat.gT⟩ fin
    obtain ⟨g1, g2⟩ := hx D' (by simp [hD'])
    refine ⟨g1, (World.putObj_heap_other ?_).trans g2⟩
    rintro rfl
    exact hn.1 hD'

@[reducible] def sufE : List Value → List SV
  | [] => []
  | v :: l => .c (.v v) :: sufE l
theorem sufE_ok {h : FH} {β : List RV} : ∀ {l : List Value}, (∀ v ∈ l, isOne v = true) → All2 (CnV h β) (sufE l) l
  | [], _ => trivial
  | v :: l, hh => ⟨⟨⟨rfl, isOne_one (hh v (by simp))⟩, isOne_one (hh v (by simp))⟩, sufE_ok fun u hu => hh u (by simp [hu])⟩
theorem All2.append {α β : Type} {R : α → β → Prop} : ∀ {l l' : List α} {m m' : List β}, All2 R l m → All2 R l' m' → All2 R (l ++ l') (m ++ m')
  | [], _, [], _, _, h => h
  | _ :: _, _, _ :: _, _, ⟨a, b⟩, h => ⟨a, All2.append b h⟩

/-- From what a function's text comes to, its contract. -/
theorem fn_okx {P : Program} {E : Env} (ok : EnvOK P E) {f : FuncId} {fn : Func} {body : Code} {ct : CT} {suf : List Value} (hsuf : ∀ v ∈ suf, isOne v = true) (hf : P.funcs[f]? = some fn) (hb : fn.body = some body) (hn : fn.ntmps = E.n) (hle : Nat.ble (lenL ct.ps + lenL suf) E.n = true)
    (k : ∀ d, ct.pre d → ∃ ann, funcK { E with ann := ann } body (tl fn.results) (catL (ofDats ct.ps d) (sufE suf)) fun T e => (ct.res d).1 = T ∧ (ct.res d).2 = e) : CTX P E.cx.gd f suf ct := by
  intro d vs h B hw hg hargs hpre
  obtain ⟨ann, kk⟩ := k d hpre
  have ok : EnvOK P { E with ann := ann } := ⟨ok.prog, ok.hc, ok.mkf, ok.mixed, ok.ti, ok.ct, ok.ip⟩
  have hlen : ∀ {ss : List Sh} {d : dens ss}, (ofDats ss d).length = lenL ss := by
    intro ss
    induction ss with
    | nil => intro d; rfl
    | cons s l ih => intro d; simp [ofDats, lenL, ih]
  have hvl : vs.length = lenL ct.ps := by rw [← hargs.length, hlen]
  have hvn : (vs ++ suf).length ≤ E.n := by rw [List.length_append, hvl, ← lenL_eq suf]; exact Nat.le_of_ble_eq_true hle
  replace hargs : All2 (CnV h []) (catL (ofDats ct.ps d) (sufE suf)) (vs ++ suf) := by
    rw [catL_eq]; exact hargs.append (sufE_ok hsuf)
  generalize catL (ofDats ct.ps d) (sufE suf) = av at hargs kk
  clear hvl
  generalize vs ++ suf = vs at hargs hvn ⊢
  refine callsIn_wide.1 (callsIn_of_wp_marks (F := Fence.wide) (n := 0) hf hb trivial ?_)
  have sat : Sat E.n (Base.of B) h { env := argE 0 av, T := [], gl := [], gs := [] } h [] B { tmps := vs.toArray ++ Array.replicate (fn.ntmps - vs.toArray.size) undef, defers := [] } := by
    have look : ∀ {xs : List SV} {ys : List Value} {n t : Nat} {G : Gd} {e : Ent}, All2 (CnV h []) xs ys → lkE (argE n xs) t = some (G, e) → ∃ y, G = [] ∧ n ≤ t ∧ ys[t - n]? = some y ∧ CnE h [] e y := by
      intro xs
      induction xs with
      | nil => intro ys n t G e _ hh; simp [argE, lkE] at hh
      | cons x xs ih =>
        intro ys n t G e a hh
        cases ys with
        | nil => exact a.elim
        | cons y ys =>
          simp only [argE] at hh
          rw [lkE_cons] at hh
          split at hh
          · rename_i hk; subst hk; cases hh; exact ⟨y, rfl, Nat.le_refl _, by simp, a.1⟩
          · obtain ⟨u, h1, h2, h3, h4⟩ := ih a.2 hh
            refine ⟨u, h1, by omega, ?_, h4⟩
            rw [show t - n = (t - (n + 1)) + 1 by omega]
            simpa using h3
    refine ⟨⟨Bw.refl (Base.of B), Nat.le_refl _, rfl, fun i r v e _ => by simp [eff] at e, fun i r v b e _ _ _ => by simp [eff] at e, fun i j r r' u v b e _ _ _ _ _ _ _ => by simp [eff] at e, FH.le.refl h, hw, fun b o v hh => .inl hh, fun k o hh => hh.elim⟩, ?_, ?_, Dfr.nil rfl, ?_, ?_, ?_⟩
    · intro t G e ht
      obtain ⟨y, rfl, h2, h3, h4⟩ := look hargs ht
      simp only [Nat.sub_zero] at h3
      refine ⟨y, ?_, fun _ => h4, fun hh => by cases hh⟩
      rw [Array.getElem?_append_left (by have := (List.getElem?_eq_some_iff.1 h3).1; simpa using this)]
      simpa using h3
    · intro d i hi; cases hi
    · simp only [Array.size_append, List.size_toArray, Array.size_replicate]; omega
    · intro t G e ht
      obtain ⟨y, rfl, _⟩ := look hargs ht
      rfl
    · intro p hp; cases hp
  refine codeK_ok body ok hg (.inl rfl) (fun _ => rfl) sat kk fun e s' h' β' w' a' B' lb k' le sat' sm => ?_
  have fin : resL E.cx s' (tl fn.results) (fun vs => coK E.rc s'.T vs fun T vs => outK T vs fun T e => (ct.res d).1 = T ∧ (ct.res d).2 = e) →
      LeavesInM Fence.wide 0 P fn a'.tmps (fun en w' => ∃ h' β y, en = .returned y ∧ OK (Base.of B) h (ct.res d).1 h' β w' ∧ CnE h' β (ct.res d).2 y) a'.defers .returning w' := by
    intro kr
    obtain ⟨X, x1, x2, x3⟩ := sat'.defers
    rw [x1]
    have e0 : B'.toWorld = B := lb.1.1
    have ea : B'.al = (Base.of B).al := lb.1.2.1
    have nd : ∀ D ∈ X, B.heap.size ≤ D ∧ w'.heap[D]? = some (.deferred (some [])) := fun D hD => ⟨by have := (x3 D hD).1; rw [ea] at this; exact this, sat'.ok.kn D _ (x3 D hD).2⟩
    have sat1 : Sat E.n (Base.of B) h s' h' β' w' { tmps := a'.tmps, defers := [] } :=
      ⟨sat'.ok.rebase (B' := Base.of B) (by rw [e0]) (by rw [ea]) (fun k o hh => hh.elim), sat'.env, sat'.gs, Dfr.nil rfl, sat'.sz, sat'.gb, sat'.gT⟩
    refine leave_marks X x2 nd sat1 fun w' sat' => ?_
    replace kr := kr
    obtain ⟨vs, ys, k1, r1, c1⟩ := resL_ok ok.ti sat' kr
    obtain ⟨T1, vs1, h1, β1, k1, le1, eb1, ok1, c1⟩ := coK_ok sat'.ok k1 c1
    unfold outK at k1
    split at k1
    · rename_i vs' acc hsel
      obtain ⟨e1, e2⟩ := k1
      obtain ⟨ka, _, c2⟩ := selVs_ok ok1 hsel ⟨fun p hp => by simp at hp, fun i j p q hp => by simp at hp⟩ c1
      refine ⟨_, results_run r1, h1, _, _, rfl, by rw [e1]; exact ok1.pick ka, ?_⟩
      rw [e2]
      match vs', ys, c2 with
      | [], [], c2 => exact ⟨[], rfl, c2⟩
      | [v], [y], c2 => exact c2.1
      | _ :: _ :: _, y :: z :: ys, c2 => exact ⟨_, rfl, c2⟩
    · exact k1.elim
  cases e with
  | normal => exact fin k'
  | ret => exact fin k'
  | exit i => exact k'.elim
  | goto l => exact k'.elim
  | panic ch => exact k'.elim
  | outgrown => exact k'.elim

/-- Without functions behind the data. -/
theorem fn_ok {P : Program} {E : Env} (ok : EnvOK P E) {f : FuncId} {fn : Func} {body : Code} {ct : CT} (hf : P.funcs[f]? = some fn) (hb : fn.body = some body) (hn : fn.ntmps = E.n) (hle : Nat.ble (lenL ct.ps) E.n = true)
    (k : ∀ d, ct.pre d → ∃ ann, funcK { E with ann := ann } body (tl fn.results) (ofDats ct.ps d) fun T e => (ct.res d).1 = T ∧ (ct.res d).2 = e) : CTOK P E.cx.gd f ct :=
  (fn_okx (suf := []) ok (fun v hv => by cases hv) hf hb hn (by simpa [lenL] using hle) (fun d hd => by
    obtain ⟨ann, kk⟩ := k d hd
    exact ⟨ann, by rw [show catL (ofDats ct.ps d) (sufE []) = ofDats ct.ps d by rw [catL_eq]; simp [sufE]]; exact kk⟩)).ok

/-! A function at a time. -/

@[reducible] def lkC : List (Nat × CT) → Nat → Option CT
  | [], _ => none
  | (k, e) :: l, n => cnd (Nat.beq k n) (some e) (lkC l n)


/-- A contract that is proved. -/
def Met (P : Program) (gd : Nat → Option (Sigma Sh.den)) (f : FuncId) (c : CT) : Prop := CTOK P gd f c ∧ FnIs P f

def AllMet (P : Program) (gd : Nat → Option (Sigma Sh.den)) : List (Nat × CT) → Prop
  | [] => True
  | (k, c) :: l => Met P gd k c ∧ AllMet P gd l
theorem Met.more {P : Program} {gd gd' : Nat → Option (Sigma Sh.den)} {f : Nat} {c : CT} (h : Met P gd f c) (le : ∀ g p, gd g = some p → gd' g = some p) : Met P gd' f c :=
  ⟨fun d vs h' B hw hg => h.1 d vs h' B hw fun g p e => hg g p (le g p e), h.2⟩
theorem AllMet.get {P : Program} {gd : Nat → Option (Sigma Sh.den)} : ∀ {l : List (Nat × CT)} {f : Nat} {c : CT}, AllMet P gd l → lkC l f = some c → Met P gd f c
  | [], _, _, _, e => by simp [lkC] at e
  | (k, x) :: l, t, i, ⟨h1, h2⟩, e => by
    simp only [lkC, cnd_eq] at e
    split at e
    · rename_i hk
      have : k = t := by simpa using hk
      subst this; cases e; exact h1
    · exact AllMet.get h2 e

@[reducible] def lkI : List (Nat × IP) → Nat → Option IP
  | [], _ => none
  | (k, e) :: l, n => cnd (Nat.beq k n) (some e) (lkI l n)
def MetIP (P : Program) (gd : Nat → Option (Sigma Sh.den)) (f : FuncId) (c : IP) : Prop := IPOK P gd f c ∧ FnIs P f
def AllIP (P : Program) (gd : Nat → Option (Sigma Sh.den)) : List (Nat × IP) → Prop
  | [] => True
  | (k, c) :: l => MetIP P gd k c ∧ AllIP P gd l
theorem AllIP.get {P : Program} {gd : Nat → Option (Sigma Sh.den)} : ∀ {l : List (Nat × IP)} {f : Nat} {c : IP}, AllIP P gd l → lkI l f = some c → MetIP P gd f c
  | [], _, _, _, e => by simp [lkI] at e
  | (k, x) :: l, t, i, ⟨h1, h2⟩, e => by
    simp only [lkI, cnd_eq] at e
    split at e
    · rename_i hk
      have : k = t := by simpa using hk
      subst this; cases e; exact h1
    · exact AllIP.get h2 e

/-- With calls that work in place. -/
theorem met_ip {P : Program} {cx : Cx} {n : Nat} {cl : List (Nat × CT)} {il : List (Nat × IP)} (mx : P.follows .mixedOrders = true) (ti : TisOK P cx.ti) (cm : AllMet P cx.gd cl) (im : AllIP P cx.gd il) {f : FuncId} {fn : Func} {ct : CT} (hf : P.funcs[f]? = some fn) (hb : fn.body = some (bodyOf fn)) (hn : fn.ntmps = n) (hle : Nat.ble (lenL ct.ps) n = true)
    (hs : fn.body.isSome = true) (hname : (fn.name == "runtime.NumGoroutine") = false)
    {rc : List RC} (k : ∀ d, ct.pre d → ∃ ann, funcK { cx := cx, n := n, ct := lkC cl, ann := ann, ip := lkI il, rc := rc } (bodyOf fn) (tl fn.results) (ofDats ct.ps d) fun T e => (ct.res d).1 = T ∧ (ct.res d).2 = e) : Met P cx.gd f ct :=
  ⟨fn_ok (E := { cx := cx, n := n, ct := lkC cl, ann := fun _ => none, ip := lkI il, rc := rc }) ⟨fun P' e => (by cases e), fun _ _ _ e => (by cases e), fun _ _ e => (by cases e), mx, ti, fun f c h => ⟨(cm.get h).1, (cm.get h).2⟩, fun f c h => ⟨(im.get h).1, (im.get h).2⟩⟩ hf hb hn hle k, ⟨fn, hf, hs, hname⟩⟩

theorem met_lit {P : Program} {cx : Cx} {n : Nat} {cl : List (Nat × CT)} {il : List (Nat × IP)} (mx : P.follows .mixedOrders = true) (ti : TisOK P cx.ti) (cm : AllMet P cx.gd cl) (im : AllIP P cx.gd il) {f : FuncId} {fn : Func} {ct : CT} (hf : P.funcs[f]? = some fn) (hb : fn.body = some (bodyOf fn)) (hn : fn.ntmps = n) (hle : Nat.ble (lenL ct.ps) n = true)
    (hs : fn.body.isSome = true) (hname : (fn.name == "runtime.NumGoroutine") = false)
    {rc : List RC} {lits : List Nat} (k : ∀ d, ct.pre d → ∃ ann, funcK { cx := cx, n := n, ct := lkC cl, ann := ann, ip := lkI il, rc := rc, lits := lits } (bodyOf fn) (tl fn.results) (ofDats ct.ps d) fun T e => (ct.res d).1 = T ∧ (ct.res d).2 = e) : Met P cx.gd f ct :=
  ⟨fn_ok (E := { cx := cx, n := n, ct := lkC cl, ann := fun _ => none, ip := lkI il, rc := rc, lits := lits }) ⟨fun P' e => (by cases e), fun _ _ _ e => (by cases e), fun _ _ e => (by cases e), mx, ti, fun f c h => ⟨(cm.get h).1, (cm.get h).2⟩, fun f c h => ⟨(im.get h).1, (im.get h).2⟩⟩ hf hb hn hle k, ⟨fn, hf, hs, hname⟩⟩

/-- With ranges over functions. -/
theorem met_rng {P : Program} {cx : Cx} {n : Nat} {cl : List (Nat × CT)} {il : List (Nat × IP)} (mx : P.follows .mixedOrders = true) (ti : TisOK P cx.ti) (cm : AllMet P cx.gd cl) (im : AllIP P cx.gd il) {f : FuncId} {fn : Func} {ct : CT} (hf : P.funcs[f]? = some fn) (hb : fn.body = some (bodyOf fn)) (hn : fn.ntmps = n) (hle : Nat.ble (lenL ct.ps) n = true)
    (hs : fn.body.isSome = true) (hname : (fn.name == "runtime.NumGoroutine") = false)
    {rc : List RC} {lits : List Nat} (k : ∀ d, ct.pre d → ∃ ann, funcK { cx := cx, n := n, ct := lkC cl, ann := ann, ip := lkI il, rc := rc, lits := lits, P := some P } (bodyOf fn) (tl fn.results) (ofDats ct.ps d) fun T e => (ct.res d).1 = T ∧ (ct.res d).2 = e) : Met P cx.gd f ct :=
  ⟨fn_ok (E := { cx := cx, n := n, ct := lkC cl, ann := fun _ => none, ip := lkI il, rc := rc, lits := lits, P := some P }) ⟨fun P' e => (by cases e; rfl), fun _ _ _ e => (by cases e), fun _ _ e => (by cases e), mx, ti, fun f c h => ⟨(cm.get h).1, (cm.get h).2⟩, fun f c h => ⟨(im.get h).1, (im.get h).2⟩⟩ hf hb hn hle k, ⟨fn, hf, hs, hname⟩⟩

theorem met_of {P : Program} {cx : Cx} {n : Nat} {cl : List (Nat × CT)} (mx : P.follows .mixedOrders = true) (ti : TisOK P cx.ti) (cm : AllMet P cx.gd cl) {f : FuncId} {fn : Func} {ct : CT} (hf : P.funcs[f]? = some fn) (hb : fn.body = some (bodyOf fn)) (hn : fn.ntmps = n) (hle : Nat.ble (lenL ct.ps) n = true)
    (hs : fn.body.isSome = true) (hname : (fn.name == "runtime.NumGoroutine") = false)
    (k : ∀ d, ct.pre d → ∃ ann, funcK { cx := cx, n := n, ct := lkC cl, ann := ann } (bodyOf fn) (tl fn.results) (ofDats ct.ps d) fun T e => (ct.res d).1 = T ∧ (ct.res d).2 = e) : Met P cx.gd f ct :=
  ⟨fn_ok (E := { cx := cx, n := n, ct := lkC cl, ann := fun _ => none }) ⟨fun P' e => (by cases e), fun _ _ _ e => (by cases e), fun _ _ e => (by cases e), mx, ti, fun f c h => ⟨(cm.get h).1, (cm.get h).2⟩, fun f c h => by cases h⟩ hf hb hn hle k, ⟨fn, hf, hs, hname⟩⟩

/-! With all that there is. -/
def MkOK (P : Program) (gd : Nat → Option (Sigma Sh.den)) (g : Nat) (m : MK) : Prop :=
  ∀ d h lb, m.pre d → GlobOK gd h → capD h m.ss d lb → (m.f d).rel h (.func (.func g) #[] lb.toArray)
@[reducible] def lkM : List (Nat × MK) → Nat → Option MK
  | [], _ => none
  | (k, e) :: l, n => cnd (Nat.beq k n) (some e) (lkM l n)
def AllMk (P : Program) (gd : Nat → Option (Sigma Sh.den)) : List (Nat × MK) → Prop
  | [] => True
  | (k, c) :: l => MkOK P gd k c ∧ AllMk P gd l
theorem AllMk.get {P : Program} {gd : Nat → Option (Sigma Sh.den)} : ∀ {l : List (Nat × MK)} {f : Nat} {c : MK}, AllMk P gd l → lkM l f = some c → MkOK P gd f c
  | [], _, _, _, e => by simp [lkM] at e
  | (k, x) :: l, t, i, ⟨h1, h2⟩, e => by
    simp only [lkM, cnd_eq] at e
    split at e
    · rename_i hk
      have : k = t := by simpa using hk
      subst this; cases e; exact h1
    · exact AllMk.get h2 e
def MetX (P : Program) (gd : Nat → Option (Sigma Sh.den)) (f : FuncId) (suf : List Value) (c : CT) : Prop := CTX P gd f suf c ∧ FnIs P f
@[reducible] def lkH : List (Nat × Nat × CT) → Nat → Nat → Option CT
  | [], _, _ => none
  | (k, g, e) :: l, n, m => cnd (andB (Nat.beq k n) (Nat.beq g m)) (some e) (lkH l n m)
def AllHc (P : Program) (gd : Nat → Option (Sigma Sh.den)) : List (Nat × Nat × CT) → Prop
  | [] => True
  | (k, g, c) :: l => MetX P gd k [.func (.func g) #[] #[]] c ∧ AllHc P gd l
theorem AllHc.get {P : Program} {gd : Nat → Option (Sigma Sh.den)} : ∀ {l : List (Nat × Nat × CT)} {f g : Nat} {c : CT}, AllHc P gd l → lkH l f g = some c → MetX P gd f [.func (.func g) #[] #[]] c
  | [], _, _, _, _, e => by simp [lkH] at e
  | (k, g', x) :: l, t, g, i, ⟨h1, h2⟩, e => by
    simp only [lkH, cnd_eq, andB_eq] at e
    split at e
    · rename_i hk
      rw [Bool.and_eq_true] at hk
      have e1 : k = t := Nat.eq_of_beq_eq_true hk.1
      have e2 : g' = g := Nat.eq_of_beq_eq_true hk.2
      subst e1; subst e2; cases e; exact h1
    · exact AllHc.get h2 e

@[reducible] def envA (P : Program) (cx : Cx) (n : Nat) (cl : List (Nat × CT)) (il : List (Nat × IP)) (hl : List (Nat × Nat × CT)) (ml : List (Nat × MK)) (rc : List RC) (lits : List Nat) (ann : Nat → Option (St → Ann)) : Env :=
  { cx := cx, n := n, ct := lkC cl, ann := ann, ip := lkI il, rc := rc, lits := lits, P := some P, hc := lkH hl, mkf := lkM ml }
theorem envA_ok {P : Program} {cx : Cx} {n : Nat} {cl : List (Nat × CT)} {il : List (Nat × IP)} {hl : List (Nat × Nat × CT)} {ml : List (Nat × MK)} {rc : List RC} {lits : List Nat} {ann : Nat → Option (St → Ann)}
    (mx : P.follows .mixedOrders = true) (ti : TisOK P cx.ti) (cm : AllMet P cx.gd cl) (im : AllIP P cx.gd il) (hm : AllHc P cx.gd hl) (mm : AllMk P cx.gd ml) : EnvOK P (envA P cx n cl il hl ml rc lits ann) where
  prog := fun P' e => by cases e; rfl
  hc := fun f g c e => hm.get e
  mkf := fun g fx e => mm.get e
  mixed := mx
  ti := ti
  ct := fun f c h => cm.get h
  ip := fun f c h => im.get h
theorem met_all {P : Program} {cx : Cx} {n : Nat} {cl : List (Nat × CT)} {il : List (Nat × IP)} {hl : List (Nat × Nat × CT)} {ml : List (Nat × MK)} {rc : List RC} {lits : List Nat} {suf : List Value}
    (mx : P.follows .mixedOrders = true) (ti : TisOK P cx.ti) (cm : AllMet P cx.gd cl) (im : AllIP P cx.gd il) (hm : AllHc P cx.gd hl) (mm : AllMk P cx.gd ml) {f : FuncId} {fn : Func} {ct : CT} (hf : P.funcs[f]? = some fn) (hb : fn.body = some (bodyOf fn)) (hn : fn.ntmps = n)
    (hle : Nat.ble (lenL ct.ps + lenL suf) n = true) (hs : fn.body.isSome = true) (hname : (fn.name == "runtime.NumGoroutine") = false) (hsuf : ∀ v ∈ suf, isOne v = true)
    (k : ∀ d, ct.pre d → ∃ ann, funcK (envA P cx n cl il hl ml rc lits ann) (bodyOf fn) (tl fn.results) (catL (ofDats ct.ps d) (sufE suf)) fun T e => (ct.res d).1 = T ∧ (ct.res d).2 = e) : MetX P cx.gd f suf ct :=
  ⟨fn_okx (E := envA P cx n cl il hl ml rc lits fun _ => none) (envA_ok mx ti cm im hm mm) hsuf hf hb hn hle k, ⟨fn, hf, hs, hname⟩⟩
theorem MetX.met {P : Program} {gd : Nat → Option (Sigma Sh.den)} {f : FuncId} {c : CT} (h : MetX P gd f [] c) : Met P gd f c := ⟨h.1.ok, h.2⟩
end Go.Eng
