/- The engine, part B: how the relation between symbolic resources and a world is carried over the steps of a run. -/
import Derived.Test.YtklnffdjhoacoaaDoorEngA
set_option linter.unusedVariables false
namespace Go.Eng
open Go Go.RowKit

theorem block_of_cell {w w' : World} {a : Addr} (e : w'.heap[a.block]? = w.heap[a.block]?) : w'.cell? a = w.cell? a := by
  simp [World.cell?, e]

theorem Holds.move {h h' : FH} {β β' : List RV} {w w' : World} (le : h.le h') (eb : Ext β β') :
    ∀ {r : Res} {v : RV}, Holds h β w r v → (r.live = true → ∀ b, v.block = some b → w'.heap[b]? = w.heap[b]?) → Holds h' β' w' r v
  | .blk _ _, .blk b, ⟨ys, e, a⟩, k => ⟨ys, by rw [k rfl b rfl]; exact e, a.mono fun _ _ ⟨p, q⟩ => ⟨p.mono le eb, q⟩⟩
  | .row _ _ _, .row v, .inl e, _ => .inl e
  | .row _ s _, .row v, .inr (.inl e), _ => .inr (.inl e)
  | .row _ s _, .row v, .inr (.inr ⟨g, cap, cur, e, e1, e2, e3, e4, r⟩), k => .inr (.inr ⟨g, cap, cur, e, by rw [k rfl g (by rw [e]; exact block_own (n := _) e3.1)]; exact e1, e2, e3, e4, r.mono fun _ _ => Rd.mono le s⟩)
  | .obj _ s _, .blk b, ⟨ys, e, r⟩, k => ⟨ys, by rw [k rfl b rfl]; exact e, r.mono le s⟩
  | .gone, _, _, _ => trivial

theorem getElem?_append_some {α : Type} {l : List α} {x y : α} {i : Nat} (e : (l ++ [x])[i]? = some y) : (i < l.length ∧ l[i]? = some y) ∨ (i = l.length ∧ x = y) := by
  by_cases hi : i < l.length
  · rw [List.getElem?_append_left hi] at e; exact .inl ⟨hi, e⟩
  · rw [List.getElem?_append_right (by omega)] at e
    by_cases h0 : i - l.length = 0
    · rw [h0] at e; simp at e; exact .inr ⟨by omega, e⟩
    · rw [List.getElem?_eq_none (by simp; omega)] at e; cases e

/-- Frozen cells stay frozen while only blocks that are not frozen are written. -/
theorem frozen_kept {h : FH} {w w' : World} {row : Option Nat} (hw : ∀ b o v, h b o = some v → w.cell? ⟨b, o, none⟩ = some v) (hg : Gb w w' row)
    (hr : ∀ k, row = some k → ∀ o, h k o = none) : ∀ b o v, h b o = some v → w'.cell? ⟨b, o, none⟩ = some v := by
  intro b o v e
  refine hg.cell (hw b o v e) fun hb => ?_
  have := hr b hb.symm o
  rw [this] at e; cases e

/-- A new resource in new memory, or without memory. -/
theorem OK.add {B : Base} {h0 : FH} {T : List Res} {h : FH} {β : List RV} {w w' : World} (ok : OK B h0 T h β w) {r : Res} {v : RV}
    (hg : Gb w w' none) (hv : ∀ b, v.block = some b → w.heap.size ≤ b ∧ b < w'.heap.size) (hold : Holds h (β ++ [v]) w' r v) :
    OK B h0 (T ++ [r]) h (β ++ [v]) w' where
  below := ok.below.grown hg.togrownBy (by intro k e; cases e)
  dr := Nat.le_trans ok.dr hg.dr
  len := by simp [ok.len]
  holds := by
    intro i r' v' e e'
    rcases getElem?_append_some e with ⟨hi, e⟩ | ⟨hi, rfl⟩
    · rcases getElem?_append_some e' with ⟨_, e'⟩ | ⟨hj, _⟩
      · refine (ok.holds i r' v' e e').move (FH.le.refl h) (Ext.append _ _) fun hl b hb => ?_
        have := ok.own i r' v' b e hl e' hb
        exact hg.block b this.2.1 (by simp)
      · have := ok.len; omega
    · rcases getElem?_append_some e' with ⟨hj, _⟩ | ⟨_, rfl⟩
      · have := ok.len; omega
      · exact hold
  own := by
    intro i r' v' b e hl e' hb
    rcases getElem?_append_some e' with ⟨hj, e'⟩ | ⟨hj, rfl⟩
    · rcases getElem?_append_some e with ⟨_, e⟩ | ⟨hi, rfl⟩
      · obtain ⟨h1, h2, h3⟩ := ok.own i r' v' b e hl e' hb
        exact ⟨h1, Nat.lt_of_lt_of_le h2 hg.size, h3⟩
      · have := ok.len; omega
    · obtain ⟨h1, h2⟩ := hv b hb
      refine ⟨B.up _ (Nat.le_trans ok.below.size h1), h2, fun o => ?_⟩
      cases hh : h b o with
      | none => rfl
      | some u => have := World.block_lt_of_cell? _ _ (ok.hw b o u hh); simp at this; omega
  inj := by
    intro i j r1 r2 u v' b ei hl1 ej hl2 eu ev hu hv'
    have lt : ∀ (k : Nat) r'' u' b', T[k]? = some r'' → r''.live = true → β[k]? = some u' → u'.block = some b' → b' < w.heap.size := fun k r'' u' b' e1 e2 e3 e4 => (ok.own k r'' u' b' e1 e2 e3 e4).2.1
    have L := ok.len
    rcases getElem?_append_some ei with ⟨hi, ei⟩ | ⟨hi, _⟩ <;> rcases getElem?_append_some ej with ⟨hj, ej⟩ | ⟨hj, _⟩ <;>
      rcases getElem?_append_some eu with ⟨hi', eu⟩ | ⟨hi', rfl⟩ <;> rcases getElem?_append_some ev with ⟨hj', ev⟩ | ⟨hj', rfl⟩ <;> first
        | omega
        | exact ok.inj i j r1 r2 u v' b ei hl1 ej hl2 eu ev hu hv'
        | (exfalso; have a1 := lt i r1 u b ei hl1 eu hu; have a2 := hv b hv'; omega)
        | (exfalso; have a1 := lt j r2 v' b ej hl2 ev hv'; have a2 := hv b hu; omega)
  hle := ok.hle
  hw := frozen_kept ok.hw hg (by intro k e; cases e)
  hg := ok.hg
  kn := ok.kept hg (by intro b e; cases e)

/-- No cell of a symbolic value speaks of resource i. -/
@[reducible] def SC.free (i : Nat) : SC → Bool
  | .own j _ => !Nat.beq i j
  | .row j => !Nat.beq i j
  | .rowp j _ _ _ => !Nat.beq i j
  | _ => true

theorem CnC.set {h : FH} {β : List RV} {i : Nat} {v : RV} : ∀ {x : SC} {y : Value}, x.free i = true → CnC h β x y → CnC h (β.set i v) x y
  | .v _, _, _, e => e
  | .sl s _, _, _, e => e
  | .fp s _, _, _, e => e
  | .own j _, _, f, ⟨b, e, e'⟩ => ⟨b, by rw [List.getElem?_set_ne (by rintro rfl; simp at f)]; exact e, e'⟩
  | .row j, _, f, e => by simp only [CnC] at *; rw [List.getElem?_set_ne (by rintro rfl; simp at f)]; exact e
  | .rowp j _ _ _, _, f, ⟨v, g, e, e'⟩ => ⟨v, g, by rw [List.getElem?_set_ne (by rintro rfl; simp at f)]; exact e, e'⟩
  | .abs _, _, _, e => e
  | .junk, _, _, _ => trivial

@[reducible] def allFree (i : Nat) : List SC → Bool
  | [] => true
  | x :: l => x.free i && allFree i l

theorem All2.set {h : FH} {β : List RV} {i : Nat} {v : RV} : ∀ {xs : List SC} {ys : List Value}, allFree i xs = true → All2 (fun x y => CnC h β x y ∧ oneC y) xs ys → All2 (fun x y => CnC h (β.set i v) x y ∧ oneC y) xs ys
  | [], [], _, _ => trivial
  | _ :: _, _ :: _, f, ⟨a, b⟩ => by
    simp only [allFree, Bool.and_eq_true] at f
    exact ⟨⟨a.1.set f.1, a.2⟩, All2.set f.2 b⟩

@[reducible] def Res.free (i : Nat) : Res → Bool
  | .blk _ cs => allFree i cs
  | _ => true

theorem Holds.set {h : FH} {β : List RV} {w : World} {i : Nat} {v' : RV} : ∀ {r : Res} {v : RV}, r.free i = true → Holds h β w r v → Holds h (β.set i v') w r v
  | .blk _ _, .blk _, f, ⟨ys, e, a⟩ => ⟨ys, e, a.set f⟩
  | .row _ _ _, .row _, _, e => e
  | .obj _ _ _, .blk _, _, e => e
  | .gone, _, _, _ => trivial

theorem set_same {α : Type} : ∀ {l : List α} {i : Nat} {u : α}, l[i]? = some u → l.set i u = l
  | _ :: _, 0, _, e => by simp at e; simp [e]
  | _ :: _, i + 1, _, e => by simp at e; simp [set_same e]

/-- Resource i is changed: its memory is written, or it moves to new memory. -/
theorem OK.upd {B : Base} {h0 : FH} {T : List Res} {h : FH} {β : List RV} {w w' : World} (ok : OK B h0 T h β w) {i : Nat} {r r' : Res} {u v : RV}
    (hT : T[i]? = some r) (hl : r.live = true) (hu : β[i]? = some u) (hg : Gb w w' u.block)
    (hv : ∀ b, v.block = some b → u.block = some b ∨ (w.heap.size ≤ b ∧ b < w'.heap.size))
    (free : v = u ∨ ∀ j rj, j ≠ i → T[j]? = some rj → rj.free i = true) (hold : Holds h (β.set i v) w' r' v) :
    OK B h0 (T.set i r') h (β.set i v) w' := by
  have hi : i < T.length := (List.getElem?_eq_some_iff.1 hT).1
  have hi' : i < β.length := by rw [ok.len]; exact hi
  have own_i : ∀ b, u.block = some b → B.al b ∧ b < w.heap.size ∧ ∀ o, h b o = none := fun b hb => ok.own i r u b hT hl hu hb
  have nf : ∀ b, w.heap.size ≤ b → ∀ o, h b o = none := by
    intro b hb o
    cases hh : h b o with
    | none => rfl
    | some x => have := World.block_lt_of_cell? _ _ (ok.hw b o x hh); simp at this; omega
  have own_v : ∀ b, v.block = some b → B.al b ∧ b < w'.heap.size ∧ ∀ o, h b o = none := by
    intro b hb
    rcases hv b hb with hb' | ⟨h1, h2⟩
    · obtain ⟨a1, a2, a3⟩ := own_i b hb'
      exact ⟨a1, Nat.lt_of_lt_of_le a2 hg.size, a3⟩
    · exact ⟨B.up _ (Nat.le_trans ok.below.size h1), h2, nf b h1⟩
  exact {
    below := ok.below.grown hg.togrownBy fun k e => (own_i k e).1
    dr := Nat.le_trans ok.dr hg.dr
    len := by simp [ok.len]
    holds := by
      intro j rj vj ej ej'
      by_cases hj : j = i
      · subst hj
        rw [List.getElem?_set_self hi] at ej
        rw [List.getElem?_set_self hi'] at ej'
        cases ej; cases ej'; exact hold
      · rw [List.getElem?_set_ne (Ne.symm hj)] at ej ej'
        have h1 := ok.holds j rj vj ej ej'
        have h2 : Holds h (β.set i v) w rj vj := by
          rcases free with rfl | free
          · rw [set_same hu]; exact h1
          · exact h1.set (free j rj hj ej)
        refine h2.move (FH.le.refl h) (Ext.refl _) fun hlj b hb => hg.block b (ok.own j rj vj b ej hlj ej' hb).2.1 fun e => hj ?_
        exact ok.inj j i rj r vj u b ej hlj hT hl ej' hu hb e.symm
    own := by
      intro j rj vj b ej hlj ej' hb
      by_cases hj : j = i
      · subst hj
        rw [List.getElem?_set_self hi'] at ej'
        cases ej'; exact own_v b hb
      · rw [List.getElem?_set_ne (Ne.symm hj)] at ej ej'
        obtain ⟨a1, a2, a3⟩ := ok.own j rj vj b ej hlj ej' hb
        exact ⟨a1, Nat.lt_of_lt_of_le a2 hg.size, a3⟩
    inj := by
      intro j k r1 r2 u1 u2 b e1 l1 e2 l2 e3 e4 b1 b2
      by_cases hj : j = i <;> by_cases hk : k = i
      · rw [hj, hk]
      · exfalso
        subst hj
        rw [List.getElem?_set_self hi'] at e3; cases e3
        rw [List.getElem?_set_ne (Ne.symm hk)] at e2 e4
        have a := ok.own k r2 u2 b e2 l2 e4 b2
        rcases hv b b1 with hb | hb
        · exact hk (ok.inj k j r2 r u2 u b e2 l2 hT hl e4 hu b2 hb)
        · omega
      · exfalso
        subst hk
        rw [List.getElem?_set_self hi'] at e4; cases e4
        rw [List.getElem?_set_ne (Ne.symm hj)] at e1 e3
        have a := ok.own j r1 u1 b e1 l1 e3 b1
        rcases hv b b2 with hb | hb
        · exact hj (ok.inj j k r1 r u1 u b e1 l1 hT hl e3 hu b1 hb)
        · omega
      · rw [List.getElem?_set_ne (Ne.symm hj)] at e1 e3
        rw [List.getElem?_set_ne (Ne.symm hk)] at e2 e4
        exact ok.inj j k r1 r2 u1 u2 b e1 l1 e2 l2 e3 e4 b1 b2
    hle := ok.hle
    hw := frozen_kept ok.hw hg fun k e => (own_i k e).2.2
    hg := ok.hg
    kn := ok.kept hg fun b e => (ok.holds i r u hT hu).cells hl e }

/-- Truncation: the last resources are forgotten. -/
theorem OK.forget {B : Base} {h0 : FH} {T : List Res} {h : FH} {β : List RV} {w : World} (ok : OK B h0 T h β w) {i : Nat} {r : Res} (hT : T[i]? = some r) :
    OK B h0 (T.set i .gone) h β w where
  below := ok.below
  dr := ok.dr
  len := by simp [ok.len]
  holds := by
    intro j rj vj ej ej'
    by_cases hj : j = i
    · subst hj
      rw [List.getElem?_set_self (List.getElem?_eq_some_iff.1 hT).1] at ej
      cases ej; cases vj <;> trivial
    · rw [List.getElem?_set_ne (Ne.symm hj)] at ej; exact ok.holds j rj vj ej ej'
  own := by
    intro j rj vj b ej hl ej' hb
    by_cases hj : j = i
    · subst hj
      rw [List.getElem?_set_self (List.getElem?_eq_some_iff.1 hT).1] at ej
      cases ej; cases hl
    · rw [List.getElem?_set_ne (Ne.symm hj)] at ej; exact ok.own j rj vj b ej hl ej' hb
  inj := by
    intro j k r1 r2 u1 u2 b e1 l1 e2 l2 e3 e4 b1 b2
    have key : ∀ {m : Nat} {rm : Res}, (T.set i .gone)[m]? = some rm → rm.live = true → T[m]? = some rm := by
      intro m rm e l
      by_cases hm : m = i
      · subst hm
        rw [List.getElem?_set_self (List.getElem?_eq_some_iff.1 hT).1] at e
        cases e; cases l
      · rw [List.getElem?_set_ne (Ne.symm hm)] at e; exact e
    exact ok.inj j k r1 r2 u1 u2 b (key e1 l1) l1 (key e2 l2) l2 e3 e4 b1 b2
  hle := ok.hle
  hw := ok.hw
  hg := ok.hg
  kn := ok.kn

/-- The cells of a block, frozen. -/
def FH.plus (h : FH) (w : World) (g : Nat) : FH := fun b o => if b = g then w.cell? ⟨b, o, none⟩ else h b o

/-- Resource i, a slice's row, is frozen: from now on it is read alone. -/
theorem OK.freeze {B : Base} {h0 : FH} {T : List Res} {h : FH} {β : List RV} {w : World} (ok : OK B h0 T h β w) {i : Nat} {t : TypeId} {s : Sh} {l : List s.den} {y : Value}
    (hT : T[i]? = some (.row t s l)) (hu : β[i]? = some (.row y)) :
    ∃ h', h.le h' ∧ OK B h0 (T.set i .gone) h' β w ∧ SlAt h' (Rd h' s) y l := by
  have hold := ok.holds i _ _ hT hu
  have ok' := ok.forget hT
  rcases hold with ⟨e, e'⟩ | ⟨a, e, e'⟩ | ⟨g, cap, cur, e, e1, e2, e3, e4, r⟩
  · exact ⟨h, FH.le.refl h, ok', .inl ⟨e, e'⟩⟩
  · exact ⟨h, FH.le.refl h, ok', .inr (.inl ⟨a, 0, e, e', Nat.zero_le _⟩)⟩
  · subst e
    have own := ok.own i _ _ g hT rfl hu (block_own e3.1)
    have le : h.le (h.plus w g) := by
      intro b o v hb
      unfold FH.plus
      by_cases hbg : b = g
      · subst hbg; rw [own.2.2 o] at hb; cases hb
      · rw [if_neg hbg]; exact hb
    refine ⟨h.plus w g, le, ?_, ?_⟩
    · have key : ∀ {m : Nat} {rm : Res}, (T.set i .gone)[m]? = some rm → rm.live = true → T[m]? = some rm ∧ m ≠ i := by
        intro m rm e l
        by_cases hm : m = i
        · subst hm
          rw [List.getElem?_set_self (List.getElem?_eq_some_iff.1 hT).1] at e
          cases e; cases l
        · rw [List.getElem?_set_ne (Ne.symm hm)] at e; exact ⟨e, hm⟩
      exact {
        below := ok'.below
        dr := ok'.dr
        len := ok'.len
        holds := fun j rj vj ej ej' => (ok'.holds j rj vj ej ej').move le (Ext.refl _) fun _ _ _ => rfl
        own := by
          intro j rj vj b ej hl ej' hb
          obtain ⟨ejT, hj⟩ := key ej hl
          obtain ⟨a1, a2, a3⟩ := ok'.own j rj vj b ej hl ej' hb
          refine ⟨a1, a2, fun o => ?_⟩
          unfold FH.plus
          rw [if_neg, a3 o]
          rintro rfl
          exact hj (ok.inj j i _ _ _ _ _ ejT hl hT rfl ej' hu hb (block_own e3.1))
        inj := ok'.inj
        hle := ok.hle.trans le
        hw := by
          intro b o v hb
          unfold FH.plus at hb
          split at hb
          · exact hb
          · exact ok.hw b o v hb
        hg := by
          intro b o v hb
          unfold FH.plus at hb
          split at hb
          · rename_i hbg; subst hbg; exact .inr own.1
          · exact ok.hg b o v hb
        kn := ok.kn }
    · refine .inr (.inr ⟨g, 0, cap, rfl, e2, e3.2, _, r.mono fun _ _ => Rd.mono le s, ?_⟩)
      intro j u hj
      unfold FH.plus
      rw [if_pos rfl, Nat.zero_add, cell_of_row w g j cur t (0, 0) e1]
      rw [List.getElem?_take] at hj
      split at hj
      · simpa using hj
      · cases hj

/-- A resource's block is frozen: from now on it is read alone. -/
theorem OK.freezeBlk {B : Base} {h0 : FH} {T : List Res} {h : FH} {β : List RV} {w : World} (ok : OK B h0 T h β w) {i g : Nat} {r : Res} {v : RV} (hT : T[i]? = some r) (hl : r.live = true) (hu : β[i]? = some v) (hv : v.block = some g) :
    h.le (h.plus w g) ∧ OK B h0 (T.set i .gone) (h.plus w g) β w := by
  have ok' := ok.forget hT
  have own := ok.own i r v g hT hl hu hv
  have le : h.le (h.plus w g) := by
    intro b o v hb
    unfold FH.plus
    by_cases hbg : b = g
    · subst hbg; rw [own.2.2 o] at hb; cases hb
    · rw [if_neg hbg]; exact hb
  have key : ∀ {m : Nat} {rm : Res}, (T.set i .gone)[m]? = some rm → rm.live = true → T[m]? = some rm ∧ m ≠ i := by
    intro m rm e l
    by_cases hm : m = i
    · subst hm
      rw [List.getElem?_set_self (List.getElem?_eq_some_iff.1 hT).1] at e
      cases e; cases l
    · rw [List.getElem?_set_ne (Ne.symm hm)] at e; exact ⟨e, hm⟩
  exact ⟨le, {
    below := ok'.below
    dr := ok'.dr
    len := ok'.len
    holds := fun j rj vj ej ej' => (ok'.holds j rj vj ej ej').move le (Ext.refl _) fun _ _ _ => rfl
    own := by
      intro j rj vj b ej hl' ej' hb
      obtain ⟨ejT, hj⟩ := key ej hl'
      obtain ⟨a1, a2, a3⟩ := ok'.own j rj vj b ej hl' ej' hb
      refine ⟨a1, a2, fun o => ?_⟩
      unfold FH.plus
      rw [if_neg, a3 o]
      rintro rfl
      exact hj (ok.inj j i _ _ _ _ _ ejT hl' hT hl ej' hu hb hv)
    inj := ok'.inj
    hle := ok.hle.trans le
    hw := by
      intro b o v hb
      unfold FH.plus at hb
      split at hb
      · exact hb
      · exact ok.hw b o v hb
    hg := by
      intro b o v hb
      unfold FH.plus at hb
      split at hb
      · rename_i hbg; subst hbg; exact .inr own.1
      · exact ok.hg b o v hb
    kn := ok.kn }⟩
end Go.Eng
