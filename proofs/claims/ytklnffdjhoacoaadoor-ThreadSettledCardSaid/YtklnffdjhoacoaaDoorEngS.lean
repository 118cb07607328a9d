/- The engine, part S: two resources change places. -/
import Derived.Test.YtklnffdjhoacoaaDoorEngW
set_option linter.unusedSimpArgs false
set_option linter.unusedVariables false
namespace Go.Eng
open Go Go.RowKit

@[reducible] def swN (i k n : Nat) : Nat := match Nat.beq n i with
  | true => k
  | false => match Nat.beq n k with
    | true => i
    | false => n
theorem beq_ne {n i : Nat} (h : ¬ n = i) : Nat.beq n i = false := by
  cases hb : Nat.beq n i with
  | true => exact absurd (Nat.eq_of_beq_eq_true hb) h
  | false => rfl
theorem swN_eq (i k n : Nat) : swN i k n = if n = i then k else if n = k then i else n := by
  unfold swN
  by_cases h : n = i
  · subst h; simp
  · rw [if_neg h, beq_ne h]
    by_cases h2 : n = k
    · subst h2; simp
    · rw [if_neg h2, beq_ne h2]
theorem swN_swN (i k n : Nat) : swN i k (swN i k n) = n := by
  simp only [swN_eq]; split <;> split <;> simp_all <;> omega

@[reducible] def SC.sw (i k : Nat) : SC → SC
  | .own a o => .own (swN i k a) o
  | .row a => .row (swN i k a)
  | .rowp a j sz o => .rowp (swN i k a) j sz o
  | x => x
@[reducible] def SV.sw (i k : Nat) : SV → SV
  | .c x => .c (x.sw i k)
  | .agg xs => .agg (mapL (SC.sw i k) xs)
  | v => v
@[reducible] def Ent.sw (i k : Nat) : Ent → Ent
  | .one x => .one (x.sw i k)
  | .tup xs => .tup (mapL (SV.sw i k) xs)
@[reducible] def Res.sw (i k : Nat) : Res → Res
  | .blk t cs => .blk t (mapL (SC.sw i k) cs)
  | r => r

/-- β' is β with i and k exchanged. -/
def Swapped (i k : Nat) (β β' : List RV) : Prop := ∀ j, β'[swN i k j]? = β[j]?

theorem CnC.sw {h : FH} {β β' : List RV} {i k : Nat} (sb : Swapped i k β β') : ∀ {x : SC} {y : Value}, CnC h β x y → CnC h β' (x.sw i k) y
  | .v _, _, e => e
  | .sl _ _, _, e => e
  | .fp _ _, _, e => e
  | .own a o, _, ⟨b, e, e'⟩ => ⟨b, by rw [sb]; exact e, e'⟩
  | .row a, y, e => by show β'[swN i k a]? = _; rw [sb]; exact e
  | .rowp _ _ _ _, _, ⟨v, g, e, e'⟩ => ⟨v, g, by rw [sb]; exact e, e'⟩
  | .abs _, _, e => e
  | .junk, _, _ => trivial

theorem all2_mapL {α β : Type} {R R' : α → β → Prop} {f : α → α} (hR : ∀ a b, R a b → R' (f a) b) : ∀ {l : List α} {m : List β}, All2 R l m → All2 R' (mapL f l) m
  | [], [], _ => trivial
  | _ :: _, _ :: _, ⟨a, b⟩ => ⟨hR _ _ a, all2_mapL hR b⟩

theorem CnV.sw {h : FH} {β β' : List RV} {i k : Nat} (sb : Swapped i k β β') : ∀ {x : SV} {y : Value}, CnV h β x y → CnV h β' (x.sw i k) y
  | .c _, _, ⟨e, o⟩ => ⟨e.sw sb, o⟩
  | .agg _, _, ⟨ys, e, a⟩ => ⟨ys, e, all2_mapL (fun _ _ ⟨p, q⟩ => ⟨p.sw sb, q⟩) a⟩
  | .dat _ _, _, e => e
  | .und, _, e => e
theorem CnE.sw {h : FH} {β β' : List RV} {i k : Nat} (sb : Swapped i k β β') : ∀ {x : Ent} {y : Value}, CnE h β x y → CnE h β' (x.sw i k) y
  | .one _, _, e => CnV.sw sb e
  | .tup _, _, ⟨ys, e, a⟩ => ⟨ys, e, all2_mapL (fun _ _ p => CnV.sw sb p) a⟩
theorem Holds.sw {h : FH} {β β' : List RV} {w : World} {i k : Nat} (sb : Swapped i k β β') : ∀ {r : Res} {v : RV}, Holds h β w r v → Holds h β' w (r.sw i k) v
  | .blk _ _, .blk _, ⟨ys, e, a⟩ => ⟨ys, e, all2_mapL (fun _ _ ⟨p, q⟩ => ⟨p.sw sb, q⟩) a⟩
  | .row _ _ _, .row _, e => e
  | .obj _ _ _, .blk _, e => e
  | .gone, _, _ => trivial
theorem Res.sw_live {i k : Nat} (r : Res) : (r.sw i k).live = r.live := by cases r <;> rfl

theorem OK.sw {B : Base} {h0 : FH} {T T' : List Res} {h : FH} {β β' : List RV} {w : World} {i k : Nat} (ok : OK B h0 T h β w) (sb : Swapped i k β β') (hl : β'.length = T'.length)
    (sT : ∀ j, T'[swN i k j]? = (T[j]?).map (Res.sw i k)) : OK B h0 T' h β' w := by
  have gT : ∀ {j : Nat} {r : Res}, T'[j]? = some r → ∃ r0, T[swN i k j]? = some r0 ∧ r = r0.sw i k := by
    intro j r e
    have := sT (swN i k j)
    rw [swN_swN, e] at this
    cases hT : T[swN i k j]? with
    | none => rw [hT] at this; cases this
    | some r0 => rw [hT] at this; exact ⟨r0, rfl, by simpa using this⟩
  have gB : ∀ {j : Nat} {v : RV}, β'[j]? = some v → β[swN i k j]? = some v := by
    intro j v e
    have := sb (swN i k j)
    rw [swN_swN, e] at this
    exact this.symm
  refine ⟨ok.below, ok.dr, hl, fun j r v e1 e2 => ?_, fun j r v b e1 l1 e2 e3 => ?_, fun j j' r r' u v b e1 l1 e2 l2 e3 e4 e5 e6 => ?_, ok.hle, ok.hw, ok.hg, ok.kn⟩
  · obtain ⟨r0, f1, rfl⟩ := gT e1
    exact (ok.holds _ _ _ f1 (gB e2)).sw sb
  · obtain ⟨r0, f1, rfl⟩ := gT e1
    exact ok.own _ _ _ _ f1 (by rw [← Res.sw_live]; exact l1) (gB e2) e3
  · obtain ⟨r0, f1, rfl⟩ := gT e1
    obtain ⟨r1, f2, rfl⟩ := gT e2
    have := ok.inj _ _ _ _ _ _ _ f1 (by rw [← Res.sw_live]; exact l1) f2 (by rw [← Res.sw_live]; exact l2) (gB e3) (gB e4) e5 e6
    have h2 := congrArg (swN i k) this
    rwa [swN_swN, swN_swN] at h2

@[reducible] def swE (i k : Nat) : List (Nat × Gd × Ent) → List (Nat × Gd × Ent)
  | [] => []
  | (t, g, e) :: l => (t, g, e.sw i k) :: swE i k l
@[reducible] def swT (i k : Nat) (T : List (Gd × Res)) : List (Gd × Res) := match nthL T i with
  | some a => match nthL T k with
    | some b => mapL (fun p => (p.1, p.2.sw i k)) (setL (setL T i b) k a)
    | none => T
  | none => T
@[reducible] def swS (i k : Nat) (s : St) : St := { s with T := swT i k s.T, env := swE i k s.env }

theorem lkE_sw {i k : Nat} : ∀ {l : List (Nat × Gd × Ent)} {t : Nat}, lkE (swE i k l) t = (lkE l t).map fun p => (p.1, p.2.sw i k)
  | [], _ => rfl
  | (u, g, e) :: l, t => by
    rw [show swE i k ((u, g, e) :: l) = (u, g, e.sw i k) :: swE i k l from rfl, lkE_cons, lkE_cons]
    split
    · rfl
    · exact lkE_sw

theorem mapL_map {α β : Type} (f : α → β) : ∀ l : List α, mapL f l = l.map f
  | [] => rfl
  | _ :: l => by simp [mapL, mapL_map f l]

theorem swT_get {i k : Nat} {T : List (Gd × Res)} (hi : i < T.length) (hk : k < T.length) (j : Nat) : (swT i k T)[swN i k j]? = (T[j]?).map fun p => (p.1, p.2.sw i k) := by
  unfold swT
  rw [nthL_eq, List.getElem?_eq_getElem hi]
  simp only
  rw [nthL_eq, List.getElem?_eq_getElem hk]
  simp only
  rw [mapL_map, List.getElem?_map, setL_eq, setL_eq]
  congr 1
  rw [swN_eq]
  by_cases h1 : j = i
  · subst h1; rw [if_pos rfl, List.getElem?_set_self (by simpa using hk), List.getElem?_eq_getElem hi]
  · rw [if_neg h1]
    by_cases h2 : j = k
    · subst h2
      rw [if_pos rfl, List.getElem?_set_ne (by omega), List.getElem?_set_self hi, List.getElem?_eq_getElem hk]
    · rw [if_neg h2, List.getElem?_set_ne (by omega), List.getElem?_set_ne (by omega)]

theorem swT_len {i k : Nat} {T : List (Gd × Res)} : (swT i k T).length = T.length := by
  unfold swT
  split
  · split
    · rw [mapL_map, setL_eq, setL_eq]; simp
    · rfl
  · rfl

theorem swapped_ex {β : List RV} {i k : Nat} (hi : i < β.length) (hk : k < β.length) : ∃ β', β'.length = β.length ∧ Swapped i k β β' := by
  refine ⟨(β.set i β[k]).set k β[i], by simp, fun j => ?_⟩
  rw [swN_eq]
  by_cases h1 : j = i
  · subst h1; rw [if_pos rfl, List.getElem?_set_self (by simpa using hk), List.getElem?_eq_getElem hi]
  · rw [if_neg h1]
    by_cases h2 : j = k
    · subst h2
      rw [if_pos rfl, List.getElem?_set_ne (by omega), List.getElem?_set_self hi, List.getElem?_eq_getElem hk]
    · rw [if_neg h2, List.getElem?_set_ne (by omega), List.getElem?_set_ne (by omega)]

theorem Sat.sw {N : Nat} {B : Base} {h0 : FH} {s : St} {h : FH} {β : List RV} {w : World} {a : Act} (sat : Sat N B h0 s h β w a) {i k : Nat} (hi : i < s.T.length) (hk : k < s.T.length) :
    ∃ β', Sat N B h0 (swS i k s) h β' w a := by
  have hlen : β.length = s.T.length := by rw [sat.ok.len, eff_len]
  obtain ⟨β', hl, sb⟩ := swapped_ex (β := β) (i := i) (k := k) (by omega) (by omega)
  refine ⟨β', ?_, ?_, ?_, sat.defers, sat.sz, ?_, ?_⟩
  · refine sat.ok.sw sb (by rw [hl, eff_len, swT_len, hlen]) fun j => ?_
    rw [eff_get, eff_get, swT_get hi hk]
    cases s.T[j]? with
    | none => rfl
    | some p =>
      simp only [Option.map_some]
      cases gv s.gl p.1 <;> rfl
  · intro t G e ht
    rw [show (swS i k s).env = swE i k s.env from rfl, lkE_sw] at ht
    cases hl : lkE s.env t with
    | none => rw [hl] at ht; cases ht
    | some p =>
      rw [hl] at ht
      cases ht
      obtain ⟨z, q1, q2, q3⟩ := sat.env t p.1 p.2 hl
      exact ⟨z, q1, fun hh => (q2 hh).sw sb, q3⟩
  · intro d j hd
    obtain ⟨G, b, q1, q2⟩ := sat.gs d j hd
    exact ⟨G, b, by rw [show (swS i k s).env = swE i k s.env from rfl, lkE_sw, q1]; rfl, q2⟩
  · intro t G e ht
    rw [show (swS i k s).env = swE i k s.env from rfl, lkE_sw] at ht
    cases hl : lkE s.env t with
    | none => rw [hl] at ht; cases ht
    | some p =>
      rw [hl] at ht
      cases ht
      exact sat.gb t p.1 p.2 hl
  · intro p hp
    obtain ⟨j, hj⟩ := List.getElem?_of_mem hp
    have h1 := swT_get hi hk (swN i k j)
    rw [swN_swN] at h1
    rw [show (swS i k s).T = swT i k s.T from rfl, h1] at hj
    cases hT : s.T[swN i k j]? with
    | none => rw [hT] at hj; cases hj
    | some q =>
      rw [hT] at hj
      cases hj
      exact sat.gT q (List.mem_of_getElem? hT)

@[reducible] def swAll : List (Nat × Nat) → St → St
  | [], s => s
  | (i, k) :: l, s => match andB (Nat.ble (i + 1) (lenL s.T)) (Nat.ble (k + 1) (lenL s.T)) with
    | true => swAll l (swS i k s)
    | false => s
theorem Sat.swAll {N : Nat} {B : Base} {h0 : FH} {h : FH} {w : World} {a : Act} : ∀ (l : List (Nat × Nat)) {s : St} {β : List RV}, Sat N B h0 s h β w a → ∃ β', Sat N B h0 (swAll l s) h β' w a
  | [], s, β, sat => ⟨β, sat⟩
  | (i, k) :: l, s, β, sat => by
    unfold Go.Eng.swAll
    split
    · rename_i hc
      rw [andB_eq, Bool.and_eq_true, lenL_eq] at hc
      have h1 := Nat.le_of_ble_eq_true hc.1
      have h2 := Nat.le_of_ble_eq_true hc.2
      obtain ⟨β', sat'⟩ := sat.sw (i := i) (k := k) (by omega) (by omega)
      exact Sat.swAll l sat'
    · exact ⟨β, sat⟩
end Go.Eng
