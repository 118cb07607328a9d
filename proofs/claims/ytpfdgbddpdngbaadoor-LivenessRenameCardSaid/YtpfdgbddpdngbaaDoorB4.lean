/- Texts of this claim, part 4: EngP, EngQ, EngIp, EngGn, EngV, EngX, EngY, EngZ. Conditions: those of the given rows. -/
import Derived.Test.YtpfdgbddpdngbaaDoorB3
import Derived.Sort.OwnSortedInts
import Derived.Lib.SlicesCompact
import Derived.ReadAgain
import Derived.OpenShut
import Derived.ChangeSame
import Derived.Deep.DeepHandedRow
set_option linter.unusedSimpArgs false
set_option linter.unusedVariables false
namespace Go.Eng
open Go Go.RowKit
theorem lkE_cat : ∀ {l m : List (Nat × Gd × Ent)} {t : Nat}, lkE (catL l m) t = match lkE l t with | some x => some x | none => lkE m t
  | [], m, t => rfl
  | (k, x) :: l, m, t => by
    rw [show catL ((k, x) :: l) m = (k, x) :: catL l m from rfl, lkE_cons, lkE_cons]
    split
    · rfl
    · exact lkE_cat
theorem slotE_get : ∀ {l : List (Nat × SV)} {t : Nat} {G : Gd} {e : Ent}, lkE (slotE l) t = some (G, e) → ∃ v, e = .one v ∧ G = [] ∧ (t, v) ∈ l
  | [], _, _, _, h => by simp [slotE, lkE] at h
  | (k, v) :: l, t, G, e, h => by
    simp only [slotE] at h
    rw [lkE_cons] at h
    split at h
    · rename_i hk; subst hk; cases h; exact ⟨v, rfl, rfl, by simp⟩
    · obtain ⟨u, h1, h2, h3⟩ := slotE_get h; exact ⟨u, h1, h2, by simp [h3]⟩
theorem keepE_get {ws : List Nat} : ∀ {l : List (Nat × Gd × Ent)} {seen : List Nat} {t : Nat} {G : Gd} {e : Ent}, lkE (keepE ws seen l) t = some (G, e) →
    memN t seen = false ∧ memN t ws = false ∧ lkE l t = some (G, e) ∧ G = [] ∧ entRefFree e = true
  | [], _, _, _, _, h => by simp [keepE, lkE] at h
  | (k, g, e0) :: l, seen, t, G, e, h => by
    have skip : lkE (keepE ws (k :: seen) l) t = some (G, e) → memN t seen = false ∧ memN t ws = false ∧ lkE ((k, g, e0) :: l) t = some (G, e) ∧ G = [] ∧ entRefFree e = true := by
      intro h
      obtain ⟨h1, h2, h3, h4⟩ := keepE_get h
      rw [memN_cons, Bool.or_eq_false_iff] at h1
      refine ⟨h1.2, h2, ?_, h4⟩
      rw [lkE_cons, if_neg]
      · exact h3
      · rintro rfl; exact Nat.ne_of_beq_eq_false h1.1 rfl
    unfold keepE at h
    split at h
    · rename_i hm
      obtain ⟨h1, h2, h3, h4⟩ := keepE_get h
      refine ⟨h1, h2, ?_, h4⟩
      rw [lkE_cons, if_neg]
      · exact h3
      · rintro rfl; rw [hm] at h1; cases h1
    · rename_i hm
      split at h
      · exact skip h
      · rename_i hw
        split at h
        · rename_i hc
          rw [andB_eq, Bool.and_eq_true] at hc
          rw [lkE_cons] at h
          split at h
          · rename_i hk
            subst hk
            cases h
            refine ⟨hm, hw, by rw [lkE_cons, if_pos rfl], ?_, hc.2⟩
            cases g with
            | nil => rfl
            | cons _ _ => have := hc.1; cases this
          · exact skip h
        · exact skip h
theorem hasE_mem {s : St} : ∀ {l : List (Nat × SV)}, hasE s l → ∀ p ∈ l, ∃ u, lkE s.env p.1 = some ([], .one u) ∧ asSl u = p.2
  | [], _, p, hp => by simp at hp
  | (k, v) :: l, ⟨h1, h2⟩, p, hp => by
    rcases List.mem_cons.1 hp with rfl | hp
    · split at h1
      · rename_i u hu; exact ⟨u, hu, h1⟩
      · exact h1.elim
    · exact hasE_mem h2 p hp
theorem asSl_ok {h : FH} {β β' : List RV} {u v : SV} {z : Value} (e : asSl u = v) (hv : CnV h β' v z ∨ CnV h β u z) (hb : u = v → CnV h β u z → CnV h β' v z) : CnV h β' v z := by
  rcases hv with hv | hu
  · exact hv
  · unfold asSl at e
    split at e
    · split at e
      · subst e; exact ⟨hu.1.1, hu.2⟩
      · exact hb e hu
    · exact hb e hu
theorem hasR_mem {s : St} : ∀ {l : List (Nat × SV)}, hasR s l = true → ∀ p ∈ l, lkE s.env p.1 = some ([], .one p.2)
  | [], _, p, hp => by simp at hp
  | (k, .c (.own i off)) :: l, h, p, hp => by
    simp only [hasR] at h
    split at h
    · rename_i i' off' hu
      rw [andB_eq, andB_eq, Bool.and_eq_true, Bool.and_eq_true] at h
      rcases List.mem_cons.1 hp with rfl | hp
      · have e1 := Nat.eq_of_beq_eq_true h.1.1
        have e2 := Nat.eq_of_beq_eq_true h.1.2
        rw [hu, e1, e2]
      · exact hasR_mem h.2 p hp
    · cases h
  | (k, .c (.row i)) :: l, h, p, hp => by
    simp only [hasR] at h
    split at h
    · rename_i i' hu
      rw [andB_eq, Bool.and_eq_true] at h
      rcases List.mem_cons.1 hp with rfl | hp
      · have e1 := Nat.eq_of_beq_eq_true h.1
        rw [hu, e1]
      · exact hasR_mem h.2 p hp
    · cases h
  | (k, .c (.v _)) :: l, h, p, hp => by cases h
  | (k, .c (.sl _ _)) :: l, h, p, hp => by cases h
  | (k, .c (.fp _ _)) :: l, h, p, hp => by cases h
  | (k, .c (.rowp _ _ _ _)) :: l, h, p, hp => by cases h
  | (k, .c (.abs _)) :: l, h, p, hp => by cases h
  | (k, .c .junk) :: l, h, p, hp => by cases h
  | (k, .agg _) :: l, h, p, hp => by cases h
  | (k, .dat _ _) :: l, h, p, hp => by cases h
  | (k, .und) :: l, h, p, hp => by cases h
theorem keepR_below {n : Nat} {ws : List Nat} : ∀ {l : List (Nat × Gd × Ent)} {seen : List Nat}, ∀ p ∈ keepR n ws seen l, svBelow n p.2 = true
  | [], _, p, hp => by simp [keepR] at hp
  | (k, g, e) :: l, seen, p, hp => by
    unfold keepR at hp
    repeat' (split at hp)
    all_goals first
      | exact keepR_below p hp
      | (rcases List.mem_cons.1 hp with rfl | hp
         · assumption
         · exact keepR_below p hp)
theorem keepR_mem {n : Nat} {ws : List Nat} : ∀ {l : List (Nat × Gd × Ent)} {seen : List Nat}, ∀ p ∈ keepR n ws seen l, memN p.1 seen = false ∧ lkE l p.1 = some ([], .one p.2)
  | [], _, p, hp => by simp [keepR] at hp
  | (k, g, e) :: l, seen, p, hp => by
    have skip1 : memN k seen = true → p ∈ keepR n ws seen l → memN p.1 seen = false ∧ lkE ((k, g, e) :: l) p.1 = some ([], .one p.2) := by
      intro hm hp
      obtain ⟨h1, h2⟩ := keepR_mem p hp
      refine ⟨h1, ?_⟩
      rw [lkE_cons, if_neg]
      · exact h2
      · rintro rfl; rw [hm] at h1; cases h1
    have skip2 : p ∈ keepR n ws (k :: seen) l → memN p.1 seen = false ∧ lkE ((k, g, e) :: l) p.1 = some ([], .one p.2) := by
      intro hp
      obtain ⟨h1, h2⟩ := keepR_mem p hp
      rw [memN_cons, Bool.or_eq_false_iff] at h1
      refine ⟨h1.2, ?_⟩
      rw [lkE_cons, if_neg]
      · exact h2
      · rintro rfl; exact Nat.ne_of_beq_eq_false h1.1 rfl
    unfold keepR at hp
    split at hp
    · rename_i hm; exact skip1 hm hp
    · rename_i hm
      split at hp
      · exact skip2 hp
      · split at hp
        · rename_i hn
          have hg : g = [] := by cases g with | nil => rfl | cons _ _ => simp [isNil] at hn
          subst hg
          split at hp
          · split at hp
            · rcases List.mem_cons.1 hp with rfl | hp
              · exact ⟨hm, by rw [lkE_cons, if_pos rfl]⟩
              · exact skip2 hp
            · exact skip2 hp
          · split at hp
            · rcases List.mem_cons.1 hp with rfl | hp
              · exact ⟨hm, by rw [lkE_cons, if_pos rfl]⟩
              · exact skip2 hp
            · exact skip2 hp
          · exact skip2 hp
        · exact skip2 hp
theorem take_get {α : Type} {l : List α} {n i : Nat} (h : i < n) : (l.take n)[i]? = l[i]? := by
  rw [List.getElem?_take, if_pos h]
theorem CnC.below {h : FH} {β : List RV} {n : Nat} : ∀ {x : SC} {y : Value}, scBelow n x = true → CnC h β x y → CnC h (β.take n) x y
  | .v _, _, _, c => c
  | .sl _ _, _, _, c => c
  | .fp _ _, _, _, c => c
  | .one _ _, _, _, c => c
  | .own i _, _, f, ⟨b, e, e'⟩ => ⟨b, by rw [take_get (by have := Nat.le_of_ble_eq_true f; omega)]; exact e, e'⟩
  | .row i, _, f, ⟨v, e, e'⟩ => ⟨v, by rw [take_get (by have := Nat.le_of_ble_eq_true f; omega)]; exact e, e'⟩
  | .sub i _, _, f, ⟨v, us, e, e'⟩ => ⟨v, us, by rw [take_get (by have := Nat.le_of_ble_eq_true f; omega)]; exact e, e'⟩
  | .subp i _ _ _ _, _, f, ⟨v, us, g, e, e'⟩ => ⟨v, us, g, by rw [take_get (by have := Nat.le_of_ble_eq_true f; omega)]; exact e, e'⟩
  | .rowp i _ _ _, _, f, ⟨v, g, e, e'⟩ => ⟨v, g, by rw [take_get (by have := Nat.le_of_ble_eq_true f; omega)]; exact e, e'⟩
  | .abs _, _, _, c => c
  | .junk, _, _, _ => trivial
theorem CnV.below {h : FH} {β : List RV} {n : Nat} : ∀ {x : SV} {y : Value}, svBelow n x = true → CnV h β x y → CnV h (β.take n) x y
  | .c _, _, f, c => ⟨c.1.below f, c.2⟩
  | .agg _, _, f, ⟨ys, e, a⟩ => ⟨ys, e, a.allL (fun _ _ f ⟨p, q⟩ => ⟨p.below f, q⟩) f⟩
  | .dat _ _, _, _, c => c
  | .und, _, _, c => c
theorem Holds.below {h : FH} {β : List RV} {w : World} {n : Nat} : ∀ {r : Res} {v : RV}, resBelow n r = true → Holds h β w r v → Holds h (β.take n) w r v
  | .blk _ _, .blk _, f, ⟨ys, e, a⟩ => ⟨ys, e, a.allL (fun _ _ f ⟨p, q⟩ => ⟨p.below f, q⟩) f⟩
  | .row _ _ _, .row _, _, c => c
  | .obj _ _ _, .blk _, _, c => c
  | .deep _ _ _ _ _ _ _ _, .deep _ _, _, c => c
  | .mp _ _ _, .row _, _, c => c
  | .mpo _ _ _ _, .deep _ _, _, c => c
  | .it _ _ _ _, .blk _, _, c => c
  | .gone, _, _, _ => trivial
theorem CnC.refFree {h : FH} {β : List RV} : ∀ {x : SC} {y : Value}, scRefFree x = true → CnC h β x y → ∀ β', CnC h β' x y
  | .v _, _, _, c => fun _ => c
  | .sl _ _, _, _, c => fun _ => c
  | .fp _ _, _, _, c => fun _ => c
  | .abs _, _, _, c => fun _ => c
  | .junk, _, _, _ => fun _ => trivial
  | .one _ _, _, _, c => fun _ => c
  | .own _ _, _, f, _ => by simp [scRefFree] at f
  | .row _, _, f, _ => by simp [scRefFree] at f
  | .rowp _ _ _ _, _, f, _ => by simp [scRefFree] at f
  | .sub _ _, _, f, _ => by simp [scRefFree] at f
  | .subp _ _ _ _ _, _, f, _ => by simp [scRefFree] at f
theorem CnV.refFree {h : FH} {β : List RV} (β' : List RV) : ∀ {x : SV} {y : Value}, svRefFree x = true → CnV h β x y → CnV h β' x y
  | .c _, _, f, c => ⟨c.1.refFree f β', c.2⟩
  | .agg _, _, f, ⟨ys, e, a⟩ => ⟨ys, e, a.allL (fun _ _ f ⟨p, q⟩ => ⟨p.refFree f β', q⟩) f⟩
  | .dat _ _, _, _, c => c
  | .und, _, _, c => c
theorem CnE.refFree {h : FH} {β : List RV} (β' : List RV) : ∀ {x : Ent} {y : Value}, entRefFree x = true → CnE h β x y → CnE h β' x y
  | .one _, _, f, c => CnV.refFree β' f c
  | .tup _, _, f, ⟨ys, e, a⟩ => ⟨ys, e, a.allL (R' := CnV h β') (fun _ _ f c => CnV.refFree β' f c) f⟩
theorem OK.take {B : Base} {h0 : FH} {T : List Res} {h : FH} {β : List RV} {w : World} (ok : OK B h0 T h β w) {n : Nat} (hn : n ≤ T.length) (below : ∀ r ∈ T.take n, resBelow n r = true) : OK B h0 (T.take n) h (β.take n) w where
  below := ok.below
  dr := ok.dr
  len := by simp [ok.len]
  holds := by
    intro i r v e e'
    have hi : i < n := by have := (List.getElem?_eq_some_iff.1 e).1; simp at this; omega
    have hm := below r (List.mem_of_getElem? e)
    rw [take_get hi] at e e'
    exact (ok.holds i r v e e').below hm
  own := by
    intro i r v b e l e' hb
    have hi : i < n := by have := (List.getElem?_eq_some_iff.1 e).1; simp at this; omega
    rw [take_get hi] at e e'
    exact ok.own i r v b e l e' hb
  inj := by
    intro i j r r' u v b e l e' l' f f' hb hb'
    have hi : i < n := by have := (List.getElem?_eq_some_iff.1 e).1; simp at this; omega
    have hj : j < n := by have := (List.getElem?_eq_some_iff.1 e').1; simp at this; omega
    rw [take_get hi] at e f
    rw [take_get hj] at e' f'
    exact ok.inj i j r r' u v b e l e' l' f f' hb hb'
  hle := ok.hle
  hw := ok.hw
  hg := ok.hg
  kn := ok.kn
theorem allL_mem {α : Type} {p : α → Bool} : ∀ {l : List α}, allL p l = true → ∀ x ∈ l, p x = true
  | [], _, x, hx => by simp at hx
  | y :: l, h, x, hx => by
    simp only [allL, andB_eq, Bool.and_eq_true] at h
    rcases List.mem_cons.1 hx with rfl | hx
    · exact h.1
    · exact allL_mem h.2 x hx
theorem eff_nil_take {gl : List Bool} : ∀ {T : List (Gd × Res)} {n : Nat}, (∀ p ∈ T.take n, p.1 = []) → eff [] (T.take n) = (eff gl T).take n
  | [], n, _ => by simp [eff]
  | (g, r) :: l, 0, _ => by simp [eff]
  | (g, r) :: l, n + 1, h => by
    have hg : g = [] := h (g, r) (by simp)
    subst hg
    simp only [List.take_succ_cons, eff]
    rw [eff_nil_take (gl := gl) (T := l) fun p hp => h p (by simp [hp])]
theorem updT_len : ∀ (rs : List (Nat × Res)) (T : List (Gd × Res)), (updT rs T).length = T.length
  | [], _ => rfl
  | (i, r) :: l, T => by simp only [updT]; rw [updT_len, setL_eq, List.length_set]
theorem head_ok {N : Nat} {B : Base} {h0 : FH} {s s' : St} {h : FH} {β : List RV} {w : World} {a : Act} (sat : Sat N B h0 s' h β w a) {ws : List Nat} {sl : List (Nat × SV)} {rs : List (Nat × Res)}
    (hT : takeL (lenL s.T) s'.T = updT rs s.T) (gT : goodT (lenL s.T) (updT rs s.T) = true) (gS : goodS (lenL s.T) ws sl = true) (hE : hasE s' sl)
    (hR : ∀ p ∈ keepR (lenL s.T) ws [] s.env, lkE s'.env p.1 = some ([], .one p.2))
    (D : ∀ t e, lkE (keepE ws [] s.env) t = some ([], e) → ∃ z, a.tmps[t]? = some z ∧ CnE h [] e z) :
    Sat N B h0 (headSt ws s sl rs) h (β.take (lenL s.T)) w a := by
  have e1 := hT
  rw [takeL_eq] at e1
  have g1 : ∀ p ∈ updT rs s.T, p.1 = [] ∧ resBelow (lenL s.T) p.2 = true := by
    intro p hp
    have := allL_mem gT p hp
    rw [andB_eq, Bool.and_eq_true] at this
    refine ⟨?_, this.2⟩
    have h2 := this.1
    cases hh : p.1 with
    | nil => rfl
    | cons _ _ => rw [hh] at h2; simp [isNil] at h2
  have hlen : lenL s.T ≤ s'.T.length := by
    have := congrArg List.length e1
    rw [updT_len, List.length_take, lenL_eq] at this
    rw [lenL_eq]; omega
  have look : ∀ {v : SV} {t : Nat}, svBelow (lenL s.T) v = true → lkE s'.env t = some ([], .one v) → ∃ z, a.tmps[t]? = some z ∧ CnV h (β.take (lenL s.T)) v z := by
    intro v t hb hl
    obtain ⟨z, q1, q2, _⟩ := sat.env t [] _ hl
    exact ⟨z, q1, CnV.below hb (q2 rfl)⟩
  have look2 : ∀ {v : SV} {t : Nat}, svBelow (lenL s.T) v = true → (∃ u, lkE s'.env t = some ([], .one u) ∧ asSl u = v) → ∃ z, a.tmps[t]? = some z ∧ CnV h (β.take (lenL s.T)) v z := by
    rintro v t hb ⟨u, hl, hu⟩
    obtain ⟨z, q1, q2, _⟩ := sat.env t [] _ hl
    exact ⟨z, q1, asSl_ok hu (.inr (q2 rfl)) fun e c => CnV.below hb (e ▸ c)⟩
  refine ⟨?_, ?_, ?_, sat.defers, sat.sz, ?_, ?_⟩
  · show OK B h0 (eff [] (updT rs s.T)) h (β.take (lenL s.T)) w
    rw [← e1, eff_nil_take (gl := s'.gl) fun p hp => by rw [e1] at hp; exact (g1 p hp).1]
    refine sat.ok.take (by rw [eff_len]; exact hlen) ?_
    rw [← eff_nil_take (gl := s'.gl) fun p hp => by rw [e1] at hp; exact (g1 p hp).1]
    rw [e1]
    have : ∀ {l : List (Gd × Res)}, (∀ p ∈ l, p.1 = [] ∧ resBelow (lenL s.T) p.2 = true) → ∀ r ∈ eff [] l, resBelow (lenL s.T) r = true := by
      intro l
      induction l with
      | nil => intro _ r hr; simp [eff] at hr
      | cons q l ih =>
        obtain ⟨g, r0⟩ := q
        intro hh r hr
        have hg := hh (g, r0) (by simp)
        have hg1 : g = [] := hg.1
        subst hg1
        simp only [eff] at hr
        rcases List.mem_cons.1 hr with rfl | hr
        · exact hg.2
        · exact ih (fun p hp => hh p (by simp [hp])) r hr
    exact this g1
  · intro t G e ht
    simp only [headSt] at ht ⊢
    rw [lkE_cat] at ht
    split at ht
    · rename_i x hx
      cases ht
      obtain ⟨v, rfl, rfl, hm⟩ := slotE_get hx
      have hb := allL_mem gS _ hm
      rw [andB_eq, Bool.and_eq_true] at hb
      obtain ⟨z, q1, q2⟩ := look2 hb.1 (hasE_mem hE _ hm)
      exact ⟨z, q1, fun _ => q2, fun hh => by cases hh⟩
    · rw [lkE_cat] at ht
      split at ht
      · rename_i x hx
        cases ht
        obtain ⟨v, rfl, rfl, hm⟩ := slotE_get hx
        obtain ⟨z, q1, q2⟩ := look (keepR_below _ hm) (hR _ hm)
        exact ⟨z, q1, fun _ => q2, fun hh => by cases hh⟩
      · obtain ⟨_, _, _, rfl, hf⟩ := keepE_get ht
        obtain ⟨z, q1, q2⟩ := D t e ht
        exact ⟨z, q1, fun _ => CnE.refFree _ hf q2, fun hh => by cases hh⟩
  · intro d i hi; cases hi
  · intro t G e ht
    simp only [headSt] at ht
    rw [lkE_cat] at ht
    split at ht
    · rename_i x hx
      cases ht
      obtain ⟨_, _, rfl, _⟩ := slotE_get hx; rfl
    · rw [lkE_cat] at ht
      split at ht
      · rename_i x hx
        cases ht
        obtain ⟨_, _, rfl, _⟩ := slotE_get hx; rfl
      · obtain ⟨_, _, _, rfl, _⟩ := keepE_get ht; rfl
  · intro p hp
    rw [(g1 p hp).1]
/-! The base may come to know more objects that stay. -/
def Base.leB (B B' : Base) : Prop := B'.toWorld = B.toWorld ∧ B'.al = B.al ∧ ∀ k o, B.nc k o → B'.nc k o
theorem Base.leB.refl (B : Base) : B.leB B := ⟨rfl, rfl, fun _ _ h => h⟩
theorem Base.leB.trans {A B C : Base} (x : A.leB B) (y : B.leB C) : A.leB C := ⟨y.1.trans x.1, y.2.1.trans x.2.1, fun k o h => y.2.2 k o (x.2.2 k o h)⟩
def Base.leR (r : Bool) (B B' : Base) : Prop := B.leB B' ∧ (r = true → B' = B)
theorem Base.leR.refl {r : Bool} (B : Base) : Base.leR r B B := ⟨.refl B, fun _ => rfl⟩
theorem Base.leR.trans {r : Bool} {A B C : Base} (x : Base.leR r A B) (y : Base.leR r B C) : Base.leR r A C := ⟨x.1.trans y.1, fun h => (y.2 h).trans (x.2 h)⟩
theorem OK.rebase {B B' : Base} {h0 : FH} {T : List Res} {h : FH} {β : List RV} {w : World} (ok : OK B h0 T h β w) (e : B'.toWorld = B.toWorld) (ea : B'.al = B.al) (kn : ∀ k o, B'.nc k o → w.heap[k]? = some o) : OK B' h0 T h β w where
  below := ⟨by rw [e]; exact ok.below.os, by rw [e]; exact ok.below.tape, by rw [e]; exact ok.below.output, by rw [e]; exact ok.below.size, by rw [e, ea]; exact ok.below.block⟩
  dr := by rw [e]; exact ok.dr
  len := ok.len
  holds := ok.holds
  own := by rw [ea]; exact ok.own
  inj := ok.inj
  hle := ok.hle
  hw := ok.hw
  hg := by rw [ea]; exact ok.hg
  kn := kn
def ownB (T : List Res) (β : List RV) (b : Nat) : Prop := ∃ (i : Nat) (r : Res) (v : RV), T[i]? = some r ∧ r.live = true ∧ β[i]? = some v ∧ v.has b
@[reducible] def Base.rd (B : Base) (T : List Res) (β : List RV) (A : World) : Base :=
  { A with nc := B.nc, cell := B.cell, al := fun k => ownB T β k ∨ A.heap.size ≤ k, up := fun _ h => .inr h }
theorem OK.enter {B : Base} {h0 : FH} {T : List Res} {h : FH} {β : List RV} {A : World} (ok : OK B h0 T h β A) : OK (B.rd T β A) h T h β A where
  below := ⟨rfl, rfl, rfl, Nat.le_refl _, fun _ _ _ => rfl⟩
  dr := Nat.le_refl _
  len := ok.len
  holds := ok.holds
  own := fun i r v b e hl e' hb => ⟨.inl ⟨i, r, v, e, hl, e', hb⟩, (ok.own i r v b e hl e' hb).2⟩
  inj := ok.inj
  hle := FH.le.refl h
  hw := ok.hw
  hg := fun b o v hh => .inl hh
  kn := ok.kn
theorem OK.leave {B : Base} {h0 : FH} {T : List Res} {h : FH} {β : List RV} {A : World} (ok : OK B h0 T h β A) {T' : List Res} {h' : FH} {β' : List RV} {A' : World} {Br : Base} (e : Br.toWorld = A) (ea : Br.al = (B.rd T β A).al) (en : ∀ k o, B.nc k o → Br.nc k o) (ok' : OK Br h T' h' β' A') : OK B h0 T' h' β' A' := by
  have toB : ∀ k, Br.al k → B.al k := by
    intro k hk
    rw [ea] at hk
    rcases hk with ⟨i, r, v, h1, h2, h3, h4⟩ | hk
    · exact (ok.own i r v k h1 h2 h3 h4).1
    · exact B.up k (Nat.le_trans ok.below.size hk)
  subst e
  have cell : ∀ k, ownB T β k → ∃ o, Br.heap[k]? = some o ∧ ours o = true := by
    rintro k ⟨i, r, v, h1, h2, h3, h4⟩
    exact (ok.holds i r v h1 h3).cells h2 h4
  refine ⟨⟨ok'.below.os.trans ok.below.os, ok'.below.tape.trans ok.below.tape, ok'.below.output.trans ok.below.output, Nat.le_trans ok.below.size ok'.below.size, fun k hk ha => ?_⟩, Nat.le_trans ok.dr ok'.dr, ok'.len, ok'.holds,
    fun i r v b e1 l1 e2 hb => ⟨toB b (ok'.own i r v b e1 l1 e2 hb).1, (ok'.own i r v b e1 l1 e2 hb).2⟩, ok'.inj, ok.hle.trans ok'.hle, ok'.hw, fun b o v hh => ?_, fun k o hk => ok'.kn k o (en k o hk)⟩
  · exact (ok'.below.block k (Nat.lt_of_lt_of_le hk ok.below.size) (fun hh => ha (toB k hh))).trans (ok.below.block k hk ha)
  · rcases ok'.hg b o v hh with h1 | h1
    · exact ok.hg b o v h1
    · exact .inr (toB b h1)
theorem OK.gs {B : Base} {h0 : FH} {T : List Res} {h : FH} {β : List RV} {A A' : World} (ok : OK B h0 T h β A) {G : Nat → Prop} (gs : Gs G A A') (hB : ∀ k, G k → B.heap.size ≤ k) (hO : ∀ k, ownB T β k → ¬ G k) (hF : ∀ k o v, h k o = some v → ¬ G k) (hN : ∀ k o, B.nc k o → ¬ G k) : OK B h0 T h β A' := by
  have cl : ∀ b o v, h b o = some v → vis A' b o = some v := by
    intro b o v hh
    have h1 := ok.hw b o v hh
    exact (vis_of_block (gs.block b (vis_lt h1) (hF b o v hh))).trans h1
  exact {
    below := ⟨gs.os.trans ok.below.os, gs.tape.trans ok.below.tape, gs.output.trans ok.below.output, Nat.le_trans ok.below.size gs.size, fun k hk ha => (gs.block k (Nat.lt_of_lt_of_le hk ok.below.size) (fun hg => by have := hB k hg; omega)).trans (ok.below.block k hk ha)⟩
    dr := Nat.le_trans ok.dr gs.dr
    len := ok.len
    holds := fun i r v e e' => (ok.holds i r v e e').move (FH.le.refl h) (Ext.refl _) fun hl b hb => gs.block b (ok.own i r v b e hl e' hb).2.1 (hO b ⟨i, r, v, e, hl, e', hb⟩)
    own := fun i r v b e hl e' hb => by
      obtain ⟨h1, h2, h3⟩ := ok.own i r v b e hl e' hb
      exact ⟨h1, Nat.lt_of_lt_of_le h2 gs.size, h3⟩
    inj := ok.inj
    hle := ok.hle
    hw := cl
    hg := ok.hg
    kn := fun k o hk => by
      have h1 := ok.kn k o hk
      exact (gs.block k (Array.getElem?_eq_some_iff.1 h1).1 (hN k o hk)).trans h1 }
theorem OK.turn {B : Base} {h0 : FH} {T : List Res} {h : FH} {β : List RV} {w : World} (ok : OK B h0 T h β w) {l : Nat} {o o' : Obj} (hB : B.al l) (hn : ∀ k u, B.nc k u → k ≠ l) (hl : w.heap[l]? = some o) (ho : ours o = false) : OK B h0 T h β (w.putObj l o') := by
  have cl : ∀ {b i : Nat} {v : Value}, vis w b i = some v → vis (w.putObj l o') b i = some v := by
    intro b i v hv
    have hne : b ≠ l := by
      intro e
      unfold vis at hv
      rw [e, hl] at hv
      cases o <;> simp_all [ours]
    exact (vis_of_block (World.putObj_heap_other hne)).trans hv
  exact {
    below := ok.below.grown (row := some l) ⟨rfl, rfl, rfl, by simp, fun k _ hk => World.putObj_heap_other (fun e => hk (by rw [e]))⟩ (fun k e => by cases e; exact hB)
    dr := ok.dr
    len := ok.len
    holds := fun i r v e e' => (ok.holds i r v e e').move (FH.le.refl h) (Ext.refl _) fun hlv b hb => World.putObj_heap_other (by
      rintro rfl
      obtain ⟨o1, h1, h2⟩ := (ok.holds i r v e e').cells hlv hb
      rw [hl] at h1; cases h1; rw [ho] at h2; cases h2)
    own := fun i r v b e hlv e' hb => by
      obtain ⟨h1, h2, h3⟩ := ok.own i r v b e hlv e' hb
      exact ⟨h1, by simpa using h2, h3⟩
    inj := ok.inj
    hle := ok.hle
    hw := fun b o v hh => cl (ok.hw b o v hh)
    hg := ok.hg
    kn := fun k u hk => (World.putObj_heap_other (hn k u hk)).trans (ok.kn k u hk) }
theorem keepR_ws {n : Nat} {ws : List Nat} : ∀ {l : List (Nat × Gd × Ent)} {seen : List Nat}, ∀ p ∈ keepR n ws seen l, memN p.1 ws = false
  | [], _, p, hp => by simp [keepR] at hp
  | (k, g, e) :: l, seen, p, hp => by
    unfold keepR at hp
    repeat' (split at hp)
    all_goals first
      | exact keepR_ws p hp
      | (rcases List.mem_cons.1 hp with rfl | hp
         · assumption
         · exact keepR_ws p hp)
theorem good_all {n : Nat} {T : List (Gd × Res)} (h : goodT n T = true) : ∀ p ∈ T, p.1 = [] ∧ resBelow n p.2 = true := by
  intro p hp
  have := allL_mem h p hp
  rw [andB_eq, Bool.and_eq_true] at this
  refine ⟨?_, this.2⟩
  have h2 := this.1
  cases hh : p.1 with
  | nil => rfl
  | cons _ _ => rw [hh] at h2; simp [isNil] at h2
theorem eff_nil {gl : List Bool} : ∀ {T : List (Gd × Res)}, (∀ p ∈ T, p.1 = []) → eff [] T = eff gl T
  | [], _ => rfl
  | (g, r) :: l, h => by
    have hg : g = [] := h (g, r) (by simp)
    subst hg
    simp only [eff]
    rw [eff_nil (gl := gl) (T := l) fun p hp => h p (by simp [hp])]
theorem rd_env {N : Nat} {B : Base} {h0 : FH} {s : St} {h : FH} {β : List RV} {w : World} {a : Act} (sat : Sat N B h0 s h β w a) {ws dr : List Nat} {h' : FH} {β' : List RV} (le : h.le h')
    (refs : ∀ p ∈ keepR (lenL s.T) ws [] s.env, ∃ z, a.tmps[p.1]? = some z ∧ CnV h' β' p.2 z) : ∀ t G e, lkE (rdE ws dr s) t = some (G, e) → G = [] ∧ (memN t ws = false ∨ memN t dr = false) ∧ ∃ z, a.tmps[t]? = some z ∧ CnE h' β' e z := by
  intro t G e ht
  simp only [rdE] at ht
  rw [lkE_cat] at ht
  split at ht
  · rename_i x hx
    cases ht
    obtain ⟨v, rfl, rfl, hm⟩ := slotE_get hx
    obtain ⟨z, q1, q2⟩ := refs _ hm
    exact ⟨rfl, .inl (keepR_ws _ hm), z, q1, q2⟩
  · obtain ⟨_, hd, hl, rfl, hf⟩ := keepE_get ht
    obtain ⟨z, q1, q2, _⟩ := sat.env t [] e hl
    exact ⟨rfl, .inr hd, z, q1, (CnE.refFree β' hf (q2 rfl)).mono le (Ext.refl _)⟩
theorem rd_sat {N : Nat} {B B' : Base} {h0 : FH} {s : St} {h : FH} {β : List RV} {w : World} {a : Act} (sat : Sat N B h0 s h β w a) {ws dr : List Nat} {h' : FH} {β' : List RV} {A : World} {a' : Act} (le : h.le h')
    (refs : ∀ p ∈ keepR (lenL s.T) ws [] s.env, ∃ z, a.tmps[p.1]? = some z ∧ CnV h' β' p.2 z) {T : List (Gd × Res)} {gl : List Bool} (ok : OK B' h0 (eff gl T) h' β' A) (gT : ∀ p ∈ T, gbd gl.length p.1 = true) (ht : a'.tmps = a.tmps) (df : Dfr B' a') :
    Sat N B' h0 { env := rdE ws dr s, T := T, gl := gl, gs := [] } h' β' A a' where
  ok := ok
  env := fun t G e h1 => by
    obtain ⟨rfl, _, z, q1, q2⟩ := rd_env sat le refs t G e h1
    exact ⟨z, by rw [ht]; exact q1, fun _ => q2, fun hh => by cases hh⟩
  gs := fun d i hi => by cases hi
  defers := df
  sz := by rw [ht]; exact sat.sz
  gb := fun t G e h1 => by
    obtain ⟨rfl, _⟩ := rd_env sat le refs t G e h1; rfl
  gT := gT
theorem fold_size : ∀ (l : List (Nat × Value)) (t : Array Value), (l.foldl (fun t (p : Nat × Value) => t.setIfInBounds p.1 p.2) t).size = t.size
  | [], _ => rfl
  | _ :: l, t => by simp only [List.foldl_cons]; rw [fold_size l]; simp
theorem fold_other {k : Nat} : ∀ (l : List (Nat × Value)) (t : Array Value), (∀ p ∈ l, p.1 ≠ k) → (l.foldl (fun t (p : Nat × Value) => t.setIfInBounds p.1 p.2) t)[k]? = t[k]?
  | [], _, _ => rfl
  | (p, v) :: l, t, h => by
    simp only [List.foldl_cons]
    rw [fold_other l _ fun q hq => h q (by simp [hq])]
    exact Array.getElem?_setIfInBounds_ne (h (p, v) (by simp))
theorem zip_fold (ps : Array Tmp) (vs : List Value) (t : Array Value) : (ps.zip vs.toArray).foldl (fun t (p, v) => t.setIfInBounds p v) t = ((tl ps).zip vs).foldl (fun t (p : Nat × Value) => t.setIfInBounds p.1 p.2) t := by
  cases ps with
  | mk l => simp
theorem par_ok {h : FH} {n : Nat} : ∀ {ps : List Nat} {ss : List Sh} {d : dens ss} {vs : List Value} {t : Array Value}, t.size = n → parOK n ps ss = true → DVs h ss d vs →
    (∀ k G e, lkE (parE ps ss d) k = some (G, e) → G = [] ∧ ∃ z, ((ps.zip vs).foldl (fun t (p : Nat × Value) => t.setIfInBounds p.1 p.2) t)[k]? = some z ∧ ∀ β, CnE h β e z) ∧
    (∀ k, lkE (parE ps ss d) k = none → memN k ps = false)
  | [], [], d, vs, t, _, _, _ => ⟨fun k G e hh => by simp [parE, lkE] at hh, fun k _ => rfl⟩
  | [], _ :: _, d, vs, t, _, hp, _ => by simp [parOK] at hp
  | _ :: _, [], d, vs, t, _, hp, _ => by simp [parOK] at hp
  | p :: ps, s :: ss, d, vs, t, hn, hp, hv => by
    cases vs with
    | nil => exact hv.elim
    | cons v vs =>
      simp only [parOK, andB_eq, Bool.and_eq_true] at hp
      obtain ⟨⟨hp1, hp2⟩, hp3⟩ := hp
      have hp2 : memN p ps = false := by simpa using hp2
      have hp1 := Nat.le_of_ble_eq_true hp1
      obtain ⟨i1, i2⟩ := par_ok (t := t.setIfInBounds p v) (by simp [hn]) hp3 hv.2
      have hnot : ∀ q ∈ ps.zip vs, q.1 ≠ p := by
        intro q hq e
        have hm : q.1 ∈ ps := (List.of_mem_zip hq).1
        rw [e] at hm
        have : ∀ {l : List Nat}, p ∈ l → memN p l = true := by
          intro l
          induction l with
          | nil => intro h; cases h
          | cons x l ih =>
            intro h
            rw [memN_cons]
            rcases List.mem_cons.1 h with rfl | h
            · simp
            · rw [ih h]; simp
        rw [this hm] at hp2; cases hp2
      refine ⟨fun k G e hh => ?_, fun k hh => ?_⟩
      · simp only [parE] at hh
        rw [lkE_cons] at hh
        split at hh
        · rename_i hk
          subst hk
          cases hh
          refine ⟨rfl, v, ?_, fun β => ?_⟩
          · simp only [List.zip_cons_cons, List.foldl_cons]
            rw [fold_other _ _ hnot]
            rw [Array.getElem?_setIfInBounds_self_of_lt (by omega)]
          · obtain ⟨cs, rfl, r⟩ := hv.1
            exact ofDat_ok s r
        · simpa only [List.zip_cons_cons, List.foldl_cons] using i1 k G e hh
      · simp only [parE] at hh
        rw [lkE_cons] at hh
        split at hh
        · cases hh
        · rename_i hk
          rw [memN_cons, i2 k hh, Bool.or_false]
          cases hb : Nat.beq k p with
          | false => rfl
          | true => exact absurd (Nat.eq_of_beq_eq_true hb).symm hk
def Apt (n : Nat) (T : List Res) (h : FH) (β : List RV) (G : Nat → Prop) : Prop := (∀ b, G b → n ≤ b) ∧ (∀ b, ownB T β b → ¬ G b) ∧ ∀ b o v, h b o = some v → ¬ G b
theorem piece_out {N n : Nat} {B : Base} {h0 : FH} {T : List Res} {h : FH} {β : List RV} {A : World} {G : Nat → Prop} (ok' : OK B h0 T h β A) (ap : Apt n T h β G) (apb : ∀ b, G b → b < A.heap.size)
    {B2 : Base} {s2 : St} {h2 : FH} {β2 : List RV} {A2 : World} {a2 : Act} (lb2 : (B.rd T β A).leB B2) (sat2 : Sat N B2 h s2 h2 β2 A2 a2) :
    OK B h0 (eff s2.gl s2.T) h2 β2 A2 ∧ Apt n (eff s2.gl s2.T) h2 β2 G ∧ A.heap.size ≤ A2.heap.size ∧ (∀ k, k < A.heap.size → ¬ ownB T β k → A2.heap[k]? = A.heap[k]?) ∧
      (∀ k o, A.heap[k]? = some o → ours o = false → ¬ ownB T β k) := by
  have same : ∀ k, k < A.heap.size → ¬ ownB T β k → A2.heap[k]? = A.heap[k]? := by
    intro k hk hn
    have h1 := sat2.ok.below
    have h2 := lb2.1
    have h3 : B2.al k ↔ (ownB T β k ∨ A.heap.size ≤ k) := by rw [lb2.2.1]
    have h4 := h1.block k (by rw [h2]; exact hk) (fun hh => by rcases h3.1 hh with hh | hh <;> first | exact hn hh | omega)
    rw [h2] at h4
    exact h4
  refine ⟨ok'.leave lb2.1 lb2.2.1 lb2.2.2 sat2.ok, ⟨ap.1, ?_, ?_⟩, ?_, same, ?_⟩
  · rintro b ⟨i, r, v, e1, e2, e3, e4⟩ hb
    have hh := (sat2.ok.own i r v b e1 e2 e3 e4).1
    rw [lb2.2.1] at hh
    rcases hh with hh | hh
    · exact ap.2.1 b hh hb
    · have := apb b hb; omega
  · intro b o v hh hb
    rcases sat2.ok.hg b o v hh with h1 | h1
    · exact ap.2.2 b o v h1 hb
    · rw [lb2.2.1] at h1
      rcases h1 with h1 | h1
      · exact ap.2.1 b h1 hb
      · have := apb b hb; omega
  · have := sat2.ok.below.size
    rw [lb2.1] at this
    exact this
  · rintro k o hk ho ⟨i, r, v, e1, e2, e3, e4⟩
    obtain ⟨o', q1, q2⟩ := (ok'.holds i r v e1 e3).cells e2 e4
    rw [hk] at q1; cases q1; rw [ho] at q2; cases q2
theorem range_ok {P : Program} {h0 : FH} {n : Nat} {asg c : Code} (rec : ∀ (c' : Code), c' = asg ∨ c' = c → ∀ (h0 : FH) (E : Env) (B : Base) (s : St) (h : FH) (β : List RV) (w : World) (a : Act) (K : Exit → St → Prop) (Q : Exit → Act → World → Prop) (l : Nat), EnvOK P E → GlobOK E.cx.gd h0 → E.rd = true → Sat E.n B h0 s h β w a →
      codeK E c' s K → (∀ e s' h' β' w' a' B', Base.leR E.rd B B' → K e s' → h.le h' → Sat E.n B' h0 s' h' β' w' a' → Same (writes c') a a' → Q e a' w') → c'.wpIn (Fence.wide.inRound l) 0 P Q a w)
    {E : Env} (ok : EnvOK P E) (hg : GlobOK E.cx.gd h0) {B : Base} {s : St} {h : FH} {β : List RV} {w : World} {a : Act} {K : Exit → St → Prop} {Q : Exit → Act → World → Prop} (sat : Sat E.n B h0 s h β w a)
    {g : Operand} {ss : List Sh} {L : List (dens ss)} (gv : Gives P h ss L (a.eval g)) {ps : Array Tmp} {ra : RA}
    (k : rangeK E.n (fun s K => codeK { E with rd := true } asg s fun e s' => match e with
      | .normal => codeK { E with rd := true } c s' K
      | _ => False) (catL ra.drop (catL (tl ps) (catL (writes asg) (writes c)))) ra (tl ps) ss L s K)
    (hrd : E.rd = false) (next : ∀ e s' h' β' w' a' B', Base.leR E.rd B B' → K e s' → h.le h' → Sat E.n B' h0 s' h' β' w' a' → Same [] a a' → Q e a' w') : (Code.rangeFunc g ps asg c).wpIn Fence.wide n P Q a w := by
  unfold rangeK at k
  split at k
  · exact k.elim
  rename_i hpar
  obtain ⟨⟨x0, i0, t0⟩, kr, kd⟩ := k
  obtain ⟨ws, hws⟩ : ∃ ws, ws = catL ra.drop (catL (tl ps) (catL (writes asg) (writes c))) := ⟨_, rfl⟩
  rw [← hws] at kr kd
  have good : ∀ i x, i ≤ L.length → ra.inv i x → goodT (lenL s.T) (updT (ra.res x) s.T) = true := by
    intro i x hi hx
    cases hd : L[i]? with
    | some d =>
      have := kr i x d hx hd
      split at this
      · exact this.elim
      · rename_i hh; exact hh
    | none =>
      have he : i = lenL L := by rw [lenL_eq]; have := List.getElem?_eq_none_iff.1 hd; omega
      subst he
      have := kd x hx
      split at this
      · exact this.elim
      · rename_i hh; exact hh
  have tlen : ∀ x, lenL s.T = (updT (ra.res x) s.T).length := fun x => by rw [updT_len, lenL_eq]
  have hpl : ps.size = ss.length := by
    have : ∀ {l : List Nat} {ss : List Sh}, parOK E.n l ss = true → l.length = ss.length := by
      intro l
      induction l with
      | nil => intro ss h; cases ss with | nil => rfl | cons _ _ => simp [parOK] at h
      | cons x l ih =>
        intro ss h
        cases ss with
        | nil => simp [parOK] at h
        | cons s ss =>
          simp only [parOK, andB_eq, Bool.and_eq_true] at h
          simp [ih h.2]
    have h1 := this hpar
    cases ps; simpa using h1
  have psw : ∀ t, memN t ws = false → memN t (tl ps) = false ∧ memN t (writes asg) = false ∧ memN t (writes c) = false := by
    intro t ht
    rw [hws, memN_cat, memN_cat, memN_cat, Bool.or_eq_false_iff, Bool.or_eq_false_iff, Bool.or_eq_false_iff] at ht
    exact ⟨ht.2.1, ht.2.2.1, ht.2.2.2⟩
  have fold_ne : ∀ (vs : List Value) t, memN t (tl ps) = false → ((ps.zip vs.toArray).foldl (fun t (p, v) => t.setIfInBounds p v) a.tmps)[t]? = a.tmps[t]? := by
    intro vs t ht
    rw [zip_fold]
    refine fold_other _ _ fun q hq e => ?_
    have hm : q.1 ∈ tl ps := (List.of_mem_zip hq).1
    rw [e] at hm
    have : ∀ {l : List Nat}, t ∈ l → memN t l = true := by
      intro l
      induction l with
      | nil => intro h; cases h
      | cons x l ih =>
        intro h
        rw [memN_cons]
        rcases List.mem_cons.1 h with rfl | h
        · simp
        · rw [ih h]; simp
    rw [this hm] at ht; cases ht
  have refs0 : ∀ p ∈ keepR (lenL s.T) ws [] s.env, ∃ z, a.tmps[p.1]? = some z ∧ CnV h β p.2 z := by
    intro p hp
    obtain ⟨z, q1, q2, _⟩ := sat.env _ _ _ (keepR_mem p hp).2
    exact ⟨z, q1, q2 rfl⟩
  have nclt : ∀ kk o, B.nc kk o → kk < w.heap.size := fun kk o hk => (Array.getElem?_eq_some_iff.1 (sat.ok.kn kk o hk)).1
  have hBs : B.heap.size ≤ w.heap.size := sat.ok.below.size
  -- the iterator's blocks are no one else's
  let Ap : List Res → FH → List RV → (Nat → Prop) → Prop := fun T h' β' G => Apt w.heap.size T h' β' G
  have apG : ∀ {T : List Res} {h' : FH} {β' : List RV} {G G' : Nat → Prop} {A A' : World}, OK B h0 T h' β' A → w.heap.size ≤ A.heap.size → Ap T h' β' G → Own' G G' A A' → Ap T h' β' G' := by
    intro T h' β' G G' A A' ok' hsz ⟨a1, a2, a3⟩ ho
    refine ⟨fun b hb => ?_, fun b hb hg => ?_, fun b o v hb hg => ?_⟩
    · rcases (ho b hb).2 with h1 | h1
      · exact a1 b h1
      · omega
    · rcases (ho b hg).2 with h1 | h1
      · exact a2 b hb h1
      · obtain ⟨i, r, v, e1, e2, e3, e4⟩ := hb
        have := (ok'.own i r v b e1 e2 e3 e4).2.1
        omega
    · rcases (ho b hg).2 with h1 | h1
      · exact a3 b o v hb h1
      · have := vis_lt (ok'.hw b o v hb)
        omega
  have gsO : ∀ {T : List Res} {h' : FH} {β' : List RV} {G : Nat → Prop} {A A' : World}, OK B h0 T h' β' A → Ap T h' β' G → Gs G A A' → OK B h0 T h' β' A' := fun ok' ⟨a1, a2, a3⟩ gs =>
    ok'.gs gs (fun k hk => Nat.le_trans hBs (a1 k hk)) a2 a3 (fun k o hk hg => by have := nclt k o hk; have := a1 k hg; omega)
  -- what holds between the rounds; what holds where a round has left
  let I : Nat → (Nat → Prop) → World → Prop := fun i G A => i ≤ L.length ∧ (w.heap.size ≤ A.heap.size ∧ ∀ b, G b → b < A.heap.size) ∧ ∃ x h' β', Ap (eff [] (updT (ra.res x) s.T)) h' β' G ∧ ra.inv i x ∧ h.le h' ∧ OK B h0 (eff [] (updT (ra.res x) s.T)) h' β' A ∧ ∀ p ∈ keepR (lenL s.T) ws [] s.env, ∃ z, a.tmps[p.1]? = some z ∧ CnV h' β' p.2 z
  let Ix : Code → (Nat → Prop) → World → Prop := fun cc G A => w.heap.size ≤ A.heap.size ∧ ∃ e T gl h' β', Ap (eff gl T) h' β' G ∧ ((cc = .ret ∧ e = Exit.ret) ∨ ∃ j, cc = .exit j ∧ e = Exit.exit j) ∧ K e { env := rdE ws ra.drop s, T := T, gl := gl, gs := [] } ∧ h.le h' ∧ OK B h0 (eff gl T) h' β' A ∧
    (∀ p ∈ T, gbd gl.length p.1 = true) ∧ ∀ p ∈ keepR (lenL s.T) ws [] s.env, ∃ z, a.tmps[p.1]? = some z ∧ CnV h' β' p.2 z
  have dfr : ∀ A, A.heap[w.heap.size]? = some (.deferred (some [])) → ∃ B' : Base, B.leB B' ∧ Dfr B' { a with defers := markOf w.heap.size :: a.defers } ∧ (∀ {T h' β'}, OK B h0 T h' β' A → OK B' h0 T h' β' A) := by
    intro A hA
    refine ⟨{ B with nc := fun k o => B.nc k o ∨ (k = w.heap.size ∧ o = .deferred (some [])), cell := fun k o hh => hh.elim (B.cell k o) fun hh => by rw [hh.2] }, ⟨rfl, rfl, fun k o hh => .inl hh⟩, ?_, fun ok' => ok'.rebase rfl rfl (fun k o hh => hh.elim (ok'.kn k o) fun hh => by rw [hh.1, hh.2]; exact hA)⟩
    obtain ⟨X, x1, x2, x3⟩ := sat.defers
    refine ⟨w.heap.size :: X, by simp [x1, markOf], ?_, ?_⟩
    · refine List.nodup_cons.2 ⟨fun hm => ?_, x2⟩
      have := nclt _ _ (x3 _ hm).2
      omega
    · intro D hD
      rcases List.mem_cons.1 hD with rfl | hD
      · exact ⟨B.up _ hBs, .inr ⟨rfl, rfl⟩⟩
      · exact ⟨(x3 D hD).1, .inl (x3 D hD).2⟩
  have fin : ∀ e cc G A, ((cc = .ret ∧ e = Exit.ret) ∨ ∃ j, cc = .exit j ∧ e = Exit.exit j) → Ix cc G A → A.heap[w.heap.size]? = some (.deferred (some [])) → Q e { a with defers := markOf w.heap.size :: a.defers } A := by
    rintro e cc G A he ⟨_, e', T, gl, h', β', _, he', kk, le, ok', gT, refs⟩ hA
    have hee : e' = e := by
      rcases he with ⟨rfl, rfl⟩ | ⟨j, rfl, rfl⟩ <;> rcases he' with ⟨h1, h2⟩ | ⟨j', h1, h2⟩ <;> first | (cases h1; exact h2) | cases h1
    subst hee
    obtain ⟨B', lb, df, up⟩ := dfr A hA
    exact next _ _ h' β' A _ B' ⟨lb, fun hh => (by rw [hrd] at hh; cases hh)⟩ kk le (rd_sat sat le refs (up ok') gT rfl df) fun _ _ => rfl
  refine range_law gv hpl I Ix ?_ ?_ ?_ ?_ ?_ ?_ ?_ ?_ ?_ (fun G A hA => fin .ret .ret G A (.inl ⟨rfl, rfl⟩) hA) (fun j G A hA => fin (.exit j) (.exit j) G A (.inr ⟨j, rfl, rfl⟩) hA)
  · rintro i G A ⟨_, _, x, h', β', _, _, le, ok', _⟩
    exact HW.mono le ok'.hw
  · rintro cc G A ⟨_, e, T, gl, h', β', _, he, kk, le, ok', _⟩
    exact HW.mono le ok'.hw
  · rintro i G G' A A' ⟨hi, hsz, x, h', β', ap, i1, le, ok', refs⟩ gs ho
    exact ⟨hi, ⟨Nat.le_trans hsz.1 gs.size, fun b hb => (ho b hb).1⟩, x, h', β', apG ok' hsz.1 ap ho, i1, le, gsO ok' ap gs, refs⟩
  · rintro cc G G' A A' ⟨hsz, e, T, gl, h', β', ap, he, kk, le, ok', gT, refs⟩ gs ho
    exact ⟨Nat.le_trans hsz gs.size, e, T, gl, h', β', apG ok' hsz ap ho, he, kk, le, gsO ok' ap gs, gT, refs⟩
  · rintro i G A l o o' ⟨hi, hsz, x, h', β', ap, i1, le, ok', refs⟩ hl hA ho
    exact ⟨hi, ⟨by simpa using hsz.1, by simpa using hsz.2⟩, x, h', β', ap, i1, le, ok'.turn (B.up _ (Nat.le_trans hBs hl)) (fun kk u hk e => by have := nclt kk u hk; omega) hA ho, refs⟩
  · rintro cc G A l o o' ⟨hsz, e, T, gl, h', β', ap, he, kk, le, ok', gT, refs⟩ hl hA ho
    exact ⟨by simpa using hsz, e, T, gl, h', β', ap, he, kk, le, ok'.turn (B.up _ (Nat.le_trans hBs hl)) (fun kk u hk e => by have := nclt kk u hk; omega) hA ho, gT, refs⟩
  · refine ⟨Nat.zero_le _, ⟨Nat.le_refl _, fun b hb => hb.elim⟩, x0, h, β, ⟨fun b hb => hb.elim, fun b _ hb => hb.elim, fun b o v _ hb => hb.elim⟩, i0, FH.le.refl h, ?_, refs0⟩
    have g0 := good 0 x0 (Nat.zero_le _) i0
    rw [eff_nil (gl := s.gl) fun p hp => (good_all g0 p hp).1, ← t0]
    exact sat.ok
  · rintro i d vs G A l o1 o1' o2 hd hv ⟨hi, ⟨hsz, apb⟩, x, h', β', ap, i1, le, ok', refs⟩ hl hA1 ho1 ho1' hA2 ho2 hGl
    have kk := kr i x d i1 hd
    have gx := good i x hi i1
    rw [gx] at kk
    simp only at kk
    have blen : β'.length = lenL s.T := by rw [ok'.len, eff_len, ← tlen]
    obtain ⟨p1, p2⟩ := par_ok (t := a.tmps) (n := E.n) sat.sz hpar hv
    have satr : Sat E.n (B.rd (eff [] (updT (ra.res x) s.T)) β' A) h'
        { env := catL (parE (tl ps) ss d) (rdE ws (catL ra.drop (tl ps)) s), T := updT (ra.res x) s.T, gl := [], gs := [] } h' β' A { tmps := (ps.zip vs.toArray).foldl (fun t (p, v) => t.setIfInBounds p v) a.tmps, defers := [] } := by
      refine ⟨ok'.enter, ?_, ?_, Dfr.nil rfl, ?_, ?_, ?_⟩
      · intro t G e ht
        simp only at ht ⊢
        rw [lkE_cat] at ht
        split at ht
        · rename_i y hy
          cases ht
          obtain ⟨rfl, z, z1, z2⟩ := p1 t G e hy
          refine ⟨z, by rw [zip_fold]; exact z1, fun _ => (z2 β').mono le (Ext.refl _), fun hh => by cases hh⟩
        · rename_i hy
          obtain ⟨rfl, hm, z, z1, z2⟩ := rd_env sat le refs t G e ht
          have hps : memN t (tl ps) = false := p2 t hy
          exact ⟨z, by rw [fold_ne vs t hps]; exact z1, fun _ => z2, fun hh => by cases hh⟩
      · intro dd ii hh; cases hh
      · rw [zip_fold, fold_size]; exact sat.sz
      · intro t G e ht
        simp only at ht
        rw [lkE_cat] at ht
        split at ht
        · rename_i y hy
          cases ht
          obtain ⟨rfl, _⟩ := p1 t G e hy; rfl
        · obtain ⟨rfl, _⟩ := rd_env sat le refs t G e ht; rfl
      · intro p hp; rw [(good_all gx p hp).1]
    have okE : EnvOK P { E with rd := true } := ⟨ok.prog, ok.hc, ok.mkf, ok.mixed, ok.ti, ok.ct, ok.ip, ok.sq⟩
    refine rec asg (.inl rfl) h' { E with rd := true } _ _ h' β' A _ _ _ l okE (hg.mono ok'.hle) rfl satr kk ?_
    rintro e1 s1 h1 β1 A1 a1 B1 ⟨lb1, lr1⟩ k1 le1 sat1 sm1
    cases e1 with
    | exit j => exact k1.elim
    | goto j => exact k1.elim
    | ret => exact k1.elim
    | panic c => exact k1.elim
    | outgrown => exact k1.elim
    | normal =>
    obtain ⟨q1, q2, q3, q4, q5⟩ := piece_out ok' ap apb lb1 sat1
    have keep1 : ∀ b, b = l ∨ b = w.heap.size ∨ G b → A1.heap[b]? = A.heap[b]? := by
      rintro b (rfl | rfl | hb)
      · exact q4 _ (Array.getElem?_eq_some_iff.1 hA1).1 (q5 _ _ hA1 ho1)
      · exact q4 _ (Array.getElem?_eq_some_iff.1 hA2).1 (q5 _ _ hA2 ho2)
      · exact q4 b (apb b hb) (fun hh => ap.2.1 b hh hb)
    refine ⟨keep1, ?_⟩
    have hB1 : A1.heap[l]? = some o1 := (keep1 l (.inl rfl)).trans hA1
    have hl1 : l < A1.heap.size := (Array.getElem?_eq_some_iff.1 hB1).1
    -- the record is turned; all else stands
    have okt : OK B h0 (eff s1.gl s1.T) h1 β1 (A1.putObj l o1') := q1.turn (B.up _ (Nat.le_trans hBs (by omega))) (fun kk u hk e => by have := nclt kk u hk; omega) hB1 ho1
    have sat1' : Sat E.n (B.rd (eff s1.gl s1.T) β1 (A1.putObj l o1')) h1 s1 h1 β1 (A1.putObj l o1') a1 := by
      have hd1 : a1.defers = [] := by
        obtain ⟨X, x1, x2, x3⟩ := sat1.defers
        cases X with
        | nil => simpa using x1
        | cons D X =>
          exfalso
          obtain ⟨d1, d2⟩ := x3 D (by simp)
          rw [lr1 rfl] at d1 d2
          have hk := ok'.kn D _ d2
          rcases d1 with d1 | d1
          · obtain ⟨i, r, v, e1, e2, e3, e4⟩ := d1
            obtain ⟨o', q1, q2⟩ := (ok'.holds i r v e1 e3).cells e2 e4
            rw [hk] at q1; cases q1; cases q2
          · have := (Array.getElem?_eq_some_iff.1 hk).1
            omega
      exact ⟨okt.enter, sat1.env, sat1.gs, Dfr.nil hd1, sat1.sz, sat1.gb, sat1.gT⟩
    have hsz1 : w.heap.size ≤ (A1.putObj l o1').heap.size := by simp; omega
    have apb1 : ∀ b, G b → b < (A1.putObj l o1').heap.size := fun b hb => by have := apb b hb; simp; omega
    have hT2 : (A1.putObj l o1').heap[w.heap.size]? = some o2 := (World.putObj_heap_other (by omega)).trans ((keep1 _ (.inr (.inl rfl))).trans hA2)
    have hT1 : (A1.putObj l o1').heap[l]? = some o1' := World.putObj_heap_same hl1
    refine rec c (.inr rfl) h1 { E with rd := true } _ _ h1 β1 _ _ _ _ l okE (hg.mono (ok'.hle.trans le1)) rfl sat1' k1 ?_
    rintro e s2 h2 β2 A2 a2 B2 ⟨lb2, _⟩ k2 le2 sat2 sm2
    obtain ⟨ok2, ap2, q8, q9, q10⟩ := piece_out okt q2 apb1 lb2 sat2
    have keep : ∀ b, b = l ∨ b = w.heap.size ∨ G b → A2.heap[b]? = (A1.putObj l o1').heap[b]? := by
      rintro b (rfl | rfl | hb)
      · exact q9 _ (Array.getElem?_eq_some_iff.1 hT1).1 (q10 _ _ hT1 ho1')
      · exact q9 _ (Array.getElem?_eq_some_iff.1 hT2).1 (q10 _ _ hT2 ho2)
      · exact q9 b (apb1 b hb) (fun hh => q2.2.1 b hh hb)
    split at k2
    · exact k2.elim
    rename_i hR
    have hsz2 : w.heap.size ≤ A2.heap.size := Nat.le_trans hsz1 q8
    have refs2 : ∀ p ∈ keepR (lenL s.T) ws [] s.env, ∃ z, a.tmps[p.1]? = some z ∧ CnV h2 β2 p.2 z := by
      intro p hp
      obtain ⟨z, q1, q2, _⟩ := sat2.env _ _ _ (hasR_mem hR p hp)
      obtain ⟨w1, w2, w3⟩ := psw _ (keepR_ws p hp)
      have e1 := sm2 p.1 w3
      have e2 := sm1 p.1 w2
      simp only at e2
      rw [e1, e2, fold_ne vs _ w1] at q1
      exact ⟨z, q1, q2 rfl⟩
    cases e with
    | normal =>
      simp only at k2
      obtain ⟨x', j1, j2⟩ := k2
      have hi1 : i + 1 ≤ L.length := (List.getElem?_eq_some_iff.1 hd).1
      have gx' := good (i + 1) x' hi1 j1
      have et : eff [] (updT (ra.res x') s.T) = (eff s2.gl s2.T).take (lenL s.T) := by
        rw [takeL_eq] at j2
        rw [← j2, eff_nil_take (gl := s2.gl) fun p hp => by rw [j2] at hp; exact (good_all gx' p hp).1]
      refine ⟨keep, hi1, ⟨hsz2, fun b hb => Nat.lt_of_lt_of_le (apb1 b hb) q8⟩, x', h2, β2.take (lenL s.T), ?_, j1, (le.trans le1).trans le2, ?_, fun p hp => ?_⟩
      · refine ⟨ap2.1, ?_, ap2.2.2⟩
        rintro b ⟨i, r, v, e1, e2, e3, e4⟩ hb
        rw [et] at e1
        have hi : i < lenL s.T := by have := (List.getElem?_eq_some_iff.1 e1).1; simp at this; omega
        rw [take_get hi] at e1 e3
        exact ap2.2.1 b ⟨i, r, v, e1, e2, e3, e4⟩ hb
      · rw [et]
        rw [takeL_eq] at j2
        have hlen : lenL s.T ≤ s2.T.length := by
          have := congrArg List.length j2
          rw [updT_len, List.length_take, lenL_eq] at this
          rw [lenL_eq]; omega
        refine ok2.take (by rw [eff_len]; exact hlen) ?_
        rw [← et]
        have : ∀ {l : List (Gd × Res)}, (∀ p ∈ l, p.1 = [] ∧ resBelow (lenL s.T) p.2 = true) → ∀ r ∈ eff [] l, resBelow (lenL s.T) r = true := by
          intro l
          induction l with
          | nil => intro _ r hr; simp [eff] at hr
          | cons q l ih =>
            obtain ⟨g, r0⟩ := q
            intro hh r hr
            have hg := hh (g, r0) (by simp)
            have hg1 : g = [] := hg.1
            subst hg1
            simp only [eff] at hr
            rcases List.mem_cons.1 hr with rfl | hr
            · exact hg.2
            · exact ih (fun p hp => hh p (by simp [hp])) r hr
        exact this (good_all gx')
      · obtain ⟨z, q1, q2⟩ := refs2 p hp
        exact ⟨z, q1, CnV.below (keepR_below p hp) q2⟩
    | ret => exact ⟨keep, hsz2, .ret, s2.T, s2.gl, h2, β2, ap2, .inl ⟨rfl, rfl⟩, k2, (le.trans le1).trans le2, ok2, sat2.gT, refs2⟩
    | exit j => exact ⟨keep, hsz2, .exit j, s2.T, s2.gl, h2, β2, ap2, .inr ⟨j, rfl, rfl⟩, k2, (le.trans le1).trans le2, ok2, sat2.gT, refs2⟩
    | goto t => exact k2.elim
    | panic ch => exact k2.elim
    | outgrown => exact k2.elim
  · rintro G A ⟨_, _, x, h', β', _, i1, le, ok', refs⟩ hA
    have kk := kd x (by rw [lenL_eq]; exact i1)
    have gx := good _ x (Nat.le_refl _) i1
    rw [gx] at kk
    simp only at kk
    obtain ⟨B', lb, df, up⟩ := dfr A hA
    exact next _ _ h' β' A _ B' ⟨lb, fun hh => (by rw [hrd] at hh; cases hh)⟩ kk le (rd_sat sat le refs (up ok') (fun p hp => by rw [(good_all gx p hp).1]) rfl df) fun _ _ => rfl
theorem codeK_ok {P : Program} {n : Nat} : ∀ (c : Code) {h0 : FH} {E : Env} (ok : EnvOK P E) (hg : GlobOK E.cx.gd h0) {F : Fence} (hF : Wd F) (hr : E.rd = false → F = Fence.wide) {B : Base} {s : St} {h : FH} {β : List RV} {w : World} {a : Act} {K : Exit → St → Prop} {Q : Exit → Act → World → Prop}, Sat E.n B h0 s h β w a →
    codeK E c s K → (∀ e s' h' β' w' a' B', Base.leR E.rd B B' → K e s' → h.le h' → Sat E.n B' h0 s' h' β' w' a' → Same (writes c) a a' → Q e a' w') → c.wpIn F n P Q a w
  | .skip, h0, E, ok, hg, F, hF, hr, B, s, h, β, w, a, K, Q, sat, k, next => wpIn_skip (next _ _ _ _ _ _ _ (.refl _) k (FH.le.refl h) sat (Same.refl _ _))
  | .exit i, h0, E, ok, hg, F, hF, hr, B, s, h, β, w, a, K, Q, sat, k, next => wpIn_exit (next _ _ _ _ _ _ _ (.refl _) k (FH.le.refl h) sat (Same.refl _ _))
  | .ret, h0, E, ok, hg, F, hF, hr, B, s, h, β, w, a, K, Q, sat, k, next => wpIn_ret (next _ _ _ _ _ _ _ (.refl _) k (FH.le.refl h) sat (Same.refl _ _))
  | .region id ops false, h0, E, ok, hg, F, hF, hr, B, s, h, β, w, a, K, Q, sat, k, next => by
    simp only [codeK] at k
    split at k
    · exact k.elim
    rename_i hnd
    have et : tl ops = ops.toList := by cases ops; rfl
    rw [et] at hnd k
    refine wpL_region (R := fun a w => Q .normal a w) hF (fun _ _ hh => hh) hnd (opsI_ok ok hg ops.toList sat (by rw [et]; exact k) fun s' h' β' w' a' k' le sat' sm => next .normal _ _ _ _ _ _ (.refl _) k' le sat'.clean ?_)
    simp only [writes]; rw [et]; exact sm
  | .seq x y, h0, E, ok, hg, F, hF, hr, B, s, h, β, w, a, K, Q, sat, k, next => by
    simp only [codeK] at k
    split at k
    · rename_i la _
      obtain ⟨β0, sat0⟩ := sat.padS la.pad
      clear sat
      generalize padS la.pad s = s at sat0 k
      generalize β0 = β at sat0
      have sat := sat0
      obtain ⟨k1, k2⟩ := k
      have D0 : ∀ h' a', h.le h' → Same (writes x) a a' → ∀ t e, lkE (keepE (catL la.drop (writes x)) [] s.env) t = some ([], e) → ∃ z, a'.tmps[t]? = some z ∧ CnE h' [] e z := by
        intro h' a' le sm t e ht
        obtain ⟨_, hw, hl, _, hf⟩ := keepE_get ht
        obtain ⟨z, q1, q2, _⟩ := sat.env t [] e hl
        exact ⟨z, by rw [sm t (by rw [memN_cat, Bool.or_eq_false_iff] at hw; exact hw.2)]; exact q1, (CnE.refFree [] hf (q2 rfl)).mono le (Ext.refl _)⟩
      refine wpIn_seq (codeK_ok x ok hg hF hr sat k1 fun e s' h' β' w' a' B1 lb k' le sat' sm => ?_)
      cases e with
      | normal =>
        simp only at k'
        unfold cutI at k'
        obtain ⟨h1, β1, le1, sat2⟩ := Sat.turnS sat' la.frz la.frzI la.nil la.nilC la.deep
        obtain ⟨β20, sat30⟩ := sat2.swAll la.ren
        obtain ⟨β2, sat3⟩ := sat30.canS la.can
        split at k'
        · rename_i hR
          obtain ⟨v, j1, j2, j3⟩ := k'
          have kk := k2 v j1
          split at kk
          · exact kk.elim
          · rename_i hc
            rw [andB_eq, Bool.and_eq_true] at hc
            exact codeK_ok y ok hg hF hr (head_ok sat3 j3 hc.1 hc.2 j2 (hasR_mem hR) (D0 h1 a' (le.trans le1) sm)) kk fun e s2 h2 β3 w2 a2 B2 lb2 k3 le2 sat4 sm2 => next e s2 h2 β3 w2 a2 B2 (lb.trans lb2) k3 ((le.trans le1).trans le2) sat4 (sm.left.trans sm2.right)
        · exact k'.elim
      | exit i => exact next _ _ _ _ _ _ _ lb k' le sat' sm.left
      | goto l => exact next _ _ _ _ _ _ _ lb k' le sat' sm.left
      | ret => exact next _ _ _ _ _ _ _ lb k' le sat' sm.left
      | panic ch => exact next _ _ _ _ _ _ _ lb k' le sat' sm.left
      | outgrown => exact next _ _ _ _ _ _ _ lb k' le sat' sm.left
    · refine wpIn_seq (codeK_ok x ok hg hF hr sat k fun e s' h' β' w' a' B1 lb k' le sat' sm => ?_)
      cases e with
      | normal => exact codeK_ok y ok hg hF hr sat' k' fun e s2 h2 β2 w2 a2 B2 lb2 k2 le2 sat2 sm2 => next e s2 h2 β2 w2 a2 B2 (lb.trans lb2) k2 (le.trans le2) sat2 (sm.left.trans sm2.right)
      | exit i => exact next _ _ _ _ _ _ _ lb k' le sat' sm.left
      | goto l => exact next _ _ _ _ _ _ _ lb k' le sat' sm.left
      | ret => exact next _ _ _ _ _ _ _ lb k' le sat' sm.left
      | panic ch => exact next _ _ _ _ _ _ _ lb k' le sat' sm.left
      | outgrown => exact next _ _ _ _ _ _ _ lb k' le sat' sm.left
  | .cond c x y, h0, E, ok, hg, F, hF, hr, B, s, h, β, w, a, K, Q, sat, k, next => by
    simp only [codeK] at k
    split at k
    · rename_i b hb
      have hc : a.eval c = .bool b := (getE_ok sat (hg.mono sat.ok.hle) (show gv s.gl [] = true from rfl) hb).1.1
      refine wpIn_cond_split hc (fun ht => codeK_ok x ok hg hF hr sat ((br_iff.1 k).1 ht) fun e s' h' β' w' a' B1 lb k' le sat' sm => next _ _ _ _ _ _ _ lb k' le sat' sm.left)
        (fun hf => codeK_ok y ok hg hF hr sat ((br_iff.1 k).2 hf) fun e s' h' β' w' a' B1 lb k' le sat' sm => next _ _ _ _ _ _ _ lb k' le sat' sm.right)
    · exact k.elim
  | .block id c, h0, E, ok, hg, F, hF, hr, B, s, h, β, w, a, K, Q, sat, k, next => by
    refine wpIn_block (codeK_ok c ok hg hF hr sat k fun e s' h' β' w' a' B1 lb k' le sat' sm => ?_)
    cases e with
    | normal => exact next _ _ _ _ _ _ _ lb k' le sat' sm
    | exit i =>
      simp only at k'
      simp only [Exit.inBlock]
      split at k'
      · rename_i hi
        have : i = id := Nat.eq_of_beq_eq_true hi
        rw [if_pos this]
        exact next _ _ _ _ _ _ _ lb k' le sat' sm
      · rename_i hi
        have : ¬ i = id := fun hh => by rw [hh] at hi; simp at hi
        rw [if_neg this]
        exact next _ _ _ _ _ _ _ lb k' le sat' sm
    | goto l => exact next _ _ _ _ _ _ _ lb k' le sat' sm
    | ret => exact next _ _ _ _ _ _ _ lb k' le sat' sm
    | panic ch => exact next _ _ _ _ _ _ _ lb k' le sat' sm
    | outgrown => exact next _ _ _ _ _ _ _ lb k' le sat' sm
  | .loop c, h0, E, ok, hg, F, hF, hr, B, s, h, β, w, a, K, Q, sat, k, next => by
    simp only [codeK] at k
    split at k
    · rename_i la _
      obtain ⟨h1, β1, le1, sat1⟩ := Sat.turnS sat la.frz la.frzI la.nil la.nilC la.deep
      replace next := fun e s' h' β' w' a' B1 lb k' le sat' sm => next e s' h' β' w' a' B1 lb k' (le1.trans le) sat' sm
      clear le1 sat
      clear h
      rename FH => h
      generalize turnS s la.frz la.frzI la.nil la.nilC la.deep = s at sat1 k
      obtain ⟨β2, sat⟩ := sat1.padS la.pad
      clear sat1
      have sat1 := sat
      clear sat
      generalize padS la.pad s = s at sat1 k
      have sat := sat1
      clear sat1
      obtain ⟨⟨x, i1, i2, i3⟩, k2⟩ := k
      have good : ∀ x, la.inv x → goodT (lenL s.T) (updT (la.res x) s.T) = true ∧ goodS (lenL s.T) (catL la.drop (writes c)) (la.slots x) = true ∧
          codeK E c (headSt (catL la.drop (writes c)) s (la.slots x) (la.res x)) (fun e s' => match e with
            | .normal => match hasR (canS la.can (swAll la.ren s')) (keepR (lenL s.T) (catL la.drop (writes c)) [] s.env) with
              | true => ∃ x', la.inv x' ∧ hasE (canS la.can (swAll la.ren s')) (la.slots x') ∧ takeL (lenL s.T) (canS la.can (swAll la.ren s')).T = updT (la.res x') s.T ∧ la.meas x' < la.meas x
              | false => False
            | e => K e s') := by
        intro x hx
        have := k2 x hx
        split at this
        · exact this.elim
        · rename_i hc
          rw [andB_eq, Bool.and_eq_true] at hc
          exact ⟨hc.1, hc.2, this⟩
      have D0 : ∀ h' a', h.le h' → Same (writes c) a a' → ∀ t e, lkE (keepE (catL la.drop (writes c)) [] s.env) t = some ([], e) → ∃ z, a'.tmps[t]? = some z ∧ CnE h' [] e z := by
        intro h' a' le sm t e ht
        obtain ⟨_, hw, hl, _, hf⟩ := keepE_get ht
        obtain ⟨z, q1, q2, _⟩ := sat.env t [] e hl
        exact ⟨z, by rw [sm t (by rw [memN_cat, Bool.or_eq_false_iff] at hw; exact hw.2)]; exact q1, (CnE.refFree [] hf (q2 rfl)).mono le (Ext.refl _)⟩
      refine wpIn_loop_ghost (fun n a' w' => ∃ x h' β' B1, Base.leR E.rd B B1 ∧ la.meas x = n ∧ la.inv x ∧ h.le h' ∧ Sat E.n B1 h0 (headSt (catL la.drop (writes c)) s (la.slots x) (la.res x)) h' β' w' a' ∧ Same (writes c) a a') (la.meas x) ?_ ?_
      · obtain ⟨g1, g2, _⟩ := good x i1
        refine ⟨x, h, _, B, .refl _, rfl, i1, FH.le.refl h, head_ok sat ?_ g1 g2 i2 (fun p hp => (keepR_mem p hp).2) (D0 h a (FH.le.refl h) (Same.refl _ _)), Same.refl _ _⟩
        rw [← i3, takeL_eq, lenL_eq, List.take_length]
      · rintro n a' w' ⟨x, h', β', B1, lb, rfl, hx, le, sat', sm⟩
        obtain ⟨g1, g2, kk⟩ := good x hx
        refine codeK_ok c ok hg hF hr sat' kk fun e s2 h2 β2 w2 a2 B2 lb2 k2 le2 sat2 sm2 => ?_
        cases e with
        | normal =>
          simp only at k2
          split at k2
          · rename_i hR
            obtain ⟨x', j1, j2, j3, j4⟩ := k2
            obtain ⟨g1', g2', _⟩ := good x' j1
            obtain ⟨β30, sat20⟩ := sat2.swAll la.ren
            obtain ⟨β3, sat2⟩ := sat20.canS la.can
            refine ⟨la.meas x', j4, x', h2, _, B2, lb.trans lb2, rfl, j1, le.trans le2, head_ok sat2 j3 g1' g2' j2 (hasR_mem hR) (D0 h2 a2 (le.trans le2) (sm.trans sm2)), sm.trans sm2⟩
          · exact k2.elim
        | exit i => exact next _ _ _ _ _ _ _ (lb.trans lb2) k2 (le.trans le2) sat2 (sm.trans sm2)
        | goto l => exact next _ _ _ _ _ _ _ (lb.trans lb2) k2 (le.trans le2) sat2 (sm.trans sm2)
        | ret => exact next _ _ _ _ _ _ _ (lb.trans lb2) k2 (le.trans le2) sat2 (sm.trans sm2)
        | panic ch => exact next _ _ _ _ _ _ _ (lb.trans lb2) k2 (le.trans le2) sat2 (sm.trans sm2)
        | outgrown => exact next _ _ _ _ _ _ _ (lb.trans lb2) k2 (le.trans le2) sat2 (sm.trans sm2)
    · rename_i m _
      refine wpIn_loop_rounds m ?_
      have key : ∀ (m : Nat) {B : Base} {s : St} {h : FH} {β : List RV} {w : World} {a : Act} {K : Exit → St → Prop} {Q : Exit → Act → World → Prop}, Sat E.n B h0 s h β w a → roundsK (codeK E c) m s K →
          (∀ e s' h' β' w' a' B', Base.leR E.rd B B' → K e s' → h.le h' → Sat E.n B' h0 s' h' β' w' a' → Same (writes c) a a' → Q e a' w') → Code.roundsIn F n P c Q m a w := by
        intro m
        induction m with
        | zero => intro B s h β w a K Q sat k next; exact k.elim
        | succ m ih =>
          intro B s h β w a K Q sat k next
          rw [roundsIn_succ]
          refine codeK_ok c ok hg hF hr sat k fun e s2 h2 β2 w2 a2 B2 lb2 k2 le2 sat2 sm2 => ?_
          cases e with
          | normal => exact ih sat2 k2 fun e s3 h3 β3 w3 a3 B3 lb3 k3 le3 sat3 sm3 => next e s3 h3 β3 w3 a3 B3 (lb2.trans lb3) k3 (le2.trans le3) sat3 (sm2.trans sm3)
          | exit i => exact next _ _ _ _ _ _ _ lb2 k2 le2 sat2 sm2
          | goto l => exact next _ _ _ _ _ _ _ lb2 k2 le2 sat2 sm2
          | ret => exact next _ _ _ _ _ _ _ lb2 k2 le2 sat2 sm2
          | panic ch => exact next _ _ _ _ _ _ _ lb2 k2 le2 sat2 sm2
          | outgrown => exact next _ _ _ _ _ _ _ lb2 k2 le2 sat2 sm2
      exact key m sat k next
    · exact k.elim
  | .region id ops true, h0, E, ok, hg, F, hF, hr, B, s, h, β, w, a, K, Q, sat, k, next => by
    simp only [codeK] at k
    split at k
    · exact k.elim
    rename_i hnd
    have et : tl ops = ops.toList := by cases ops; rfl
    cases hma : mapAny E.cx (tl ops) with
    | true =>
      rw [hma] at k
      simp only at k
      cases hlx : lexM ops with
      | false => rw [hlx] at k; exact k.elim
      | true =>
        rw [hlx] at k
        exact drawM_ok ok hg hlx sat k hF (by rw [et] at hnd; exact hnd) fun s' h' β' w' a' k' le sat' sm => next .normal _ _ _ _ _ _ (.refl _) k' le sat'.clean sm
    | false =>
    rw [hma] at k
    simp only at k
    cases hip : ipAny E (tl ops) with
    | true =>
      rw [hip] at k
      simp only at k
      cases hd : drawOrd0 ops with
      | none => rw [hd] at k; exact k.elim
      | some l =>
        rw [hd] at k
        exact idraw_ok ok hg hd sat k hF (by rw [et] at hnd; exact hnd) fun s' h' β' w' a' k' le sat' sm => next .normal _ _ _ _ _ _ (.refl _) k' le sat'.clean sm
    | false =>
    rw [hip] at k
    simp only at k
    cases hd : drawOrd ops with
    | none => rw [hd] at k; exact k.elim
    | some l =>
      rw [hd] at k
      exact draw_ok ok hg hd sat k hF (by rw [et] at hnd; exact hnd) fun s' h' β' w' a' k' le sat' sm => next .normal _ _ _ _ _ _ (.refl _) k' le sat'.clean sm
  | .rangeFunc g ps asg c, h0, E, ok, hg, F, hF, hr, B, s, h, β, w, a, K, Q, sat, k, next => by
    simp only [codeK] at k
    split at k
    · exact k.elim
    rename_i hrd
    have hF' := hr hrd
    subst hF'
    split at k
    · rename_i P' ss L hgE
      split at k
      · rename_i ra _
        obtain ⟨hP, k⟩ := k
        have hP := ok.prog _ hP
        subst hP
        have gv0 : Gives P' h ss L (a.eval g) := (getE_ok sat (hg.mono sat.ok.hle) (show gv s.gl [] = true from rfl) hgE).1
        obtain ⟨h1, β1, le1, sat2⟩ := Sat.turnS sat ra.frz ra.frzI ra.nil ra.nilC ra.deep
        replace next := fun e s' h' β' w' a' B1 lb k' le sat' sm => next e s' h' β' w' a' B1 lb k' (le1.trans le) sat' sm
        have gv1 := Abs.rel_mono (x := .seq P' ss L) le1 gv0
        generalize turnS s ra.frz ra.frzI ra.nil ra.nilC ra.deep = s2 at sat2 k
        refine range_ok (fun c' hc' h0' E' B' s' h' β' w' a' K' Q' l ok' hg' he sat' k' next' => ?_) ok hg sat2 gv1 k hrd next
        rcases hc' with rfl | rfl
        · exact codeK_ok _ ok' hg' (F := Fence.wide.inRound l) (.inr ⟨l, rfl⟩) (fun hh => by rw [he] at hh; cases hh) sat' k' next'
        · exact codeK_ok _ ok' hg' (F := Fence.wide.inRound l) (.inr ⟨l, rfl⟩) (fun hh => by rw [he] at hh; cases hh) sat' k' next'
      · exact k.elim
    · exact k.elim
  | .scope _, h0, E, ok, hg, F, hF, hr, B, s, h, β, w, a, K, Q, sat, k, next => k.elim
  | .label _, h0, E, ok, hg, F, hF, hr, B, s, h, β, w, a, K, Q, sat, k, next => k.elim
  | .goto _, h0, E, ok, hg, F, hF, hr, B, s, h, β, w, a, K, Q, sat, k, next => k.elim
  | .refuse _, h0, E, ok, hg, F, hF, hr, B, s, h, β, w, a, K, Q, sat, k, next => k.elim
end Go.Eng
set_option linter.unusedSimpArgs false
set_option linter.unusedVariables false
namespace Go.Eng
open Go Go.RowKit
@[reducible] def resV (cx : Cx) (s : St) (r : ResultVar) (K : SV → Prop) : Prop := match r with
  | .tmp t => match lkE s.env t with
    | some ([], .one v) => K v
    | _ => False
  | .cell p t => match lkE s.env p with
    | some ([], .one (.c q)) => loadK cx s [] t q fun e => match e with
      | .one v => K v
      | _ => False
    | _ => False
@[reducible] def resL (cx : Cx) (s : St) : List ResultVar → (List SV → Prop) → Prop
  | [], K => K []
  | r :: l, K => resV cx s r fun v => resL cx s l fun vs => K (v :: vs)
@[reducible] def memA (i : Nat) : List (Nat × Res) → Bool
  | [] => false
  | (j, _) :: l => match Nat.beq i j with
    | true => true
    | false => memA i l
@[reducible] def selC (T : List (Gd × Res)) (x : SC) (acc : List (Nat × Res)) : Option (SC × List (Nat × Res)) := match x with
  | .v u => some (.v u, acc)
  | .sl sh l => some (.sl sh l, acc)
  | .fp sh d => some (.fp sh d, acc)
  | .one sh d => some (.one sh d, acc)
  | .abs x => some (.abs x, acc)
  | .row i => match nthL T i with
    | some ([], .row t sh l) => match memA i acc with
      | true => none
      | false => some (.row (lenL acc), snoc acc (i, .row t sh l))
    | some ([], .deep t sh l tt e so own hs) => match memA i acc with
      | true => none
      | false => some (.row (lenL acc), snoc acc (i, .deep t sh l tt e so own hs))
    | some ([], .mp k sh l) => match memA i acc with
      | true => none
      | false => some (.row (lenL acc), snoc acc (i, .mp k sh l))
    | _ => none
  | _ => none
@[reducible] def selCs (T : List (Gd × Res)) : List SC → List (Nat × Res) → Option (List SC × List (Nat × Res))
  | [], acc => some ([], acc)
  | x :: l, acc => match selC T x acc with
    | some (y, acc) => match selCs T l acc with
      | some (m, acc) => some (y :: m, acc)
      | none => none
    | none => none
@[reducible] def selV (T : List (Gd × Res)) (v : SV) (acc : List (Nat × Res)) : Option (SV × List (Nat × Res)) := match v with
  | .c x => match selC T x acc with
    | some (y, acc) => some (.c y, acc)
    | none => none
  | .agg xs => match selCs T xs acc with
    | some (ys, acc) => some (.agg ys, acc)
    | none => none
  | .dat sh d => some (.dat sh d, acc)
  | .und => none
@[reducible] def selVs (T : List (Gd × Res)) : List SV → List (Nat × Res) → Option (List SV × List (Nat × Res))
  | [], acc => some ([], acc)
  | x :: l, acc => match selV T x acc with
    | some (y, acc) => match selVs T l acc with
      | some (m, acc) => some (y :: m, acc)
      | none => none
    | none => none
@[reducible] def mkEnt : List SV → Ent
  | [v] => .one v
  | vs => .tup vs
@[reducible] def sndL : List (Nat × Res) → List Res
  | [] => []
  | (_, r) :: l => r :: sndL l
@[reducible] def outK (T : List (Gd × Res)) (vs : List SV) (R : List Res → Ent → Prop) : Prop := match selVs T vs [] with
  | some (vs', acc) => R (sndL acc) (mkEnt vs')
  | none => False
@[reducible] def argE (n : Nat) : List SV → List (Nat × Gd × Ent)
  | [] => []
  | v :: l => (n, [], .one v) :: argE (Nat.succ n) l
/-! Results in the form that the contract says: rows frozen, nil slices as rows. -/
@[reducible] def frC (T : List (Gd × Res)) (x : SC) : Option (List (Gd × Res) × SC) := match x with
  | .row i => match nthL T i with
    | some ([], .row _ sh l) => some (setL T i ([], .gone), .sl sh l)
    | some ([], .deep _ sh l _ _ _ _ []) => some (setL T i ([], .gone), .sl sh l)
    | some ([], .mp k sh l) => some (setL T i ([], .gone), .one (.mp k sh) l)
    | _ => none
  | x => some (T, x)
@[reducible] def frL (T : List (Gd × Res)) : List SC → Option (List (Gd × Res) × List SC)
  | [] => some (T, [])
  | x :: l => match frC T x with
    | some (T, y) => match frL T l with
      | some (T, m) => some (T, y :: m)
      | none => none
    | none => none
@[reducible] def frV (T : List (Gd × Res)) (v : SV) : Option (List (Gd × Res) × SV) := match v with
  | .c x => match frC T x with
    | some (T, y) => some (T, .c y)
    | none => none
  | .agg xs => match frL T xs with
    | some (T, ys) => some (T, .agg ys)
    | none => none
  | v => some (T, v)
@[reducible] def coV (c : RC) (T : List (Gd × Res)) (v : SV) (K : List (Gd × Res) → SV → Prop) : Prop := match c with
  | .keep => K T v
  | .data sh => match frV T v with
    | some (T, v) => match toDat sh v with
      | some d => K T (ofDat sh d)
      | none => False
    | none => False
  | .row t sh => match v with
    | .c (.v (.slice none 0 0)) => K (snoc T ([], .row t sh [])) (.c (.row (lenL T)))
    | v => K T v
@[reducible] def coK : List RC → List (Gd × Res) → List SV → (List (Gd × Res) → List SV → Prop) → Prop
  | [], T, vs, K => K T vs
  | _ :: _, T, [], K => K T []
  | c :: cs, T, v :: vs, K => coV c T v fun T v => coK cs T vs fun T vs => K T (v :: vs)
section
variable {B : Base} {h0 : FH} {gl : List Bool} {w : World}
theorem frC_ok {T T' : List (Gd × Res)} {h : FH} {β : List RV} (ok : OK B h0 (eff gl T) h β w) {x x' : SC} {y : Value} (e : frC T x = some (T', x')) (c : CnC h β x y) :
    ∃ h', h.le h' ∧ OK B h0 (eff gl T') h' β w ∧ CnC h' β x' y := by
  unfold frC at e
  split at e
  · rename_i i
    split at e
    · rename_i t sh l hT
      cases e
      have hT' : (eff gl T)[i]? = some (.row t sh l) := by rw [eff_get, ← nthL_eq, hT]; rfl
      obtain ⟨h', le, ok', sl⟩ := ok.freeze hT' (ok.row_of hT' c)
      exact ⟨h', le, by rw [eff_set]; exact ok', sl⟩
    · rename_i t sh l t2 e2 so own hT
      cases e
      have hT' : (eff gl T)[i]? = some (.deep t sh l t2 e2 so own []) := by rw [eff_get, ← nthL_eq, hT]; rfl
      obtain ⟨us, hu, hd⟩ := ok.deep_of hT' c
      obtain ⟨le, ok', vis⟩ := ok.freezeHas hT' rfl hu
      exact ⟨_, le, by rw [eff_set]; exact ok', hd.data le fun b hb o z hz => vis b hb o z hz⟩
    · rename_i k sh l hT
      cases e
      have hT' : (eff gl T)[i]? = some (.mp k sh l) := by rw [eff_get, ← nthL_eq, hT]; rfl
      have hu := ok.mp_rv hT' c
      obtain ⟨le, ok', vs⟩ := ok.freezeHas hT' rfl hu
      exact ⟨_, le, by rw [eff_set]; exact ok', mp_data (β := β) (ok.holds i _ _ hT' hu) le fun b hb o z hz => vs b hb o z hz⟩
    · cases e
  · cases e; exact ⟨h, FH.le.refl h, ok, c⟩
theorem frL_ok : ∀ {xs xs' : List SC} {T T' : List (Gd × Res)} {h : FH} {β : List RV} {ys : List Value}, OK B h0 (eff gl T) h β w → frL T xs = some (T', xs') → All2 (fun x y => CnC h β x y ∧ oneC y) xs ys →
    ∃ h', h.le h' ∧ OK B h0 (eff gl T') h' β w ∧ All2 (fun x y => CnC h' β x y ∧ oneC y) xs' ys
  | [], xs', T, T', h, β, [], ok, e, _ => by simp [frL] at e; obtain ⟨rfl, rfl⟩ := e; exact ⟨h, FH.le.refl h, ok, trivial⟩
  | x :: l, xs', T, T', h, β, y :: ys, ok, e, ⟨c, r⟩ => by
    unfold frL at e
    split at e
    · rename_i T1 x1 h1
      split at e
      · rename_i T2 m h2
        cases e
        obtain ⟨ha, le1, ok1, c1⟩ := frC_ok ok h1 c.1
        obtain ⟨hb, le2, ok2, c2⟩ := frL_ok ok1 h2 (r.mono fun _ _ q => ⟨q.1.mono le1 (Ext.refl β), q.2⟩)
        exact ⟨hb, le1.trans le2, ok2, ⟨c1.mono le2 (Ext.refl β), c.2⟩, c2⟩
      · cases e
    · cases e
theorem frV_ok {T T' : List (Gd × Res)} {h : FH} {β : List RV} (ok : OK B h0 (eff gl T) h β w) {x x' : SV} {y : Value} (e : frV T x = some (T', x')) (c : CnV h β x y) :
    ∃ h', h.le h' ∧ OK B h0 (eff gl T') h' β w ∧ CnV h' β x' y := by
  unfold frV at e
  split at e
  · split at e
    · rename_i T1 y1 h1
      cases e
      obtain ⟨h', le, ok', c'⟩ := frC_ok ok h1 c.1
      exact ⟨h', le, ok', c', c.2⟩
    · cases e
  · split at e
    · rename_i T1 y1 h1
      cases e
      obtain ⟨ys, rfl, a⟩ := c
      obtain ⟨h', le, ok', c'⟩ := frL_ok ok h1 a
      exact ⟨h', le, ok', ys, rfl, c'⟩
    · cases e
  · cases e; exact ⟨h, FH.le.refl h, ok, c⟩
theorem coV_ok {T : List (Gd × Res)} {h : FH} {β : List RV} (ok : OK B h0 (eff gl T) h β w) {c : RC} {v : SV} {y : Value} {K : List (Gd × Res) → SV → Prop} (k : coV c T v K) (cv : CnV h β v y) :
    ∃ T' v' h' β', K T' v' ∧ h.le h' ∧ Ext β β' ∧ OK B h0 (eff gl T') h' β' w ∧ CnV h' β' v' y := by
  unfold coV at k
  split at k
  · exact ⟨T, v, h, β, k, FH.le.refl h, Ext.refl β, ok, cv⟩
  · split at k
    · rename_i T1 v1 h1
      split at k
      · rename_i d hd
        obtain ⟨h', le, ok', c'⟩ := frV_ok ok h1 cv
        obtain ⟨cs, rfl, rd⟩ := toDat_ok hd c'
        exact ⟨T1, _, h', β, k, le, Ext.refl β, ok', ofDat_ok _ rd⟩
      · exact k.elim
    · exact k.elim
  · rename_i t sh
    split at k
    · obtain ⟨e, _⟩ := cv
      obtain ⟨rfl, _⟩ := e
      refine ⟨_, _, h, β ++ [.row (.slice none 0 0)], k, FH.le.refl h, Ext.append _ _, ?_, ?_⟩
      · rw [snoc_eq, eff_append]
        exact ok.add (r := .row t sh []) (v := .row (.slice none 0 0)) (grown_refl w none) (fun b hb => by rw [has_row] at hb; simp [rowBlk] at hb) (.inl ⟨rfl, rfl⟩)
      · refine ⟨⟨.row (.slice none 0 0), ?_, rfl⟩, rfl, rfl⟩
        have : lenL T = β.length := by rw [ok.len, eff_len, lenL_eq]
        rw [this]; simp
    · exact ⟨T, v, h, β, k, FH.le.refl h, Ext.refl β, ok, cv⟩
theorem coK_ok : ∀ {cs : List RC} {vs : List SV} {ys : List Value} {T : List (Gd × Res)} {h : FH} {β : List RV} {K : List (Gd × Res) → List SV → Prop}, OK B h0 (eff gl T) h β w → coK cs T vs K → All2 (CnV h β) vs ys →
    ∃ T' vs' h' β', K T' vs' ∧ h.le h' ∧ Ext β β' ∧ OK B h0 (eff gl T') h' β' w ∧ All2 (CnV h' β') vs' ys
  | [], vs, ys, T, h, β, K, ok, k, a => ⟨T, vs, h, β, k, FH.le.refl h, Ext.refl β, ok, a⟩
  | _ :: _, [], ys, T, h, β, K, ok, k, a => ⟨T, [], h, β, k, FH.le.refl h, Ext.refl β, ok, a⟩
  | c :: cs, v :: vs, y :: ys, T, h, β, K, ok, k, ⟨cv, a⟩ => by
    obtain ⟨T1, v1, h1, β1, k1, le1, eb1, ok1, c1⟩ := coV_ok ok k cv
    obtain ⟨T2, vs2, h2, β2, k2, le2, eb2, ok2, c2⟩ := coK_ok ok1 k1 (a.mono fun _ _ q => q.mono le1 eb1)
    exact ⟨T2, v1 :: vs2, h2, β2, k2, le1.trans le2, fun i u e => eb2 i u (eb1 i u e), ok2, c1.mono le2 eb2, c2⟩
end
@[reducible] def funcK (E : Env) (body : Code) (rs : List ResultVar) (args : List SV) (R : List Res → Ent → Prop) : Prop :=
  codeK E body { env := argE 0 args, T := [], gl := [], gs := [] } fun e s => match e with
    | .normal => resL E.cx s rs fun vs => coK E.rc s.T vs fun T vs => outK T vs R
    | .ret => resL E.cx s rs fun vs => coK E.rc s.T vs fun T vs => outK T vs R
    | _ => False
section
variable {B : Base} {h0 : FH} {h : FH} {β : List RV} {w : World} {T : List (Gd × Res)} {gl : List Bool}
def Res.isRow : Res → Prop
  | .row _ _ _ => True
  | .deep _ _ _ _ _ _ _ _ => True
  | .mp _ _ _ => True
  | _ => False
structure AccOK (T : List Res) (acc : List (Nat × Res)) : Prop where
  at_ : ∀ p ∈ acc, T[p.1]? = some p.2 ∧ p.2.isRow
  dup : ∀ (i j : Nat) p q, acc[i]? = some p → acc[j]? = some q → p.1 = q.1 → i = j
def betaOf (β : List RV) (acc : List (Nat × Res)) : List RV := acc.map fun p => β.getD p.1 .no
theorem memA_false : ∀ {acc : List (Nat × Res)} {i : Nat}, memA i acc = false → ∀ p ∈ acc, p.1 ≠ i
  | [], i, _, p, hp => by simp at hp
  | (j, r) :: l, i, h, p, hp => by
    simp only [memA] at h
    split at h
    · cases h
    · rename_i hij
      rcases List.mem_cons.1 hp with rfl | hp
      · exact fun hh => Nat.ne_of_beq_eq_false hij hh.symm
      · exact memA_false h p hp
theorem AccOK.snoc {T : List Res} {acc : List (Nat × Res)} (k : AccOK T acc) {i : Nat} {r : Res} (hT : T[i]? = some r) (hr : r.isRow) (hm : memA i acc = false) : AccOK T (acc ++ [(i, r)]) where
  at_ := by
    intro p hp
    rw [List.mem_append] at hp
    rcases hp with hp | hp
    · exact k.at_ p hp
    · simp at hp; subst hp; exact ⟨hT, hr⟩
  dup := by
    intro a b p q ha hb e
    rcases getElem?_append_some ha with ⟨h1, ha⟩ | ⟨h1, rfl⟩ <;> rcases getElem?_append_some hb with ⟨h2, hb⟩ | ⟨h2, rfl⟩
    · exact k.dup a b p q ha hb e
    · exact (memA_false hm p (List.mem_of_getElem? ha) e).elim
    · exact (memA_false hm q (List.mem_of_getElem? hb) e.symm).elim
    · omega
theorem betaOf_ext (β : List RV) (acc ext : List (Nat × Res)) : Ext (betaOf β acc) (betaOf β (acc ++ ext)) := by
  unfold betaOf; rw [List.map_append]; exact Ext.append _ _
theorem selC_ok (ok : OK B h0 (eff gl T) h β w) {x x' : SC} {acc acc' : List (Nat × Res)} {y : Value} (e : selC T x acc = some (x', acc')) (k : AccOK (eff gl T) acc) (c : CnC h β x y) :
    AccOK (eff gl T) acc' ∧ (∃ ext, acc' = acc ++ ext) ∧ CnC h (betaOf β acc') x' y := by
  unfold selC at e
  split at e
  · cases e; exact ⟨k, ⟨[], by simp⟩, c⟩
  · cases e; exact ⟨k, ⟨[], by simp⟩, c⟩
  · cases e; exact ⟨k, ⟨[], by simp⟩, c⟩
  · cases e; exact ⟨k, ⟨[], by simp⟩, c⟩
  · cases e; exact ⟨k, ⟨[], by simp⟩, c⟩
  · rename_i i
    split at e
    · rename_i t sh l hT
      split at e
      · cases e
      · rename_i hm
        cases e
        have hT' : (eff gl T)[i]? = some (.row t sh l) := by rw [eff_get, ← nthL_eq, hT]; rfl
        rw [snoc_eq]
        refine ⟨k.snoc hT' trivial hm, ⟨_, rfl⟩, ?_⟩
        obtain ⟨u, c, cs⟩ := c
        refine ⟨u, ?_, cs⟩
        unfold betaOf
        rw [List.map_append, lenL_eq, List.getElem?_append_right (by simp)]
        simp [c]
    · rename_i t sh l t2 e2 so own hs hT
      split at e
      · cases e
      · rename_i hm
        cases e
        have hT' : (eff gl T)[i]? = some (.deep t sh l t2 e2 so own hs) := by rw [eff_get, ← nthL_eq, hT]; rfl
        rw [snoc_eq]
        refine ⟨k.snoc hT' trivial hm, ⟨_, rfl⟩, ?_⟩
        obtain ⟨u, c, cs⟩ := c
        refine ⟨u, ?_, cs⟩
        unfold betaOf
        rw [List.map_append, lenL_eq, List.getElem?_append_right (by simp)]
        simp [c]
    · rename_i k2 sh l hT
      split at e
      · cases e
      · rename_i hm
        cases e
        have hT' : (eff gl T)[i]? = some (.mp k2 sh l) := by rw [eff_get, ← nthL_eq, hT]; rfl
        rw [snoc_eq]
        refine ⟨k.snoc hT' trivial hm, ⟨_, rfl⟩, ?_⟩
        obtain ⟨u, c, cs⟩ := c
        refine ⟨u, ?_, cs⟩
        unfold betaOf
        rw [List.map_append, lenL_eq, List.getElem?_append_right (by simp)]
        simp [c]
    · cases e
  · cases e
theorem selCs_ok (ok : OK B h0 (eff gl T) h β w) : ∀ {xs xs' : List SC} {acc acc' : List (Nat × Res)} {ys : List Value}, selCs T xs acc = some (xs', acc') → AccOK (eff gl T) acc → All2 (fun x y => CnC h β x y ∧ oneC y) xs ys →
    AccOK (eff gl T) acc' ∧ (∃ ext, acc' = acc ++ ext) ∧ All2 (fun x y => CnC h (betaOf β acc') x y ∧ oneC y) xs' ys
  | [], xs', acc, acc', [], e, k, _ => by simp [selCs] at e; obtain ⟨rfl, rfl⟩ := e; exact ⟨k, ⟨[], by simp⟩, trivial⟩
  | x :: l, xs', acc, acc', y :: ys, e, k, ⟨c, r⟩ => by
    unfold selCs at e
    split at e
    · rename_i x1 acc1 h1
      split at e
      · rename_i m acc2 h2
        cases e
        obtain ⟨k1, ⟨ext1, rfl⟩, c1⟩ := selC_ok ok h1 k c.1
        obtain ⟨k2, ⟨ext2, rfl⟩, c2⟩ := selCs_ok ok h2 k1 r
        exact ⟨k2, ⟨ext1 ++ ext2, by rw [List.append_assoc]⟩, ⟨c1.mono (FH.le.refl h) (betaOf_ext _ _ _), c.2⟩, c2⟩
      · cases e
    · cases e
theorem selV_ok (ok : OK B h0 (eff gl T) h β w) {x x' : SV} {acc acc' : List (Nat × Res)} {y : Value} (e : selV T x acc = some (x', acc')) (k : AccOK (eff gl T) acc) (c : CnV h β x y) :
    AccOK (eff gl T) acc' ∧ (∃ ext, acc' = acc ++ ext) ∧ CnV h (betaOf β acc') x' y := by
  unfold selV at e
  split at e
  · split at e
    · rename_i y1 acc1 h1
      cases e
      obtain ⟨k1, e1, c1⟩ := selC_ok ok h1 k c.1
      exact ⟨k1, e1, c1, c.2⟩
    · cases e
  · split at e
    · rename_i y1 acc1 h1
      cases e
      obtain ⟨vs, e0, a⟩ := c
      obtain ⟨k1, e1, c1⟩ := selCs_ok ok h1 k a
      exact ⟨k1, e1, vs, e0, c1⟩
    · cases e
  · cases e; exact ⟨k, ⟨[], by simp⟩, c⟩
  · cases e
theorem selVs_ok (ok : OK B h0 (eff gl T) h β w) : ∀ {xs xs' : List SV} {acc acc' : List (Nat × Res)} {ys : List Value}, selVs T xs acc = some (xs', acc') → AccOK (eff gl T) acc → All2 (CnV h β) xs ys →
    AccOK (eff gl T) acc' ∧ (∃ ext, acc' = acc ++ ext) ∧ All2 (CnV h (betaOf β acc')) xs' ys
  | [], xs', acc, acc', [], e, k, _ => by simp [selVs] at e; obtain ⟨rfl, rfl⟩ := e; exact ⟨k, ⟨[], by simp⟩, trivial⟩
  | x :: l, xs', acc, acc', y :: ys, e, k, ⟨c, r⟩ => by
    unfold selVs at e
    split at e
    · rename_i x1 acc1 h1
      split at e
      · rename_i m acc2 h2
        cases e
        obtain ⟨k1, ⟨ext1, rfl⟩, c1⟩ := selV_ok ok h1 k c
        obtain ⟨k2, ⟨ext2, rfl⟩, c2⟩ := selVs_ok ok h2 k1 r
        exact ⟨k2, ⟨ext1 ++ ext2, by rw [List.append_assoc]⟩, CnV.mono (FH.le.refl h) (betaOf_ext _ _ _) c1, c2⟩
      · cases e
    · cases e
theorem sndL_eq : ∀ (l : List (Nat × Res)), sndL l = l.map (·.2)
  | [] => rfl
  | (_, r) :: l => by simp [sndL, sndL_eq l]
theorem OK.pick {T : List Res} (ok : OK B h0 T h β w) {acc : List (Nat × Res)} (k : AccOK T acc) : OK B h0 (sndL acc) h (betaOf β acc) w := by
  have get : ∀ {i : Nat} {r : Res} {v : RV}, (sndL acc)[i]? = some r → (betaOf β acc)[i]? = some v → ∃ p, acc[i]? = some p ∧ T[p.1]? = some r ∧ β[p.1]? = some v ∧ r.isRow := by
    intro i r v e e'
    rw [sndL_eq, List.getElem?_map] at e
    unfold betaOf at e'
    rw [List.getElem?_map] at e'
    cases hp : acc[i]? with
    | none => rw [hp] at e; cases e
    | some p =>
      rw [hp] at e e'
      cases e; cases e'
      obtain ⟨h1, h2⟩ := k.at_ p (List.mem_of_getElem? hp)
      have hlt : p.1 < β.length := by rw [ok.len]; exact (List.getElem?_eq_some_iff.1 h1).1
      exact ⟨p, rfl, h1, by simp [hlt], h2⟩
  exact {
    below := ok.below
    dr := ok.dr
    len := by rw [sndL_eq]; simp [betaOf]
    holds := by
      intro i r v e e'
      obtain ⟨p, _, h1, h2, hr⟩ := get e e'
      have := ok.holds _ _ _ h1 h2
      cases r with
      | row _ _ _ =>
        cases v with
        | row y => exact this
        | _ => exact this.elim
      | deep _ _ _ _ _ _ _ _ =>
        cases v with
        | deep y us => exact this
        | _ => exact this.elim
      | mp _ _ _ =>
        cases v with
        | row y => exact this
        | _ => exact this.elim
      | mpo _ _ _ _ => exact hr.elim
      | it _ _ _ _ => exact hr.elim
      | blk _ _ => exact hr.elim
      | obj _ _ _ => exact hr.elim
      | gone => exact hr.elim
    own := by
      intro i r v b e l e' hb
      obtain ⟨p, _, h1, h2, _⟩ := get e e'
      exact ok.own _ r v b h1 l h2 hb
    inj := by
      intro i j r r' u v b e l e' l' f f' hb hb'
      obtain ⟨p, p1, h1, h2, _⟩ := get e f
      obtain ⟨q, q1, h3, h4, _⟩ := get e' f'
      exact k.dup i j p q p1 q1 (ok.inj _ _ r r' u v b h1 l h3 l' h2 h4 hb hb')
    hle := ok.hle
    hw := ok.hw
    hg := ok.hg
    kn := ok.kn }
end
def rOne (a : Act) : ResultVar → Sem Value
  | .tmp t => pure (a.tmps.getD t undef)
  | .cell p t => do loadVar t (← asAddr (a.tmps.getD p undef))
theorem resV_ok {cx : Cx} {P : Program} (hc : TisOK P cx.ti) {N : Nat} {B : Base} {h0 : FH} {s : St} {h : FH} {β : List RV} {w : World} {a : Act} (sat : Sat N B h0 s h β w a) {r : ResultVar} {K : SV → Prop} (k : resV cx s r K) :
    ∃ v y, K v ∧ (rOne a r).run P w = .ok y w ∧ CnV h β v y := by
  unfold resV at k
  split at k
  · rename_i t
    split at k
    · rename_i v hv
      obtain ⟨z, q1, q2, _⟩ := sat.env _ _ _ hv
      exact ⟨v, z, k, by simp [rOne, q1], q2 rfl⟩
    · exact k.elim
  · rename_i p t
    split at k
    · rename_i q hq
      obtain ⟨z, q1, q2, _⟩ := sat.env _ _ _ hq
      obtain ⟨e, k1, k2⟩ := loadK_ok hc sat k
      split at k1
      · rename_i v
        obtain ⟨y, r1, r2⟩ := k2 rfl z (q2 rfl).1
        refine ⟨v, y, k1, ?_, r2⟩
        have hz : ∃ ad, z = .pointer (some ad) := by
          have c := (q2 rfl).1
          cases q with
          | v x =>
            unfold loadK at k
            split at k
            · exact k.elim
            · exact k.elim
          | sl _ _ =>
            unfold loadK at k
            split at k
            · exact k.elim
            · exact k.elim
          | fp _ _ => obtain ⟨b, o, _, e, _⟩ := c; exact ⟨_, e⟩
          | own _ _ => obtain ⟨b, _, e⟩ := c; exact ⟨_, e⟩
          | row _ =>
            unfold loadK at k
            split at k
            · exact k.elim
            · exact k.elim
          | rowp _ _ _ _ => obtain ⟨_, g, _, _, e⟩ := c; exact ⟨_, e⟩
          | subp _ _ _ _ _ => obtain ⟨_, _, g, _, _, e⟩ := c; exact ⟨_, e⟩
          | sub _ _ =>
            unfold loadK at k
            split at k
            · exact k.elim
            · exact k.elim
          | one _ _ =>
            unfold loadK at k
            split at k
            · exact k.elim
            · exact k.elim
          | abs _ =>
            unfold loadK at k
            split at k
            · exact k.elim
            · exact k.elim
          | junk =>
            unfold loadK at k
            split at k
            · exact k.elim
            · exact k.elim
        obtain ⟨ad, rfl⟩ := hz
        have hg : a.tmps.getD p undef = .pointer (some ad) := by simp [q1]
        simp only [rOne]
        rw [hg]
        simpa [Instr.loadAt, Instr.sureAddr, asAddr] using r1 w (Gro.refl w)
      · exact k1.elim
    · exact k.elim
theorem resL_ok {cx : Cx} {P : Program} (hc : TisOK P cx.ti) {N : Nat} {B : Base} {h0 : FH} {s : St} {h : FH} {β : List RV} {w : World} {a : Act} (sat : Sat N B h0 s h β w a) : ∀ {rs : List ResultVar} {K : List SV → Prop}, resL cx s rs K →
    ∃ vs ys, K vs ∧ (rs.mapM (rOne a)).run P w = .ok ys w ∧ All2 (CnV h β) vs ys
  | [], K, k => ⟨[], [], k, rfl, trivial⟩
  | r :: l, K, k => by
    obtain ⟨v, y, k1, r1, c1⟩ := resV_ok hc sat k
    obtain ⟨vs, ys, k2, r2, c2⟩ := resL_ok hc sat k1
    refine ⟨v :: vs, y :: ys, k2, ?_, c1, c2⟩
    rw [List.mapM_cons]
    simp only [Sem.run_bind, Sem.run_pure]
    rw [r1]
    simp only [Result.andThen_ok]
    rw [r2]
    rfl
theorem results_eq (fn : Func) (a : Act) : results fn a.tmps = (do let vs ← fn.results.mapM (rOne a); pure (if h : vs.size = 1 then vs[0] else .tuple vs) : Sem Value) := by
  unfold results
  congr 1
theorem results_run {P : Program} {fn : Func} {a : Act} {w : World} {ys : List Value}
    (h : ((tl fn.results).mapM (rOne a)).run P w = .ok ys w) :
    (results fn a.tmps).run P w = .ok (match ys with | [y] => y | _ => .tuple ys.toArray) w := by
  rw [results_eq]
  have e : (fn.results.mapM (rOne a)).run P w = .ok ys.toArray w := by
    cases hr : fn.results with
    | mk l =>
      rw [hr] at h
      have e2 := List.mapM_toArray (m := Sem) (f := (rOne a)) (l := l)
      refine (congrArg (fun x => Sem.run P x w) e2).trans ?_
      simp only [Sem.run_map]
      rw [show Sem.run P (List.mapM (rOne a) l) w = _ from h]; rfl
  simp only [Sem.run_bind]
  rw [e]
  simp only [Result.andThen_ok, Sem.run_pure]
  congr 1
  match ys with
  | [] => rfl
  | [y] => rfl
  | _ :: _ :: _ => simp
@[reducible] def bodyOf (fn : Func) : Code := match fn.body with
  | some c => c
  | none => .skip
theorem leave_marks {P : Program} {fn : Func} {tmps : Array Value} {R : Ending → World → Prop} {N : Nat} {B : World} {h0 : FH} {s : St} {h : FH} {β : List RV} : ∀ (X : List Nat) {w : World}, X.Nodup → (∀ D ∈ X, B.heap.size ≤ D ∧ w.heap[D]? = some (.deferred (some []))) →
    Sat N (Base.of B) h0 s h β w { tmps := tmps, defers := [] } → (∀ w', Sat N (Base.of B) h0 s h β w' { tmps := tmps, defers := [] } → ∃ v, (results fn tmps).run P w' = .ok v w' ∧ R (.returned v) w') →
    LeavesInM Fence.wide 0 P fn tmps R (X.map (fun D => ({ target := .collected D, args := #[] } : Deferred))) .returning w
  | [], w, _, _, sat, fin => fin w sat
  | D :: X, w, hn, hx, sat, fin => by
    obtain ⟨h1, h2⟩ := hx D (by simp)
    have hn := List.nodup_cons.1 hn
    refine ⟨fun hh => (by cases hh), .inl ⟨D, w.putObj D (.deferred none), rfl, run_takeDeferred h2, ?_⟩⟩
    refine leave_marks X hn.2 (fun D' hD' => ?_) ⟨sat.ok.turn h1 (fun k u hk => hk.elim) h2 rfl, sat.env, sat.gs, Dfr.nil rfl, sat.sz, sat.gb, sat.gT⟩ fin
    obtain ⟨g1, g2⟩ := hx D' (by simp [hD'])
    refine ⟨g1, (World.putObj_heap_other ?_).trans g2⟩
    rintro rfl
    exact hn.1 hD'
@[reducible] def sufE : List Value → List SV
  | [] => []
  | v :: l => .c (.v v) :: sufE l
theorem sufE_ok {h : FH} {β : List RV} : ∀ {l : List Value}, (∀ v ∈ l, isOne v = true) → All2 (CnV h β) (sufE l) l
  | [], _ => trivial
  | v :: l, hh => ⟨⟨⟨rfl, isOne_one (hh v (by simp))⟩, isOne_one (hh v (by simp))⟩, sufE_ok fun u hu => hh u (by simp [hu])⟩
theorem All2.append {α β : Type} {R : α → β → Prop} : ∀ {l l' : List α} {m m' : List β}, All2 R l m → All2 R l' m' → All2 R (l ++ l') (m ++ m')
  | [], _, [], _, _, h => h
  | _ :: _, _, _ :: _, _, ⟨a, b⟩, h => ⟨a, All2.append b h⟩
theorem fn_oks {P : Program} {E : Env} (ok : EnvOK P E) {f : FuncId} {fn : Func} {body : Code} {ct : CT} {sv : List SV} (hf : P.funcs[f]? = some fn) (hb : fn.body = some body) (hn : fn.ntmps = E.n) (hle : Nat.ble (lenL ct.ps + lenL sv) E.n = true)
    (k : ∀ d, ct.pre d → ∃ ann, funcK { E with ann := ann } body (tl fn.results) (catL (ofDats ct.ps d) sv) fun T e => (ct.res d).1 = T ∧ (ct.res d).2 = e) : CTS P E.cx.gd f sv ct := by
  intro d vs suf h B hw hg hargs hys hpre
  obtain ⟨ann, kk⟩ := k d hpre
  have ok : EnvOK P { E with ann := ann } := ⟨ok.prog, ok.hc, ok.mkf, ok.mixed, ok.ti, ok.ct, ok.ip, ok.sq⟩
  have hlen : ∀ {ss : List Sh} {d : dens ss}, (ofDats ss d).length = lenL ss := by
    intro ss
    induction ss with
    | nil => intro d; rfl
    | cons s l ih => intro d; simp [ofDats, lenL, ih]
  have hvl : vs.length = lenL ct.ps := by rw [← hargs.length, hlen]
  have hvn : (vs ++ suf).length ≤ E.n := by rw [List.length_append, hvl, ← hys.length, ← lenL_eq sv]; exact Nat.le_of_ble_eq_true hle
  replace hargs : All2 (CnV h []) (catL (ofDats ct.ps d) sv) (vs ++ suf) := by
    rw [catL_eq]; exact hargs.append hys
  generalize catL (ofDats ct.ps d) sv = av at hargs kk
  clear hvl hys
  generalize vs ++ suf = vs at hargs hvn ⊢
  refine callsIn_wide.1 (callsIn_of_wp_marks (F := Fence.wide) (n := 0) hf hb trivial ?_)
  have sat : Sat E.n (Base.of B) h { env := argE 0 av, T := [], gl := [], gs := [] } h [] B { tmps := vs.toArray ++ Array.replicate (fn.ntmps - vs.toArray.size) undef, defers := [] } := by
    have look : ∀ {xs : List SV} {ys : List Value} {n t : Nat} {G : Gd} {e : Ent}, All2 (CnV h []) xs ys → lkE (argE n xs) t = some (G, e) → ∃ y, G = [] ∧ n ≤ t ∧ ys[t - n]? = some y ∧ CnE h [] e y := by
      intro xs
      induction xs with
      | nil => intro ys n t G e _ hh; simp [argE, lkE] at hh
      | cons x xs ih =>
        intro ys n t G e a hh
        cases ys with
        | nil => exact a.elim
        | cons y ys =>
          simp only [argE] at hh
          rw [lkE_cons] at hh
          split at hh
          · rename_i hk; subst hk; cases hh; exact ⟨y, rfl, Nat.le_refl _, by simp, a.1⟩
          · obtain ⟨u, h1, h2, h3, h4⟩ := ih a.2 hh
            refine ⟨u, h1, by omega, ?_, h4⟩
            rw [show t - n = (t - (n + 1)) + 1 by omega]
            simpa using h3
    refine ⟨⟨Bw.refl (Base.of B), Nat.le_refl _, rfl, fun i r v e _ => by simp [eff] at e, fun i r v b e _ _ _ => by simp [eff] at e, fun i j r r' u v b e _ _ _ _ _ _ _ => by simp [eff] at e, FH.le.refl h, hw, fun b o v hh => .inl hh, fun k o hh => hh.elim⟩, ?_, ?_, Dfr.nil rfl, ?_, ?_, ?_⟩
    · intro t G e ht
      obtain ⟨y, rfl, h2, h3, h4⟩ := look hargs ht
      simp only [Nat.sub_zero] at h3
      refine ⟨y, ?_, fun _ => h4, fun hh => by cases hh⟩
      rw [Array.getElem?_append_left (by have := (List.getElem?_eq_some_iff.1 h3).1; simpa using this)]
      simpa using h3
    · intro d i hi; cases hi
    · simp only [Array.size_append, List.size_toArray, Array.size_replicate]; omega
    · intro t G e ht
      obtain ⟨y, rfl, _⟩ := look hargs ht
      rfl
    · intro p hp; cases hp
  refine codeK_ok body ok hg (.inl rfl) (fun _ => rfl) sat kk fun e s' h' β' w' a' B' lb k' le sat' sm => ?_
  have fin : resL E.cx s' (tl fn.results) (fun vs => coK E.rc s'.T vs fun T vs => outK T vs fun T e => (ct.res d).1 = T ∧ (ct.res d).2 = e) →
      LeavesInM Fence.wide 0 P fn a'.tmps (fun en w' => ∃ h' β y, en = .returned y ∧ OK (Base.of B) h (ct.res d).1 h' β w' ∧ CnE h' β (ct.res d).2 y) a'.defers .returning w' := by
    intro kr
    obtain ⟨X, x1, x2, x3⟩ := sat'.defers
    rw [x1]
    have e0 : B'.toWorld = B := lb.1.1
    have ea : B'.al = (Base.of B).al := lb.1.2.1
    have nd : ∀ D ∈ X, B.heap.size ≤ D ∧ w'.heap[D]? = some (.deferred (some [])) := fun D hD => ⟨by have := (x3 D hD).1; rw [ea] at this; exact this, sat'.ok.kn D _ (x3 D hD).2⟩
    have sat1 : Sat E.n (Base.of B) h s' h' β' w' { tmps := a'.tmps, defers := [] } :=
      ⟨sat'.ok.rebase (B' := Base.of B) (by rw [e0]) (by rw [ea]) (fun k o hh => hh.elim), sat'.env, sat'.gs, Dfr.nil rfl, sat'.sz, sat'.gb, sat'.gT⟩
    refine leave_marks X x2 nd sat1 fun w' sat' => ?_
    replace kr := kr
    obtain ⟨vs, ys, k1, r1, c1⟩ := resL_ok ok.ti sat' kr
    obtain ⟨T1, vs1, h1, β1, k1, le1, eb1, ok1, c1⟩ := coK_ok sat'.ok k1 c1
    unfold outK at k1
    split at k1
    · rename_i vs' acc hsel
      obtain ⟨e1, e2⟩ := k1
      obtain ⟨ka, _, c2⟩ := selVs_ok ok1 hsel ⟨fun p hp => by simp at hp, fun i j p q hp => by simp at hp⟩ c1
      refine ⟨_, results_run r1, h1, _, _, rfl, by rw [e1]; exact ok1.pick ka, ?_⟩
      rw [e2]
      match vs', ys, c2 with
      | [], [], c2 => exact ⟨[], rfl, c2⟩
      | [v], [y], c2 => exact c2.1
      | _ :: _ :: _, y :: z :: ys, c2 => exact ⟨_, rfl, c2⟩
    · exact k1.elim
  cases e with
  | normal => exact fin k'
  | ret => exact fin k'
  | exit i => exact k'.elim
  | goto l => exact k'.elim
  | panic ch => exact k'.elim
  | outgrown => exact k'.elim
theorem fn_okx {P : Program} {E : Env} (ok : EnvOK P E) {f : FuncId} {fn : Func} {body : Code} {ct : CT} {suf : List Value} (hsuf : ∀ v ∈ suf, isOne v = true) (hf : P.funcs[f]? = some fn) (hb : fn.body = some body) (hn : fn.ntmps = E.n) (hle : Nat.ble (lenL ct.ps + lenL suf) E.n = true)
    (k : ∀ d, ct.pre d → ∃ ann, funcK { E with ann := ann } body (tl fn.results) (catL (ofDats ct.ps d) (sufE suf)) fun T e => (ct.res d).1 = T ∧ (ct.res d).2 = e) : CTX P E.cx.gd f suf ct := by
  intro d vs h B hw hg hargs hpre
  have hl : lenL (sufE suf) = lenL suf := by
    clear hle k hsuf
    induction suf with
    | nil => rfl
    | cons v l ih => simp [sufE, lenL, ih]
  exact fn_oks ok hf hb hn (by rw [hl]; exact hle) k d vs suf h B hw hg hargs (sufE_ok hsuf) hpre
theorem fn_ok {P : Program} {E : Env} (ok : EnvOK P E) {f : FuncId} {fn : Func} {body : Code} {ct : CT} (hf : P.funcs[f]? = some fn) (hb : fn.body = some body) (hn : fn.ntmps = E.n) (hle : Nat.ble (lenL ct.ps) E.n = true)
    (k : ∀ d, ct.pre d → ∃ ann, funcK { E with ann := ann } body (tl fn.results) (ofDats ct.ps d) fun T e => (ct.res d).1 = T ∧ (ct.res d).2 = e) : CTOK P E.cx.gd f ct :=
  (fn_okx (suf := []) ok (fun v hv => by cases hv) hf hb hn (by simpa [lenL] using hle) (fun d hd => by
    obtain ⟨ann, kk⟩ := k d hd
    exact ⟨ann, by rw [show catL (ofDats ct.ps d) (sufE []) = ofDats ct.ps d by rw [catL_eq]; simp [sufE]]; exact kk⟩)).ok
/-! A function at a time. -/
@[reducible] def lkC : List (Nat × CT) → Nat → Option CT
  | [], _ => none
  | (k, e) :: l, n => cnd (Nat.beq k n) (some e) (lkC l n)
def Met (P : Program) (gd : Nat → Option (Sigma Sh.den)) (f : FuncId) (c : CT) : Prop := CTOK P gd f c ∧ FnIs P f
def AllMet (P : Program) (gd : Nat → Option (Sigma Sh.den)) : List (Nat × CT) → Prop
  | [] => True
  | (k, c) :: l => Met P gd k c ∧ AllMet P gd l
theorem Met.more {P : Program} {gd gd' : Nat → Option (Sigma Sh.den)} {f : Nat} {c : CT} (h : Met P gd f c) (le : ∀ g p, gd g = some p → gd' g = some p) : Met P gd' f c :=
  ⟨fun d vs h' B hw hg => h.1 d vs h' B hw fun g p e => hg g p (le g p e), h.2⟩
theorem AllMet.get {P : Program} {gd : Nat → Option (Sigma Sh.den)} : ∀ {l : List (Nat × CT)} {f : Nat} {c : CT}, AllMet P gd l → lkC l f = some c → Met P gd f c
  | [], _, _, _, e => by simp [lkC] at e
  | (k, x) :: l, t, i, ⟨h1, h2⟩, e => by
    simp only [lkC, cnd_eq] at e
    split at e
    · rename_i hk
      have : k = t := by simpa using hk
      subst this; cases e; exact h1
    · exact AllMet.get h2 e
@[reducible] def lkI : List (Nat × IP) → Nat → Option IP
  | [], _ => none
  | (k, e) :: l, n => cnd (Nat.beq k n) (some e) (lkI l n)
def MetIP (P : Program) (gd : Nat → Option (Sigma Sh.den)) (f : FuncId) (c : IP) : Prop := IPOK P gd f c ∧ FnIs P f
def AllIP (P : Program) (gd : Nat → Option (Sigma Sh.den)) : List (Nat × IP) → Prop
  | [] => True
  | (k, c) :: l => MetIP P gd k c ∧ AllIP P gd l
theorem AllIP.get {P : Program} {gd : Nat → Option (Sigma Sh.den)} : ∀ {l : List (Nat × IP)} {f : Nat} {c : IP}, AllIP P gd l → lkI l f = some c → MetIP P gd f c
  | [], _, _, _, e => by simp [lkI] at e
  | (k, x) :: l, t, i, ⟨h1, h2⟩, e => by
    simp only [lkI, cnd_eq] at e
    split at e
    · rename_i hk
      have : k = t := by simpa using hk
      subst this; cases e; exact h1
    · exact AllIP.get h2 e
theorem met_ip {P : Program} {cx : Cx} {n : Nat} {cl : List (Nat × CT)} {il : List (Nat × IP)} (mx : P.follows .mixedOrders = true) (ti : TisOK P cx.ti) (cm : AllMet P cx.gd cl) (im : AllIP P cx.gd il) {f : FuncId} {fn : Func} {ct : CT} (hf : P.funcs[f]? = some fn) (hb : fn.body = some (bodyOf fn)) (hn : fn.ntmps = n) (hle : Nat.ble (lenL ct.ps) n = true)
    (hs : fn.body.isSome = true) (hname : (fn.name == "runtime.NumGoroutine") = false)
    {rc : List RC} (k : ∀ d, ct.pre d → ∃ ann, funcK { cx := cx, n := n, ct := lkC cl, ann := ann, ip := lkI il, rc := rc } (bodyOf fn) (tl fn.results) (ofDats ct.ps d) fun T e => (ct.res d).1 = T ∧ (ct.res d).2 = e) : Met P cx.gd f ct :=
  ⟨fn_ok (E := { cx := cx, n := n, ct := lkC cl, ann := fun _ => none, ip := lkI il, rc := rc }) ⟨fun P' e => (by cases e), fun _ _ _ e => (by cases e), fun _ _ e => (by cases e), mx, ti, fun f c h => ⟨(cm.get h).1, (cm.get h).2⟩, fun f c h => ⟨(im.get h).1, (im.get h).2⟩, fun _ _ e => (by cases e)⟩ hf hb hn hle k, ⟨fn, hf, hs, hname⟩⟩
theorem met_lit {P : Program} {cx : Cx} {n : Nat} {cl : List (Nat × CT)} {il : List (Nat × IP)} (mx : P.follows .mixedOrders = true) (ti : TisOK P cx.ti) (cm : AllMet P cx.gd cl) (im : AllIP P cx.gd il) {f : FuncId} {fn : Func} {ct : CT} (hf : P.funcs[f]? = some fn) (hb : fn.body = some (bodyOf fn)) (hn : fn.ntmps = n) (hle : Nat.ble (lenL ct.ps) n = true)
    (hs : fn.body.isSome = true) (hname : (fn.name == "runtime.NumGoroutine") = false)
    {rc : List RC} {lits : List Nat} (k : ∀ d, ct.pre d → ∃ ann, funcK { cx := cx, n := n, ct := lkC cl, ann := ann, ip := lkI il, rc := rc, lits := lits } (bodyOf fn) (tl fn.results) (ofDats ct.ps d) fun T e => (ct.res d).1 = T ∧ (ct.res d).2 = e) : Met P cx.gd f ct :=
  ⟨fn_ok (E := { cx := cx, n := n, ct := lkC cl, ann := fun _ => none, ip := lkI il, rc := rc, lits := lits }) ⟨fun P' e => (by cases e), fun _ _ _ e => (by cases e), fun _ _ e => (by cases e), mx, ti, fun f c h => ⟨(cm.get h).1, (cm.get h).2⟩, fun f c h => ⟨(im.get h).1, (im.get h).2⟩, fun _ _ e => (by cases e)⟩ hf hb hn hle k, ⟨fn, hf, hs, hname⟩⟩
theorem met_rng {P : Program} {cx : Cx} {n : Nat} {cl : List (Nat × CT)} {il : List (Nat × IP)} (mx : P.follows .mixedOrders = true) (ti : TisOK P cx.ti) (cm : AllMet P cx.gd cl) (im : AllIP P cx.gd il) {f : FuncId} {fn : Func} {ct : CT} (hf : P.funcs[f]? = some fn) (hb : fn.body = some (bodyOf fn)) (hn : fn.ntmps = n) (hle : Nat.ble (lenL ct.ps) n = true)
    (hs : fn.body.isSome = true) (hname : (fn.name == "runtime.NumGoroutine") = false)
    {rc : List RC} {lits : List Nat} (k : ∀ d, ct.pre d → ∃ ann, funcK { cx := cx, n := n, ct := lkC cl, ann := ann, ip := lkI il, rc := rc, lits := lits, P := some P } (bodyOf fn) (tl fn.results) (ofDats ct.ps d) fun T e => (ct.res d).1 = T ∧ (ct.res d).2 = e) : Met P cx.gd f ct :=
  ⟨fn_ok (E := { cx := cx, n := n, ct := lkC cl, ann := fun _ => none, ip := lkI il, rc := rc, lits := lits, P := some P }) ⟨fun P' e => (by cases e; rfl), fun _ _ _ e => (by cases e), fun _ _ e => (by cases e), mx, ti, fun f c h => ⟨(cm.get h).1, (cm.get h).2⟩, fun f c h => ⟨(im.get h).1, (im.get h).2⟩, fun _ _ e => (by cases e)⟩ hf hb hn hle k, ⟨fn, hf, hs, hname⟩⟩
theorem met_of {P : Program} {cx : Cx} {n : Nat} {cl : List (Nat × CT)} (mx : P.follows .mixedOrders = true) (ti : TisOK P cx.ti) (cm : AllMet P cx.gd cl) {f : FuncId} {fn : Func} {ct : CT} (hf : P.funcs[f]? = some fn) (hb : fn.body = some (bodyOf fn)) (hn : fn.ntmps = n) (hle : Nat.ble (lenL ct.ps) n = true)
    (hs : fn.body.isSome = true) (hname : (fn.name == "runtime.NumGoroutine") = false)
    (k : ∀ d, ct.pre d → ∃ ann, funcK { cx := cx, n := n, ct := lkC cl, ann := ann } (bodyOf fn) (tl fn.results) (ofDats ct.ps d) fun T e => (ct.res d).1 = T ∧ (ct.res d).2 = e) : Met P cx.gd f ct :=
  ⟨fn_ok (E := { cx := cx, n := n, ct := lkC cl, ann := fun _ => none }) ⟨fun P' e => (by cases e), fun _ _ _ e => (by cases e), fun _ _ e => (by cases e), mx, ti, fun f c h => ⟨(cm.get h).1, (cm.get h).2⟩, fun f c h => (by cases h), fun _ _ e => (by cases e)⟩ hf hb hn hle k, ⟨fn, hf, hs, hname⟩⟩
/-! With all that there is. -/
def MkOK (P : Program) (gd : Nat → Option (Sigma Sh.den)) (g : Nat) (m : MK) : Prop :=
  ∀ d h lb, m.pre d → GlobOK gd h → capD h m.ss d lb → (m.f d).rel h (.func (.func g) #[] lb.toArray)
@[reducible] def lkM : List (Nat × MK) → Nat → Option MK
  | [], _ => none
  | (k, e) :: l, n => cnd (Nat.beq k n) (some e) (lkM l n)
def AllMk (P : Program) (gd : Nat → Option (Sigma Sh.den)) : List (Nat × MK) → Prop
  | [] => True
  | (k, c) :: l => MkOK P gd k c ∧ AllMk P gd l
theorem AllMk.get {P : Program} {gd : Nat → Option (Sigma Sh.den)} : ∀ {l : List (Nat × MK)} {f : Nat} {c : MK}, AllMk P gd l → lkM l f = some c → MkOK P gd f c
  | [], _, _, _, e => by simp [lkM] at e
  | (k, x) :: l, t, i, ⟨h1, h2⟩, e => by
    simp only [lkM, cnd_eq] at e
    split at e
    · rename_i hk
      have : k = t := by simpa using hk
      subst this; cases e; exact h1
    · exact AllMk.get h2 e
def MetX (P : Program) (gd : Nat → Option (Sigma Sh.den)) (f : FuncId) (suf : List Value) (c : CT) : Prop := CTX P gd f suf c ∧ FnIs P f
@[reducible] def lkH : List (Nat × Nat × CT) → Nat → Nat → Option CT
  | [], _, _ => none
  | (k, g, e) :: l, n, m => cnd (andB (Nat.beq k n) (Nat.beq g m)) (some e) (lkH l n m)
def AllHc (P : Program) (gd : Nat → Option (Sigma Sh.den)) : List (Nat × Nat × CT) → Prop
  | [] => True
  | (k, g, c) :: l => MetX P gd k [.func (.func g) #[] #[]] c ∧ AllHc P gd l
theorem AllHc.get {P : Program} {gd : Nat → Option (Sigma Sh.den)} : ∀ {l : List (Nat × Nat × CT)} {f g : Nat} {c : CT}, AllHc P gd l → lkH l f g = some c → MetX P gd f [.func (.func g) #[] #[]] c
  | [], _, _, _, _, e => by simp [lkH] at e
  | (k, g', x) :: l, t, g, i, ⟨h1, h2⟩, e => by
    simp only [lkH, cnd_eq, andB_eq] at e
    split at e
    · rename_i hk
      rw [Bool.and_eq_true] at hk
      have e1 : k = t := Nat.eq_of_beq_eq_true hk.1
      have e2 : g' = g := Nat.eq_of_beq_eq_true hk.2
      subst e1; subst e2; cases e; exact h1
    · exact AllHc.get h2 e
@[reducible] def envA (P : Program) (cx : Cx) (n : Nat) (cl : List (Nat × CT)) (il : List (Nat × IP)) (hl : List (Nat × Nat × CT)) (ml : List (Nat × MK)) (rc : List RC) (lits : List Nat) (ann : Nat → Option (St → Ann)) : Env :=
  { cx := cx, n := n, ct := lkC cl, ann := ann, ip := lkI il, rc := rc, lits := lits, P := some P, hc := lkH hl, mkf := lkM ml }
theorem envA_ok {P : Program} {cx : Cx} {n : Nat} {cl : List (Nat × CT)} {il : List (Nat × IP)} {hl : List (Nat × Nat × CT)} {ml : List (Nat × MK)} {rc : List RC} {lits : List Nat} {ann : Nat → Option (St → Ann)}
    (mx : P.follows .mixedOrders = true) (ti : TisOK P cx.ti) (cm : AllMet P cx.gd cl) (im : AllIP P cx.gd il) (hm : AllHc P cx.gd hl) (mm : AllMk P cx.gd ml) : EnvOK P (envA P cx n cl il hl ml rc lits ann) where
  prog := fun P' e => by cases e; rfl
  hc := fun f g c e => hm.get e
  mkf := fun g fx e => mm.get e
  mixed := mx
  ti := ti
  ct := fun f c h => cm.get h
  ip := fun f c h => im.get h
  sq := fun f c h => by cases h
theorem met_all {P : Program} {cx : Cx} {n : Nat} {cl : List (Nat × CT)} {il : List (Nat × IP)} {hl : List (Nat × Nat × CT)} {ml : List (Nat × MK)} {rc : List RC} {lits : List Nat} {suf : List Value}
    (mx : P.follows .mixedOrders = true) (ti : TisOK P cx.ti) (cm : AllMet P cx.gd cl) (im : AllIP P cx.gd il) (hm : AllHc P cx.gd hl) (mm : AllMk P cx.gd ml) {f : FuncId} {fn : Func} {ct : CT} (hf : P.funcs[f]? = some fn) (hb : fn.body = some (bodyOf fn)) (hn : fn.ntmps = n)
    (hle : Nat.ble (lenL ct.ps + lenL suf) n = true) (hs : fn.body.isSome = true) (hname : (fn.name == "runtime.NumGoroutine") = false) (hsuf : ∀ v ∈ suf, isOne v = true)
    (k : ∀ d, ct.pre d → ∃ ann, funcK (envA P cx n cl il hl ml rc lits ann) (bodyOf fn) (tl fn.results) (catL (ofDats ct.ps d) (sufE suf)) fun T e => (ct.res d).1 = T ∧ (ct.res d).2 = e) : MetX P cx.gd f suf ct :=
  ⟨fn_okx (E := envA P cx n cl il hl ml rc lits fun _ => none) (envA_ok mx ti cm im hm mm) hsuf hf hb hn hle k, ⟨fn, hf, hs, hname⟩⟩
/-! Functions whose last argument is an iterator. -/
def MetS (P : Program) (gd : Nat → Option (Sigma Sh.den)) (f : FuncId) (q : SQ) : Prop := (∀ L, CTS P gd f [.c (.abs (.seq P q.ss L))] (q.ct L)) ∧ FnIs P f
@[reducible] def lkQ : List (Nat × SQ) → Nat → Option SQ
  | [], _ => none
  | (k, e) :: l, n => cnd (Nat.beq k n) (some e) (lkQ l n)
def AllQ (P : Program) (gd : Nat → Option (Sigma Sh.den)) : List (Nat × SQ) → Prop
  | [] => True
  | (k, c) :: l => MetS P gd k c ∧ AllQ P gd l
theorem AllQ.get {P : Program} {gd : Nat → Option (Sigma Sh.den)} : ∀ {l : List (Nat × SQ)} {f : Nat} {c : SQ}, AllQ P gd l → lkQ l f = some c → MetS P gd f c
  | [], _, _, _, e => by simp [lkQ] at e
  | (k, x) :: l, t, i, ⟨h1, h2⟩, e => by
    simp only [lkQ, cnd_eq] at e
    split at e
    · rename_i hk
      have : k = t := by simpa using hk
      subst this; cases e; exact h1
    · exact AllQ.get h2 e
@[reducible] def envS (P : Program) (cx : Cx) (n : Nat) (cl : List (Nat × CT)) (ql : List (Nat × SQ)) (rc : List RC) (ann : Nat → Option (St → Ann)) : Env :=
  { cx := cx, n := n, ct := lkC cl, ann := ann, rc := rc, P := some P, sq := lkQ ql }
theorem envS_ok {P : Program} {cx : Cx} {n : Nat} {cl : List (Nat × CT)} {ql : List (Nat × SQ)} {rc : List RC} {ann : Nat → Option (St → Ann)}
    (mx : P.follows .mixedOrders = true) (ti : TisOK P cx.ti) (cm : AllMet P cx.gd cl) (qm : AllQ P cx.gd ql) : EnvOK P (envS P cx n cl ql rc ann) where
  prog := fun P' e => by cases e; rfl
  hc := fun f g c e => by cases e
  mkf := fun g fx e => by cases e
  mixed := mx
  ti := ti
  ct := fun f c h => cm.get h
  ip := fun f c h => by cases h
  sq := fun f c h => qm.get h
theorem met_sq {P : Program} {cx : Cx} {n : Nat} {cl : List (Nat × CT)} {ql : List (Nat × SQ)} {rc : List RC} {q : SQ}
    (mx : P.follows .mixedOrders = true) (ti : TisOK P cx.ti) (cm : AllMet P cx.gd cl) (qm : AllQ P cx.gd ql) {f : FuncId} {fn : Func} (hf : P.funcs[f]? = some fn) (hb : fn.body = some (bodyOf fn)) (hn : fn.ntmps = n)
    (hle : ∀ L, Nat.ble (lenL (q.ct L).ps + 1) n = true) (hs : fn.body.isSome = true) (hname : (fn.name == "runtime.NumGoroutine") = false)
    (k : ∀ L d, (q.ct L).pre d → ∃ ann, funcK (envS P cx n cl ql rc ann) (bodyOf fn) (tl fn.results) (catL (ofDats (q.ct L).ps d) [.c (.abs (.seq P q.ss L))]) fun T e => ((q.ct L).res d).1 = T ∧ ((q.ct L).res d).2 = e) : MetS P cx.gd f q :=
  ⟨fun L => fn_oks (E := envS P cx n cl ql rc fun _ => none) (envS_ok mx ti cm qm) hf hb hn (hle L) (k L), ⟨fn, hf, hs, hname⟩⟩
theorem met_usq {P : Program} {cx : Cx} {n : Nat} {cl : List (Nat × CT)} {ql : List (Nat × SQ)} {rc : List RC} {ct : CT}
    (mx : P.follows .mixedOrders = true) (ti : TisOK P cx.ti) (cm : AllMet P cx.gd cl) (qm : AllQ P cx.gd ql) {f : FuncId} {fn : Func} (hf : P.funcs[f]? = some fn) (hb : fn.body = some (bodyOf fn)) (hn : fn.ntmps = n)
    (hle : Nat.ble (lenL ct.ps) n = true) (hs : fn.body.isSome = true) (hname : (fn.name == "runtime.NumGoroutine") = false)
    (k : ∀ d, ct.pre d → ∃ ann, funcK (envS P cx n cl ql rc ann) (bodyOf fn) (tl fn.results) (ofDats ct.ps d) fun T e => (ct.res d).1 = T ∧ (ct.res d).2 = e) : Met P cx.gd f ct :=
  ⟨fn_ok (E := envS P cx n cl ql rc fun _ => none) (envS_ok mx ti cm qm) hf hb hn hle k, ⟨fn, hf, hs, hname⟩⟩
theorem MetX.met {P : Program} {gd : Nat → Option (Sigma Sh.den)} {f : FuncId} {c : CT} (h : MetX P gd f [] c) : Met P gd f c := ⟨h.1.ok, h.2⟩
end Go.Eng
set_option linter.unusedSimpArgs false
set_option linter.unusedVariables false
namespace Go.Eng
open Go Go.RowKit
theorem leave_marksG {P : Program} {fn : Func} {tmps : Array Value} {R : Ending → World → Prop} {N : Nat} {B : Base} (hnc : ∀ k u, ¬ B.nc k u) {h0 : FH} {s : St} {h : FH} {β : List RV} : ∀ (X : List Nat) {w : World}, X.Nodup → (∀ D ∈ X, B.al D ∧ w.heap[D]? = some (.deferred (some []))) →
    Sat N B h0 s h β w { tmps := tmps, defers := [] } → (∀ w', Sat N B h0 s h β w' { tmps := tmps, defers := [] } → ∃ v, (results fn tmps).run P w' = .ok v w' ∧ R (.returned v) w') →
    LeavesInM Fence.wide 0 P fn tmps R (X.map (fun D => ({ target := .collected D, args := #[] } : Deferred))) .returning w
  | [], w, _, _, sat, fin => fin w sat
  | D :: X, w, hn, hx, sat, fin => by
    obtain ⟨h1, h2⟩ := hx D (by simp)
    have hn := List.nodup_cons.1 hn
    refine ⟨fun hh => (by cases hh), .inl ⟨D, w.putObj D (.deferred none), rfl, run_takeDeferred h2, ?_⟩⟩
    refine leave_marksG hnc X hn.2 (fun D' hD' => ?_) ⟨sat.ok.turn h1 (fun k u hk => (hnc k u hk).elim) h2 rfl, sat.env, sat.gs, Dfr.nil rfl, sat.sz, sat.gb, sat.gT⟩ fin
    obtain ⟨g1, g2⟩ := hx D' (by simp [hD'])
    refine ⟨g1, (World.putObj_heap_other ?_).trans g2⟩
    rintro rfl
    exact hn.1 hD'
@[reducible] def Base.lent (B : World) (v : Value) : Base := { B with nc := fun _ _ => False, cell := fun _ _ h => h.elim, al := fun k => B.heap.size ≤ k ∨ rowBlk v = some k, up := fun _ h => .inl h }
@[reducible] def ipEnd (s : St) (t : TypeId) (sh : Sh) (R : List sh.den → Prop) : Prop := match lkE s.env 0 with
  | some ([], .one (.c (.row i))) => match nthL s.T i with
    | some ([], .row t' sh' l') => match castD (.sl sh') l' (.sl sh) with
      | some l => t' = t ∧ R l
      | none => False
    | _ => False
  | _ => False
@[reducible] def funcI (E : Env) (body : Code) (t : TypeId) (sh : Sh) (l : List sh.den) (args : List SV) (R : List sh.den → Prop) : Prop :=
  codeK E body { env := (0, [], .one (.c (.row 0))) :: argE 1 args, T := [([], .row t sh l)], gl := [], gs := [] } fun e s => match e with
    | .normal => ipEnd s t sh R
    | .ret => ipEnd s t sh R
    | _ => False
theorem ip_okx {P : Program} {E : Env} (ok : EnvOK P E) {f : FuncId} {fn : Func} {body : Code} {ip : IP} (hf : P.funcs[f]? = some fn) (hb : fn.body = some body) (hn : fn.ntmps = E.n) (hle : Nat.ble (lenL ip.ps + 1) E.n = true) (hres : fn.results = #[]) (hwr : memN 0 (writes body) = false) (hbk : ip.back = false) (hfl : shFlat ip.sh = true)
    (k : ∀ t l d, ip.pre l d → ∃ ann, funcI { E with ann := ann } body t ip.sh l (ofDats ip.ps d) fun l' => ip.res l d = l') : IPOK P E.cx.gd f ip := by
  intro t l d v vs h B hw hg hold hfr hargs hpre
  obtain ⟨ann, kk⟩ := k t l d hpre
  have ok : EnvOK P { E with ann := ann } := ⟨ok.prog, ok.hc, ok.mkf, ok.mixed, ok.ti, ok.ct, ok.ip, ok.sq⟩
  have hlen : ∀ {ss : List Sh} {d : dens ss}, (ofDats ss d).length = lenL ss := by
    intro ss
    induction ss with
    | nil => intro d; rfl
    | cons s l ih => intro d; simp [ofDats, lenL, ih]
  have hvl : vs.length = lenL ip.ps := by rw [← hargs.length, hlen]
  have hvn : (v :: vs).length ≤ E.n := by rw [List.length_cons, hvl]; exact Nat.le_of_ble_eq_true hle
  have hone : oneC v := by rcases hold with ⟨rfl, _⟩ | ⟨_, rfl, _⟩ | ⟨g, cap, cur, rfl, _⟩ <;> exact ⟨rfl, rfl⟩
  have hargs : All2 (CnV h [.row v]) (ofDats ip.ps d) vs := hargs.mono fun _ _ c => c.mono (FH.le.refl h) (fun i u e => by simp at e)
  generalize ofDats ip.ps d = av at hargs kk
  clear hvl
  refine callsIn_wide.1 (callsIn_of_wp_marks (F := Fence.wide) (n := 0) hf hb trivial ?_)
  have sat : Sat E.n (Base.lent B v) h { env := (0, [], .one (.c (.row 0))) :: argE 1 av, T := [([], .row t ip.sh l)], gl := [], gs := [] } h [.row v] B { tmps := (v :: vs).toArray ++ Array.replicate (fn.ntmps - (v :: vs).toArray.size) undef, defers := [] } := by
    have look : ∀ {xs : List SV} {ys : List Value} {n t : Nat} {G : Gd} {e : Ent}, All2 (CnV h [.row v]) xs ys → lkE (argE n xs) t = some (G, e) → ∃ y, G = [] ∧ n ≤ t ∧ ys[t - n]? = some y ∧ CnE h [.row v] e y := by
      intro xs
      induction xs with
      | nil => intro ys n t G e _ hh; simp [argE, lkE] at hh
      | cons x xs ih =>
        intro ys n t G e a hh
        cases ys with
        | nil => exact a.elim
        | cons y ys =>
          simp only [argE] at hh
          rw [lkE_cons] at hh
          split at hh
          · rename_i hk; subst hk; cases hh; exact ⟨y, rfl, Nat.le_refl _, by simp, a.1⟩
          · obtain ⟨u, h1, h2, h3, h4⟩ := ih a.2 hh
            refine ⟨u, h1, by omega, ?_, h4⟩
            rw [show t - n = (t - (n + 1)) + 1 by omega]
            simpa using h3
    have look0 : ∀ {t : Nat} {G : Gd} {e : Ent}, lkE ((0, [], Ent.one (.c (.row 0))) :: argE 1 av) t = some (G, e) → ∃ y, G = [] ∧ (v :: vs)[t]? = some y ∧ CnE h [.row v] e y := by
      intro t G e hh
      rw [lkE_cons] at hh
      split at hh
      · rename_i hk; subst hk; cases hh; exact ⟨v, rfl, rfl, ⟨⟨.row v, rfl, rfl⟩, hone⟩⟩
      · obtain ⟨y, h1, h2, h3, h4⟩ := look hargs hh
        refine ⟨y, h1, ?_, h4⟩
        rw [show t = (t - 1) + 1 by omega]
        simpa using h3
    have T0 : ∀ {i : Nat} {r : Res}, (eff [] [(([] : Gd), Res.row t ip.sh l)])[i]? = some r → i = 0 ∧ r = .row t ip.sh l := by
      intro i r e
      cases i with
      | zero => simp [eff, gv, cnd] at e; exact ⟨rfl, e.symm⟩
      | succ i => simp [eff] at e
    refine ⟨⟨Bw.refl (Base.lent B v), Nat.le_refl _, rfl, fun i r u e e' => ?_, fun i r u b e hl e' hb => ?_, fun i j r r' u u' b e _ e' _ _ _ _ _ => ?_, FH.le.refl h, hw, fun b o v hh => .inl hh, fun k o hh => hh.elim⟩, ?_, ?_, Dfr.nil rfl, ?_, ?_, ?_⟩
    · obtain ⟨rfl, rfl⟩ := T0 e
      cases e'
      exact hold.anyβ
    · obtain ⟨rfl, rfl⟩ := T0 e
      cases e'
      obtain ⟨o, ho, _⟩ := hold.cells rfl hb
      rw [has_row] at hb
      exact ⟨.inr hb, (Array.getElem?_eq_some_iff.1 ho).1, hfr b hb⟩
    · rw [(T0 e).1, (T0 e').1]
    · intro t G e ht
      obtain ⟨y, rfl, h3, h4⟩ := look0 ht
      refine ⟨y, ?_, fun _ => h4, fun hh => by cases hh⟩
      rw [Array.getElem?_append_left (by have := (List.getElem?_eq_some_iff.1 h3).1; simpa using this)]
      simpa using h3
    · intro d i hi; cases hi
    · simp only [Array.size_append, List.size_toArray, Array.size_replicate]; omega
    · intro t G e ht
      obtain ⟨y, rfl, _⟩ := look0 ht
      rfl
    · intro p hp
      simp at hp
      subst hp; rfl
  have a0 : (({ tmps := (v :: vs).toArray ++ Array.replicate (fn.ntmps - (v :: vs).toArray.size) undef, defers := [] } : Act)).tmps[0]? = some v := by
    show ((v :: vs).toArray ++ _)[0]? = some v
    rw [Array.getElem?_append_left (by simp)]; simp
  refine codeK_ok body ok hg (.inl rfl) (fun _ => rfl) sat kk fun e s' h' β' w' a' B' lb k' le sat' sm => ?_
  have fin : ipEnd s' t ip.sh (fun l' => ip.res l d = l') →
      LeavesInM Fence.wide 0 P fn a'.tmps (fun en w' => ∃ v' y, en = .returned y ∧ Gb B w' (rowBlk v) ∧ (∀ b, rowBlk v' = some b → rowBlk v = some b ∨ (B.heap.size ≤ b ∧ b < w'.heap.size)) ∧
        Holds h [] w' (.row t ip.sh (ip.res l d)) (.row v') ∧ (ip.back = true → y = v') ∧ (ip.back = false → y = .tuple #[] ∧ v' = v)) a'.defers .returning w' := by
    intro kr
    obtain ⟨X, x1, x2, x3⟩ := sat'.defers
    rw [x1]
    have e0 : B'.toWorld = B := lb.1.1
    have ea : B'.al = (Base.lent B v).al := lb.1.2.1
    have nd : ∀ D ∈ X, (Base.lent B v).al D ∧ w'.heap[D]? = some (.deferred (some [])) := fun D hD => ⟨by have := (x3 D hD).1; rw [ea] at this; exact this, sat'.ok.kn D _ (x3 D hD).2⟩
    have sat1 : Sat E.n (Base.lent B v) h s' h' β' w' { tmps := a'.tmps, defers := [] } :=
      ⟨sat'.ok.rebase (B' := Base.lent B v) (by rw [e0]) (by rw [ea]) (fun k o hh => hh.elim), sat'.env, sat'.gs, Dfr.nil rfl, sat'.sz, sat'.gb, sat'.gT⟩
    refine leave_marksG (fun _ _ hh => hh) X x2 nd sat1 fun w' sat' => ?_
    unfold ipEnd at kr
    split at kr
    · rename_i i hi
      split at kr
      · rename_i t' sh' l' hT
        split at kr
        · rename_i l2 hl2
          obtain ⟨rfl, kr⟩ := kr
          obtain ⟨e1, e2⟩ := castSl hl2
          subst e1; simp only at e2; subst e2
          have hT' : (eff s'.gl s'.T)[i]? = some (.row t' ip.sh l') := effres hT (show gv s'.gl [] = true from rfl)
          obtain ⟨z, z1, z2, _⟩ := sat'.env 0 [] _ hi
          have hz : z = v := by
            have := sm 0 hwr
            simp only at z1
            rw [z1, a0] at this
            exact Option.some.inj this
          subst hz
          have hu := sat'.ok.row_of hT' (z2 rfl).1
          have hh := sat'.ok.holds i _ _ hT' hu
          refine ⟨.tuple #[], ?_, z, _, rfl, ⟨⟨sat'.ok.below.os, sat'.ok.below.tape, sat'.ok.below.output, sat'.ok.below.size, fun k hk hne => sat'.ok.below.block k hk ?_⟩, sat'.ok.dr⟩, fun b hb => .inl hb, ?_, fun hh => ?_, fun _ => ⟨rfl, rfl⟩⟩
          · rw [results_run (ys := [])]
            rw [hres]; rfl
          · rintro (q | q)
            · exact absurd hk (by show ¬ k < B.heap.size; have : B.heap.size ≤ k := q; omega)
            · exact hne q.symm
          · rw [kr]
            exact (Holds.flat (h' := h) (show resFlat (.row t' ip.sh l') = true from hfl) hh).anyβ
          · rw [hbk] at hh; cases hh
        · exact kr.elim
      · exact kr.elim
    · exact kr.elim
  cases e with
  | normal => exact fin k'
  | ret => exact fin k'
  | exit i => exact k'.elim
  | goto l => exact k'.elim
  | panic ch => exact k'.elim
  | outgrown => exact k'.elim
theorem metip_all {P : Program} {cx : Cx} {n : Nat} {cl : List (Nat × CT)} {il : List (Nat × IP)} {hl : List (Nat × Nat × CT)} {ml : List (Nat × MK)} {lits : List Nat}
    (mx : P.follows .mixedOrders = true) (ti : TisOK P cx.ti) (cm : AllMet P cx.gd cl) (im : AllIP P cx.gd il) (hm : AllHc P cx.gd hl) (mm : AllMk P cx.gd ml) {f : FuncId} {fn : Func} {ip : IP} (hf : P.funcs[f]? = some fn) (hb : fn.body = some (bodyOf fn)) (hn : fn.ntmps = n)
    (hle : Nat.ble (lenL ip.ps + 1) n = true) (hs : fn.body.isSome = true) (hname : (fn.name == "runtime.NumGoroutine") = false) (hres : fn.results = #[]) (hwr : memN 0 (writes (bodyOf fn)) = false) (hbk : ip.back = false) (hfl : shFlat ip.sh = true)
    (k : ∀ t l d, ip.pre l d → ∃ ann, funcI (envA P cx n cl il hl ml [] lits ann) (bodyOf fn) t ip.sh l (ofDats ip.ps d) fun l' => ip.res l d = l') : MetIP P cx.gd f ip :=
  ⟨ip_okx (E := envA P cx n cl il hl ml [] lits fun _ => none) (envA_ok mx ti cm im hm mm) hf hb hn hle hres hwr hbk hfl k, ⟨fn, hf, hs, hname⟩⟩
end Go.Eng
set_option linter.unusedSimpArgs false
set_option linter.unusedVariables false
namespace Go.Eng
open Go Go.RowKit
@[reducible] def yldOf (s : St) (o : Oper) : Option Nat := match o.guard with
  | some _ => none
  | none => match o.op with
    | .call c => match c.callee with
      | .value (.tmp t) => match lkE s.env t with
        | some ([], .one (.c (.abs (.yld l)))) => some l
        | _ => none
      | _ => none
    | _ => none
@[reducible] def genOps (E : Env) (l : Nat) (ss : List Sh) (L : List (dens ss)) (ops : List Oper) : List Oper → Nat → St → (Option Nat → St → Prop) → Prop
  | [], i, s, K => K (some i) s
  | o :: r, i, s, K => match yldOf s o with
    | some l' => match dOK E.n o.dst with
      | false => False
      | true => l = l' ∧ match argsV E.cx s [] (argsOf o.op) with
        | none => False
        | some vs => match allL noRow vs with
          | false => False
          | true => match borA s [] vs with
            | none => False
            | some bs => match datA ss bs with
              | none => False
              | some d => L[i]? = some d ∧ genOps E l ss L ops r (i + 1) (s.put o.dst [] (.one (.c (.v (.bool true))))) K ∧ opsI E ops r (s.put o.dst [] (.one (.c (.v (.bool false))))) fun s => K none s
    | none => stepI E ops o s fun s => genOps E l ss L ops r i s K
@[reducible] def yldG (s : St) (o : Oper) : Option Nat := match o.op with
    | .call c => match c.callee with
      | .value (.tmp t) => match lkE s.env t with
        | some (_, .one (.c (.abs (.yld l)))) => some l
        | _ => none
      | _ => none
    | _ => none
@[reducible] def yldAny (s : St) : List Oper → Bool
  | [] => false
  | o :: l => match o.op with
    | .call c => match c.callee with
      | .value (.tmp _) => true
      | _ => yldAny s l
    | _ => yldAny s l
@[reducible] def gtreeK (E : Env) (l : Nat) (ss : List Sh) (L : List (dens ss)) (ops : List Oper) : OT → Option Nat → St → (Option Nat → St → Prop) → Prop
  | .done, g, s, K => K g s
  | .op o t, g, s, K => match g with
    | some i => match yldG s o with
      | some l' => match dOK E.n o.dst with
        | false => False
        | true => match o.op with
          | .call c => match c.callee with
            | .value (.tmp t') => l = l' ∧ guardK E.lits s ops o.guard fun G s => match lkE s.env t' with
              | some (Gt, .one (.c (.abs (.yld l2)))) => match gsub Gt G with
                | false => False
                | true => l' = l2 ∧ match argsV E.cx s G (argsOf o.op) with
                  | none => False
                  | some vs => match allL noRow vs with
                    | false => False
                    | true => match borA s G vs with
                      | none => False
                      | some bs => match datA ss bs with
                        | none => False
                        | some d => br (gv s.gl G) (L[i]? = some d ∧ gtreeK E l ss L ops t (some (i + 1)) (s.put o.dst G (.one (.c (.v (.bool true))))) K ∧ gtreeK E l ss L ops t none (s.put o.dst G (.one (.c (.v (.bool false))))) K)
                          (gtreeK E l ss L ops t (some i) (s.put o.dst G (.one (.c (.v (.bool false))))) K)
              | _ => False
            | _ => False
          | _ => False
      | none => stepK E ops o s fun s => gtreeK E l ss L ops t (some i) s K
    | none => stepK E ops o s fun s => gtreeK E l ss L ops t none s K
  | .alt o t m, g, s, K => match g with
    | some i => match yldG s o with
      | some _ => False
      | none => (stepK E ops o s fun s => gtreeK E l ss L ops t (some i) s K) ∧ gtreeK E l ss L ops m (some i) s K
    | none => (stepK E ops o s fun s => gtreeK E l ss L ops t none s K) ∧ gtreeK E l ss L ops m none s K
def genOrd (ops : Array Oper) : Option OT :=
  let t := genT ops ops.size (Array.replicate ops.size false)
  if Region.noSelect ops && chkT ops t true ops.size (Array.replicate ops.size false) then some (opT ops t) else none
@[reducible] def genLoop (body : Nat → St → (Exit → Option Nat → St → Prop) → Prop) (ws : List Nat) (la : LA) (gh : la.α → Nat) (i : Nat) (s : St) (K : Exit → Option Nat → St → Prop) : Prop :=
  (∃ x, la.inv x ∧ gh x = i ∧ hasE s (la.slots x) ∧ s.T = updT (la.res x) s.T) ∧
  ∀ x, la.inv x → match andB (goodT (lenL s.T) (updT (la.res x) s.T)) (goodS (lenL s.T) ws (la.slots x)) with
    | false => False
    | true => body (gh x) (headSt ws s (la.slots x) (la.res x)) fun e g s' => match e with
      | .normal => match g with
        | some j => match hasR s' (keepR (lenL s.T) ws [] s.env) with
          | true => ∃ x', la.inv x' ∧ gh x' = j ∧ hasE s' (la.slots x') ∧ takeL (lenL s.T) s'.T = updT (la.res x') s.T ∧ la.meas x' < la.meas x
          | false => False
        | none => False
      | e => K e g s'
@[reducible] def genK (E : Env) (l : Nat) (ss : List Sh) (L : List (dens ss)) : Code → Nat → St → (Exit → Option Nat → St → Prop) → Prop
  | .skip, i, s, K => K .normal (some i) s
  | .region id ops draw, i, s, K => match ndL (tl ops) with
    | false => False
    | true => match draw with
      | false => genOps E l ss L (tl ops) (tl ops) i s fun g s => K .normal g (clean s)
      | true => match yldAny s (tl ops) with
        | false => match drawOrd ops with
          | some t => treeK E (tl ops) t s fun s => K .normal (some i) (clean s)
          | none => False
        | true => match genOrd ops with
          | some t => gtreeK E l ss L (tl ops) t (some i) s fun g s => K .normal g (clean s)
          | none => False
  | .seq x y, i, s, K => genK E l ss L x i s fun e g s' => match e with
    | .normal => match g with
      | some j => genK E l ss L y j s' K
      | none => codeK E y s' fun e s' => K e none s'
    | e => K e g s'
  | .cond c x y, i, s, K => match getE E.cx s [] c with
    | some (.one (.c (.v (.bool b)))) => br b (genK E l ss L x i s K) (genK E l ss L y i s K)
    | _ => False
  | .block id c, i, s, K => genK E l ss L c i s fun e g s' => match e with
    | .exit j => match Nat.beq j id with
      | true => K .normal g s'
      | false => K (.exit j) g s'
    | e => K e g s'
  | .loop c, i, s, K => match annK E c s with
    | some (.gen la gh) => genLoop (genK E l ss L c) (catL la.drop (writes c)) la gh i s K
    | _ => False
  | .exit j, i, s, K => K (.exit j) (some i) s
  | .ret, i, s, K => K .ret (some i) s
  | _, _, _, _ => False
def GS (N : Nat) (J : Option Nat → (Nat → Prop) → World → Prop) (h0 : FH) (g : Option Nat) (s : St) (h : FH) (β : List RV) (w : World) (a : Act) : Prop :=
  ∃ (B : Base) (G : Nat → Prop), J g G B.toWorld ∧ (∀ b, G b → b < B.heap.size) ∧ (∀ k, B.al k ↔ G k ∨ B.heap.size ≤ k) ∧ (∀ k o, B.nc k o → B.al k) ∧ Sat N B h0 s h β w a
section
variable {N : Nat} {J : Option Nat → (Nat → Prop) → World → Prop} {h0 : FH} {g : Option Nat} {s : St} {h : FH} {β : List RV} {w : World} {a : Act}
theorem Sat.norm {B : Base} (sat : Sat N B h0 s h β w a) : ∃ B' : Base, B'.toWorld = B.toWorld ∧ B'.al = B.al ∧ (∀ k o, B'.nc k o → B'.al k) ∧ Sat N B' h0 s h β w a := by
  obtain ⟨X, x1, x2, x3⟩ := sat.defers
  refine ⟨{ B with nc := fun k o => k ∈ X ∧ o = .deferred (some []), cell := fun k o hh => by rw [hh.2] }, rfl, rfl, fun k o hh => (x3 k hh.1).1, ?_⟩
  exact ⟨sat.ok.rebase rfl rfl (fun k o hh => by rw [hh.2]; exact sat.ok.kn k _ (x3 k hh.1).2), sat.env, sat.gs, ⟨X, x1, x2, fun D hD => ⟨(x3 D hD).1, hD, rfl⟩⟩, sat.sz, sat.gb, sat.gT⟩
theorem GS.step {B B' : Base} {G : Nat → Prop} (hJ : J g G B.toWorld) (hG : ∀ b, G b → b < B.heap.size) (ha : ∀ k, B.al k ↔ G k ∨ B.heap.size ≤ k) (lb : B.leB B') {s' : St} {h' : FH} {β' : List RV} {w' : World} {a' : Act} (sat : Sat N B' h0 s' h' β' w' a') : GS N J h0 g s' h' β' w' a' := by
  obtain ⟨B2, e1, e2, e3, sat2⟩ := sat.norm
  have e4 : B2.toWorld = B.toWorld := e1.trans lb.1
  refine ⟨B2, G, by rw [e4]; exact hJ, fun b hb => by rw [e4]; exact hG b hb, fun k => ?_, e3, sat2⟩
  rw [e2, lb.2.1, ha k, e4]
def gNow (B : Base) (w : World) (b : Nat) : Prop := B.al b ∧ b < w.heap.size
theorem GS.now {B : Base} {G : Nat → Prop} (hAb : ∀ i G G' A A', J i G A → Gs G A A' → Own' G G' A A' → J i G' A') (hJ : J g G B.toWorld) (ha : ∀ k, B.al k ↔ G k ∨ B.heap.size ≤ k) (sat : Sat N B h0 s h β w a) : J g (gNow B w) w := by
  refine hAb g G _ _ _ hJ ⟨sat.ok.below.os, sat.ok.below.tape, sat.ok.below.output, sat.ok.below.size, sat.ok.dr, fun k hk hn => sat.ok.below.block k hk fun hh => ?_⟩ fun b hb => ⟨hb.2, (ha b).1 hb.1⟩
  rcases (ha k).1 hh with h1 | h1
  · exact hn h1
  · omega
theorem GS.turn {B : Base} (e3 : ∀ k o, B.nc k o → B.al k) (sat : Sat N B h0 s h β w a) {A' : World} {g' : Option Nat} (hJ : J g' (gNow B w) A') (hw0 : HW h0 A') (keep : ∀ b, gNow B w b → A'.heap[b]? = w.heap[b]?) :
    GS N J h0 g' s h β A' a := by
  have lt : ∀ b, gNow B w b → b < A'.heap.size := by
    intro b hb
    have h1 := keep b hb
    rw [Array.getElem?_eq_getElem hb.2] at h1
    exact (Array.getElem?_eq_some_iff.1 h1).1
  have kn : ∀ k o, B.nc k o → A'.heap[k]? = some o := fun k o hk => by
    have h1 := sat.ok.kn k o hk
    rw [keep k ⟨e3 k o hk, (Array.getElem?_eq_some_iff.1 h1).1⟩]; exact h1
  refine ⟨{ A' with nc := B.nc, cell := B.cell, al := fun k => gNow B w k ∨ A'.heap.size ≤ k, up := fun _ hh => .inr hh }, gNow B w, hJ, lt, fun k => Iff.rfl,
    fun k o hk => .inl ⟨e3 k o hk, (Array.getElem?_eq_some_iff.1 (sat.ok.kn k o hk)).1⟩, ?_⟩
  have own : ∀ {i : Nat} {r : Res} {v : RV} {b : Nat}, (eff s.gl s.T)[i]? = some r → r.live = true → β[i]? = some v → v.has b → gNow B w b := fun e hl e' hb =>
    ⟨(sat.ok.own _ _ _ _ e hl e' hb).1, (sat.ok.own _ _ _ _ e hl e' hb).2.1⟩
  refine ⟨⟨⟨rfl, rfl, rfl, Nat.le_refl _, fun _ _ _ => rfl⟩, Nat.le_refl _, sat.ok.len, fun i r v e e' => (sat.ok.holds i r v e e').move (FH.le.refl h) (Ext.refl _) fun hl b hb => keep b (own e hl e' hb),
    fun i r v b e hl e' hb => ⟨.inl (own e hl e' hb), lt b (own e hl e' hb), (sat.ok.own i r v b e hl e' hb).2.2⟩, sat.ok.inj, sat.ok.hle, fun b o v hh => ?_, fun b o v hh => ?_, kn⟩, sat.env, sat.gs, ?_, sat.sz, sat.gb, sat.gT⟩
  · rcases sat.ok.hg b o v hh with h1 | h1
    · exact hw0 b o v h1
    · have h2 := sat.ok.hw b o v hh
      exact (vis_of_block (keep b ⟨h1, vis_lt h2⟩)).trans h2
  · rcases sat.ok.hg b o v hh with h1 | h1
    · exact .inl h1
    · have h3 := vis_lt (sat.ok.hw b o v hh)
      exact .inr (.inl ⟨h1, h3⟩)
  · obtain ⟨X, x1, x2, x3⟩ := sat.defers
    exact ⟨X, x1, x2, fun D hD => ⟨.inl ⟨(x3 D hD).1, (Array.getElem?_eq_some_iff.1 (sat.ok.kn D _ (x3 D hD).2)).1⟩, (x3 D hD).2⟩⟩
end
theorem datA_DV {h : FH} : ∀ {ss : List Sh} {vs : List SV} {ys : List Value} {d : dens ss}, datA ss vs = some d → All2 (CnV h []) vs ys → DVs h ss d ys
  | [], vs, ys, d, e, x => by
    unfold datA at e
    split at e
    · cases ys with
      | nil => trivial
      | cons _ _ => exact x.elim
    · cases e
  | s :: l, vs, ys, d, e, x => by
    unfold datA at e
    split at e
    · rename_i v r
      cases ys with
      | nil => exact x.elim
      | cons y ys =>
        split at e
        · rename_i d1 hd
          split at e
          · rename_i d2 hr
            cases e
            obtain ⟨cs, e1, rd⟩ := toDat_ok hd x.1
            exact ⟨⟨cs, e1, rd⟩, datA_DV hr x.2⟩
          · cases e
        · cases e
    · cases e
structure Yl (P : Program) (h0 : FH) (l : Nat) (ss : List Sh) (L : List (dens ss)) (J : Option Nat → (Nat → Prop) → World → Prop) : Prop where
  hw : ∀ i G A, J i G A → HW h0 A
  ab : ∀ i G G' A A', J i G A → Gs G A A' → Own' G G' A A' → J i G' A'
  yl : ∀ i d vs G A, L[i]? = some d → DVs h0 ss d vs → J (some i) G A → YieldAt Fence.wide 0 P l vs.toArray A fun e A' => (∀ b, G b → A'.heap[b]? = A.heap[b]?) ∧
      ((e = .returned (.bool true) ∧ J (some (i + 1)) G A') ∨ (e = .returned (.bool false) ∧ J none G A'))
section
variable {P : Program} {E : Env} {h0 : FH} {l : Nat} {ss : List Sh} {L : List (dens ss)} {J : Option Nat → (Nat → Prop) → World → Prop}
theorem DVs.flat {h h' : FH} : ∀ {ss : List Sh} {d : dens ss} {vs : List Value}, allL shFlat ss = true → DVs h ss d vs → DVs h' ss d vs
  | [], _, [], _, _ => trivial
  | [], _, _ :: _, _, x => x.elim
  | _ :: _, _, [], _, x => x.elim
  | s :: _, _, _ :: _, f, ⟨a, b⟩ => by
    simp only [allL, andB_eq, Bool.and_eq_true] at f
    obtain ⟨cs, e, r⟩ := a
    exact ⟨⟨cs, e, Rd.flat s f.1 r⟩, DVs.flat f.2 b⟩
theorem genOps_ok (ok : EnvOK P E) (hg : GlobOK E.cx.gd h0) (hy : Yl P h0 l ss L J) (hfl : allL shFlat ss = true) {ops : Array Oper} {n : Nat} {Q : Exit → Act → World → Prop} {K : Option Nat → St → Prop} : ∀ (r : List Oper) (k i : Nat) {s : St} {h : FH} {β : List RV} {w : World} {a : Act},
    (∀ j, r[j]? = ops[k + j]?) → ndL r = true → GS E.n J h0 (some i) s h β w a → genOps E l ss L (tl ops) r i s K →
    (∀ g s' h' β' w' a', K g s' → h.le h' → GS E.n J h0 g s' h' β' w' a' → Same (dsts r) a a' → Q .normal a' w') → wpOpsIn Fence.wide n P ops Q (List.range' k r.length) a w
  | [], k, i, s, h, β, w, a, _, _, gs, kk, next => next _ _ _ _ _ _ kk (FH.le.refl h) gs (Same.refl _ _)
  | o :: r, k, i, s, h, β, w, a, hl, hn, gs, kk, next => by
    have h0' : ops[k]? = some o := by simpa using (hl 0).symm
    have hl' : ∀ j, r[j]? = ops[k + 1 + j]? := fun j => by have := hl (j + 1); simpa [Nat.add_assoc, Nat.add_comm 1 j] using this
    simp only [ndL, andB_eq, Bool.and_eq_true] at hn
    obtain ⟨B, G, hJ, hG, ha, hnc, sat⟩ := gs
    simp only [List.length_cons, List.range'_succ, wpOpsIn, h0']
    simp only [genOps] at kk
    split at kk
    · rename_i l' hyl
      split at kk
      · exact kk.elim
      rename_i hd
      obtain ⟨hll, kk⟩ := kk
      subst hll
      split at kk
      · exact kk.elim
      rename_i vs hvs
      split at kk
      · exact kk.elim
      rename_i hnr
      split at kk
      · exact kk.elim
      rename_i bs hbs
      split at kk
      · exact kk.elim
      rename_i d hdd
      obtain ⟨hLi, k1, k2⟩ := kk
      unfold yldOf at hyl
      split at hyl
      · cases hyl
      rename_i hgd
      split at hyl
      · rename_i c ho
        split at hyl
        · rename_i t hcal
          split at hyl
          · rename_i l2 hlk
            cases hyl
            have tr : gv s.gl [] = true := rfl
            rw [if_pos (by simp [Region.wanted, hgd])]
            obtain ⟨z, z1, z2, _⟩ := sat.env t [] _ hlk
            have ez : z = .func (.yield l) #[] #[] := (z2 tr).1
            subst ez
            have hgh := hg.mono sat.ok.hle
            have hav := argsV_ok sat hgh tr hvs
            obtain ⟨_, b2⟩ := borA_ok sat tr hbs hav
            have hao : argsOf o.op = tl c.args := by simp only [argsOf, ho]
            rw [hao] at hav b2
            -- the arguments as they were frozen at the beginning
            have hJn := GS.now hy.ab hJ ha sat
            have dv : DVs h ss d ((tl c.args).map a.eval) := datA_DV hdd (b2 hnr)
            have dv0 : DVs h0 ss d ((tl c.args).map a.eval) := DVs.flat hfl dv
            obtain ⟨fn, tmps, asg, body, hrun, hround⟩ := hy.yl i d _ (gNow B w) w hLi dv0 hJn
            have hargs : (c.args.map a.eval) = ((tl c.args).map a.eval).toArray := by cases c.args; simp
            have exec : (execOp a.eval o).run P w = .ok (.round l fn tmps asg body) w := by
              simp only [execOp, ho, resolve, hcal, Act.eval]
              rw [show a.tmps.getD t undef = .func (.yield l) #[] #[] by simp [z1]]
              simp only [Deferred.ofValue, invoke, Sem.run_bind, Sem.run_pure, Result.andThen_ok]
              simp only [Array.empty_append]
              rw [hargs]
              exact hrun
            refine ⟨fun f _ => trivial, ?_⟩
            rw [Oper.semAt_eq _ _ _ (fun c' hc' => by rw [hc'] at hn; cases hn.1), exec]
            simp only [Oper.uponIn]
            refine ⟨fun hh => (by cases hh), RoundIn.mono (F := Fence.wide) (n := n - 1) ⟨hround.1, fun c' cs' hroom => hround.2 c' cs' (fun d' hd' => by cases hd')⟩ ?_⟩
            rintro e A' ⟨keep, hh⟩
            rcases hh with ⟨rfl, hJ'⟩ | ⟨rfl, hJ'⟩
            · obtain ⟨B2, G2, j1, j2, j3, j4, sat2⟩ := GS.turn hnc sat hJ' (hy.hw _ _ _ hJ') keep
              have gs3 : GS E.n J h0 (some (i + 1)) (s.put o.dst [] (.one (.c (.v (.bool true))))) h β A' (a.put o.dst (.bool true)) := ⟨B2, G2, j1, j2, j3, j4, sat2.put (dOK_lt hd) rfl (fun _ => ⟨⟨rfl, rfl, rfl⟩, rfl, rfl⟩) fun hh => by cases hh⟩
              exact genOps_ok ok hg hy hfl r (k + 1) (i + 1) hl' hn.2 gs3 k1 fun g s2 h2 β2 w2 a2 k2 le2 gs2 sm => next g s2 h2 β2 w2 a2 k2 le2 gs2 sm.put
            · obtain ⟨B2, G2, j1, j2, j3, j4, sat2⟩ := GS.turn hnc sat hJ' (hy.hw _ _ _ hJ') keep
              have sat3 := sat2.put (d := o.dst) (G := []) (e := .one (.c (.v (.bool false)))) (z := .bool false) (dOK_lt hd) rfl (fun _ => ⟨⟨rfl, rfl, rfl⟩, rfl, rfl⟩) fun hh => by cases hh
              exact wpL_In (R := fun a w => Q .normal a w) (.inl rfl) (fun _ _ hh => hh) r (k + 1) _ _ hl' hn.2 (opsI_ok ok hg r sat3 k2 fun s2 h2 β2 w2 a2 k3 le2 sat4 sm => next none s2 h2 β2 w2 a2 k3 le2 (GS.step j1 j2 j3 (.refl B2) sat4) sm.put)
          · cases hyl
        · cases hyl
      · cases hyl
    · have st := stepI_ok ok sat (hg.mono sat.ok.hle) kk (wpOpsIn Fence.wide n P ops Q (List.range' (k + 1) r.length)) noQ fun s' h' β' w' v k' le sat' =>
        genOps_ok ok hg hy hfl r (k + 1) i hl' hn.2 (GS.step hJ hG ha (.refl B) sat') k' fun g s2 h2 β2 w2 a2 k2 le2 gs2 sm => next g s2 h2 β2 w2 a2 k2 (le.trans le2) gs2 sm.put
      split
      · rename_i hw; rw [if_pos hw] at st; exact wp_In (Q := Q) (.inl rfl) hn.1 st
      · rename_i hw; rw [if_neg hw] at st; exact ⟨fun f _ => trivial, st⟩
theorem yld_float {s : St} {o : Oper} (hf : isFloat o.op = true) : yldG s o = none := by
  unfold yldG
  split
  · rename_i c ho
    rw [ho] at hf
    have : c.callee = .builtin .len := lenB hf
    rw [this]
  · rfl
theorem GS.drawn {g : Option Nat} {s : St} {h : FH} {β : List RV} {w : World} {a : Act} (gs : GS E.n J h0 g s h β w a) (n : Nat) (hn : w.drawn ≤ n) : GS E.n J h0 g s h β { w with drawn := n } a := by
  obtain ⟨B, G, hJ, hG, ha, hnc, sat⟩ := gs
  exact ⟨B, G, hJ, hG, ha, hnc, sat.drawn n hn⟩
set_option maxHeartbeats 1000000 in
theorem yld_upon (ok : EnvOK P E) (hg : GlobOK E.cx.gd h0) (hy : Yl P h0 l ss L J) (hfl : allL shFlat ss = true) {ops : Array Oper} {n : Nat} {i : Nat} {s : St} {h : FH} {β : List RV} {w : World} {a : Act} {o : Oper} {c : Call} {t' : Nat} {K : Act → World → Prop} {G : Gd} {B : Base} {GG : Nat → Prop}
    (hJ : J (some i) GG B.toWorld) (hG : ∀ b, GG b → b < B.heap.size) (ha : ∀ k, B.al k ↔ GG k ∨ B.heap.size ≤ k) (hnc : ∀ k o, B.nc k o → B.al k) (sat : Sat E.n B h0 s h β w a)
    (hd : dOK E.n o.dst = true) (ho : o.op = .call c) (hcal : c.callee = .value (.tmp t')) {Gt : Gd} (hlk : lkE s.env t' = some (Gt, .one (.c (.abs (.yld l))))) (hsub : gsub Gt G = true) (hgv : gv s.gl G = true) (hgb : gbd s.gl.length G = true)
    {vs bs : List SV} {d : dens ss} (hvs : argsV E.cx s G (tl c.args) = some vs) (hnr : allL noRow vs = true) (hbs : borA s G vs = some bs) (hdd : datA ss bs = some d) (hLi : L[i]? = some d)
    (k1 : ∀ h' β' w' a', GS E.n J h0 (some (i + 1)) (s.put o.dst G (.one (.c (.v (.bool true))))) h' β' w' a' → h.le h' → (∃ v, a' = a.put o.dst v) → K a' w')
    (k2 : ∀ h' β' w' a', GS E.n J h0 none (s.put o.dst G (.one (.c (.v (.bool false))))) h' β' w' a' → h.le h' → (∃ v, a' = a.put o.dst v) → K a' w') :
    o.uponIn Fence.wide n P a K noQ ((execOp a.eval o).run P w) := by
  obtain ⟨z, z1, z2, _⟩ := sat.env t' Gt _ hlk
  have ez : z = .func (.yield l) #[] #[] := (z2 (gsub_gv hsub hgv)).1
  subst ez
  have hgh := hg.mono sat.ok.hle
  have hav := argsV_ok sat hgh hgv hvs
  obtain ⟨_, b2⟩ := borA_ok sat hgv hbs hav
  have hJn := GS.now hy.ab hJ ha sat
  have dv : DVs h ss d ((tl c.args).map a.eval) := datA_DV hdd (b2 hnr)
  have dv0 : DVs h0 ss d ((tl c.args).map a.eval) := DVs.flat hfl dv
  obtain ⟨fn, tmps, asg, body, hrun, hround⟩ := hy.yl i d _ (gNow B w) w hLi dv0 hJn
  have hargs : (c.args.map a.eval) = ((tl c.args).map a.eval).toArray := by cases c.args; simp
  have exec : (execOp a.eval o).run P w = .ok (.round l fn tmps asg body) w := by
    simp only [execOp, ho, resolve, hcal, Act.eval]
    rw [show a.tmps.getD t' undef = .func (.yield l) #[] #[] by simp [z1]]
    simp only [Deferred.ofValue, invoke, Sem.run_bind, Sem.run_pure, Result.andThen_ok]
    simp only [Array.empty_append]
    rw [hargs]
    exact hrun
  rw [exec]
  simp only [Oper.uponIn]
  refine ⟨fun hh => (by cases hh), RoundIn.mono (F := Fence.wide) (n := n - 1) ⟨hround.1, fun c' cs' hroom => hround.2 c' cs' (fun d' hd' => by cases hd')⟩ ?_⟩
  rintro e A' ⟨keep, hh⟩
  rcases hh with ⟨rfl, hJ'⟩ | ⟨rfl, hJ'⟩
  · obtain ⟨B2, G2, j1, j2, j3, j4, sat2⟩ := GS.turn hnc sat hJ' (hy.hw _ _ _ hJ') keep
    exact k1 h β A' _ ⟨B2, G2, j1, j2, j3, j4, sat2.put (dOK_lt hd) hgb (fun _ => ⟨⟨rfl, rfl, rfl⟩, rfl, rfl⟩) fun hh => by rw [hgv] at hh; cases hh⟩ (FH.le.refl h) ⟨_, rfl⟩
  · obtain ⟨B2, G2, j1, j2, j3, j4, sat2⟩ := GS.turn hnc sat hJ' (hy.hw _ _ _ hJ') keep
    exact k2 h β A' _ ⟨B2, G2, j1, j2, j3, j4, sat2.put (dOK_lt hd) hgb (fun _ => ⟨⟨rfl, rfl, rfl⟩, rfl, rfl⟩) fun hh => by rw [hgv] at hh; cases hh⟩ (FH.le.refl h) ⟨_, rfl⟩
set_option maxHeartbeats 2000000 in
theorem gtree_ok (ok : EnvOK P E) (hg : GlobOK E.cx.gd h0) (hy : Yl P h0 l ss L J) (hfl : allL shFlat ss = true) {ops : Array Oper} (hs : Region.noSelect ops = true) (hn : ndL ops.toList = true) {m : Nat} {R : Act → World → Prop} {K : Option Nat → St → Prop} : ∀ (t : DT) {n : Nat} {listed : Array Bool} {g : Option Nat} {s : St} {h : FH} {β : List RV} {w : World} {a : Act},
    GS E.n J h0 g s h β w a → gtreeK E l ss L (tl ops) (opT ops t) g s K → (∀ g' s' h' β' w' a', K g' s' → h.le h' → GS E.n J h0 g' s' h' β' w' a' → Same (dsts ops.toList) a a' → R a' w') →
    (chkT ops t true n listed = true → anyW P m .any ops (sfe ops) R n listed a w) ∧
    (chkT ops t false n listed = true → ∀ i ∈ t.alts, wpOW P m ops i (fun a' w' => (sfe ops i = true → Gro w w') ∧ anyW P m .any ops (sfe ops) R (n - 1) (listed.setIfInBounds i true) a' w') a w)
  | .done, n, listed, g, s, h, β, w, a, gs, k, next => by
    refine ⟨fun hc => ?_, fun hc => by simp [chkT] at hc⟩
    simp only [chkT, Bool.true_and, Bool.and_eq_true, beq_iff_eq] at hc
    obtain ⟨rfl, hr⟩ := hc
    exact ⟨by simpa using hr, next _ _ _ _ _ _ k (FH.le.refl h) gs (Same.refl _ _)⟩
  | .fl i t, n, listed, g, s, h, β, w, a, gs, k, next => by
    refine ⟨fun hc => ?_, fun hc => by simp [chkT] at hc⟩
    simp only [chkT, Bool.true_and, Bool.and_eq_true, bne_iff_ne, ne_eq] at hc
    obtain ⟨⟨hn0, hb⟩, hc⟩ := hc
    obtain ⟨n, rfl⟩ : ∃ m, n = m + 1 := ⟨n - 1, by omega⟩
    unfold floatsB at hb
    cases hi : ops[i]? with
    | none => rw [hi] at hb; simp at hb
    | some o =>
      rw [hi] at hb
      simp only [Bool.and_eq_true] at hb
      simp only [opT, hi] at k
      have hmem : o ∈ ops.toList := List.mem_of_getElem? (i := i) (by simpa using hi)
      obtain ⟨⟨⟨hf, hfree⟩, hr⟩, hl⟩ := hb
      obtain ⟨B, G, hJ, hG, ha, hnc, sat⟩ := gs
      have k : stepK E (tl ops) o s fun s => gtreeK E l ss L (tl ops) (opT ops t) g s K := by
        unfold gtreeK at k
        cases g with
        | none => exact k
        | some i' => simp only at k; rw [yld_float hf] at k; exact k
      obtain ⟨v, s', hy', k', sat'⟩ := float_step ok sat (hg.mono sat.ok.hle) hf k
      have hq : sfe ops i = true := by
        simp only [sfe, hi]
        exact float_quiet hf
      refine anyW_first (bl := blOf ops listed i) hi (Region.noSelect_spec hs) hq n listed a w (Region.free_spec hi hfree) (fun e => ?_) (by simpa using hr) hy' (fun _ => Gro.refl w)
        ((gtree_ok ok hg hy hfl hs hn t (GS.step hJ hG ha (.refl B) sat') k' fun g2 s2 h2 β2 w2 a2 k2 le2 sat2 sm => next g2 s2 h2 β2 w2 a2 k2 le2 sat2 (sm.put_mem hmem)).1 hc)
      rw [e] at hl
      exact waitsB_spec (by simpa using hl)
  | .op i t, n, listed, g, s, h, β, w, a, gs, k, next => by
    have key : n ≠ 0 → (ops[i]?).isSome = true → chkT ops t true (n - 1) (listed.setIfInBounds i true) = true → wpOW P m ops i (fun a' w' => (sfe ops i = true → Gro w w') ∧ anyW P m .any ops (sfe ops) R (n - 1) (listed.setIfInBounds i true) a' w') a w := by
      intro hn0 hi hc
      obtain ⟨o, hi⟩ := Option.isSome_iff_exists.1 hi
      have hmem : o ∈ ops.toList := List.mem_of_getElem? (i := i) (by simpa using hi)
      simp only [opT, hi] at k
      obtain ⟨B, G, hJ, hG, ha, hnc, sat⟩ := gs
      have plain : (stepK E (tl ops) o s fun s => gtreeK E l ss L (tl ops) (opT ops t) g s K) → wpOW P m ops i (fun a' w' => (sfe ops i = true → Gro w w') ∧ anyW P m .any ops (sfe ops) R (n - 1) (listed.setIfInBounds i true) a' w') a w := by
        intro k
        refine wpO_W hn ?_
        unfold wpO
        simp only [hi]
        refine stepK_ok ok sat (hg.mono sat.ok.hle) k _ noQ fun s' h' β' w' v k' le gro sat' => ⟨fun e => gro (by simpa [sfe, hi] using e), ?_⟩
        exact (gtree_ok ok hg hy hfl hs hn t (GS.step hJ hG ha (.refl B) sat') k' fun g2 s2 h2 β2 w2 a2 k2 le2 sat2 sm => next g2 s2 h2 β2 w2 a2 k2 (le.trans le2) sat2 (sm.put_mem hmem)).1 hc
      unfold gtreeK at k
      cases g with
      | none => exact plain k
      | some i' =>
        simp only at k
        cases hyl : yldG s o with
        | none => rw [hyl] at k; exact plain k
        | some l' =>
          rw [hyl] at k
          simp only at k
          split at k
          · exact k.elim
          rename_i hd
          split at k
          · rename_i c ho
            split at k
            · rename_i t' hcal
              obtain ⟨hll, k⟩ := k
              subst hll
              obtain ⟨G1, s1, k, sat1, hw1, hgb⟩ := guardK_ok sat k
              split at k
              · rename_i Gt l2 hlk
                split at k
                · exact k.elim
                rename_i hsub
                obtain ⟨rfl, k⟩ := k
                split at k
                · exact k.elim
                rename_i vs hvs
                split at k
                · exact k.elim
                rename_i hnr
                split at k
                · exact k.elim
                rename_i bs hbs
                split at k
                · exact k.elim
                rename_i d hdd
                have hsfe : sfe ops i = false := by
                  simp only [sfe, hi, ho, quietly, hcal]
                have hao : argsOf o.op = tl c.args := by simp only [argsOf, ho]
                rw [hao] at hvs
                unfold wpOW
                simp only [hi]
                cases hgv : gv s1.gl G1 with
                | true =>
                  rw [if_pos (by rw [hw1, hgv])]
                  obtain ⟨hLi, k1, k2⟩ := (br_iff.1 k).1 hgv
                  refine yld_upon ok hg hy hfl (ops := ops) hJ hG ha hnc sat1 hd ho hcal hlk hsub hgv hgb hvs hnr hbs hdd hLi (fun h' β' w' a' gs' le' ha' => ⟨fun e => (by rw [hsfe] at e; cases e), ?_⟩) (fun h' β' w' a' gs' le' ha' => ⟨fun e => (by rw [hsfe] at e; cases e), ?_⟩)
                  · obtain ⟨v, rfl⟩ := ha'
                    exact (gtree_ok ok hg hy hfl hs hn t gs' k1 fun g2 s2 h2 β2 w2 a2 k2 le2 sat2 sm => next g2 s2 h2 β2 w2 a2 k2 (le'.trans le2) sat2 (sm.put_mem hmem)).1 hc
                  · obtain ⟨v, rfl⟩ := ha'
                    exact (gtree_ok ok hg hy hfl hs hn t gs' k2 fun g2 s2 h2 β2 w2 a2 k2 le2 sat2 sm => next g2 s2 h2 β2 w2 a2 k2 (le'.trans le2) sat2 (sm.put_mem hmem)).1 hc
                | false =>
                  rw [if_neg (by rw [hw1, hgv]; simp)]
                  have k := (br_iff.1 k).2 hgv
                  have sat2 := sat1.put (d := o.dst) (G := G1) (e := .one (.c (.v (.bool false)))) (z := undef) (dOK_lt hd) hgb (fun hh => by rw [hgv] at hh; cases hh) fun _ => rfl
                  refine ⟨fun e => (by rw [hsfe] at e; cases e), ?_⟩
                  exact (gtree_ok ok hg hy hfl hs hn t (GS.step hJ hG ha (.refl B) sat2) k fun g2 s2 h2 β2 w2 a2 k2 le2 sat2 sm => next g2 s2 h2 β2 w2 a2 k2 le2 sat2 (sm.put_mem hmem)).1 hc
              · exact k.elim
            · exact k.elim
          · exact k.elim
    refine ⟨fun hc => ?_, fun hc j hj => ?_⟩
    · simp only [chkT, Bool.not_true, Bool.false_or, Bool.and_eq_true, bne_iff_ne, ne_eq, beq_iff_eq] at hc
      obtain ⟨⟨⟨hr, hn0⟩, hi⟩, hc⟩ := hc
      obtain ⟨m, rfl⟩ : ∃ m, n = m + 1 := ⟨n - 1, by omega⟩
      refine ⟨fun h0 => by rw [hr] at h0; simp at h0, fun j hj => ?_⟩
      rw [hr] at hj
      simp at hj
      subst hj
      exact key hn0 hi hc
    · simp only [chkT, Bool.not_false, Bool.true_or, Bool.true_and, Bool.and_eq_true, bne_iff_ne, ne_eq] at hc
      simp only [DT.alts, List.mem_singleton] at hj
      subst hj
      exact key hc.1.1 hc.1.2 hc.2
  | .alt i t mm, n, listed, g, s, h, β, w, a, gs, k, next => by
    have key : n ≠ 0 → (ops[i]?).isSome = true → chkT ops t true (n - 1) (listed.setIfInBounds i true) = true → chkT ops mm false n listed = true →
        ∀ j ∈ i :: mm.alts, wpOW P m ops j (fun a' w' => (sfe ops j = true → Gro w w') ∧ anyW P m .any ops (sfe ops) R (n - 1) (listed.setIfInBounds j true) a' w') a w := by
      intro hn0 hi hc hm j hj
      obtain ⟨o, hi⟩ := Option.isSome_iff_exists.1 hi
      have hmem : o ∈ ops.toList := List.mem_of_getElem? (i := i) (by simpa using hi)
      simp only [opT, hi] at k
      have k : (stepK E (tl ops) o s fun s => gtreeK E l ss L (tl ops) (opT ops t) g s K) ∧ gtreeK E l ss L (tl ops) (opT ops mm) g s K := by
        unfold gtreeK at k
        cases g with
        | none => exact k
        | some i' =>
          simp only at k
          cases hyl : yldG s o with
          | none => rw [hyl] at k; exact k
          | some _ => rw [hyl] at k; exact k.elim
      rcases List.mem_cons.1 hj with rfl | hj
      · obtain ⟨B, G, hJ, hG, ha, hnc, sat⟩ := gs
        refine wpO_W hn ?_
        unfold wpO
        simp only [hi]
        refine stepK_ok ok sat (hg.mono sat.ok.hle) k.1 _ noQ fun s' h' β' w' v k' le gro sat' => ⟨fun e => gro (by simpa [sfe, hi] using e), ?_⟩
        exact (gtree_ok ok hg hy hfl hs hn t (GS.step hJ hG ha (.refl B) sat') k' fun g2 s2 h2 β2 w2 a2 k2 le2 sat2 sm => next g2 s2 h2 β2 w2 a2 k2 (le.trans le2) sat2 (sm.put_mem hmem)).1 hc
      · exact (gtree_ok ok hg hy hfl hs hn mm gs k.2 next).2 hm j hj
    refine ⟨fun hc => ?_, fun hc j hj => ?_⟩
    · simp only [chkT, Bool.not_true, Bool.false_or, Bool.and_eq_true, bne_iff_ne, ne_eq, beq_iff_eq] at hc
      obtain ⟨⟨⟨⟨hr, hn0⟩, hi⟩, hc⟩, hm⟩ := hc
      obtain ⟨q, rfl⟩ : ∃ m, n = m + 1 := ⟨n - 1, by omega⟩
      refine ⟨fun h0 => by rw [hr] at h0; simp at h0, fun j hj => ?_⟩
      rw [hr] at hj
      exact key hn0 hi hc hm j hj
    · simp only [chkT, Bool.not_false, Bool.true_or, Bool.true_and, Bool.and_eq_true, bne_iff_ne, ne_eq] at hc
      exact key hc.1.1.1 hc.1.1.2 hc.1.2 hc.2 j hj
theorem gdraw_ok (ok : EnvOK P E) (hg : GlobOK E.cx.gd h0) (hy : Yl P h0 l ss L J) (hfl : allL shFlat ss = true) {ops : Array Oper} {id n : Nat} {ol : OT} (ho : genOrd ops = some ol) (hn : ndL ops.toList = true) {i : Nat} {s : St} {h : FH} {β : List RV} {w : World} {a : Act} {K : Option Nat → St → Prop} {Q : Exit → Act → World → Prop}
    (gs : GS E.n J h0 (some i) s h β w a) (k : gtreeK E l ss L (tl ops) ol (some i) s K)
    (next : ∀ g' s' h' β' w' a', K g' s' → h.le h' → GS E.n J h0 g' s' h' β' w' a' → Same (dsts (tl ops)) a a' → Q .normal a' w') : (Code.region id ops true).wpIn Fence.wide n P Q a w := by
  unfold genOrd at ho
  have et : tl ops = ops.toList := by cases ops; rfl
  simp only at ho
  split at ho
  · rename_i hp
    cases ho
    simp only [Bool.and_eq_true, beq_iff_eq] at hp
    refine wpIn_region_any ok.mixed (anyW_In (sf := sfe ops) (R := fun a w => Q .normal a w) hn (fun _ _ hh => hh) _ _ _ _ ?_)
    exact (gtree_ok ok hg hy hfl hp.1 hn (R := fun a w => Q .normal a w) (genT ops ops.size (Array.replicate ops.size false)) (gs.drawn (w.drawn + 1) (Nat.le_succ _)) k fun g' s' h' β' w' a' k' le gs' sm => next _ _ _ _ _ _ k' le gs' (by rw [et]; exact sm)).1 hp.2
  · cases ho
theorem genK_ok (ok : EnvOK P E) (hg : GlobOK E.cx.gd h0) (hr : E.rd = false) (hy : Yl P h0 l ss L J) (hfl : allL shFlat ss = true) {n : Nat} : ∀ (c : Code) {i : Nat} {s : St} {h : FH} {β : List RV} {w : World} {a : Act} {K : Exit → Option Nat → St → Prop} {Q : Exit → Act → World → Prop}, GS E.n J h0 (some i) s h β w a →
    genK E l ss L c i s K → (∀ e g s' h' β' w' a', K e g s' → h.le h' → GS E.n J h0 g s' h' β' w' a' → Same (writes c) a a' → Q e a' w') → c.wpIn Fence.wide n P Q a w
  | .skip, i, s, h, β, w, a, K, Q, gs, k, next => wpIn_skip (next _ _ _ _ _ _ _ k (FH.le.refl h) gs (Same.refl _ _))
  | .exit j, i, s, h, β, w, a, K, Q, gs, k, next => wpIn_exit (next _ _ _ _ _ _ _ k (FH.le.refl h) gs (Same.refl _ _))
  | .ret, i, s, h, β, w, a, K, Q, gs, k, next => wpIn_ret (next _ _ _ _ _ _ _ k (FH.le.refl h) gs (Same.refl _ _))
  | .region id ops false, i, s, h, β, w, a, K, Q, gs, k, next => by
    simp only [genK] at k
    split at k
    · exact k.elim
    rename_i hnd
    have et : tl ops = ops.toList := by cases ops; rfl
    refine wpIn_region ?_
    have := genOps_ok (n := n) (Q := Q) ok hg hy hfl (ops := ops) (tl ops) 0 i (fun j => by rw [et]; simp) hnd gs k fun g s' h' β' w' a' k' le gs' sm => next .normal g _ _ _ _ _ k' le (by
      obtain ⟨B2, G2, j1, j2, j3, j4, sat2⟩ := gs'
      exact ⟨B2, G2, j1, j2, j3, j4, sat2.clean⟩) sm
    rw [List.range_eq_range']
    rw [et] at this
    simpa using this
  | .region id ops true, i, s, h, β, w, a, K, Q, gs, k, next => by
    simp only [genK] at k
    split at k
    · exact k.elim
    rename_i hnd
    have et : tl ops = ops.toList := by cases ops; rfl
    cases hya : yldAny s (tl ops) with
    | true =>
      rw [hya] at k
      simp only at k
      cases hd : genOrd ops with
      | none => rw [hd] at k; exact k.elim
      | some t =>
        rw [hd] at k
        exact gdraw_ok ok hg hy hfl hd (by rw [et] at hnd; exact hnd) gs k fun g s' h' β' w' a' k' le gs' sm => next .normal g _ _ _ _ _ k' le (by
          obtain ⟨B2, G2, j1, j2, j3, j4, sat2⟩ := gs'
          exact ⟨B2, G2, j1, j2, j3, j4, sat2.clean⟩) sm
    | false =>
    rw [hya] at k
    simp only at k
    obtain ⟨B, G, hJ, hG, ha, hnc, sat⟩ := gs
    cases hd : drawOrd ops with
    | none => rw [hd] at k; exact k.elim
    | some t =>
      rw [hd] at k
      exact draw_ok ok hg hd sat k (.inl rfl) (by rw [et] at hnd; exact hnd) fun s' h' β' w' a' k' le sat' sm => next .normal _ _ _ _ _ _ k' le (GS.step hJ hG ha (.refl B) sat'.clean) sm
  | .seq x y, i, s, h, β, w, a, K, Q, gs, k, next => by
    refine wpIn_seq (genK_ok ok hg hr hy hfl x gs k fun e g s' h' β' w' a' k' le gs' sm => ?_)
    cases e with
    | normal =>
      cases g with
      | some j => exact genK_ok ok hg hr hy hfl y gs' k' fun e g s2 h2 β2 w2 a2 k2 le2 gs2 sm2 => next e g s2 h2 β2 w2 a2 k2 (le.trans le2) gs2 (sm.left.trans sm2.right)
      | none =>
        obtain ⟨B, G, hJ, hG, ha, hnc, sat⟩ := gs'
        exact codeK_ok y ok hg (.inl rfl) (fun _ => rfl) sat k' fun e s2 h2 β2 w2 a2 B2 lb k2 le2 sat2 sm2 => next e none s2 h2 β2 w2 a2 k2 (le.trans le2) (GS.step hJ hG ha lb.1 sat2) (sm.left.trans sm2.right)
    | exit j => exact next _ _ _ _ _ _ _ k' le gs' sm.left
    | goto l => exact next _ _ _ _ _ _ _ k' le gs' sm.left
    | ret => exact next _ _ _ _ _ _ _ k' le gs' sm.left
    | panic ch => exact next _ _ _ _ _ _ _ k' le gs' sm.left
    | outgrown => exact next _ _ _ _ _ _ _ k' le gs' sm.left
  | .cond c x y, i, s, h, β, w, a, K, Q, gs, k, next => by
    simp only [genK] at k
    split at k
    · rename_i b hb
      obtain ⟨B, G, hJ, hG, ha, hnc, sat⟩ := gs
      have hc : a.eval c = .bool b := (getE_ok sat (hg.mono sat.ok.hle) (show gv s.gl [] = true from rfl) hb).1.1
      refine wpIn_cond_split hc (fun ht => genK_ok ok hg hr hy hfl x ⟨B, G, hJ, hG, ha, hnc, sat⟩ ((br_iff.1 k).1 ht) fun e g s' h' β' w' a' k' le gs' sm => next _ _ _ _ _ _ _ k' le gs' sm.left)
        (fun hf => genK_ok ok hg hr hy hfl y ⟨B, G, hJ, hG, ha, hnc, sat⟩ ((br_iff.1 k).2 hf) fun e g s' h' β' w' a' k' le gs' sm => next _ _ _ _ _ _ _ k' le gs' sm.right)
    · exact k.elim
  | .block id c, i, s, h, β, w, a, K, Q, gs, k, next => by
    refine wpIn_block (genK_ok ok hg hr hy hfl c gs k fun e g s' h' β' w' a' k' le gs' sm => ?_)
    cases e with
    | normal => exact next _ _ _ _ _ _ _ k' le gs' sm
    | exit j =>
      simp only at k'
      simp only [Exit.inBlock]
      split at k'
      · rename_i hi
        have : j = id := Nat.eq_of_beq_eq_true hi
        rw [if_pos this]
        exact next _ _ _ _ _ _ _ k' le gs' sm
      · rename_i hi
        have : ¬ j = id := fun hh => by rw [hh] at hi; simp at hi
        rw [if_neg this]
        exact next _ _ _ _ _ _ _ k' le gs' sm
    | goto l => exact next _ _ _ _ _ _ _ k' le gs' sm
    | ret => exact next _ _ _ _ _ _ _ k' le gs' sm
    | panic ch => exact next _ _ _ _ _ _ _ k' le gs' sm
    | outgrown => exact next _ _ _ _ _ _ _ k' le gs' sm
  | .loop c, i, s, h, β, w, a, K, Q, gs, k, next => by
    simp only [genK] at k
    split at k
    · rename_i la gh _
      obtain ⟨⟨x, i1, i2, i3, i4⟩, k2⟩ := k
      have good : ∀ x, la.inv x → goodT (lenL s.T) (updT (la.res x) s.T) = true ∧ goodS (lenL s.T) (catL la.drop (writes c)) (la.slots x) = true ∧
          genK E l ss L c (gh x) (headSt (catL la.drop (writes c)) s (la.slots x) (la.res x)) (fun e g s' => match e with
            | .normal => match g with
              | some j => match hasR s' (keepR (lenL s.T) (catL la.drop (writes c)) [] s.env) with
                | true => ∃ x', la.inv x' ∧ gh x' = j ∧ hasE s' (la.slots x') ∧ takeL (lenL s.T) s'.T = updT (la.res x') s.T ∧ la.meas x' < la.meas x
                | false => False
              | none => False
            | e => K e g s') := by
        intro x hx
        have := k2 x hx
        split at this
        · exact this.elim
        · rename_i hc
          rw [andB_eq, Bool.and_eq_true] at hc
          exact ⟨hc.1, hc.2, this⟩
      obtain ⟨B, G, hJ, hG, ha, hnc, sat⟩ := gs
      have D0 : ∀ h' a', h.le h' → Same (writes c) a a' → ∀ t e, lkE (keepE (catL la.drop (writes c)) [] s.env) t = some ([], e) → ∃ z, a'.tmps[t]? = some z ∧ CnE h' [] e z := by
        intro h' a' le sm t e ht
        obtain ⟨_, hw, hl, _, hf⟩ := keepE_get ht
        obtain ⟨z, q1, q2, _⟩ := sat.env t [] e hl
        exact ⟨z, by rw [sm t (by rw [memN_cat, Bool.or_eq_false_iff] at hw; exact hw.2)]; exact q1, (CnE.refFree [] hf (q2 rfl)).mono le (Ext.refl _)⟩
      refine wpIn_loop_ghost (fun m a' w' => ∃ x h' β', la.meas x = m ∧ la.inv x ∧ h.le h' ∧ GS E.n J h0 (some (gh x)) (headSt (catL la.drop (writes c)) s (la.slots x) (la.res x)) h' β' w' a' ∧ Same (writes c) a a') (la.meas x) ?_ ?_
      · obtain ⟨g1, g2, _⟩ := good x i1
        refine ⟨x, h, _, rfl, i1, FH.le.refl h, ⟨B, G, by rw [i2]; exact hJ, hG, ha, hnc, head_ok sat ?_ g1 g2 i3 (fun p hp => (keepR_mem p hp).2) (D0 h a (FH.le.refl h) (Same.refl _ _))⟩, Same.refl _ _⟩
        rw [← i4, takeL_eq, lenL_eq, List.take_length]
      · rintro m a' w' ⟨x, h', β', rfl, hx, le, gs', sm⟩
        obtain ⟨g1, g2, kk⟩ := good x hx
        refine genK_ok ok hg hr hy hfl c gs' kk fun e g s2 h2 β2 w2 a2 k2 le2 gs2 sm2 => ?_
        cases e with
        | normal =>
          simp only at k2
          cases g with
          | none => exact k2.elim
          | some j =>
            simp only at k2
            split at k2
            · rename_i hR
              obtain ⟨x', j1, jg, j2, j3, j4⟩ := k2
              obtain ⟨g1', g2', _⟩ := good x' j1
              obtain ⟨B2, G2, q1, q2, q3, q4, sat2⟩ := gs2
              refine ⟨la.meas x', j4, x', h2, _, rfl, j1, le.trans le2, ⟨B2, G2, by rw [jg]; exact q1, q2, q3, q4, head_ok sat2 j3 g1' g2' j2 (hasR_mem hR) (D0 h2 a2 (le.trans le2) (sm.trans sm2))⟩, sm.trans sm2⟩
            · exact k2.elim
        | exit j => exact next _ _ _ _ _ _ _ k2 (le.trans le2) gs2 (sm.trans sm2)
        | goto l => exact next _ _ _ _ _ _ _ k2 (le.trans le2) gs2 (sm.trans sm2)
        | ret => exact next _ _ _ _ _ _ _ k2 (le.trans le2) gs2 (sm.trans sm2)
        | panic ch => exact next _ _ _ _ _ _ _ k2 (le.trans le2) gs2 (sm.trans sm2)
        | outgrown => exact next _ _ _ _ _ _ _ k2 (le.trans le2) gs2 (sm.trans sm2)
    · exact k.elim
  | .rangeFunc _ _ _ _, i, s, h, β, w, a, K, Q, gs, k, next => k.elim
  | .scope _, i, s, h, β, w, a, K, Q, gs, k, next => k.elim
  | .label _, i, s, h, β, w, a, K, Q, gs, k, next => k.elim
  | .goto _, i, s, h, β, w, a, K, Q, gs, k, next => k.elim
  | .refuse _, i, s, h, β, w, a, K, Q, gs, k, next => k.elim
end
@[reducible] def capE : (ss : List Sh) → dens ss → List SV
  | [], _ => []
  | s :: l, d => .c (.fp s d.1) :: capE l d.2
theorem capD_cn {h : FH} : ∀ {ss : List Sh} {d : dens ss} {ys : List Value}, capD h ss d ys → All2 (CnV h []) (capE ss d) ys
  | [], _, [], _ => trivial
  | [], _, _ :: _, x => x.elim
  | _ :: _, _, [], x => x.elim
  | _ :: _, _, _ :: _, ⟨⟨b, cs, e, r, at_⟩, x⟩ => ⟨⟨⟨b, 0, cs, e, r, at_⟩, by subst e; exact oneC_ptr _⟩, capD_cn x⟩
@[reducible] def genEnd {ss : List Sh} (L : List (dens ss)) (e : Exit) (g : Option Nat) : Prop := match e with
  | .normal => match g with
    | none => True
    | some i => i = lenL L
  | .ret => match g with
    | none => True
    | some i => i = lenL L
  | _ => False
theorem gen_leave {P : Program} {fn : Func} (hrs : tl fn.results = []) {tmps : Array Value} {R : Ending → World → Prop} {J : World → Prop} {Gf : Nat → Prop} (ab : ∀ A A', J A → Gs Gf A A' → (∀ b, Gf b → b < A'.heap.size) → J A') (hR : ∀ w v, J w → R (.returned v) w) :
    ∀ (X : List Nat) {w : World}, X.Nodup → (∀ D ∈ X, Gf D ∧ w.heap[D]? = some (.deferred (some []))) → (∀ b, Gf b → b < w.heap.size) → J w →
    LeavesInM Fence.wide 0 P fn tmps R (X.map (fun D => ({ target := .collected D, args := #[] } : Deferred))) .returning w
  | [], w, _, _, _, hJ => ⟨_, results_run (a := { tmps := tmps, defers := [] }) (ys := []) (by rw [hrs]; rfl), hR _ _ hJ⟩
  | D :: X, w, hn, hx, hlt, hJ => by
    obtain ⟨h1, h2⟩ := hx D (by simp)
    have hn := List.nodup_cons.1 hn
    refine ⟨fun hh => (by cases hh), .inl ⟨D, w.putObj D (.deferred none), rfl, run_takeDeferred h2, ?_⟩⟩
    have hlt' : ∀ b, Gf b → b < (w.putObj D (.deferred none)).heap.size := fun b hb => by simpa using hlt b hb
    refine gen_leave hrs ab hR X hn.2 (fun D' hD' => ?_) hlt' (ab _ _ hJ ⟨rfl, rfl, rfl, by simp, Nat.le_refl _, fun k _ hk => World.putObj_heap_other (by rintro rfl; exact hk h1)⟩ hlt')
    obtain ⟨g1, g2⟩ := hx D' (by simp [hD'])
    refine ⟨g1, (World.putObj_heap_other ?_).trans g2⟩
    rintro rfl
    exact hn.1 hD'
theorem gives_of {P : Program} {E : Env} (ok : EnvOK P E) (hr : E.rd = false) {g : FuncId} {fn : Func} {body : Code} (hf : P.funcs[g]? = some fn) (hb : fn.body = some body) (hname : (fn.name == "runtime.NumGoroutine") = false) (hn : fn.ntmps = E.n) (hrs : tl fn.results = [])
    {ss : List Sh} {L : List (dens ss)} (hfl : allL shFlat ss = true) {cs : List Sh} {ds : dens cs} (hle : Nat.ble (lenL cs + 1) E.n = true)
    (k : ∃ ann, ∀ l, genK { E with ann := ann } l ss L body 0 { env := argE 0 (.c (.abs (.yld l)) :: capE cs ds), T := [], gl := [], gs := [] } fun e g _ => genEnd L e g)
    {h : FH} (hg : GlobOK E.cx.gd h) {lb : List Value} (cap : capD h cs ds lb) : Gives P h ss L (.func (.func g) #[] lb.toArray) := by
  obtain ⟨ann, k⟩ := k
  refine ⟨g, lb.toArray, rfl, ⟨fn, hf, by rw [hb]; rfl, hname⟩, fun l J W h1 h2 h3 h4 => ?_⟩
  have okE : EnvOK P { E with ann := ann } := ⟨ok.prog, ok.hc, ok.mkf, ok.mixed, ok.ti, ok.ct, ok.ip, ok.sq⟩
  have hy : Yl P h l ss L J := ⟨h1, h2, h3⟩
  have hcl : lb.length = cs.length := by
    have : ∀ {cs : List Sh} {ds : dens cs} {lb : List Value}, capD h cs ds lb → lb.length = cs.length := by
      intro cs
      induction cs with
      | nil => intro ds lb x; cases lb with | nil => rfl | cons _ _ => exact x.elim
      | cons p l ih => intro ds lb x; cases lb with | nil => exact x.elim | cons v m => simp [ih x.2]
    exact this cap
  have hln : lb.length + 1 ≤ E.n := by have := Nat.le_of_ble_eq_true hle; rw [lenL_eq] at this; omega
  have eargs : (#[.func (.yield l) #[] #[]] ++ lb.toArray : Array Value) = (.func (.yield l) #[] #[] :: lb).toArray := by simp
  rw [eargs]
  refine callsIn_of_wp_marks (F := Fence.wide) (n := 0) hf hb trivial ?_
  have hav : All2 (CnV h []) (.c (.abs (.yld l)) :: capE cs ds) (.func (.yield l) #[] #[] :: lb) := ⟨⟨rfl, rfl, rfl⟩, capD_cn cap⟩
  have look : ∀ {xs : List SV} {ys : List Value} {n t : Nat} {G : Gd} {e : Ent}, All2 (CnV h []) xs ys → lkE (argE n xs) t = some (G, e) → ∃ y, G = [] ∧ n ≤ t ∧ ys[t - n]? = some y ∧ CnE h [] e y := by
    intro xs
    induction xs with
    | nil => intro ys n t G e _ hh; simp [argE, lkE] at hh
    | cons x xs ih =>
      intro ys n t G e a hh
      cases ys with
      | nil => exact a.elim
      | cons y ys =>
        simp only [argE] at hh
        rw [lkE_cons] at hh
        split at hh
        · rename_i hk; subst hk; cases hh; exact ⟨y, rfl, Nat.le_refl _, by simp, a.1⟩
        · obtain ⟨u, h1, h2, h3, h4⟩ := ih a.2 hh
          refine ⟨u, h1, by omega, ?_, h4⟩
          rw [show t - n = (t - (n + 1)) + 1 by omega]
          simpa using h3
  have sat : Sat E.n (Base.of W) h { env := argE 0 (.c (.abs (.yld l)) :: capE cs ds), T := [], gl := [], gs := [] } h [] W { tmps := (.func (.yield l) #[] #[] :: lb).toArray ++ Array.replicate (fn.ntmps - (.func (.yield l) #[] #[] :: lb : List Value).toArray.size) undef, defers := [] } := by
    refine ⟨⟨Bw.refl (Base.of W), Nat.le_refl _, rfl, fun i r v e _ => by simp [eff] at e, fun i r v b e _ _ _ => by simp [eff] at e, fun i j r r' u v b e _ _ _ _ _ _ _ => by simp [eff] at e, FH.le.refl h, h1 _ _ _ h4, fun b o v hh => .inl hh, fun k o hh => hh.elim⟩, ?_, ?_, Dfr.nil rfl, ?_, ?_, ?_⟩
    · intro t G e ht
      obtain ⟨y, rfl, h2, h3, h4⟩ := look hav ht
      simp only [Nat.sub_zero] at h3
      refine ⟨y, ?_, fun _ => h4, fun hh => by cases hh⟩
      rw [Array.getElem?_append_left (by have := (List.getElem?_eq_some_iff.1 h3).1; simpa using this)]
      simpa using h3
    · intro d i hi; cases hi
    · simp only [Array.size_append, List.size_toArray, Array.size_replicate, List.length_cons]; omega
    · intro t G e ht
      obtain ⟨y, rfl, _⟩ := look hav ht
      rfl
    · intro p hp; cases hp
  have gs0 : GS E.n J h (some 0) { env := argE 0 (.c (.abs (.yld l)) :: capE cs ds), T := [], gl := [], gs := [] } h [] W { tmps := (.func (.yield l) #[] #[] :: lb).toArray ++ Array.replicate (fn.ntmps - (.func (.yield l) #[] #[] :: lb : List Value).toArray.size) undef, defers := [] } :=
    ⟨Base.of W, fun _ => False, h4, fun b hb => hb.elim, fun k => by simp, fun k o hh => hh.elim, sat⟩
  refine genK_ok okE hg hr hy hfl body gs0 (k l) fun e g' s' h' β' w' a' ke le gs' sm => ?_
  obtain ⟨B, G, hJ, hG, ha, hnc, sat'⟩ := gs'
  obtain ⟨X, x1, x2, x3⟩ := sat'.defers
  have hJn := GS.now h2 hJ ha sat'
  have fin : genEnd L .ret g' → LeavesInM Fence.wide 0 P fn a'.tmps (fun e W' => (∃ v, e = .returned v) ∧ ∃ G, J (some L.length) G W' ∨ J none G W') a'.defers .returning w' := by
    intro hh
    rw [x1]
    refine gen_leave hrs (J := fun w => J g' (gNow B w') w) (Gf := gNow B w') (fun A A' hA hgs hlt => h2 _ _ _ _ _ hA hgs fun b hb => ⟨hlt b hb, .inl hb⟩) (fun w v hA => ⟨⟨v, rfl⟩, gNow B w', ?_⟩) X x2 (fun D hD => ⟨⟨(x3 D hD).1, (Array.getElem?_eq_some_iff.1 (sat'.ok.kn D _ (x3 D hD).2)).1⟩, sat'.ok.kn D _ (x3 D hD).2⟩) (fun b hb => hb.2) hJn
    cases g' with
    | none => exact .inr hA
    | some i =>
      have hh : i = lenL L := hh
      rw [lenL_eq] at hh; subst hh; exact .inl hA
  cases e with
  | normal => exact fin ke
  | ret => exact fin ke
  | exit i => exact ke.elim
  | goto l => exact ke.elim
  | panic ch => exact ke.elim
  | outgrown => exact ke.elim
end Go.Eng
set_option linter.unusedSimpArgs false
set_option linter.unusedVariables false
namespace Go.Eng
open Go
theorem InR_i64 {n : Int} : InR .i64 n ↔ -9223372036854775808 ≤ n ∧ n ≤ 9223372036854775807 := by
  unfold InR
  simp only [IntKind.wrap, IntKind.bits, IntKind.signed]
  constructor <;> intro h <;> simp at * <;> omega
theorem InL_iff {n : Nat} : InL n ↔ n ≤ 9223372036854775807 := by
  unfold InL
  simp [IntKind.max, IntKind.bits, IntKind.signed]; omega
theorem InA_iff {n b : Nat} : InA n b ↔ n * b ≤ 140737488355328 := Iff.rfl
theorem ba_get (d : ByteArray) (j : Nat) : d[j]? = d.data.toList[j]? := by
  by_cases h : j < d.size
  · rw [getElem?_pos d j h, Array.getElem?_toList, getElem?_pos d.data j h]; rfl
  · rw [getElem?_neg d j h, Array.getElem?_toList, getElem?_neg d.data j h]
end Go.Eng
set_option linter.unusedSimpArgs false
set_option linter.unusedVariables false
namespace Go.Eng
open Go Go.RowKit
theorem RdL_int {h : FH} {k : IntKind} : ∀ {l : List Int} {cs : List Value}, RdL (Rd h (.int k)) cs l ↔ cs = l.map (Value.int k)
  | [], cs => by simp [RdL]
  | x :: l, cs => by
    simp only [RdL, Rd, List.map_cons]
    constructor
    · rintro ⟨c, r, rfl, rfl, hr⟩; rw [(RdL_int (h := h)).1 hr]; rfl
    · rintro rfl; exact ⟨[.int k x], l.map (Value.int k), rfl, rfl, (RdL_int (h := h)).2 rfl⟩
def sortI (l : List Int) : List Int := l.mergeSort fun x y => decide (x ≤ y)
@[reducible] def ipSort : IP := { sh := .int .i64, ps := [], pre := fun l _ => l.length < 4611686018427387904, res := fun l _ => sortI l, back := false }
@[reducible] def ipCompact : IP := { sh := .int .i64, ps := [], pre := fun l _ => l.length < 4611686018427387904, res := fun l _ => Lib.compact l, back := true }
theorem compact_len (l : List Int) : (Lib.compact l).length ≤ l.length := by
  unfold Lib.compact Lib.compactUpTo
  rw [List.length_map]
  refine Nat.le_trans (List.length_filter_le _ _) (by simp)
theorem gb_sorted {w : World} {g n : Nat} {os : Array Obj} (d : Array Int) : Gb w (Sort.grow (Sort.putRow (Value.int .i64) (Sort.ahead w n) g 0 d) os) (some g) :=
  ⟨grownBy_sortedI d, by simp [Sort.grow, Sort.putRow, Sort.mapBlock, Sort.ahead]⟩
theorem row_int {h : FH} {w : World} {t : TypeId} {l : List Int} {g cap : Nat} {cur : Array Value} (hb : w.heap[g]? = some (.cells cur t (0, 0))) (hc : l.length ≤ cap) (hcap : 1 ≤ cap ∧ cap ≤ maxLen) (hsz : cur.size = cap * 1) {ts : List Int} (hts : ts.length = l.length) {k : Nat} (hk : k ≤ ts.length) {n : Nat} {os : Array Obj} :
    Holds h [] (Sort.grow (Sort.putRow (Value.int .i64) (Sort.ahead w n) g 0 ts.toArray) os) (.row t (.int .i64) (ts.take k)) (.row (.slice (some ⟨g, 0, none⟩) (ts.take k).length cap)) := by
  refine .inr (.inr ⟨g, cap, _, rfl, heap_sortedI _ hb, by rw [List.length_take]; omega, hcap, by simp [Sort.putCells, hsz, Sh.size], RdL_int.2 ?_⟩)
  have e := take_putCellsI cur ts (by omega)
  rw [Nat.mul_one, List.length_take, show min k ts.length = k by omega]
  have : (Sort.putCells (Value.int .i64) 0 ts.toArray cur).toList.take k = ((Sort.putCells (Value.int .i64) 0 ts.toArray cur).toList.take ts.length).take k := by rw [List.take_take, show min k ts.length = k by omega]
  rw [this, e, List.map_take]
theorem ipok_sort {P : Program} {gd : Nat → Option (Sigma Sh.den)} {f : FuncId} {cz : CT} (hz : CTOK P gd f cz) (ez : cz = { ps := [.sl (.int .i64)], pre := fun d => d.1 = [], res := fun d => ([], .tup []) })
    (hs : ∀ (blk cap : Nat) (zs : List Int) (w : World), Sort.Holds (Value.int .i64) w blk 0 zs.toArray → blk < w.heap.size → zs.length < 4611686018427387904 →
      Calls P f #[.slice (some ⟨blk, 0, none⟩) zs.length cap] w fun e w' => e = .returned (.tuple #[]) ∧ ∃ n os, w' = Sort.grow (Sort.putRow (Value.int .i64) (Sort.ahead w n) blk 0 (sortI zs).toArray) os) :
    IPOK P gd f ipSort := by
  intro t l d v vs h w hw hg hold hfr hvs hpre
  subst ez
  cases vs with
  | cons _ _ => exact hvs.elim
  | nil =>
    have zero : ∀ v : Value, SlAt h (Rd h (.int .i64)) v [] → (Holds h [] w (.row t (.int .i64) []) (.row v)) → Calls P f #[v] w (fun en w' => ∃ v' y, en = .returned y ∧ Gb w w' (rowBlk v) ∧ (∀ b, rowBlk v' = some b → rowBlk v = some b ∨ (w.heap.size ≤ b ∧ b < w'.heap.size)) ∧
        Holds h [] w' (.row t (.int .i64) (sortI [])) (.row v') ∧ (ipSort.back = true → y = v') ∧ (ipSort.back = false → y = .tuple #[] ∧ v' = v)) := by
      intro v hv hold
      refine (hz ([], ()) [v] h w hw hg ⟨⟨hv, hv.oneC⟩, trivial⟩ rfl).mono ?_
      rintro en w' ⟨h', β', y, rfl, ok, he⟩
      obtain ⟨ys, rfl, ha⟩ := he
      cases ys with
      | cons _ _ => exact ha.elim
      | nil =>
        refine ⟨v, _, rfl, ?_, fun b hb => .inl hb, ?_, fun hh => (by cases hh), fun _ => ⟨rfl, rfl⟩⟩
        · exact ⟨⟨ok.below.os, ok.below.tape, ok.below.output, ok.below.size, fun k hk _ => (Bw.bel ok.below).block k hk⟩, ok.dr⟩
        · rw [show sortI [] = [] by simp [sortI]]
          rcases hold with e | e | ⟨g, cap, cur, rfl, e1, e2, e3, e4, r⟩
          · exact .inl e
          · exact .inr (.inl e)
          · refine .inr (.inr ⟨g, cap, cur, rfl, ?_, e2, e3, e4, r⟩)
            rw [(Bw.bel ok.below).block g (Array.getElem?_eq_some_iff.1 e1).1]; exact e1
    rcases hold with ⟨rfl, rfl⟩ | ⟨ra, rfl, rfl⟩ | ⟨g, cap, cur, rfl, e1, e2, e3, e4, r⟩
    · exact zero _ (.inl ⟨rfl, rfl⟩) (.inl ⟨rfl, rfl⟩)
    · exact zero _ (.inr (.inl ⟨ra, 0, rfl, rfl, Nat.zero_le _⟩)) (.inr (.inl ⟨ra, rfl, rfl⟩))
    · have hr := RdL_int.1 r
      rw [Nat.mul_one] at hr
      have hgs : g < w.heap.size := (Array.getElem?_eq_some_iff.1 e1).1
      refine (hs g cap l w (holds_of_blockI e1 hr) hgs hpre).mono ?_
      rintro en w' ⟨rfl, n, os, rfl⟩
      have hl : (sortI l).length = l.length := by simp [sortI]
      refine ⟨.slice (some ⟨g, 0, none⟩) l.length cap, _, rfl, by rw [rowBlk_own e3.1]; exact gb_sorted _, fun b hb => .inl hb, ?_, fun hh => (by cases hh), fun _ => ⟨rfl, rfl⟩⟩
      have := row_int (h := h) (n := n) (os := os) e1 e2 e3 e4 hl (Nat.le_refl _)
      rw [List.take_length, hl] at this
      exact this
theorem ipok_compact {P : Program} {gd : Nat → Option (Sigma Sh.den)} {f : FuncId}
    (hz : ∀ (a : Option Addr) (cap : Nat) w, Calls P f #[.slice a 0 cap] w fun e w' => e = .returned (.slice a 0 cap) ∧ w' = w)
    (hs : ∀ (blk cap : Nat) (zs : List Int) (w : World), Sort.Holds (Value.int .i64) w blk 0 zs.toArray → zs.length ≤ 9223372036854775807 → zs.length ≤ cap →
      Calls P f #[.slice (some ⟨blk, 0, none⟩) zs.length cap] w fun e w' => e = .returned (.slice (some ⟨blk, 0, none⟩) (Lib.compact zs).length cap) ∧
        ∃ q, w' = Sort.putRow (Value.int .i64) (Sort.ahead w q) blk 0 (Lib.compact zs ++ List.replicate (zs.length - (Lib.compact zs).length) 0).toArray) :
    IPOK P gd f ipCompact := by
  intro t l d v vs h w hw hg hold hfr hvs hpre
  cases vs with
  | cons _ _ => exact hvs.elim
  | nil =>
    rcases hold with ⟨rfl, rfl⟩ | ⟨ra, rfl, rfl⟩ | ⟨g, cap, cur, rfl, e1, e2, e3, e4, r⟩
    · refine (hz none 0 w).mono ?_
      rintro en w' ⟨rfl, rfl⟩
      exact ⟨.slice none 0 0, _, rfl, grown_refl _ _, fun b hb => .inl hb, .inl ⟨rfl, rfl⟩, fun _ => rfl, fun hh => (by cases hh)⟩
    · refine (hz (some ra) 0 w).mono ?_
      rintro en w' ⟨rfl, rfl⟩
      exact ⟨.slice (some ra) 0 0, _, rfl, grown_refl _ _, fun b hb => .inl hb, .inr (.inl ⟨ra, rfl, rfl⟩), fun _ => rfl, fun hh => (by cases hh)⟩
    · have hr := RdL_int.1 r
      rw [Nat.mul_one] at hr
      have hpre : l.length < 4611686018427387904 := hpre
      refine (hs g cap l w (holds_of_blockI e1 hr) (by omega) e2).mono ?_
      rintro en w' ⟨rfl, q, rfl⟩
      have hc := compact_len l
      have hl : (Lib.compact l ++ List.replicate (l.length - (Lib.compact l).length) 0).length = l.length := by simp; omega
      have := row_int (h := h) (n := q) (os := #[]) e1 e2 e3 e4 hl (k := (Lib.compact l).length) (by omega)
      rw [List.take_left, Sort.grow_empty] at this
      refine ⟨.slice (some ⟨g, 0, none⟩) (Lib.compact l).length cap, _, rfl, ?_, fun b hb => .inl (by rw [rowBlk_own e3.1] at hb ⊢; exact hb), this, fun _ => rfl, fun hh => by cases hh⟩
      have := gb_sorted (w := w) (g := g) (n := q) (os := #[]) (Lib.compact l ++ List.replicate (l.length - (Lib.compact l).length) 0).toArray
      rw [rowBlk_own e3.1]
      rwa [Sort.grow_empty] at this
end Go.Eng
set_option linter.unusedSimpArgs false
set_option linter.unusedVariables false
namespace Go.Eng
open Go Go.RowKit
def mapO {α β : Type} (f : α → Option β) : List α → Option (List β)
  | [] => some []
  | x :: l => match f x with
    | some y => match mapO f l with
      | some m => some (y :: m)
      | none => none
    | none => none
def rdat {H : Type} : (s : Sh) → DataW H → Option s.den
  | .int k, d => match d with
    | .lit (.int k' n) => if k = k' then some n else none
    | _ => none
  | .bool, d => match d with
    | .lit (.bool b) => some b
    | _ => none
  | .str, d => match d with
    | .lit (.string l) => some ⟨l.toArray⟩
    | _ => none
  | .any, _ => none
  | .sl s, d => match d with
    | .nil => some []
    | .slice es _ => mapO (rdat s) es
    | _ => none
  | .pair a b, d => match d with
    | .agg (p :: ps) => match rdat a p with
      | some x => match rdat b (.agg ps) with
        | some y => some (x, y)
        | none => none
      | none => none
    | _ => none
  | .unit, d => match d with
    | .agg [] => some ()
    | _ => none
  | .arr n s, d => match d with
    | .agg ps => if ps.length = n then mapO (rdat s) ps else none
    | _ => none
  | .mp _ _, _ => none
def wfD : (s : Sh) → s.den → Prop
  | .int k, n => (Lit.int k n).wf = true
  | .bool, _ => True
  | .str, b => b.size ≤ maxLen
  | .any, _ => True
  | .sl s, l => l.length ≤ maxLen ∧ ∀ x ∈ l, wfD s x
  | .pair a b, p => wfD a p.1 ∧ wfD b p.2
  | .unit, _ => True
  | .arr n s, l => l.length = n ∧ ∀ x ∈ l, wfD s x
  | .mp _ _, _ => True
def SOK (P : Program) : Sh → (TypeId → Bool) × (List Field → Nat → Bool)
  | .int k => (fun t => match P.underlying t with | some (.int k') => decide (k = k') | _ => false, fun _ _ => false)
  | .bool => (fun t => match P.underlying t with | some .bool => true | _ => false, fun _ _ => false)
  | .str => (fun t => match P.underlying t with | some .string => true | _ => false, fun _ _ => false)
  | .any => (fun _ => false, fun _ _ => false)
  | .mp _ _ => (fun _ => false, fun _ _ => false)
  | .sl s => (fun t => match P.underlying t with | some (.slice e) => (SOK P s).1 e && P.cellsOf e == s.size && decide (1 ≤ s.size) | _ => false, fun _ _ => false)
  | .arr n s => (fun t => match P.underlying t with | some (.array m e) => m == n && (SOK P s).1 e && P.cellsOf e == s.size && P.cellsOf t == n * s.size | _ => false, fun _ _ => false)
  | .pair a b => (fun t => match P.underlying t with
      | some (.struct fs) => P.cellsOf t == a.size + b.size && (match fs.toList with
        | f :: r => f.offset == 0 && P.cellsOf f.type == a.size && (SOK P a).1 f.type && (SOK P b).2 r a.size
        | [] => false)
      | _ => false,
    fun fs off => match fs with
      | f :: r => f.offset == off && P.cellsOf f.type == a.size && (SOK P a).1 f.type && (SOK P b).2 r (off + a.size)
      | [] => false)
  | .unit => (fun t => match P.underlying t with
      | some (.struct fs) => P.cellsOf t == 0 && fs.toList.isEmpty
      | _ => false,
    fun fs _ => fs.isEmpty)
section
variable {H : Type} {enc : TypeId × Value → H} {P : Program} {W : World} {sp : Nat → Bool} {held : Bool}
def OpT (enc : TypeId × Value → H) (P : Program) (W : World) (sp : Nat → Bool) (held : Bool) (s : Sh) (t : TypeId) : Prop :=
  ∀ (fuel : Nat) (cs : List Value) (x : DataW H × List MemPlace), DataW.trod enc P W 0 sp held fuel t cs = some x → ∃ y, rdat s x.1 = some y ∧ Rd (FH.all W) s cs y ∧ wfD s y
theorem elems_open {s : Sh} {e : TypeId} {n : Nat} {a : Addr} (hs : OpT enc P W sp held s e) : ∀ (elems : List (DataW H × List MemPlace)) (k : Nat),
    (∀ i, i < elems.length → (W.cells? 0 (a.add ((k + i) * s.size)) s.size).bind (DataW.trod enc P W 0 sp held n e) = elems[i]?) →
    ∃ CS L, mapO (rdat s) (elems.map (·.1)) = some L ∧ RdL (Rd (FH.all W) s) CS L ∧ L.length = elems.length ∧ (∀ j u, CS[j]? = some u → W.cell? (a.add (k * s.size + j)) = some u) ∧ ∀ x ∈ L, wfD s x
  | [], k, _ => ⟨[], [], rfl, rfl, rfl, fun j u e => by simp at e, fun x hx => by simp at hx⟩
  | x :: elems, k, he => by
    have h0 := he 0 (by simp)
    simp only [Nat.add_zero, List.getElem?_cons_zero, Option.bind_eq_some_iff] at h0
    obtain ⟨cs, hc, hx⟩ := h0
    obtain ⟨y, y1, y2, y3⟩ := hs _ _ _ hx
    obtain ⟨CS, L, l1, l2, l3, l4, l5⟩ := elems_open hs elems (k + 1) (fun i hi => by
      have := he (i + 1) (by simpa using hi)
      rw [show k + 1 + i = k + (i + 1) by omega]
      simpa using this)
    obtain ⟨_, c2, c3⟩ := World.cells?_some hc
    refine ⟨cs ++ CS, y :: L, ?_, ⟨cs, CS, rfl, y2, l2⟩, by simp [l3], ?_, ?_⟩
    · simp only [List.map_cons, mapO, y1, l1]
    · intro j u hu
      by_cases hj : j < cs.length
      · rw [List.getElem?_append_left hj] at hu
        have := c3 j (by omega)
        rw [hu] at this
        rw [← this, Addr.add_add]
      · rw [List.getElem?_append_right (by omega)] at hu
        have := l4 (j - cs.length) u hu
        rw [show k * s.size + j = (k + 1) * s.size + (j - cs.length) by rw [Nat.succ_mul]; omega]
        exact this
    · intro z hz
      rcases List.mem_cons.1 hz with rfl | hz
      · exact y3
      · exact l5 z hz
theorem arr_open {s : Sh} {e : TypeId} {m : Nat} (hs : OpT enc P W sp held s e) : ∀ (xs : List (DataW H × List MemPlace)) (cs : List Value), cs.length = xs.length * s.size →
    (∀ i, i < xs.length → DataW.trod enc P W 0 sp held m e ((cs.drop (i * s.size)).take s.size) = xs[i]?) →
    ∃ L, mapO (rdat s) (xs.map (·.1)) = some L ∧ RdL (Rd (FH.all W) s) cs L ∧ L.length = xs.length ∧ ∀ x ∈ L, wfD s x
  | [], cs, hl, _ => ⟨[], rfl, by simpa [RdL] using hl, rfl, fun x hx => by simp at hx⟩
  | x :: xs, cs, hl, he => by
    have h0 := he 0 (by simp)
    simp only [Nat.zero_mul, List.drop_zero, List.getElem?_cons_zero] at h0
    obtain ⟨y, y1, y2, y3⟩ := hs _ _ _ h0
    obtain ⟨L, l1, l2, l3, l4⟩ := arr_open hs xs (cs.drop s.size) (by rw [List.length_drop, hl, List.length_cons, Nat.succ_mul]; omega) (fun i hi => by
      have := he (i + 1) (by simpa using hi)
      rw [List.drop_drop, show s.size + i * s.size = (i + 1) * s.size by rw [Nat.succ_mul]; omega]
      simpa using this)
    refine ⟨y :: L, by simp only [List.map_cons, mapO, y1, l1], ⟨cs.take s.size, cs.drop s.size, (List.take_append_drop _ _).symm, y2, l2⟩, by simp [l3], ?_⟩
    intro z hz
    rcases List.mem_cons.1 hz with rfl | hz
    · exact y3
    · exact l4 z hz
def OpF (enc : TypeId × Value → H) (P : Program) (W : World) (sp : Nat → Bool) (held : Bool) (s : Sh) (fs : List Field) (off : Nat) : Prop :=
  ∀ (n : Nat) (cs : List Value) (xs : List (DataW H × List MemPlace)), cs.length = off + s.size → xs.length = fs.length →
    (∀ (i : Nat) (f : Field), fs[i]? = some f → DataW.trod enc P W 0 sp held n f.type ((cs.drop f.offset).take (P.cellsOf f.type)) = xs[i]?) →
    ∃ y, rdat s (.agg (xs.map (·.1))) = some y ∧ Rd (FH.all W) s (cs.drop off) y ∧ wfD s y
theorem pair_open {a b : Sh} {f : Field} {r : List Field} {off : Nat} (h1 : f.offset = off) (h2 : P.cellsOf f.type = a.size) (ha : OpT enc P W sp held a f.type) (hb : OpF enc P W sp held b r (off + a.size)) :
    OpF enc P W sp held (.pair a b) (f :: r) off := by
  intro n cs xs hl hx he
  cases xs with
  | nil => simp at hx
  | cons x xs =>
    have h0 := he 0 f rfl
    rw [h1, h2] at h0
    obtain ⟨y, y1, y2, y3⟩ := ha _ _ _ h0
    obtain ⟨z, z1, z2, z3⟩ := hb n cs xs (by rw [hl]; simp only [Sh.size]; omega) (by simpa using hx) (fun i g hg => by simpa using he (i + 1) g (by simpa using hg))
    refine ⟨(y, z), ?_, ⟨(cs.drop off).take a.size, cs.drop (off + a.size), ?_, y2, z2⟩, y3, z3⟩
    · simp only [List.map_cons, rdat, y1, z1]
    · rw [← List.drop_drop]; exact (List.take_append_drop _ _).symm
theorem sok_open : ∀ (s : Sh), (∀ t, (SOK P s).1 t = true → OpT enc P W sp held s t) ∧ (∀ fs off, (SOK P s).2 fs off = true → OpF enc P W sp held s fs off)
  | .int k => by
    refine ⟨fun t ht fuel cs x h => ?_, fun fs off hf => by simp [SOK] at hf⟩
    simp only [SOK] at ht
    split at ht
    · rename_i k' hu
      simp only [decide_eq_true_eq] at ht
      subst ht
      obtain ⟨n, rfl, rfl, hw⟩ := DataW.trod_int hu h
      exact ⟨n, by simp [rdat], rfl, hw⟩
    · cases ht
  | .bool => by
    refine ⟨fun t ht fuel cs x h => ?_, fun fs off hf => by simp [SOK] at hf⟩
    simp only [SOK] at ht
    split at ht
    · rename_i hu
      obtain ⟨b, rfl, rfl⟩ := DataW.trod_bool hu h
      exact ⟨b, rfl, rfl, trivial⟩
    · cases ht
  | .str => by
    refine ⟨fun t ht fuel cs x h => ?_, fun fs off hf => by simp [SOK] at hf⟩
    simp only [SOK] at ht
    split at ht
    · rename_i hu
      obtain ⟨b, rfl, rfl, hb⟩ := DataW.trod_string hu h
      exact ⟨b, rfl, rfl, hb⟩
    · cases ht
  | .any => ⟨fun t ht => by simp [SOK] at ht, fun fs off hf => by simp [SOK] at hf⟩
  | .mp _ _ => ⟨fun t ht => by simp [SOK] at ht, fun fs off hf => by simp [SOK] at hf⟩
  | .sl s => by
    refine ⟨fun t ht fuel cs x h => ?_, fun fs off hf => by simp [SOK] at hf⟩
    simp only [SOK] at ht
    split at ht
    · rename_i e hu
      simp only [Bool.and_eq_true, beq_iff_eq, decide_eq_true_eq] at ht
      obtain ⟨⟨ht, hc⟩, h1⟩ := ht
      have ih := (sok_open s).1 e ht
      rcases DataW.trod_slice hu h with ⟨rfl, rfl⟩ | ⟨a, len, cap, elems, rest, n, _, rfl, rfl, _, hle, hcap, hlen, hel, _, _⟩
      · exact ⟨[], rfl, ⟨_, rfl, .inl ⟨rfl, rfl⟩⟩, Nat.zero_le _, fun x hx => by simp at hx⟩
      · rw [hc] at hel
        obtain ⟨CS, L, l1, l2, l3, l4, l5⟩ := elems_open (n := n) (a := a) ih elems 0 (fun i hi => by rw [Nat.zero_add]; exact hel i (by omega))
        refine ⟨L, l1, ⟨_, rfl, ?_⟩, by rw [l3]; omega, l5⟩
        by_cases h0 : len = 0
        · have : L = [] := List.eq_nil_of_length_eq_zero (by omega)
          subst this; subst h0
          exact .inr (.inl ⟨a, cap, rfl, rfl, hcap⟩)
        · have hsz := RdL.size (fun _ _ => Rd.size s) l2
          have hpos : 0 < CS.length := by rw [hsz, l3, hlen]; exact Nat.mul_pos (by omega) (by omega)
          have hcell := l4 0 _ (List.getElem?_eq_getElem hpos)
          have hspot : a.spot = none := by
            unfold World.cell? at hcell
            split at hcell
            · split at hcell
              · cases hcell
              · rename_i hn; simpa [Addr.add] using hn
            · cases hcell
          obtain ⟨ab, ao, asp⟩ := a
          simp only at hspot
          subst hspot
          refine .inr (.inr ⟨ab, ao, cap, by rw [l3, hlen], by omega, hcap, CS, l2, fun j u hu => ?_⟩)
          have := l4 j u hu
          refine cell_vis ?_ (RdL.all (fun _ _ => Rd.one s) l2 u (List.mem_of_getElem? hu)).2
          rw [← this]
          by_cases hj : j = 0 <;> simp [Addr.add, hj]
    · cases ht
  | .arr m s => by
    refine ⟨fun t ht fuel cs x h => ?_, fun fs off hf => by simp [SOK] at hf⟩
    simp only [SOK] at ht
    split at ht
    · rename_i m' e hu
      simp only [Bool.and_eq_true, beq_iff_eq] at ht
      obtain ⟨⟨⟨rfl, ht⟩, hc⟩, hct⟩ := ht
      have ih := (sok_open s).1 e ht
      obtain ⟨xs, n, _, rfl, hl, hx, he⟩ := DataW.trod_array hu h
      rw [hc] at he
      have hcl : cs.length = xs.length * s.size := by rw [hl, hct, hx]
      obtain ⟨L, l1, l2, l3, l4⟩ := arr_open (m := n) ih xs cs hcl (fun i hi => he i (by omega))
      exact ⟨L, by simp [rdat, hx, l1], ⟨by omega, l2⟩, ⟨by omega, l4⟩⟩
    · cases ht
  | .pair a b => by
    have iha := sok_open a
    have ihb := sok_open b
    constructor
    · intro t ht fuel cs x h
      simp only [SOK] at ht
      split at ht
      · rename_i fs hu
        simp only [Bool.and_eq_true, beq_iff_eq] at ht
        obtain ⟨hc, ht⟩ := ht
        split at ht
        · rename_i f r hfs
          simp only [Bool.and_eq_true, beq_iff_eq] at ht
          obtain ⟨⟨⟨t1, t2⟩, t3⟩, t4⟩ := ht
          obtain ⟨xs, n, _, rfl, hl, hx, he⟩ := DataW.trod_struct hu h
          have := pair_open (off := 0) t1 t2 (iha.1 _ t3) (ihb.2 r _ (by simpa using t4)) n cs xs (by rw [hl, hc]; simp) (by rw [hx, ← hfs]; simp) (fun i g hg => he i g (by rw [← hfs] at hg; simpa using hg))
          simpa using this
        · cases ht
      · cases ht
    · intro fs off hf
      simp only [SOK] at hf
      split at hf
      · rename_i f r
        simp only [Bool.and_eq_true, beq_iff_eq] at hf
        obtain ⟨⟨⟨t1, t2⟩, t3⟩, t4⟩ := hf
        exact pair_open t1 t2 (iha.1 _ t3) (ihb.2 _ _ t4)
      · cases hf
  | .unit => by
    constructor
    · intro t ht fuel cs x h
      simp only [SOK] at ht
      split at ht
      · rename_i fs hu
        simp only [Bool.and_eq_true, beq_iff_eq, List.isEmpty_iff] at ht
        obtain ⟨hc, ht⟩ := ht
        obtain ⟨xs, n, _, rfl, hl, hx, he⟩ := DataW.trod_struct hu h
        have hx0 : xs = [] := List.eq_nil_of_length_eq_zero (by rw [hx, ← Array.length_toList, ht]; rfl)
        subst hx0
        have : cs = [] := List.eq_nil_of_length_eq_zero (by omega)
        subst this
        exact ⟨(), rfl, rfl, trivial⟩
      · cases ht
    · intro fs off hf n cs xs hl hx he
      simp only [SOK, List.isEmpty_iff] at hf
      subst hf
      have : xs = [] := List.eq_nil_of_length_eq_zero (by simpa using hx)
      subst this
      refine ⟨(), rfl, ?_, trivial⟩
      show cs.drop off = []
      rw [List.drop_eq_nil_iff]; simp only [Sh.size] at hl; omega
end
end Go.Eng
set_option linter.unusedSimpArgs false
set_option linter.unusedVariables false
namespace Go.Eng
open Go Go.RowKit Go.ChangeShapes Go.WideShapes
section
variable {H : Type} {enc : TypeId × Value → H} {P : Program} {W : World} {sp : Nat → Bool} {held : Bool}
theorem cells_one {v : Value} (h : ∀ cs, v ≠ .agg cs) : v.cells = #[v] := by
  cases v <;> first | rfl | exact absurd rfl (h _)
theorem val_open {s : Sh} {t : TypeId} {v : Value} {d : DataW H} {ps : List MemPlace} {r : Reach} {b0 : Nat} (hs : (SOK P s).1 t = true) (hval : Value.okWide P W r b0 t v) (h : DataW.Trod enc P W 0 sp held t v d ps) :
    ∃ y, rdat s d = some y ∧ CnV (FH.all W) [] (ofDat s y) v ∧ wfD s y := by
  obtain ⟨fuel, hf⟩ := h
  obtain ⟨y, y1, y2, y3⟩ := (sok_open s).1 t hs _ _ _ hf
  refine ⟨y, y1, ?_, y3⟩
  have e : v = mkV s v.cells.toList := by
    have one : s.isAgg = false → (∀ cs, v ≠ .agg cs) → v = mkV s v.cells.toList := by
      intro h1 h2
      rw [cells_one h2]
      simp [mkV, h1]
    cases s with
    | int k =>
      refine one rfl fun cs hc => ?_
      simp only [SOK] at hs
      split at hs
      · rename_i hu; subst hc; simp [Value.okWide, hu, Cell.okWide, Cell.ok] at hval
      · cases hs
    | bool =>
      refine one rfl fun cs hc => ?_
      simp only [SOK] at hs
      split at hs
      · rename_i hu; subst hc; simp [Value.okWide, hu, Cell.okWide, Cell.ok] at hval
      · cases hs
    | str =>
      refine one rfl fun cs hc => ?_
      simp only [SOK] at hs
      split at hs
      · rename_i hu; subst hc; simp [Value.okWide, hu, Cell.okWide, Cell.ok] at hval
      · cases hs
    | any => simp [SOK] at hs
    | mp _ _ => simp [SOK] at hs
    | sl s =>
      refine one rfl fun cs hc => ?_
      simp only [SOK] at hs
      split at hs
      · rename_i hu; subst hc; simp [Value.okWide, hu, Cell.okWide, Cell.ok] at hval
      · cases hs
    | pair a b =>
      simp only [SOK] at hs
      split at hs
      · rename_i hu
        simp only [Value.okWide, hu] at hval
        obtain ⟨cs, rfl, _⟩ := hval
        simp [mkV, Sh.isAgg, Value.cells]
      · cases hs
    | unit =>
      simp only [SOK] at hs
      split at hs
      · rename_i hu
        simp only [Value.okWide, hu] at hval
        obtain ⟨cs, rfl, _⟩ := hval
        simp [mkV, Sh.isAgg, Value.cells]
      · cases hs
    | arr n s =>
      simp only [SOK] at hs
      split at hs
      · rename_i hu
        simp only [Value.okWide, hu] at hval
        obtain ⟨cs, rfl, _⟩ := hval
        simp [mkV, Sh.isAgg, Value.cells]
      · cases hs
  rw [e]
  exact ofDat_ok s y2
def rdats : (ss : List Sh) → List (DataW H) → Option (dens ss)
  | [], ds => match ds with
    | [] => some ()
    | _ => none
  | s :: ss, ds => match ds with
    | d :: r => match rdat s d with
      | some x => match rdats ss r with
        | some y => some (x, y)
        | none => none
      | none => none
    | [] => none
def wfDs : (ss : List Sh) → dens ss → Prop
  | [], _ => True
  | s :: ss, d => wfD s d.1 ∧ wfDs ss d.2
def sokA (P : Program) : List Sh → List TypeId → Bool
  | [], [] => true
  | s :: ss, t :: ts => (SOK P s).1 t && sokA P ss ts
  | _, _ => false
theorem rdats_len : ∀ {ss : List Sh} {ds : List (DataW H)} {d : dens ss}, rdats ss ds = some d → ds.length = ss.length
  | [], [], _, _ => rfl
  | [], _ :: _, _, h => by simp [rdats] at h
  | _ :: _, [], _, h => by simp [rdats] at h
  | s :: ss, x :: ds, d, h => by
    simp only [rdats] at h
    split at h
    · split at h
      · rename_i hr; simp [rdats_len hr]
      · cases h
    · cases h
theorem args_open {r : Reach} {b0 : Nat} : ∀ {ss : List Sh} {ts : List TypeId} {vs : List Value} {ds : List (DataW H)} {ps : List MemPlace}, sokA P ss ts = true →
    (∀ (j : Nat) t v, ts[j]? = some t → vs[j]? = some v → Value.okWide P W r b0 t v) → DataW.TrodAll enc P W 0 sp held ts vs ds ps →
    ∃ d : dens ss, rdats ss ds = some d ∧ All2 (CnV (FH.all W) []) (ofDats ss d) vs ∧ wfDs ss d
  | [], [], vs, ds, ps, _, _, h => by
    obtain ⟨rfl, rfl, rfl⟩ := trodAll_nil h
    exact ⟨(), rfl, trivial, trivial⟩
  | s :: ss, t :: ts, vs, ds, ps, hs, hval, h => by
    obtain ⟨v, vs, d, ds, p, q, rfl, rfl, rfl, h1, h2⟩ := trodAll_cons h
    simp only [sokA, Bool.and_eq_true] at hs
    obtain ⟨y, y1, y2, y3⟩ := val_open hs.1 (hval 0 t v rfl rfl) h1
    obtain ⟨z, z1, z2, z3⟩ := args_open hs.2 (fun j t v e e' => hval (j + 1) t v (by simpa using e) (by simpa using e')) h2
    exact ⟨(y, z), by simp only [rdats, y1, z1], ⟨y2, z2⟩, y3, z3⟩
  | [], _ :: _, _, _, _, hs, _, _ => by simp [sokA] at hs
  | _ :: _, [], _, _, _, hs, _, _ => by simp [sokA] at hs
/-! Package variables. -/
theorem laid_get : ∀ {laid : List (String × DataW Unit)} {ps : List MemPlace} {n : String} {D : DataW Unit}, DataW.LaidVars P W laid ps → (n, D) ∈ laid →
    ∃ g t cs fuel p, P.globalNamed n = some g ∧ (P.globals[g]?).map (·.type) = some t ∧ W.var? P n = some cs ∧ DataW.trod (fun _ => ()) P W 0 (fun _ => true) false fuel t cs.toList = some (D, p)
  | [], _, _, _, _, hm => by simp at hm
  | (n', D') :: r, ps, n, D, h, hm => by
    obtain ⟨g, t, cs, fuel, p, q, h1, h2, h3, h4, h5, _⟩ := h
    rcases List.mem_cons.1 hm with e | hm
    · cases e; exact ⟨g, t, cs, fuel, p, h1, h2, h3, h4⟩
    · exact laid_get h5 hm
theorem glob_open {laid : List (String × DataW Unit)} (hL : laidMetH P laid W) (hnone : (laid.filter fun x => x.2.handleName?.isSome) = []) {n : String} {D : DataW Unit} (hm : (n, D) ∈ laid) {g : Nat} {t : TypeId} {s : Sh} {y : s.den}
    (hg : P.globalNamed n = some g) (ht : (P.globals[g]?).map (·.type) = some t) (hs : (SOK P s).1 t = true) (hd : rdat s D = some y) : ∃ cs, Rd (FH.all W) s cs y ∧ At (FH.all W) g 0 cs := by
  unfold laidMetH at hL
  rw [hnone] at hL
  obtain ⟨ps, hv, _⟩ := hL
  obtain ⟨g', t', cs, fuel, p, h1, h2, h3, h4⟩ := laid_get hv hm
  rw [hg] at h1; cases h1
  rw [ht] at h2; cases h2
  obtain ⟨y', y1, y2, _⟩ := (sok_open s).1 t hs _ _ _ h4
  simp only at y1
  rw [hd] at y1; cases y1
  refine ⟨_, y2, fun j u hu => ?_⟩
  unfold World.var? at h3
  rw [hg, Option.bind_some] at h3
  split at h3
  · rename_i cs' _ _ he
    cases h3
    show vis W g (0 + j) = some u
    refine vis_cells he ?_ (Rd.one s y2 u (List.mem_of_getElem? hu)).2
    simpa using hu
  · cases h3
def lay (cs : Array Value) : Obj → Obj
  | .cells _ t frozen => .cells cs t frozen
  | o => o
/-! Behind the call. -/
theorem below_cell {W' : World} (hB : Below W.heap.size W W') {b o : Nat} (hb : b < W.heap.size) : W'.frozen? ⟨b, o, none⟩ = W.frozen? ⟨b, o, none⟩ := by
  simp only [World.frozen?, hB.block b hb]
theorem below_same {W' : World} (hB : Below W.heap.size W W') {p : MemPlace} (hb : p.block < W.heap.size) : W.sameAt W' p := by
  cases p with
  | cell b o =>
    show W'.cell? ⟨b, o, none⟩ = W.cell? ⟨b, o, none⟩
    simp only [World.cell?]
    rw [hB.block b hb]
  | map b => exact hB.block b hb
theorem trodAll_carry {W' : World} {sp : Nat → Bool} : ∀ {ts : List TypeId} {vs : List Value} {ds : List (DataW H)} {ps : List MemPlace}, DataW.TrodAll enc P W 0 sp held ts vs ds ps → (∀ p ∈ ps, W.sameAt W' p) →
    DataW.TrodAll enc P W' 0 sp held ts vs ds ps
  | [], _, _, _, h, _ => by obtain ⟨rfl, rfl, rfl⟩ := trodAll_nil h; rfl
  | _ :: _, _, _, _, h, hs => by
    obtain ⟨v, vs, d, ds, p, q, rfl, rfl, rfl, ⟨fuel, h1⟩, h2⟩ := trodAll_cons h
    exact ⟨p, q, ⟨fuel, DataW.trod_carry _ _ _ _ h1 fun x hx => hs x (by simp [hx])⟩, trodAll_carry h2 fun x hx => hs x (by simp [hx]), rfl⟩
theorem post_true {fn : Func} {s : ChangeSpec} {apart fresh handsOn again : Bool} {W' : World} {args : Array Value} {ds gs : List (DataW H)} {before : List MemPlace} {t : TypeId}
    (hl : laidOutB P = true) (hm : mapsRowed P = true) (hz : ∀ t e, t < P.types.size → P.underlying t = some (.slice e) → 0 < P.cellsOf e) (hts : ∀ t ∈ fn.params.toList, t < P.types.size)
    (hres : fn.resultTypes = #[t]) (ht : P.underlying t = some .bool) (hvars : s.vars = []) (hfn : s.fn H (ds ++ gs) = { results := [.lit (.bool true)], args := ds })
    (hW : DataW.Whole enc P fn.params.toList s.vars apart W args.toList ds gs before) (hB : Below W.heap.size W W') :
    s.post enc P fn apart fresh handsOn again W args (.bool true) W' := by
  have hlt := hW.lt
  have hW' := hW
  obtain ⟨pa, pv, hA, hV, hps, hfz, hnd⟩ := hW
  rw [hvars] at hV
  obtain ⟨rfl, rfl⟩ : gs = [] ∧ pv = [] := by
    cases gs with
    | nil => exact ⟨rfl, hV⟩
    | cons _ _ => exact hV.elim
  rw [List.append_nil] at hps
  subst hps
  have same : ∀ p ∈ before, W.sameAt W' p := fun p hp => below_same hB (hlt p hp)
  have hargs : ∀ sp : Nat → Bool, (∀ p ∈ before, sp p.block = true) → DataW.TrodAll enc P W' 0 sp true fn.params.toList args.toList ds before := fun sp hsp =>
    trodAll_carry (DataW.TrodAll.respare (kids_rows hl hm) hz hts hA hsp) same
  have hresT : ∀ (b : Nat) (sp : Nat → Bool) (hd : Bool), DataW.TrodAll enc P W' b sp hd fn.resultTypes.toList ((Value.bool true).resultList fn.resultTypes.size) [.lit (.bool true)] [] := by
    intro b sp hd
    rw [hres]
    exact trodAll_cons_mk (shut_bool ht true) (ds := []) (p' := []) (show DataW.TrodAll enc P W' b sp hd [] [] [] [] from rfl)
  have hv : ∀ sp : Nat → Bool, DataW.TrodVars enc P W' sp s.vars (s.fn H (ds ++ [])).vars [] := by
    intro sp; rw [hvars, hfn]; rfl
  have hold : ∀ p ∈ before, (fun b => decide (b < W.heap.size)) p.block = true := fun p hp => by simpa using hlt p hp
  refine ⟨ds, [], before, [], before, [], hW', by rw [hfn]; exact hresT _ _ _, by rw [hfn]; exact hargs _ hold, hv _, hB.frame _, fun _ => ?_⟩
  refine ⟨ok_one hres rfl (okWide_bool_mk ht true), [.lit (.bool true)] ++ ds, [], ([] ++ before) ++ [], ⟨[] ++ before, [], trodAll_append (hargs _ (fun _ _ => rfl)) (hresT _ _ _), by rw [hvars]; rfl, rfl, ?_, ?_⟩, ?_⟩
  · intro b off hp
    have hp : MemPlace.cell b off ∈ before := by simpa using hp
    rw [below_cell (b := b) (o := off) hB (hlt _ hp)]
    exact hfz b off hp
  · intro ha
    have := hnd ha
    simpa using this
  · intro p hp _
    simpa using hp
theorem call_true {gd : Nat → Option (Sigma Sh.den)} {f : Nat} {fn : Func} {ct : CT} (met : Met P gd f ct) {s : ChangeSpec} {apart fresh handsOn again : Bool} {args : Array Value} {ds gs : List (DataW H)} {before : List MemPlace} {t : TypeId} {r : Reach} {b0 : Nat}
    (hl : laidOutB P = true) (hm : mapsRowed P = true) (hz : ∀ t e, t < P.types.size → P.underlying t = some (.slice e) → 0 < P.cellsOf e) (hts : ∀ t ∈ fn.params.toList, t < P.types.size)
    (hres : fn.resultTypes = #[t]) (ht : P.underlying t = some .bool) (hvars : s.vars = [])
    (hsok : sokA P ct.ps fn.params.toList = true) (hct : ∀ d, ct.res d = ([], .one (.c (.v (.bool true)))))
    (hfn : ∀ d : dens ct.ps, rdats ct.ps ds = some d → wfDs ct.ps d → s.fn H ds = { results := [.lit (.bool true)], args := ds } ∧ ct.pre d)
    (hval : ∀ (j : Nat) t v, fn.params[j]? = some t → args[j]? = some v → Value.okWide P W r b0 t v)
    (hW : DataW.Whole enc P fn.params.toList s.vars apart W args.toList ds gs before) (hG : GlobOK gd (FH.all W)) :
    Calls P f args W fun e W' => ∃ v, e = .returned v ∧ s.post enc P fn apart fresh handsOn again W args v W' := by
  have hA := hW
  obtain ⟨pa, pv, hA, hV, _⟩ := hA
  rw [hvars] at hV
  obtain rfl : gs = [] := by
    cases gs with
    | nil => rfl
    | cons _ _ => exact hV.elim
  obtain ⟨d, d1, d2, d3⟩ := args_open hsok (fun j t v e e' => hval j t v (by simpa using e) (by simpa using e')) hA
  obtain ⟨h1, h2⟩ := hfn d d1 d3
  have := met.1 d args.toList (FH.all W) W (fun b o v e => e) hG d2 h2
  rw [show args.toList.toArray = args by simp] at this
  refine this.mono ?_
  rintro en W' ⟨h', β, y, rfl, ok, he⟩
  rw [hct] at ok he
  obtain ⟨⟨rfl, _⟩, _⟩ := he
  exact ⟨_, rfl, post_true hl hm hz hts hres ht hvars (by rw [List.append_nil]; exact h1) hW (Bw.bel ok.below)⟩
end
end Go.Eng
