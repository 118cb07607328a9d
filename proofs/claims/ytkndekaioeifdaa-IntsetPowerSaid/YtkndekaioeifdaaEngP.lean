/- The engine, part P: the executor is sound. -/
import Derived.Test.YtkndekaioeifdaaEngO
set_option linter.unusedSimpArgs false
set_option linter.unusedVariables false
namespace Go.Eng
open Go Go.RowKit

theorem lkE_cat : ∀ {l m : List (Nat × Gd × Ent)} {t : Nat}, lkE (catL l m) t = match lkE l t with | some x => some x | none => lkE m t
  | [], m, t => rfl
  | (k, x) :: l, m, t => by
    rw [show catL ((k, x) :: l) m = (k, x) :: catL l m from rfl, lkE_cons, lkE_cons]
    split
    · rfl
    · exact lkE_cat

theorem slotE_get : ∀ {l : List (Nat × SV)} {t : Nat} {G : Gd} {e : Ent}, lkE (slotE l) t = some (G, e) → ∃ v, e = .one v ∧ G = [] ∧ (t, v) ∈ l
  | [], _, _, _, h => by simp [slotE, lkE] at h
  | (k, v) :: l, t, G, e, h => by
    simp only [slotE] at h
    rw [lkE_cons] at h
    split at h
    · rename_i hk; subst hk; cases h; exact ⟨v, rfl, rfl, by simp⟩
    · obtain ⟨u, h1, h2, h3⟩ := slotE_get h; exact ⟨u, h1, h2, by simp [h3]⟩

theorem keepE_get {ws : List Nat} : ∀ {l : List (Nat × Gd × Ent)} {seen : List Nat} {t : Nat} {G : Gd} {e : Ent}, lkE (keepE ws seen l) t = some (G, e) →
    memN t seen = false ∧ memN t ws = false ∧ lkE l t = some (G, e) ∧ G = [] ∧ entRefFree e = true
  | [], _, _, _, _, h => by simp [keepE, lkE] at h
  | (k, g, e0) :: l, seen, t, G, e, h => by
    have skip : lkE (keepE ws (k :: seen) l) t = some (G, e) → memN t seen = false ∧ memN t ws = false ∧ lkE ((k, g, e0) :: l) t = some (G, e) ∧ G = [] ∧ entRefFree e = true := by
      intro h
      obtain ⟨h1, h2, h3, h4⟩ := keepE_get h
      rw [memN_cons, Bool.or_eq_false_iff] at h1
      refine ⟨h1.2, h2, ?_, h4⟩
      rw [lkE_cons, if_neg]
      · exact h3
      · rintro rfl; exact Nat.ne_of_beq_eq_false h1.1 rfl
    unfold keepE at h
    split at h
    · rename_i hm
      obtain ⟨h1, h2, h3, h4⟩ := keepE_get h
      refine ⟨h1, h2, ?_, h4⟩
      rw [lkE_cons, if_neg]
      · exact h3
      · rintro rfl; rw [hm] at h1; cases h1
    · rename_i hm
      split at h
      · exact skip h
      · rename_i hw
        split at h
        · rename_i hc
          rw [andB_eq, Bool.and_eq_true] at hc
          rw [lkE_cons] at h
          split at h
          · rename_i hk
            subst hk
            cases h
            refine ⟨hm, hw, by rw [lkE_cons, if_pos rfl], ?_, hc.2⟩
            cases g with
            | nil => rfl
            | cons _ _ => have := hc.1; cases this
          · exact skip h
        · exact skip h

theorem hasE_mem {s : St} : ∀ {l : List (Nat × SV)}, hasE s l → ∀ p ∈ l, lkE s.env p.1 = some ([], .one p.2)
  | [], _, p, hp => by simp at hp
  | (k, v) :: l, ⟨h1, h2⟩, p, hp => by
    rcases List.mem_cons.1 hp with rfl | hp
    · split at h1
      · rename_i u hu; rw [hu, h1]
      · exact h1.elim
    · exact hasE_mem h2 p hp

theorem hasR_mem {s : St} : ∀ {l : List (Nat × SV)}, hasR s l = true → ∀ p ∈ l, lkE s.env p.1 = some ([], .one p.2)
  | [], _, p, hp => by simp at hp
  | (k, .c (.own i off)) :: l, h, p, hp => by
    simp only [hasR] at h
    split at h
    · rename_i i' off' hu
      rw [andB_eq, andB_eq, Bool.and_eq_true, Bool.and_eq_true] at h
      rcases List.mem_cons.1 hp with rfl | hp
      · have e1 := Nat.eq_of_beq_eq_true h.1.1
        have e2 := Nat.eq_of_beq_eq_true h.1.2
        rw [hu, e1, e2]
      · exact hasR_mem h.2 p hp
    · cases h
  | (k, .c (.row i)) :: l, h, p, hp => by
    simp only [hasR] at h
    split at h
    · rename_i i' hu
      rw [andB_eq, Bool.and_eq_true] at h
      rcases List.mem_cons.1 hp with rfl | hp
      · have e1 := Nat.eq_of_beq_eq_true h.1
        rw [hu, e1]
      · exact hasR_mem h.2 p hp
    · cases h
  | (k, .c (.v _)) :: l, h, p, hp => by cases h
  | (k, .c (.sl _ _)) :: l, h, p, hp => by cases h
  | (k, .c (.fp _ _)) :: l, h, p, hp => by cases h
  | (k, .c (.rowp _ _ _ _)) :: l, h, p, hp => by cases h
  | (k, .c .junk) :: l, h, p, hp => by cases h
  | (k, .agg _) :: l, h, p, hp => by cases h
  | (k, .dat _ _) :: l, h, p, hp => by cases h
  | (k, .und) :: l, h, p, hp => by cases h

theorem keepR_below {n : Nat} {ws : List Nat} : ∀ {l : List (Nat × Gd × Ent)} {seen : List Nat}, ∀ p ∈ keepR n ws seen l, svBelow n p.2 = true
  | [], _, p, hp => by simp [keepR] at hp
  | (k, g, e) :: l, seen, p, hp => by
    unfold keepR at hp
    repeat' (split at hp)
    all_goals first
      | exact keepR_below p hp
      | (rcases List.mem_cons.1 hp with rfl | hp
         · assumption
         · exact keepR_below p hp)

theorem keepR_mem {n : Nat} {ws : List Nat} : ∀ {l : List (Nat × Gd × Ent)} {seen : List Nat}, ∀ p ∈ keepR n ws seen l, memN p.1 seen = false ∧ lkE l p.1 = some ([], .one p.2)
  | [], _, p, hp => by simp [keepR] at hp
  | (k, g, e) :: l, seen, p, hp => by
    have skip1 : memN k seen = true → p ∈ keepR n ws seen l → memN p.1 seen = false ∧ lkE ((k, g, e) :: l) p.1 = some ([], .one p.2) := by
      intro hm hp
      obtain ⟨h1, h2⟩ := keepR_mem p hp
      refine ⟨h1, ?_⟩
      rw [lkE_cons, if_neg]
      · exact h2
      · rintro rfl; rw [hm] at h1; cases h1
    have skip2 : p ∈ keepR n ws (k :: seen) l → memN p.1 seen = false ∧ lkE ((k, g, e) :: l) p.1 = some ([], .one p.2) := by
      intro hp
      obtain ⟨h1, h2⟩ := keepR_mem p hp
      rw [memN_cons, Bool.or_eq_false_iff] at h1
      refine ⟨h1.2, ?_⟩
      rw [lkE_cons, if_neg]
      · exact h2
      · rintro rfl; exact Nat.ne_of_beq_eq_false h1.1 rfl
    unfold keepR at hp
    split at hp
    · rename_i hm; exact skip1 hm hp
    · rename_i hm
      split at hp
      · exact skip2 hp
      · split at hp
        · rename_i hn
          have hg : g = [] := by cases g with | nil => rfl | cons _ _ => simp [isNil] at hn
          subst hg
          split at hp
          · split at hp
            · rcases List.mem_cons.1 hp with rfl | hp
              · exact ⟨hm, by rw [lkE_cons, if_pos rfl]⟩
              · exact skip2 hp
            · exact skip2 hp
          · split at hp
            · rcases List.mem_cons.1 hp with rfl | hp
              · exact ⟨hm, by rw [lkE_cons, if_pos rfl]⟩
              · exact skip2 hp
            · exact skip2 hp
          · exact skip2 hp
        · exact skip2 hp

theorem take_get {α : Type} {l : List α} {n i : Nat} (h : i < n) : (l.take n)[i]? = l[i]? := by
  rw [List.getElem?_take, if_pos h]
theorem CnC.below {h : FH} {β : List RV} {n : Nat} : ∀ {x : SC} {y : Value}, scBelow n x = true → CnC h β x y → CnC h (β.take n) x y
  | .v _, _, _, c => c
  | .sl _ _, _, _, c => c
  | .fp _ _, _, _, c => c
  | .own i _, _, f, ⟨b, e, e'⟩ => ⟨b, by rw [take_get (by have := Nat.le_of_ble_eq_true f; omega)]; exact e, e'⟩
  | .row i, _, f, e => by
    show (β.take n)[i]? = _
    rw [take_get (by have := Nat.le_of_ble_eq_true f; omega)]; exact e
  | .rowp i _ _ _, _, f, ⟨v, g, e, e'⟩ => ⟨v, g, by rw [take_get (by have := Nat.le_of_ble_eq_true f; omega)]; exact e, e'⟩
  | .junk, _, _, _ => trivial
theorem CnV.below {h : FH} {β : List RV} {n : Nat} : ∀ {x : SV} {y : Value}, svBelow n x = true → CnV h β x y → CnV h (β.take n) x y
  | .c _, _, f, c => ⟨c.1.below f, c.2⟩
  | .agg _, _, f, ⟨ys, e, a⟩ => ⟨ys, e, a.allL (fun _ _ f ⟨p, q⟩ => ⟨p.below f, q⟩) f⟩
  | .dat _ _, _, _, c => c
  | .und, _, _, c => c
theorem Holds.below {h : FH} {β : List RV} {w : World} {n : Nat} : ∀ {r : Res} {v : RV}, resBelow n r = true → Holds h β w r v → Holds h (β.take n) w r v
  | .blk _ _, .blk _, f, ⟨ys, e, a⟩ => ⟨ys, e, a.allL (fun _ _ f ⟨p, q⟩ => ⟨p.below f, q⟩) f⟩
  | .row _ _ _, .row _, _, c => c
  | .obj _ _ _, .blk _, _, c => c
  | .gone, _, _, _ => trivial

theorem CnC.refFree {h : FH} {β : List RV} : ∀ {x : SC} {y : Value}, scRefFree x = true → CnC h β x y → ∀ β', CnC h β' x y
  | .v _, _, _, c => fun _ => c
  | .sl _ _, _, _, c => fun _ => c
  | .fp _ _, _, _, c => fun _ => c
  | .junk, _, _, _ => fun _ => trivial
  | .own _ _, _, f, _ => by simp [scRefFree] at f
  | .row _, _, f, _ => by simp [scRefFree] at f
  | .rowp _ _ _ _, _, f, _ => by simp [scRefFree] at f
theorem CnV.refFree {h : FH} {β : List RV} (β' : List RV) : ∀ {x : SV} {y : Value}, svRefFree x = true → CnV h β x y → CnV h β' x y
  | .c _, _, f, c => ⟨c.1.refFree f β', c.2⟩
  | .agg _, _, f, ⟨ys, e, a⟩ => ⟨ys, e, a.allL (fun _ _ f ⟨p, q⟩ => ⟨p.refFree f β', q⟩) f⟩
  | .dat _ _, _, _, c => c
  | .und, _, _, c => c
theorem CnE.refFree {h : FH} {β : List RV} (β' : List RV) : ∀ {x : Ent} {y : Value}, entRefFree x = true → CnE h β x y → CnE h β' x y
  | .one _, _, f, c => CnV.refFree β' f c
  | .tup _, _, f, ⟨ys, e, a⟩ => ⟨ys, e, a.allL (R' := CnV h β') (fun _ _ f c => CnV.refFree β' f c) f⟩

theorem OK.take {B : World} {h0 : FH} {T : List Res} {h : FH} {β : List RV} {w : World} (ok : OK B h0 T h β w) {n : Nat} (hn : n ≤ T.length) (below : ∀ r ∈ T.take n, resBelow n r = true) : OK B h0 (T.take n) h (β.take n) w where
  below := ok.below
  dr := ok.dr
  len := by simp [ok.len]
  holds := by
    intro i r v e e'
    have hi : i < n := by have := (List.getElem?_eq_some_iff.1 e).1; simp at this; omega
    have hm := below r (List.mem_of_getElem? e)
    rw [take_get hi] at e e'
    exact (ok.holds i r v e e').below hm
  own := by
    intro i r v b e l e' hb
    have hi : i < n := by have := (List.getElem?_eq_some_iff.1 e).1; simp at this; omega
    rw [take_get hi] at e e'
    exact ok.own i r v b e l e' hb
  inj := by
    intro i j r r' u v b e l e' l' f f' hb hb'
    have hi : i < n := by have := (List.getElem?_eq_some_iff.1 e).1; simp at this; omega
    have hj : j < n := by have := (List.getElem?_eq_some_iff.1 e').1; simp at this; omega
    rw [take_get hi] at e f
    rw [take_get hj] at e' f'
    exact ok.inj i j r r' u v b e l e' l' f f' hb hb'
  hle := ok.hle
  hw := ok.hw
  hg := ok.hg

theorem allL_mem {α : Type} {p : α → Bool} : ∀ {l : List α}, allL p l = true → ∀ x ∈ l, p x = true
  | [], _, x, hx => by simp at hx
  | y :: l, h, x, hx => by
    simp only [allL, andB_eq, Bool.and_eq_true] at h
    rcases List.mem_cons.1 hx with rfl | hx
    · exact h.1
    · exact allL_mem h.2 x hx

theorem eff_nil_take {gl : List Bool} : ∀ {T : List (Gd × Res)} {n : Nat}, (∀ p ∈ T.take n, p.1 = []) → eff [] (T.take n) = (eff gl T).take n
  | [], n, _ => by simp [eff]
  | (g, r) :: l, 0, _ => by simp [eff]
  | (g, r) :: l, n + 1, h => by
    have hg : g = [] := h (g, r) (by simp)
    subst hg
    simp only [List.take_succ_cons, eff]
    rw [eff_nil_take (gl := gl) (T := l) fun p hp => h p (by simp [hp])]

theorem updT_len : ∀ (rs : List (Nat × Res)) (T : List (Gd × Res)), (updT rs T).length = T.length
  | [], _ => rfl
  | (i, r) :: l, T => by simp only [updT]; rw [updT_len, setL_eq, List.length_set]

/-- The state at a loop's head. -/
theorem head_ok {N : Nat} {B : World} {h0 : FH} {s s' : St} {h : FH} {β : List RV} {w : World} {a : Act} (sat : Sat N B h0 s' h β w a) {ws : List Nat} {sl : List (Nat × SV)} {rs : List (Nat × Res)}
    (hT : takeL (lenL s.T) s'.T = updT rs s.T) (gT : goodT (lenL s.T) (updT rs s.T) = true) (gS : goodS (lenL s.T) ws sl = true) (hE : hasE s' sl)
    (hR : ∀ p ∈ keepR (lenL s.T) ws [] s.env, lkE s'.env p.1 = some ([], .one p.2))
    (D : ∀ t e, lkE (keepE ws [] s.env) t = some ([], e) → ∃ z, a.tmps[t]? = some z ∧ CnE h [] e z) :
    Sat N B h0 (headSt ws s sl rs) h (β.take (lenL s.T)) w a := by
  have e1 := hT
  rw [takeL_eq] at e1
  have g1 : ∀ p ∈ updT rs s.T, p.1 = [] ∧ resBelow (lenL s.T) p.2 = true := by
    intro p hp
    have := allL_mem gT p hp
    rw [andB_eq, Bool.and_eq_true] at this
    refine ⟨?_, this.2⟩
    have h2 := this.1
    cases hh : p.1 with
    | nil => rfl
    | cons _ _ => rw [hh] at h2; simp [isNil] at h2
  have hlen : lenL s.T ≤ s'.T.length := by
    have := congrArg List.length e1
    rw [updT_len, List.length_take, lenL_eq] at this
    rw [lenL_eq]; omega
  have look : ∀ {v : SV} {t : Nat}, svBelow (lenL s.T) v = true → lkE s'.env t = some ([], .one v) → ∃ z, a.tmps[t]? = some z ∧ CnV h (β.take (lenL s.T)) v z := by
    intro v t hb hl
    obtain ⟨z, q1, q2, _⟩ := sat.env t [] _ hl
    exact ⟨z, q1, CnV.below hb (q2 rfl)⟩
  refine ⟨?_, ?_, ?_, sat.defers, sat.sz, ?_, ?_⟩
  · show OK B h0 (eff [] (updT rs s.T)) h (β.take (lenL s.T)) w
    rw [← e1, eff_nil_take (gl := s'.gl) fun p hp => by rw [e1] at hp; exact (g1 p hp).1]
    refine sat.ok.take (by rw [eff_len]; exact hlen) ?_
    rw [← eff_nil_take (gl := s'.gl) fun p hp => by rw [e1] at hp; exact (g1 p hp).1]
    rw [e1]
    have : ∀ {l : List (Gd × Res)}, (∀ p ∈ l, p.1 = [] ∧ resBelow (lenL s.T) p.2 = true) → ∀ r ∈ eff [] l, resBelow (lenL s.T) r = true := by
      intro l
      induction l with
      | nil => intro _ r hr; simp [eff] at hr
      | cons q l ih =>
        obtain ⟨g, r0⟩ := q
        intro hh r hr
        have hg := hh (g, r0) (by simp)
        have hg1 : g = [] := hg.1
        subst hg1
        simp only [eff] at hr
        rcases List.mem_cons.1 hr with rfl | hr
        · exact hg.2
        · exact ih (fun p hp => hh p (by simp [hp])) r hr
    exact this g1
  · intro t G e ht
    simp only [headSt] at ht ⊢
    rw [lkE_cat] at ht
    split at ht
    · rename_i x hx
      cases ht
      obtain ⟨v, rfl, rfl, hm⟩ := slotE_get hx
      have hb := allL_mem gS _ hm
      rw [andB_eq, Bool.and_eq_true] at hb
      obtain ⟨z, q1, q2⟩ := look hb.1 (hasE_mem hE _ hm)
      exact ⟨z, q1, fun _ => q2, fun hh => by cases hh⟩
    · rw [lkE_cat] at ht
      split at ht
      · rename_i x hx
        cases ht
        obtain ⟨v, rfl, rfl, hm⟩ := slotE_get hx
        obtain ⟨z, q1, q2⟩ := look (keepR_below _ hm) (hR _ hm)
        exact ⟨z, q1, fun _ => q2, fun hh => by cases hh⟩
      · obtain ⟨_, _, _, rfl, hf⟩ := keepE_get ht
        obtain ⟨z, q1, q2⟩ := D t e ht
        exact ⟨z, q1, fun _ => CnE.refFree _ hf q2, fun hh => by cases hh⟩
  · intro d i hi; cases hi
  · intro t G e ht
    simp only [headSt] at ht
    rw [lkE_cat] at ht
    split at ht
    · rename_i x hx
      cases ht
      obtain ⟨_, _, rfl, _⟩ := slotE_get hx; rfl
    · rw [lkE_cat] at ht
      split at ht
      · rename_i x hx
        cases ht
        obtain ⟨_, _, rfl, _⟩ := slotE_get hx; rfl
      · obtain ⟨_, _, _, rfl, _⟩ := keepE_get ht; rfl
  · intro p hp
    rw [(g1 p hp).1]

theorem codeK_ok {P : Program} {E : Env} (ok : EnvOK P E) {B : World} {h0 : FH} (hg : GlobOK E.cx.gd h0) : ∀ (c : Code) {s : St} {h : FH} {β : List RV} {w : World} {a : Act} {K : Exit → St → Prop} {Q : Exit → Act → World → Prop}, Sat E.n B h0 s h β w a →
    codeK E c s K → (∀ e s' h' β' w' a', K e s' → h.le h' → Sat E.n B h0 s' h' β' w' a' → Same (writes c) a a' → Q e a' w') → c.wp P Q a w
  | .skip, s, h, β, w, a, K, Q, sat, k, next => wp_skip (next _ _ _ _ _ _ k (FH.le.refl h) sat (Same.refl _ _))
  | .exit i, s, h, β, w, a, K, Q, sat, k, next => wp_exit (next _ _ _ _ _ _ k (FH.le.refl h) sat (Same.refl _ _))
  | .ret, s, h, β, w, a, K, Q, sat, k, next => wp_ret (next _ _ _ _ _ _ k (FH.le.refl h) sat (Same.refl _ _))
  | .region id ops false, s, h, β, w, a, K, Q, sat, k, next => by
    refine wp_region_list (opsI_ok ok hg ops.toList sat ?_ fun s' h' β' w' a' k' le sat' sm => next .normal _ _ _ _ _ k' le sat'.clean ?_)
    · simp only [codeK] at k
      cases ops; exact k
    · cases ops; exact sm
  | .seq x y, s, h, β, w, a, K, Q, sat, k, next => by
    refine wp_seq (codeK_ok ok hg x sat k fun e s' h' β' w' a' k' le sat' sm => ?_)
    cases e with
    | normal => exact codeK_ok ok hg y sat' k' fun e s2 h2 β2 w2 a2 k2 le2 sat2 sm2 => next e s2 h2 β2 w2 a2 k2 (le.trans le2) sat2 (sm.left.trans sm2.right)
    | exit i => exact next _ _ _ _ _ _ k' le sat' sm.left
    | goto l => exact next _ _ _ _ _ _ k' le sat' sm.left
    | ret => exact next _ _ _ _ _ _ k' le sat' sm.left
    | panic ch => exact next _ _ _ _ _ _ k' le sat' sm.left
    | outgrown => exact next _ _ _ _ _ _ k' le sat' sm.left
  | .cond c x y, s, h, β, w, a, K, Q, sat, k, next => by
    simp only [codeK] at k
    split at k
    · rename_i b hb
      have hc : a.eval c = .bool b := (getE_ok sat (hg.mono sat.ok.hle) (show gv s.gl [] = true from rfl) hb).1.1
      refine wp_cond_split hc (fun ht => codeK_ok ok hg x sat ((br_iff.1 k).1 ht) fun e s' h' β' w' a' k' le sat' sm => next _ _ _ _ _ _ k' le sat' sm.left)
        (fun hf => codeK_ok ok hg y sat ((br_iff.1 k).2 hf) fun e s' h' β' w' a' k' le sat' sm => next _ _ _ _ _ _ k' le sat' sm.right)
    · exact k.elim
  | .block id c, s, h, β, w, a, K, Q, sat, k, next => by
    refine wp_block (codeK_ok ok hg c sat k fun e s' h' β' w' a' k' le sat' sm => ?_)
    cases e with
    | normal => exact next _ _ _ _ _ _ k' le sat' sm
    | exit i =>
      simp only at k'
      simp only [Exit.inBlock]
      split at k'
      · rename_i hi
        have : i = id := Nat.eq_of_beq_eq_true hi
        rw [if_pos this]
        exact next _ _ _ _ _ _ k' le sat' sm
      · rename_i hi
        have : ¬ i = id := fun hh => by rw [hh] at hi; simp at hi
        rw [if_neg this]
        exact next _ _ _ _ _ _ k' le sat' sm
    | goto l => exact next _ _ _ _ _ _ k' le sat' sm
    | ret => exact next _ _ _ _ _ _ k' le sat' sm
    | panic ch => exact next _ _ _ _ _ _ k' le sat' sm
    | outgrown => exact next _ _ _ _ _ _ k' le sat' sm
  | .loop c, s, h, β, w, a, K, Q, sat, k, next => by
    simp only [codeK] at k
    split at k
    · rename_i la _
      obtain ⟨h1, le1, sat1⟩ := Sat.frzSlots la.frz sat
      replace next := fun e s' h' β' w' a' k' le sat' sm => next e s' h' β' w' a' k' (le1.trans le) sat' sm
      clear le1 sat
      clear h
      rename FH => h
      generalize frzSlots s la.frz = s at sat1 k
      obtain ⟨β, sat⟩ := Sat.nilSt la.nil sat1
      clear sat1
      generalize nilSt s la.nil = s at sat k
      obtain ⟨⟨x, i1, i2, i3⟩, k2⟩ := k
      have good : ∀ x, la.inv x → goodT (lenL s.T) (updT (la.res x) s.T) = true ∧ goodS (lenL s.T) (catL la.drop (writes c)) (la.slots x) = true ∧
          codeK E c (headSt (catL la.drop (writes c)) s (la.slots x) (la.res x)) (fun e s' => match e with
            | .normal => match hasR (swAll la.ren s') (keepR (lenL s.T) (catL la.drop (writes c)) [] s.env) with
              | true => ∃ x', la.inv x' ∧ hasE (swAll la.ren s') (la.slots x') ∧ takeL (lenL s.T) (swAll la.ren s').T = updT (la.res x') s.T ∧ la.meas x' < la.meas x
              | false => False
            | e => K e s') := by
        intro x hx
        have := k2 x hx
        split at this
        · exact this.elim
        · rename_i hc
          rw [andB_eq, Bool.and_eq_true] at hc
          exact ⟨hc.1, hc.2, this⟩
      have D0 : ∀ h' a', h.le h' → Same (writes c) a a' → ∀ t e, lkE (keepE (catL la.drop (writes c)) [] s.env) t = some ([], e) → ∃ z, a'.tmps[t]? = some z ∧ CnE h' [] e z := by
        intro h' a' le sm t e ht
        obtain ⟨_, hw, hl, _, hf⟩ := keepE_get ht
        obtain ⟨z, q1, q2, _⟩ := sat.env t [] e hl
        exact ⟨z, by rw [sm t (by rw [memN_cat, Bool.or_eq_false_iff] at hw; exact hw.2)]; exact q1, (CnE.refFree [] hf (q2 rfl)).mono le (Ext.refl _)⟩
      refine wp_loop_ghost (fun n a' w' => ∃ x h' β', la.meas x = n ∧ la.inv x ∧ h.le h' ∧ Sat E.n B h0 (headSt (catL la.drop (writes c)) s (la.slots x) (la.res x)) h' β' w' a' ∧ Same (writes c) a a') (la.meas x) ?_ ?_
      · obtain ⟨g1, g2, _⟩ := good x i1
        refine ⟨x, h, _, rfl, i1, FH.le.refl h, head_ok sat ?_ g1 g2 i2 (fun p hp => (keepR_mem p hp).2) (D0 h a (FH.le.refl h) (Same.refl _ _)), Same.refl _ _⟩
        rw [← i3, takeL_eq, lenL_eq, List.take_length]
      · rintro n a' w' ⟨x, h', β', rfl, hx, le, sat', sm⟩
        obtain ⟨g1, g2, kk⟩ := good x hx
        refine codeK_ok ok hg c sat' kk fun e s2 h2 β2 w2 a2 k2 le2 sat2 sm2 => ?_
        cases e with
        | normal =>
          simp only at k2
          split at k2
          · rename_i hR
            obtain ⟨x', j1, j2, j3, j4⟩ := k2
            obtain ⟨g1', g2', _⟩ := good x' j1
            obtain ⟨β3, sat2⟩ := sat2.swAll la.ren
            refine ⟨la.meas x', j4, x', h2, _, rfl, j1, le.trans le2, head_ok sat2 j3 g1' g2' j2 (hasR_mem hR) (D0 h2 a2 (le.trans le2) (sm.trans sm2)), sm.trans sm2⟩
          · exact k2.elim
        | exit i => exact next _ _ _ _ _ _ k2 (le.trans le2) sat2 (sm.trans sm2)
        | goto l => exact next _ _ _ _ _ _ k2 (le.trans le2) sat2 (sm.trans sm2)
        | ret => exact next _ _ _ _ _ _ k2 (le.trans le2) sat2 (sm.trans sm2)
        | panic ch => exact next _ _ _ _ _ _ k2 (le.trans le2) sat2 (sm.trans sm2)
        | outgrown => exact next _ _ _ _ _ _ k2 (le.trans le2) sat2 (sm.trans sm2)
    · rename_i n _
      refine wp_loop_rounds n ?_
      have key : ∀ (n : Nat) {s : St} {h : FH} {β : List RV} {w : World} {a : Act} {K : Exit → St → Prop} {Q : Exit → Act → World → Prop}, Sat E.n B h0 s h β w a → roundsK (codeK E c) n s K →
          (∀ e s' h' β' w' a', K e s' → h.le h' → Sat E.n B h0 s' h' β' w' a' → Same (writes c) a a' → Q e a' w') → Code.rounds P c Q n a w := by
        intro n
        induction n with
        | zero => intro s h β w a K Q sat k next; exact k.elim
        | succ n ih =>
          intro s h β w a K Q sat k next
          rw [rounds_succ]
          refine codeK_ok ok hg c sat k fun e s2 h2 β2 w2 a2 k2 le2 sat2 sm2 => ?_
          cases e with
          | normal => exact ih sat2 k2 fun e s3 h3 β3 w3 a3 k3 le3 sat3 sm3 => next e s3 h3 β3 w3 a3 k3 (le2.trans le3) sat3 (sm2.trans sm3)
          | exit i => exact next _ _ _ _ _ _ k2 le2 sat2 sm2
          | goto l => exact next _ _ _ _ _ _ k2 le2 sat2 sm2
          | ret => exact next _ _ _ _ _ _ k2 le2 sat2 sm2
          | panic ch => exact next _ _ _ _ _ _ k2 le2 sat2 sm2
          | outgrown => exact next _ _ _ _ _ _ k2 le2 sat2 sm2
      exact key n sat k next
    · exact k.elim
  | .region id ops true, s, h, β, w, a, K, Q, sat, k, next => by
    simp only [codeK] at k
    cases hd : drawOrd ops with
    | none => rw [hd] at k; exact k.elim
    | some l =>
      rw [hd] at k
      exact draw_ok ok hg hd sat k fun s' h' β' w' a' k' le sat' sm => next .normal _ _ _ _ _ k' le sat'.clean sm
  | .rangeFunc _ _ _ _, s, h, β, w, a, K, Q, sat, k, next => k.elim
  | .scope _, s, h, β, w, a, K, Q, sat, k, next => k.elim
  | .label _, s, h, β, w, a, K, Q, sat, k, next => k.elim
  | .goto _, s, h, β, w, a, K, Q, sat, k, next => k.elim
  | .refuse _, s, h, β, w, a, K, Q, sat, k, next => k.elim
end Go.Eng
