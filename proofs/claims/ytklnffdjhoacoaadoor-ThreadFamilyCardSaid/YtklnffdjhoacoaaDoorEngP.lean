/- The engine, part P: the executor is sound. -/
import Derived.Test.YtklnffdjhoacoaaDoorEngRg
set_option linter.unusedSimpArgs false
set_option linter.unusedVariables false
namespace Go.Eng
open Go Go.RowKit

theorem lkE_cat : ∀ {l m : List (Nat × Gd × Ent)} {t : Nat}, lkE (catL l m) t = match lkE l t with | some x => some x | none => lkE m t
  | [], m, t => rfl
  | (k, x) :: l, m, t => by
    rw [show catL ((k, x) :: l) m = (k, x) :: catL l m from rfl, lkE_cons, lkE_cons]
    split
    · rfl
    · exact lkE_cat

theorem slotE_get : ∀ {l : List (Nat × SV)} {t : Nat} {G : Gd} {e : Ent}, lkE (slotE l) t = some (G, e) → ∃ v, e = .one v ∧ G = [] ∧ (t, v) ∈ l
  | [], _, _, _, h => by simp [slotE, lkE] at h
  | (k, v) :: l, t, G, e, h => by
    simp only [slotE] at h
    rw [lkE_cons] at h
    split at h
    · rename_i hk; subst hk; cases h; exact ⟨v, rfl, rfl, by simp⟩
    · obtain ⟨u, h1, h2, h3⟩ := slotE_get h; exact ⟨u, h1, h2, by simp [h3]⟩

theorem keepE_get {ws : List Nat} : ∀ {l : List (Nat × Gd × Ent)} {seen : List Nat} {t : Nat} {G : Gd} {e : Ent}, lkE (keepE ws seen l) t = some (G, e) →
    memN t seen = false ∧ memN t ws = false ∧ lkE l t = some (G, e) ∧ G = [] ∧ entRefFree e = true
  | [], _, _, _, _, h => by simp [keepE, lkE] at h
  | (k, g, e0) :: l, seen, t, G, e, h => by
    have skip : lkE (keepE ws (k :: seen) l) t = some (G, e) → memN t seen = false ∧ memN t ws = false ∧ lkE ((k, g, e0) :: l) t = some (G, e) ∧ G = [] ∧ entRefFree e = true := by
      intro h
      obtain ⟨h1, h2, h3, h4⟩ := keepE_get h
      rw [memN_cons, Bool.or_eq_false_iff] at h1
      refine ⟨h1.2, h2, ?_, h4⟩
      rw [lkE_cons, if_neg]
      · exact h3
      · rintro rfl; exact Nat.ne_of_beq_eq_false h1.1 rfl
    unfold keepE at h
    split at h
    · rename_i hm
      obtain ⟨h1, h2, h3, h4⟩ := keepE_get h
      refine ⟨h1, h2, ?_, h4⟩
      rw [lkE_cons, if_neg]
      · exact h3
      · rintro rfl; rw [hm] at h1; cases h1
    · rename_i hm
      split at h
      · exact skip h
      · rename_i hw
        split at h
        · rename_i hc
          rw [andB_eq, Bool.and_eq_true] at hc
          rw [lkE_cons] at h
          split at h
          · rename_i hk
            subst hk
            cases h
            refine ⟨hm, hw, by rw [lkE_cons, if_pos rfl], ?_, hc.2⟩
            cases g with
            | nil => rfl
            | cons _ _ => have := hc.1; cases this
          · exact skip h
        · exact skip h

theorem hasE_mem {s : St} : ∀ {l : List (Nat × SV)}, hasE s l → ∀ p ∈ l, lkE s.env p.1 = some ([], .one p.2)
  | [], _, p, hp => by simp at hp
  | (k, v) :: l, ⟨h1, h2⟩, p, hp => by
    rcases List.mem_cons.1 hp with rfl | hp
    · split at h1
      · rename_i u hu; rw [hu, h1]
      · exact h1.elim
    · exact hasE_mem h2 p hp

theorem hasR_mem {s : St} : ∀ {l : List (Nat × SV)}, hasR s l = true → ∀ p ∈ l, lkE s.env p.1 = some ([], .one p.2)
  | [], _, p, hp => by simp at hp
  | (k, .c (.own i off)) :: l, h, p, hp => by
    simp only [hasR] at h
    split at h
    · rename_i i' off' hu
      rw [andB_eq, andB_eq, Bool.and_eq_true, Bool.and_eq_true] at h
      rcases List.mem_cons.1 hp with rfl | hp
      · have e1 := Nat.eq_of_beq_eq_true h.1.1
        have e2 := Nat.eq_of_beq_eq_true h.1.2
        rw [hu, e1, e2]
      · exact hasR_mem h.2 p hp
    · cases h
  | (k, .c (.row i)) :: l, h, p, hp => by
    simp only [hasR] at h
    split at h
    · rename_i i' hu
      rw [andB_eq, Bool.and_eq_true] at h
      rcases List.mem_cons.1 hp with rfl | hp
      · have e1 := Nat.eq_of_beq_eq_true h.1
        rw [hu, e1]
      · exact hasR_mem h.2 p hp
    · cases h
  | (k, .c (.v _)) :: l, h, p, hp => by cases h
  | (k, .c (.sl _ _)) :: l, h, p, hp => by cases h
  | (k, .c (.fp _ _)) :: l, h, p, hp => by cases h
  | (k, .c (.rowp _ _ _ _)) :: l, h, p, hp => by cases h
  | (k, .c (.abs _)) :: l, h, p, hp => by cases h
  | (k, .c .junk) :: l, h, p, hp => by cases h
  | (k, .agg _) :: l, h, p, hp => by cases h
  | (k, .dat _ _) :: l, h, p, hp => by cases h
  | (k, .und) :: l, h, p, hp => by cases h

theorem keepR_below {n : Nat} {ws : List Nat} : ∀ {l : List (Nat × Gd × Ent)} {seen : List Nat}, ∀ p ∈ keepR n ws seen l, svBelow n p.2 = true
  | [], _, p, hp => by simp [keepR] at hp
  | (k, g, e) :: l, seen, p, hp => by
    unfold keepR at hp
    repeat' (split at hp)
    all_goals first
      | exact keepR_below p hp
      | (rcases List.mem_cons.1 hp with rfl | hp
         · assumption
         · exact keepR_below p hp)

theorem keepR_mem {n : Nat} {ws : List Nat} : ∀ {l : List (Nat × Gd × Ent)} {seen : List Nat}, ∀ p ∈ keepR n ws seen l, memN p.1 seen = false ∧ lkE l p.1 = some ([], .one p.2)
  | [], _, p, hp => by simp [keepR] at hp
  | (k, g, e) :: l, seen, p, hp => by
    have skip1 : memN k seen = true → p ∈ keepR n ws seen l → memN p.1 seen = false ∧ lkE ((k, g, e) :: l) p.1 = some ([], .one p.2) := by
      intro hm hp
      obtain ⟨h1, h2⟩ := keepR_mem p hp
      refine ⟨h1, ?_⟩
      rw [lkE_cons, if_neg]
      · exact h2
      · rintro rfl; rw [hm] at h1; cases h1
    have skip2 : p ∈ keepR n ws (k :: seen) l → memN p.1 seen = false ∧ lkE ((k, g, e) :: l) p.1 = some ([], .one p.2) := by
      intro hp
      obtain ⟨h1, h2⟩ := keepR_mem p hp
      rw [memN_cons, Bool.or_eq_false_iff] at h1
      refine ⟨h1.2, ?_⟩
      rw [lkE_cons, if_neg]
      · exact h2
      · rintro rfl; exact Nat.ne_of_beq_eq_false h1.1 rfl
    unfold keepR at hp
    split at hp
    · rename_i hm; exact skip1 hm hp
    · rename_i hm
      split at hp
      · exact skip2 hp
      · split at hp
        · rename_i hn
          have hg : g = [] := by cases g with | nil => rfl | cons _ _ => simp [isNil] at hn
          subst hg
          split at hp
          · split at hp
            · rcases List.mem_cons.1 hp with rfl | hp
              · exact ⟨hm, by rw [lkE_cons, if_pos rfl]⟩
              · exact skip2 hp
            · exact skip2 hp
          · split at hp
            · rcases List.mem_cons.1 hp with rfl | hp
              · exact ⟨hm, by rw [lkE_cons, if_pos rfl]⟩
              · exact skip2 hp
            · exact skip2 hp
          · exact skip2 hp
        · exact skip2 hp

theorem take_get {α : Type} {l : List α} {n i : Nat} (h : i < n) : (l.take n)[i]? = l[i]? := by
  rw [List.getElem?_take, if_pos h]
theorem CnC.below {h : FH} {β : List RV} {n : Nat} : ∀ {x : SC} {y : Value}, scBelow n x = true → CnC h β x y → CnC h (β.take n) x y
  | .v _, _, _, c => c
  | .sl _ _, _, _, c => c
  | .fp _ _, _, _, c => c
  | .own i _, _, f, ⟨b, e, e'⟩ => ⟨b, by rw [take_get (by have := Nat.le_of_ble_eq_true f; omega)]; exact e, e'⟩
  | .row i, _, f, e => by
    show (β.take n)[i]? = _
    rw [take_get (by have := Nat.le_of_ble_eq_true f; omega)]; exact e
  | .rowp i _ _ _, _, f, ⟨v, g, e, e'⟩ => ⟨v, g, by rw [take_get (by have := Nat.le_of_ble_eq_true f; omega)]; exact e, e'⟩
  | .abs _, _, _, c => c
  | .junk, _, _, _ => trivial
theorem CnV.below {h : FH} {β : List RV} {n : Nat} : ∀ {x : SV} {y : Value}, svBelow n x = true → CnV h β x y → CnV h (β.take n) x y
  | .c _, _, f, c => ⟨c.1.below f, c.2⟩
  | .agg _, _, f, ⟨ys, e, a⟩ => ⟨ys, e, a.allL (fun _ _ f ⟨p, q⟩ => ⟨p.below f, q⟩) f⟩
  | .dat _ _, _, _, c => c
  | .und, _, _, c => c
theorem Holds.below {h : FH} {β : List RV} {w : World} {n : Nat} : ∀ {r : Res} {v : RV}, resBelow n r = true → Holds h β w r v → Holds h (β.take n) w r v
  | .blk _ _, .blk _, f, ⟨ys, e, a⟩ => ⟨ys, e, a.allL (fun _ _ f ⟨p, q⟩ => ⟨p.below f, q⟩) f⟩
  | .row _ _ _, .row _, _, c => c
  | .obj _ _ _, .blk _, _, c => c
  | .gone, _, _, _ => trivial

theorem CnC.refFree {h : FH} {β : List RV} : ∀ {x : SC} {y : Value}, scRefFree x = true → CnC h β x y → ∀ β', CnC h β' x y
  | .v _, _, _, c => fun _ => c
  | .sl _ _, _, _, c => fun _ => c
  | .fp _ _, _, _, c => fun _ => c
  | .abs _, _, _, c => fun _ => c
  | .junk, _, _, _ => fun _ => trivial
  | .own _ _, _, f, _ => by simp [scRefFree] at f
  | .row _, _, f, _ => by simp [scRefFree] at f
  | .rowp _ _ _ _, _, f, _ => by simp [scRefFree] at f
theorem CnV.refFree {h : FH} {β : List RV} (β' : List RV) : ∀ {x : SV} {y : Value}, svRefFree x = true → CnV h β x y → CnV h β' x y
  | .c _, _, f, c => ⟨c.1.refFree f β', c.2⟩
  | .agg _, _, f, ⟨ys, e, a⟩ => ⟨ys, e, a.allL (fun _ _ f ⟨p, q⟩ => ⟨p.refFree f β', q⟩) f⟩
  | .dat _ _, _, _, c => c
  | .und, _, _, c => c
theorem CnE.refFree {h : FH} {β : List RV} (β' : List RV) : ∀ {x : Ent} {y : Value}, entRefFree x = true → CnE h β x y → CnE h β' x y
  | .one _, _, f, c => CnV.refFree β' f c
  | .tup _, _, f, ⟨ys, e, a⟩ => ⟨ys, e, a.allL (R' := CnV h β') (fun _ _ f c => CnV.refFree β' f c) f⟩

theorem OK.take {B : Base} {h0 : FH} {T : List Res} {h : FH} {β : List RV} {w : World} (ok : OK B h0 T h β w) {n : Nat} (hn : n ≤ T.length) (below : ∀ r ∈ T.take n, resBelow n r = true) : OK B h0 (T.take n) h (β.take n) w where
  below := ok.below
  dr := ok.dr
  len := by simp [ok.len]
  holds := by
    intro i r v e e'
    have hi : i < n := by have := (List.getElem?_eq_some_iff.1 e).1; simp at this; omega
    have hm := below r (List.mem_of_getElem? e)
    rw [take_get hi] at e e'
    exact (ok.holds i r v e e').below hm
  own := by
    intro i r v b e l e' hb
    have hi : i < n := by have := (List.getElem?_eq_some_iff.1 e).1; simp at this; omega
    rw [take_get hi] at e e'
    exact ok.own i r v b e l e' hb
  inj := by
    intro i j r r' u v b e l e' l' f f' hb hb'
    have hi : i < n := by have := (List.getElem?_eq_some_iff.1 e).1; simp at this; omega
    have hj : j < n := by have := (List.getElem?_eq_some_iff.1 e').1; simp at this; omega
    rw [take_get hi] at e f
    rw [take_get hj] at e' f'
    exact ok.inj i j r r' u v b e l e' l' f f' hb hb'
  hle := ok.hle
  hw := ok.hw
  hg := ok.hg
  kn := ok.kn

theorem allL_mem {α : Type} {p : α → Bool} : ∀ {l : List α}, allL p l = true → ∀ x ∈ l, p x = true
  | [], _, x, hx => by simp at hx
  | y :: l, h, x, hx => by
    simp only [allL, andB_eq, Bool.and_eq_true] at h
    rcases List.mem_cons.1 hx with rfl | hx
    · exact h.1
    · exact allL_mem h.2 x hx

theorem eff_nil_take {gl : List Bool} : ∀ {T : List (Gd × Res)} {n : Nat}, (∀ p ∈ T.take n, p.1 = []) → eff [] (T.take n) = (eff gl T).take n
  | [], n, _ => by simp [eff]
  | (g, r) :: l, 0, _ => by simp [eff]
  | (g, r) :: l, n + 1, h => by
    have hg : g = [] := h (g, r) (by simp)
    subst hg
    simp only [List.take_succ_cons, eff]
    rw [eff_nil_take (gl := gl) (T := l) fun p hp => h p (by simp [hp])]

theorem updT_len : ∀ (rs : List (Nat × Res)) (T : List (Gd × Res)), (updT rs T).length = T.length
  | [], _ => rfl
  | (i, r) :: l, T => by simp only [updT]; rw [updT_len, setL_eq, List.length_set]

/-- The state at a loop's head. -/
theorem head_ok {N : Nat} {B : Base} {h0 : FH} {s s' : St} {h : FH} {β : List RV} {w : World} {a : Act} (sat : Sat N B h0 s' h β w a) {ws : List Nat} {sl : List (Nat × SV)} {rs : List (Nat × Res)}
    (hT : takeL (lenL s.T) s'.T = updT rs s.T) (gT : goodT (lenL s.T) (updT rs s.T) = true) (gS : goodS (lenL s.T) ws sl = true) (hE : hasE s' sl)
    (hR : ∀ p ∈ keepR (lenL s.T) ws [] s.env, lkE s'.env p.1 = some ([], .one p.2))
    (D : ∀ t e, lkE (keepE ws [] s.env) t = some ([], e) → ∃ z, a.tmps[t]? = some z ∧ CnE h [] e z) :
    Sat N B h0 (headSt ws s sl rs) h (β.take (lenL s.T)) w a := by
  have e1 := hT
  rw [takeL_eq] at e1
  have g1 : ∀ p ∈ updT rs s.T, p.1 = [] ∧ resBelow (lenL s.T) p.2 = true := by
    intro p hp
    have := allL_mem gT p hp
    rw [andB_eq, Bool.and_eq_true] at this
    refine ⟨?_, this.2⟩
    have h2 := this.1
    cases hh : p.1 with
    | nil => rfl
    | cons _ _ => rw [hh] at h2; simp [isNil] at h2
  have hlen : lenL s.T ≤ s'.T.length := by
    have := congrArg List.length e1
    rw [updT_len, List.length_take, lenL_eq] at this
    rw [lenL_eq]; omega
  have look : ∀ {v : SV} {t : Nat}, svBelow (lenL s.T) v = true → lkE s'.env t = some ([], .one v) → ∃ z, a.tmps[t]? = some z ∧ CnV h (β.take (lenL s.T)) v z := by
    intro v t hb hl
    obtain ⟨z, q1, q2, _⟩ := sat.env t [] _ hl
    exact ⟨z, q1, CnV.below hb (q2 rfl)⟩
  refine ⟨?_, ?_, ?_, sat.defers, sat.sz, ?_, ?_⟩
  · show OK B h0 (eff [] (updT rs s.T)) h (β.take (lenL s.T)) w
    rw [← e1, eff_nil_take (gl := s'.gl) fun p hp => by rw [e1] at hp; exact (g1 p hp).1]
    refine sat.ok.take (by rw [eff_len]; exact hlen) ?_
    rw [← eff_nil_take (gl := s'.gl) fun p hp => by rw [e1] at hp; exact (g1 p hp).1]
    rw [e1]
    have : ∀ {l : List (Gd × Res)}, (∀ p ∈ l, p.1 = [] ∧ resBelow (lenL s.T) p.2 = true) → ∀ r ∈ eff [] l, resBelow (lenL s.T) r = true := by
      intro l
      induction l with
      | nil => intro _ r hr; simp [eff] at hr
      | cons q l ih =>
        obtain ⟨g, r0⟩ := q
        intro hh r hr
        have hg := hh (g, r0) (by simp)
        have hg1 : g = [] := hg.1
        subst hg1
        simp only [eff] at hr
        rcases List.mem_cons.1 hr with rfl | hr
        · exact hg.2
        · exact ih (fun p hp => hh p (by simp [hp])) r hr
    exact this g1
  · intro t G e ht
    simp only [headSt] at ht ⊢
    rw [lkE_cat] at ht
    split at ht
    · rename_i x hx
      cases ht
      obtain ⟨v, rfl, rfl, hm⟩ := slotE_get hx
      have hb := allL_mem gS _ hm
      rw [andB_eq, Bool.and_eq_true] at hb
      obtain ⟨z, q1, q2⟩ := look hb.1 (hasE_mem hE _ hm)
      exact ⟨z, q1, fun _ => q2, fun hh => by cases hh⟩
    · rw [lkE_cat] at ht
      split at ht
      · rename_i x hx
        cases ht
        obtain ⟨v, rfl, rfl, hm⟩ := slotE_get hx
        obtain ⟨z, q1, q2⟩ := look (keepR_below _ hm) (hR _ hm)
        exact ⟨z, q1, fun _ => q2, fun hh => by cases hh⟩
      · obtain ⟨_, _, _, rfl, hf⟩ := keepE_get ht
        obtain ⟨z, q1, q2⟩ := D t e ht
        exact ⟨z, q1, fun _ => CnE.refFree _ hf q2, fun hh => by cases hh⟩
  · intro d i hi; cases hi
  · intro t G e ht
    simp only [headSt] at ht
    rw [lkE_cat] at ht
    split at ht
    · rename_i x hx
      cases ht
      obtain ⟨_, _, rfl, _⟩ := slotE_get hx; rfl
    · rw [lkE_cat] at ht
      split at ht
      · rename_i x hx
        cases ht
        obtain ⟨_, _, rfl, _⟩ := slotE_get hx; rfl
      · obtain ⟨_, _, _, rfl, _⟩ := keepE_get ht; rfl
  · intro p hp
    rw [(g1 p hp).1]

/-! The base may come to know more objects that stay. -/
def Base.leB (B B' : Base) : Prop := B'.toWorld = B.toWorld ∧ B'.al = B.al ∧ ∀ k o, B.nc k o → B'.nc k o
theorem Base.leB.refl (B : Base) : B.leB B := ⟨rfl, rfl, fun _ _ h => h⟩
theorem Base.leB.trans {A B C : Base} (x : A.leB B) (y : B.leB C) : A.leB C := ⟨y.1.trans x.1, y.2.1.trans x.2.1, fun k o h => y.2.2 k o (x.2.2 k o h)⟩

/-- In a round nothing more comes to be known. -/
def Base.leR (r : Bool) (B B' : Base) : Prop := B.leB B' ∧ (r = true → B' = B)
theorem Base.leR.refl {r : Bool} (B : Base) : Base.leR r B B := ⟨.refl B, fun _ => rfl⟩
theorem Base.leR.trans {r : Bool} {A B C : Base} (x : Base.leR r A B) (y : Base.leR r B C) : Base.leR r A C := ⟨x.1.trans y.1, fun h => (y.2 h).trans (x.2 h)⟩

theorem OK.rebase {B B' : Base} {h0 : FH} {T : List Res} {h : FH} {β : List RV} {w : World} (ok : OK B h0 T h β w) (e : B'.toWorld = B.toWorld) (ea : B'.al = B.al) (kn : ∀ k o, B'.nc k o → w.heap[k]? = some o) : OK B' h0 T h β w where
  below := ⟨by rw [e]; exact ok.below.os, by rw [e]; exact ok.below.tape, by rw [e]; exact ok.below.output, by rw [e]; exact ok.below.size, by rw [e, ea]; exact ok.below.block⟩
  dr := by rw [e]; exact ok.dr
  len := ok.len
  holds := ok.holds
  own := by rw [ea]; exact ok.own
  inj := ok.inj
  hle := ok.hle
  hw := ok.hw
  hg := by rw [ea]; exact ok.hg
  kn := kn

/-- A function's own memory, as it stands. -/
def ownB (T : List Res) (β : List RV) (b : Nat) : Prop := ∃ (i : Nat) (r : Res) (v : RV), T[i]? = some r ∧ r.live = true ∧ β[i]? = some v ∧ v.block = some b
/-- The base of a round: all that is not the caller's own must stay. -/
@[reducible] def Base.rd (B : Base) (T : List Res) (β : List RV) (A : World) : Base :=
  { A with nc := B.nc, cell := B.cell, al := fun k => ownB T β k ∨ A.heap.size ≤ k, up := fun _ h => .inr h }

theorem OK.enter {B : Base} {h0 : FH} {T : List Res} {h : FH} {β : List RV} {A : World} (ok : OK B h0 T h β A) : OK (B.rd T β A) h T h β A where
  below := ⟨rfl, rfl, rfl, Nat.le_refl _, fun _ _ _ => rfl⟩
  dr := Nat.le_refl _
  len := ok.len
  holds := ok.holds
  own := fun i r v b e hl e' hb => ⟨.inl ⟨i, r, v, e, hl, e', hb⟩, (ok.own i r v b e hl e' hb).2⟩
  inj := ok.inj
  hle := FH.le.refl h
  hw := ok.hw
  hg := fun b o v hh => .inl hh
  kn := ok.kn

theorem OK.leave {B : Base} {h0 : FH} {T : List Res} {h : FH} {β : List RV} {A : World} (ok : OK B h0 T h β A) {T' : List Res} {h' : FH} {β' : List RV} {A' : World} {Br : Base} (e : Br.toWorld = A) (ea : Br.al = (B.rd T β A).al) (en : ∀ k o, B.nc k o → Br.nc k o) (ok' : OK Br h T' h' β' A') : OK B h0 T' h' β' A' := by
  have toB : ∀ k, Br.al k → B.al k := by
    intro k hk
    rw [ea] at hk
    rcases hk with ⟨i, r, v, h1, h2, h3, h4⟩ | hk
    · exact (ok.own i r v k h1 h2 h3 h4).1
    · exact B.up k (Nat.le_trans ok.below.size hk)
  subst e
  have cell : ∀ k, ownB T β k → ∃ o, Br.heap[k]? = some o ∧ o.isCells = true := by
    rintro k ⟨i, r, v, h1, h2, h3, h4⟩
    exact (ok.holds i r v h1 h3).cells h2 h4
  refine ⟨⟨ok'.below.os.trans ok.below.os, ok'.below.tape.trans ok.below.tape, ok'.below.output.trans ok.below.output, Nat.le_trans ok.below.size ok'.below.size, fun k hk ha => ?_⟩, Nat.le_trans ok.dr ok'.dr, ok'.len, ok'.holds,
    fun i r v b e1 l1 e2 hb => ⟨toB b (ok'.own i r v b e1 l1 e2 hb).1, (ok'.own i r v b e1 l1 e2 hb).2⟩, ok'.inj, ok.hle.trans ok'.hle, ok'.hw, fun b o v hh => ?_, fun k o hk => ok'.kn k o (en k o hk)⟩
  · exact (ok'.below.block k (Nat.lt_of_lt_of_le hk ok.below.size) (fun hh => ha (toB k hh))).trans (ok.below.block k hk ha)
  · rcases ok'.hg b o v hh with h1 | h1
    · exact ok.hg b o v h1
    · exact .inr (toB b h1)

/-- An iterator has written its own blocks. -/
theorem OK.gs {B : Base} {h0 : FH} {T : List Res} {h : FH} {β : List RV} {A A' : World} (ok : OK B h0 T h β A) {G : Nat → Prop} (gs : Gs G A A') (hB : ∀ k, G k → B.heap.size ≤ k) (hO : ∀ k, ownB T β k → ¬ G k) (hF : ∀ k o v, h k o = some v → ¬ G k) (hN : ∀ k o, B.nc k o → ¬ G k) : OK B h0 T h β A' := by
  have cl : ∀ b o v, h b o = some v → A'.cell? ⟨b, o, none⟩ = some v := by
    intro b o v hh
    have h1 := ok.hw b o v hh
    have h2 := World.block_lt_of_cell? _ _ h1
    simp at h2
    rw [block_of_cell (gs.block b h2 (hF b o v hh))]; exact h1
  exact {
    below := ⟨gs.os.trans ok.below.os, gs.tape.trans ok.below.tape, gs.output.trans ok.below.output, Nat.le_trans ok.below.size gs.size, fun k hk ha => (gs.block k (Nat.lt_of_lt_of_le hk ok.below.size) (fun hg => by have := hB k hg; omega)).trans (ok.below.block k hk ha)⟩
    dr := Nat.le_trans ok.dr gs.dr
    len := ok.len
    holds := fun i r v e e' => (ok.holds i r v e e').move (FH.le.refl h) (Ext.refl _) fun hl b hb => gs.block b (ok.own i r v b e hl e' hb).2.1 (hO b ⟨i, r, v, e, hl, e', hb⟩)
    own := fun i r v b e hl e' hb => by
      obtain ⟨h1, h2, h3⟩ := ok.own i r v b e hl e' hb
      exact ⟨h1, Nat.lt_of_lt_of_le h2 gs.size, h3⟩
    inj := ok.inj
    hle := ok.hle
    hw := cl
    hg := ok.hg
    kn := fun k o hk => by
      have h1 := ok.kn k o hk
      exact (gs.block k (Array.getElem?_eq_some_iff.1 h1).1 (hN k o hk)).trans h1 }
/-- An object that is no cells, and of which nothing is known, is turned. -/
theorem OK.turn {B : Base} {h0 : FH} {T : List Res} {h : FH} {β : List RV} {w : World} (ok : OK B h0 T h β w) {l : Nat} {o o' : Obj} (hB : B.al l) (hn : ∀ k u, B.nc k u → k ≠ l) (hl : w.heap[l]? = some o) (ho : o.isCells = false) : OK B h0 T h β (w.putObj l o') := by
  have cl : ∀ {a : Addr} {v : Value}, w.cell? a = some v → (w.putObj l o').cell? a = some v := by
    intro a v hv
    have hne : a.block ≠ l := by
      intro e
      unfold World.cell? at hv
      rw [e, hl] at hv
      cases o <;> simp_all [Obj.isCells]
    unfold World.cell? at hv ⊢
    rw [World.putObj_heap_other hne]; exact hv
  exact {
    below := ok.below.grown (row := some l) ⟨rfl, rfl, rfl, by simp, fun k _ hk => World.putObj_heap_other (fun e => hk (by rw [e]))⟩ (fun k e => by cases e; exact hB)
    dr := ok.dr
    len := ok.len
    holds := fun i r v e e' => (ok.holds i r v e e').move (FH.le.refl h) (Ext.refl _) fun hlv b hb => World.putObj_heap_other (by
      rintro rfl
      obtain ⟨o1, h1, h2⟩ := (ok.holds i r v e e').cells hlv hb
      rw [hl] at h1; cases h1; rw [ho] at h2; cases h2)
    own := fun i r v b e hlv e' hb => by
      obtain ⟨h1, h2, h3⟩ := ok.own i r v b e hlv e' hb
      exact ⟨h1, by simpa using h2, h3⟩
    inj := ok.inj
    hle := ok.hle
    hw := fun b o v hh => cl (ok.hw b o v hh)
    hg := ok.hg
    kn := fun k u hk => (World.putObj_heap_other (hn k u hk)).trans (ok.kn k u hk) }

theorem keepR_ws {n : Nat} {ws : List Nat} : ∀ {l : List (Nat × Gd × Ent)} {seen : List Nat}, ∀ p ∈ keepR n ws seen l, memN p.1 ws = false
  | [], _, p, hp => by simp [keepR] at hp
  | (k, g, e) :: l, seen, p, hp => by
    unfold keepR at hp
    repeat' (split at hp)
    all_goals first
      | exact keepR_ws p hp
      | (rcases List.mem_cons.1 hp with rfl | hp
         · assumption
         · exact keepR_ws p hp)

theorem good_all {n : Nat} {T : List (Gd × Res)} (h : goodT n T = true) : ∀ p ∈ T, p.1 = [] ∧ resBelow n p.2 = true := by
  intro p hp
  have := allL_mem h p hp
  rw [andB_eq, Bool.and_eq_true] at this
  refine ⟨?_, this.2⟩
  have h2 := this.1
  cases hh : p.1 with
  | nil => rfl
  | cons _ _ => rw [hh] at h2; simp [isNil] at h2
theorem eff_nil {gl : List Bool} : ∀ {T : List (Gd × Res)}, (∀ p ∈ T, p.1 = []) → eff [] T = eff gl T
  | [], _ => rfl
  | (g, r) :: l, h => by
    have hg : g = [] := h (g, r) (by simp)
    subst hg
    simp only [eff]
    rw [eff_nil (gl := gl) (T := l) fun p hp => h p (by simp [hp])]

/-- What a caller's slots hold, in a round and behind the loop. -/
theorem rd_env {N : Nat} {B : Base} {h0 : FH} {s : St} {h : FH} {β : List RV} {w : World} {a : Act} (sat : Sat N B h0 s h β w a) {ws dr : List Nat} {h' : FH} {β' : List RV} (le : h.le h')
    (refs : ∀ p ∈ keepR (lenL s.T) ws [] s.env, ∃ z, a.tmps[p.1]? = some z ∧ CnV h' β' p.2 z) : ∀ t G e, lkE (rdE ws dr s) t = some (G, e) → G = [] ∧ (memN t ws = false ∨ memN t dr = false) ∧ ∃ z, a.tmps[t]? = some z ∧ CnE h' β' e z := by
  intro t G e ht
  simp only [rdE] at ht
  rw [lkE_cat] at ht
  split at ht
  · rename_i x hx
    cases ht
    obtain ⟨v, rfl, rfl, hm⟩ := slotE_get hx
    obtain ⟨z, q1, q2⟩ := refs _ hm
    exact ⟨rfl, .inl (keepR_ws _ hm), z, q1, q2⟩
  · obtain ⟨_, hd, hl, rfl, hf⟩ := keepE_get ht
    obtain ⟨z, q1, q2, _⟩ := sat.env t [] e hl
    exact ⟨rfl, .inr hd, z, q1, (CnE.refFree β' hf (q2 rfl)).mono le (Ext.refl _)⟩

theorem rd_sat {N : Nat} {B B' : Base} {h0 : FH} {s : St} {h : FH} {β : List RV} {w : World} {a : Act} (sat : Sat N B h0 s h β w a) {ws dr : List Nat} {h' : FH} {β' : List RV} {A : World} {a' : Act} (le : h.le h')
    (refs : ∀ p ∈ keepR (lenL s.T) ws [] s.env, ∃ z, a.tmps[p.1]? = some z ∧ CnV h' β' p.2 z) {T : List (Gd × Res)} {gl : List Bool} (ok : OK B' h0 (eff gl T) h' β' A) (gT : ∀ p ∈ T, gbd gl.length p.1 = true) (ht : a'.tmps = a.tmps) (df : Dfr B' a') :
    Sat N B' h0 { env := rdE ws dr s, T := T, gl := gl, gs := [] } h' β' A a' where
  ok := ok
  env := fun t G e h1 => by
    obtain ⟨rfl, _, z, q1, q2⟩ := rd_env sat le refs t G e h1
    exact ⟨z, by rw [ht]; exact q1, fun _ => q2, fun hh => by cases hh⟩
  gs := fun d i hi => by cases hi
  defers := df
  sz := by rw [ht]; exact sat.sz
  gb := fun t G e h1 => by
    obtain ⟨rfl, _⟩ := rd_env sat le refs t G e h1; rfl
  gT := gT

theorem fold_size : ∀ (l : List (Nat × Value)) (t : Array Value), (l.foldl (fun t (p : Nat × Value) => t.setIfInBounds p.1 p.2) t).size = t.size
  | [], _ => rfl
  | _ :: l, t => by simp only [List.foldl_cons]; rw [fold_size l]; simp
theorem fold_other {k : Nat} : ∀ (l : List (Nat × Value)) (t : Array Value), (∀ p ∈ l, p.1 ≠ k) → (l.foldl (fun t (p : Nat × Value) => t.setIfInBounds p.1 p.2) t)[k]? = t[k]?
  | [], _, _ => rfl
  | (p, v) :: l, t, h => by
    simp only [List.foldl_cons]
    rw [fold_other l _ fun q hq => h q (by simp [hq])]
    exact Array.getElem?_setIfInBounds_ne (h (p, v) (by simp))

theorem zip_fold (ps : Array Tmp) (vs : List Value) (t : Array Value) : (ps.zip vs.toArray).foldl (fun t (p, v) => t.setIfInBounds p v) t = ((tl ps).zip vs).foldl (fun t (p : Nat × Value) => t.setIfInBounds p.1 p.2) t := by
  cases ps with
  | mk l => simp

theorem par_ok {h : FH} {n : Nat} : ∀ {ps : List Nat} {ss : List Sh} {d : dens ss} {vs : List Value} {t : Array Value}, t.size = n → parOK n ps ss = true → DVs h ss d vs →
    (∀ k G e, lkE (parE ps ss d) k = some (G, e) → G = [] ∧ ∃ z, ((ps.zip vs).foldl (fun t (p : Nat × Value) => t.setIfInBounds p.1 p.2) t)[k]? = some z ∧ ∀ β, CnE h β e z) ∧
    (∀ k, lkE (parE ps ss d) k = none → memN k ps = false)
  | [], [], d, vs, t, _, _, _ => ⟨fun k G e hh => by simp [parE, lkE] at hh, fun k _ => rfl⟩
  | [], _ :: _, d, vs, t, _, hp, _ => by simp [parOK] at hp
  | _ :: _, [], d, vs, t, _, hp, _ => by simp [parOK] at hp
  | p :: ps, s :: ss, d, vs, t, hn, hp, hv => by
    cases vs with
    | nil => exact hv.elim
    | cons v vs =>
      simp only [parOK, andB_eq, Bool.and_eq_true] at hp
      obtain ⟨⟨hp1, hp2⟩, hp3⟩ := hp
      have hp2 : memN p ps = false := by simpa using hp2
      have hp1 := Nat.le_of_ble_eq_true hp1
      obtain ⟨i1, i2⟩ := par_ok (t := t.setIfInBounds p v) (by simp [hn]) hp3 hv.2
      have hnot : ∀ q ∈ ps.zip vs, q.1 ≠ p := by
        intro q hq e
        have hm : q.1 ∈ ps := (List.of_mem_zip hq).1
        rw [e] at hm
        have : ∀ {l : List Nat}, p ∈ l → memN p l = true := by
          intro l
          induction l with
          | nil => intro h; cases h
          | cons x l ih =>
            intro h
            rw [memN_cons]
            rcases List.mem_cons.1 h with rfl | h
            · simp
            · rw [ih h]; simp
        rw [this hm] at hp2; cases hp2
      refine ⟨fun k G e hh => ?_, fun k hh => ?_⟩
      · simp only [parE] at hh
        rw [lkE_cons] at hh
        split at hh
        · rename_i hk
          subst hk
          cases hh
          refine ⟨rfl, v, ?_, fun β => ?_⟩
          · simp only [List.zip_cons_cons, List.foldl_cons]
            rw [fold_other _ _ hnot]
            rw [Array.getElem?_setIfInBounds_self_of_lt (by omega)]
          · obtain ⟨cs, rfl, r⟩ := hv.1
            exact ofDat_ok s r
        · simpa only [List.zip_cons_cons, List.foldl_cons] using i1 k G e hh
      · simp only [parE] at hh
        rw [lkE_cons] at hh
        split at hh
        · cases hh
        · rename_i hk
          rw [memN_cons, i2 k hh, Bool.or_false]
          cases hb : Nat.beq k p with
          | false => rfl
          | true => exact absurd (Nat.eq_of_beq_eq_true hb).symm hk

/-- The iterator's blocks are no one else's. -/
def Apt (n : Nat) (T : List Res) (h : FH) (β : List RV) (G : Nat → Prop) : Prop := (∀ b, G b → n ≤ b) ∧ (∀ b, ownB T β b → ¬ G b) ∧ ∀ b o v, h b o = some v → ¬ G b

/-- A piece of a round has been walked. -/
theorem piece_out {N n : Nat} {B : Base} {h0 : FH} {T : List Res} {h : FH} {β : List RV} {A : World} {G : Nat → Prop} (ok' : OK B h0 T h β A) (ap : Apt n T h β G) (apb : ∀ b, G b → b < A.heap.size)
    {B2 : Base} {s2 : St} {h2 : FH} {β2 : List RV} {A2 : World} {a2 : Act} (lb2 : (B.rd T β A).leB B2) (sat2 : Sat N B2 h s2 h2 β2 A2 a2) :
    OK B h0 (eff s2.gl s2.T) h2 β2 A2 ∧ Apt n (eff s2.gl s2.T) h2 β2 G ∧ A.heap.size ≤ A2.heap.size ∧ (∀ k, k < A.heap.size → ¬ ownB T β k → A2.heap[k]? = A.heap[k]?) ∧
      (∀ k o, A.heap[k]? = some o → o.isCells = false → ¬ ownB T β k) := by
  have same : ∀ k, k < A.heap.size → ¬ ownB T β k → A2.heap[k]? = A.heap[k]? := by
    intro k hk hn
    have h1 := sat2.ok.below
    have h2 := lb2.1
    have h3 : B2.al k ↔ (ownB T β k ∨ A.heap.size ≤ k) := by rw [lb2.2.1]
    have h4 := h1.block k (by rw [h2]; exact hk) (fun hh => by rcases h3.1 hh with hh | hh <;> first | exact hn hh | omega)
    rw [h2] at h4
    exact h4
  refine ⟨ok'.leave lb2.1 lb2.2.1 lb2.2.2 sat2.ok, ⟨ap.1, ?_, ?_⟩, ?_, same, ?_⟩
  · rintro b ⟨i, r, v, e1, e2, e3, e4⟩ hb
    have hh := (sat2.ok.own i r v b e1 e2 e3 e4).1
    rw [lb2.2.1] at hh
    rcases hh with hh | hh
    · exact ap.2.1 b hh hb
    · have := apb b hb; omega
  · intro b o v hh hb
    rcases sat2.ok.hg b o v hh with h1 | h1
    · exact ap.2.2 b o v h1 hb
    · rw [lb2.2.1] at h1
      rcases h1 with h1 | h1
      · exact ap.2.1 b h1 hb
      · have := apb b hb; omega
  · have := sat2.ok.below.size
    rw [lb2.1] at this
    exact this
  · rintro k o hk ho ⟨i, r, v, e1, e2, e3, e4⟩
    obtain ⟨o', q1, q2⟩ := (ok'.holds i r v e1 e3).cells e2 e4
    rw [hk] at q1; cases q1; rw [ho] at q2; cases q2

/-- A range over a function, walked by its rounds. -/
theorem range_ok {P : Program} {h0 : FH} {n : Nat} {asg c : Code} (rec : ∀ (c' : Code), c' = asg ∨ c' = c → ∀ (h0 : FH) (E : Env) (B : Base) (s : St) (h : FH) (β : List RV) (w : World) (a : Act) (K : Exit → St → Prop) (Q : Exit → Act → World → Prop) (l : Nat), EnvOK P E → GlobOK E.cx.gd h0 → E.rd = true → Sat E.n B h0 s h β w a →
      codeK E c' s K → (∀ e s' h' β' w' a' B', Base.leR E.rd B B' → K e s' → h.le h' → Sat E.n B' h0 s' h' β' w' a' → Same (writes c') a a' → Q e a' w') → c'.wpIn (Fence.wide.inRound l) 0 P Q a w)
    {E : Env} (ok : EnvOK P E) (hg : GlobOK E.cx.gd h0) {B : Base} {s : St} {h : FH} {β : List RV} {w : World} {a : Act} {K : Exit → St → Prop} {Q : Exit → Act → World → Prop} (sat : Sat E.n B h0 s h β w a)
    {g : Operand} {ss : List Sh} {L : List (dens ss)} (gv : Gives P h ss L (a.eval g)) {ps : Array Tmp} {ra : RA}
    (k : rangeK E.n (fun s K => codeK { E with rd := true } asg s fun e s' => match e with
      | .normal => codeK { E with rd := true } c s' K
      | _ => False) (catL ra.drop (catL (tl ps) (catL (writes asg) (writes c)))) ra (tl ps) ss L s K)
    (hrd : E.rd = false) (next : ∀ e s' h' β' w' a' B', Base.leR E.rd B B' → K e s' → h.le h' → Sat E.n B' h0 s' h' β' w' a' → Same [] a a' → Q e a' w') : (Code.rangeFunc g ps asg c).wpIn Fence.wide n P Q a w := by
  unfold rangeK at k
  split at k
  · exact k.elim
  rename_i hpar
  obtain ⟨⟨x0, i0, t0⟩, kr, kd⟩ := k
  obtain ⟨ws, hws⟩ : ∃ ws, ws = catL ra.drop (catL (tl ps) (catL (writes asg) (writes c))) := ⟨_, rfl⟩
  rw [← hws] at kr kd
  have good : ∀ i x, i ≤ L.length → ra.inv i x → goodT (lenL s.T) (updT (ra.res x) s.T) = true := by
    intro i x hi hx
    cases hd : L[i]? with
    | some d =>
      have := kr i x d hx hd
      split at this
      · exact this.elim
      · rename_i hh; exact hh
    | none =>
      have he : i = lenL L := by rw [lenL_eq]; have := List.getElem?_eq_none_iff.1 hd; omega
      subst he
      have := kd x hx
      split at this
      · exact this.elim
      · rename_i hh; exact hh
  have tlen : ∀ x, lenL s.T = (updT (ra.res x) s.T).length := fun x => by rw [updT_len, lenL_eq]
  have hpl : ps.size = ss.length := by
    have : ∀ {l : List Nat} {ss : List Sh}, parOK E.n l ss = true → l.length = ss.length := by
      intro l
      induction l with
      | nil => intro ss h; cases ss with | nil => rfl | cons _ _ => simp [parOK] at h
      | cons x l ih =>
        intro ss h
        cases ss with
        | nil => simp [parOK] at h
        | cons s ss =>
          simp only [parOK, andB_eq, Bool.and_eq_true] at h
          simp [ih h.2]
    have h1 := this hpar
    cases ps; simpa using h1
  have psw : ∀ t, memN t ws = false → memN t (tl ps) = false ∧ memN t (writes asg) = false ∧ memN t (writes c) = false := by
    intro t ht
    rw [hws, memN_cat, memN_cat, memN_cat, Bool.or_eq_false_iff, Bool.or_eq_false_iff, Bool.or_eq_false_iff] at ht
    exact ⟨ht.2.1, ht.2.2.1, ht.2.2.2⟩
  have fold_ne : ∀ (vs : List Value) t, memN t (tl ps) = false → ((ps.zip vs.toArray).foldl (fun t (p, v) => t.setIfInBounds p v) a.tmps)[t]? = a.tmps[t]? := by
    intro vs t ht
    rw [zip_fold]
    refine fold_other _ _ fun q hq e => ?_
    have hm : q.1 ∈ tl ps := (List.of_mem_zip hq).1
    rw [e] at hm
    have : ∀ {l : List Nat}, t ∈ l → memN t l = true := by
      intro l
      induction l with
      | nil => intro h; cases h
      | cons x l ih =>
        intro h
        rw [memN_cons]
        rcases List.mem_cons.1 h with rfl | h
        · simp
        · rw [ih h]; simp
    rw [this hm] at ht; cases ht
  have refs0 : ∀ p ∈ keepR (lenL s.T) ws [] s.env, ∃ z, a.tmps[p.1]? = some z ∧ CnV h β p.2 z := by
    intro p hp
    obtain ⟨z, q1, q2, _⟩ := sat.env _ _ _ (keepR_mem p hp).2
    exact ⟨z, q1, q2 rfl⟩
  have nclt : ∀ kk o, B.nc kk o → kk < w.heap.size := fun kk o hk => (Array.getElem?_eq_some_iff.1 (sat.ok.kn kk o hk)).1
  have hBs : B.heap.size ≤ w.heap.size := sat.ok.below.size
  -- the iterator's blocks are no one else's
  let Ap : List Res → FH → List RV → (Nat → Prop) → Prop := fun T h' β' G => Apt w.heap.size T h' β' G
  have apG : ∀ {T : List Res} {h' : FH} {β' : List RV} {G G' : Nat → Prop} {A A' : World}, OK B h0 T h' β' A → w.heap.size ≤ A.heap.size → Ap T h' β' G → Own' G G' A A' → Ap T h' β' G' := by
    intro T h' β' G G' A A' ok' hsz ⟨a1, a2, a3⟩ ho
    refine ⟨fun b hb => ?_, fun b hb hg => ?_, fun b o v hb hg => ?_⟩
    · rcases (ho b hb).2 with h1 | h1
      · exact a1 b h1
      · omega
    · rcases (ho b hg).2 with h1 | h1
      · exact a2 b hb h1
      · obtain ⟨i, r, v, e1, e2, e3, e4⟩ := hb
        have := (ok'.own i r v b e1 e2 e3 e4).2.1
        omega
    · rcases (ho b hg).2 with h1 | h1
      · exact a3 b o v hb h1
      · have := World.block_lt_of_cell? _ _ (ok'.hw b o v hb)
        simp at this
        omega
  have gsO : ∀ {T : List Res} {h' : FH} {β' : List RV} {G : Nat → Prop} {A A' : World}, OK B h0 T h' β' A → Ap T h' β' G → Gs G A A' → OK B h0 T h' β' A' := fun ok' ⟨a1, a2, a3⟩ gs =>
    ok'.gs gs (fun k hk => Nat.le_trans hBs (a1 k hk)) a2 a3 (fun k o hk hg => by have := nclt k o hk; have := a1 k hg; omega)
  -- what holds between the rounds; what holds where a round has left
  let I : Nat → (Nat → Prop) → World → Prop := fun i G A => i ≤ L.length ∧ (w.heap.size ≤ A.heap.size ∧ ∀ b, G b → b < A.heap.size) ∧ ∃ x h' β', Ap (eff [] (updT (ra.res x) s.T)) h' β' G ∧ ra.inv i x ∧ h.le h' ∧ OK B h0 (eff [] (updT (ra.res x) s.T)) h' β' A ∧ ∀ p ∈ keepR (lenL s.T) ws [] s.env, ∃ z, a.tmps[p.1]? = some z ∧ CnV h' β' p.2 z
  let Ix : Code → (Nat → Prop) → World → Prop := fun cc G A => w.heap.size ≤ A.heap.size ∧ ∃ e T gl h' β', Ap (eff gl T) h' β' G ∧ ((cc = .ret ∧ e = Exit.ret) ∨ ∃ j, cc = .exit j ∧ e = Exit.exit j) ∧ K e { env := rdE ws ra.drop s, T := T, gl := gl, gs := [] } ∧ h.le h' ∧ OK B h0 (eff gl T) h' β' A ∧
    (∀ p ∈ T, gbd gl.length p.1 = true) ∧ ∀ p ∈ keepR (lenL s.T) ws [] s.env, ∃ z, a.tmps[p.1]? = some z ∧ CnV h' β' p.2 z
  have dfr : ∀ A, A.heap[w.heap.size]? = some (.deferred (some [])) → ∃ B' : Base, B.leB B' ∧ Dfr B' { a with defers := markOf w.heap.size :: a.defers } ∧ (∀ {T h' β'}, OK B h0 T h' β' A → OK B' h0 T h' β' A) := by
    intro A hA
    refine ⟨{ B with nc := fun k o => B.nc k o ∨ (k = w.heap.size ∧ o = .deferred (some [])), cell := fun k o hh => hh.elim (B.cell k o) fun hh => by rw [hh.2]; rfl }, ⟨rfl, rfl, fun k o hh => .inl hh⟩, ?_, fun ok' => ok'.rebase rfl rfl (fun k o hh => hh.elim (ok'.kn k o) fun hh => by rw [hh.1, hh.2]; exact hA)⟩
    obtain ⟨X, x1, x2, x3⟩ := sat.defers
    refine ⟨w.heap.size :: X, by simp [x1, markOf], ?_, ?_⟩
    · refine List.nodup_cons.2 ⟨fun hm => ?_, x2⟩
      have := nclt _ _ (x3 _ hm).2
      omega
    · intro D hD
      rcases List.mem_cons.1 hD with rfl | hD
      · exact ⟨B.up _ hBs, .inr ⟨rfl, rfl⟩⟩
      · exact ⟨(x3 D hD).1, .inl (x3 D hD).2⟩
  have fin : ∀ e cc G A, ((cc = .ret ∧ e = Exit.ret) ∨ ∃ j, cc = .exit j ∧ e = Exit.exit j) → Ix cc G A → A.heap[w.heap.size]? = some (.deferred (some [])) → Q e { a with defers := markOf w.heap.size :: a.defers } A := by
    rintro e cc G A he ⟨_, e', T, gl, h', β', _, he', kk, le, ok', gT, refs⟩ hA
    have hee : e' = e := by
      rcases he with ⟨rfl, rfl⟩ | ⟨j, rfl, rfl⟩ <;> rcases he' with ⟨h1, h2⟩ | ⟨j', h1, h2⟩ <;> first | (cases h1; exact h2) | cases h1
    subst hee
    obtain ⟨B', lb, df, up⟩ := dfr A hA
    exact next _ _ h' β' A _ B' ⟨lb, fun hh => (by rw [hrd] at hh; cases hh)⟩ kk le (rd_sat sat le refs (up ok') gT rfl df) fun _ _ => rfl
  refine range_law gv hpl I Ix ?_ ?_ ?_ ?_ ?_ ?_ ?_ ?_ ?_ (fun G A hA => fin .ret .ret G A (.inl ⟨rfl, rfl⟩) hA) (fun j G A hA => fin (.exit j) (.exit j) G A (.inr ⟨j, rfl, rfl⟩) hA)
  · rintro i G A ⟨_, _, x, h', β', _, _, le, ok', _⟩
    exact HW.mono le ok'.hw
  · rintro cc G A ⟨_, e, T, gl, h', β', _, he, kk, le, ok', _⟩
    exact HW.mono le ok'.hw
  · rintro i G G' A A' ⟨hi, hsz, x, h', β', ap, i1, le, ok', refs⟩ gs ho
    exact ⟨hi, ⟨Nat.le_trans hsz.1 gs.size, fun b hb => (ho b hb).1⟩, x, h', β', apG ok' hsz.1 ap ho, i1, le, gsO ok' ap gs, refs⟩
  · rintro cc G G' A A' ⟨hsz, e, T, gl, h', β', ap, he, kk, le, ok', gT, refs⟩ gs ho
    exact ⟨Nat.le_trans hsz gs.size, e, T, gl, h', β', apG ok' hsz ap ho, he, kk, le, gsO ok' ap gs, gT, refs⟩
  · rintro i G A l o o' ⟨hi, hsz, x, h', β', ap, i1, le, ok', refs⟩ hl hA ho
    exact ⟨hi, ⟨by simpa using hsz.1, by simpa using hsz.2⟩, x, h', β', ap, i1, le, ok'.turn (B.up _ (Nat.le_trans hBs hl)) (fun kk u hk e => by have := nclt kk u hk; omega) hA ho, refs⟩
  · rintro cc G A l o o' ⟨hsz, e, T, gl, h', β', ap, he, kk, le, ok', gT, refs⟩ hl hA ho
    exact ⟨by simpa using hsz, e, T, gl, h', β', ap, he, kk, le, ok'.turn (B.up _ (Nat.le_trans hBs hl)) (fun kk u hk e => by have := nclt kk u hk; omega) hA ho, gT, refs⟩
  · refine ⟨Nat.zero_le _, ⟨Nat.le_refl _, fun b hb => hb.elim⟩, x0, h, β, ⟨fun b hb => hb.elim, fun b _ hb => hb.elim, fun b o v _ hb => hb.elim⟩, i0, FH.le.refl h, ?_, refs0⟩
    have g0 := good 0 x0 (Nat.zero_le _) i0
    rw [eff_nil (gl := s.gl) fun p hp => (good_all g0 p hp).1, ← t0]
    exact sat.ok
  · rintro i d vs G A l o1 o1' o2 hd hv ⟨hi, ⟨hsz, apb⟩, x, h', β', ap, i1, le, ok', refs⟩ hl hA1 ho1 ho1' hA2 ho2 hGl
    have kk := kr i x d i1 hd
    have gx := good i x hi i1
    rw [gx] at kk
    simp only at kk
    have blen : β'.length = lenL s.T := by rw [ok'.len, eff_len, ← tlen]
    obtain ⟨p1, p2⟩ := par_ok (t := a.tmps) (n := E.n) sat.sz hpar hv
    have satr : Sat E.n (B.rd (eff [] (updT (ra.res x) s.T)) β' A) h'
        { env := catL (parE (tl ps) ss d) (rdE ws (catL ra.drop (tl ps)) s), T := updT (ra.res x) s.T, gl := [], gs := [] } h' β' A { tmps := (ps.zip vs.toArray).foldl (fun t (p, v) => t.setIfInBounds p v) a.tmps, defers := [] } := by
      refine ⟨ok'.enter, ?_, ?_, Dfr.nil rfl, ?_, ?_, ?_⟩
      · intro t G e ht
        simp only at ht ⊢
        rw [lkE_cat] at ht
        split at ht
        · rename_i y hy
          cases ht
          obtain ⟨rfl, z, z1, z2⟩ := p1 t G e hy
          refine ⟨z, by rw [zip_fold]; exact z1, fun _ => (z2 β').mono le (Ext.refl _), fun hh => by cases hh⟩
        · rename_i hy
          obtain ⟨rfl, hm, z, z1, z2⟩ := rd_env sat le refs t G e ht
          have hps : memN t (tl ps) = false := p2 t hy
          exact ⟨z, by rw [fold_ne vs t hps]; exact z1, fun _ => z2, fun hh => by cases hh⟩
      · intro dd ii hh; cases hh
      · rw [zip_fold, fold_size]; exact sat.sz
      · intro t G e ht
        simp only at ht
        rw [lkE_cat] at ht
        split at ht
        · rename_i y hy
          cases ht
          obtain ⟨rfl, _⟩ := p1 t G e hy; rfl
        · obtain ⟨rfl, _⟩ := rd_env sat le refs t G e ht; rfl
      · intro p hp; rw [(good_all gx p hp).1]
    have okE : EnvOK P { E with rd := true } := ⟨ok.prog, ok.hc, ok.mkf, ok.mixed, ok.ti, ok.ct, ok.ip⟩
    refine rec asg (.inl rfl) h' { E with rd := true } _ _ h' β' A _ _ _ l okE (hg.mono ok'.hle) rfl satr kk ?_
    rintro e1 s1 h1 β1 A1 a1 B1 ⟨lb1, lr1⟩ k1 le1 sat1 sm1
    cases e1 with
    | exit j => exact k1.elim
    | goto j => exact k1.elim
    | ret => exact k1.elim
    | panic c => exact k1.elim
    | outgrown => exact k1.elim
    | normal =>
    obtain ⟨q1, q2, q3, q4, q5⟩ := piece_out ok' ap apb lb1 sat1
    have keep1 : ∀ b, b = l ∨ b = w.heap.size ∨ G b → A1.heap[b]? = A.heap[b]? := by
      rintro b (rfl | rfl | hb)
      · exact q4 _ (Array.getElem?_eq_some_iff.1 hA1).1 (q5 _ _ hA1 ho1)
      · exact q4 _ (Array.getElem?_eq_some_iff.1 hA2).1 (q5 _ _ hA2 ho2)
      · exact q4 b (apb b hb) (fun hh => ap.2.1 b hh hb)
    refine ⟨keep1, ?_⟩
    have hB1 : A1.heap[l]? = some o1 := (keep1 l (.inl rfl)).trans hA1
    have hl1 : l < A1.heap.size := (Array.getElem?_eq_some_iff.1 hB1).1
    -- the record is turned; all else stands
    have okt : OK B h0 (eff s1.gl s1.T) h1 β1 (A1.putObj l o1') := q1.turn (B.up _ (Nat.le_trans hBs (by omega))) (fun kk u hk e => by have := nclt kk u hk; omega) hB1 ho1
    have sat1' : Sat E.n (B.rd (eff s1.gl s1.T) β1 (A1.putObj l o1')) h1 s1 h1 β1 (A1.putObj l o1') a1 := by
      have hd1 : a1.defers = [] := by
        obtain ⟨X, x1, x2, x3⟩ := sat1.defers
        cases X with
        | nil => simpa using x1
        | cons D X =>
          exfalso
          obtain ⟨d1, d2⟩ := x3 D (by simp)
          rw [lr1 rfl] at d1 d2
          have hk := ok'.kn D _ d2
          rcases d1 with d1 | d1
          · obtain ⟨i, r, v, e1, e2, e3, e4⟩ := d1
            obtain ⟨o', q1, q2⟩ := (ok'.holds i r v e1 e3).cells e2 e4
            rw [hk] at q1; cases q1; cases q2
          · have := (Array.getElem?_eq_some_iff.1 hk).1
            omega
      exact ⟨okt.enter, sat1.env, sat1.gs, Dfr.nil hd1, sat1.sz, sat1.gb, sat1.gT⟩
    have hsz1 : w.heap.size ≤ (A1.putObj l o1').heap.size := by simp; omega
    have apb1 : ∀ b, G b → b < (A1.putObj l o1').heap.size := fun b hb => by have := apb b hb; simp; omega
    have hT2 : (A1.putObj l o1').heap[w.heap.size]? = some o2 := (World.putObj_heap_other (by omega)).trans ((keep1 _ (.inr (.inl rfl))).trans hA2)
    have hT1 : (A1.putObj l o1').heap[l]? = some o1' := World.putObj_heap_same hl1
    refine rec c (.inr rfl) h1 { E with rd := true } _ _ h1 β1 _ _ _ _ l okE (hg.mono (ok'.hle.trans le1)) rfl sat1' k1 ?_
    rintro e s2 h2 β2 A2 a2 B2 ⟨lb2, _⟩ k2 le2 sat2 sm2
    obtain ⟨ok2, ap2, q8, q9, q10⟩ := piece_out okt q2 apb1 lb2 sat2
    have keep : ∀ b, b = l ∨ b = w.heap.size ∨ G b → A2.heap[b]? = (A1.putObj l o1').heap[b]? := by
      rintro b (rfl | rfl | hb)
      · exact q9 _ (Array.getElem?_eq_some_iff.1 hT1).1 (q10 _ _ hT1 ho1')
      · exact q9 _ (Array.getElem?_eq_some_iff.1 hT2).1 (q10 _ _ hT2 ho2)
      · exact q9 b (apb1 b hb) (fun hh => q2.2.1 b hh hb)
    split at k2
    · exact k2.elim
    rename_i hR
    have hsz2 : w.heap.size ≤ A2.heap.size := Nat.le_trans hsz1 q8
    have refs2 : ∀ p ∈ keepR (lenL s.T) ws [] s.env, ∃ z, a.tmps[p.1]? = some z ∧ CnV h2 β2 p.2 z := by
      intro p hp
      obtain ⟨z, q1, q2, _⟩ := sat2.env _ _ _ (hasR_mem hR p hp)
      obtain ⟨w1, w2, w3⟩ := psw _ (keepR_ws p hp)
      have e1 := sm2 p.1 w3
      have e2 := sm1 p.1 w2
      simp only at e2
      rw [e1, e2, fold_ne vs _ w1] at q1
      exact ⟨z, q1, q2 rfl⟩
    cases e with
    | normal =>
      simp only at k2
      obtain ⟨x', j1, j2⟩ := k2
      have hi1 : i + 1 ≤ L.length := (List.getElem?_eq_some_iff.1 hd).1
      have gx' := good (i + 1) x' hi1 j1
      have et : eff [] (updT (ra.res x') s.T) = (eff s2.gl s2.T).take (lenL s.T) := by
        rw [takeL_eq] at j2
        rw [← j2, eff_nil_take (gl := s2.gl) fun p hp => by rw [j2] at hp; exact (good_all gx' p hp).1]
      refine ⟨keep, hi1, ⟨hsz2, fun b hb => Nat.lt_of_lt_of_le (apb1 b hb) q8⟩, x', h2, β2.take (lenL s.T), ?_, j1, (le.trans le1).trans le2, ?_, fun p hp => ?_⟩
      · refine ⟨ap2.1, ?_, ap2.2.2⟩
        rintro b ⟨i, r, v, e1, e2, e3, e4⟩ hb
        rw [et] at e1
        have hi : i < lenL s.T := by have := (List.getElem?_eq_some_iff.1 e1).1; simp at this; omega
        rw [take_get hi] at e1 e3
        exact ap2.2.1 b ⟨i, r, v, e1, e2, e3, e4⟩ hb
      · rw [et]
        rw [takeL_eq] at j2
        have hlen : lenL s.T ≤ s2.T.length := by
          have := congrArg List.length j2
          rw [updT_len, List.length_take, lenL_eq] at this
          rw [lenL_eq]; omega
        refine ok2.take (by rw [eff_len]; exact hlen) ?_
        rw [← et]
        have : ∀ {l : List (Gd × Res)}, (∀ p ∈ l, p.1 = [] ∧ resBelow (lenL s.T) p.2 = true) → ∀ r ∈ eff [] l, resBelow (lenL s.T) r = true := by
          intro l
          induction l with
          | nil => intro _ r hr; simp [eff] at hr
          | cons q l ih =>
            obtain ⟨g, r0⟩ := q
            intro hh r hr
            have hg := hh (g, r0) (by simp)
            have hg1 : g = [] := hg.1
            subst hg1
            simp only [eff] at hr
            rcases List.mem_cons.1 hr with rfl | hr
            · exact hg.2
            · exact ih (fun p hp => hh p (by simp [hp])) r hr
        exact this (good_all gx')
      · obtain ⟨z, q1, q2⟩ := refs2 p hp
        exact ⟨z, q1, CnV.below (keepR_below p hp) q2⟩
    | ret => exact ⟨keep, hsz2, .ret, s2.T, s2.gl, h2, β2, ap2, .inl ⟨rfl, rfl⟩, k2, (le.trans le1).trans le2, ok2, sat2.gT, refs2⟩
    | exit j => exact ⟨keep, hsz2, .exit j, s2.T, s2.gl, h2, β2, ap2, .inr ⟨j, rfl, rfl⟩, k2, (le.trans le1).trans le2, ok2, sat2.gT, refs2⟩
    | goto t => exact k2.elim
    | panic ch => exact k2.elim
    | outgrown => exact k2.elim
  · rintro G A ⟨_, _, x, h', β', _, i1, le, ok', refs⟩ hA
    have kk := kd x (by rw [lenL_eq]; exact i1)
    have gx := good _ x (Nat.le_refl _) i1
    rw [gx] at kk
    simp only at kk
    obtain ⟨B', lb, df, up⟩ := dfr A hA
    exact next _ _ h' β' A _ B' ⟨lb, fun hh => (by rw [hrd] at hh; cases hh)⟩ kk le (rd_sat sat le refs (up ok') (fun p hp => by rw [(good_all gx p hp).1]) rfl df) fun _ _ => rfl

theorem codeK_ok {P : Program} {n : Nat} : ∀ (c : Code) {h0 : FH} {E : Env} (ok : EnvOK P E) (hg : GlobOK E.cx.gd h0) {F : Fence} (hF : Wd F) (hr : E.rd = false → F = Fence.wide) {B : Base} {s : St} {h : FH} {β : List RV} {w : World} {a : Act} {K : Exit → St → Prop} {Q : Exit → Act → World → Prop}, Sat E.n B h0 s h β w a →
    codeK E c s K → (∀ e s' h' β' w' a' B', Base.leR E.rd B B' → K e s' → h.le h' → Sat E.n B' h0 s' h' β' w' a' → Same (writes c) a a' → Q e a' w') → c.wpIn F n P Q a w
  | .skip, h0, E, ok, hg, F, hF, hr, B, s, h, β, w, a, K, Q, sat, k, next => wpIn_skip (next _ _ _ _ _ _ _ (.refl _) k (FH.le.refl h) sat (Same.refl _ _))
  | .exit i, h0, E, ok, hg, F, hF, hr, B, s, h, β, w, a, K, Q, sat, k, next => wpIn_exit (next _ _ _ _ _ _ _ (.refl _) k (FH.le.refl h) sat (Same.refl _ _))
  | .ret, h0, E, ok, hg, F, hF, hr, B, s, h, β, w, a, K, Q, sat, k, next => wpIn_ret (next _ _ _ _ _ _ _ (.refl _) k (FH.le.refl h) sat (Same.refl _ _))
  | .region id ops false, h0, E, ok, hg, F, hF, hr, B, s, h, β, w, a, K, Q, sat, k, next => by
    simp only [codeK] at k
    split at k
    · exact k.elim
    rename_i hnd
    have et : tl ops = ops.toList := by cases ops; rfl
    rw [et] at hnd k
    refine wpL_region (R := fun a w => Q .normal a w) hF (fun _ _ hh => hh) hnd (opsI_ok ok hg ops.toList sat (by rw [et]; exact k) fun s' h' β' w' a' k' le sat' sm => next .normal _ _ _ _ _ _ (.refl _) k' le sat'.clean ?_)
    simp only [writes]; rw [et]; exact sm
  | .seq x y, h0, E, ok, hg, F, hF, hr, B, s, h, β, w, a, K, Q, sat, k, next => by
    refine wpIn_seq (codeK_ok x ok hg hF hr sat k fun e s' h' β' w' a' B1 lb k' le sat' sm => ?_)
    cases e with
    | normal => exact codeK_ok y ok hg hF hr sat' k' fun e s2 h2 β2 w2 a2 B2 lb2 k2 le2 sat2 sm2 => next e s2 h2 β2 w2 a2 B2 (lb.trans lb2) k2 (le.trans le2) sat2 (sm.left.trans sm2.right)
    | exit i => exact next _ _ _ _ _ _ _ lb k' le sat' sm.left
    | goto l => exact next _ _ _ _ _ _ _ lb k' le sat' sm.left
    | ret => exact next _ _ _ _ _ _ _ lb k' le sat' sm.left
    | panic ch => exact next _ _ _ _ _ _ _ lb k' le sat' sm.left
    | outgrown => exact next _ _ _ _ _ _ _ lb k' le sat' sm.left
  | .cond c x y, h0, E, ok, hg, F, hF, hr, B, s, h, β, w, a, K, Q, sat, k, next => by
    simp only [codeK] at k
    split at k
    · rename_i b hb
      have hc : a.eval c = .bool b := (getE_ok sat (hg.mono sat.ok.hle) (show gv s.gl [] = true from rfl) hb).1.1
      refine wpIn_cond_split hc (fun ht => codeK_ok x ok hg hF hr sat ((br_iff.1 k).1 ht) fun e s' h' β' w' a' B1 lb k' le sat' sm => next _ _ _ _ _ _ _ lb k' le sat' sm.left)
        (fun hf => codeK_ok y ok hg hF hr sat ((br_iff.1 k).2 hf) fun e s' h' β' w' a' B1 lb k' le sat' sm => next _ _ _ _ _ _ _ lb k' le sat' sm.right)
    · exact k.elim
  | .block id c, h0, E, ok, hg, F, hF, hr, B, s, h, β, w, a, K, Q, sat, k, next => by
    refine wpIn_block (codeK_ok c ok hg hF hr sat k fun e s' h' β' w' a' B1 lb k' le sat' sm => ?_)
    cases e with
    | normal => exact next _ _ _ _ _ _ _ lb k' le sat' sm
    | exit i =>
      simp only at k'
      simp only [Exit.inBlock]
      split at k'
      · rename_i hi
        have : i = id := Nat.eq_of_beq_eq_true hi
        rw [if_pos this]
        exact next _ _ _ _ _ _ _ lb k' le sat' sm
      · rename_i hi
        have : ¬ i = id := fun hh => by rw [hh] at hi; simp at hi
        rw [if_neg this]
        exact next _ _ _ _ _ _ _ lb k' le sat' sm
    | goto l => exact next _ _ _ _ _ _ _ lb k' le sat' sm
    | ret => exact next _ _ _ _ _ _ _ lb k' le sat' sm
    | panic ch => exact next _ _ _ _ _ _ _ lb k' le sat' sm
    | outgrown => exact next _ _ _ _ _ _ _ lb k' le sat' sm
  | .loop c, h0, E, ok, hg, F, hF, hr, B, s, h, β, w, a, K, Q, sat, k, next => by
    simp only [codeK] at k
    split at k
    · rename_i la _
      obtain ⟨h1, le1, sat1⟩ := Sat.frzSlots la.frz sat
      replace next := fun e s' h' β' w' a' B1 lb k' le sat' sm => next e s' h' β' w' a' B1 lb k' (le1.trans le) sat' sm
      clear le1 sat
      clear h
      rename FH => h
      generalize frzSlots s la.frz = s at sat1 k
      obtain ⟨β, sat⟩ := Sat.nilSt la.nil sat1
      clear sat1
      generalize nilSt s la.nil = s at sat k
      obtain ⟨⟨x, i1, i2, i3⟩, k2⟩ := k
      have good : ∀ x, la.inv x → goodT (lenL s.T) (updT (la.res x) s.T) = true ∧ goodS (lenL s.T) (catL la.drop (writes c)) (la.slots x) = true ∧
          codeK E c (headSt (catL la.drop (writes c)) s (la.slots x) (la.res x)) (fun e s' => match e with
            | .normal => match hasR (swAll la.ren s') (keepR (lenL s.T) (catL la.drop (writes c)) [] s.env) with
              | true => ∃ x', la.inv x' ∧ hasE (swAll la.ren s') (la.slots x') ∧ takeL (lenL s.T) (swAll la.ren s').T = updT (la.res x') s.T ∧ la.meas x' < la.meas x
              | false => False
            | e => K e s') := by
        intro x hx
        have := k2 x hx
        split at this
        · exact this.elim
        · rename_i hc
          rw [andB_eq, Bool.and_eq_true] at hc
          exact ⟨hc.1, hc.2, this⟩
      have D0 : ∀ h' a', h.le h' → Same (writes c) a a' → ∀ t e, lkE (keepE (catL la.drop (writes c)) [] s.env) t = some ([], e) → ∃ z, a'.tmps[t]? = some z ∧ CnE h' [] e z := by
        intro h' a' le sm t e ht
        obtain ⟨_, hw, hl, _, hf⟩ := keepE_get ht
        obtain ⟨z, q1, q2, _⟩ := sat.env t [] e hl
        exact ⟨z, by rw [sm t (by rw [memN_cat, Bool.or_eq_false_iff] at hw; exact hw.2)]; exact q1, (CnE.refFree [] hf (q2 rfl)).mono le (Ext.refl _)⟩
      refine wpIn_loop_ghost (fun n a' w' => ∃ x h' β' B1, Base.leR E.rd B B1 ∧ la.meas x = n ∧ la.inv x ∧ h.le h' ∧ Sat E.n B1 h0 (headSt (catL la.drop (writes c)) s (la.slots x) (la.res x)) h' β' w' a' ∧ Same (writes c) a a') (la.meas x) ?_ ?_
      · obtain ⟨g1, g2, _⟩ := good x i1
        refine ⟨x, h, _, B, .refl _, rfl, i1, FH.le.refl h, head_ok sat ?_ g1 g2 i2 (fun p hp => (keepR_mem p hp).2) (D0 h a (FH.le.refl h) (Same.refl _ _)), Same.refl _ _⟩
        rw [← i3, takeL_eq, lenL_eq, List.take_length]
      · rintro n a' w' ⟨x, h', β', B1, lb, rfl, hx, le, sat', sm⟩
        obtain ⟨g1, g2, kk⟩ := good x hx
        refine codeK_ok c ok hg hF hr sat' kk fun e s2 h2 β2 w2 a2 B2 lb2 k2 le2 sat2 sm2 => ?_
        cases e with
        | normal =>
          simp only at k2
          split at k2
          · rename_i hR
            obtain ⟨x', j1, j2, j3, j4⟩ := k2
            obtain ⟨g1', g2', _⟩ := good x' j1
            obtain ⟨β3, sat2⟩ := sat2.swAll la.ren
            refine ⟨la.meas x', j4, x', h2, _, B2, lb.trans lb2, rfl, j1, le.trans le2, head_ok sat2 j3 g1' g2' j2 (hasR_mem hR) (D0 h2 a2 (le.trans le2) (sm.trans sm2)), sm.trans sm2⟩
          · exact k2.elim
        | exit i => exact next _ _ _ _ _ _ _ (lb.trans lb2) k2 (le.trans le2) sat2 (sm.trans sm2)
        | goto l => exact next _ _ _ _ _ _ _ (lb.trans lb2) k2 (le.trans le2) sat2 (sm.trans sm2)
        | ret => exact next _ _ _ _ _ _ _ (lb.trans lb2) k2 (le.trans le2) sat2 (sm.trans sm2)
        | panic ch => exact next _ _ _ _ _ _ _ (lb.trans lb2) k2 (le.trans le2) sat2 (sm.trans sm2)
        | outgrown => exact next _ _ _ _ _ _ _ (lb.trans lb2) k2 (le.trans le2) sat2 (sm.trans sm2)
    · rename_i m _
      refine wpIn_loop_rounds m ?_
      have key : ∀ (m : Nat) {B : Base} {s : St} {h : FH} {β : List RV} {w : World} {a : Act} {K : Exit → St → Prop} {Q : Exit → Act → World → Prop}, Sat E.n B h0 s h β w a → roundsK (codeK E c) m s K →
          (∀ e s' h' β' w' a' B', Base.leR E.rd B B' → K e s' → h.le h' → Sat E.n B' h0 s' h' β' w' a' → Same (writes c) a a' → Q e a' w') → Code.roundsIn F n P c Q m a w := by
        intro m
        induction m with
        | zero => intro B s h β w a K Q sat k next; exact k.elim
        | succ m ih =>
          intro B s h β w a K Q sat k next
          rw [roundsIn_succ]
          refine codeK_ok c ok hg hF hr sat k fun e s2 h2 β2 w2 a2 B2 lb2 k2 le2 sat2 sm2 => ?_
          cases e with
          | normal => exact ih sat2 k2 fun e s3 h3 β3 w3 a3 B3 lb3 k3 le3 sat3 sm3 => next e s3 h3 β3 w3 a3 B3 (lb2.trans lb3) k3 (le2.trans le3) sat3 (sm2.trans sm3)
          | exit i => exact next _ _ _ _ _ _ _ lb2 k2 le2 sat2 sm2
          | goto l => exact next _ _ _ _ _ _ _ lb2 k2 le2 sat2 sm2
          | ret => exact next _ _ _ _ _ _ _ lb2 k2 le2 sat2 sm2
          | panic ch => exact next _ _ _ _ _ _ _ lb2 k2 le2 sat2 sm2
          | outgrown => exact next _ _ _ _ _ _ _ lb2 k2 le2 sat2 sm2
      exact key m sat k next
    · exact k.elim
  | .region id ops true, h0, E, ok, hg, F, hF, hr, B, s, h, β, w, a, K, Q, sat, k, next => by
    simp only [codeK] at k
    split at k
    · exact k.elim
    rename_i hnd
    have et : tl ops = ops.toList := by cases ops; rfl
    cases hd : drawOrd ops with
    | none => rw [hd] at k; exact k.elim
    | some l =>
      rw [hd] at k
      exact draw_ok ok hg hd sat k hF (by rw [et] at hnd; exact hnd) fun s' h' β' w' a' k' le sat' sm => next .normal _ _ _ _ _ _ (.refl _) k' le sat'.clean sm
  | .rangeFunc g ps asg c, h0, E, ok, hg, F, hF, hr, B, s, h, β, w, a, K, Q, sat, k, next => by
    simp only [codeK] at k
    split at k
    · exact k.elim
    rename_i hrd
    have hF' := hr hrd
    subst hF'
    split at k
    · rename_i P' ss L hgE
      split at k
      · rename_i ra _
        obtain ⟨hP, k⟩ := k
        have hP := ok.prog _ hP
        subst hP
        have gv0 : Gives P' h ss L (a.eval g) := (getE_ok sat (hg.mono sat.ok.hle) (show gv s.gl [] = true from rfl) hgE).1
        obtain ⟨h1, le1, sat1⟩ := Sat.frzSlots ra.frz sat
        replace next := fun e s' h' β' w' a' B1 lb k' le sat' sm => next e s' h' β' w' a' B1 lb k' (le1.trans le) sat' sm
        have gv1 := Abs.rel_mono (x := .seq P' ss L) le1 gv0
        generalize frzSlots s ra.frz = s1 at sat1 k
        obtain ⟨β1, sat2⟩ := Sat.nilSt ra.nil sat1
        generalize nilSt s1 ra.nil = s2 at sat2 k
        refine range_ok (fun c' hc' h0' E' B' s' h' β' w' a' K' Q' l ok' hg' he sat' k' next' => ?_) ok hg sat2 gv1 k hrd next
        rcases hc' with rfl | rfl
        · exact codeK_ok _ ok' hg' (F := Fence.wide.inRound l) (.inr ⟨l, rfl⟩) (fun hh => by rw [he] at hh; cases hh) sat' k' next'
        · exact codeK_ok _ ok' hg' (F := Fence.wide.inRound l) (.inr ⟨l, rfl⟩) (fun hh => by rw [he] at hh; cases hh) sat' k' next'
      · exact k.elim
    · exact k.elim
  | .scope _, h0, E, ok, hg, F, hF, hr, B, s, h, β, w, a, K, Q, sat, k, next => k.elim
  | .label _, h0, E, ok, hg, F, hF, hr, B, s, h, β, w, a, K, Q, sat, k, next => k.elim
  | .goto _, h0, E, ok, hg, F, hF, hr, B, s, h, β, w, a, K, Q, sat, k, next => k.elim
  | .refuse _, h0, E, ok, hg, F, hF, hr, B, s, h, β, w, a, K, Q, sat, k, next => k.elim
end Go.Eng
