/- The engine, part Rg: a range over a function whose data are known. -/
import Derived.Test.YtklnffdjhoacoaaDoorEngO
set_option linter.unusedSimpArgs false
set_option linter.unusedVariables false
namespace Go.Eng
open Go Go.RowKit

@[reducible] def markOf (D : Nat) : Deferred := { target := .collected D, args := #[] }

theorem gs_loop (w : World) (a b : Obj) (G : Nat → Prop) : Gs G w ((w.alloc a).alloc b) :=
  ⟨rfl, rfl, rfl, by simp; omega, Nat.le_refl _, fun k hk _ => by
    rw [Below.heap_alloc _ _ _ (by simp; omega), Below.heap_alloc _ _ _ hk]⟩

/-- How a round may be left. -/
def roundQ (A : World) (l D : Nat) (G : Nat → Prop) (I : World → Prop) (Ix : Code → World → Prop) : Exit → Act → World → Prop
  | .normal, _, A' => (∀ b, b = l ∨ b = D ∨ G b → A'.heap[b]? = A.heap[b]?) ∧ I A'
  | .ret, _, A' => (∀ b, b = l ∨ b = D ∨ G b → A'.heap[b]? = A.heap[b]?) ∧ Ix .ret A'
  | .exit id, _, A' => (∀ b, b = l ∨ b = D ∨ G b → A'.heap[b]? = A.heap[b]?) ∧ Ix (.exit id) A'
  | .goto t, _, _ => False
  | .panic _, _, _ => False
  | .outgrown, _, _ => False

theorem range_law {P : Program} {h : FH} {ss : List Sh} {L : List (dens ss)} {g : Operand} {ps : Array Tmp} {asg body : Code} {Q : Exit → Act → World → Prop} {a : Act} {w : World} {n : Nat}
    (gv : Gives P h ss L (a.eval g)) (hps : ps.size = ss.length)
    (I : Nat → (Nat → Prop) → World → Prop) (Ix : Code → (Nat → Prop) → World → Prop) (hI : ∀ i G A, I i G A → HW h A) (hX : ∀ c G A, Ix c G A → HW h A)
    (hIg : ∀ i G G' A A', I i G A → Gs G A A' → Own' G G' A A' → I i G' A') (hXg : ∀ c G G' A A', Ix c G A → Gs G A A' → Own' G G' A A' → Ix c G' A')
    (hIp : ∀ i G A l o o', I i G A → w.heap.size ≤ l → A.heap[l]? = some o → o.isCells = false → I i G (A.putObj l o'))
    (hXp : ∀ c G A l o o', Ix c G A → w.heap.size ≤ l → A.heap[l]? = some o → o.isCells = false → Ix c G (A.putObj l o'))
    (h0 : I 0 (fun _ => False) w)
    (hbody : ∀ (i : Nat) (d : dens ss) (vs : List Value) (G : Nat → Prop) (A : World) (l : Nat) (o1 o1' o2 : Obj), L[i]? = some d → DVs h ss d vs → I i G A → w.heap.size < l → A.heap[l]? = some o1 → o1.isCells = false → o1'.isCells = false → A.heap[w.heap.size]? = some o2 → o2.isCells = false → ¬ G l →
      asg.wpIn (Fence.wide.inRound l) 0 P (Exit.then (fun a1 A1 => (∀ b, b = l ∨ b = w.heap.size ∨ G b → A1.heap[b]? = A.heap[b]?) ∧
        body.wpIn (Fence.wide.inRound l) 0 P (roundQ (A1.putObj l o1') l w.heap.size G (I (i + 1) G) (fun c => Ix c G)) a1 (A1.putObj l o1')) (fun _ _ _ => False)) { tmps := (ps.zip vs.toArray).foldl (fun t (p, v) => t.setIfInBounds p v) a.tmps, defers := [] } A)
    (hdone : ∀ G A, I L.length G A → A.heap[w.heap.size]? = some (.deferred (some [])) → Q .normal { a with defers := markOf w.heap.size :: a.defers } A)
    (hret : ∀ G A, Ix .ret G A → A.heap[w.heap.size]? = some (.deferred (some [])) → Q .ret { a with defers := markOf w.heap.size :: a.defers } A)
    (hexit : ∀ j G A, Ix (.exit j) G A → A.heap[w.heap.size]? = some (.deferred (some [])) → Q (.exit j) { a with defers := markOf w.heap.size :: a.defers } A) :
    (Code.rangeFunc g ps asg body).wpIn Fence.wide n P Q a w := by
  refine wpIn_rangeFunc fun fn hfn => ?_
  obtain ⟨gf, lb, hg, ⟨fng, hfg, hbg, hng⟩, gives⟩ := gv
  obtain ⟨rec, hrec⟩ : ∃ rec : LoopState → Option Code → Loop, rec = fun st pe => { state := st, pending := pe, fn, tmps := a.tmps, params := ps, assign := asg, body, defers := w.heap.size } := ⟨_, rfl⟩
  obtain ⟨W1, hW1⟩ : ∃ W1, (w.alloc (.deferred (some []))).alloc (.loop (rec .ready none)) = W1 := ⟨_, rfl⟩
  have hL1 : W1.heap[w.heap.size + 1]? = some (.loop (rec .ready none)) := by
    rw [← hW1]; have := World.alloc_heap_new (w.alloc (.deferred (some []))) (.loop (rec .ready none)); rwa [World.size_alloc] at this
  have hD1 : W1.heap[w.heap.size]? = some (.deferred (some [])) := by
    rw [← hW1]; exact (Below.heap_alloc _ _ _ (by simp)).trans (World.alloc_heap_new w _)
  have hI1 : I 0 (fun _ => False) W1 := hIg 0 _ _ _ _ h0 (by rw [← hW1]; exact gs_loop w _ _ _) (fun b hb => hb.elim)
  have kd : ∀ {G G' : Nat → Prop} {A A' : World} {k : Nat} {o : Obj}, A.heap[k]? = some o → ¬ G k → Gs G A A' → Own' G G' A A' → A'.heap[k]? = some o ∧ ¬ G' k := fun hk hn hgs ho =>
    ⟨(hgs.block _ (Array.getElem?_eq_some_iff.1 hk).1 hn).trans hk, fun hh => by
      have h1 := (Array.getElem?_eq_some_iff.1 hk).1
      rcases (ho _ hh).2 with h2 | h2
      · exact hn h2
      · omega⟩
  refine ⟨w.heap.size + 1, [markOf w.heap.size], W1, { target := .fn (.func gf) lb, args := #[.func (.yield (w.heap.size + 1)) #[] #[]] }, W1, gf,
    #[.func (.yield (w.heap.size + 1)) #[] #[]] ++ lb, W1, ?_, ?_, ?_, ?_, fun hh => (by cases hh), ?_⟩
  · rw [← hW1, hrec]; exact run_enterLoop_outer _ _ _ _ _
  · simp only [resolve, hg]
    simp [go_sem]
  · intro f' hf'; trivial
  · have e : (callFunc gf (#[.func (.yield (w.heap.size + 1)) #[] #[]] ++ lb)).run P W1 = .ok (.enter gf (#[.func (.yield (w.heap.size + 1)) #[] #[]] ++ lb)) W1 := by
      simp only [callFunc, Sem.run_bind, run_program, Result.andThen_ok, hfg, hng]
      simp [hbg]
      cases hb : fng.body with
      | none => rw [hb] at hbg; cases hbg
      | some _ => simp
    simp [invoke, go_sem, e]
  · have hc := gives (w.heap.size + 1)
      (fun i G A => match i with
        | some i => I i G A ∧ (A.heap[w.heap.size + 1]? = some (.loop (rec .ready none)) ∧ ¬ G (w.heap.size + 1)) ∧ (A.heap[w.heap.size]? = some (.deferred (some [])) ∧ ¬ G w.heap.size)
        | none => ∃ c, (c = .ret ∨ ∃ j, c = .exit j) ∧ Ix c G A ∧ (A.heap[w.heap.size + 1]? = some (.loop (rec .done (some c))) ∧ ¬ G (w.heap.size + 1)) ∧ (A.heap[w.heap.size]? = some (.deferred (some [])) ∧ ¬ G w.heap.size)) W1
      (fun i G A x => by
        cases i with
        | some i => exact hI i G A x.1
        | none => obtain ⟨c, _, x1, _⟩ := x; exact hX c G A x1)
      (fun i G G' A A' x hgs ho => by
        cases i with
        | some i => exact ⟨hIg i _ _ _ _ x.1 hgs ho, kd x.2.1.1 x.2.1.2 hgs ho, kd x.2.2.1 x.2.2.2 hgs ho⟩
        | none =>
          obtain ⟨c, hc, x1, x2, x3⟩ := x
          exact ⟨c, hc, hXg c _ _ _ _ x1 hgs ho, kd x2.1 x2.2 hgs ho, kd x3.1 x3.2 hgs ho⟩)
      (fun i d vs G A hd hv x => by
        obtain ⟨x1, ⟨x2, y2n⟩, x3, y3n⟩ := x
        have hlt : w.heap.size + 1 < A.heap.size := (Array.getElem?_eq_some_iff.1 x2).1
        have hvl : vs.length = ss.length := by
          have : ∀ {ss : List Sh} {d : dens ss} {vs : List Value}, DVs h ss d vs → vs.length = ss.length := by
            intro ss
            induction ss with
            | nil => intro d vs x; cases vs with | nil => rfl | cons _ _ => exact x.elim
            | cons s l ih => intro d vs x; cases vs with | nil => exact x.elim | cons v vs => simp [ih x.2]
          exact this hv
        have hy := run_yield (P := P) (args := vs.toArray) x2 (by rw [hrec]; simp [hps, hvl])
        rw [hrec] at hy
        refine ⟨fn, _, asg, body, hy, (roundIn_of_wpIn (F := Fence.wide) (n := 0) trivial ?_ : RoundIn Fence.wide _ P _ _ _ _ _ _ _)⟩
        refine wpIn_mono (hbody i d vs G A (w.heap.size + 1) _ (.loop { rec .ready none with state := .busy }) _ hd hv x1 (by omega) x2 rfl rfl x3 rfl y2n) ?_
        intro e0 a1 A1 h1
        cases e0 with
        | exit j => exact h1
        | goto j => exact h1
        | ret => exact h1
        | panic c => exact h1
        | outgrown => exact h1
        | normal =>
        obtain ⟨k1, h1⟩ := h1
        have z2 : A1.heap[w.heap.size + 1]? = some (.loop (rec .ready none)) := (k1 _ (.inl rfl)).trans x2
        have z3 : A1.heap[w.heap.size]? = some (.deferred (some [])) := (k1 _ (.inr (.inl rfl))).trans x3
        have hlt1 : w.heap.size + 1 < A1.heap.size := (Array.getElem?_eq_some_iff.1 z2).1
        refine ⟨_, run_beginRound z2 (by rw [hrec]), ?_⟩
        have y2 : (A1.putObj (w.heap.size + 1) (.loop { rec .ready none with state := .busy })).heap[w.heap.size + 1]? = some (.loop { rec .ready none with state := .busy }) := World.putObj_heap_same hlt1
        have y3 : (A1.putObj (w.heap.size + 1) (.loop { rec .ready none with state := .busy })).heap[w.heap.size]? = some (.deferred (some [])) := (World.putObj_heap_other (by omega)).trans z3
        have fin : ∀ (jump : Option Code) (A3 : World), A3.heap[w.heap.size + 1]? = some (.loop { rec .ready none with state := .busy }) → A3.heap[w.heap.size]? = some (.deferred (some [])) →
            (Instr.endRound (w.heap.size + 1) jump).run P A3 = .ok (.bool jump.isNone) (A3.putObj (w.heap.size + 1) (.loop (rec (if jump.isNone then .ready else .done) jump))) ∧
            (A3.putObj (w.heap.size + 1) (.loop (rec (if jump.isNone then .ready else .done) jump))).heap[w.heap.size + 1]? = some (.loop (rec (if jump.isNone then .ready else .done) jump)) ∧
            (A3.putObj (w.heap.size + 1) (.loop (rec (if jump.isNone then .ready else .done) jump))).heap[w.heap.size]? = some (.deferred (some [])) := fun jump A3 h3 h4 => by
          have := run_endRound (P := P) jump h3
          rw [hrec] at this ⊢
          exact ⟨this, World.putObj_heap_same (Array.getElem?_eq_some_iff.1 h3).1, (World.putObj_heap_other (by omega)).trans h4⟩
        have kg : ∀ (A3 : World) (o' : Obj), (∀ b, b = w.heap.size + 1 ∨ b = w.heap.size ∨ G b → A3.heap[b]? = (A1.putObj (w.heap.size + 1) (.loop { rec .ready none with state := .busy })).heap[b]?) → ∀ b, G b → (A3.putObj (w.heap.size + 1) o').heap[b]? = A.heap[b]? := by
          intro A3 o' hk b hb
          have hne : b ≠ w.heap.size + 1 := by rintro rfl; exact y2n hb
          rw [World.putObj_heap_other hne, hk b (.inr (.inr hb)), World.putObj_heap_other hne, k1 b (.inr (.inr hb))]
        refine wpIn_mono h1 ?_
        rintro e a3 A3 hp
        cases e with
        | normal =>
          obtain ⟨p0, p3⟩ := hp
          have p1 := p0 _ (.inl rfl)
          have p2 := p0 _ (.inr (.inl rfl))
          rw [y2] at p1; rw [y3] at p2
          obtain ⟨q1, q2, q3⟩ := fin none A3 p1 p2
          exact ⟨_, _, q1, kg A3 _ p0, .inl ⟨rfl, hIp _ _ _ _ _ _ p3 (by omega) p1 rfl, ⟨q2, y2n⟩, q3, y3n⟩⟩
        | ret =>
          obtain ⟨p0, p3⟩ := hp
          have p1 := p0 _ (.inl rfl)
          have p2 := p0 _ (.inr (.inl rfl))
          rw [y2] at p1; rw [y3] at p2
          obtain ⟨q1, q2, q3⟩ := fin (some .ret) A3 p1 p2
          exact ⟨_, _, q1, kg A3 _ p0, .inr ⟨rfl, .ret, .inl rfl, hXp _ _ _ _ _ _ p3 (by omega) p1 rfl, ⟨q2, y2n⟩, q3, y3n⟩⟩
        | exit id =>
          obtain ⟨p0, p3⟩ := hp
          have p1 := p0 _ (.inl rfl)
          have p2 := p0 _ (.inr (.inl rfl))
          rw [y2] at p1; rw [y3] at p2
          obtain ⟨q1, q2, q3⟩ := fin (some (.exit id)) A3 p1 p2
          exact ⟨_, _, q1, kg A3 _ p0, .inr ⟨rfl, .exit id, .inr ⟨id, rfl⟩, hXp _ _ _ _ _ _ p3 (by omega) p1 rfl, ⟨q2, y2n⟩, q3, y3n⟩⟩
        | goto t => exact hp.elim
        | panic ch => exact hp.elim
        | outgrown => exact hp.elim)
      ⟨hI1, ⟨hL1, fun hh => hh⟩, hD1, fun hh => hh⟩
    refine CallsIn.mono (F := Fence.wide) (n := n - 1) (callsIn_wide.2 (callsIn_wide.1 hc)) ?_
    rintro e W2 ⟨⟨v, rfl⟩, G, hJ⟩
    rcases hJ with ⟨x1, ⟨x2, _⟩, x3, _⟩ | ⟨c, hc, x1, ⟨x2, _⟩, x3, _⟩
    · refine ⟨none, _, by have := run_endLoop (P := P) x2 (by rw [hrec]; simp); rw [hrec] at this; exact this, ?_⟩
      exact hdone G _ (hIp _ _ _ _ _ _ x1 (by omega) x2 rfl) ((World.putObj_heap_other (by omega)).trans x3)
    · refine ⟨some c, _, by have := run_endLoop (P := P) x2 (by rw [hrec]; simp); rw [hrec] at this; exact this, ?_⟩
      have y1 := hXp _ _ _ _ _ (.loop { rec .done (some c) with state := .exhausted }) x1 (show w.heap.size ≤ w.heap.size + 1 by omega) x2 rfl
      have y3 : (W2.putObj (w.heap.size + 1) (.loop { rec .done (some c) with state := .exhausted })).heap[w.heap.size]? = some (.deferred (some [])) := (World.putObj_heap_other (by omega)).trans x3
      rw [hrec] at y1 y3
      rcases hc with rfl | ⟨j, rfl⟩
      · exact wpIn_ret (hret G _ y1 y3)
      · exact wpIn_exit (hexit _ G _ y1 y3)
end Go.Eng
