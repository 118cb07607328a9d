/- The engine, part Br: what holds of a walk in a function holds in a round of a range over a function too. -/
import Derived.Test.YtklnffdjhoacoaaDoorEngT
import Derived.LoopNIn
import Derived.Deep.LoopGhost
set_option linter.unusedSimpArgs false
set_option linter.unusedVariables false
namespace Go.Eng
open Go Go.RowKit

/-- The widest fence, in a round or not. -/
def Wd (F : Fence) : Prop := F = Fence.wide ∨ ∃ l, F = Fence.wide.inRound l
theorem Wd.fn {F : Fence} (h : Wd F) (f : FuncId) : F.fn f := by rcases h with rfl | ⟨l, rfl⟩ <;> trivial
theorem Wd.depth {F : Fence} (h : Wd F) : F.depth = none := by rcases h with rfl | ⟨l, rfl⟩ <;> rfl
theorem Wd.calls {F : Fence} (hF : Wd F) {n : Nat} {P : Program} {f : FuncId} {args : Array Value} {w : World} {R : Ending → World → Prop} (h : Calls P f args w R) : CallsIn F n P f args w R := by
  rcases hF with rfl | ⟨l, rfl⟩
  · exact callsIn_wide.2 h
  · exact (callsIn_wide.2 h : CallsIn Fence.wide n P f args w R).inRound l

@[reducible] def notDef : Op → Bool
  | .defer _ => false
  | _ => true
@[reducible] def ndL : List Oper → Bool
  | [] => true
  | o :: l => andB (notDef o.op) (ndL l)

section
variable {F : Fence} {n : Nat} {P : Program} {ops : Array Oper} {md : Region.Mode}

theorem wp_In (hF : Wd F) {o : Oper} (hd : notDef o.op = true) {a : Act} {w : World} {Nx : Act → World → Prop} {Q Q' : Exit → Act → World → Prop} (h : o.wp P a w Nx noQ) : o.wpIn F n P a w Nx Q' := by
  refine ⟨fun f _ => hF.fn f, ?_⟩
  rw [Oper.semAt_eq _ _ _ (fun c hc => by rw [hc] at hd; cases hd)]
  unfold Oper.wp at h
  generalize (execOp a.eval o).run P w = r at *
  cases r with
  | ok m w' =>
    cases m <;> simp only [Oper.upon] at h <;> simp only [Oper.uponIn]
    case enter f args =>
      refine ⟨fun hh => (by rw [hF.depth] at hh; cases hh), hF.calls (h.mono fun e w'' he => ?_)⟩
      cases e with
      | returned v => exact he
      | panicked c => exact False.elim he
      | outgrown => exact letsOut_no he
    case row row args =>
      refine ⟨fun hh => (by rw [hF.depth] at hh; cases hh), fun c cs _ => ?_⟩
      obtain ⟨v, w'', hr, hs⟩ := h c cs
      refine ⟨v, w'', hr, ?_⟩
      have : StepsIn (Machine.fenced P Fence.wide) P (lone (Frame.ofRow P row args .normal) (c :: cs) w') (lone (c.finish v) cs w'') := stepsIn_wide.2 hs
      rcases hF with rfl | ⟨l, rfl⟩
      · exact this
      · exact this
    all_goals first | exact h | exact h.elim
  | halt x w' => cases x <;> simp only [Oper.upon] at h <;> first | exact h.elim | exact False.elim h

/-- A region's operations in the order in which they stand. -/
def wpL (P : Program) (ops : Array Oper) (R : Act → World → Prop) : List Oper → Act → World → Prop
  | [], a, w => R a w
  | o :: rest, a, w => if Region.wanted o (yielded ops a.tmps) = true then o.wp P a w (wpL P ops R rest) noQ else wpL P ops R rest (a.put o.dst undef) w

theorem wpL_In (hF : Wd F) {R : Act → World → Prop} {Q : Exit → Act → World → Prop} (hR : ∀ a w, R a w → Q .normal a w) : ∀ (l : List Oper) (k : Nat) (a : Act) (w : World), (∀ j, l[j]? = ops[k + j]?) → ndL l = true → wpL P ops R l a w →
    wpOpsIn F n P ops Q (List.range' k l.length) a w
  | [], k, a, w, _, _, h => hR _ _ h
  | o :: l, k, a, w, hl, hn, h => by
    have h0 : ops[k]? = some o := by simpa using (hl 0).symm
    simp only [ndL, andB_eq, Bool.and_eq_true] at hn
    have ih : ∀ a w, wpL P ops R l a w → wpOpsIn F n P ops Q (List.range' (k + 1) l.length) a w := fun a w => wpL_In hF hR l (k + 1) a w (fun j => by have := hl (j + 1); simpa [Nat.add_assoc, Nat.add_comm 1 j] using this) hn.2
    simp only [List.length_cons, List.range'_succ, wpOpsIn, h0]
    unfold wpL at h
    split
    · rename_i hw; rw [if_pos hw] at h; exact Oper.wpIn_mono ih (wp_In (Q := Q) hF hn.1 h)
    · rename_i hw; rw [if_neg hw] at h; exact ⟨fun f _ => hF.fn f, ih _ _ h⟩

theorem wpL_region (hF : Wd F) {R : Act → World → Prop} {Q : Exit → Act → World → Prop} (hR : ∀ a w, R a w → Q .normal a w) {id : Nat} {a : Act} {w : World} (hn : ndL ops.toList = true) (h : wpL P ops R ops.toList a w) : (Code.region id ops false).wpIn F n P Q a w :=
  wpIn_region (by
    have := wpL_In (n := n) hF hR ops.toList 0 a w (fun j => by simp) hn h
    rw [List.range_eq_range']
    simpa using this)

theorem nd_get (hn : ndL ops.toList = true) {i : Nat} {o : Oper} (h : ops[i]? = some o) : notDef o.op = true := by
  have key : ∀ {l : List Oper}, ndL l = true → o ∈ l → notDef o.op = true := by
    intro l
    induction l with
    | nil => intro _ hm; cases hm
    | cons x l ih =>
      intro hh hm
      simp only [ndL, andB_eq, Bool.and_eq_true] at hh
      rcases List.mem_cons.1 hm with rfl | hm
      · exact hh.1
      · exact ih hh.2 hm
  exact key hn (List.mem_of_getElem? (i := i) (by simpa using h))

theorem wpO_In (hF : Wd F) (hn : ndL ops.toList = true) {i : Nat} {K : Act → World → Prop} {Q : Exit → Act → World → Prop} {a : Act} {w : World} (h : wpO P ops i K a w) : wpOpIn F n P ops Q i K a w := by
  unfold wpO at h
  unfold wpOpIn
  split
  · rename_i ho; simpa [ho] using h
  · rename_i o ho
    simp only [ho] at h
    split
    · rename_i hw; rw [if_pos hw] at h; exact wp_In (Q := Q) hF (nd_get hn ho) h
    · rename_i hw; rw [if_neg hw] at h; exact ⟨fun f _ => hF.fn f, h⟩

theorem anyI_In (hF : Wd F) (hn : ndL ops.toList = true) {R : Act → World → Prop} {Q : Exit → Act → World → Prop} (hR : ∀ a w, R a w → Q .normal a w) : ∀ (fuel : Nat) (listed : Array Bool) (a : Act) (w : World),
    anyI P md ops R fuel listed a w → wpAnyIn F n P md ops Q fuel listed a w
  | 0, _, _, _, h => ⟨h.1, hR _ _ h.2⟩
  | fuel + 1, _, _, _, h => ⟨fun e => hR _ _ (h.1 e), fun i hi => wpO_In hF hn (wpO_mono (fun a w hh => anyI_In hF hn hR fuel _ a w hh.2) (h.2 i hi))⟩

theorem stOp_In (hF : Wd F) (hn : ndL ops.toList = true) {i : Nat} {w : World} {K : Act → Prop} {K' : Act → World → Prop} (hK : ∀ a, K a → K' a w) {Q : Exit → Act → World → Prop} {a : Act} (h : stOp P ops w i K a) : wpOpIn F n P ops Q i K' a w := by
  unfold stOp at h
  unfold wpOpIn
  split
  · rename_i ho; simp only [ho] at h; exact hK _ h
  · rename_i o ho
    simp only [ho] at h
    split
    · rename_i hw; rw [if_pos hw] at h; exact wp_In (Q := Q) hF (nd_get hn ho) (Oper.wp_of_still hK h)
    · rename_i hw; rw [if_neg hw] at h; exact ⟨fun f _ => hF.fn f, hK _ h⟩

theorem anyS_In (hF : Wd F) (hn : ndL ops.toList = true) {w : World} {R : Act → Prop} {Q : Exit → Act → World → Prop} (hR : ∀ a, R a → Q .normal a w) : ∀ (fuel : Nat) (listed : Array Bool) (a : Act),
    wpAnyS P md ops w R fuel listed a → wpAnyIn F n P md ops Q fuel listed a w
  | 0, _, _, h => ⟨h.1, hR _ h.2⟩
  | fuel + 1, _, _, h => ⟨fun e => hR _ (h.1 e), fun i hi => stOp_In hF hn (fun a hh => anyS_In hF hn hR fuel _ a hh) (h.2 i hi)⟩

theorem still_region (hF : Wd F) (hn : ndL ops.toList = true) {id : Nat} {Q : Exit → Act → World → Prop} {a : Act} {w : World} (hm : P.follows .mixedOrders = true) (hB : Region.lexB .any ops = true)
    (h : wpStill P ops { w with drawn := w.drawn + 1 } (fun a' => Q .normal a' { w with drawn := w.drawn + 1 }) ops.toList a) : (Code.region id ops true).wpIn F n P Q a w := by
  simp only [Region.lexB, Bool.and_eq_true] at hB
  refine wpIn_region_any hm (anyS_In (R := fun a' => Q .normal a' { w with drawn := w.drawn + 1 }) hF hn (fun _ h => h) _ _ _ ?_)
  have := wpAnyS_lex (md := .any) hB.1 ops.toList 0 (Array.replicate ops.size false) a (by simp) (by simpa using hB.2) h
  simpa using this

theorem wpIn_loop_ghost {Q : Exit → Act → World → Prop} {a : Act} {w : World} {c : Code} (I : Nat → Act → World → Prop) (n₀ : Nat) (h₀ : I n₀ a w)
    (round : ∀ m a w, I m a w → c.wpIn F n P (Exit.then (fun a' w' => ∃ n', n' < m ∧ I n' a' w') Q) a w) : (Code.loop c).wpIn F n P Q a w := by
  refine wpIn_loop (fun a w => ∃ m, I m a w) (fun a w => leastOf (fun m => I m a w)) ⟨n₀, h₀⟩ ?_
  intro a w hI
  refine wpIn_mono (round _ a w (leastOf_spec hI).1) ?_
  intro e a' w' hq
  cases e with
  | normal =>
    obtain ⟨n', hlt, hI'⟩ := hq
    exact show (∃ m, I m a' w') ∧ leastOf (fun m => I m a' w') < leastOf (fun m => I m a w) from ⟨⟨n', hI'⟩, Nat.lt_of_le_of_lt ((leastOf_spec ⟨n', hI'⟩).2 n' hI') hlt⟩
  | exit id => exact hq
  | goto l => exact hq
  | ret => exact hq
  | panic ch => exact hq
  | outgrown => exact hq
end
end Go.Eng
