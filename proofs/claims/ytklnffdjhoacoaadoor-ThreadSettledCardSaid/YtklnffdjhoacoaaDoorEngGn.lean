/- The engine, part Gn: a function that calls yield: what a range over it gives. -/
import Derived.Test.YtklnffdjhoacoaaDoorEngQ
set_option linter.unusedSimpArgs false
set_option linter.unusedVariables false
namespace Go.Eng
open Go Go.RowKit

@[reducible] def yldOf (s : St) (o : Oper) : Option Nat := match o.guard with
  | some _ => none
  | none => match o.op with
    | .call c => match c.callee with
      | .value (.tmp t) => match lkE s.env t with
        | some ([], .one (.c (.abs (.yld l)))) => some l
        | _ => none
      | _ => none
    | _ => none

/-- Operations, one after the other; a call of yield hands the next of the data over, and goes on or stops. -/
@[reducible] def genOps (E : Env) (l : Nat) (ss : List Sh) (L : List (dens ss)) (ops : List Oper) : List Oper → Nat → St → (Option Nat → St → Prop) → Prop
  | [], i, s, K => K (some i) s
  | o :: r, i, s, K => match yldOf s o with
    | some l' => match dOK E.n o.dst with
      | false => False
      | true => l = l' ∧ match argsV E.cx s [] (argsOf o.op) with
        | none => False
        | some vs => match allL noRow vs with
          | false => False
          | true => match borA s [] vs with
            | none => False
            | some bs => match datA ss bs with
              | none => False
              | some d => L[i]? = some d ∧ genOps E l ss L ops r (i + 1) (s.put o.dst [] (.one (.c (.v (.bool true))))) K ∧ opsI E ops r (s.put o.dst [] (.one (.c (.v (.bool false))))) fun s => K none s
    | none => stepI E ops o s fun s => genOps E l ss L ops r i s K

@[reducible] def genLoop (body : Nat → St → (Exit → Option Nat → St → Prop) → Prop) (ws : List Nat) (la : LA) (gh : la.α → Nat) (i : Nat) (s : St) (K : Exit → Option Nat → St → Prop) : Prop :=
  (∃ x, la.inv x ∧ gh x = i ∧ hasE s (la.slots x) ∧ s.T = updT (la.res x) s.T) ∧
  ∀ x, la.inv x → match andB (goodT (lenL s.T) (updT (la.res x) s.T)) (goodS (lenL s.T) ws (la.slots x)) with
    | false => False
    | true => body (gh x) (headSt ws s (la.slots x) (la.res x)) fun e g s' => match e with
      | .normal => match g with
        | some j => match hasR s' (keepR (lenL s.T) ws [] s.env) with
          | true => ∃ x', la.inv x' ∧ gh x' = j ∧ hasE s' (la.slots x') ∧ takeL (lenL s.T) s'.T = updT (la.res x') s.T ∧ la.meas x' < la.meas x
          | false => False
        | none => False
      | e => K e g s'

@[reducible] def genK (E : Env) (l : Nat) (ss : List Sh) (L : List (dens ss)) : Code → Nat → St → (Exit → Option Nat → St → Prop) → Prop
  | .skip, i, s, K => K .normal (some i) s
  | .region id ops draw, i, s, K => match ndL (tl ops) with
    | false => False
    | true => match draw with
      | false => genOps E l ss L (tl ops) (tl ops) i s fun g s => K .normal g (clean s)
      | true => match drawOrd ops with
        | some t => treeK E (tl ops) t s fun s => K .normal (some i) (clean s)
        | none => False
  | .seq x y, i, s, K => genK E l ss L x i s fun e g s' => match e with
    | .normal => match g with
      | some j => genK E l ss L y j s' K
      | none => codeK E y s' fun e s' => K e none s'
    | e => K e g s'
  | .cond c x y, i, s, K => match getE E.cx s [] c with
    | some (.one (.c (.v (.bool b)))) => br b (genK E l ss L x i s K) (genK E l ss L y i s K)
    | _ => False
  | .block id c, i, s, K => genK E l ss L c i s fun e g s' => match e with
    | .exit j => match Nat.beq j id with
      | true => K .normal g s'
      | false => K (.exit j) g s'
    | e => K e g s'
  | .loop c, i, s, K => match annK E c s with
    | some (.gen la gh) => genLoop (genK E l ss L c) (catL la.drop (writes c)) la gh i s K
    | _ => False
  | .exit j, i, s, K => K (.exit j) (some i) s
  | .ret, i, s, K => K .ret (some i) s
  | _, _, _, _ => False

/-- Between two calls of yield: the world as it was at the last one, and what has come of it. -/
def GS (N : Nat) (J : Option Nat → (Nat → Prop) → World → Prop) (h0 : FH) (g : Option Nat) (s : St) (h : FH) (β : List RV) (w : World) (a : Act) : Prop :=
  ∃ (B : Base) (G : Nat → Prop), J g G B.toWorld ∧ (∀ b, G b → b < B.heap.size) ∧ (∀ k, B.al k ↔ G k ∨ B.heap.size ≤ k) ∧ (∀ k o, B.nc k o → B.al k) ∧ Sat N B h0 s h β w a

section
variable {N : Nat} {J : Option Nat → (Nat → Prop) → World → Prop} {h0 : FH} {g : Option Nat} {s : St} {h : FH} {β : List RV} {w : World} {a : Act}

/-- Only the marks need be known to stay. -/
theorem Sat.norm {B : Base} (sat : Sat N B h0 s h β w a) : ∃ B' : Base, B'.toWorld = B.toWorld ∧ B'.al = B.al ∧ (∀ k o, B'.nc k o → B'.al k) ∧ Sat N B' h0 s h β w a := by
  obtain ⟨X, x1, x2, x3⟩ := sat.defers
  refine ⟨{ B with nc := fun k o => k ∈ X ∧ o = .deferred (some []), cell := fun k o hh => by rw [hh.2]; rfl }, rfl, rfl, fun k o hh => (x3 k hh.1).1, ?_⟩
  exact ⟨sat.ok.rebase rfl rfl (fun k o hh => by rw [hh.2]; exact sat.ok.kn k _ (x3 k hh.1).2), sat.env, sat.gs, ⟨X, x1, x2, fun D hD => ⟨(x3 D hD).1, hD, rfl⟩⟩, sat.sz, sat.gb, sat.gT⟩

theorem GS.step {B B' : Base} {G : Nat → Prop} (hJ : J g G B.toWorld) (hG : ∀ b, G b → b < B.heap.size) (ha : ∀ k, B.al k ↔ G k ∨ B.heap.size ≤ k) (lb : B.leB B') {s' : St} {h' : FH} {β' : List RV} {w' : World} {a' : Act} (sat : Sat N B' h0 s' h' β' w' a') : GS N J h0 g s' h' β' w' a' := by
  obtain ⟨B2, e1, e2, e3, sat2⟩ := sat.norm
  have e4 : B2.toWorld = B.toWorld := e1.trans lb.1
  refine ⟨B2, G, by rw [e4]; exact hJ, fun b hb => by rw [e4]; exact hG b hb, fun k => ?_, e3, sat2⟩
  rw [e2, lb.2.1, ha k, e4]

/-- All that is the iterator's own, as it stands. -/
def gNow (B : Base) (w : World) (b : Nat) : Prop := B.al b ∧ b < w.heap.size

theorem GS.now {B : Base} {G : Nat → Prop} (hAb : ∀ i G G' A A', J i G A → Gs G A A' → Own' G G' A A' → J i G' A') (hJ : J g G B.toWorld) (ha : ∀ k, B.al k ↔ G k ∨ B.heap.size ≤ k) (sat : Sat N B h0 s h β w a) : J g (gNow B w) w := by
  refine hAb g G _ _ _ hJ ⟨sat.ok.below.os, sat.ok.below.tape, sat.ok.below.output, sat.ok.below.size, sat.ok.dr, fun k hk hn => sat.ok.below.block k hk fun hh => ?_⟩ fun b hb => ⟨hb.2, (ha b).1 hb.1⟩
  rcases (ha k).1 hh with h1 | h1
  · exact hn h1
  · omega

/-- A round has gone by: all stands at the new world. -/
theorem GS.turn {B : Base} (e3 : ∀ k o, B.nc k o → B.al k) (sat : Sat N B h0 s h β w a) {A' : World} {g' : Option Nat} (hJ : J g' (gNow B w) A') (hw0 : HW h0 A') (keep : ∀ b, gNow B w b → A'.heap[b]? = w.heap[b]?) :
    GS N J h0 g' s h β A' a := by
  have lt : ∀ b, gNow B w b → b < A'.heap.size := by
    intro b hb
    have h1 := keep b hb
    rw [Array.getElem?_eq_getElem hb.2] at h1
    exact (Array.getElem?_eq_some_iff.1 h1).1
  have kn : ∀ k o, B.nc k o → A'.heap[k]? = some o := fun k o hk => by
    have h1 := sat.ok.kn k o hk
    rw [keep k ⟨e3 k o hk, (Array.getElem?_eq_some_iff.1 h1).1⟩]; exact h1
  refine ⟨{ A' with nc := B.nc, cell := B.cell, al := fun k => gNow B w k ∨ A'.heap.size ≤ k, up := fun _ hh => .inr hh }, gNow B w, hJ, lt, fun k => Iff.rfl,
    fun k o hk => .inl ⟨e3 k o hk, (Array.getElem?_eq_some_iff.1 (sat.ok.kn k o hk)).1⟩, ?_⟩
  have own : ∀ {i : Nat} {r : Res} {v : RV} {b : Nat}, (eff s.gl s.T)[i]? = some r → r.live = true → β[i]? = some v → v.block = some b → gNow B w b := fun e hl e' hb =>
    ⟨(sat.ok.own _ _ _ _ e hl e' hb).1, (sat.ok.own _ _ _ _ e hl e' hb).2.1⟩
  refine ⟨⟨⟨rfl, rfl, rfl, Nat.le_refl _, fun _ _ _ => rfl⟩, Nat.le_refl _, sat.ok.len, fun i r v e e' => (sat.ok.holds i r v e e').move (FH.le.refl h) (Ext.refl _) fun hl b hb => keep b (own e hl e' hb),
    fun i r v b e hl e' hb => ⟨.inl (own e hl e' hb), lt b (own e hl e' hb), (sat.ok.own i r v b e hl e' hb).2.2⟩, sat.ok.inj, sat.ok.hle, fun b o v hh => ?_, fun b o v hh => ?_, kn⟩, sat.env, sat.gs, ?_, sat.sz, sat.gb, sat.gT⟩
  · rcases sat.ok.hg b o v hh with h1 | h1
    · exact hw0 b o v h1
    · have h2 := sat.ok.hw b o v hh
      have h3 := World.block_lt_of_cell? _ _ h2
      simp at h3
      rw [block_of_cell (keep b ⟨h1, h3⟩)]; exact h2
  · rcases sat.ok.hg b o v hh with h1 | h1
    · exact .inl h1
    · have h3 := World.block_lt_of_cell? _ _ (sat.ok.hw b o v hh)
      simp at h3
      exact .inr (.inl ⟨h1, h3⟩)
  · obtain ⟨X, x1, x2, x3⟩ := sat.defers
    exact ⟨X, x1, x2, fun D hD => ⟨.inl ⟨(x3 D hD).1, (Array.getElem?_eq_some_iff.1 (sat.ok.kn D _ (x3 D hD).2)).1⟩, (x3 D hD).2⟩⟩
end

theorem datA_DV {h : FH} : ∀ {ss : List Sh} {vs : List SV} {ys : List Value} {d : dens ss}, datA ss vs = some d → All2 (CnV h []) vs ys → DVs h ss d ys
  | [], vs, ys, d, e, x => by
    unfold datA at e
    split at e
    · cases ys with
      | nil => trivial
      | cons _ _ => exact x.elim
    · cases e
  | s :: l, vs, ys, d, e, x => by
    unfold datA at e
    split at e
    · rename_i v r
      cases ys with
      | nil => exact x.elim
      | cons y ys =>
        split at e
        · rename_i d1 hd
          split at e
          · rename_i d2 hr
            cases e
            obtain ⟨cs, e1, rd⟩ := toDat_ok hd x.1
            exact ⟨⟨cs, e1, rd⟩, datA_DV hr x.2⟩
          · cases e
        · cases e
    · cases e

/-- The rounds' side of the bargain. -/
structure Yl (P : Program) (h0 : FH) (l : Nat) (ss : List Sh) (L : List (dens ss)) (J : Option Nat → (Nat → Prop) → World → Prop) : Prop where
  hw : ∀ i G A, J i G A → HW h0 A
  ab : ∀ i G G' A A', J i G A → Gs G A A' → Own' G G' A A' → J i G' A'
  yl : ∀ i d vs G A, L[i]? = some d → DVs h0 ss d vs → J (some i) G A → YieldAt Fence.wide 0 P l vs.toArray A fun e A' => (∀ b, G b → A'.heap[b]? = A.heap[b]?) ∧
      ((e = .returned (.bool true) ∧ J (some (i + 1)) G A') ∨ (e = .returned (.bool false) ∧ J none G A'))

section
variable {P : Program} {E : Env} {h0 : FH} {l : Nat} {ss : List Sh} {L : List (dens ss)} {J : Option Nat → (Nat → Prop) → World → Prop}

theorem DVs.flat {h h' : FH} : ∀ {ss : List Sh} {d : dens ss} {vs : List Value}, allL shFlat ss = true → DVs h ss d vs → DVs h' ss d vs
  | [], _, [], _, _ => trivial
  | [], _, _ :: _, _, x => x.elim
  | _ :: _, _, [], _, x => x.elim
  | s :: _, _, _ :: _, f, ⟨a, b⟩ => by
    simp only [allL, andB_eq, Bool.and_eq_true] at f
    obtain ⟨cs, e, r⟩ := a
    exact ⟨⟨cs, e, Rd.flat s f.1 r⟩, DVs.flat f.2 b⟩

theorem genOps_ok (ok : EnvOK P E) (hg : GlobOK E.cx.gd h0) (hy : Yl P h0 l ss L J) (hfl : allL shFlat ss = true) {ops : Array Oper} {n : Nat} {Q : Exit → Act → World → Prop} {K : Option Nat → St → Prop} : ∀ (r : List Oper) (k i : Nat) {s : St} {h : FH} {β : List RV} {w : World} {a : Act},
    (∀ j, r[j]? = ops[k + j]?) → ndL r = true → GS E.n J h0 (some i) s h β w a → genOps E l ss L (tl ops) r i s K →
    (∀ g s' h' β' w' a', K g s' → h.le h' → GS E.n J h0 g s' h' β' w' a' → Same (dsts r) a a' → Q .normal a' w') → wpOpsIn Fence.wide n P ops Q (List.range' k r.length) a w
  | [], k, i, s, h, β, w, a, _, _, gs, kk, next => next _ _ _ _ _ _ kk (FH.le.refl h) gs (Same.refl _ _)
  | o :: r, k, i, s, h, β, w, a, hl, hn, gs, kk, next => by
    have h0' : ops[k]? = some o := by simpa using (hl 0).symm
    have hl' : ∀ j, r[j]? = ops[k + 1 + j]? := fun j => by have := hl (j + 1); simpa [Nat.add_assoc, Nat.add_comm 1 j] using this
    simp only [ndL, andB_eq, Bool.and_eq_true] at hn
    obtain ⟨B, G, hJ, hG, ha, hnc, sat⟩ := gs
    simp only [List.length_cons, List.range'_succ, wpOpsIn, h0']
    simp only [genOps] at kk
    split at kk
    · rename_i l' hyl
      split at kk
      · exact kk.elim
      rename_i hd
      obtain ⟨hll, kk⟩ := kk
      subst hll
      split at kk
      · exact kk.elim
      rename_i vs hvs
      split at kk
      · exact kk.elim
      rename_i hnr
      split at kk
      · exact kk.elim
      rename_i bs hbs
      split at kk
      · exact kk.elim
      rename_i d hdd
      obtain ⟨hLi, k1, k2⟩ := kk
      unfold yldOf at hyl
      split at hyl
      · cases hyl
      rename_i hgd
      split at hyl
      · rename_i c ho
        split at hyl
        · rename_i t hcal
          split at hyl
          · rename_i l2 hlk
            cases hyl
            have tr : gv s.gl [] = true := rfl
            rw [if_pos (by simp [Region.wanted, hgd])]
            obtain ⟨z, z1, z2, _⟩ := sat.env t [] _ hlk
            have ez : z = .func (.yield l) #[] #[] := (z2 tr).1
            subst ez
            have hgh := hg.mono sat.ok.hle
            have hav := argsV_ok sat hgh tr hvs
            obtain ⟨_, b2⟩ := borA_ok sat tr hbs hav
            have hao : argsOf o.op = tl c.args := by simp only [argsOf, ho]
            rw [hao] at hav b2
            -- the arguments as they were frozen at the beginning
            have hJn := GS.now hy.ab hJ ha sat
            have dv : DVs h ss d ((tl c.args).map a.eval) := datA_DV hdd (b2 hnr)
            have dv0 : DVs h0 ss d ((tl c.args).map a.eval) := DVs.flat hfl dv
            obtain ⟨fn, tmps, asg, body, hrun, hround⟩ := hy.yl i d _ (gNow B w) w hLi dv0 hJn
            have hargs : (c.args.map a.eval) = ((tl c.args).map a.eval).toArray := by cases c.args; simp
            have exec : (execOp a.eval o).run P w = .ok (.round l fn tmps asg body) w := by
              simp only [execOp, ho, resolve, hcal, Act.eval]
              rw [show a.tmps.getD t undef = .func (.yield l) #[] #[] by simp [z1]]
              simp only [Deferred.ofValue, invoke, Sem.run_bind, Sem.run_pure, Result.andThen_ok]
              simp only [Array.empty_append]
              rw [hargs]
              exact hrun
            refine ⟨fun f _ => trivial, ?_⟩
            rw [Oper.semAt_eq _ _ _ (fun c' hc' => by rw [hc'] at hn; cases hn.1), exec]
            simp only [Oper.uponIn]
            refine ⟨fun hh => (by cases hh), RoundIn.mono (F := Fence.wide) (n := n - 1) ⟨hround.1, fun c' cs' hroom => hround.2 c' cs' (fun d' hd' => by cases hd')⟩ ?_⟩
            rintro e A' ⟨keep, hh⟩
            rcases hh with ⟨rfl, hJ'⟩ | ⟨rfl, hJ'⟩
            · obtain ⟨B2, G2, j1, j2, j3, j4, sat2⟩ := GS.turn hnc sat hJ' (hy.hw _ _ _ hJ') keep
              have gs3 : GS E.n J h0 (some (i + 1)) (s.put o.dst [] (.one (.c (.v (.bool true))))) h β A' (a.put o.dst (.bool true)) := ⟨B2, G2, j1, j2, j3, j4, sat2.put (dOK_lt hd) rfl (fun _ => ⟨⟨rfl, rfl, rfl⟩, rfl, rfl⟩) fun hh => by cases hh⟩
              exact genOps_ok ok hg hy hfl r (k + 1) (i + 1) hl' hn.2 gs3 k1 fun g s2 h2 β2 w2 a2 k2 le2 gs2 sm => next g s2 h2 β2 w2 a2 k2 le2 gs2 sm.put
            · obtain ⟨B2, G2, j1, j2, j3, j4, sat2⟩ := GS.turn hnc sat hJ' (hy.hw _ _ _ hJ') keep
              have sat3 := sat2.put (d := o.dst) (G := []) (e := .one (.c (.v (.bool false)))) (z := .bool false) (dOK_lt hd) rfl (fun _ => ⟨⟨rfl, rfl, rfl⟩, rfl, rfl⟩) fun hh => by cases hh
              exact wpL_In (R := fun a w => Q .normal a w) (.inl rfl) (fun _ _ hh => hh) r (k + 1) _ _ hl' hn.2 (opsI_ok ok hg r sat3 k2 fun s2 h2 β2 w2 a2 k3 le2 sat4 sm => next none s2 h2 β2 w2 a2 k3 le2 (GS.step j1 j2 j3 (.refl B2) sat4) sm.put)
          · cases hyl
        · cases hyl
      · cases hyl
    · have st := stepI_ok ok sat (hg.mono sat.ok.hle) kk (wpOpsIn Fence.wide n P ops Q (List.range' (k + 1) r.length)) noQ fun s' h' β' w' v k' le sat' =>
        genOps_ok ok hg hy hfl r (k + 1) i hl' hn.2 (GS.step hJ hG ha (.refl B) sat') k' fun g s2 h2 β2 w2 a2 k2 le2 gs2 sm => next g s2 h2 β2 w2 a2 k2 (le.trans le2) gs2 sm.put
      split
      · rename_i hw; rw [if_pos hw] at st; exact wp_In (Q := Q) (.inl rfl) hn.1 st
      · rename_i hw; rw [if_neg hw] at st; exact ⟨fun f _ => trivial, st⟩

theorem genK_ok (ok : EnvOK P E) (hg : GlobOK E.cx.gd h0) (hr : E.rd = false) (hy : Yl P h0 l ss L J) (hfl : allL shFlat ss = true) {n : Nat} : ∀ (c : Code) {i : Nat} {s : St} {h : FH} {β : List RV} {w : World} {a : Act} {K : Exit → Option Nat → St → Prop} {Q : Exit → Act → World → Prop}, GS E.n J h0 (some i) s h β w a →
    genK E l ss L c i s K → (∀ e g s' h' β' w' a', K e g s' → h.le h' → GS E.n J h0 g s' h' β' w' a' → Same (writes c) a a' → Q e a' w') → c.wpIn Fence.wide n P Q a w
  | .skip, i, s, h, β, w, a, K, Q, gs, k, next => wpIn_skip (next _ _ _ _ _ _ _ k (FH.le.refl h) gs (Same.refl _ _))
  | .exit j, i, s, h, β, w, a, K, Q, gs, k, next => wpIn_exit (next _ _ _ _ _ _ _ k (FH.le.refl h) gs (Same.refl _ _))
  | .ret, i, s, h, β, w, a, K, Q, gs, k, next => wpIn_ret (next _ _ _ _ _ _ _ k (FH.le.refl h) gs (Same.refl _ _))
  | .region id ops false, i, s, h, β, w, a, K, Q, gs, k, next => by
    simp only [genK] at k
    split at k
    · exact k.elim
    rename_i hnd
    have et : tl ops = ops.toList := by cases ops; rfl
    refine wpIn_region ?_
    have := genOps_ok (n := n) (Q := Q) ok hg hy hfl (ops := ops) (tl ops) 0 i (fun j => by rw [et]; simp) hnd gs k fun g s' h' β' w' a' k' le gs' sm => next .normal g _ _ _ _ _ k' le (by
      obtain ⟨B2, G2, j1, j2, j3, j4, sat2⟩ := gs'
      exact ⟨B2, G2, j1, j2, j3, j4, sat2.clean⟩) sm
    rw [List.range_eq_range']
    rw [et] at this
    simpa using this
  | .region id ops true, i, s, h, β, w, a, K, Q, gs, k, next => by
    simp only [genK] at k
    split at k
    · exact k.elim
    rename_i hnd
    have et : tl ops = ops.toList := by cases ops; rfl
    obtain ⟨B, G, hJ, hG, ha, hnc, sat⟩ := gs
    cases hd : drawOrd ops with
    | none => rw [hd] at k; exact k.elim
    | some t =>
      rw [hd] at k
      exact draw_ok ok hg hd sat k (.inl rfl) (by rw [et] at hnd; exact hnd) fun s' h' β' w' a' k' le sat' sm => next .normal _ _ _ _ _ _ k' le (GS.step hJ hG ha (.refl B) sat'.clean) sm
  | .seq x y, i, s, h, β, w, a, K, Q, gs, k, next => by
    refine wpIn_seq (genK_ok ok hg hr hy hfl x gs k fun e g s' h' β' w' a' k' le gs' sm => ?_)
    cases e with
    | normal =>
      cases g with
      | some j => exact genK_ok ok hg hr hy hfl y gs' k' fun e g s2 h2 β2 w2 a2 k2 le2 gs2 sm2 => next e g s2 h2 β2 w2 a2 k2 (le.trans le2) gs2 (sm.left.trans sm2.right)
      | none =>
        obtain ⟨B, G, hJ, hG, ha, hnc, sat⟩ := gs'
        exact codeK_ok y ok hg (.inl rfl) (fun _ => rfl) sat k' fun e s2 h2 β2 w2 a2 B2 lb k2 le2 sat2 sm2 => next e none s2 h2 β2 w2 a2 k2 (le.trans le2) (GS.step hJ hG ha lb.1 sat2) (sm.left.trans sm2.right)
    | exit j => exact next _ _ _ _ _ _ _ k' le gs' sm.left
    | goto l => exact next _ _ _ _ _ _ _ k' le gs' sm.left
    | ret => exact next _ _ _ _ _ _ _ k' le gs' sm.left
    | panic ch => exact next _ _ _ _ _ _ _ k' le gs' sm.left
    | outgrown => exact next _ _ _ _ _ _ _ k' le gs' sm.left
  | .cond c x y, i, s, h, β, w, a, K, Q, gs, k, next => by
    simp only [genK] at k
    split at k
    · rename_i b hb
      obtain ⟨B, G, hJ, hG, ha, hnc, sat⟩ := gs
      have hc : a.eval c = .bool b := (getE_ok sat (hg.mono sat.ok.hle) (show gv s.gl [] = true from rfl) hb).1.1
      refine wpIn_cond_split hc (fun ht => genK_ok ok hg hr hy hfl x ⟨B, G, hJ, hG, ha, hnc, sat⟩ ((br_iff.1 k).1 ht) fun e g s' h' β' w' a' k' le gs' sm => next _ _ _ _ _ _ _ k' le gs' sm.left)
        (fun hf => genK_ok ok hg hr hy hfl y ⟨B, G, hJ, hG, ha, hnc, sat⟩ ((br_iff.1 k).2 hf) fun e g s' h' β' w' a' k' le gs' sm => next _ _ _ _ _ _ _ k' le gs' sm.right)
    · exact k.elim
  | .block id c, i, s, h, β, w, a, K, Q, gs, k, next => by
    refine wpIn_block (genK_ok ok hg hr hy hfl c gs k fun e g s' h' β' w' a' k' le gs' sm => ?_)
    cases e with
    | normal => exact next _ _ _ _ _ _ _ k' le gs' sm
    | exit j =>
      simp only at k'
      simp only [Exit.inBlock]
      split at k'
      · rename_i hi
        have : j = id := Nat.eq_of_beq_eq_true hi
        rw [if_pos this]
        exact next _ _ _ _ _ _ _ k' le gs' sm
      · rename_i hi
        have : ¬ j = id := fun hh => by rw [hh] at hi; simp at hi
        rw [if_neg this]
        exact next _ _ _ _ _ _ _ k' le gs' sm
    | goto l => exact next _ _ _ _ _ _ _ k' le gs' sm
    | ret => exact next _ _ _ _ _ _ _ k' le gs' sm
    | panic ch => exact next _ _ _ _ _ _ _ k' le gs' sm
    | outgrown => exact next _ _ _ _ _ _ _ k' le gs' sm
  | .loop c, i, s, h, β, w, a, K, Q, gs, k, next => by
    simp only [genK] at k
    split at k
    · rename_i la gh _
      obtain ⟨⟨x, i1, i2, i3, i4⟩, k2⟩ := k
      have good : ∀ x, la.inv x → goodT (lenL s.T) (updT (la.res x) s.T) = true ∧ goodS (lenL s.T) (catL la.drop (writes c)) (la.slots x) = true ∧
          genK E l ss L c (gh x) (headSt (catL la.drop (writes c)) s (la.slots x) (la.res x)) (fun e g s' => match e with
            | .normal => match g with
              | some j => match hasR s' (keepR (lenL s.T) (catL la.drop (writes c)) [] s.env) with
                | true => ∃ x', la.inv x' ∧ gh x' = j ∧ hasE s' (la.slots x') ∧ takeL (lenL s.T) s'.T = updT (la.res x') s.T ∧ la.meas x' < la.meas x
                | false => False
              | none => False
            | e => K e g s') := by
        intro x hx
        have := k2 x hx
        split at this
        · exact this.elim
        · rename_i hc
          rw [andB_eq, Bool.and_eq_true] at hc
          exact ⟨hc.1, hc.2, this⟩
      obtain ⟨B, G, hJ, hG, ha, hnc, sat⟩ := gs
      have D0 : ∀ h' a', h.le h' → Same (writes c) a a' → ∀ t e, lkE (keepE (catL la.drop (writes c)) [] s.env) t = some ([], e) → ∃ z, a'.tmps[t]? = some z ∧ CnE h' [] e z := by
        intro h' a' le sm t e ht
        obtain ⟨_, hw, hl, _, hf⟩ := keepE_get ht
        obtain ⟨z, q1, q2, _⟩ := sat.env t [] e hl
        exact ⟨z, by rw [sm t (by rw [memN_cat, Bool.or_eq_false_iff] at hw; exact hw.2)]; exact q1, (CnE.refFree [] hf (q2 rfl)).mono le (Ext.refl _)⟩
      refine wpIn_loop_ghost (fun m a' w' => ∃ x h' β', la.meas x = m ∧ la.inv x ∧ h.le h' ∧ GS E.n J h0 (some (gh x)) (headSt (catL la.drop (writes c)) s (la.slots x) (la.res x)) h' β' w' a' ∧ Same (writes c) a a') (la.meas x) ?_ ?_
      · obtain ⟨g1, g2, _⟩ := good x i1
        refine ⟨x, h, _, rfl, i1, FH.le.refl h, ⟨B, G, by rw [i2]; exact hJ, hG, ha, hnc, head_ok sat ?_ g1 g2 i3 (fun p hp => (keepR_mem p hp).2) (D0 h a (FH.le.refl h) (Same.refl _ _))⟩, Same.refl _ _⟩
        rw [← i4, takeL_eq, lenL_eq, List.take_length]
      · rintro m a' w' ⟨x, h', β', rfl, hx, le, gs', sm⟩
        obtain ⟨g1, g2, kk⟩ := good x hx
        refine genK_ok ok hg hr hy hfl c gs' kk fun e g s2 h2 β2 w2 a2 k2 le2 gs2 sm2 => ?_
        cases e with
        | normal =>
          simp only at k2
          cases g with
          | none => exact k2.elim
          | some j =>
            simp only at k2
            split at k2
            · rename_i hR
              obtain ⟨x', j1, jg, j2, j3, j4⟩ := k2
              obtain ⟨g1', g2', _⟩ := good x' j1
              obtain ⟨B2, G2, q1, q2, q3, q4, sat2⟩ := gs2
              refine ⟨la.meas x', j4, x', h2, _, rfl, j1, le.trans le2, ⟨B2, G2, by rw [jg]; exact q1, q2, q3, q4, head_ok sat2 j3 g1' g2' j2 (hasR_mem hR) (D0 h2 a2 (le.trans le2) (sm.trans sm2))⟩, sm.trans sm2⟩
            · exact k2.elim
        | exit j => exact next _ _ _ _ _ _ _ k2 (le.trans le2) gs2 (sm.trans sm2)
        | goto l => exact next _ _ _ _ _ _ _ k2 (le.trans le2) gs2 (sm.trans sm2)
        | ret => exact next _ _ _ _ _ _ _ k2 (le.trans le2) gs2 (sm.trans sm2)
        | panic ch => exact next _ _ _ _ _ _ _ k2 (le.trans le2) gs2 (sm.trans sm2)
        | outgrown => exact next _ _ _ _ _ _ _ k2 (le.trans le2) gs2 (sm.trans sm2)
    · exact k.elim
  | .rangeFunc _ _ _ _, i, s, h, β, w, a, K, Q, gs, k, next => k.elim
  | .scope _, i, s, h, β, w, a, K, Q, gs, k, next => k.elim
  | .label _, i, s, h, β, w, a, K, Q, gs, k, next => k.elim
  | .goto _, i, s, h, β, w, a, K, Q, gs, k, next => k.elim
  | .refuse _, i, s, h, β, w, a, K, Q, gs, k, next => k.elim
end

/-- What a function literal has caught: cells, frozen. -/
@[reducible] def capE : (ss : List Sh) → dens ss → List SV
  | [], _ => []
  | s :: l, d => .c (.fp s d.1) :: capE l d.2
theorem capD_cn {h : FH} : ∀ {ss : List Sh} {d : dens ss} {ys : List Value}, capD h ss d ys → All2 (CnV h []) (capE ss d) ys
  | [], _, [], _ => trivial
  | [], _, _ :: _, x => x.elim
  | _ :: _, _, [], x => x.elim
  | _ :: _, _, _ :: _, ⟨⟨b, cs, e, r, at_⟩, x⟩ => ⟨⟨⟨b, 0, cs, e, r, at_⟩, by subst e; exact oneC_ptr _⟩, capD_cn x⟩

@[reducible] def genEnd {ss : List Sh} (L : List (dens ss)) (e : Exit) (g : Option Nat) : Prop := match e with
  | .normal => match g with
    | none => True
    | some i => i = lenL L
  | .ret => match g with
    | none => True
    | some i => i = lenL L
  | _ => False

theorem gen_leave {P : Program} {fn : Func} (hrs : tl fn.results = []) {tmps : Array Value} {R : Ending → World → Prop} {J : World → Prop} {Gf : Nat → Prop} (ab : ∀ A A', J A → Gs Gf A A' → (∀ b, Gf b → b < A'.heap.size) → J A') (hR : ∀ w v, J w → R (.returned v) w) :
    ∀ (X : List Nat) {w : World}, X.Nodup → (∀ D ∈ X, Gf D ∧ w.heap[D]? = some (.deferred (some []))) → (∀ b, Gf b → b < w.heap.size) → J w →
    LeavesInM Fence.wide 0 P fn tmps R (X.map (fun D => ({ target := .collected D, args := #[] } : Deferred))) .returning w
  | [], w, _, _, _, hJ => ⟨_, results_run (a := { tmps := tmps, defers := [] }) (ys := []) (by rw [hrs]; rfl), hR _ _ hJ⟩
  | D :: X, w, hn, hx, hlt, hJ => by
    obtain ⟨h1, h2⟩ := hx D (by simp)
    have hn := List.nodup_cons.1 hn
    refine ⟨fun hh => (by cases hh), .inl ⟨D, w.putObj D (.deferred none), rfl, run_takeDeferred h2, ?_⟩⟩
    have hlt' : ∀ b, Gf b → b < (w.putObj D (.deferred none)).heap.size := fun b hb => by simpa using hlt b hb
    refine gen_leave hrs ab hR X hn.2 (fun D' hD' => ?_) hlt' (ab _ _ hJ ⟨rfl, rfl, rfl, by simp, Nat.le_refl _, fun k _ hk => World.putObj_heap_other (by rintro rfl; exact hk h1)⟩ hlt')
    obtain ⟨g1, g2⟩ := hx D' (by simp [hD'])
    refine ⟨g1, (World.putObj_heap_other ?_).trans g2⟩
    rintro rfl
    exact hn.1 hD'

/-- From what an iterator's text comes to, what a range over it gives. -/
theorem gives_of {P : Program} {E : Env} (ok : EnvOK P E) (hr : E.rd = false) {g : FuncId} {fn : Func} {body : Code} (hf : P.funcs[g]? = some fn) (hb : fn.body = some body) (hname : (fn.name == "runtime.NumGoroutine") = false) (hn : fn.ntmps = E.n) (hrs : tl fn.results = [])
    {ss : List Sh} {L : List (dens ss)} (hfl : allL shFlat ss = true) {cs : List Sh} {ds : dens cs} (hle : Nat.ble (lenL cs + 1) E.n = true)
    (k : ∃ ann, ∀ l, genK { E with ann := ann } l ss L body 0 { env := argE 0 (.c (.abs (.yld l)) :: capE cs ds), T := [], gl := [], gs := [] } fun e g _ => genEnd L e g)
    {h : FH} (hg : GlobOK E.cx.gd h) {lb : List Value} (cap : capD h cs ds lb) : Gives P h ss L (.func (.func g) #[] lb.toArray) := by
  obtain ⟨ann, k⟩ := k
  refine ⟨g, lb.toArray, rfl, ⟨fn, hf, by rw [hb]; rfl, hname⟩, fun l J W h1 h2 h3 h4 => ?_⟩
  have okE : EnvOK P { E with ann := ann } := ⟨ok.prog, ok.hc, ok.mkf, ok.mixed, ok.ti, ok.ct, ok.ip⟩
  have hy : Yl P h l ss L J := ⟨h1, h2, h3⟩
  have hcl : lb.length = cs.length := by
    have : ∀ {cs : List Sh} {ds : dens cs} {lb : List Value}, capD h cs ds lb → lb.length = cs.length := by
      intro cs
      induction cs with
      | nil => intro ds lb x; cases lb with | nil => rfl | cons _ _ => exact x.elim
      | cons p l ih => intro ds lb x; cases lb with | nil => exact x.elim | cons v m => simp [ih x.2]
    exact this cap
  have hln : lb.length + 1 ≤ E.n := by have := Nat.le_of_ble_eq_true hle; rw [lenL_eq] at this; omega
  have eargs : (#[.func (.yield l) #[] #[]] ++ lb.toArray : Array Value) = (.func (.yield l) #[] #[] :: lb).toArray := by simp
  rw [eargs]
  refine callsIn_of_wp_marks (F := Fence.wide) (n := 0) hf hb trivial ?_
  have hav : All2 (CnV h []) (.c (.abs (.yld l)) :: capE cs ds) (.func (.yield l) #[] #[] :: lb) := ⟨⟨rfl, rfl, rfl⟩, capD_cn cap⟩
  have look : ∀ {xs : List SV} {ys : List Value} {n t : Nat} {G : Gd} {e : Ent}, All2 (CnV h []) xs ys → lkE (argE n xs) t = some (G, e) → ∃ y, G = [] ∧ n ≤ t ∧ ys[t - n]? = some y ∧ CnE h [] e y := by
    intro xs
    induction xs with
    | nil => intro ys n t G e _ hh; simp [argE, lkE] at hh
    | cons x xs ih =>
      intro ys n t G e a hh
      cases ys with
      | nil => exact a.elim
      | cons y ys =>
        simp only [argE] at hh
        rw [lkE_cons] at hh
        split at hh
        · rename_i hk; subst hk; cases hh; exact ⟨y, rfl, Nat.le_refl _, by simp, a.1⟩
        · obtain ⟨u, h1, h2, h3, h4⟩ := ih a.2 hh
          refine ⟨u, h1, by omega, ?_, h4⟩
          rw [show t - n = (t - (n + 1)) + 1 by omega]
          simpa using h3
  have sat : Sat E.n (Base.of W) h { env := argE 0 (.c (.abs (.yld l)) :: capE cs ds), T := [], gl := [], gs := [] } h [] W { tmps := (.func (.yield l) #[] #[] :: lb).toArray ++ Array.replicate (fn.ntmps - (.func (.yield l) #[] #[] :: lb : List Value).toArray.size) undef, defers := [] } := by
    refine ⟨⟨Bw.refl (Base.of W), Nat.le_refl _, rfl, fun i r v e _ => by simp [eff] at e, fun i r v b e _ _ _ => by simp [eff] at e, fun i j r r' u v b e _ _ _ _ _ _ _ => by simp [eff] at e, FH.le.refl h, h1 _ _ _ h4, fun b o v hh => .inl hh, fun k o hh => hh.elim⟩, ?_, ?_, Dfr.nil rfl, ?_, ?_, ?_⟩
    · intro t G e ht
      obtain ⟨y, rfl, h2, h3, h4⟩ := look hav ht
      simp only [Nat.sub_zero] at h3
      refine ⟨y, ?_, fun _ => h4, fun hh => by cases hh⟩
      rw [Array.getElem?_append_left (by have := (List.getElem?_eq_some_iff.1 h3).1; simpa using this)]
      simpa using h3
    · intro d i hi; cases hi
    · simp only [Array.size_append, List.size_toArray, Array.size_replicate, List.length_cons]; omega
    · intro t G e ht
      obtain ⟨y, rfl, _⟩ := look hav ht
      rfl
    · intro p hp; cases hp
  have gs0 : GS E.n J h (some 0) { env := argE 0 (.c (.abs (.yld l)) :: capE cs ds), T := [], gl := [], gs := [] } h [] W { tmps := (.func (.yield l) #[] #[] :: lb).toArray ++ Array.replicate (fn.ntmps - (.func (.yield l) #[] #[] :: lb : List Value).toArray.size) undef, defers := [] } :=
    ⟨Base.of W, fun _ => False, h4, fun b hb => hb.elim, fun k => by simp, fun k o hh => hh.elim, sat⟩
  refine genK_ok okE hg hr hy hfl body gs0 (k l) fun e g' s' h' β' w' a' ke le gs' sm => ?_
  obtain ⟨B, G, hJ, hG, ha, hnc, sat'⟩ := gs'
  obtain ⟨X, x1, x2, x3⟩ := sat'.defers
  have hJn := GS.now h2 hJ ha sat'
  have fin : genEnd L .ret g' → LeavesInM Fence.wide 0 P fn a'.tmps (fun e W' => (∃ v, e = .returned v) ∧ ∃ G, J (some L.length) G W' ∨ J none G W') a'.defers .returning w' := by
    intro hh
    rw [x1]
    refine gen_leave hrs (J := fun w => J g' (gNow B w') w) (Gf := gNow B w') (fun A A' hA hgs hlt => h2 _ _ _ _ _ hA hgs fun b hb => ⟨hlt b hb, .inl hb⟩) (fun w v hA => ⟨⟨v, rfl⟩, gNow B w', ?_⟩) X x2 (fun D hD => ⟨⟨(x3 D hD).1, (Array.getElem?_eq_some_iff.1 (sat'.ok.kn D _ (x3 D hD).2)).1⟩, sat'.ok.kn D _ (x3 D hD).2⟩) (fun b hb => hb.2) hJn
    cases g' with
    | none => exact .inr hA
    | some i =>
      have hh : i = lenL L := hh
      rw [lenL_eq] at hh; subst hh; exact .inl hA
  cases e with
  | normal => exact fin ke
  | ret => exact fin ke
  | exit i => exact ke.elim
  | goto l => exact ke.elim
  | panic ch => exact ke.elim
  | outgrown => exact ke.elim
end Go.Eng
