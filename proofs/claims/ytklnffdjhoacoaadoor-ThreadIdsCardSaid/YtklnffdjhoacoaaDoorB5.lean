/- Texts of this claim, part 5: EngGn, EngV, EngX, EngY, EngZ. Conditions: those of the given rows. -/
import Derived.Test.YtklnffdjhoacoaaDoorB4
import Derived.Sort.OwnSortedInts
import Derived.Lib.SlicesCompact
import Derived.ReadAgain
import Derived.OpenShut
import Derived.ChangeSame
import Derived.Deep.DeepHandedRow
set_option linter.unusedSimpArgs false
set_option linter.unusedVariables false
namespace Go.Eng
open Go Go.RowKit
@[reducible] def yldOf (s : St) (o : Oper) : Option Nat := match o.guard with
  | some _ => none
  | none => match o.op with
    | .call c => match c.callee with
      | .value (.tmp t) => match lkE s.env t with
        | some ([], .one (.c (.abs (.yld l)))) => some l
        | _ => none
      | _ => none
    | _ => none
@[reducible] def genOps (E : Env) (l : Nat) (ss : List Sh) (L : List (dens ss)) (ops : List Oper) : List Oper → Nat → St → (Option Nat → St → Prop) → Prop
  | [], i, s, K => K (some i) s
  | o :: r, i, s, K => match yldOf s o with
    | some l' => match dOK E.n o.dst with
      | false => False
      | true => l = l' ∧ match argsV E.cx s [] (argsOf o.op) with
        | none => False
        | some vs => match allL noRow vs with
          | false => False
          | true => match borA s [] vs with
            | none => False
            | some bs => match datA ss bs with
              | none => False
              | some d => L[i]? = some d ∧ genOps E l ss L ops r (i + 1) (s.put o.dst [] (.one (.c (.v (.bool true))))) K ∧ opsI E ops r (s.put o.dst [] (.one (.c (.v (.bool false))))) fun s => K none s
    | none => stepI E ops o s fun s => genOps E l ss L ops r i s K
@[reducible] def yldG (s : St) (o : Oper) : Option Nat := match o.op with
    | .call c => match c.callee with
      | .value (.tmp t) => match lkE s.env t with
        | some (_, .one (.c (.abs (.yld l)))) => some l
        | _ => none
      | _ => none
    | _ => none
@[reducible] def yldAny (s : St) : List Oper → Bool
  | [] => false
  | o :: l => match o.op with
    | .call c => match c.callee with
      | .value (.tmp _) => true
      | _ => yldAny s l
    | _ => yldAny s l
@[reducible] def gtreeK (E : Env) (l : Nat) (ss : List Sh) (L : List (dens ss)) (ops : List Oper) : OT → Option Nat → St → (Option Nat → St → Prop) → Prop
  | .done, g, s, K => K g s
  | .op o t, g, s, K => match g with
    | some i => match yldG s o with
      | some l' => match dOK E.n o.dst with
        | false => False
        | true => match o.op with
          | .call c => match c.callee with
            | .value (.tmp t') => l = l' ∧ guardK E.lits s ops o.guard fun G s => match lkE s.env t' with
              | some (Gt, .one (.c (.abs (.yld l2)))) => match gsub Gt G with
                | false => False
                | true => l' = l2 ∧ match argsV E.cx s G (argsOf o.op) with
                  | none => False
                  | some vs => match allL noRow vs with
                    | false => False
                    | true => match borA s G vs with
                      | none => False
                      | some bs => match datA ss bs with
                        | none => False
                        | some d => br (gv s.gl G) (L[i]? = some d ∧ gtreeK E l ss L ops t (some (i + 1)) (s.put o.dst G (.one (.c (.v (.bool true))))) K ∧ gtreeK E l ss L ops t none (s.put o.dst G (.one (.c (.v (.bool false))))) K)
                          (gtreeK E l ss L ops t (some i) (s.put o.dst G (.one (.c (.v (.bool false))))) K)
              | _ => False
            | _ => False
          | _ => False
      | none => stepK E ops o s fun s => gtreeK E l ss L ops t (some i) s K
    | none => stepK E ops o s fun s => gtreeK E l ss L ops t none s K
  | .alt o t m, g, s, K => match g with
    | some i => match yldG s o with
      | some _ => False
      | none => (stepK E ops o s fun s => gtreeK E l ss L ops t (some i) s K) ∧ gtreeK E l ss L ops m (some i) s K
    | none => (stepK E ops o s fun s => gtreeK E l ss L ops t none s K) ∧ gtreeK E l ss L ops m none s K
def genOrd (ops : Array Oper) : Option OT :=
  let t := genT ops ops.size (Array.replicate ops.size false)
  if Region.noSelect ops && chkT ops t true ops.size (Array.replicate ops.size false) then some (opT ops t) else none
@[reducible] def genLoop (body : Nat → St → (Exit → Option Nat → St → Prop) → Prop) (ws : List Nat) (la : LA) (gh : la.α → Nat) (i : Nat) (s : St) (K : Exit → Option Nat → St → Prop) : Prop :=
  (∃ x, la.inv x ∧ gh x = i ∧ hasE s (la.slots x) ∧ s.T = updT (la.res x) s.T) ∧
  ∀ x, la.inv x → match andB (goodT (lenL s.T) (updT (la.res x) s.T)) (goodS (lenL s.T) ws (la.slots x)) with
    | false => False
    | true => body (gh x) (headSt ws s (la.slots x) (la.res x)) fun e g s' => match e with
      | .normal => match g with
        | some j => match hasR s' (keepR (lenL s.T) ws [] s.env) with
          | true => ∃ x', la.inv x' ∧ gh x' = j ∧ hasE s' (la.slots x') ∧ takeL (lenL s.T) s'.T = updT (la.res x') s.T ∧ la.meas x' < la.meas x
          | false => False
        | none => False
      | e => K e g s'
@[reducible] def genK (E : Env) (l : Nat) (ss : List Sh) (L : List (dens ss)) : Code → Nat → St → (Exit → Option Nat → St → Prop) → Prop
  | .skip, i, s, K => K .normal (some i) s
  | .region id ops draw, i, s, K => match ndL (tl ops) with
    | false => False
    | true => match draw with
      | false => genOps E l ss L (tl ops) (tl ops) i s fun g s => K .normal g (clean s)
      | true => match yldAny s (tl ops) with
        | false => match drawOrd ops with
          | some t => treeK E (tl ops) t s fun s => K .normal (some i) (clean s)
          | none => False
        | true => match genOrd ops with
          | some t => gtreeK E l ss L (tl ops) t (some i) s fun g s => K .normal g (clean s)
          | none => False
  | .seq x y, i, s, K => genK E l ss L x i s fun e g s' => match e with
    | .normal => match g with
      | some j => genK E l ss L y j s' K
      | none => codeK E y s' fun e s' => K e none s'
    | e => K e g s'
  | .cond c x y, i, s, K => match getE E.cx s [] c with
    | some (.one (.c (.v (.bool b)))) => br b (genK E l ss L x i s K) (genK E l ss L y i s K)
    | _ => False
  | .block id c, i, s, K => genK E l ss L c i s fun e g s' => match e with
    | .exit j => match Nat.beq j id with
      | true => K .normal g s'
      | false => K (.exit j) g s'
    | e => K e g s'
  | .loop c, i, s, K => match annK E c s with
    | some (.gen la gh) => genLoop (genK E l ss L c) (catL la.drop (writes c)) la gh i s K
    | _ => False
  | .exit j, i, s, K => K (.exit j) (some i) s
  | .ret, i, s, K => K .ret (some i) s
  | _, _, _, _ => False
def GS (N : Nat) (J : Option Nat → (Nat → Prop) → World → Prop) (h0 : FH) (g : Option Nat) (s : St) (h : FH) (β : List RV) (w : World) (a : Act) : Prop :=
  ∃ (B : Base) (G : Nat → Prop), J g G B.toWorld ∧ (∀ b, G b → b < B.heap.size) ∧ (∀ k, B.al k ↔ G k ∨ B.heap.size ≤ k) ∧ (∀ k o, B.nc k o → B.al k) ∧ Sat N B h0 s h β w a
section
variable {N : Nat} {J : Option Nat → (Nat → Prop) → World → Prop} {h0 : FH} {g : Option Nat} {s : St} {h : FH} {β : List RV} {w : World} {a : Act}
theorem Sat.norm {B : Base} (sat : Sat N B h0 s h β w a) : ∃ B' : Base, B'.toWorld = B.toWorld ∧ B'.al = B.al ∧ (∀ k o, B'.nc k o → B'.al k) ∧ Sat N B' h0 s h β w a := by
  obtain ⟨X, x1, x2, x3⟩ := sat.defers
  refine ⟨{ B with nc := fun k o => k ∈ X ∧ o = .deferred (some []), cell := fun k o hh => by rw [hh.2] }, rfl, rfl, fun k o hh => (x3 k hh.1).1, ?_⟩
  exact ⟨sat.ok.rebase rfl rfl (fun k o hh => by rw [hh.2]; exact sat.ok.kn k _ (x3 k hh.1).2), sat.env, sat.gs, ⟨X, x1, x2, fun D hD => ⟨(x3 D hD).1, hD, rfl⟩⟩, sat.sz, sat.gb, sat.gT⟩
theorem GS.step {B B' : Base} {G : Nat → Prop} (hJ : J g G B.toWorld) (hG : ∀ b, G b → b < B.heap.size) (ha : ∀ k, B.al k ↔ G k ∨ B.heap.size ≤ k) (lb : B.leB B') {s' : St} {h' : FH} {β' : List RV} {w' : World} {a' : Act} (sat : Sat N B' h0 s' h' β' w' a') : GS N J h0 g s' h' β' w' a' := by
  obtain ⟨B2, e1, e2, e3, sat2⟩ := sat.norm
  have e4 : B2.toWorld = B.toWorld := e1.trans lb.1
  refine ⟨B2, G, by rw [e4]; exact hJ, fun b hb => by rw [e4]; exact hG b hb, fun k => ?_, e3, sat2⟩
  rw [e2, lb.2.1, ha k, e4]
def gNow (B : Base) (w : World) (b : Nat) : Prop := B.al b ∧ b < w.heap.size
theorem GS.now {B : Base} {G : Nat → Prop} (hAb : ∀ i G G' A A', J i G A → Gs G A A' → Own' G G' A A' → J i G' A') (hJ : J g G B.toWorld) (ha : ∀ k, B.al k ↔ G k ∨ B.heap.size ≤ k) (sat : Sat N B h0 s h β w a) : J g (gNow B w) w := by
  refine hAb g G _ _ _ hJ ⟨sat.ok.below.os, sat.ok.below.tape, sat.ok.below.output, sat.ok.below.size, sat.ok.dr, fun k hk hn => sat.ok.below.block k hk fun hh => ?_⟩ fun b hb => ⟨hb.2, (ha b).1 hb.1⟩
  rcases (ha k).1 hh with h1 | h1
  · exact hn h1
  · omega
theorem GS.turn {B : Base} (e3 : ∀ k o, B.nc k o → B.al k) (sat : Sat N B h0 s h β w a) {A' : World} {g' : Option Nat} (hJ : J g' (gNow B w) A') (hw0 : HW h0 A') (keep : ∀ b, gNow B w b → A'.heap[b]? = w.heap[b]?) :
    GS N J h0 g' s h β A' a := by
  have lt : ∀ b, gNow B w b → b < A'.heap.size := by
    intro b hb
    have h1 := keep b hb
    rw [Array.getElem?_eq_getElem hb.2] at h1
    exact (Array.getElem?_eq_some_iff.1 h1).1
  have kn : ∀ k o, B.nc k o → A'.heap[k]? = some o := fun k o hk => by
    have h1 := sat.ok.kn k o hk
    rw [keep k ⟨e3 k o hk, (Array.getElem?_eq_some_iff.1 h1).1⟩]; exact h1
  refine ⟨{ A' with nc := B.nc, cell := B.cell, al := fun k => gNow B w k ∨ A'.heap.size ≤ k, up := fun _ hh => .inr hh }, gNow B w, hJ, lt, fun k => Iff.rfl,
    fun k o hk => .inl ⟨e3 k o hk, (Array.getElem?_eq_some_iff.1 (sat.ok.kn k o hk)).1⟩, ?_⟩
  have own : ∀ {i : Nat} {r : Res} {v : RV} {b : Nat}, (eff s.gl s.T)[i]? = some r → r.live = true → β[i]? = some v → v.has b → gNow B w b := fun e hl e' hb =>
    ⟨(sat.ok.own _ _ _ _ e hl e' hb).1, (sat.ok.own _ _ _ _ e hl e' hb).2.1⟩
  refine ⟨⟨⟨rfl, rfl, rfl, Nat.le_refl _, fun _ _ _ => rfl⟩, Nat.le_refl _, sat.ok.len, fun i r v e e' => (sat.ok.holds i r v e e').move (FH.le.refl h) (Ext.refl _) fun hl b hb => keep b (own e hl e' hb),
    fun i r v b e hl e' hb => ⟨.inl (own e hl e' hb), lt b (own e hl e' hb), (sat.ok.own i r v b e hl e' hb).2.2⟩, sat.ok.inj, sat.ok.hle, fun b o v hh => ?_, fun b o v hh => ?_, kn⟩, sat.env, sat.gs, ?_, sat.sz, sat.gb, sat.gT⟩
  · rcases sat.ok.hg b o v hh with h1 | h1
    · exact hw0 b o v h1
    · have h2 := sat.ok.hw b o v hh
      exact (vis_of_block (keep b ⟨h1, vis_lt h2⟩)).trans h2
  · rcases sat.ok.hg b o v hh with h1 | h1
    · exact .inl h1
    · have h3 := vis_lt (sat.ok.hw b o v hh)
      exact .inr (.inl ⟨h1, h3⟩)
  · obtain ⟨X, x1, x2, x3⟩ := sat.defers
    exact ⟨X, x1, x2, fun D hD => ⟨.inl ⟨(x3 D hD).1, (Array.getElem?_eq_some_iff.1 (sat.ok.kn D _ (x3 D hD).2)).1⟩, (x3 D hD).2⟩⟩
end
theorem datA_DV {h : FH} : ∀ {ss : List Sh} {vs : List SV} {ys : List Value} {d : dens ss}, datA ss vs = some d → All2 (CnV h []) vs ys → DVs h ss d ys
  | [], vs, ys, d, e, x => by
    unfold datA at e
    split at e
    · cases ys with
      | nil => trivial
      | cons _ _ => exact x.elim
    · cases e
  | s :: l, vs, ys, d, e, x => by
    unfold datA at e
    split at e
    · rename_i v r
      cases ys with
      | nil => exact x.elim
      | cons y ys =>
        split at e
        · rename_i d1 hd
          split at e
          · rename_i d2 hr
            cases e
            obtain ⟨cs, e1, rd⟩ := toDat_ok hd x.1
            exact ⟨⟨cs, e1, rd⟩, datA_DV hr x.2⟩
          · cases e
        · cases e
    · cases e
structure Yl (P : Program) (h0 : FH) (l : Nat) (ss : List Sh) (L : List (dens ss)) (J : Option Nat → (Nat → Prop) → World → Prop) : Prop where
  hw : ∀ i G A, J i G A → HW h0 A
  ab : ∀ i G G' A A', J i G A → Gs G A A' → Own' G G' A A' → J i G' A'
  yl : ∀ i d vs G A, L[i]? = some d → DVs h0 ss d vs → J (some i) G A → YieldAt Fence.wide 0 P l vs.toArray A fun e A' => (∀ b, G b → A'.heap[b]? = A.heap[b]?) ∧
      ((e = .returned (.bool true) ∧ J (some (i + 1)) G A') ∨ (e = .returned (.bool false) ∧ J none G A'))
section
variable {P : Program} {E : Env} {h0 : FH} {l : Nat} {ss : List Sh} {L : List (dens ss)} {J : Option Nat → (Nat → Prop) → World → Prop}
theorem DVs.flat {h h' : FH} : ∀ {ss : List Sh} {d : dens ss} {vs : List Value}, allL shFlat ss = true → DVs h ss d vs → DVs h' ss d vs
  | [], _, [], _, _ => trivial
  | [], _, _ :: _, _, x => x.elim
  | _ :: _, _, [], _, x => x.elim
  | s :: _, _, _ :: _, f, ⟨a, b⟩ => by
    simp only [allL, andB_eq, Bool.and_eq_true] at f
    obtain ⟨cs, e, r⟩ := a
    exact ⟨⟨cs, e, Rd.flat s f.1 r⟩, DVs.flat f.2 b⟩
theorem genOps_ok (ok : EnvOK P E) (hg : GlobOK E.cx.gd h0) (hy : Yl P h0 l ss L J) (hfl : allL shFlat ss = true) {ops : Array Oper} {n : Nat} {Q : Exit → Act → World → Prop} {K : Option Nat → St → Prop} : ∀ (r : List Oper) (k i : Nat) {s : St} {h : FH} {β : List RV} {w : World} {a : Act},
    (∀ j, r[j]? = ops[k + j]?) → ndL r = true → GS E.n J h0 (some i) s h β w a → genOps E l ss L (tl ops) r i s K →
    (∀ g s' h' β' w' a', K g s' → h.le h' → GS E.n J h0 g s' h' β' w' a' → Same (dsts r) a a' → Q .normal a' w') → wpOpsIn Fence.wide n P ops Q (List.range' k r.length) a w
  | [], k, i, s, h, β, w, a, _, _, gs, kk, next => next _ _ _ _ _ _ kk (FH.le.refl h) gs (Same.refl _ _)
  | o :: r, k, i, s, h, β, w, a, hl, hn, gs, kk, next => by
    have h0' : ops[k]? = some o := by simpa using (hl 0).symm
    have hl' : ∀ j, r[j]? = ops[k + 1 + j]? := fun j => by have := hl (j + 1); simpa [Nat.add_assoc, Nat.add_comm 1 j] using this
    simp only [ndL, andB_eq, Bool.and_eq_true] at hn
    obtain ⟨B, G, hJ, hG, ha, hnc, sat⟩ := gs
    simp only [List.length_cons, List.range'_succ, wpOpsIn, h0']
    simp only [genOps] at kk
    split at kk
    · rename_i l' hyl
      split at kk
      · exact kk.elim
      rename_i hd
      obtain ⟨hll, kk⟩ := kk
      subst hll
      split at kk
      · exact kk.elim
      rename_i vs hvs
      split at kk
      · exact kk.elim
      rename_i hnr
      split at kk
      · exact kk.elim
      rename_i bs hbs
      split at kk
      · exact kk.elim
      rename_i d hdd
      obtain ⟨hLi, k1, k2⟩ := kk
      unfold yldOf at hyl
      split at hyl
      · cases hyl
      rename_i hgd
      split at hyl
      · rename_i c ho
        split at hyl
        · rename_i t hcal
          split at hyl
          · rename_i l2 hlk
            cases hyl
            have tr : gv s.gl [] = true := rfl
            rw [if_pos (by simp [Region.wanted, hgd])]
            obtain ⟨z, z1, z2, _⟩ := sat.env t [] _ hlk
            have ez : z = .func (.yield l) #[] #[] := (z2 tr).1
            subst ez
            have hgh := hg.mono sat.ok.hle
            have hav := argsV_ok sat hgh tr hvs
            obtain ⟨_, b2⟩ := borA_ok sat tr hbs hav
            have hao : argsOf o.op = tl c.args := by simp only [argsOf, ho]
            rw [hao] at hav b2
            -- the arguments as they were frozen at the beginning
            have hJn := GS.now hy.ab hJ ha sat
            have dv : DVs h ss d ((tl c.args).map a.eval) := datA_DV hdd (b2 hnr)
            have dv0 : DVs h0 ss d ((tl c.args).map a.eval) := DVs.flat hfl dv
            obtain ⟨fn, tmps, asg, body, hrun, hround⟩ := hy.yl i d _ (gNow B w) w hLi dv0 hJn
            have hargs : (c.args.map a.eval) = ((tl c.args).map a.eval).toArray := by cases c.args; simp
            have exec : (execOp a.eval o).run P w = .ok (.round l fn tmps asg body) w := by
              simp only [execOp, ho, resolve, hcal, Act.eval]
              rw [show a.tmps.getD t undef = .func (.yield l) #[] #[] by simp [z1]]
              simp only [Deferred.ofValue, invoke, Sem.run_bind, Sem.run_pure, Result.andThen_ok]
              simp only [Array.empty_append]
              rw [hargs]
              exact hrun
            refine ⟨fun f _ => trivial, ?_⟩
            rw [Oper.semAt_eq _ _ _ (fun c' hc' => by rw [hc'] at hn; cases hn.1), exec]
            simp only [Oper.uponIn]
            refine ⟨fun hh => (by cases hh), RoundIn.mono (F := Fence.wide) (n := n - 1) ⟨hround.1, fun c' cs' hroom => hround.2 c' cs' (fun d' hd' => by cases hd')⟩ ?_⟩
            rintro e A' ⟨keep, hh⟩
            rcases hh with ⟨rfl, hJ'⟩ | ⟨rfl, hJ'⟩
            · obtain ⟨B2, G2, j1, j2, j3, j4, sat2⟩ := GS.turn hnc sat hJ' (hy.hw _ _ _ hJ') keep
              have gs3 : GS E.n J h0 (some (i + 1)) (s.put o.dst [] (.one (.c (.v (.bool true))))) h β A' (a.put o.dst (.bool true)) := ⟨B2, G2, j1, j2, j3, j4, sat2.put (dOK_lt hd) rfl (fun _ => ⟨⟨rfl, rfl, rfl⟩, rfl, rfl⟩) fun hh => by cases hh⟩
              exact genOps_ok ok hg hy hfl r (k + 1) (i + 1) hl' hn.2 gs3 k1 fun g s2 h2 β2 w2 a2 k2 le2 gs2 sm => next g s2 h2 β2 w2 a2 k2 le2 gs2 sm.put
            · obtain ⟨B2, G2, j1, j2, j3, j4, sat2⟩ := GS.turn hnc sat hJ' (hy.hw _ _ _ hJ') keep
              have sat3 := sat2.put (d := o.dst) (G := []) (e := .one (.c (.v (.bool false)))) (z := .bool false) (dOK_lt hd) rfl (fun _ => ⟨⟨rfl, rfl, rfl⟩, rfl, rfl⟩) fun hh => by cases hh
              exact wpL_In (R := fun a w => Q .normal a w) (.inl rfl) (fun _ _ hh => hh) r (k + 1) _ _ hl' hn.2 (opsI_ok ok hg r sat3 k2 fun s2 h2 β2 w2 a2 k3 le2 sat4 sm => next none s2 h2 β2 w2 a2 k3 le2 (GS.step j1 j2 j3 (.refl B2) sat4) sm.put)
          · cases hyl
        · cases hyl
      · cases hyl
    · have st := stepI_ok ok sat (hg.mono sat.ok.hle) kk (wpOpsIn Fence.wide n P ops Q (List.range' (k + 1) r.length)) noQ fun s' h' β' w' v k' le sat' =>
        genOps_ok ok hg hy hfl r (k + 1) i hl' hn.2 (GS.step hJ hG ha (.refl B) sat') k' fun g s2 h2 β2 w2 a2 k2 le2 gs2 sm => next g s2 h2 β2 w2 a2 k2 (le.trans le2) gs2 sm.put
      split
      · rename_i hw; rw [if_pos hw] at st; exact wp_In (Q := Q) (.inl rfl) hn.1 st
      · rename_i hw; rw [if_neg hw] at st; exact ⟨fun f _ => trivial, st⟩
theorem yld_float {s : St} {o : Oper} (hf : isFloat o.op = true) : yldG s o = none := by
  unfold yldG
  split
  · rename_i c ho
    rw [ho] at hf
    have : c.callee = .builtin .len := lenB hf
    rw [this]
  · rfl
theorem GS.drawn {g : Option Nat} {s : St} {h : FH} {β : List RV} {w : World} {a : Act} (gs : GS E.n J h0 g s h β w a) (n : Nat) (hn : w.drawn ≤ n) : GS E.n J h0 g s h β { w with drawn := n } a := by
  obtain ⟨B, G, hJ, hG, ha, hnc, sat⟩ := gs
  exact ⟨B, G, hJ, hG, ha, hnc, sat.drawn n hn⟩
set_option maxHeartbeats 1000000 in
theorem yld_upon (ok : EnvOK P E) (hg : GlobOK E.cx.gd h0) (hy : Yl P h0 l ss L J) (hfl : allL shFlat ss = true) {ops : Array Oper} {n : Nat} {i : Nat} {s : St} {h : FH} {β : List RV} {w : World} {a : Act} {o : Oper} {c : Call} {t' : Nat} {K : Act → World → Prop} {G : Gd} {B : Base} {GG : Nat → Prop}
    (hJ : J (some i) GG B.toWorld) (hG : ∀ b, GG b → b < B.heap.size) (ha : ∀ k, B.al k ↔ GG k ∨ B.heap.size ≤ k) (hnc : ∀ k o, B.nc k o → B.al k) (sat : Sat E.n B h0 s h β w a)
    (hd : dOK E.n o.dst = true) (ho : o.op = .call c) (hcal : c.callee = .value (.tmp t')) {Gt : Gd} (hlk : lkE s.env t' = some (Gt, .one (.c (.abs (.yld l))))) (hsub : gsub Gt G = true) (hgv : gv s.gl G = true) (hgb : gbd s.gl.length G = true)
    {vs bs : List SV} {d : dens ss} (hvs : argsV E.cx s G (tl c.args) = some vs) (hnr : allL noRow vs = true) (hbs : borA s G vs = some bs) (hdd : datA ss bs = some d) (hLi : L[i]? = some d)
    (k1 : ∀ h' β' w' a', GS E.n J h0 (some (i + 1)) (s.put o.dst G (.one (.c (.v (.bool true))))) h' β' w' a' → h.le h' → (∃ v, a' = a.put o.dst v) → K a' w')
    (k2 : ∀ h' β' w' a', GS E.n J h0 none (s.put o.dst G (.one (.c (.v (.bool false))))) h' β' w' a' → h.le h' → (∃ v, a' = a.put o.dst v) → K a' w') :
    o.uponIn Fence.wide n P a K noQ ((execOp a.eval o).run P w) := by
  obtain ⟨z, z1, z2, _⟩ := sat.env t' Gt _ hlk
  have ez : z = .func (.yield l) #[] #[] := (z2 (gsub_gv hsub hgv)).1
  subst ez
  have hgh := hg.mono sat.ok.hle
  have hav := argsV_ok sat hgh hgv hvs
  obtain ⟨_, b2⟩ := borA_ok sat hgv hbs hav
  have hJn := GS.now hy.ab hJ ha sat
  have dv : DVs h ss d ((tl c.args).map a.eval) := datA_DV hdd (b2 hnr)
  have dv0 : DVs h0 ss d ((tl c.args).map a.eval) := DVs.flat hfl dv
  obtain ⟨fn, tmps, asg, body, hrun, hround⟩ := hy.yl i d _ (gNow B w) w hLi dv0 hJn
  have hargs : (c.args.map a.eval) = ((tl c.args).map a.eval).toArray := by cases c.args; simp
  have exec : (execOp a.eval o).run P w = .ok (.round l fn tmps asg body) w := by
    simp only [execOp, ho, resolve, hcal, Act.eval]
    rw [show a.tmps.getD t' undef = .func (.yield l) #[] #[] by simp [z1]]
    simp only [Deferred.ofValue, invoke, Sem.run_bind, Sem.run_pure, Result.andThen_ok]
    simp only [Array.empty_append]
    rw [hargs]
    exact hrun
  rw [exec]
  simp only [Oper.uponIn]
  refine ⟨fun hh => (by cases hh), RoundIn.mono (F := Fence.wide) (n := n - 1) ⟨hround.1, fun c' cs' hroom => hround.2 c' cs' (fun d' hd' => by cases hd')⟩ ?_⟩
  rintro e A' ⟨keep, hh⟩
  rcases hh with ⟨rfl, hJ'⟩ | ⟨rfl, hJ'⟩
  · obtain ⟨B2, G2, j1, j2, j3, j4, sat2⟩ := GS.turn hnc sat hJ' (hy.hw _ _ _ hJ') keep
    exact k1 h β A' _ ⟨B2, G2, j1, j2, j3, j4, sat2.put (dOK_lt hd) hgb (fun _ => ⟨⟨rfl, rfl, rfl⟩, rfl, rfl⟩) fun hh => by rw [hgv] at hh; cases hh⟩ (FH.le.refl h) ⟨_, rfl⟩
  · obtain ⟨B2, G2, j1, j2, j3, j4, sat2⟩ := GS.turn hnc sat hJ' (hy.hw _ _ _ hJ') keep
    exact k2 h β A' _ ⟨B2, G2, j1, j2, j3, j4, sat2.put (dOK_lt hd) hgb (fun _ => ⟨⟨rfl, rfl, rfl⟩, rfl, rfl⟩) fun hh => by rw [hgv] at hh; cases hh⟩ (FH.le.refl h) ⟨_, rfl⟩
set_option maxHeartbeats 2000000 in
theorem gtree_ok (ok : EnvOK P E) (hg : GlobOK E.cx.gd h0) (hy : Yl P h0 l ss L J) (hfl : allL shFlat ss = true) {ops : Array Oper} (hs : Region.noSelect ops = true) (hn : ndL ops.toList = true) {m : Nat} {R : Act → World → Prop} {K : Option Nat → St → Prop} : ∀ (t : DT) {n : Nat} {listed : Array Bool} {g : Option Nat} {s : St} {h : FH} {β : List RV} {w : World} {a : Act},
    GS E.n J h0 g s h β w a → gtreeK E l ss L (tl ops) (opT ops t) g s K → (∀ g' s' h' β' w' a', K g' s' → h.le h' → GS E.n J h0 g' s' h' β' w' a' → Same (dsts ops.toList) a a' → R a' w') →
    (chkT ops t true n listed = true → anyW P m .any ops (sfe ops) R n listed a w) ∧
    (chkT ops t false n listed = true → ∀ i ∈ t.alts, wpOW P m ops i (fun a' w' => (sfe ops i = true → Gro w w') ∧ anyW P m .any ops (sfe ops) R (n - 1) (listed.setIfInBounds i true) a' w') a w)
  | .done, n, listed, g, s, h, β, w, a, gs, k, next => by
    refine ⟨fun hc => ?_, fun hc => by simp [chkT] at hc⟩
    simp only [chkT, Bool.true_and, Bool.and_eq_true, beq_iff_eq] at hc
    obtain ⟨rfl, hr⟩ := hc
    exact ⟨by simpa using hr, next _ _ _ _ _ _ k (FH.le.refl h) gs (Same.refl _ _)⟩
  | .fl i t, n, listed, g, s, h, β, w, a, gs, k, next => by
    refine ⟨fun hc => ?_, fun hc => by simp [chkT] at hc⟩
    simp only [chkT, Bool.true_and, Bool.and_eq_true, bne_iff_ne, ne_eq] at hc
    obtain ⟨⟨hn0, hb⟩, hc⟩ := hc
    obtain ⟨n, rfl⟩ : ∃ m, n = m + 1 := ⟨n - 1, by omega⟩
    unfold floatsB at hb
    cases hi : ops[i]? with
    | none => rw [hi] at hb; simp at hb
    | some o =>
      rw [hi] at hb
      simp only [Bool.and_eq_true] at hb
      simp only [opT, hi] at k
      have hmem : o ∈ ops.toList := List.mem_of_getElem? (i := i) (by simpa using hi)
      obtain ⟨⟨⟨hf, hfree⟩, hr⟩, hl⟩ := hb
      obtain ⟨B, G, hJ, hG, ha, hnc, sat⟩ := gs
      have k : stepK E (tl ops) o s fun s => gtreeK E l ss L (tl ops) (opT ops t) g s K := by
        unfold gtreeK at k
        cases g with
        | none => exact k
        | some i' => simp only at k; rw [yld_float hf] at k; exact k
      obtain ⟨v, s', hy', k', sat'⟩ := float_step ok sat (hg.mono sat.ok.hle) hf k
      have hq : sfe ops i = true := by
        simp only [sfe, hi]
        exact float_quiet hf
      refine anyW_first (bl := blOf ops listed i) hi (Region.noSelect_spec hs) hq n listed a w (Region.free_spec hi hfree) (fun e => ?_) (by simpa using hr) hy' (fun _ => Gro.refl w)
        ((gtree_ok ok hg hy hfl hs hn t (GS.step hJ hG ha (.refl B) sat') k' fun g2 s2 h2 β2 w2 a2 k2 le2 sat2 sm => next g2 s2 h2 β2 w2 a2 k2 le2 sat2 (sm.put_mem hmem)).1 hc)
      rw [e] at hl
      exact waitsB_spec (by simpa using hl)
  | .op i t, n, listed, g, s, h, β, w, a, gs, k, next => by
    have key : n ≠ 0 → (ops[i]?).isSome = true → chkT ops t true (n - 1) (listed.setIfInBounds i true) = true → wpOW P m ops i (fun a' w' => (sfe ops i = true → Gro w w') ∧ anyW P m .any ops (sfe ops) R (n - 1) (listed.setIfInBounds i true) a' w') a w := by
      intro hn0 hi hc
      obtain ⟨o, hi⟩ := Option.isSome_iff_exists.1 hi
      have hmem : o ∈ ops.toList := List.mem_of_getElem? (i := i) (by simpa using hi)
      simp only [opT, hi] at k
      obtain ⟨B, G, hJ, hG, ha, hnc, sat⟩ := gs
      have plain : (stepK E (tl ops) o s fun s => gtreeK E l ss L (tl ops) (opT ops t) g s K) → wpOW P m ops i (fun a' w' => (sfe ops i = true → Gro w w') ∧ anyW P m .any ops (sfe ops) R (n - 1) (listed.setIfInBounds i true) a' w') a w := by
        intro k
        refine wpO_W hn ?_
        unfold wpO
        simp only [hi]
        refine stepK_ok ok sat (hg.mono sat.ok.hle) k _ noQ fun s' h' β' w' v k' le gro sat' => ⟨fun e => gro (by simpa [sfe, hi] using e), ?_⟩
        exact (gtree_ok ok hg hy hfl hs hn t (GS.step hJ hG ha (.refl B) sat') k' fun g2 s2 h2 β2 w2 a2 k2 le2 sat2 sm => next g2 s2 h2 β2 w2 a2 k2 (le.trans le2) sat2 (sm.put_mem hmem)).1 hc
      unfold gtreeK at k
      cases g with
      | none => exact plain k
      | some i' =>
        simp only at k
        cases hyl : yldG s o with
        | none => rw [hyl] at k; exact plain k
        | some l' =>
          rw [hyl] at k
          simp only at k
          split at k
          · exact k.elim
          rename_i hd
          split at k
          · rename_i c ho
            split at k
            · rename_i t' hcal
              obtain ⟨hll, k⟩ := k
              subst hll
              obtain ⟨G1, s1, k, sat1, hw1, hgb⟩ := guardK_ok sat k
              split at k
              · rename_i Gt l2 hlk
                split at k
                · exact k.elim
                rename_i hsub
                obtain ⟨rfl, k⟩ := k
                split at k
                · exact k.elim
                rename_i vs hvs
                split at k
                · exact k.elim
                rename_i hnr
                split at k
                · exact k.elim
                rename_i bs hbs
                split at k
                · exact k.elim
                rename_i d hdd
                have hsfe : sfe ops i = false := by
                  simp only [sfe, hi, ho, quietly, hcal]
                have hao : argsOf o.op = tl c.args := by simp only [argsOf, ho]
                rw [hao] at hvs
                unfold wpOW
                simp only [hi]
                cases hgv : gv s1.gl G1 with
                | true =>
                  rw [if_pos (by rw [hw1, hgv])]
                  obtain ⟨hLi, k1, k2⟩ := (br_iff.1 k).1 hgv
                  refine yld_upon ok hg hy hfl (ops := ops) hJ hG ha hnc sat1 hd ho hcal hlk hsub hgv hgb hvs hnr hbs hdd hLi (fun h' β' w' a' gs' le' ha' => ⟨fun e => (by rw [hsfe] at e; cases e), ?_⟩) (fun h' β' w' a' gs' le' ha' => ⟨fun e => (by rw [hsfe] at e; cases e), ?_⟩)
                  · obtain ⟨v, rfl⟩ := ha'
                    exact (gtree_ok ok hg hy hfl hs hn t gs' k1 fun g2 s2 h2 β2 w2 a2 k2 le2 sat2 sm => next g2 s2 h2 β2 w2 a2 k2 (le'.trans le2) sat2 (sm.put_mem hmem)).1 hc
                  · obtain ⟨v, rfl⟩ := ha'
                    exact (gtree_ok ok hg hy hfl hs hn t gs' k2 fun g2 s2 h2 β2 w2 a2 k2 le2 sat2 sm => next g2 s2 h2 β2 w2 a2 k2 (le'.trans le2) sat2 (sm.put_mem hmem)).1 hc
                | false =>
                  rw [if_neg (by rw [hw1, hgv]; simp)]
                  have k := (br_iff.1 k).2 hgv
                  have sat2 := sat1.put (d := o.dst) (G := G1) (e := .one (.c (.v (.bool false)))) (z := undef) (dOK_lt hd) hgb (fun hh => by rw [hgv] at hh; cases hh) fun _ => rfl
                  refine ⟨fun e => (by rw [hsfe] at e; cases e), ?_⟩
                  exact (gtree_ok ok hg hy hfl hs hn t (GS.step hJ hG ha (.refl B) sat2) k fun g2 s2 h2 β2 w2 a2 k2 le2 sat2 sm => next g2 s2 h2 β2 w2 a2 k2 le2 sat2 (sm.put_mem hmem)).1 hc
              · exact k.elim
            · exact k.elim
          · exact k.elim
    refine ⟨fun hc => ?_, fun hc j hj => ?_⟩
    · simp only [chkT, Bool.not_true, Bool.false_or, Bool.and_eq_true, bne_iff_ne, ne_eq, beq_iff_eq] at hc
      obtain ⟨⟨⟨hr, hn0⟩, hi⟩, hc⟩ := hc
      obtain ⟨m, rfl⟩ : ∃ m, n = m + 1 := ⟨n - 1, by omega⟩
      refine ⟨fun h0 => by rw [hr] at h0; simp at h0, fun j hj => ?_⟩
      rw [hr] at hj
      simp at hj
      subst hj
      exact key hn0 hi hc
    · simp only [chkT, Bool.not_false, Bool.true_or, Bool.true_and, Bool.and_eq_true, bne_iff_ne, ne_eq] at hc
      simp only [DT.alts, List.mem_singleton] at hj
      subst hj
      exact key hc.1.1 hc.1.2 hc.2
  | .alt i t mm, n, listed, g, s, h, β, w, a, gs, k, next => by
    have key : n ≠ 0 → (ops[i]?).isSome = true → chkT ops t true (n - 1) (listed.setIfInBounds i true) = true → chkT ops mm false n listed = true →
        ∀ j ∈ i :: mm.alts, wpOW P m ops j (fun a' w' => (sfe ops j = true → Gro w w') ∧ anyW P m .any ops (sfe ops) R (n - 1) (listed.setIfInBounds j true) a' w') a w := by
      intro hn0 hi hc hm j hj
      obtain ⟨o, hi⟩ := Option.isSome_iff_exists.1 hi
      have hmem : o ∈ ops.toList := List.mem_of_getElem? (i := i) (by simpa using hi)
      simp only [opT, hi] at k
      have k : (stepK E (tl ops) o s fun s => gtreeK E l ss L (tl ops) (opT ops t) g s K) ∧ gtreeK E l ss L (tl ops) (opT ops mm) g s K := by
        unfold gtreeK at k
        cases g with
        | none => exact k
        | some i' =>
          simp only at k
          cases hyl : yldG s o with
          | none => rw [hyl] at k; exact k
          | some _ => rw [hyl] at k; exact k.elim
      rcases List.mem_cons.1 hj with rfl | hj
      · obtain ⟨B, G, hJ, hG, ha, hnc, sat⟩ := gs
        refine wpO_W hn ?_
        unfold wpO
        simp only [hi]
        refine stepK_ok ok sat (hg.mono sat.ok.hle) k.1 _ noQ fun s' h' β' w' v k' le gro sat' => ⟨fun e => gro (by simpa [sfe, hi] using e), ?_⟩
        exact (gtree_ok ok hg hy hfl hs hn t (GS.step hJ hG ha (.refl B) sat') k' fun g2 s2 h2 β2 w2 a2 k2 le2 sat2 sm => next g2 s2 h2 β2 w2 a2 k2 (le.trans le2) sat2 (sm.put_mem hmem)).1 hc
      · exact (gtree_ok ok hg hy hfl hs hn mm gs k.2 next).2 hm j hj
    refine ⟨fun hc => ?_, fun hc j hj => ?_⟩
    · simp only [chkT, Bool.not_true, Bool.false_or, Bool.and_eq_true, bne_iff_ne, ne_eq, beq_iff_eq] at hc
      obtain ⟨⟨⟨⟨hr, hn0⟩, hi⟩, hc⟩, hm⟩ := hc
      obtain ⟨q, rfl⟩ : ∃ m, n = m + 1 := ⟨n - 1, by omega⟩
      refine ⟨fun h0 => by rw [hr] at h0; simp at h0, fun j hj => ?_⟩
      rw [hr] at hj
      exact key hn0 hi hc hm j hj
    · simp only [chkT, Bool.not_false, Bool.true_or, Bool.true_and, Bool.and_eq_true, bne_iff_ne, ne_eq] at hc
      exact key hc.1.1.1 hc.1.1.2 hc.1.2 hc.2 j hj
theorem gdraw_ok (ok : EnvOK P E) (hg : GlobOK E.cx.gd h0) (hy : Yl P h0 l ss L J) (hfl : allL shFlat ss = true) {ops : Array Oper} {id n : Nat} {ol : OT} (ho : genOrd ops = some ol) (hn : ndL ops.toList = true) {i : Nat} {s : St} {h : FH} {β : List RV} {w : World} {a : Act} {K : Option Nat → St → Prop} {Q : Exit → Act → World → Prop}
    (gs : GS E.n J h0 (some i) s h β w a) (k : gtreeK E l ss L (tl ops) ol (some i) s K)
    (next : ∀ g' s' h' β' w' a', K g' s' → h.le h' → GS E.n J h0 g' s' h' β' w' a' → Same (dsts (tl ops)) a a' → Q .normal a' w') : (Code.region id ops true).wpIn Fence.wide n P Q a w := by
  unfold genOrd at ho
  have et : tl ops = ops.toList := by cases ops; rfl
  simp only at ho
  split at ho
  · rename_i hp
    cases ho
    simp only [Bool.and_eq_true, beq_iff_eq] at hp
    refine wpIn_region_any ok.mixed (anyW_In (sf := sfe ops) (R := fun a w => Q .normal a w) hn (fun _ _ hh => hh) _ _ _ _ ?_)
    exact (gtree_ok ok hg hy hfl hp.1 hn (R := fun a w => Q .normal a w) (genT ops ops.size (Array.replicate ops.size false)) (gs.drawn (w.drawn + 1) (Nat.le_succ _)) k fun g' s' h' β' w' a' k' le gs' sm => next _ _ _ _ _ _ k' le gs' (by rw [et]; exact sm)).1 hp.2
  · cases ho
theorem genK_ok (ok : EnvOK P E) (hg : GlobOK E.cx.gd h0) (hr : E.rd = false) (hy : Yl P h0 l ss L J) (hfl : allL shFlat ss = true) {n : Nat} : ∀ (c : Code) {i : Nat} {s : St} {h : FH} {β : List RV} {w : World} {a : Act} {K : Exit → Option Nat → St → Prop} {Q : Exit → Act → World → Prop}, GS E.n J h0 (some i) s h β w a →
    genK E l ss L c i s K → (∀ e g s' h' β' w' a', K e g s' → h.le h' → GS E.n J h0 g s' h' β' w' a' → Same (writes c) a a' → Q e a' w') → c.wpIn Fence.wide n P Q a w
  | .skip, i, s, h, β, w, a, K, Q, gs, k, next => wpIn_skip (next _ _ _ _ _ _ _ k (FH.le.refl h) gs (Same.refl _ _))
  | .exit j, i, s, h, β, w, a, K, Q, gs, k, next => wpIn_exit (next _ _ _ _ _ _ _ k (FH.le.refl h) gs (Same.refl _ _))
  | .ret, i, s, h, β, w, a, K, Q, gs, k, next => wpIn_ret (next _ _ _ _ _ _ _ k (FH.le.refl h) gs (Same.refl _ _))
  | .region id ops false, i, s, h, β, w, a, K, Q, gs, k, next => by
    simp only [genK] at k
    split at k
    · exact k.elim
    rename_i hnd
    have et : tl ops = ops.toList := by cases ops; rfl
    refine wpIn_region ?_
    have := genOps_ok (n := n) (Q := Q) ok hg hy hfl (ops := ops) (tl ops) 0 i (fun j => by rw [et]; simp) hnd gs k fun g s' h' β' w' a' k' le gs' sm => next .normal g _ _ _ _ _ k' le (by
      obtain ⟨B2, G2, j1, j2, j3, j4, sat2⟩ := gs'
      exact ⟨B2, G2, j1, j2, j3, j4, sat2.clean⟩) sm
    rw [List.range_eq_range']
    rw [et] at this
    simpa using this
  | .region id ops true, i, s, h, β, w, a, K, Q, gs, k, next => by
    simp only [genK] at k
    split at k
    · exact k.elim
    rename_i hnd
    have et : tl ops = ops.toList := by cases ops; rfl
    cases hya : yldAny s (tl ops) with
    | true =>
      rw [hya] at k
      simp only at k
      cases hd : genOrd ops with
      | none => rw [hd] at k; exact k.elim
      | some t =>
        rw [hd] at k
        exact gdraw_ok ok hg hy hfl hd (by rw [et] at hnd; exact hnd) gs k fun g s' h' β' w' a' k' le gs' sm => next .normal g _ _ _ _ _ k' le (by
          obtain ⟨B2, G2, j1, j2, j3, j4, sat2⟩ := gs'
          exact ⟨B2, G2, j1, j2, j3, j4, sat2.clean⟩) sm
    | false =>
    rw [hya] at k
    simp only at k
    obtain ⟨B, G, hJ, hG, ha, hnc, sat⟩ := gs
    cases hd : drawOrd ops with
    | none => rw [hd] at k; exact k.elim
    | some t =>
      rw [hd] at k
      exact draw_ok ok hg hd sat k (.inl rfl) (by rw [et] at hnd; exact hnd) fun s' h' β' w' a' k' le sat' sm => next .normal _ _ _ _ _ _ k' le (GS.step hJ hG ha (.refl B) sat'.clean) sm
  | .seq x y, i, s, h, β, w, a, K, Q, gs, k, next => by
    refine wpIn_seq (genK_ok ok hg hr hy hfl x gs k fun e g s' h' β' w' a' k' le gs' sm => ?_)
    cases e with
    | normal =>
      cases g with
      | some j => exact genK_ok ok hg hr hy hfl y gs' k' fun e g s2 h2 β2 w2 a2 k2 le2 gs2 sm2 => next e g s2 h2 β2 w2 a2 k2 (le.trans le2) gs2 (sm.left.trans sm2.right)
      | none =>
        obtain ⟨B, G, hJ, hG, ha, hnc, sat⟩ := gs'
        exact codeK_ok y ok hg (.inl rfl) (fun _ => rfl) sat k' fun e s2 h2 β2 w2 a2 B2 lb k2 le2 sat2 sm2 => next e none s2 h2 β2 w2 a2 k2 (le.trans le2) (GS.step hJ hG ha lb.1 sat2) (sm.left.trans sm2.right)
    | exit j => exact next _ _ _ _ _ _ _ k' le gs' sm.left
    | goto l => exact next _ _ _ _ _ _ _ k' le gs' sm.left
    | ret => exact next _ _ _ _ _ _ _ k' le gs' sm.left
    | panic ch => exact next _ _ _ _ _ _ _ k' le gs' sm.left
    | outgrown => exact next _ _ _ _ _ _ _ k' le gs' sm.left
  | .cond c x y, i, s, h, β, w, a, K, Q, gs, k, next => by
    simp only [genK] at k
    split at k
    · rename_i b hb
      obtain ⟨B, G, hJ, hG, ha, hnc, sat⟩ := gs
      have hc : a.eval c = .bool b := (getE_ok sat (hg.mono sat.ok.hle) (show gv s.gl [] = true from rfl) hb).1.1
      refine wpIn_cond_split hc (fun ht => genK_ok ok hg hr hy hfl x ⟨B, G, hJ, hG, ha, hnc, sat⟩ ((br_iff.1 k).1 ht) fun e g s' h' β' w' a' k' le gs' sm => next _ _ _ _ _ _ _ k' le gs' sm.left)
        (fun hf => genK_ok ok hg hr hy hfl y ⟨B, G, hJ, hG, ha, hnc, sat⟩ ((br_iff.1 k).2 hf) fun e g s' h' β' w' a' k' le gs' sm => next _ _ _ _ _ _ _ k' le gs' sm.right)
    · exact k.elim
  | .block id c, i, s, h, β, w, a, K, Q, gs, k, next => by
    refine wpIn_block (genK_ok ok hg hr hy hfl c gs k fun e g s' h' β' w' a' k' le gs' sm => ?_)
    cases e with
    | normal => exact next _ _ _ _ _ _ _ k' le gs' sm
    | exit j =>
      simp only at k'
      simp only [Exit.inBlock]
      split at k'
      · rename_i hi
        have : j = id := Nat.eq_of_beq_eq_true hi
        rw [if_pos this]
        exact next _ _ _ _ _ _ _ k' le gs' sm
      · rename_i hi
        have : ¬ j = id := fun hh => by rw [hh] at hi; simp at hi
        rw [if_neg this]
        exact next _ _ _ _ _ _ _ k' le gs' sm
    | goto l => exact next _ _ _ _ _ _ _ k' le gs' sm
    | ret => exact next _ _ _ _ _ _ _ k' le gs' sm
    | panic ch => exact next _ _ _ _ _ _ _ k' le gs' sm
    | outgrown => exact next _ _ _ _ _ _ _ k' le gs' sm
  | .loop c, i, s, h, β, w, a, K, Q, gs, k, next => by
    simp only [genK] at k
    split at k
    · rename_i la gh _
      obtain ⟨⟨x, i1, i2, i3, i4⟩, k2⟩ := k
      have good : ∀ x, la.inv x → goodT (lenL s.T) (updT (la.res x) s.T) = true ∧ goodS (lenL s.T) (catL la.drop (writes c)) (la.slots x) = true ∧
          genK E l ss L c (gh x) (headSt (catL la.drop (writes c)) s (la.slots x) (la.res x)) (fun e g s' => match e with
            | .normal => match g with
              | some j => match hasR s' (keepR (lenL s.T) (catL la.drop (writes c)) [] s.env) with
                | true => ∃ x', la.inv x' ∧ gh x' = j ∧ hasE s' (la.slots x') ∧ takeL (lenL s.T) s'.T = updT (la.res x') s.T ∧ la.meas x' < la.meas x
                | false => False
              | none => False
            | e => K e g s') := by
        intro x hx
        have := k2 x hx
        split at this
        · exact this.elim
        · rename_i hc
          rw [andB_eq, Bool.and_eq_true] at hc
          exact ⟨hc.1, hc.2, this⟩
      obtain ⟨B, G, hJ, hG, ha, hnc, sat⟩ := gs
      have D0 : ∀ h' a', h.le h' → Same (writes c) a a' → ∀ t e, lkE (keepE (catL la.drop (writes c)) [] s.env) t = some ([], e) → ∃ z, a'.tmps[t]? = some z ∧ CnE h' [] e z := by
        intro h' a' le sm t e ht
        obtain ⟨_, hw, hl, _, hf⟩ := keepE_get ht
        obtain ⟨z, q1, q2, _⟩ := sat.env t [] e hl
        exact ⟨z, by rw [sm t (by rw [memN_cat, Bool.or_eq_false_iff] at hw; exact hw.2)]; exact q1, (CnE.refFree [] hf (q2 rfl)).mono le (Ext.refl _)⟩
      refine wpIn_loop_ghost (fun m a' w' => ∃ x h' β', la.meas x = m ∧ la.inv x ∧ h.le h' ∧ GS E.n J h0 (some (gh x)) (headSt (catL la.drop (writes c)) s (la.slots x) (la.res x)) h' β' w' a' ∧ Same (writes c) a a') (la.meas x) ?_ ?_
      · obtain ⟨g1, g2, _⟩ := good x i1
        refine ⟨x, h, _, rfl, i1, FH.le.refl h, ⟨B, G, by rw [i2]; exact hJ, hG, ha, hnc, head_ok sat ?_ g1 g2 i3 (fun p hp => (keepR_mem p hp).2) (D0 h a (FH.le.refl h) (Same.refl _ _))⟩, Same.refl _ _⟩
        rw [← i4, takeL_eq, lenL_eq, List.take_length]
      · rintro m a' w' ⟨x, h', β', rfl, hx, le, gs', sm⟩
        obtain ⟨g1, g2, kk⟩ := good x hx
        refine genK_ok ok hg hr hy hfl c gs' kk fun e g s2 h2 β2 w2 a2 k2 le2 gs2 sm2 => ?_
        cases e with
        | normal =>
          simp only at k2
          cases g with
          | none => exact k2.elim
          | some j =>
            simp only at k2
            split at k2
            · rename_i hR
              obtain ⟨x', j1, jg, j2, j3, j4⟩ := k2
              obtain ⟨g1', g2', _⟩ := good x' j1
              obtain ⟨B2, G2, q1, q2, q3, q4, sat2⟩ := gs2
              refine ⟨la.meas x', j4, x', h2, _, rfl, j1, le.trans le2, ⟨B2, G2, by rw [jg]; exact q1, q2, q3, q4, head_ok sat2 j3 g1' g2' j2 (hasR_mem hR) (D0 h2 a2 (le.trans le2) (sm.trans sm2))⟩, sm.trans sm2⟩
            · exact k2.elim
        | exit j => exact next _ _ _ _ _ _ _ k2 (le.trans le2) gs2 (sm.trans sm2)
        | goto l => exact next _ _ _ _ _ _ _ k2 (le.trans le2) gs2 (sm.trans sm2)
        | ret => exact next _ _ _ _ _ _ _ k2 (le.trans le2) gs2 (sm.trans sm2)
        | panic ch => exact next _ _ _ _ _ _ _ k2 (le.trans le2) gs2 (sm.trans sm2)
        | outgrown => exact next _ _ _ _ _ _ _ k2 (le.trans le2) gs2 (sm.trans sm2)
    · exact k.elim
  | .rangeFunc _ _ _ _, i, s, h, β, w, a, K, Q, gs, k, next => k.elim
  | .scope _, i, s, h, β, w, a, K, Q, gs, k, next => k.elim
  | .label _, i, s, h, β, w, a, K, Q, gs, k, next => k.elim
  | .goto _, i, s, h, β, w, a, K, Q, gs, k, next => k.elim
  | .refuse _, i, s, h, β, w, a, K, Q, gs, k, next => k.elim
end
@[reducible] def capE : (ss : List Sh) → dens ss → List SV
  | [], _ => []
  | s :: l, d => .c (.fp s d.1) :: capE l d.2
theorem capD_cn {h : FH} : ∀ {ss : List Sh} {d : dens ss} {ys : List Value}, capD h ss d ys → All2 (CnV h []) (capE ss d) ys
  | [], _, [], _ => trivial
  | [], _, _ :: _, x => x.elim
  | _ :: _, _, [], x => x.elim
  | _ :: _, _, _ :: _, ⟨⟨b, cs, e, r, at_⟩, x⟩ => ⟨⟨⟨b, 0, cs, e, r, at_⟩, by subst e; exact oneC_ptr _⟩, capD_cn x⟩
@[reducible] def genEnd {ss : List Sh} (L : List (dens ss)) (e : Exit) (g : Option Nat) : Prop := match e with
  | .normal => match g with
    | none => True
    | some i => i = lenL L
  | .ret => match g with
    | none => True
    | some i => i = lenL L
  | _ => False
theorem gen_leave {P : Program} {fn : Func} (hrs : tl fn.results = []) {tmps : Array Value} {R : Ending → World → Prop} {J : World → Prop} {Gf : Nat → Prop} (ab : ∀ A A', J A → Gs Gf A A' → (∀ b, Gf b → b < A'.heap.size) → J A') (hR : ∀ w v, J w → R (.returned v) w) :
    ∀ (X : List Nat) {w : World}, X.Nodup → (∀ D ∈ X, Gf D ∧ w.heap[D]? = some (.deferred (some []))) → (∀ b, Gf b → b < w.heap.size) → J w →
    LeavesInM Fence.wide 0 P fn tmps R (X.map (fun D => ({ target := .collected D, args := #[] } : Deferred))) .returning w
  | [], w, _, _, _, hJ => ⟨_, results_run (a := { tmps := tmps, defers := [] }) (ys := []) (by rw [hrs]; rfl), hR _ _ hJ⟩
  | D :: X, w, hn, hx, hlt, hJ => by
    obtain ⟨h1, h2⟩ := hx D (by simp)
    have hn := List.nodup_cons.1 hn
    refine ⟨fun hh => (by cases hh), .inl ⟨D, w.putObj D (.deferred none), rfl, run_takeDeferred h2, ?_⟩⟩
    have hlt' : ∀ b, Gf b → b < (w.putObj D (.deferred none)).heap.size := fun b hb => by simpa using hlt b hb
    refine gen_leave hrs ab hR X hn.2 (fun D' hD' => ?_) hlt' (ab _ _ hJ ⟨rfl, rfl, rfl, by simp, Nat.le_refl _, fun k _ hk => World.putObj_heap_other (by rintro rfl; exact hk h1)⟩ hlt')
    obtain ⟨g1, g2⟩ := hx D' (by simp [hD'])
    refine ⟨g1, (World.putObj_heap_other ?_).trans g2⟩
    rintro rfl
    exact hn.1 hD'
theorem gives_of {P : Program} {E : Env} (ok : EnvOK P E) (hr : E.rd = false) {g : FuncId} {fn : Func} {body : Code} (hf : P.funcs[g]? = some fn) (hb : fn.body = some body) (hname : (fn.name == "runtime.NumGoroutine") = false) (hn : fn.ntmps = E.n) (hrs : tl fn.results = [])
    {ss : List Sh} {L : List (dens ss)} (hfl : allL shFlat ss = true) {cs : List Sh} {ds : dens cs} (hle : Nat.ble (lenL cs + 1) E.n = true)
    (k : ∃ ann, ∀ l, genK { E with ann := ann } l ss L body 0 { env := argE 0 (.c (.abs (.yld l)) :: capE cs ds), T := [], gl := [], gs := [] } fun e g _ => genEnd L e g)
    {h : FH} (hg : GlobOK E.cx.gd h) {lb : List Value} (cap : capD h cs ds lb) : Gives P h ss L (.func (.func g) #[] lb.toArray) := by
  obtain ⟨ann, k⟩ := k
  refine ⟨g, lb.toArray, rfl, ⟨fn, hf, by rw [hb]; rfl, hname⟩, fun l J W h1 h2 h3 h4 => ?_⟩
  have okE : EnvOK P { E with ann := ann } := ⟨ok.prog, ok.hc, ok.mkf, ok.mixed, ok.ti, ok.ct, ok.ip, ok.sq, ok.sf⟩
  have hy : Yl P h l ss L J := ⟨h1, h2, h3⟩
  have hcl : lb.length = cs.length := by
    have : ∀ {cs : List Sh} {ds : dens cs} {lb : List Value}, capD h cs ds lb → lb.length = cs.length := by
      intro cs
      induction cs with
      | nil => intro ds lb x; cases lb with | nil => rfl | cons _ _ => exact x.elim
      | cons p l ih => intro ds lb x; cases lb with | nil => exact x.elim | cons v m => simp [ih x.2]
    exact this cap
  have hln : lb.length + 1 ≤ E.n := by have := Nat.le_of_ble_eq_true hle; rw [lenL_eq] at this; omega
  have eargs : (#[.func (.yield l) #[] #[]] ++ lb.toArray : Array Value) = (.func (.yield l) #[] #[] :: lb).toArray := by simp
  rw [eargs]
  refine callsIn_of_wp_marks (F := Fence.wide) (n := 0) hf hb trivial ?_
  have hav : All2 (CnV h []) (.c (.abs (.yld l)) :: capE cs ds) (.func (.yield l) #[] #[] :: lb) := ⟨⟨rfl, rfl, rfl⟩, capD_cn cap⟩
  have look : ∀ {xs : List SV} {ys : List Value} {n t : Nat} {G : Gd} {e : Ent}, All2 (CnV h []) xs ys → lkE (argE n xs) t = some (G, e) → ∃ y, G = [] ∧ n ≤ t ∧ ys[t - n]? = some y ∧ CnE h [] e y := by
    intro xs
    induction xs with
    | nil => intro ys n t G e _ hh; simp [argE, lkE] at hh
    | cons x xs ih =>
      intro ys n t G e a hh
      cases ys with
      | nil => exact a.elim
      | cons y ys =>
        simp only [argE] at hh
        rw [lkE_cons] at hh
        split at hh
        · rename_i hk; subst hk; cases hh; exact ⟨y, rfl, Nat.le_refl _, by simp, a.1⟩
        · obtain ⟨u, h1, h2, h3, h4⟩ := ih a.2 hh
          refine ⟨u, h1, by omega, ?_, h4⟩
          rw [show t - n = (t - (n + 1)) + 1 by omega]
          simpa using h3
  have sat : Sat E.n (Base.of W) h { env := argE 0 (.c (.abs (.yld l)) :: capE cs ds), T := [], gl := [], gs := [] } h [] W { tmps := (.func (.yield l) #[] #[] :: lb).toArray ++ Array.replicate (fn.ntmps - (.func (.yield l) #[] #[] :: lb : List Value).toArray.size) undef, defers := [] } := by
    refine ⟨⟨Bw.refl (Base.of W), Nat.le_refl _, rfl, fun i r v e _ => by simp [eff] at e, fun i r v b e _ _ _ => by simp [eff] at e, fun i j r r' u v b e _ _ _ _ _ _ _ => by simp [eff] at e, FH.le.refl h, h1 _ _ _ h4, fun b o v hh => .inl hh, fun k o hh => hh.elim⟩, ?_, ?_, Dfr.nil rfl, ?_, ?_, ?_⟩
    · intro t G e ht
      obtain ⟨y, rfl, h2, h3, h4⟩ := look hav ht
      simp only [Nat.sub_zero] at h3
      refine ⟨y, ?_, fun _ => h4, fun hh => by cases hh⟩
      rw [Array.getElem?_append_left (by have := (List.getElem?_eq_some_iff.1 h3).1; simpa using this)]
      simpa using h3
    · intro d i hi; cases hi
    · simp only [Array.size_append, List.size_toArray, Array.size_replicate, List.length_cons]; omega
    · intro t G e ht
      obtain ⟨y, rfl, _⟩ := look hav ht
      rfl
    · intro p hp; cases hp
  have gs0 : GS E.n J h (some 0) { env := argE 0 (.c (.abs (.yld l)) :: capE cs ds), T := [], gl := [], gs := [] } h [] W { tmps := (.func (.yield l) #[] #[] :: lb).toArray ++ Array.replicate (fn.ntmps - (.func (.yield l) #[] #[] :: lb : List Value).toArray.size) undef, defers := [] } :=
    ⟨Base.of W, fun _ => False, h4, fun b hb => hb.elim, fun k => by simp, fun k o hh => hh.elim, sat⟩
  refine genK_ok okE hg hr hy hfl body gs0 (k l) fun e g' s' h' β' w' a' ke le gs' sm => ?_
  obtain ⟨B, G, hJ, hG, ha, hnc, sat'⟩ := gs'
  obtain ⟨X, x1, x2, x3⟩ := sat'.defers
  have hJn := GS.now h2 hJ ha sat'
  have fin : genEnd L .ret g' → LeavesInM Fence.wide 0 P fn a'.tmps (fun e W' => (∃ v, e = .returned v) ∧ ∃ G, J (some L.length) G W' ∨ J none G W') a'.defers .returning w' := by
    intro hh
    rw [x1]
    refine gen_leave hrs (J := fun w => J g' (gNow B w') w) (Gf := gNow B w') (fun A A' hA hgs hlt => h2 _ _ _ _ _ hA hgs fun b hb => ⟨hlt b hb, .inl hb⟩) (fun w v hA => ⟨⟨v, rfl⟩, gNow B w', ?_⟩) X x2 (fun D hD => ⟨⟨(x3 D hD).1, (Array.getElem?_eq_some_iff.1 (sat'.ok.kn D _ (x3 D hD).2)).1⟩, sat'.ok.kn D _ (x3 D hD).2⟩) (fun b hb => hb.2) hJn
    cases g' with
    | none => exact .inr hA
    | some i =>
      have hh : i = lenL L := hh
      rw [lenL_eq] at hh; subst hh; exact .inl hA
  cases e with
  | normal => exact fin ke
  | ret => exact fin ke
  | exit i => exact ke.elim
  | goto l => exact ke.elim
  | panic ch => exact ke.elim
  | outgrown => exact ke.elim
theorem capE_len : ∀ {cs : List Sh} {ds : dens cs}, lenL (capE cs ds) = lenL cs
  | [], _ => rfl
  | _ :: l, d => by simp only [capE, lenL]; rw [capE_len]
theorem DVs.cn {h : FH} : ∀ {ss : List Sh} {d : dens ss} {ys : List Value}, DVs h ss d ys → All2 (CnV h []) (ofDats ss d) ys
  | [], _, [], _ => trivial
  | [], _, _ :: _, x => x.elim
  | _ :: _, _, [], x => x.elim
  | s :: l, d, y :: ys, ⟨⟨cs, e, r⟩, b⟩ => ⟨by rw [e]; exact ofDat_ok s r, DVs.cn b⟩
theorem mk_clo {P : Program} {cx : Cx} {n : Nat} {cl : List (Nat × CT)} {rc : List RC} (mx : P.follows .mixedOrders = true) (ti : TisOK P cx.ti) (cm : AllMet P cx.gd cl) {g : FuncId} {fn : Func} (hf : P.funcs[g]? = some fn) (hb : fn.body = some (bodyOf fn)) (hn : fn.ntmps = n)
    {cs ss : List Sh} {r : Sh} (hfl : shFlat r = true) (hle : Nat.ble (lenL ss + lenL cs) n = true) (hs : fn.body.isSome = true) (hname : (fn.name == "runtime.NumGoroutine") = false)
    {cpre : dens cs → Prop} {pre : dens cs → dens ss → Prop} {f : dens cs → dens ss → r.den}
    (k : ∀ ds d, cpre ds → pre ds d → ∃ ann, funcK (envF P cx n cl [] [] rc ann) (bodyOf fn) (tl fn.results) (catL (ofDats ss d) (capE cs ds)) fun T e => [] = T ∧ .one (ofDat r (f ds d)) = e) :
    MkOK P cx.gd g { ss := cs, f := fun ds => .clo P ss r (pre ds) (f ds), pre := cpre } := by
  intro ds h lb hp hg cap
  refine ⟨g, lb.toArray, rfl, ⟨fn, hf, hs, hname⟩, fun d vs h' w le hw hd hpd => ?_⟩
  have C : CTS P cx.gd g (capE cs ds) { ps := ss, pre := pre ds, res := fun d => ([], .one (ofDat r (f ds d))) } :=
    fn_oks (E := envF P cx n cl [] [] rc fun _ => none) (envF_ok mx ti cm trivial trivial) hf hb hn (by rw [capE_len]; exact hle) (fun d hd => k ds d hp hd)
  have := C d vs lb h' w hw (hg.mono le) hd.cn (capD_cn (cap.mono le)) hpd
  rw [show vs.toArray ++ lb.toArray = (vs ++ lb).toArray by simp]
  refine this.mono ?_
  rintro en w' ⟨h'', β, y, rfl, ok, c⟩
  obtain ⟨cs', e, rd⟩ := ofDat_inv r (show CnV h'' β (ofDat r (f ds d)) y from c)
  exact ⟨y, rfl, ⟨cs', e, rd.flat r hfl⟩, Bw.bel ok.below, ok.dr⟩
end Go.Eng
set_option linter.unusedSimpArgs false
set_option linter.unusedVariables false
namespace Go.Eng
open Go
theorem InR_i64 {n : Int} : InR .i64 n ↔ -9223372036854775808 ≤ n ∧ n ≤ 9223372036854775807 := by
  unfold InR
  simp only [IntKind.wrap, IntKind.bits, IntKind.signed]
  constructor <;> intro h <;> simp at * <;> omega
theorem InA_iff {n b : Nat} : InA n b ↔ n * b ≤ 140737488355328 := Iff.rfl
end Go.Eng
set_option linter.unusedSimpArgs false
set_option linter.unusedVariables false
namespace Go.Eng
open Go Go.RowKit
theorem RdL_int {h : FH} {k : IntKind} : ∀ {l : List Int} {cs : List Value}, RdL (Rd h (.int k)) cs l ↔ cs = l.map (Value.int k)
  | [], cs => by simp [RdL]
  | x :: l, cs => by
    simp only [RdL, Rd, List.map_cons]
    constructor
    · rintro ⟨c, r, rfl, rfl, hr⟩; rw [(RdL_int (h := h)).1 hr]; rfl
    · rintro rfl; exact ⟨[.int k x], l.map (Value.int k), rfl, rfl, (RdL_int (h := h)).2 rfl⟩
def sortI (l : List Int) : List Int := l.mergeSort fun x y => decide (x ≤ y)
@[reducible] def ipSort : IP := { sh := .int .i64, ps := [], pre := fun l _ => l.length < 4611686018427387904, res := fun l _ => sortI l, back := false }
@[reducible] def ipCompact : IP := { sh := .int .i64, ps := [], pre := fun l _ => l.length < 4611686018427387904, res := fun l _ => Lib.compact l, back := true }
theorem compact_len (l : List Int) : (Lib.compact l).length ≤ l.length := by
  unfold Lib.compact Lib.compactUpTo
  rw [List.length_map]
  refine Nat.le_trans (List.length_filter_le _ _) (by simp)
theorem gb_sorted {w : World} {g n : Nat} {os : Array Obj} (d : Array Int) : Gb w (Sort.grow (Sort.putRow (Value.int .i64) (Sort.ahead w n) g 0 d) os) (some g) :=
  ⟨grownBy_sortedI d, by simp [Sort.grow, Sort.putRow, Sort.mapBlock, Sort.ahead]⟩
theorem row_int {h : FH} {w : World} {t : TypeId} {l : List Int} {g cap : Nat} {cur : Array Value} (hb : w.heap[g]? = some (.cells cur t (0, 0))) (hc : l.length ≤ cap) (hcap : 1 ≤ cap ∧ cap ≤ maxLen) (hsz : cur.size = cap * 1) {ts : List Int} (hts : ts.length = l.length) {k : Nat} (hk : k ≤ ts.length) {n : Nat} {os : Array Obj} :
    Holds h [] (Sort.grow (Sort.putRow (Value.int .i64) (Sort.ahead w n) g 0 ts.toArray) os) (.row t (.int .i64) (ts.take k)) (.row (.slice (some ⟨g, 0, none⟩) (ts.take k).length cap)) := by
  refine .inr (.inr ⟨g, cap, _, rfl, heap_sortedI _ hb, by rw [List.length_take]; omega, hcap, by simp [Sort.putCells, hsz, Sh.size], RdL_int.2 ?_⟩)
  have e := take_putCellsI cur ts (by omega)
  rw [Nat.mul_one, List.length_take, show min k ts.length = k by omega]
  have : (Sort.putCells (Value.int .i64) 0 ts.toArray cur).toList.take k = ((Sort.putCells (Value.int .i64) 0 ts.toArray cur).toList.take ts.length).take k := by rw [List.take_take, show min k ts.length = k by omega]
  rw [this, e, List.map_take]
theorem ipok_sort {P : Program} {gd : Nat → Option (Sigma Sh.den)} {f : FuncId} {cz : CT} (hz : CTOK P gd f cz) (ez : cz = { ps := [.sl (.int .i64)], pre := fun d => d.1 = [], res := fun d => ([], .tup []) })
    (hs : ∀ (blk cap : Nat) (zs : List Int) (w : World), Sort.Holds (Value.int .i64) w blk 0 zs.toArray → blk < w.heap.size → zs.length < 4611686018427387904 →
      Calls P f #[.slice (some ⟨blk, 0, none⟩) zs.length cap] w fun e w' => e = .returned (.tuple #[]) ∧ ∃ n os, w' = Sort.grow (Sort.putRow (Value.int .i64) (Sort.ahead w n) blk 0 (sortI zs).toArray) os) :
    IPOK P gd f ipSort := by
  intro t l d v vs h w hw hg hold hfr hvs hpre
  subst ez
  cases vs with
  | cons _ _ => exact hvs.elim
  | nil =>
    have zero : ∀ v : Value, SlAt h (Rd h (.int .i64)) v [] → (Holds h [] w (.row t (.int .i64) []) (.row v)) → Calls P f #[v] w (fun en w' => ∃ v' y, en = .returned y ∧ Gb w w' (rowBlk v) ∧ (∀ b, rowBlk v' = some b → rowBlk v = some b ∨ (w.heap.size ≤ b ∧ b < w'.heap.size)) ∧
        Holds h [] w' (.row t (.int .i64) (sortI [])) (.row v') ∧ (ipSort.back = true → y = v') ∧ (ipSort.back = false → y = .tuple #[] ∧ v' = v)) := by
      intro v hv hold
      refine (hz ([], ()) [v] h w hw hg ⟨⟨hv, hv.oneC⟩, trivial⟩ rfl).mono ?_
      rintro en w' ⟨h', β', y, rfl, ok, he⟩
      obtain ⟨ys, rfl, ha⟩ := he
      cases ys with
      | cons _ _ => exact ha.elim
      | nil =>
        refine ⟨v, _, rfl, ?_, fun b hb => .inl hb, ?_, fun hh => (by cases hh), fun _ => ⟨rfl, rfl⟩⟩
        · exact ⟨⟨ok.below.os, ok.below.tape, ok.below.output, ok.below.size, fun k hk _ => (Bw.bel ok.below).block k hk⟩, ok.dr⟩
        · rw [show sortI [] = [] by simp [sortI]]
          rcases hold with e | e | ⟨g, cap, cur, rfl, e1, e2, e3, e4, r⟩
          · exact .inl e
          · exact .inr (.inl e)
          · refine .inr (.inr ⟨g, cap, cur, rfl, ?_, e2, e3, e4, r⟩)
            rw [(Bw.bel ok.below).block g (Array.getElem?_eq_some_iff.1 e1).1]; exact e1
    rcases hold with ⟨rfl, rfl⟩ | ⟨ra, rfl, rfl⟩ | ⟨g, cap, cur, rfl, e1, e2, e3, e4, r⟩
    · exact zero _ (.inl ⟨rfl, rfl⟩) (.inl ⟨rfl, rfl⟩)
    · exact zero _ (.inr (.inl ⟨ra, 0, rfl, rfl, Nat.zero_le _⟩)) (.inr (.inl ⟨ra, rfl, rfl⟩))
    · have hr := RdL_int.1 r
      rw [Nat.mul_one] at hr
      have hgs : g < w.heap.size := (Array.getElem?_eq_some_iff.1 e1).1
      refine (hs g cap l w (holds_of_blockI e1 hr) hgs hpre).mono ?_
      rintro en w' ⟨rfl, n, os, rfl⟩
      have hl : (sortI l).length = l.length := by simp [sortI]
      refine ⟨.slice (some ⟨g, 0, none⟩) l.length cap, _, rfl, by rw [rowBlk_own e3.1]; exact gb_sorted _, fun b hb => .inl hb, ?_, fun hh => (by cases hh), fun _ => ⟨rfl, rfl⟩⟩
      have := row_int (h := h) (n := n) (os := os) e1 e2 e3 e4 hl (Nat.le_refl _)
      rw [List.take_length, hl] at this
      exact this
theorem ipok_compact {P : Program} {gd : Nat → Option (Sigma Sh.den)} {f : FuncId}
    (hz : ∀ (a : Option Addr) (cap : Nat) w, Calls P f #[.slice a 0 cap] w fun e w' => e = .returned (.slice a 0 cap) ∧ w' = w)
    (hs : ∀ (blk cap : Nat) (zs : List Int) (w : World), Sort.Holds (Value.int .i64) w blk 0 zs.toArray → zs.length ≤ 9223372036854775807 → zs.length ≤ cap →
      Calls P f #[.slice (some ⟨blk, 0, none⟩) zs.length cap] w fun e w' => e = .returned (.slice (some ⟨blk, 0, none⟩) (Lib.compact zs).length cap) ∧
        ∃ q, w' = Sort.putRow (Value.int .i64) (Sort.ahead w q) blk 0 (Lib.compact zs ++ List.replicate (zs.length - (Lib.compact zs).length) 0).toArray) :
    IPOK P gd f ipCompact := by
  intro t l d v vs h w hw hg hold hfr hvs hpre
  cases vs with
  | cons _ _ => exact hvs.elim
  | nil =>
    rcases hold with ⟨rfl, rfl⟩ | ⟨ra, rfl, rfl⟩ | ⟨g, cap, cur, rfl, e1, e2, e3, e4, r⟩
    · refine (hz none 0 w).mono ?_
      rintro en w' ⟨rfl, rfl⟩
      exact ⟨.slice none 0 0, _, rfl, grown_refl _ _, fun b hb => .inl hb, .inl ⟨rfl, rfl⟩, fun _ => rfl, fun hh => (by cases hh)⟩
    · refine (hz (some ra) 0 w).mono ?_
      rintro en w' ⟨rfl, rfl⟩
      exact ⟨.slice (some ra) 0 0, _, rfl, grown_refl _ _, fun b hb => .inl hb, .inr (.inl ⟨ra, rfl, rfl⟩), fun _ => rfl, fun hh => (by cases hh)⟩
    · have hr := RdL_int.1 r
      rw [Nat.mul_one] at hr
      have hpre : l.length < 4611686018427387904 := hpre
      refine (hs g cap l w (holds_of_blockI e1 hr) (by omega) e2).mono ?_
      rintro en w' ⟨rfl, q, rfl⟩
      have hc := compact_len l
      have hl : (Lib.compact l ++ List.replicate (l.length - (Lib.compact l).length) 0).length = l.length := by simp; omega
      have := row_int (h := h) (n := q) (os := #[]) e1 e2 e3 e4 hl (k := (Lib.compact l).length) (by omega)
      rw [List.take_left, Sort.grow_empty] at this
      refine ⟨.slice (some ⟨g, 0, none⟩) (Lib.compact l).length cap, _, rfl, ?_, fun b hb => .inl (by rw [rowBlk_own e3.1] at hb ⊢; exact hb), this, fun _ => rfl, fun hh => by cases hh⟩
      have := gb_sorted (w := w) (g := g) (n := q) (os := #[]) (Lib.compact l ++ List.replicate (l.length - (Lib.compact l).length) 0).toArray
      rw [rowBlk_own e3.1]
      rwa [Sort.grow_empty] at this
end Go.Eng
set_option linter.unusedSimpArgs false
set_option linter.unusedVariables false
namespace Go.Eng
open Go Go.RowKit
def mapO {α β : Type} (f : α → Option β) : List α → Option (List β)
  | [] => some []
  | x :: l => match f x with
    | some y => match mapO f l with
      | some m => some (y :: m)
      | none => none
    | none => none
def rdat {H : Type} : (s : Sh) → DataW H → Option s.den
  | .int k, d => match d with
    | .lit (.int k' n) => if k = k' then some n else none
    | _ => none
  | .bool, d => match d with
    | .lit (.bool b) => some b
    | _ => none
  | .str, d => match d with
    | .lit (.string l) => some ⟨l.toArray⟩
    | _ => none
  | .any, _ => none
  | .sl s, d => match d with
    | .nil => some []
    | .slice es _ => mapO (rdat s) es
    | _ => none
  | .pair a b, d => match d with
    | .agg (p :: ps) => match rdat a p with
      | some x => match rdat b (.agg ps) with
        | some y => some (x, y)
        | none => none
      | none => none
    | _ => none
  | .unit, d => match d with
    | .agg [] => some ()
    | _ => none
  | .arr n s, d => match d with
    | .agg ps => if ps.length = n then mapO (rdat s) ps else none
    | _ => none
  | .mp _ _, _ => none
def wfD : (s : Sh) → s.den → Prop
  | .int k, n => (Lit.int k n).wf = true
  | .bool, _ => True
  | .str, b => b.size ≤ maxLen
  | .any, _ => True
  | .sl s, l => l.length ≤ maxLen ∧ ∀ x ∈ l, wfD s x
  | .pair a b, p => wfD a p.1 ∧ wfD b p.2
  | .unit, _ => True
  | .arr n s, l => l.length = n ∧ ∀ x ∈ l, wfD s x
  | .mp _ _, _ => True
def SOK (P : Program) : Sh → (TypeId → Bool) × (List Field → Nat → Bool)
  | .int k => (fun t => match P.underlying t with | some (.int k') => decide (k = k') | _ => false, fun _ _ => false)
  | .bool => (fun t => match P.underlying t with | some .bool => true | _ => false, fun _ _ => false)
  | .str => (fun t => match P.underlying t with | some .string => true | _ => false, fun _ _ => false)
  | .any => (fun _ => false, fun _ _ => false)
  | .mp _ _ => (fun _ => false, fun _ _ => false)
  | .sl s => (fun t => match P.underlying t with | some (.slice e) => (SOK P s).1 e && P.cellsOf e == s.size && decide (1 ≤ s.size) | _ => false, fun _ _ => false)
  | .arr n s => (fun t => match P.underlying t with | some (.array m e) => m == n && (SOK P s).1 e && P.cellsOf e == s.size && P.cellsOf t == n * s.size | _ => false, fun _ _ => false)
  | .pair a b => (fun t => match P.underlying t with
      | some (.struct fs) => P.cellsOf t == a.size + b.size && (match fs.toList with
        | f :: r => f.offset == 0 && P.cellsOf f.type == a.size && (SOK P a).1 f.type && (SOK P b).2 r a.size
        | [] => false)
      | _ => false,
    fun fs off => match fs with
      | f :: r => f.offset == off && P.cellsOf f.type == a.size && (SOK P a).1 f.type && (SOK P b).2 r (off + a.size)
      | [] => false)
  | .unit => (fun t => match P.underlying t with
      | some (.struct fs) => P.cellsOf t == 0 && fs.toList.isEmpty
      | _ => false,
    fun fs _ => fs.isEmpty)
section
variable {H : Type} {enc : TypeId × Value → H} {P : Program} {W : World} {sp : Nat → Bool} {held : Bool}
def OpT (enc : TypeId × Value → H) (P : Program) (W : World) (sp : Nat → Bool) (held : Bool) (s : Sh) (t : TypeId) : Prop :=
  ∀ (fuel : Nat) (cs : List Value) (x : DataW H × List MemPlace), DataW.trod enc P W 0 sp held fuel t cs = some x → ∃ y, rdat s x.1 = some y ∧ Rd (FH.all W) s cs y ∧ wfD s y
theorem elems_open {s : Sh} {e : TypeId} {n : Nat} {a : Addr} (hs : OpT enc P W sp held s e) : ∀ (elems : List (DataW H × List MemPlace)) (k : Nat),
    (∀ i, i < elems.length → (W.cells? 0 (a.add ((k + i) * s.size)) s.size).bind (DataW.trod enc P W 0 sp held n e) = elems[i]?) →
    ∃ CS L, mapO (rdat s) (elems.map (·.1)) = some L ∧ RdL (Rd (FH.all W) s) CS L ∧ L.length = elems.length ∧ (∀ j u, CS[j]? = some u → W.cell? (a.add (k * s.size + j)) = some u) ∧ ∀ x ∈ L, wfD s x
  | [], k, _ => ⟨[], [], rfl, rfl, rfl, fun j u e => by simp at e, fun x hx => by simp at hx⟩
  | x :: elems, k, he => by
    have h0 := he 0 (by simp)
    simp only [Nat.add_zero, List.getElem?_cons_zero, Option.bind_eq_some_iff] at h0
    obtain ⟨cs, hc, hx⟩ := h0
    obtain ⟨y, y1, y2, y3⟩ := hs _ _ _ hx
    obtain ⟨CS, L, l1, l2, l3, l4, l5⟩ := elems_open hs elems (k + 1) (fun i hi => by
      have := he (i + 1) (by simpa using hi)
      rw [show k + 1 + i = k + (i + 1) by omega]
      simpa using this)
    obtain ⟨_, c2, c3⟩ := World.cells?_some hc
    refine ⟨cs ++ CS, y :: L, ?_, ⟨cs, CS, rfl, y2, l2⟩, by simp [l3], ?_, ?_⟩
    · simp only [List.map_cons, mapO, y1, l1]
    · intro j u hu
      by_cases hj : j < cs.length
      · rw [List.getElem?_append_left hj] at hu
        have := c3 j (by omega)
        rw [hu] at this
        rw [← this, Addr.add_add]
      · rw [List.getElem?_append_right (by omega)] at hu
        have := l4 (j - cs.length) u hu
        rw [show k * s.size + j = (k + 1) * s.size + (j - cs.length) by rw [Nat.succ_mul]; omega]
        exact this
    · intro z hz
      rcases List.mem_cons.1 hz with rfl | hz
      · exact y3
      · exact l5 z hz
theorem arr_open {s : Sh} {e : TypeId} {m : Nat} (hs : OpT enc P W sp held s e) : ∀ (xs : List (DataW H × List MemPlace)) (cs : List Value), cs.length = xs.length * s.size →
    (∀ i, i < xs.length → DataW.trod enc P W 0 sp held m e ((cs.drop (i * s.size)).take s.size) = xs[i]?) →
    ∃ L, mapO (rdat s) (xs.map (·.1)) = some L ∧ RdL (Rd (FH.all W) s) cs L ∧ L.length = xs.length ∧ ∀ x ∈ L, wfD s x
  | [], cs, hl, _ => ⟨[], rfl, by simpa [RdL] using hl, rfl, fun x hx => by simp at hx⟩
  | x :: xs, cs, hl, he => by
    have h0 := he 0 (by simp)
    simp only [Nat.zero_mul, List.drop_zero, List.getElem?_cons_zero] at h0
    obtain ⟨y, y1, y2, y3⟩ := hs _ _ _ h0
    obtain ⟨L, l1, l2, l3, l4⟩ := arr_open hs xs (cs.drop s.size) (by rw [List.length_drop, hl, List.length_cons, Nat.succ_mul]; omega) (fun i hi => by
      have := he (i + 1) (by simpa using hi)
      rw [List.drop_drop, show s.size + i * s.size = (i + 1) * s.size by rw [Nat.succ_mul]; omega]
      simpa using this)
    refine ⟨y :: L, by simp only [List.map_cons, mapO, y1, l1], ⟨cs.take s.size, cs.drop s.size, (List.take_append_drop _ _).symm, y2, l2⟩, by simp [l3], ?_⟩
    intro z hz
    rcases List.mem_cons.1 hz with rfl | hz
    · exact y3
    · exact l4 z hz
def OpF (enc : TypeId × Value → H) (P : Program) (W : World) (sp : Nat → Bool) (held : Bool) (s : Sh) (fs : List Field) (off : Nat) : Prop :=
  ∀ (n : Nat) (cs : List Value) (xs : List (DataW H × List MemPlace)), cs.length = off + s.size → xs.length = fs.length →
    (∀ (i : Nat) (f : Field), fs[i]? = some f → DataW.trod enc P W 0 sp held n f.type ((cs.drop f.offset).take (P.cellsOf f.type)) = xs[i]?) →
    ∃ y, rdat s (.agg (xs.map (·.1))) = some y ∧ Rd (FH.all W) s (cs.drop off) y ∧ wfD s y
theorem pair_open {a b : Sh} {f : Field} {r : List Field} {off : Nat} (h1 : f.offset = off) (h2 : P.cellsOf f.type = a.size) (ha : OpT enc P W sp held a f.type) (hb : OpF enc P W sp held b r (off + a.size)) :
    OpF enc P W sp held (.pair a b) (f :: r) off := by
  intro n cs xs hl hx he
  cases xs with
  | nil => simp at hx
  | cons x xs =>
    have h0 := he 0 f rfl
    rw [h1, h2] at h0
    obtain ⟨y, y1, y2, y3⟩ := ha _ _ _ h0
    obtain ⟨z, z1, z2, z3⟩ := hb n cs xs (by rw [hl]; simp only [Sh.size]; omega) (by simpa using hx) (fun i g hg => by simpa using he (i + 1) g (by simpa using hg))
    refine ⟨(y, z), ?_, ⟨(cs.drop off).take a.size, cs.drop (off + a.size), ?_, y2, z2⟩, y3, z3⟩
    · simp only [List.map_cons, rdat, y1, z1]
    · rw [← List.drop_drop]; exact (List.take_append_drop _ _).symm
theorem sok_open : ∀ (s : Sh), (∀ t, (SOK P s).1 t = true → OpT enc P W sp held s t) ∧ (∀ fs off, (SOK P s).2 fs off = true → OpF enc P W sp held s fs off)
  | .int k => by
    refine ⟨fun t ht fuel cs x h => ?_, fun fs off hf => by simp [SOK] at hf⟩
    simp only [SOK] at ht
    split at ht
    · rename_i k' hu
      simp only [decide_eq_true_eq] at ht
      subst ht
      obtain ⟨n, rfl, rfl, hw⟩ := DataW.trod_int hu h
      exact ⟨n, by simp [rdat], rfl, hw⟩
    · cases ht
  | .bool => by
    refine ⟨fun t ht fuel cs x h => ?_, fun fs off hf => by simp [SOK] at hf⟩
    simp only [SOK] at ht
    split at ht
    · rename_i hu
      obtain ⟨b, rfl, rfl⟩ := DataW.trod_bool hu h
      exact ⟨b, rfl, rfl, trivial⟩
    · cases ht
  | .str => by
    refine ⟨fun t ht fuel cs x h => ?_, fun fs off hf => by simp [SOK] at hf⟩
    simp only [SOK] at ht
    split at ht
    · rename_i hu
      obtain ⟨b, rfl, rfl, hb⟩ := DataW.trod_string hu h
      exact ⟨b, rfl, rfl, hb⟩
    · cases ht
  | .any => ⟨fun t ht => by simp [SOK] at ht, fun fs off hf => by simp [SOK] at hf⟩
  | .mp _ _ => ⟨fun t ht => by simp [SOK] at ht, fun fs off hf => by simp [SOK] at hf⟩
  | .sl s => by
    refine ⟨fun t ht fuel cs x h => ?_, fun fs off hf => by simp [SOK] at hf⟩
    simp only [SOK] at ht
    split at ht
    · rename_i e hu
      simp only [Bool.and_eq_true, beq_iff_eq, decide_eq_true_eq] at ht
      obtain ⟨⟨ht, hc⟩, h1⟩ := ht
      have ih := (sok_open s).1 e ht
      rcases DataW.trod_slice hu h with ⟨rfl, rfl⟩ | ⟨a, len, cap, elems, rest, n, _, rfl, rfl, _, hle, hcap, hlen, hel, _, _⟩
      · exact ⟨[], rfl, ⟨_, rfl, .inl ⟨rfl, rfl⟩⟩, Nat.zero_le _, fun x hx => by simp at hx⟩
      · rw [hc] at hel
        obtain ⟨CS, L, l1, l2, l3, l4, l5⟩ := elems_open (n := n) (a := a) ih elems 0 (fun i hi => by rw [Nat.zero_add]; exact hel i (by omega))
        refine ⟨L, l1, ⟨_, rfl, ?_⟩, by rw [l3]; omega, l5⟩
        by_cases h0 : len = 0
        · have : L = [] := List.eq_nil_of_length_eq_zero (by omega)
          subst this; subst h0
          exact .inr (.inl ⟨a, cap, rfl, rfl, hcap⟩)
        · have hsz := RdL.size (fun _ _ => Rd.size s) l2
          have hpos : 0 < CS.length := by rw [hsz, l3, hlen]; exact Nat.mul_pos (by omega) (by omega)
          have hcell := l4 0 _ (List.getElem?_eq_getElem hpos)
          have hspot : a.spot = none := by
            unfold World.cell? at hcell
            split at hcell
            · split at hcell
              · cases hcell
              · rename_i hn; simpa [Addr.add] using hn
            · cases hcell
          obtain ⟨ab, ao, asp⟩ := a
          simp only at hspot
          subst hspot
          refine .inr (.inr ⟨ab, ao, cap, by rw [l3, hlen], by omega, hcap, CS, l2, fun j u hu => ?_⟩)
          have := l4 j u hu
          refine cell_vis ?_ (RdL.all (fun _ _ => Rd.one s) l2 u (List.mem_of_getElem? hu)).2
          rw [← this]
          by_cases hj : j = 0 <;> simp [Addr.add, hj]
    · cases ht
  | .arr m s => by
    refine ⟨fun t ht fuel cs x h => ?_, fun fs off hf => by simp [SOK] at hf⟩
    simp only [SOK] at ht
    split at ht
    · rename_i m' e hu
      simp only [Bool.and_eq_true, beq_iff_eq] at ht
      obtain ⟨⟨⟨rfl, ht⟩, hc⟩, hct⟩ := ht
      have ih := (sok_open s).1 e ht
      obtain ⟨xs, n, _, rfl, hl, hx, he⟩ := DataW.trod_array hu h
      rw [hc] at he
      have hcl : cs.length = xs.length * s.size := by rw [hl, hct, hx]
      obtain ⟨L, l1, l2, l3, l4⟩ := arr_open (m := n) ih xs cs hcl (fun i hi => he i (by omega))
      exact ⟨L, by simp [rdat, hx, l1], ⟨by omega, l2⟩, ⟨by omega, l4⟩⟩
    · cases ht
  | .pair a b => by
    have iha := sok_open a
    have ihb := sok_open b
    constructor
    · intro t ht fuel cs x h
      simp only [SOK] at ht
      split at ht
      · rename_i fs hu
        simp only [Bool.and_eq_true, beq_iff_eq] at ht
        obtain ⟨hc, ht⟩ := ht
        split at ht
        · rename_i f r hfs
          simp only [Bool.and_eq_true, beq_iff_eq] at ht
          obtain ⟨⟨⟨t1, t2⟩, t3⟩, t4⟩ := ht
          obtain ⟨xs, n, _, rfl, hl, hx, he⟩ := DataW.trod_struct hu h
          have := pair_open (off := 0) t1 t2 (iha.1 _ t3) (ihb.2 r _ (by simpa using t4)) n cs xs (by rw [hl, hc]; simp) (by rw [hx, ← hfs]; simp) (fun i g hg => he i g (by rw [← hfs] at hg; simpa using hg))
          simpa using this
        · cases ht
      · cases ht
    · intro fs off hf
      simp only [SOK] at hf
      split at hf
      · rename_i f r
        simp only [Bool.and_eq_true, beq_iff_eq] at hf
        obtain ⟨⟨⟨t1, t2⟩, t3⟩, t4⟩ := hf
        exact pair_open t1 t2 (iha.1 _ t3) (ihb.2 _ _ t4)
      · cases hf
  | .unit => by
    constructor
    · intro t ht fuel cs x h
      simp only [SOK] at ht
      split at ht
      · rename_i fs hu
        simp only [Bool.and_eq_true, beq_iff_eq, List.isEmpty_iff] at ht
        obtain ⟨hc, ht⟩ := ht
        obtain ⟨xs, n, _, rfl, hl, hx, he⟩ := DataW.trod_struct hu h
        have hx0 : xs = [] := List.eq_nil_of_length_eq_zero (by rw [hx, ← Array.length_toList, ht]; rfl)
        subst hx0
        have : cs = [] := List.eq_nil_of_length_eq_zero (by omega)
        subst this
        exact ⟨(), rfl, rfl, trivial⟩
      · cases ht
    · intro fs off hf n cs xs hl hx he
      simp only [SOK, List.isEmpty_iff] at hf
      subst hf
      have : xs = [] := List.eq_nil_of_length_eq_zero (by simpa using hx)
      subst this
      refine ⟨(), rfl, ?_, trivial⟩
      show cs.drop off = []
      rw [List.drop_eq_nil_iff]; simp only [Sh.size] at hl; omega
end
end Go.Eng
set_option linter.unusedSimpArgs false
set_option linter.unusedVariables false
namespace Go.Eng
open Go Go.RowKit Go.ChangeShapes Go.WideShapes
section
variable {H : Type} {enc : TypeId × Value → H} {P : Program} {W : World} {sp : Nat → Bool} {held : Bool}
theorem cells_one {v : Value} (h : ∀ cs, v ≠ .agg cs) : v.cells = #[v] := by
  cases v <;> first | rfl | exact absurd rfl (h _)
theorem val_open {s : Sh} {t : TypeId} {v : Value} {d : DataW H} {ps : List MemPlace} {r : Reach} {b0 : Nat} (hs : (SOK P s).1 t = true) (hval : Value.okWide P W r b0 t v) (h : DataW.Trod enc P W 0 sp held t v d ps) :
    ∃ y, rdat s d = some y ∧ CnV (FH.all W) [] (ofDat s y) v ∧ wfD s y := by
  obtain ⟨fuel, hf⟩ := h
  obtain ⟨y, y1, y2, y3⟩ := (sok_open s).1 t hs _ _ _ hf
  refine ⟨y, y1, ?_, y3⟩
  have e : v = mkV s v.cells.toList := by
    have one : s.isAgg = false → (∀ cs, v ≠ .agg cs) → v = mkV s v.cells.toList := by
      intro h1 h2
      rw [cells_one h2]
      simp [mkV, h1]
    cases s with
    | int k =>
      refine one rfl fun cs hc => ?_
      simp only [SOK] at hs
      split at hs
      · rename_i hu; subst hc; simp [Value.okWide, hu, Cell.okWide, Cell.ok] at hval
      · cases hs
    | bool =>
      refine one rfl fun cs hc => ?_
      simp only [SOK] at hs
      split at hs
      · rename_i hu; subst hc; simp [Value.okWide, hu, Cell.okWide, Cell.ok] at hval
      · cases hs
    | str =>
      refine one rfl fun cs hc => ?_
      simp only [SOK] at hs
      split at hs
      · rename_i hu; subst hc; simp [Value.okWide, hu, Cell.okWide, Cell.ok] at hval
      · cases hs
    | any => simp [SOK] at hs
    | mp _ _ => simp [SOK] at hs
    | sl s =>
      refine one rfl fun cs hc => ?_
      simp only [SOK] at hs
      split at hs
      · rename_i hu; subst hc; simp [Value.okWide, hu, Cell.okWide, Cell.ok] at hval
      · cases hs
    | pair a b =>
      simp only [SOK] at hs
      split at hs
      · rename_i hu
        simp only [Value.okWide, hu] at hval
        obtain ⟨cs, rfl, _⟩ := hval
        simp [mkV, Sh.isAgg, Value.cells]
      · cases hs
    | unit =>
      simp only [SOK] at hs
      split at hs
      · rename_i hu
        simp only [Value.okWide, hu] at hval
        obtain ⟨cs, rfl, _⟩ := hval
        simp [mkV, Sh.isAgg, Value.cells]
      · cases hs
    | arr n s =>
      simp only [SOK] at hs
      split at hs
      · rename_i hu
        simp only [Value.okWide, hu] at hval
        obtain ⟨cs, rfl, _⟩ := hval
        simp [mkV, Sh.isAgg, Value.cells]
      · cases hs
  rw [e]
  exact ofDat_ok s y2
def rdats : (ss : List Sh) → List (DataW H) → Option (dens ss)
  | [], ds => match ds with
    | [] => some ()
    | _ => none
  | s :: ss, ds => match ds with
    | d :: r => match rdat s d with
      | some x => match rdats ss r with
        | some y => some (x, y)
        | none => none
      | none => none
    | [] => none
def wfDs : (ss : List Sh) → dens ss → Prop
  | [], _ => True
  | s :: ss, d => wfD s d.1 ∧ wfDs ss d.2
def sokA (P : Program) : List Sh → List TypeId → Bool
  | [], [] => true
  | s :: ss, t :: ts => (SOK P s).1 t && sokA P ss ts
  | _, _ => false
theorem rdats_len : ∀ {ss : List Sh} {ds : List (DataW H)} {d : dens ss}, rdats ss ds = some d → ds.length = ss.length
  | [], [], _, _ => rfl
  | [], _ :: _, _, h => by simp [rdats] at h
  | _ :: _, [], _, h => by simp [rdats] at h
  | s :: ss, x :: ds, d, h => by
    simp only [rdats] at h
    split at h
    · split at h
      · rename_i hr; simp [rdats_len hr]
      · cases h
    · cases h
theorem args_open {r : Reach} {b0 : Nat} : ∀ {ss : List Sh} {ts : List TypeId} {vs : List Value} {ds : List (DataW H)} {ps : List MemPlace}, sokA P ss ts = true →
    (∀ (j : Nat) t v, ts[j]? = some t → vs[j]? = some v → Value.okWide P W r b0 t v) → DataW.TrodAll enc P W 0 sp held ts vs ds ps →
    ∃ d : dens ss, rdats ss ds = some d ∧ All2 (CnV (FH.all W) []) (ofDats ss d) vs ∧ wfDs ss d
  | [], [], vs, ds, ps, _, _, h => by
    obtain ⟨rfl, rfl, rfl⟩ := trodAll_nil h
    exact ⟨(), rfl, trivial, trivial⟩
  | s :: ss, t :: ts, vs, ds, ps, hs, hval, h => by
    obtain ⟨v, vs, d, ds, p, q, rfl, rfl, rfl, h1, h2⟩ := trodAll_cons h
    simp only [sokA, Bool.and_eq_true] at hs
    obtain ⟨y, y1, y2, y3⟩ := val_open hs.1 (hval 0 t v rfl rfl) h1
    obtain ⟨z, z1, z2, z3⟩ := args_open hs.2 (fun j t v e e' => hval (j + 1) t v (by simpa using e) (by simpa using e')) h2
    exact ⟨(y, z), by simp only [rdats, y1, z1], ⟨y2, z2⟩, y3, z3⟩
  | [], _ :: _, _, _, _, hs, _, _ => by simp [sokA] at hs
  | _ :: _, [], _, _, _, hs, _, _ => by simp [sokA] at hs
/-! Package variables. -/
theorem laid_get : ∀ {laid : List (String × DataW Unit)} {ps : List MemPlace} {n : String} {D : DataW Unit}, DataW.LaidVars P W laid ps → (n, D) ∈ laid →
    ∃ g t cs fuel p, P.globalNamed n = some g ∧ (P.globals[g]?).map (·.type) = some t ∧ W.var? P n = some cs ∧ DataW.trod (fun _ => ()) P W 0 (fun _ => true) false fuel t cs.toList = some (D, p)
  | [], _, _, _, _, hm => by simp at hm
  | (n', D') :: r, ps, n, D, h, hm => by
    obtain ⟨g, t, cs, fuel, p, q, h1, h2, h3, h4, h5, _⟩ := h
    rcases List.mem_cons.1 hm with e | hm
    · cases e; exact ⟨g, t, cs, fuel, p, h1, h2, h3, h4⟩
    · exact laid_get h5 hm
theorem glob_open {laid : List (String × DataW Unit)} (hL : laidMetH P laid W) (hnone : (laid.filter fun x => x.2.handleName?.isSome) = []) {n : String} {D : DataW Unit} (hm : (n, D) ∈ laid) {g : Nat} {t : TypeId} {s : Sh} {y : s.den}
    (hg : P.globalNamed n = some g) (ht : (P.globals[g]?).map (·.type) = some t) (hs : (SOK P s).1 t = true) (hd : rdat s D = some y) : ∃ cs, Rd (FH.all W) s cs y ∧ At (FH.all W) g 0 cs := by
  unfold laidMetH at hL
  rw [hnone] at hL
  obtain ⟨ps, hv, _⟩ := hL
  obtain ⟨g', t', cs, fuel, p, h1, h2, h3, h4⟩ := laid_get hv hm
  rw [hg] at h1; cases h1
  rw [ht] at h2; cases h2
  obtain ⟨y', y1, y2, _⟩ := (sok_open s).1 t hs _ _ _ h4
  simp only at y1
  rw [hd] at y1; cases y1
  refine ⟨_, y2, fun j u hu => ?_⟩
  unfold World.var? at h3
  rw [hg, Option.bind_some] at h3
  split at h3
  · rename_i cs' _ _ he
    cases h3
    show vis W g (0 + j) = some u
    refine vis_cells he ?_ (Rd.one s y2 u (List.mem_of_getElem? hu)).2
    simpa using hu
  · cases h3
def lay (cs : Array Value) : Obj → Obj
  | .cells _ t frozen => .cells cs t frozen
  | o => o
/-! Behind the call. -/
theorem below_cell {W' : World} (hB : Below W.heap.size W W') {b o : Nat} (hb : b < W.heap.size) : W'.frozen? ⟨b, o, none⟩ = W.frozen? ⟨b, o, none⟩ := by
  simp only [World.frozen?, hB.block b hb]
theorem below_same {W' : World} (hB : Below W.heap.size W W') {p : MemPlace} (hb : p.block < W.heap.size) : W.sameAt W' p := by
  cases p with
  | cell b o =>
    show W'.cell? ⟨b, o, none⟩ = W.cell? ⟨b, o, none⟩
    simp only [World.cell?]
    rw [hB.block b hb]
  | map b => exact hB.block b hb
theorem trodAll_carry {W' : World} {sp : Nat → Bool} : ∀ {ts : List TypeId} {vs : List Value} {ds : List (DataW H)} {ps : List MemPlace}, DataW.TrodAll enc P W 0 sp held ts vs ds ps → (∀ p ∈ ps, W.sameAt W' p) →
    DataW.TrodAll enc P W' 0 sp held ts vs ds ps
  | [], _, _, _, h, _ => by obtain ⟨rfl, rfl, rfl⟩ := trodAll_nil h; rfl
  | _ :: _, _, _, _, h, hs => by
    obtain ⟨v, vs, d, ds, p, q, rfl, rfl, rfl, ⟨fuel, h1⟩, h2⟩ := trodAll_cons h
    exact ⟨p, q, ⟨fuel, DataW.trod_carry _ _ _ _ h1 fun x hx => hs x (by simp [hx])⟩, trodAll_carry h2 fun x hx => hs x (by simp [hx]), rfl⟩
theorem post_true {fn : Func} {s : ChangeSpec} {apart fresh handsOn again : Bool} {W' : World} {args : Array Value} {ds gs : List (DataW H)} {before : List MemPlace} {t : TypeId}
    (hl : laidOutB P = true) (hm : mapsRowed P = true) (hz : ∀ t e, t < P.types.size → P.underlying t = some (.slice e) → 0 < P.cellsOf e) (hts : ∀ t ∈ fn.params.toList, t < P.types.size)
    (hres : fn.resultTypes = #[t]) (ht : P.underlying t = some .bool) (hvars : s.vars = []) (hfn : s.fn H (ds ++ gs) = { results := [.lit (.bool true)], args := ds })
    (hW : DataW.Whole enc P fn.params.toList s.vars apart W args.toList ds gs before) (hB : Below W.heap.size W W') :
    s.post enc P fn apart fresh handsOn again W args (.bool true) W' := by
  have hlt := hW.lt
  have hW' := hW
  obtain ⟨pa, pv, hA, hV, hps, hfz, hnd⟩ := hW
  rw [hvars] at hV
  obtain ⟨rfl, rfl⟩ : gs = [] ∧ pv = [] := by
    cases gs with
    | nil => exact ⟨rfl, hV⟩
    | cons _ _ => exact hV.elim
  rw [List.append_nil] at hps
  subst hps
  have same : ∀ p ∈ before, W.sameAt W' p := fun p hp => below_same hB (hlt p hp)
  have hargs : ∀ sp : Nat → Bool, (∀ p ∈ before, sp p.block = true) → DataW.TrodAll enc P W' 0 sp true fn.params.toList args.toList ds before := fun sp hsp =>
    trodAll_carry (DataW.TrodAll.respare (kids_rows hl hm) hz hts hA hsp) same
  have hresT : ∀ (b : Nat) (sp : Nat → Bool) (hd : Bool), DataW.TrodAll enc P W' b sp hd fn.resultTypes.toList ((Value.bool true).resultList fn.resultTypes.size) [.lit (.bool true)] [] := by
    intro b sp hd
    rw [hres]
    exact trodAll_cons_mk (shut_bool ht true) (ds := []) (p' := []) (show DataW.TrodAll enc P W' b sp hd [] [] [] [] from rfl)
  have hv : ∀ sp : Nat → Bool, DataW.TrodVars enc P W' sp s.vars (s.fn H (ds ++ [])).vars [] := by
    intro sp; rw [hvars, hfn]; rfl
  have hold : ∀ p ∈ before, (fun b => decide (b < W.heap.size)) p.block = true := fun p hp => by simpa using hlt p hp
  refine ⟨ds, [], before, [], before, [], hW', by rw [hfn]; exact hresT _ _ _, by rw [hfn]; exact hargs _ hold, hv _, hB.frame _, fun _ => ?_⟩
  refine ⟨ok_one hres rfl (okWide_bool_mk ht true), [.lit (.bool true)] ++ ds, [], ([] ++ before) ++ [], ⟨[] ++ before, [], trodAll_append (hargs _ (fun _ _ => rfl)) (hresT _ _ _), by rw [hvars]; rfl, rfl, ?_, ?_⟩, ?_⟩
  · intro b off hp
    have hp : MemPlace.cell b off ∈ before := by simpa using hp
    rw [below_cell (b := b) (o := off) hB (hlt _ hp)]
    exact hfz b off hp
  · intro ha
    have := hnd ha
    simpa using this
  · intro p hp _
    simpa using hp
theorem call_true {gd : Nat → Option (Sigma Sh.den)} {f : Nat} {fn : Func} {ct : CT} (met : Met P gd f ct) {s : ChangeSpec} {apart fresh handsOn again : Bool} {args : Array Value} {ds gs : List (DataW H)} {before : List MemPlace} {t : TypeId} {r : Reach} {b0 : Nat}
    (hl : laidOutB P = true) (hm : mapsRowed P = true) (hz : ∀ t e, t < P.types.size → P.underlying t = some (.slice e) → 0 < P.cellsOf e) (hts : ∀ t ∈ fn.params.toList, t < P.types.size)
    (hres : fn.resultTypes = #[t]) (ht : P.underlying t = some .bool) (hvars : s.vars = [])
    (hsok : sokA P ct.ps fn.params.toList = true) (hct : ∀ d, ct.res d = ([], .one (.c (.v (.bool true)))))
    (hfn : ∀ d : dens ct.ps, rdats ct.ps ds = some d → wfDs ct.ps d → s.fn H ds = { results := [.lit (.bool true)], args := ds } ∧ ct.pre d)
    (hval : ∀ (j : Nat) t v, fn.params[j]? = some t → args[j]? = some v → Value.okWide P W r b0 t v)
    (hW : DataW.Whole enc P fn.params.toList s.vars apart W args.toList ds gs before) (hG : GlobOK gd (FH.all W)) :
    Calls P f args W fun e W' => ∃ v, e = .returned v ∧ s.post enc P fn apart fresh handsOn again W args v W' := by
  have hA := hW
  obtain ⟨pa, pv, hA, hV, _⟩ := hA
  rw [hvars] at hV
  obtain rfl : gs = [] := by
    cases gs with
    | nil => rfl
    | cons _ _ => exact hV.elim
  obtain ⟨d, d1, d2, d3⟩ := args_open hsok (fun j t v e e' => hval j t v (by simpa using e) (by simpa using e')) hA
  obtain ⟨h1, h2⟩ := hfn d d1 d3
  have := met.1 d args.toList (FH.all W) W (fun b o v e => e) hG d2 h2
  rw [show args.toList.toArray = args by simp] at this
  refine this.mono ?_
  rintro en W' ⟨h', β, y, rfl, ok, he⟩
  rw [hct] at ok he
  obtain ⟨⟨rfl, _⟩, _⟩ := he
  exact ⟨_, rfl, post_true hl hm hz hts hres ht hvars (by rw [List.append_nil]; exact h1) hW (Bw.bel ok.below)⟩
end
end Go.Eng
