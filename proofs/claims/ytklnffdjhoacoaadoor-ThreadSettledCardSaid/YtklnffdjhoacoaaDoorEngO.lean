/- The engine, part O: regions, code, loops. -/
import Derived.Test.YtklnffdjhoacoaaDoorEngBr
import Derived.Deep.LoopGhost
set_option linter.unusedSimpArgs false
set_option linter.unusedVariables false
namespace Go.Eng
open Go Go.RowKit

/-- A loop's relation: how the state at its head looks, given some data. -/
structure LA where
  α : Type
  slots : α → List (Nat × SV)
  res : α → List (Nat × Res)
  inv : α → Prop
  meas : α → Nat
  ren : List (Nat × Nat) := []
  drop : List Nat := []
  nil : List (Nat × TypeId × Sh) := []
  frz : List Nat := []

/-- What holds between the rounds of a range over a function, after so many of them. -/
structure RA where
  α : Type
  res : α → List (Nat × Res)
  inv : Nat → α → Prop
  drop : List Nat := []
  nil : List (Nat × TypeId × Sh) := []
  frz : List Nat := []

inductive Ann where
  | inv (a : LA)
  | gen (a : LA) (gh : a.α → Nat)
  | unroll (n : Nat)
  | rng (a : RA)

/-- The form of a result: as it is; typed data, frozen; a row of its own, where it may be nil. -/
inductive RC where
  | keep
  | data (s : Sh)
  | row (t : TypeId) (s : Sh)

/-- All that a run is looked at with. -/
structure Env where
  cx : Cx
  n : Nat
  ct : Nat → Option CT
  ann : Nat → Option (St → Ann)
  ip : Nat → Option IP := fun _ => none
  rc : List RC := []
  lits : List Nat := []
  P : Option Program := none
  rd : Bool := false
  hc : Nat → Nat → Option CT := fun _ _ => none
  mkf : Nat → Option MK := fun _ => none

@[reducible] def rowsA : List SV → List Nat
  | [] => []
  | v :: r => match v with
    | .c (.row i) => i :: rowsA r
    | .agg xs => rowsC xs (rowsA r)
    | _ => rowsA r
/-- Where a call is given rows and what it returns may refer to them, they are frozen ahead of it. -/
@[reducible] def frzL (E : Env) (s : St) (G : Gd) (f : Nat) (args : List Operand) : List Nat := match G with
  | _ :: _ => []
  | [] => match E.ct f with
    | none => []
    | some cc => match argsV E.cx s [] args with
      | none => []
      | some vs => match allL noRow vs with
        | true => []
        | false => match borA s [] vs with
          | none => []
          | some bs => match datA cc.ps bs with
            | none => []
            | some dd => match andB (entFlat (cc.res dd).2) (allL resFlat (cc.res dd).1) with
              | true => []
              | false => rowsA vs
@[reducible] def frzB (E : Env) (s : St) (G : Gd) (ps : List (Nat × Operand)) : List Nat := match G with
  | _ :: _ => []
  | [] => rowsOf E.cx s ps
/-- The rows in a value that is stored among data. -/
@[reducible] def frzSt (E : Env) (s : St) (p x : Operand) : List Nat := match getE E.cx s [] x with
  | some (.one v) => match rowsA [v] with
    | [] => []
    | i :: r => match getE E.cx s [] p with
      | some (.one (.c (.own q _))) => match nthL s.T q with
        | some ([], .obj _ _ _) => i :: r
        | _ => []
      | some (.one (.c (.rowp _ _ _ _))) => i :: r
      | _ => []
  | _ => []
@[reducible] def stepK (E : Env) (ops : List Oper) (o : Oper) (s : St) (K : St → Prop) : Prop := match dOK E.n o.dst with
  | false => False
  | true => guardK E.lits s ops o.guard fun G s => match o.op with
    | .alloc t => allocK E.cx s G o.dst t K
    | .box t x => boxK E.cx s G o.dst t x K
    | .buildSlice t n ps => buildSliceK E.cx (frzAll s (frzB E s G (tl ps))) G o.dst t n (tl ps) K
    | .makeSlice t l c => makeK E.cx s G o.dst t l c K
    | .store t p x => match G with
      | [] => storeK E.cx (frzAll s (frzSt E s p x)) o.dst t p x K
      | _ :: _ => False
    | .call c => match c.callee with
      | .value (.func f) => callK E.cx E.ct (frzAll s (frzL E s G f (tl c.args))) G o.dst f (tl c.args) K
      | .builtin .append => match G with
        | [] => match tl c.args with
          | [x, y] => match tl c.argTypes with
            | [t, t'] => match Nat.beq t t' with
              | true => appendK E.cx s o.dst t x y K
              | false => False
            | _ => False
          | _ => False
        | _ :: _ => False
      | _ => pureK E.cx s G o fun e => K (s.put o.dst G e)
    | _ => pureK E.cx s G o fun e => K (s.put o.dst G e)

structure EnvOK (P : Program) (E : Env) : Prop where
  prog : ∀ P', E.P = some P' → P' = P
  hc : ∀ f g c, E.hc f g = some c → CTX P E.cx.gd f [.func (.func g) #[] #[]] c ∧ FnIs P f
  mkf : ∀ g m, E.mkf g = some m → ∀ d h lb, m.pre d → GlobOK E.cx.gd h → capD h m.ss d lb → (m.f d).rel h (.func (.func g) #[] lb.toArray)
  mixed : P.follows .mixedOrders = true
  ti : TisOK P E.cx.ti
  ct : ∀ f c, E.ct f = some c → CTOK P E.cx.gd f c ∧ ∃ fn, P.funcs[f]? = some fn ∧ fn.body.isSome = true ∧ (fn.name == "runtime.NumGoroutine") = false
  ip : ∀ f c, E.ip f = some c → IPOK P E.cx.gd f c ∧ ∃ fn, P.funcs[f]? = some fn ∧ fn.body.isSome = true ∧ (fn.name == "runtime.NumGoroutine") = false

theorem OpOK.cast {P : Program} {N : Nat} {B : Base} {h0 h : FH} {w : World} {a : Act} {o : Oper} {b b' : Bool} {K : St → Prop} (e : b = b') (h' : OpOK P N B h0 h w a o b' K) : OpOK P N B h0 h w a o b K := by rw [e]; exact h'

theorem frzS_gl (s : St) (i : Nat) : (frzS s i).gl = s.gl := by
  unfold frzS
  split <;> rfl
theorem frzAll_gl : ∀ {l : List Nat} {s : St}, (frzAll s l).gl = s.gl
  | [], _ => rfl
  | i :: l, s => by
    show (frzAll (frzS s i) l).gl = s.gl
    rw [frzAll_gl, frzS_gl]
theorem OpOK.le {P : Program} {N : Nat} {B : Base} {h0 h h' : FH} {w : World} {a : Act} {o : Oper} {b : Bool} {K : St → Prop} (le : h.le h') (k : OpOK P N B h0 h' w a o b K) : OpOK P N B h0 h w a o b K :=
  fun Nx Q next => k Nx Q fun s' h2 β' w' v k' le' q sat => next s' h2 β' w' v k' (le.trans le') q sat
theorem stepK_ok {P : Program} {E : Env} (ok : EnvOK P E) {B : Base} {h0 : FH} {s : St} {h : FH} {β : List RV} {w : World} {a : Act} (sat : Sat E.n B h0 s h β w a) (hg : GlobOK E.cx.gd h) {ops : Array Oper} {o : Oper} {K : St → Prop}
    (k : stepK E (tl ops) o s K) : OpOK P E.n B h0 h w a o (Region.wanted o (yielded ops a.tmps)) K := by
  unfold stepK at k
  split at k
  · exact k.elim
  rename_i hd
  obtain ⟨G, s', k, sat', hw, hG⟩ := guardK_ok sat k
  refine OpOK.cast hw ?_
  split at k
  · rename_i t ho; exact alloc_step ok.ti sat' hG hd ho k
  · rename_i t x ho; exact box_step ok.ti sat' hg hG hd ho k
  · rename_i t n ps ho
    obtain ⟨h', le, sat2⟩ := sat'.frz (l := frzB E s' G (tl ps))
    have := buildSlice_step ok.ti sat2 (hg.mono le) (by rw [frzAll_gl]; exact hG) hd ho k
    rw [frzAll_gl] at this
    exact OpOK.le le this
  · rename_i t l c ho; exact make_step ok.ti sat' hg hG hd ho k
  · rename_i t p x ho
    split at k
    · obtain ⟨h', le, sat2⟩ := sat'.frz (l := frzSt E s' p x)
      have := store_step ok.ti sat2 (hg.mono le) hd ho k
      rw [frzAll_gl] at this
      exact OpOK.le le this
    · exact k.elim
  · rename_i c ho
    split at k
    · rename_i f hcal
      obtain ⟨h', le, sat2⟩ := sat'.frz (l := frzL E s' G f (tl c.args))
      refine OpOK.le le ?_
      rw [← frzAll_gl (l := frzL E s' G f (tl c.args)) (s := s')] at hG ⊢
      generalize frzAll s' (frzL E s' G f (tl c.args)) = s' at k sat2 hG ⊢
      unfold callK at k
      cases hct : E.ct f with
      | none => rw [hct] at k; exact k.elim
      | some cc => exact call_step (fun f c e => (ok.ct f c e).1) sat2 (hg.mono le) hG hd ho hcal (ok.ct f cc hct).2 k
    · rename_i hcal
      split at k
      · split at k
        · rename_i x y ha
          split at k
          · rename_i t t' ht
            split at k
            · rename_i htt
              have htt : t = t' := Nat.eq_of_beq_eq_true htt
              subst htt
              exact append_step ok.ti sat' hg hd ho hcal (tl_eq ha) (tl_eq ht) k
            · exact k.elim
          · exact k.elim
        · exact k.elim
      · exact k.elim
    · exact pure_step ok.ti sat' hg hG hd k
  · exact pure_step ok.ti sat' hg hG hd k

@[reducible] def opsK (E : Env) (ops : List Oper) : List Oper → St → (St → Prop) → Prop
  | [], s, K => K s
  | o :: r, s, K => stepK E ops o s fun s => opsK E ops r s K

@[reducible] def memN (k : Nat) : List Nat → Bool
  | [] => false
  | j :: l => match Nat.beq k j with
    | true => true
    | false => memN k l
theorem memN_cons {k j : Nat} {l : List Nat} : memN k (j :: l) = (Nat.beq k j || memN k l) := by
  simp only [memN]; cases Nat.beq k j <;> rfl
theorem memN_cat {k : Nat} {m : List Nat} : ∀ {l : List Nat}, memN k (catL l m) = (memN k l || memN k m)
  | [] => rfl
  | j :: l => by rw [show catL (j :: l) m = j :: catL l m from rfl, memN_cons, memN_cons, memN_cat, Bool.or_assoc]

@[reducible] def dsts : List Oper → List Nat
  | [] => []
  | o :: l => match o.dst with
    | some d => d :: dsts l
    | none => dsts l

/-- Slots that are not listed hold what they held. -/
def Same (ws : List Nat) (a a' : Act) : Prop := ∀ t, memN t ws = false → a'.tmps[t]? = a.tmps[t]?
theorem Same.refl (ws : List Nat) (a : Act) : Same ws a a := fun _ _ => rfl
theorem Same.trans {ws : List Nat} {a b c : Act} (x : Same ws a b) (y : Same ws b c) : Same ws a c := fun t h => (y t h).trans (x t h)
theorem Same.left {l m : List Nat} {a b : Act} (x : Same l a b) : Same (catL l m) a b := fun t h => x t (by rw [memN_cat, Bool.or_eq_false_iff] at h; exact h.1)
theorem Same.right {l m : List Nat} {a b : Act} (x : Same m a b) : Same (catL l m) a b := fun t h => x t (by rw [memN_cat, Bool.or_eq_false_iff] at h; exact h.2)

theorem Same.put {o : Oper} {l : List Oper} {a : Act} {v : Value} {b : Act} (x : Same (dsts l) (a.put o.dst v) b) : Same (dsts (o :: l)) a b := by
  intro t h
  cases hd : o.dst with
  | none =>
    have e : dsts (o :: l) = dsts l := by simp only [dsts, hd]
    rw [e] at h
    rw [x t h, hd]; rfl
  | some d =>
    have e : dsts (o :: l) = d :: dsts l := by simp only [dsts, hd]
    rw [e, memN_cons, Bool.or_eq_false_iff] at h
    rw [x t h.2, hd]
    have hne : d ≠ t := fun hh => Nat.ne_of_beq_eq_false h.1 hh.symm
    simp [Act.put, Array.getElem?_setIfInBounds_ne hne]

/-- A call that changes its first argument's row. -/
@[reducible] def ipOf (E : Env) (s : St) (o : Oper) : Option IP := match o.guard with
  | some _ => none
  | none => match o.op with
    | .call c => match c.callee with
      | .value (.func f) => match E.ip f with
        | none => none
        | some ip => match tl c.args with
          | [] => none
          | x :: _ => match getE E.cx s [] x with
            | some (.one (.c (.row _))) => some ip
            | _ => none
      | _ => none
    | _ => none
@[reducible] def argsOf : Op → List Operand
  | .call c => tl c.args
  | _ => []
/-- Calls with a function as the last argument; calls of a function that a variable is known to hold; function literals. -/
@[reducible] def lastF : List Operand → Option (List Operand × Nat)
  | [] => none
  | x :: l => match l with
    | [] => match x with
      | .func g => some ([], g)
      | _ => none
    | _ :: _ => match lastF l with
      | some (m, g) => some (x :: m, g)
      | none => none
@[reducible] def fnOf : Value → Option Nat
  | .func (.func f) a b => match tl a with
    | [] => match tl b with
      | [] => some f
      | _ :: _ => none
    | _ :: _ => none
  | _ => none
@[reducible] def resQ (sh : Sh) : Res → Option SV
  | .obj _ s d => match andB sh.isAgg s.isAgg with
    | true => some (.dat s d)
    | false => none
  | .blk _ xs => match sh.isAgg with
    | true => some (.agg xs)
    | false => match xs with
      | [x] => some (.c x)
      | _ => none
  | _ => none
@[reducible] def capS (s : St) : (ss : List Sh) → List Operand → Option (St × dens ss)
  | [], [] => some (s, ())
  | sh :: ss, x :: l => match x with
    | .tmp t => match lkE s.env t with
      | some ([], .one (.c (.own i 0))) => match nthL s.T i with
        | some ([], r) => match resQ sh r with
          | some v => match toDat sh v with
            | some d => match capS { s with T := setL s.T i ([], .gone) } ss l with
              | some (s', ds) => some (s', (d, ds))
              | none => none
            | none => none
          | none => none
        | _ => none
      | _ => none
    | _ => none
  | _, _ => none
inductive HO where
  | hc (c : CT) (xs : List Operand)
  | cc (f : Nat) (xs : List Operand)
  | mk (g : Nat) (cap : List Operand)
@[reducible] def hoOf (E : Env) (s : St) (o : Oper) : Option HO := match o.guard with
  | some _ => none
  | none => match o.op with
    | .call c => match c.callee with
      | .value (.func f) => match lastF (tl c.args) with
        | some (xs, g) => match E.hc f g with
          | some ct => some (.hc ct xs)
          | none => none
        | none => none
      | .value (.tmp t) => match lkE s.env t with
        | some ([], .one (.c (.v v))) => match fnOf v with
          | some f => some (.cc f (tl c.args))
          | none => none
        | _ => none
      | _ => none
    | .makeFunc (.func g) fst cap => match tl fst with
      | [] => some (.mk g (tl cap))
      | _ :: _ => none
    | _ => none
@[reducible] def hoK (E : Env) (s : St) (d : Option Nat) (x : HO) (K : St → Prop) : Prop := match x with
  | .hc c xs => callK E.cx (fun _ => some c) s [] d 0 xs K
  | .cc f xs => callK E.cx E.ct s [] d f xs K
  | .mk g cap => match E.mkf g with
    | none => False
    | some m => match capS s m.ss cap with
      | none => False
      | some (s', ds) => m.pre ds ∧ K (s'.put d [] (.one (.c (.abs (m.f ds)))))

@[reducible] def stepI (E : Env) (ops : List Oper) (o : Oper) (s : St) (K : St → Prop) : Prop := match hoOf E s o with
  | some x => match dOK E.n o.dst with
    | false => False
    | true => hoK E s o.dst x K
  | none => match ipOf E s o with
  | none => match extP E.cx s o K with
    | none => stepK E ops o s K
    | some p => match dOK E.n o.dst with
      | false => False
      | true => p
  | some ip => match dOK E.n o.dst with
    | false => False
    | true => ipK E.cx ip s o.dst (argsOf o.op) K
@[reducible] def opsI (E : Env) (ops : List Oper) : List Oper → St → (St → Prop) → Prop
  | [], s, K => K s
  | o :: r, s, K => stepI E ops o s fun s => opsI E ops r s K

theorem ipOf_spec {E : Env} {s : St} {o : Oper} {ip : IP} (e : ipOf E s o = some ip) : o.guard = none ∧ ∃ c f, o.op = .call c ∧ c.callee = .value (.func f) ∧ E.ip f = some ip := by
  unfold ipOf at e
  split at e
  · cases e
  · rename_i hgd
    split at e
    · rename_i c ho
      split at e
      · rename_i f hcal
        split at e
        · cases e
        · rename_i ip' hip
          split at e
          · cases e
          · split at e
            · cases e; exact ⟨hgd, c, f, ho, hcal, hip⟩
            · cases e
      · cases e
    · cases e

theorem lastF_eq {a : Act} : ∀ {l xs : List Operand} {g : Nat}, lastF l = some (xs, g) → l.map a.eval = xs.map a.eval ++ [.func (.func g) #[] #[]]
  | [], _, _, h => by simp [lastF] at h
  | [x], xs, g, h => by
    simp only [lastF] at h
    split at h
    · cases h; rfl
    · cases h
  | x :: y :: l, xs, g, h => by
    simp only [lastF] at h
    split at h
    · rename_i m g' hm
      cases h
      have := lastF_eq (a := a) (l := y :: l) hm
      simp only [List.map_cons] at this ⊢
      rw [this]; rfl
    · cases h

theorem fnOf_eq {v : Value} {f : Nat} (h : fnOf v = some f) : v = .func (.func f) #[] #[] := by
  unfold fnOf at h
  split at h
  · rename_i f' x y
    split at h
    · rename_i hx
      split at h
      · rename_i hy
        cases h
        rw [tl_eq hx, tl_eq hy]
      · cases h
    · cases h
  · cases h

theorem sz_one {s : Sh} (h : s.isAgg = false) : s.size = 1 := by cases s <;> simp_all [Sh.isAgg, Sh.size]

theorem capS_ok {N : Nat} {B : Base} {h0 : FH} {w : World} {a : Act} {β : List RV} : ∀ {ss : List Sh} {l : List Operand} {s s' : St} {h : FH} {ds : dens ss}, Sat N B h0 s h β w a → capS s ss l = some (s', ds) →
    ∃ h', h.le h' ∧ Sat N B h0 s' h' β w a ∧ capD h' ss ds (l.map a.eval)
  | [], [], s, s', h, ds, sat, e => by simp [capS] at e; subst e; exact ⟨h, FH.le.refl h, sat, trivial⟩
  | [], _ :: _, s, s', h, ds, sat, e => by simp [capS] at e
  | _ :: _, [], s, s', h, ds, sat, e => by simp [capS] at e
  | sh :: ss, x :: l, s, s', h, ds, sat, e => by
    unfold capS at e
    split at e
    · rename_i t
      split at e
      · rename_i i hlk
        split at e
        · rename_i r hT
          split at e
          · rename_i v hv
            split at e
            · rename_i d hd
              split at e
              · rename_i s2 ds2 hc
                cases e
                obtain ⟨z, z1, z2, _⟩ := sat.env t [] _ hlk
                obtain ⟨b, hb, ez⟩ : ∃ b, β[i]? = some (.blk b) ∧ z = .pointer (some ⟨b, 0, none⟩) := (z2 rfl : CnV h β (.c (.own i 0)) z).1
                have hT' := effres hT (show gv s.gl [] = true from rfl)
                have hold := sat.ok.holds i r _ hT' hb
                have hlive : r.live = true := by cases r <;> first | rfl | (simp [resQ] at hv)
                obtain ⟨le1, ok1⟩ := sat.ok.freezeBlk hT' hlive hb (show (RV.blk b).block = some b from rfl)
                have sat1 : Sat N B h0 { s with T := setL s.T i ([], .gone) } (h.plus w b) β w a := sat.mem (by rw [eff_set]; exact ok1) le1 (Ext.refl _) (by
                  intro q hq
                  rw [setL_eq] at hq
                  rcases List.mem_or_eq_of_mem_set hq with hq | hq
                  · exact sat.gT q hq
                  · subst hq; rfl)
                obtain ⟨h', le2, sat2, cap⟩ := capS_ok (l := l) sat1 hc
                refine ⟨h', le1.trans le2, sat2, ⟨?_, cap⟩⟩
                have ev : a.eval (.tmp t) = z := by simp [Act.eval, z1]
                rw [ev, ez]
                have at_ : ∀ (ys : List Value) (tt : TypeId), w.heap[b]? = some (.cells ys.toArray tt (0, 0)) → At h' b 0 ys := by
                  intro ys tt hw j u hj
                  refine le2 _ _ _ ?_
                  unfold FH.plus
                  rw [if_pos rfl, Nat.zero_add, cell_of_row w b j ys.toArray tt (0, 0) hw]
                  simpa using hj
                have key : ∀ (ys : List Value) (tt : TypeId), w.heap[b]? = some (.cells ys.toArray tt (0, 0)) → (sh.isAgg = true → CnV h β v (.agg ys.toArray)) → (sh.isAgg = false → ∃ y, ys = [y] ∧ CnV h β v y) →
                    ∃ b' cs, (Value.pointer (some ⟨b, 0, none⟩)) = .pointer (some ⟨b', 0, none⟩) ∧ Rd h' sh cs d ∧ At h' b' 0 cs := by
                  intro ys tt hw k1 k2
                  cases hag : sh.isAgg with
                  | true =>
                    obtain ⟨cs, e1, rd⟩ := toDat_ok hd (k1 hag)
                    unfold mkV at e1
                    rw [if_pos hag] at e1
                    injection e1 with e1
                    have e1 : ys = cs := by simpa using e1
                    subst e1
                    exact ⟨b, ys, rfl, (rd.mono le1 _).mono le2 _, at_ ys tt hw⟩
                  | false =>
                    obtain ⟨y, rfl, c⟩ := k2 hag
                    obtain ⟨cs, e1, rd⟩ := toDat_ok hd c
                    unfold mkV at e1
                    rw [if_neg (by rw [hag]; simp)] at e1
                    have hs := Rd.size sh rd
                    rw [sz_one hag] at hs
                    obtain ⟨u, rfl⟩ := List.length_eq_one_iff.1 hs
                    have e1 : y = u := e1
                    subst e1
                    exact ⟨b, [y], rfl, (rd.mono le1 _).mono le2 _, at_ [y] tt hw⟩
                cases r with
                | obj tt s0 d0 =>
                  simp only [resQ] at hv
                  split at hv
                  · rename_i hag
                    rw [andB_eq, Bool.and_eq_true] at hag
                    cases hv
                    obtain ⟨ys, e1, rd⟩ := hold
                    exact key ys tt e1 (fun _ => ⟨hag.2, ys, rfl, rd⟩) (fun hh => by rw [hag.1] at hh; cases hh)
                  · cases hv
                | blk tt cs =>
                  obtain ⟨ys, e1, al⟩ := hold
                  simp only [resQ] at hv
                  split at hv
                  · rename_i hag
                    cases hv
                    exact key ys tt e1 (fun _ => ⟨ys, rfl, al⟩) (fun hh => by rw [hag] at hh; cases hh)
                  · rename_i hag
                    split at hv
                    · rename_i x
                      cases hv
                      cases ys with
                      | nil => exact al.elim
                      | cons y ys =>
                        cases ys with
                        | cons _ _ => exact al.2.elim
                        | nil => exact key [y] tt e1 (fun hh => by rw [hag] at hh; cases hh) (fun _ => ⟨y, rfl, al.1⟩)
                    · cases hv
                | row _ _ _ => simp [resQ] at hv
                | gone => simp [resQ] at hv
              · cases e
            · cases e
          · cases e
        · cases e
      · cases e
    · cases e

theorem hoK_ok {P : Program} {E : Env} (ok : EnvOK P E) {ops : Array Oper} {B : Base} {h0 : FH} {s : St} {h : FH} {β : List RV} {w : World} {a : Act} (sat : Sat E.n B h0 s h β w a) (hg : GlobOK E.cx.gd h) {o : Oper} {x : HO} (hx : hoOf E s o = some x) (hd : dOK E.n o.dst = true) {K : St → Prop}
    (k : hoK E s o.dst x K) : OpOK P E.n B h0 h w a o (Region.wanted o (yielded ops a.tmps)) K := by
  unfold hoOf at hx
  split at hx
  · cases hx
  rename_i hgd
  rw [show Region.wanted o (yielded ops a.tmps) = gv s.gl [] by simp [Region.wanted, hgd, gv]]
  split at hx
  · rename_i c ho
    split at hx
    · rename_i f hcal
      split at hx
      · rename_i xs g hl
        split at hx
        · rename_i ct hct
          cases hx
          obtain ⟨hc, hf⟩ := ok.hc f g ct hct
          simp only [hoK] at k
          have k' : callK E.cx (fun f' => if f' = f then some ct else none) s [] o.dst f xs K := by
            unfold callK at k ⊢
            simpa using k
          exact call_stepX (suf := [.func (.func g) #[] #[]]) (fun f' c' e => by
            split at e
            · rename_i hff; cases e; rw [hff]; exact hc
            · cases e) sat hg rfl hd ho hcal (fun _ => rfl) (by
            have := lastF_eq (a := a) hl
            rw [← this]; cases c.args; simp) hf k'
        · cases hx
      · cases hx
    · rename_i t hcal
      split at hx
      · rename_i v hlk
        split at hx
        · rename_i f hfn
          cases hx
          simp only [hoK] at k
          obtain ⟨z, z1, z2, _⟩ := sat.env t [] _ hlk
          have ez : z = .func (.func f) #[] #[] := ((z2 rfl : CnV h β (.c (.v v)) z).1.1).trans (fnOf_eq hfn)
          have hct : ∃ cc, E.ct f = some cc := by
            unfold callK at k
            cases hh : E.ct f with
            | none => rw [hh] at k; exact k.elim
            | some cc => exact ⟨cc, rfl⟩
          obtain ⟨cc, hct⟩ := hct
          exact call_stepX (suf := []) (fun f' c' e => (ok.ct f' c' e).1.x) sat hg rfl hd ho hcal (fun _ => by simp [Act.eval, z1, ez]) (by cases c.args; simp) (ok.ct f cc hct).2 k
        · cases hx
      · cases hx
    · cases hx
  · rename_i g fst cap ho
    split at hx
    · rename_i hfst
      cases hx
      simp only [hoK] at k
      split at k
      · exact k.elim
      rename_i m hm
      split at k
      · exact k.elim
      rename_i s' ds hcap
      obtain ⟨h', le, sat', cap'⟩ := capS_ok sat hcap
      obtain ⟨hmp, k⟩ := k
      have rel := ok.mkf g m hm ds h' _ hmp (hg.mono le) cap'
      intro Nx Q next
      rw [if_pos rfl]
      refine wp_value (v := .func (.func g) #[] ((tl cap).map a.eval).toArray) ?_ (next _ _ _ _ _ k le (fun _ => Gro.refl w) (sat'.put (dOK_lt hd) rfl (fun _ => ⟨rel, Abs.rel_one rel⟩) fun hh => by cases hh))
      simp only [execOp, ho, Instr.makeFunc, Sem.run_bind, Sem.run_pure, Result.andThen_ok]
      rw [tl_eq hfst]
      have : cap.map a.eval = ((tl cap).map a.eval).toArray := by cases cap; simp
      rw [this]; simp
    · cases hx
  · cases hx

theorem stepI_ok {P : Program} {E : Env} (ok : EnvOK P E) {B : Base} {h0 : FH} {s : St} {h : FH} {β : List RV} {w : World} {a : Act} (sat : Sat E.n B h0 s h β w a) (hg : GlobOK E.cx.gd h) {ops : Array Oper} {o : Oper} {K : St → Prop}
    (k : stepI E (tl ops) o s K) : OpW P E.n B h0 h w a o (Region.wanted o (yielded ops a.tmps)) K := by
  unfold stepI at k
  split at k
  · rename_i x hx
    split at k
    · exact k.elim
    · rename_i hd
      exact (hoK_ok ok sat hg hx hd k).weak
  split at k
  · split at k
    · exact (stepK_ok ok sat hg k).weak
    · rename_i p hp
      split at k
      · exact k.elim
      · rename_i hd
        exact extP_ok ok.ti sat hg hd hp k
  · rename_i ip hip
    obtain ⟨hgd, c, f, ho, hcal, hf⟩ := ipOf_spec hip
    split at k
    · exact k.elim
    · rename_i hd
      rw [show Region.wanted o (yielded ops a.tmps) = true by simp [Region.wanted, hgd]]
      rw [show argsOf o.op = tl c.args by simp only [argsOf, ho]] at k
      exact ip_step (ok.ip f ip hf).1 (ok.ip f ip hf).2 sat hg hd ho hcal k

theorem opsI_ok {P : Program} {E : Env} (ok : EnvOK P E) {B : Base} {h0 : FH} (hg : GlobOK E.cx.gd h0) {ops : Array Oper} {R : Act → World → Prop} {K : St → Prop} : ∀ (l : List Oper) {s : St} {h : FH} {β : List RV} {w : World} {a : Act}, Sat E.n B h0 s h β w a →
    opsI E (tl ops) l s K → (∀ s' h' β' w' a', K s' → h.le h' → Sat E.n B h0 s' h' β' w' a' → Same (dsts l) a a' → R a' w') → wpL P ops R l a w
  | [], s, h, β, w, a, sat, k, next => next _ _ _ _ _ k (FH.le.refl h) sat (Same.refl _ _)
  | o :: r, s, h, β, w, a, sat, k, next => by
    have := stepI_ok ok sat (hg.mono sat.ok.hle) k (wpL P ops R r) noQ fun s' h' β' w' v k' le sat' => opsI_ok ok hg r sat' k' fun s2 h2 β2 w2 a2 k2 le2 sat2 sm => next s2 h2 β2 w2 a2 k2 (le.trans le2) sat2 sm.put
    unfold wpL
    split
    · rename_i hw; rw [if_pos hw] at this; exact this
    · rename_i hw; rw [if_neg hw] at this; exact this

/-! Regions that draw their order. -/

def blOf (ops : Array Oper) (listed : Array Bool) (i : Nat) : List Nat :=
  (List.range ops.size).foldl (fun acc j => if j != i && !listed.getD j true && (match ops[j]? with | some o => o.after.any (fun e => Region.binds .any e && (e.on == i || acc.contains e.on)) | none => false) then j :: acc else acc) []

def waitsB (ops : Array Oper) (listed : Array Bool) (i : Nat) (bl : List Nat) : Bool :=
  (bl.all fun j => !listed.getD j true && (match ops[j]? with | some o => o.after.any (fun e => Region.binds .any e && (e.on == i || bl.contains e.on)) | none => false)) &&
  ((List.range ops.size).all fun j => j == i || listed.getD j true || sfe ops j || bl.contains j)

theorem waitsB_spec {ops : Array Oper} {listed : Array Bool} {i : Nat} {bl : List Nat} (h : waitsB ops listed i bl = true) :
    Waits .any ops listed i bl ∧ ∀ j, j ≠ i → listed.getD j true = false → sfe ops j = false → j ∈ bl := by
  simp only [waitsB, Bool.and_eq_true, List.all_eq_true] at h
  refine ⟨fun j hj => ?_, fun j hji hun hs => ?_⟩
  · have h1 := h.1 j hj
    simp only [Bool.not_eq_true'] at h1
    refine ⟨h1.1, ?_⟩
    cases ho : ops[j]? with
    | none => rw [ho] at h1; exact absurd h1.2 (by simp)
    | some o =>
      rw [ho] at h1
      obtain ⟨e, he, hb⟩ := Array.any_eq_true'.1 h1.2
      simp only [Bool.and_eq_true, Bool.or_eq_true, beq_iff_eq, List.contains_iff_mem] at hb
      exact ⟨o, rfl, e, he, hb.1, hb.2⟩
  · rcases Nat.lt_or_ge j ops.size with hlt | hge
    · have h2 := h.2 j (List.mem_range.2 hlt)
      simp only [Bool.or_eq_true, beq_iff_eq, hji, hun, hs, List.contains_iff_mem, Bool.false_eq_true, false_or] at h2
      exact h2
    · have : ops[j]? = none := Array.getElem?_eq_none hge
      simp [sfe, this] at hs

/-- Orders: what floats goes first; where several are ready, each of them. -/
inductive DT where
  | done
  | fl (i : Nat) (t : DT)
  | op (i : Nat) (t : DT)
  | alt (i : Nat) (t m : DT)
inductive OT where
  | done
  | op (o : Oper) (t : OT)
  | alt (o : Oper) (t m : OT)

def DT.alts : DT → List Nat
  | .op i _ => [i]
  | .alt i _ m => i :: m.alts
  | _ => []

def floatsB (ops : Array Oper) (listed : Array Bool) (i : Nat) : Bool := match ops[i]? with
  | some o => isFloat o.op && Region.free .any ops listed i && (Region.ready .any ops listed).contains i && (!isLoad o.op || waitsB ops listed i (blOf ops listed i))
  | none => false

def chkT (ops : Array Oper) : DT → Bool → Nat → Array Bool → Bool
  | .done, top, n, listed => top && n == 0 && (Region.ready .any ops listed).isEmpty
  | .fl i t, top, n, listed => top && n != 0 && floatsB ops listed i && chkT ops t true (n - 1) (listed.setIfInBounds i true)
  | .op i t, top, n, listed => (!top || Region.ready .any ops listed == [i]) && n != 0 && (ops[i]?).isSome && chkT ops t true (n - 1) (listed.setIfInBounds i true)
  | .alt i t m, top, n, listed => (!top || Region.ready .any ops listed == i :: m.alts) && n != 0 && (ops[i]?).isSome && chkT ops t true (n - 1) (listed.setIfInBounds i true) && chkT ops m false n listed

def goT (g : Nat → DT) : List Nat → DT
  | [] => .done
  | [i] => .op i (g i)
  | i :: r => .alt i (g i) (goT g r)
def genT (ops : Array Oper) : Nat → Array Bool → DT
  | 0, _ => .done
  | f + 1, listed =>
    let rs := Region.ready .any ops listed
    match rs.find? (fun i => floatsB ops listed i) with
    | some i => .fl i (genT ops f (listed.setIfInBounds i true))
    | none => goT (fun i => genT ops f (listed.setIfInBounds i true)) rs

def opT (ops : Array Oper) : DT → OT
  | .done => .done
  | .fl i t => match ops[i]? with
    | some o => .op o (opT ops t)
    | none => .done
  | .op i t => match ops[i]? with
    | some o => .op o (opT ops t)
    | none => .done
  | .alt i t m => match ops[i]? with
    | some o => .alt o (opT ops t) (opT ops m)
    | none => .done
def ofL : List Oper → OT
  | [] => .done
  | o :: l => .op o (ofL l)

@[reducible] def treeK (E : Env) (ops : List Oper) : OT → St → (St → Prop) → Prop
  | .done, s, K => K s
  | .op o t, s, K => stepK E ops o s fun s => treeK E ops t s K
  | .alt o t m, s, K => (stepK E ops o s fun s => treeK E ops t s K) ∧ treeK E ops m s K
theorem treeK_eq {E : Env} {ops : List Oper} {K : St → Prop} : ∀ (l : List Oper), (fun s => treeK E ops (ofL l) s K) = fun s => opsK E ops l s K
  | [] => rfl
  | o :: l => by
    funext s
    show stepK E ops o s (fun s => treeK E ops (ofL l) s K) = stepK E ops o s fun s => opsK E ops l s K
    rw [treeK_eq l]
theorem treeK_ofL {E : Env} {ops : List Oper} {K : St → Prop} (l : List Oper) {s : St} (h : treeK E ops (ofL l) s K) : opsK E ops l s K := by
  have := congrFun (treeK_eq (E := E) (ops := ops) (K := K) l) s
  rw [← this]; exact h

def isPure (o : Oper) : Bool := match o.op with
  | .alloc _ | .box .. | .buildSlice .. | .makeSlice .. | .store .. => false
  | .call c => (match c.callee with | .value (.func _) => false | .builtin .append => false | _ => true)
  | _ => true

/-- The operations in the orders that serve for all. -/
def drawOrd (ops : Array Oper) : Option OT :=
  if ops.all isPure && Region.lexB .any ops then some (ofL ops.toList)
  else
    let t := genT ops ops.size (Array.replicate ops.size false)
    if Region.noSelect ops && chkT ops t true ops.size (Array.replicate ops.size false) then some (opT ops t) else none

section
variable {P : Program} {E : Env} {B : Base} {h0 : FH} {s : St} {h : FH} {β : List RV} {w : World} {a : Act} {o : Oper} {ops : Array Oper} {K : St → Prop}

theorem guardK_mono {L : List Nat} {s : St} {l : List Oper} {g : Option (Nat × Bool)} {K K' : Gd → St → Prop} (hk : ∀ G s, K G s → K' G s) (h : guardK L s l g K) : guardK L s l g K' := by
  unfold guardK at *
  split at h
  · exact hk _ _ h
  · split at h
    · exact h.elim
    · split at h
      · split at h
        · split at h
          · split at h
            · exact hk _ _ h
            · exact h.elim
          · split at h
            · exact h.elim
            · exact hk _ _ h
        · exact h.elim
      · split at h
        · split at h
          · exact hk _ _ h
          · exact hk _ _ h
        · exact h.elim

theorem stepK_pure (hp : isPure o = true) (k : stepK E (tl ops) o s K) : dOK E.n o.dst = true ∧ guardK E.lits s (tl ops) o.guard fun G s => pureK E.cx s G o fun e => K (s.put o.dst G e) := by
  unfold stepK at k
  split at k
  · exact k.elim
  rename_i hd
  refine ⟨hd, ?_⟩
  have key : ∀ G s, (match o.op with
    | .alloc t => allocK E.cx s G o.dst t K
    | .box t x => boxK E.cx s G o.dst t x K
    | .buildSlice t n ps => buildSliceK E.cx (frzAll s (frzB E s G (tl ps))) G o.dst t n (tl ps) K
    | .makeSlice t l c => makeK E.cx s G o.dst t l c K
    | .store t p x => match G with
      | [] => storeK E.cx (frzAll s (frzSt E s p x)) o.dst t p x K
      | _ :: _ => False
    | .call c => match c.callee with
      | .value (.func f) => callK E.cx E.ct (frzAll s (frzL E s G f (tl c.args))) G o.dst f (tl c.args) K
      | .builtin .append => match G with
        | [] => match tl c.args with
          | [x, y] => match tl c.argTypes with
            | [t, t'] => match Nat.beq t t' with
              | true => appendK E.cx s o.dst t x y K
              | false => False
            | _ => False
          | _ => False
        | _ :: _ => False
      | _ => pureK E.cx s G o fun e => K (s.put o.dst G e)
    | _ => pureK E.cx s G o fun e => K (s.put o.dst G e)) → pureK E.cx s G o fun e => K (s.put o.dst G e) := by
    intro G s k
    split at k
    · rename_i ho; simp [isPure, ho] at hp
    · rename_i ho; simp [isPure, ho] at hp
    · rename_i ho; simp [isPure, ho] at hp
    · rename_i ho; simp [isPure, ho] at hp
    · rename_i ho; simp [isPure, ho] at hp
    · rename_i c ho
      split at k
      · rename_i hc; simp [isPure, ho, hc] at hp
      · rename_i hc; simp [isPure, ho, hc] at hp
      · exact k
    · exact k
  exact guardK_mono key k

theorem lenB {x : Callee} (h : (match x with | .builtin .len => true | _ => false) = true) : x = .builtin .len := by
  split at h
  · rfl
  · cases h
theorem float_pure (hf : isFloat o.op = true) : isPure o = true := by
  cases ho : o.op with
  | call c =>
    rw [ho] at hf
    have : c.callee = .builtin .len := lenB hf
    simp [isPure, ho, this]
  | _ =>
    rw [ho] at hf
    first
      | (simp [isPure, ho]; done)
      | (simp [isFloat, isFloat0] at hf; done)
theorem float_quiet {x : Op} (hf : isFloat x = true) : quietly x = true := by
  cases x with
  | call c =>
    have : c.callee = .builtin .len := lenB hf
    simp [quietly, this]
  | _ =>
    first
      | rfl
      | (simp [isFloat, isFloat0] at hf; done)

theorem float_step (ok : EnvOK P E) (sat : Sat E.n B h0 s h β w a) (hg : GlobOK E.cx.gd h) (hf : isFloat o.op = true) (k : stepK E (tl ops) o s K) :
    ∃ v s', YI P ops (isLoad o.op) w o v a ∧ K s' ∧ Sat E.n B h0 s' h β w (a.put o.dst v) := by
  obtain ⟨hd, k⟩ := stepK_pure (float_pure hf) k
  obtain ⟨G, s', k, sat', hw, hG⟩ := guardK_ok sat k
  obtain ⟨e, k1, k2⟩ := pureK_ext ok.ti sat' hg hf k
  cases hgv : gv s'.gl G with
  | true =>
    obtain ⟨v, r, c⟩ := k2 hgv
    refine ⟨v, _, .inl ⟨by rw [hw]; exact hgv, fun w' hg' => ?_⟩, k1, sat'.put (dOK_lt hd) hG (fun _ => c) fun hh => by rw [hgv] at hh; cases hh⟩
    exact r w' hg'
  | false =>
    exact ⟨undef, _, .inr ⟨by rw [hw]; exact hgv, rfl⟩, k1, sat'.put (dOK_lt hd) hG (fun hh => by rw [hgv] at hh; cases hh) fun _ => rfl⟩

theorem still_step (ok : EnvOK P E) (sat : Sat E.n B h0 s h β w a) (hg : GlobOK E.cx.gd h) (hp : isPure o = true) (k : stepK E (tl ops) o s K) {Nx : Act → Prop}
    (next : ∀ v s', K s' → Sat E.n B h0 s' h β w (a.put o.dst v) → Nx (a.put o.dst v)) : if Region.wanted o (yielded ops a.tmps) then o.still P a w Nx else Nx (a.put o.dst undef) := by
  obtain ⟨hd, k⟩ := stepK_pure hp k
  obtain ⟨G, s', k, sat', hw, hG⟩ := guardK_ok sat k
  obtain ⟨e, k1, k2⟩ := pureK_ok ok.ti sat' hg k
  rw [hw]
  cases hgv : gv s'.gl G with
  | true =>
    obtain ⟨v, r, c⟩ := k2 hgv
    rw [if_pos rfl]
    unfold Oper.still
    rw [r, Oper.stillUpon_value]
    exact next _ _ k1 (sat'.put (dOK_lt hd) hG (fun _ => c) fun hh => by rw [hgv] at hh; cases hh)
  | false =>
    rw [if_neg (by simp)]
    exact next _ _ k1 (sat'.put (dOK_lt hd) hG (fun hh => by rw [hgv] at hh; cases hh) fun _ => rfl)

theorem still_ok (ok : EnvOK P E) (hg : GlobOK E.cx.gd h0) {R : Act → Prop} : ∀ (l : List Oper) {s : St} {a : Act}, l.all isPure = true → Sat E.n B h0 s h β w a → opsK E (tl ops) l s K →
    (∀ s' a', K s' → Sat E.n B h0 s' h β w a' → Same (dsts l) a a' → R a') → wpStill P ops w R l a
  | [], s, a, _, sat, k, next => next _ _ k sat (Same.refl _ _)
  | o :: r, s, a, hp, sat, k, next => by
    simp only [List.all_cons, Bool.and_eq_true] at hp
    exact still_step ok sat (hg.mono sat.ok.hle) hp.1 k fun v s' k' sat' => still_ok ok hg r hp.2 sat' k' fun s2 a2 k2 sat2 sm => next s2 a2 k2 sat2 sm.put

theorem mem_dsts {t : Nat} : ∀ {l : List Oper}, memN t (dsts l) = true ↔ ∃ o ∈ l, o.dst = some t
  | [] => by simp [dsts, memN]
  | o :: l => by
    cases hd : o.dst with
    | none =>
      have e : dsts (o :: l) = dsts l := by simp only [dsts, hd]
      rw [e, mem_dsts]
      simp [hd]
    | some d =>
      have e : dsts (o :: l) = d :: dsts l := by simp only [dsts, hd]
      rw [e, memN_cons, Bool.or_eq_true, mem_dsts]
      constructor
      · rintro (h | ⟨o', h1, h2⟩)
        · exact ⟨o, by simp, by rw [hd, Nat.eq_of_beq_eq_true h]⟩
        · exact ⟨o', by simp [h1], h2⟩
      · rintro ⟨o', h1, h2⟩
        rcases List.mem_cons.1 h1 with rfl | h1
        · rw [hd] at h2; cases h2; exact .inl (Nat.beq_refl _)
        · exact .inr ⟨o', h1, h2⟩

theorem Same.sub {l m : List Oper} {a b : Act} (hs : ∀ o ∈ l, o ∈ m) (x : Same (dsts l) a b) : Same (dsts m) a b := fun t h => x t (by
  cases hh : memN t (dsts l) with
  | false => rfl
  | true =>
    obtain ⟨o, h1, h2⟩ := mem_dsts.1 hh
    rw [mem_dsts.2 ⟨o, hs o h1, h2⟩] at h; cases h)

theorem Same.put_mem {ol : List Oper} {o : Oper} (ho : o ∈ ol) {a b : Act} {v : Value} (x : Same (dsts ol) (a.put o.dst v) b) : Same (dsts ol) a b := by
  intro t h
  rw [x t h]
  cases hd : o.dst with
  | none => rfl
  | some d =>
    have hne : d ≠ t := by
      rintro rfl
      rw [mem_dsts.2 ⟨o, ho, hd⟩] at h; cases h
    simp [Act.put, Array.getElem?_setIfInBounds_ne hne]

theorem tree_ok (ok : EnvOK P E) (hg : GlobOK E.cx.gd h0) (hs : Region.noSelect ops = true) {R : Act → World → Prop} : ∀ (t : DT) {n : Nat} {listed : Array Bool} {s : St} {h : FH} {β : List RV} {w : World} {a : Act},
    Sat E.n B h0 s h β w a → treeK E (tl ops) (opT ops t) s K → (∀ s' h' β' w' a', K s' → h.le h' → Sat E.n B h0 s' h' β' w' a' → Same (dsts ops.toList) a a' → R a' w') →
    (chkT ops t true n listed = true → anyI P .any ops R n listed a w) ∧
    (chkT ops t false n listed = true → ∀ i ∈ t.alts, wpO P ops i (fun a' w' => (sfe ops i = true → Gro w w') ∧ anyI P .any ops R (n - 1) (listed.setIfInBounds i true) a' w') a w)
  | .done, n, listed, s, h, β, w, a, sat, k, next => by
    refine ⟨fun hc => ?_, fun hc => by simp [chkT] at hc⟩
    simp only [chkT, Bool.true_and, Bool.and_eq_true, beq_iff_eq] at hc
    obtain ⟨rfl, he⟩ := hc
    exact ⟨by simpa using he, next _ _ _ _ _ k (FH.le.refl h) sat (Same.refl _ _)⟩
  | .fl i t, n, listed, s, h, β, w, a, sat, k, next => by
    refine ⟨fun hc => ?_, fun hc => by simp [chkT] at hc⟩
    simp only [chkT, Bool.true_and, Bool.and_eq_true, bne_iff_ne, ne_eq] at hc
    obtain ⟨⟨hn, hb⟩, hc⟩ := hc
    obtain ⟨n, rfl⟩ : ∃ m, n = m + 1 := ⟨n - 1, by omega⟩
    unfold floatsB at hb
    cases hi : ops[i]? with
    | none => rw [hi] at hb; simp at hb
    | some o =>
      rw [hi] at hb
      simp only [Bool.and_eq_true] at hb
      simp only [opT, hi, treeK] at k
      have hmem : o ∈ ops.toList := List.mem_of_getElem? (i := i) (by simpa using hi)
      obtain ⟨⟨⟨hf, hfree⟩, hr⟩, hl⟩ := hb
      obtain ⟨v, s', hy, k', sat'⟩ := float_step ok sat (hg.mono sat.ok.hle) hf k
      have hq : sfe ops i = true := by
        simp only [sfe, hi]
        exact float_quiet hf
      refine anyI_first (bl := blOf ops listed i) hi (Region.noSelect_spec hs) hq n listed a w (Region.free_spec hi hfree) (fun e => ?_) (by simpa using hr) hy (fun _ => Gro.refl w)
        ((tree_ok ok hg hs t sat' k' fun s2 h2 β2 w2 a2 k2 le2 sat2 sm => next s2 h2 β2 w2 a2 k2 le2 sat2 (sm.put_mem hmem)).1 hc)
      rw [e] at hl
      exact waitsB_spec (by simpa using hl)
  | .op i t, n, listed, s, h, β, w, a, sat, k, next => by
    have key : n ≠ 0 → (ops[i]?).isSome = true → chkT ops t true (n - 1) (listed.setIfInBounds i true) = true → wpO P ops i (fun a' w' => (sfe ops i = true → Gro w w') ∧ anyI P .any ops R (n - 1) (listed.setIfInBounds i true) a' w') a w := by
      intro hn hi hc
      obtain ⟨o, hi⟩ := Option.isSome_iff_exists.1 hi
      have hmem : o ∈ ops.toList := List.mem_of_getElem? (i := i) (by simpa using hi)
      simp only [opT, hi, treeK] at k
      unfold wpO
      simp only [hi]
      refine stepK_ok ok sat (hg.mono sat.ok.hle) k _ noQ fun s' h' β' w' v k' le gro sat' => ⟨fun e => gro (by simpa [sfe, hi] using e), ?_⟩
      exact (tree_ok ok hg hs t sat' k' fun s2 h2 β2 w2 a2 k2 le2 sat2 sm => next s2 h2 β2 w2 a2 k2 (le.trans le2) sat2 (sm.put_mem hmem)).1 hc
    refine ⟨fun hc => ?_, fun hc j hj => ?_⟩
    · simp only [chkT, Bool.not_true, Bool.false_or, Bool.and_eq_true, bne_iff_ne, ne_eq, beq_iff_eq] at hc
      obtain ⟨⟨⟨hr, hn⟩, hi⟩, hc⟩ := hc
      obtain ⟨m, rfl⟩ : ∃ m, n = m + 1 := ⟨n - 1, by omega⟩
      refine ⟨fun h0 => by rw [hr] at h0; simp at h0, fun j hj => ?_⟩
      rw [hr] at hj
      simp at hj
      subst hj
      exact key hn hi hc
    · simp only [chkT, Bool.not_false, Bool.true_or, Bool.true_and, Bool.and_eq_true, bne_iff_ne, ne_eq] at hc
      simp only [DT.alts, List.mem_singleton] at hj
      subst hj
      exact key hc.1.1 hc.1.2 hc.2
  | .alt i t m, n, listed, s, h, β, w, a, sat, k, next => by
    have key : n ≠ 0 → (ops[i]?).isSome = true → chkT ops t true (n - 1) (listed.setIfInBounds i true) = true → chkT ops m false n listed = true →
        ∀ j ∈ i :: m.alts, wpO P ops j (fun a' w' => (sfe ops j = true → Gro w w') ∧ anyI P .any ops R (n - 1) (listed.setIfInBounds j true) a' w') a w := by
      intro hn hi hc hm j hj
      obtain ⟨o, hi⟩ := Option.isSome_iff_exists.1 hi
      have hmem : o ∈ ops.toList := List.mem_of_getElem? (i := i) (by simpa using hi)
      simp only [opT, hi, treeK] at k
      rcases List.mem_cons.1 hj with rfl | hj
      · unfold wpO
        simp only [hi]
        refine stepK_ok ok sat (hg.mono sat.ok.hle) k.1 _ noQ fun s' h' β' w' v k' le gro sat' => ⟨fun e => gro (by simpa [sfe, hi] using e), ?_⟩
        exact (tree_ok ok hg hs t sat' k' fun s2 h2 β2 w2 a2 k2 le2 sat2 sm => next s2 h2 β2 w2 a2 k2 (le.trans le2) sat2 (sm.put_mem hmem)).1 hc
      · exact (tree_ok ok hg hs m sat k.2 next).2 hm j hj
    refine ⟨fun hc => ?_, fun hc j hj => ?_⟩
    · simp only [chkT, Bool.not_true, Bool.false_or, Bool.and_eq_true, bne_iff_ne, ne_eq, beq_iff_eq] at hc
      obtain ⟨⟨⟨⟨hr, hn⟩, hi⟩, hc⟩, hm⟩ := hc
      obtain ⟨q, rfl⟩ : ∃ m, n = m + 1 := ⟨n - 1, by omega⟩
      refine ⟨fun h0 => by rw [hr] at h0; simp at h0, fun j hj => ?_⟩
      rw [hr] at hj
      exact key hn hi hc hm j hj
    · simp only [chkT, Bool.not_false, Bool.true_or, Bool.true_and, Bool.and_eq_true, bne_iff_ne, ne_eq] at hc
      exact key hc.1.1.1 hc.1.1.2 hc.1.2 hc.2 j hj

theorem Sat.drawn (sat : Sat E.n B h0 s h β w a) (n : Nat) (hn : w.drawn ≤ n) : Sat E.n B h0 s h β { w with drawn := n } a where
  ok := ⟨⟨sat.ok.below.os, sat.ok.below.tape, sat.ok.below.output, sat.ok.below.size, sat.ok.below.block⟩, Nat.le_trans sat.ok.dr hn, sat.ok.len, fun i r v h1 h2 => by
      have := sat.ok.holds i r v h1 h2
      cases r <;> cases v <;> exact this, sat.ok.own, sat.ok.inj, sat.ok.hle, sat.ok.hw, sat.ok.hg, sat.ok.kn⟩
  env := sat.env
  gs := sat.gs
  defers := sat.defers
  sz := sat.sz
  gb := sat.gb
  gT := sat.gT

theorem draw_ok (ok : EnvOK P E) (hg : GlobOK E.cx.gd h0) {id : Nat} {ol : OT} (ho : drawOrd ops = some ol) (sat : Sat E.n B h0 s h β w a) (k : treeK E (tl ops) ol s K) {F : Fence} {n : Nat} (hF : Wd F) (hn : ndL ops.toList = true) {Q : Exit → Act → World → Prop}
    (next : ∀ s' h' β' w' a', K s' → h.le h' → Sat E.n B h0 s' h' β' w' a' → Same (dsts (tl ops)) a a' → Q .normal a' w') : (Code.region id ops true).wpIn F n P Q a w := by
  unfold drawOrd at ho
  have et : tl ops = ops.toList := by cases ops; rfl
  split at ho
  · rename_i hp
    cases ho
    simp only [Bool.and_eq_true] at hp
    refine still_region hF hn ok.mixed hp.2 (still_ok ok hg ops.toList (by simpa using hp.1) (sat.drawn _ (Nat.le_succ _)) (treeK_ofL _ k) fun s' a' k' sat' sm => next _ _ _ _ _ k' (FH.le.refl h) sat' (by rw [et]; exact sm))
  · simp only at ho
    split at ho
    · rename_i hp
      cases ho
      simp only [Bool.and_eq_true, beq_iff_eq] at hp
      refine wpIn_region_any ok.mixed (anyI_In (R := fun a w => Q .normal a w) hF hn (fun _ _ hh => hh) _ _ _ _ ?_)
      exact (tree_ok ok hg hp.1 (R := fun a w => Q .normal a w) (genT ops ops.size (Array.replicate ops.size false)) (sat.drawn (w.drawn + 1) (Nat.le_succ _)) k fun s' h' β' w' a' k' le sat' sm => next _ _ _ _ _ k' le sat' (by rw [et]; exact sm)).1 hp.2
    · cases ho
end

/-! At a region's end the guards are forgotten. -/

@[reducible] def isNil {α : Type} : List α → Bool
  | [] => true
  | _ :: _ => false
@[reducible] def cleanE (seen : List Nat) : List (Nat × Gd × Ent) → List (Nat × Gd × Ent)
  | [] => []
  | (k, g, e) :: l => match memN k seen with
    | true => cleanE seen l
    | false => match isNil g with
      | true => (k, g, e) :: cleanE (k :: seen) l
      | false => cleanE (k :: seen) l
@[reducible] def cleanT : List (Gd × Res) → List (Gd × Res)
  | [] => []
  | (g, r) :: l => match isNil g with
    | true => ([], r) :: cleanT l
    | false => ([], .gone) :: cleanT l
@[reducible] def clean (s : St) : St := { env := cleanE [] s.env, T := cleanT s.T, gl := [], gs := [] }

theorem cleanE_get : ∀ {l : List (Nat × Gd × Ent)} {seen : List Nat} {t : Nat} {G : Gd} {e : Ent}, lkE (cleanE seen l) t = some (G, e) → memN t seen = false ∧ lkE l t = some (G, e) ∧ G = []
  | [], _, _, _, _, h => by simp [cleanE, lkE] at h
  | (k, g, e0) :: l, seen, t, G, e, h => by
    unfold cleanE at h
    split at h
    · rename_i hm
      obtain ⟨h1, h2, h3⟩ := cleanE_get h
      refine ⟨h1, ?_, h3⟩
      rw [lkE_cons, if_neg]
      · exact h2
      · rintro rfl; rw [hm] at h1; cases h1
    · rename_i hm
      have sub : lkE (cleanE (k :: seen) l) t = some (G, e) → memN t seen = false ∧ lkE ((k, g, e0) :: l) t = some (G, e) ∧ G = [] := by
        intro h
        obtain ⟨h1, h2, h3⟩ := cleanE_get h
        rw [memN_cons, Bool.or_eq_false_iff] at h1
        refine ⟨h1.2, ?_, h3⟩
        rw [lkE_cons, if_neg]
        · exact h2
        · rintro rfl; exact Nat.ne_of_beq_eq_false h1.1 rfl
      split at h
      · rename_i hn
        rw [lkE_cons] at h
        split at h
        · rename_i hk
          subst hk
          cases h
          refine ⟨hm, by rw [lkE_cons, if_pos rfl], ?_⟩
          cases g with
          | nil => rfl
          | cons _ _ => cases hn
        · exact sub h
      · exact sub h

theorem cleanT_eff (gl : List Bool) : ∀ (T : List (Gd × Res)) (i : Nat) (r : Res), (eff [] (cleanT T))[i]? = some r → r.live = true → (eff gl T)[i]? = some r
  | [], i, r, h, _ => by simp [cleanT, eff] at h
  | (g, r0) :: l, i, r, h, hl => by
    have e1 : eff [] (cleanT ((g, r0) :: l)) = (match isNil g with | true => r0 | false => Res.gone) :: eff [] (cleanT l) := by
      simp only [cleanT]; cases isNil g <;> rfl
    rw [e1] at h
    cases i with
    | zero =>
      simp only [List.getElem?_cons_zero, Option.some.injEq] at h
      cases g with
      | nil => simp only [isNil] at h; subst h; rfl
      | cons _ _ => simp only [isNil] at h; subst h; cases hl
    | succ i =>
      simp only [List.getElem?_cons_succ, eff] at h ⊢
      exact cleanT_eff gl l i r h hl
theorem cleanT_len : ∀ (T : List (Gd × Res)), (cleanT T).length = T.length
  | [] => rfl
  | (g, r) :: l => by simp only [cleanT]; split <;> simp [cleanT_len l]
theorem cleanT_nil : ∀ {T : List (Gd × Res)} {p : Gd × Res}, p ∈ cleanT T → p.1 = []
  | [], p, h => by simp [cleanT] at h
  | (g, r) :: l, p, h => by
    simp only [cleanT] at h
    split at h
    · rcases List.mem_cons.1 h with rfl | h
      · rfl
      · exact cleanT_nil h
    · rcases List.mem_cons.1 h with rfl | h
      · rfl
      · exact cleanT_nil h

/-- Fewer resources are known. -/
theorem OK.weaken {B : Base} {h0 : FH} {T T' : List Res} {h : FH} {β : List RV} {w : World} (ok : OK B h0 T h β w) (hl : T'.length = T.length) (sub : ∀ (i : Nat) r, T'[i]? = some r → r.live = true → T[i]? = some r) : OK B h0 T' h β w where
  below := ok.below
  dr := ok.dr
  len := by rw [hl]; exact ok.len
  holds := by
    intro i r v e e'
    cases hr : r.live with
    | true => exact ok.holds i r v (sub i r e hr) e'
    | false => cases r <;> first | (cases hr; done) | (cases v <;> trivial)
  own := fun i r v b e l e' hb => ok.own i r v b (sub i r e l) l e' hb
  inj := fun i j r r' u v b e l e' l' f f' hb hb' => ok.inj i j r r' u v b (sub i r e l) l (sub j r' e' l') l' f f' hb hb'
  hle := ok.hle
  hw := ok.hw
  hg := ok.hg
  kn := ok.kn

theorem Sat.clean {N : Nat} {B : Base} {h0 : FH} {s : St} {h : FH} {β : List RV} {w : World} {a : Act} (sat : Sat N B h0 s h β w a) : Sat N B h0 (clean s) h β w a := by
  refine ⟨?_, ?_, ?_, sat.defers, sat.sz, ?_, ?_⟩
  · exact sat.ok.weaken (by simp [eff_len, cleanT_len]) fun i r e l => cleanT_eff s.gl s.T i r e l
  · intro t G e ht
    obtain ⟨_, h1, rfl⟩ := cleanE_get ht
    exact sat.env t [] e h1
  · intro d i hi
    have hi : lkG [] d = some i := hi
    cases hi
  · intro t G e ht
    obtain ⟨_, h1, rfl⟩ := cleanE_get ht
    rfl
  · intro p hp; rw [cleanT_nil hp]

/-! Loops. -/

@[reducible] def writes : Code → List Nat
  | .region _ ops _ => dsts (tl ops)
  | .seq a b => catL (writes a) (writes b)
  | .cond _ a b => catL (writes a) (writes b)
  | .block _ c => writes c
  | .loop c => writes c
  | _ => []
@[reducible] def keyOf : Code → Nat
  | .region id _ _ => id
  | .seq a _ => keyOf a
  | .cond _ a _ => keyOf a
  | .block _ c => keyOf c
  | .loop c => keyOf c
  | _ => 0

@[reducible] def scBelow (n : Nat) : SC → Bool
  | .own i _ => Nat.ble (i + 1) n
  | .row i => Nat.ble (i + 1) n
  | .rowp i _ _ _ => Nat.ble (i + 1) n
  | _ => true
@[reducible] def svBelow (n : Nat) : SV → Bool
  | .c x => scBelow n x
  | .agg xs => allL (scBelow n) xs
  | _ => true
@[reducible] def entBelow (n : Nat) : Ent → Bool
  | .one v => svBelow n v
  | .tup vs => allL (svBelow n) vs
@[reducible] def resBelow (n : Nat) : Res → Bool
  | .blk _ xs => allL (scBelow n) xs
  | _ => true

@[reducible] def scRefFree : SC → Bool
  | .v _ => true
  | .sl _ _ => true
  | .fp _ _ => true
  | .abs _ => true
  | .junk => true
  | _ => false
@[reducible] def svRefFree : SV → Bool
  | .c x => scRefFree x
  | .agg xs => allL scRefFree xs
  | _ => true
@[reducible] def entRefFree : Ent → Bool
  | .one v => svRefFree v
  | .tup vs => allL svRefFree vs
/-- One entry that leads to a resource. -/
@[reducible] def entRef (n : Nat) : Ent → Bool
  | .one (.c (.own i _)) => Nat.ble (i + 1) n
  | .one (.c (.row i)) => Nat.ble (i + 1) n
  | _ => false

/-- What the body leaves alone: data. -/
@[reducible] def keepE (ws : List Nat) (seen : List Nat) : List (Nat × Gd × Ent) → List (Nat × Gd × Ent)
  | [] => []
  | (k, g, e) :: l => match memN k seen with
    | true => keepE ws seen l
    | false => match memN k ws with
      | true => keepE ws (k :: seen) l
      | false => match andB (isNil g) (entRefFree e) with
        | true => (k, g, e) :: keepE ws (k :: seen) l
        | false => keepE ws (k :: seen) l
/-- What the body leaves alone: ways to resources. -/
@[reducible] def keepR (n : Nat) (ws : List Nat) (seen : List Nat) : List (Nat × Gd × Ent) → List (Nat × SV)
  | [] => []
  | (k, g, e) :: l => match memN k seen with
    | true => keepR n ws seen l
    | false => match memN k ws with
      | true => keepR n ws (k :: seen) l
      | false => match isNil g with
        | true => match e with
          | .one (.c (.own i off)) => match Nat.ble (i + 1) n with
            | true => (k, .c (.own i off)) :: keepR n ws (k :: seen) l
            | false => keepR n ws (k :: seen) l
          | .one (.c (.row i)) => match Nat.ble (i + 1) n with
            | true => (k, .c (.row i)) :: keepR n ws (k :: seen) l
            | false => keepR n ws (k :: seen) l
          | _ => keepR n ws (k :: seen) l
        | false => keepR n ws (k :: seen) l

/-- The ways to resources are still there. -/
@[reducible] def hasR (s : St) : List (Nat × SV) → Bool
  | [] => true
  | (k, .c (.own i off)) :: l => match lkE s.env k with
    | some ([], .one (.c (.own i' off'))) => andB (andB (Nat.beq i i') (Nat.beq off off')) (hasR s l)
    | _ => false
  | (k, .c (.row i)) :: l => match lkE s.env k with
    | some ([], .one (.c (.row i'))) => andB (Nat.beq i i') (hasR s l)
    | _ => false
  | _ => false

@[reducible] def slotE : List (Nat × SV) → List (Nat × Gd × Ent)
  | [] => []
  | (k, v) :: l => (k, [], .one v) :: slotE l
@[reducible] def updT : List (Nat × Res) → List (Gd × Res) → List (Gd × Res)
  | [], T => T
  | (i, r) :: l, T => updT l (setL T i ([], r))
@[reducible] def headSt (ws : List Nat) (s : St) (sl : List (Nat × SV)) (rs : List (Nat × Res)) : St :=
  { env := catL (slotE sl) (catL (slotE (keepR (lenL s.T) ws [] s.env)) (keepE ws [] s.env)), T := updT rs s.T, gl := [], gs := [] }

@[reducible] def hasE (s : St) : List (Nat × SV) → Prop
  | [] => True
  | (k, v) :: l => (match lkE s.env k with
    | some ([], .one u) => u = v
    | _ => False) ∧ hasE s l

@[reducible] def goodT (n : Nat) (T : List (Gd × Res)) : Bool := allL (fun p => andB (isNil p.1) (resBelow n p.2)) T
@[reducible] def goodS (n : Nat) (ws : List Nat) (sl : List (Nat × SV)) : Bool := allL (fun p => andB (svBelow n p.2) (memN p.1 ws)) sl

/-- Nil slices that a loop takes for rows. -/
@[reducible] def nil1 (s : St) (k : Nat) (t : TypeId) (sh : Sh) : St := match lkE s.env k with
  | some ([], .one (.c (.v (.slice none 0 0)))) => { s with T := snoc s.T ([], .row t sh []), env := (k, [], .one (.c (.row (lenL s.T)))) :: s.env, gs := rmG s.gs k }
  | some ([], .one (.c (.own i 0))) => match nthL s.T i with
    | some ([], .blk t' [.v (.slice none 0 0)]) => { s with T := setL s.T i ([], .blk t' [.sl sh []]) }
    | _ => s
  | _ => s
/-- A resource is read otherwise. -/
theorem OK.reread {B : Base} {h0 : FH} {T : List Res} {h : FH} {β : List RV} {w : World} (ok : OK B h0 T h β w) {i : Nat} {r r' : Res} (hT : T[i]? = some r) (hl : r.live = true) (hold : ∀ v, Holds h β w r v → Holds h β w r' v) : OK B h0 (T.set i r') h β w := by
  have hi : i < T.length := (List.getElem?_eq_some_iff.1 hT).1
  have key : ∀ {m : Nat} {rm : Res}, (T.set i r')[m]? = some rm → rm.live = true → ∃ rm', T[m]? = some rm' ∧ rm'.live = true := by
    intro m rm e l
    by_cases hm : m = i
    · subst hm; exact ⟨r, hT, hl⟩
    · rw [List.getElem?_set_ne (Ne.symm hm)] at e; exact ⟨rm, e, l⟩
  exact {
    below := ok.below
    dr := ok.dr
    len := by simp [ok.len]
    holds := by
      intro j rj vj ej ej'
      by_cases hj : j = i
      · subst hj
        rw [List.getElem?_set_self hi] at ej
        cases ej
        exact hold vj (ok.holds j r vj hT ej')
      · rw [List.getElem?_set_ne (Ne.symm hj)] at ej; exact ok.holds j rj vj ej ej'
    own := by
      intro j rj vj b ej l ej' hb
      obtain ⟨rm, e1, e2⟩ := key ej l
      exact ok.own j rm vj b e1 e2 ej' hb
    inj := by
      intro j k r1 r2 u v b e1 l1 e2 l2 e3 e4 b1 b2
      obtain ⟨q1, f1, f2⟩ := key e1 l1
      obtain ⟨q2, g1, g2⟩ := key e2 l2
      exact ok.inj j k q1 q2 u v b f1 f2 g1 g2 e3 e4 b1 b2
    hle := ok.hle
    hw := ok.hw
    hg := ok.hg
    kn := ok.kn }
@[reducible] def frzSlot (s : St) (k : Nat) : St := match lkE s.env k with
  | some ([], .one (.c (.row r))) => frzS s r
  | _ => s
@[reducible] def frzSlots (s : St) : List Nat → St
  | [] => s
  | k :: l => frzSlots (frzSlot s k) l
theorem Sat.frzSlots {N : Nat} {B : Base} {h0 : FH} {w : World} {a : Act} {β : List RV} : ∀ (l : List Nat) {s : St} {h : FH}, Sat N B h0 s h β w a → ∃ h', h.le h' ∧ Sat N B h0 (frzSlots s l) h' β w a
  | [], s, h, sat => ⟨h, FH.le.refl h, sat⟩
  | k :: l, s, h, sat => by
    have h1 : ∃ h', h.le h' ∧ Sat N B h0 (frzSlot s k) h' β w a := by
      unfold frzSlot
      split
      · exact sat.frz1 _
      · exact ⟨h, FH.le.refl h, sat⟩
    obtain ⟨h1, le1, sat1⟩ := h1
    obtain ⟨h2, le2, sat2⟩ := Sat.frzSlots l sat1
    exact ⟨h2, le1.trans le2, sat2⟩
@[reducible] def nilSt (s : St) : List (Nat × TypeId × Sh) → St
  | [] => s
  | (k, t, sh) :: l => nilSt (nil1 s k t sh) l

theorem Sat.nil1 {N : Nat} {B : Base} {h0 : FH} {s : St} {h : FH} {β : List RV} {w : World} {a : Act} (sat : Sat N B h0 s h β w a) (k : Nat) (t : TypeId) (sh : Sh) : ∃ β', Sat N B h0 (nil1 s k t sh) h β' w a := by
  unfold Eng.nil1
  split
  · rename_i hk
    obtain ⟨z, z1, z2, _⟩ := sat.env k _ _ hk
    have ez : z = .slice none 0 0 := (z2 rfl : CnV h β (.c (.v (.slice none 0 0))) z).1.1
    subst ez
    have ok : OK B h0 (eff s.gl (snoc s.T ([], .row t sh []))) h (β ++ [.row (.slice none 0 0)]) w := by
      rw [eff_snoc]
      exact sat.ok.add (r := .row t sh []) (v := .row (.slice none 0 0)) (grown_refl w none) (fun b hb => by simp [RV.block, rowBlk] at hb) (.inl ⟨rfl, rfl⟩)
    have gT : ∀ p ∈ snoc s.T (([] : Gd), Res.row t sh []), gbd s.gl.length p.1 = true := by
      intro p hp
      rw [snoc_eq, List.mem_append] at hp
      rcases hp with hp | hp
      · exact sat.gT p hp
      · simp at hp; subst hp; rfl
    have sm := sat.mem ok (FH.le.refl h) (Ext.append _ _) gT
    refine ⟨_, ok, ?_, ?_, sat.defers, sat.sz, ?_, gT⟩
    · intro t' G e ht
      rw [lkE_cons] at ht
      split at ht
      · rename_i hkt
        subst hkt; cases ht
        refine ⟨_, z1, fun _ => ⟨?_, rfl, rfl⟩, fun hh => by cases hh⟩
        show (β ++ [.row (.slice none 0 0)])[lenL s.T]? = some (.row (.slice none 0 0))
        have : lenL s.T = β.length := by rw [sat.ok.len, eff_len, lenL_eq]
        rw [this]; simp
      · exact sm.env t' G e ht
    · intro d i hi
      obtain ⟨hne, hi⟩ := lkG_rm _ _ _ _ hi
      obtain ⟨G, b, q1, q2⟩ := sat.gs d i hi
      exact ⟨G, b, by rw [lkE_cons, if_neg (Ne.symm hne)]; exact q1, q2⟩
    · intro t' G e ht
      rw [lkE_cons] at ht
      split at ht
      · cases ht; rfl
      · exact sat.gb _ _ _ ht
  · rename_i i hk
    split
    · rename_i t' hT
      refine ⟨β, ?_, sat.env, sat.gs, sat.defers, sat.sz, sat.gb, ?_⟩
      · show OK B h0 (eff s.gl (setL s.T i ([], .blk t' [.sl sh []]))) h β w
        rw [eff_set]
        refine sat.ok.reread (effres hT (show gv s.gl [] = true from rfl)) rfl fun v hv => ?_
        cases v with
        | blk b =>
          obtain ⟨ys, e1, al⟩ := hv
          refine ⟨ys, e1, ?_⟩
          cases ys with
          | nil => exact al.elim
          | cons y ys =>
            cases ys with
            | cons _ _ => exact al.2.elim
            | nil =>
              obtain ⟨⟨c, o⟩, _⟩ := al
              obtain rfl : y = .slice none 0 0 := c.1
              exact ⟨⟨.inl ⟨rfl, rfl⟩, o⟩, trivial⟩
        | row _ => exact hv.elim
        | no => exact hv.elim
      · intro p hp
        rw [setL_eq] at hp
        rcases List.mem_or_eq_of_mem_set hp with hp | hp
        · exact sat.gT p hp
        · subst hp; rfl
    · exact ⟨β, sat⟩
  · exact ⟨β, sat⟩
theorem Sat.nilSt {N : Nat} {B : Base} {h0 : FH} {h : FH} {w : World} {a : Act} : ∀ (l : List (Nat × TypeId × Sh)) {s : St} {β : List RV}, Sat N B h0 s h β w a → ∃ β', Sat N B h0 (nilSt s l) h β' w a
  | [], s, β, sat => ⟨β, sat⟩
  | (k, t, sh) :: l, s, β, sat => by
    obtain ⟨β1, sat1⟩ := sat.nil1 k t sh
    exact Sat.nilSt l sat1

@[reducible] def loopK (body : St → (Exit → St → Prop) → Prop) (ws : List Nat) (la : LA) (s : St) (K : Exit → St → Prop) : Prop :=
  (∃ x, la.inv x ∧ hasE s (la.slots x) ∧ s.T = updT (la.res x) s.T) ∧
  ∀ x, la.inv x → match andB (goodT (lenL s.T) (updT (la.res x) s.T)) (goodS (lenL s.T) ws (la.slots x)) with
    | false => False
    | true => body (headSt ws s (la.slots x) (la.res x)) fun e s' => match e with
      | .normal => match hasR (swAll la.ren s') (keepR (lenL s.T) ws [] s.env) with
        | true => ∃ x', la.inv x' ∧ hasE (swAll la.ren s') (la.slots x') ∧ takeL (lenL s.T) (swAll la.ren s').T = updT (la.res x') s.T ∧ la.meas x' < la.meas x
        | false => False
      | e => K e s'

@[reducible] def roundsK (body : St → (Exit → St → Prop) → Prop) : Nat → St → (Exit → St → Prop) → Prop
  | 0, _, _ => False
  | n + 1, s, K => body s fun e s' => match e with
    | .normal => roundsK body n s' K
    | e => K e s'

@[reducible] def annK (E : Env) (c : Code) (s : St) : Option Ann := match E.ann (keyOf c) with
  | some f => some (f s)
  | none => none

/-! What a loop's relation may ask of the state before it. -/
@[reducible] def slotI (s : St) (t : Nat) : Int := match lkE s.env t with
  | some (_, .one (.c (.v (.int _ n)))) => n
  | _ => 0
@[reducible] def slotB (s : St) (t : Nat) : Bool := match lkE s.env t with
  | some (_, .one (.c (.v (.bool b)))) => b
  | _ => false
@[reducible] def slotS (s : St) (t : Nat) : ByteArray := match lkE s.env t with
  | some (_, .one (.c (.v (.string b)))) => b
  | _ => ByteArray.empty
@[reducible] def slotL (sh : Sh) (s : St) (t : Nat) : List sh.den := match lkE s.env t with
  | some (_, .one v) => match srcD s sh v with
    | some l => l
    | none => []
  | _ => []
@[reducible] def slotD (sh : Sh) (s : St) (t : Nat) : sh.den := match lkE s.env t with
  | some (_, .one v) => match toDat sh v with
    | some d => d
    | none => dflt sh
  | _ => dflt sh

/-- A branch. -/
@[reducible] def br (b : Bool) (X Y : Prop) : Prop := match b with
  | true => X
  | false => Y
theorem br_iff {b : Bool} {X Y : Prop} : br b X Y ↔ (b = true → X) ∧ (b = false → Y) := by cases b <;> simp [br]

/-- The parameters of a round. -/
@[reducible] def parE : (ps : List Nat) → (ss : List Sh) → dens ss → List (Nat × Gd × Ent)
  | p :: ps, s :: ss, d => (p, [], .one (ofDat s d.1)) :: parE ps ss d.2
  | _, _, _ => []
@[reducible] def parOK (n : Nat) : List Nat → List Sh → Bool
  | [], [] => true
  | p :: ps, _ :: ss => andB (andB (Nat.ble (p + 1) n) (!(memN p ps))) (parOK n ps ss)
  | _, _ => false
/-- What the caller's slots hold in a round, and behind the loop. -/
@[reducible] def rdE (ws dr : List Nat) (s : St) : List (Nat × Gd × Ent) := catL (slotE (keepR (lenL s.T) ws [] s.env)) (keepE dr [] s.env)
@[reducible] def rangeK (n : Nat) (body : St → (Exit → St → Prop) → Prop) (ws : List Nat) (ra : RA) (ps : List Nat) (ss : List Sh) (L : List (dens ss)) (s : St) (K : Exit → St → Prop) : Prop :=
  match parOK n ps ss with
  | false => False
  | true =>
  (∃ x, ra.inv 0 x ∧ s.T = updT (ra.res x) s.T) ∧
  (∀ i x d, ra.inv i x → L[i]? = some d → match goodT (lenL s.T) (updT (ra.res x) s.T) with
    | false => False
    | true => body { env := catL (parE ps ss d) (rdE ws (catL ra.drop ps) s), T := updT (ra.res x) s.T, gl := [], gs := [] } fun e s' => match hasR s' (keepR (lenL s.T) ws [] s.env) with
      | false => False
      | true => match e with
        | .normal => ∃ x', ra.inv (i + 1) x' ∧ takeL (lenL s.T) s'.T = updT (ra.res x') s.T
        | .ret => K .ret { env := rdE ws ra.drop s, T := s'.T, gl := s'.gl, gs := [] }
        | .exit j => K (.exit j) { env := rdE ws ra.drop s, T := s'.T, gl := s'.gl, gs := [] }
        | _ => False) ∧
  ∀ x, ra.inv (lenL L) x → match goodT (lenL s.T) (updT (ra.res x) s.T) with
    | false => False
    | true => K .normal { env := rdE ws ra.drop s, T := updT (ra.res x) s.T, gl := [], gs := [] }

@[reducible] def codeK : Env → Code → St → (Exit → St → Prop) → Prop
  | E, .skip, s, K => K .normal s
  | E, .region _ ops draw, s, K => match ndL (tl ops) with
    | false => False
    | true => match draw with
      | false => opsI E (tl ops) (tl ops) s fun s => K .normal (clean s)
      | true => match drawOrd ops with
        | some l => treeK E (tl ops) l s fun s => K .normal (clean s)
        | none => False
  | E, .seq x y, s, K => codeK E x s fun e s' => match e with
    | .normal => codeK E y s' K
    | e => K e s'
  | E, .cond c x y, s, K => match getE E.cx s [] c with
    | some (.one (.c (.v (.bool b)))) => br b (codeK E x s K) (codeK E y s K)
    | _ => False
  | E, .block id c, s, K => codeK E c s fun e s' => match e with
    | .exit i => match Nat.beq i id with
      | true => K .normal s'
      | false => K (.exit i) s'
    | e => K e s'
  | E, .loop c, s, K => match annK E c s with
    | some (.inv la) => loopK (codeK E c) (catL la.drop (writes c)) la (nilSt (frzSlots s la.frz) la.nil) K
    | some (.unroll n) => roundsK (codeK E c) n s K
    | _ => False
  | E, .rangeFunc g ps asg c, s, K => match E.rd with
    | true => False
    | false => match getE E.cx s [] g with
      | some (.one (.c (.abs (.seq P' ss L)))) => match annK E c s with
        | some (.rng ra) => E.P = some P' ∧ rangeK E.n (fun s K => codeK { E with rd := true } asg s fun e s' => match e with
          | .normal => codeK { E with rd := true } c s' K
          | _ => False) (catL ra.drop (catL (tl ps) (catL (writes asg) (writes c)))) ra (tl ps) ss L (nilSt (frzSlots s ra.frz) ra.nil) K
        | _ => False
      | _ => False
  | E, .exit i, s, K => K (.exit i) s
  | E, .ret, s, K => K .ret s
  | _, _, _, _ => False
end Go.Eng
