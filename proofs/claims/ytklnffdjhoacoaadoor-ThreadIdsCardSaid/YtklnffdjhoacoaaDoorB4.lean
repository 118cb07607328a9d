/- Texts of this claim, part 4: EngO, EngRg, EngP, EngQ, EngIp. Conditions: those of the given rows. -/
import Derived.Test.YtklnffdjhoacoaaDoorB3
import Derived.Deep.LoopGhost
set_option linter.unusedSimpArgs false
set_option linter.unusedVariables false
namespace Go.Eng
open Go Go.RowKit
structure LA where
  α : Type
  slots : α → List (Nat × SV)
  res : α → List (Nat × Res)
  inv : α → Prop
  meas : α → Nat
  ren : List (Nat × Nat) := []
  drop : List Nat := []
  nil : List (Nat × TypeId × Sh) := []
  frz : List Nat := []
  pad : Nat := 0
  frzI : List Nat := []
  deep : List (Nat × TypeId × Sh × Nat) := []
  nilC : List (Nat × Nat × TypeId × Sh) := []
  can : List (Nat × Loc) := []
structure RA where
  α : Type
  res : α → List (Nat × Res)
  inv : Nat → α → Prop
  drop : List Nat := []
  nil : List (Nat × TypeId × Sh) := []
  frz : List Nat := []
  frzI : List Nat := []
  deep : List (Nat × TypeId × Sh × Nat) := []
  nilC : List (Nat × Nat × TypeId × Sh) := []
inductive Ann where
  | inv (a : LA)
  | gen (a : LA) (gh : a.α → Nat)
  | unroll (n : Nat)
  | rng (a : RA)
  | cut (a : LA)
inductive RC where
  | keep
  | data (s : Sh)
  | row (t : TypeId) (s : Sh)
structure SQ where
  ss : List Sh
  ct : List (dens ss) → CT
structure SF where
  ss : List Sh
  r : Sh
  ct : (dens ss → Prop) → (dens ss → r.den) → CT
structure Env where
  cx : Cx
  n : Nat
  ct : Nat → Option CT
  ann : Nat → Option (St → Ann)
  ip : Nat → Option IP := fun _ => none
  rc : List RC := []
  lits : List Nat := []
  P : Option Program := none
  rd : Bool := false
  hc : Nat → Nat → Option CT := fun _ _ => none
  mkf : Nat → Option MK := fun _ => none
  sq : Nat → Option SQ := fun _ => none
  sf : Nat → Option SF := fun _ => none
@[reducible] def rowsA : List SV → List Nat
  | [] => []
  | v :: r => match v with
    | .c (.row i) => i :: rowsA r
    | .agg xs => rowsC xs (rowsA r)
    | _ => rowsA r
@[reducible] def frzL (E : Env) (s : St) (G : Gd) (f : Nat) (args : List Operand) : List Nat := match G with
  | _ :: _ => []
  | [] => match E.ct f with
    | none => []
    | some cc => match argsV E.cx s [] args with
      | none => []
      | some vs => match allL noRow vs with
        | true => []
        | false => match borA s [] vs with
          | none => []
          | some bs => match datA cc.ps bs with
            | none => []
            | some dd => match andB (entFlat (cc.res dd).2) (allL resFlat (cc.res dd).1) with
              | true => []
              | false => rowsA vs
@[reducible] def frzB (E : Env) (s : St) (G : Gd) (ps : List (Nat × Operand)) : List Nat := match G with
  | _ :: _ => []
  | [] => rowsOf E.cx s ps
@[reducible] def frzSt (E : Env) (s : St) (p x : Operand) : List Nat := match getE E.cx s [] x with
  | some (.one v) => match rowsA [v] with
    | [] => []
    | i :: r => match getE E.cx s [] p with
      | some (.one (.c (.own q _))) => match nthL s.T q with
        | some ([], .obj _ _ _) => i :: r
        | _ => []
      | some (.one (.c (.rowp _ _ _ _))) => i :: r
      | _ => []
  | _ => []
@[reducible] def lastF : List Operand → Option (List Operand × Nat)
  | [] => none
  | x :: l => match l with
    | [] => match x with
      | .func g => some ([], g)
      | _ => none
    | _ :: _ => match lastF l with
      | some (m, g) => some (x :: m, g)
      | none => none
theorem lastF_eq {a : Act} : ∀ {l xs : List Operand} {g : Nat}, lastF l = some (xs, g) → l.map a.eval = xs.map a.eval ++ [.func (.func g) #[] #[]]
  | [], _, _, h => by simp [lastF] at h
  | [x], xs, g, h => by
    simp only [lastF] at h
    split at h
    · cases h; rfl
    · cases h
  | x :: y :: l, xs, g, h => by
    simp only [lastF] at h
    split at h
    · rename_i m g' hm
      cases h
      have := lastF_eq (a := a) (l := y :: l) hm
      simp only [List.map_cons] at this ⊢
      rw [this]; rfl
    · cases h
@[reducible] def lastO : List Operand → Option (List Operand × Operand)
  | [] => none
  | x :: l => match l with
    | [] => some ([], x)
    | _ :: _ => match lastO l with
      | some (m, g) => some (x :: m, g)
      | none => none
theorem lastO_eq {a : Act} : ∀ {l xs : List Operand} {g : Operand}, lastO l = some (xs, g) → l.map a.eval = xs.map a.eval ++ [a.eval g]
  | [], _, _, h => by simp [lastO] at h
  | [x], xs, g, h => by
    simp only [lastO] at h
    cases h; rfl
  | x :: y :: l, xs, g, h => by
    simp only [lastO] at h
    split at h
    · rename_i m g' hm
      cases h
      have := lastO_eq (a := a) (l := y :: l) hm
      simp only [List.map_cons] at this ⊢
      rw [this]; rfl
    · cases h
@[reducible] def castQ (ss ss' : List Sh) (L : List (dens ss)) : Option (List (dens ss')) := if h : ss = ss' then some (h ▸ L) else none
theorem castQ_eq {ss ss' : List Sh} {L : List (dens ss)} {M : List (dens ss')} (h : castQ ss ss' L = some M) : ∃ e : ss = ss', e ▸ L = M := by
  unfold castQ at h
  split at h
  · rename_i e; cases h; exact ⟨e, rfl⟩
  · cases h
@[reducible] def hcL (E : Env) (f : Nat) (args : List Operand) : Option (CT × List Operand) := match lastF args with
  | some (xs, g) => match E.hc f g with
    | some ct => some (ct, xs)
    | none => none
  | none => none
@[reducible] def stepK0 (E : Env) (ops : List Oper) (o : Oper) (s : St) (K : St → Prop) : Prop := match dOK E.n o.dst with
  | false => False
  | true => guardK E.lits s ops o.guard fun G s => match o.op with
    | .alloc t => allocK E.cx s G o.dst t K
    | .box t x => boxK E.cx s G o.dst t x K
    | .buildSlice t n ps => buildSliceK E.cx (frzAll s (frzB E s G (tl ps))) G o.dst t n (tl ps) K
    | .makeSlice t l c => makeK E.cx s G o.dst t l c K
    | .store t p x => match G with
      | [] => match dstP E.cx s o.dst t p x K with
        | some q => q
        | none => storeK E.cx (frzAll s (frzSt E s p x)) o.dst t p x K
      | _ :: _ => False
    | .call c => match c.callee with
      | .value (.func f) => match hcL E f (tl c.args) with
        | some (ct, xs) => callK E.cx (fun _ => some ct) s G o.dst f xs K
        | none => callK E.cx E.ct (frzAll s (frzL E s G f (tl c.args))) G o.dst f (tl c.args) K
      | .builtin .append => match G with
        | [] => match tl c.args with
          | [x, y] => match tl c.argTypes with
            | [t, t'] => match Nat.beq t t' with
              | true => match openK s x fun s => appendK E.cx s o.dst t x y K with
                | some q => q
                | none => appendK E.cx s o.dst t x y K
              | false => False
            | _ => False
          | _ => False
        | _ :: _ => False
      | .builtin .copy => match G with
        | [] => match tl c.args with
          | [x, y] => match tl c.argTypes with
            | [t, _] => copyK E.cx s o.dst t x y K
            | _ => False
          | _ => False
        | _ :: _ => False
      | .builtin .min => match G with
        | [] => match tl c.args with
          | [x, y] => minK E.cx s o.dst x y K
          | _ => False
        | _ :: _ => False
      | .builtin .max => match G with
        | [] => match tl c.args with
          | [x, y] => maxK E.cx s o.dst x y K
          | _ => False
        | _ :: _ => False
      | _ => pureK E.cx s G o fun e => K (s.put o.dst G e)
    | _ => pureK E.cx s G o fun e => K (s.put o.dst G e)
@[reducible] def stepK (E : Env) (ops : List Oper) (o : Oper) (s : St) (K : St → Prop) : Prop := match apP E.cx s o K with
  | some p => match dOK E.n o.dst with
    | false => False
    | true => p
  | none => stepK0 E ops o s K
structure EnvOK (P : Program) (E : Env) : Prop where
  prog : ∀ P', E.P = some P' → P' = P
  hc : ∀ f g c, E.hc f g = some c → CTX P E.cx.gd f [.func (.func g) #[] #[]] c ∧ FnIs P f
  mkf : ∀ g m, E.mkf g = some m → ∀ d h lb, m.pre d → GlobOK E.cx.gd h → capD h m.ss d lb → (m.f d).rel h (.func (.func g) #[] lb.toArray)
  mixed : P.follows .mixedOrders = true
  ti : TisOK P E.cx.ti
  ct : ∀ f c, E.ct f = some c → CTOK P E.cx.gd f c ∧ ∃ fn, P.funcs[f]? = some fn ∧ fn.body.isSome = true ∧ (fn.name == "runtime.NumGoroutine") = false
  ip : ∀ f c, E.ip f = some c → IPOK P E.cx.gd f c ∧ ∃ fn, P.funcs[f]? = some fn ∧ fn.body.isSome = true ∧ (fn.name == "runtime.NumGoroutine") = false
  sq : ∀ f q, E.sq f = some q → (∀ L, CTS P E.cx.gd f [.c (.abs (.seq P q.ss L))] (q.ct L)) ∧ FnIs P f
  sf : ∀ f q, E.sf f = some q → (∀ pre g, CTS P E.cx.gd f [.c (.abs (.clo P q.ss q.r pre g))] (q.ct pre g)) ∧ FnIs P f
theorem OpOK.cast {P : Program} {N : Nat} {B : Base} {h0 h : FH} {w : World} {a : Act} {o : Oper} {b b' : Bool} {K : St → Prop} (e : b = b') (h' : OpOK P N B h0 h w a o b' K) : OpOK P N B h0 h w a o b K := by rw [e]; exact h'
theorem frzS_gl (s : St) (i : Nat) : (frzS s i).gl = s.gl := by
  unfold frzS
  split <;> rfl
theorem frzAll_gl : ∀ {l : List Nat} {s : St}, (frzAll s l).gl = s.gl
  | [], _ => rfl
  | i :: l, s => by
    show (frzAll (frzS s i) l).gl = s.gl
    rw [frzAll_gl, frzS_gl]
theorem OpOK.le {P : Program} {N : Nat} {B : Base} {h0 h h' : FH} {w : World} {a : Act} {o : Oper} {b : Bool} {K : St → Prop} (le : h.le h') (k : OpOK P N B h0 h' w a o b K) : OpOK P N B h0 h w a o b K :=
  fun Nx Q next => k Nx Q fun s' h2 β' w' v k' le' q sat => next s' h2 β' w' v k' (le.trans le') q sat
theorem stepK0_ok {P : Program} {E : Env} (ok : EnvOK P E) {B : Base} {h0 : FH} {s : St} {h : FH} {β : List RV} {w : World} {a : Act} (sat : Sat E.n B h0 s h β w a) (hg : GlobOK E.cx.gd h) {ops : Array Oper} {o : Oper} {K : St → Prop}
    (k : stepK0 E (tl ops) o s K) : OpOK P E.n B h0 h w a o (Region.wanted o (yielded ops a.tmps)) K := by
  unfold stepK0 at k
  split at k
  · exact k.elim
  rename_i hd
  obtain ⟨G, s', k, sat', hw, hG⟩ := guardK_ok sat k
  refine OpOK.cast hw ?_
  split at k
  · rename_i t ho; exact alloc_step ok.ti sat' hG hd ho k
  · rename_i t x ho; exact box_step ok.ti sat' hg hG hd ho k
  · rename_i t n ps ho
    obtain ⟨h', le, sat2⟩ := sat'.frz (l := frzB E s' G (tl ps))
    have := buildSlice_step ok.ti sat2 (hg.mono le) (by rw [frzAll_gl]; exact hG) hd ho k
    rw [frzAll_gl] at this
    exact OpOK.le le this
  · rename_i t l c ho; exact make_step ok.ti sat' hg hG hd ho k
  · rename_i t p x ho
    split at k
    · split at k
      · rename_i q hq
        exact dst_step ok.ti sat' hg hd ho hq k
      · obtain ⟨h', le, sat2⟩ := sat'.frz (l := frzSt E s' p x)
        have := store_step ok.ti sat2 (hg.mono le) hd ho k
        rw [frzAll_gl] at this
        exact OpOK.le le this
    · exact k.elim
  · rename_i c ho
    split at k
    · rename_i f hcal
      split at k
      · rename_i ct xs hl
        unfold hcL at hl
        split at hl
        · rename_i xs' g hlf
          split at hl
          · rename_i ct' hct
            cases hl
            obtain ⟨hc, hf⟩ := ok.hc f g ct hct
            have k' : callK E.cx (fun f' => if f' = f then some ct else none) s' G o.dst f xs K := by
              unfold callK at k ⊢
              simpa using k
            exact call_stepX (suf := [.func (.func g) #[] #[]]) (fun f' c' e => by
              split at e
              · rename_i hff; cases e; rw [hff]; exact hc
              · cases e) sat' hg hG hd ho hcal (fun _ => rfl) (by
              have := lastF_eq (a := a) hlf
              rw [← this]; cases c.args; simp) hf k'
          · cases hl
        · cases hl
      · obtain ⟨h', le, sat2⟩ := sat'.frz (l := frzL E s' G f (tl c.args))
        refine OpOK.le le ?_
        rw [← frzAll_gl (l := frzL E s' G f (tl c.args)) (s := s')] at hG ⊢
        generalize frzAll s' (frzL E s' G f (tl c.args)) = s' at k sat2 hG ⊢
        unfold callK at k
        cases hct : E.ct f with
        | none => rw [hct] at k; exact k.elim
        | some cc => exact call_step (fun f c e => (ok.ct f c e).1) sat2 (hg.mono le) hG hd ho hcal (ok.ct f cc hct).2 k
    · rename_i hcal
      split at k
      · split at k
        · rename_i x y ha
          split at k
          · rename_i t t' ht
            split at k
            · rename_i htt
              have htt : t = t' := Nat.eq_of_beq_eq_true htt
              subst htt
              split at k
              · rename_i q hq
                obtain ⟨s2, β2, k2, sat2, egl⟩ := open_ok sat' hq k
                have := append_step ok.ti sat2 hg hd ho hcal (tl_eq ha) (tl_eq ht) k2
                rw [egl] at this
                exact this
              · exact append_step ok.ti sat' hg hd ho hcal (tl_eq ha) (tl_eq ht) k
            · exact k.elim
          · exact k.elim
        · exact k.elim
      · exact k.elim
    · rename_i hcal
      split at k
      · split at k
        · rename_i x y ha
          split at k
          · rename_i t t' ht
            exact copy_step ok.ti sat' hg hd ho hcal (tl_eq ha) (tl_eq ht) k
          · exact k.elim
        · exact k.elim
      · exact k.elim
    · rename_i hcal
      split at k
      · split at k
        · rename_i x y ha
          exact min_step sat' hg hd ho hcal (tl_eq ha) k
        · exact k.elim
      · exact k.elim
    · rename_i hcal
      split at k
      · split at k
        · rename_i x y ha
          exact max_stepQ sat' hg hd ho hcal (tl_eq ha) k
        · exact k.elim
      · exact k.elim
    · exact pure_step ok.ti sat' hg hG hd k
  · exact pure_step ok.ti sat' hg hG hd k
theorem stepK_ok {P : Program} {E : Env} (ok : EnvOK P E) {B : Base} {h0 : FH} {s : St} {h : FH} {β : List RV} {w : World} {a : Act} (sat : Sat E.n B h0 s h β w a) (hg : GlobOK E.cx.gd h) {ops : Array Oper} {o : Oper} {K : St → Prop}
    (k : stepK E (tl ops) o s K) : OpOK P E.n B h0 h w a o (Region.wanted o (yielded ops a.tmps)) K := by
  unfold stepK at k
  split at k
  · rename_i p hp
    split at k
    · exact k.elim
    · rename_i hd
      exact apP_ok ok.ti sat hg hd hp k
  · exact stepK0_ok ok sat hg k
@[reducible] def opsK (E : Env) (ops : List Oper) : List Oper → St → (St → Prop) → Prop
  | [], s, K => K s
  | o :: r, s, K => stepK E ops o s fun s => opsK E ops r s K
@[reducible] def memN (k : Nat) : List Nat → Bool
  | [] => false
  | j :: l => match Nat.beq k j with
    | true => true
    | false => memN k l
theorem memN_cons {k j : Nat} {l : List Nat} : memN k (j :: l) = (Nat.beq k j || memN k l) := by
  simp only [memN]; cases Nat.beq k j <;> rfl
theorem memN_cat {k : Nat} {m : List Nat} : ∀ {l : List Nat}, memN k (catL l m) = (memN k l || memN k m)
  | [] => rfl
  | j :: l => by rw [show catL (j :: l) m = j :: catL l m from rfl, memN_cons, memN_cons, memN_cat, Bool.or_assoc]
@[reducible] def dsts : List Oper → List Nat
  | [] => []
  | o :: l => match o.dst with
    | some d => d :: dsts l
    | none => dsts l
def Same (ws : List Nat) (a a' : Act) : Prop := ∀ t, memN t ws = false → a'.tmps[t]? = a.tmps[t]?
theorem Same.refl (ws : List Nat) (a : Act) : Same ws a a := fun _ _ => rfl
theorem Same.trans {ws : List Nat} {a b c : Act} (x : Same ws a b) (y : Same ws b c) : Same ws a c := fun t h => (y t h).trans (x t h)
theorem Same.left {l m : List Nat} {a b : Act} (x : Same l a b) : Same (catL l m) a b := fun t h => x t (by rw [memN_cat, Bool.or_eq_false_iff] at h; exact h.1)
theorem Same.right {l m : List Nat} {a b : Act} (x : Same m a b) : Same (catL l m) a b := fun t h => x t (by rw [memN_cat, Bool.or_eq_false_iff] at h; exact h.2)
theorem Same.put {o : Oper} {l : List Oper} {a : Act} {v : Value} {b : Act} (x : Same (dsts l) (a.put o.dst v) b) : Same (dsts (o :: l)) a b := by
  intro t h
  cases hd : o.dst with
  | none =>
    have e : dsts (o :: l) = dsts l := by simp only [dsts, hd]
    rw [e] at h
    rw [x t h, hd]; rfl
  | some d =>
    have e : dsts (o :: l) = d :: dsts l := by simp only [dsts, hd]
    rw [e, memN_cons, Bool.or_eq_false_iff] at h
    rw [x t h.2, hd]
    have hne : d ≠ t := fun hh => Nat.ne_of_beq_eq_false h.1 hh.symm
    simp [Act.put, Array.getElem?_setIfInBounds_ne hne]
@[reducible] def ipOf (E : Env) (s : St) (o : Oper) : Option IP := match o.guard with
  | some _ => none
  | none => match o.op with
    | .call c => match c.callee with
      | .value (.func f) => match E.ip f with
        | none => none
        | some ip => match tl c.args with
          | [] => none
          | x :: _ => match getE E.cx s [] x with
            | some (.one (.c (.row _))) => some ip
            | _ => none
      | _ => none
    | _ => none
@[reducible] def dipOf (E : Env) (s : St) (o : Oper) : Option IP := match o.guard with
  | some _ => none
  | none => match o.op with
    | .call c => match c.callee with
      | .value (.func f) => match E.ip f with
        | none => none
        | some ip => match tl c.args with
          | [] => none
          | x :: _ => match getE E.cx s [] x with
            | some (.one (.c (.sub _ _))) => some ip
            | _ => none
      | _ => none
    | _ => none
@[reducible] def argsOf : Op → List Operand
  | .call c => tl c.args
  | _ => []
@[reducible] def fnOf : Value → Option Nat
  | .func (.func f) a b => match tl a with
    | [] => match tl b with
      | [] => some f
      | _ :: _ => none
    | _ :: _ => none
  | _ => none
@[reducible] def resQ (sh : Sh) : Res → Option SV
  | .obj _ s d => match andB sh.isAgg s.isAgg with
    | true => some (.dat s d)
    | false => none
  | .blk _ xs => match sh.isAgg with
    | true => some (.agg xs)
    | false => match xs with
      | [x] => some (.c x)
      | _ => none
  | _ => none
@[reducible] def capS (s : St) : (ss : List Sh) → List Operand → Option (St × dens ss)
  | [], [] => some (s, ())
  | sh :: ss, x :: l => match x with
    | .tmp t => match lkE s.env t with
      | some ([], .one (.c (.own i 0))) => match nthL s.T i with
        | some ([], r) => match resQ sh r with
          | some v => match toDat sh v with
            | some d => match capS { s with T := setL s.T i ([], .gone) } ss l with
              | some (s', ds) => some (s', (d, ds))
              | none => none
            | none => none
          | none => none
        | _ => none
      | _ => none
    | _ => none
  | _, _ => none
inductive HO where
  | hc (c : CT) (xs : List Operand)
  | cc (f : Nat) (xs : List Operand)
  | mk (g : Nat) (cap : List Operand)
  | sq (P : Program) (c : CT) (xs : List Operand)
  | sf (P : Program) (ss : List Sh) (r : Sh) (pre : dens ss → Prop) (g : dens ss → r.den) (q : SF) (xs : List Operand)
@[reducible] def sfOf (E : Env) (s : St) (f : Nat) (args : List Operand) : Option HO := match E.sf f with
  | none => none
  | some q => match lastO args with
    | none => none
    | some (xs, x) => match getE E.cx s [] x with
      | some (.one (.c (.abs (.clo P ss r pre g)))) => some (.sf P ss r pre g q xs)
      | _ => none
@[reducible] def sqOf (E : Env) (s : St) (f : Nat) (args : List Operand) : Option HO := match E.sq f with
  | none => sfOf E s f args
  | some q => match lastO args with
    | none => none
    | some (xs, x) => match getE E.cx s [] x with
      | some (.one (.c (.abs (.seq P ss L)))) => match castQ ss q.ss L with
        | some L => some (.sq P (q.ct L) xs)
        | none => none
      | _ => none
@[reducible] def hoOf (E : Env) (s : St) (o : Oper) : Option HO := match o.guard with
  | some _ => none
  | none => match o.op with
    | .call c => match c.callee with
      | .value (.func f) => match lastF (tl c.args) with
        | some (xs, g) => match E.hc f g with
          | some ct => some (.hc ct xs)
          | none => none
        | none => sqOf E s f (tl c.args)
      | .value (.tmp t) => match lkE s.env t with
        | some ([], .one (.c (.v v))) => match fnOf v with
          | some f => some (.cc f (tl c.args))
          | none => none
        | some ([], .one (.c (.abs (.clo P ss r pre g)))) => some (.sq P { ps := ss, pre := pre, res := fun d => ([], .one (ofDat r (g d))) } (tl c.args))
        | _ => none
      | _ => none
    | .makeFunc (.func g) fst cap => match tl fst with
      | [] => some (.mk g (tl cap))
      | _ :: _ => none
    | _ => none
@[reducible] def hoK (E : Env) (s : St) (d : Option Nat) (x : HO) (K : St → Prop) : Prop := match x with
  | .hc c xs => callK E.cx (fun _ => some c) s [] d 0 xs K
  | .cc f xs => callK E.cx E.ct s [] d f xs K
  | .sq P c xs => E.P = some P ∧ callK E.cx (fun _ => some c) s [] d 0 xs K
  | .sf P ss r pre g q xs => E.P = some P ∧ ∃ pre' g', Abs.clo P ss r pre g = Abs.clo P q.ss q.r pre' g' ∧ callK E.cx (fun _ => some (q.ct pre' g')) s [] d 0 xs K
  | .mk g cap => match E.mkf g with
    | none => False
    | some m => match capS s m.ss cap with
      | none => False
      | some (s', ds) => m.pre ds ∧ K (s'.put d [] (.one (.c (.abs (m.f ds)))))
@[reducible] def stepI (E : Env) (ops : List Oper) (o : Oper) (s : St) (K : St → Prop) : Prop := match mapP E.cx s o K with
  | some p => match dOK E.n o.dst with
    | false => False
    | true => p
  | none => match hoOf E s o with
  | some x => match dOK E.n o.dst with
    | false => False
    | true => hoK E s o.dst x K
  | none => match dipOf E s o with
  | some ip => match dOK E.n o.dst with
    | false => False
    | true => dipK E.cx ip s o.dst (argsOf o.op) K
  | none => match ipOf E s o with
  | none => match extQ E.cx s o K with
    | none => stepK E ops o s K
    | some p => match dOK E.n o.dst with
      | false => False
      | true => p
  | some ip => match dOK E.n o.dst with
    | false => False
    | true => ipK E.cx ip s o.dst (argsOf o.op) K
@[reducible] def opsI (E : Env) (ops : List Oper) : List Oper → St → (St → Prop) → Prop
  | [], s, K => K s
  | o :: r, s, K => stepI E ops o s fun s => opsI E ops r s K
theorem ipOf_spec {E : Env} {s : St} {o : Oper} {ip : IP} (e : ipOf E s o = some ip) : o.guard = none ∧ ∃ c f, o.op = .call c ∧ c.callee = .value (.func f) ∧ E.ip f = some ip := by
  unfold ipOf at e
  split at e
  · cases e
  · rename_i hgd
    split at e
    · rename_i c ho
      split at e
      · rename_i f hcal
        split at e
        · cases e
        · rename_i ip' hip
          split at e
          · cases e
          · split at e
            · cases e; exact ⟨hgd, c, f, ho, hcal, hip⟩
            · cases e
      · cases e
    · cases e
theorem dipOf_spec {E : Env} {s : St} {o : Oper} {ip : IP} (e : dipOf E s o = some ip) : o.guard = none ∧ ∃ c f, o.op = .call c ∧ c.callee = .value (.func f) ∧ E.ip f = some ip := by
  unfold dipOf at e
  split at e
  · cases e
  · rename_i hgd
    split at e
    · rename_i c ho
      split at e
      · rename_i f hcal
        split at e
        · cases e
        · rename_i ip' hip
          split at e
          · cases e
          · split at e
            · cases e; exact ⟨hgd, c, f, ho, hcal, hip⟩
            · cases e
      · cases e
    · cases e
theorem fnOf_eq {v : Value} {f : Nat} (h : fnOf v = some f) : v = .func (.func f) #[] #[] := by
  unfold fnOf at h
  split at h
  · rename_i f' x y
    split at h
    · rename_i hx
      split at h
      · rename_i hy
        cases h
        rw [tl_eq hx, tl_eq hy]
      · cases h
    · cases h
  · cases h
theorem sz_one {s : Sh} (h : s.isAgg = false) : s.size = 1 := by cases s <;> simp_all [Sh.isAgg, Sh.size]
theorem capS_ok {N : Nat} {B : Base} {h0 : FH} {w : World} {a : Act} {β : List RV} : ∀ {ss : List Sh} {l : List Operand} {s s' : St} {h : FH} {ds : dens ss}, Sat N B h0 s h β w a → capS s ss l = some (s', ds) →
    ∃ h', h.le h' ∧ Sat N B h0 s' h' β w a ∧ capD h' ss ds (l.map a.eval)
  | [], [], s, s', h, ds, sat, e => by simp [capS] at e; subst e; exact ⟨h, FH.le.refl h, sat, trivial⟩
  | [], _ :: _, s, s', h, ds, sat, e => by simp [capS] at e
  | _ :: _, [], s, s', h, ds, sat, e => by simp [capS] at e
  | sh :: ss, x :: l, s, s', h, ds, sat, e => by
    unfold capS at e
    split at e
    · rename_i t
      split at e
      · rename_i i hlk
        split at e
        · rename_i r hT
          split at e
          · rename_i v hv
            split at e
            · rename_i d hd
              split at e
              · rename_i s2 ds2 hc
                cases e
                obtain ⟨z, z1, z2, _⟩ := sat.env t [] _ hlk
                obtain ⟨b, hb, ez⟩ : ∃ b, β[i]? = some (.blk b) ∧ z = .pointer (some ⟨b, 0, none⟩) := (z2 rfl : CnV h β (.c (.own i 0)) z).1
                have hT' := effres hT (show gv s.gl [] = true from rfl)
                have hold := sat.ok.holds i r _ hT' hb
                have hlive : r.live = true := by cases r <;> first | rfl | (simp [resQ] at hv)
                obtain ⟨le1, ok1⟩ := sat.ok.freezeBlk hT' hlive hb (has_blk.2 rfl)
                have sat1 : Sat N B h0 { s with T := setL s.T i ([], .gone) } (h.plus w b) β w a := sat.mem (by rw [eff_set]; exact ok1) le1 (Ext.refl _) (by
                  intro q hq
                  rw [setL_eq] at hq
                  rcases List.mem_or_eq_of_mem_set hq with hq | hq
                  · exact sat.gT q hq
                  · subst hq; rfl)
                obtain ⟨h', le2, sat2, cap⟩ := capS_ok (l := l) sat1 hc
                refine ⟨h', le1.trans le2, sat2, ⟨?_, cap⟩⟩
                have ev : a.eval (.tmp t) = z := by simp [Act.eval, z1]
                rw [ev, ez]
                have at_ : ∀ (ys : List Value) (tt : TypeId), w.heap[b]? = some (.cells ys.toArray tt (0, 0)) → (∀ u ∈ ys, oneC u) → At h' b 0 ys := by
                  intro ys tt hw h1 j u hj
                  refine le2 _ _ _ ?_
                  unfold FH.plus
                  rw [if_pos rfl, Nat.zero_add]
                  exact vis_cells hw (by simpa using hj) (h1 u (List.mem_of_getElem? hj)).2
                have key : ∀ (ys : List Value) (tt : TypeId), w.heap[b]? = some (.cells ys.toArray tt (0, 0)) → (sh.isAgg = true → CnV h β v (.agg ys.toArray)) → (sh.isAgg = false → ∃ y, ys = [y] ∧ CnV h β v y) →
                    ∃ b' cs, (Value.pointer (some ⟨b, 0, none⟩)) = .pointer (some ⟨b', 0, none⟩) ∧ Rd h' sh cs d ∧ At h' b' 0 cs := by
                  intro ys tt hw k1 k2
                  cases hag : sh.isAgg with
                  | true =>
                    obtain ⟨cs, e1, rd⟩ := toDat_ok hd (k1 hag)
                    unfold mkV at e1
                    rw [if_pos hag] at e1
                    injection e1 with e1
                    have e1 : ys = cs := by simpa using e1
                    subst e1
                    exact ⟨b, ys, rfl, (rd.mono le1 _).mono le2 _, at_ ys tt hw (Rd.one _ rd)⟩
                  | false =>
                    obtain ⟨y, rfl, c⟩ := k2 hag
                    obtain ⟨cs, e1, rd⟩ := toDat_ok hd c
                    unfold mkV at e1
                    rw [if_neg (by rw [hag]; simp)] at e1
                    have hs := Rd.size sh rd
                    rw [sz_one hag] at hs
                    obtain ⟨u, rfl⟩ := List.length_eq_one_iff.1 hs
                    have e1 : y = u := e1
                    subst e1
                    exact ⟨b, [y], rfl, (rd.mono le1 _).mono le2 _, at_ [y] tt hw (Rd.one _ rd)⟩
                cases r with
                | obj tt s0 d0 =>
                  simp only [resQ] at hv
                  split at hv
                  · rename_i hag
                    rw [andB_eq, Bool.and_eq_true] at hag
                    cases hv
                    obtain ⟨ys, e1, rd⟩ := hold
                    exact key ys tt e1 (fun _ => ⟨hag.2, ys, rfl, rd⟩) (fun hh => by rw [hag.1] at hh; cases hh)
                  · cases hv
                | blk tt cs =>
                  obtain ⟨ys, e1, al⟩ := hold
                  simp only [resQ] at hv
                  split at hv
                  · rename_i hag
                    cases hv
                    exact key ys tt e1 (fun _ => ⟨ys, rfl, al⟩) (fun hh => by rw [hag] at hh; cases hh)
                  · rename_i hag
                    split at hv
                    · rename_i x
                      cases hv
                      cases ys with
                      | nil => exact al.elim
                      | cons y ys =>
                        cases ys with
                        | cons _ _ => exact al.2.elim
                        | nil => exact key [y] tt e1 (fun hh => by rw [hag] at hh; cases hh) (fun _ => ⟨y, rfl, al.1⟩)
                    · cases hv
                | row _ _ _ => simp [resQ] at hv
                | deep _ _ _ _ _ _ _ _ => simp [resQ] at hv
                | mp _ _ _ => simp [resQ] at hv
                | mpo _ _ _ _ => simp [resQ] at hv
                | it _ _ _ _ => simp [resQ] at hv
                | tlr _ _ _ _ => simp [resQ] at hv
                | gone => simp [resQ] at hv
              · cases e
            · cases e
          · cases e
        · cases e
      · cases e
    · cases e
theorem hoK_ok {P : Program} {E : Env} (ok : EnvOK P E) {ops : Array Oper} {B : Base} {h0 : FH} {s : St} {h : FH} {β : List RV} {w : World} {a : Act} (sat : Sat E.n B h0 s h β w a) (hg : GlobOK E.cx.gd h) {o : Oper} {x : HO} (hx : hoOf E s o = some x) (hd : dOK E.n o.dst = true) {K : St → Prop}
    (k : hoK E s o.dst x K) : OpOK P E.n B h0 h w a o (Region.wanted o (yielded ops a.tmps)) K := by
  unfold hoOf at hx
  split at hx
  · cases hx
  rename_i hgd
  rw [show Region.wanted o (yielded ops a.tmps) = gv s.gl [] by simp [Region.wanted, hgd, gv]]
  split at hx
  · rename_i c ho
    split at hx
    · rename_i f hcal
      split at hx
      · rename_i xs g hl
        split at hx
        · rename_i ct hct
          cases hx
          obtain ⟨hc, hf⟩ := ok.hc f g ct hct
          simp only [hoK] at k
          have k' : callK E.cx (fun f' => if f' = f then some ct else none) s [] o.dst f xs K := by
            unfold callK at k ⊢
            simpa using k
          exact call_stepX (suf := [.func (.func g) #[] #[]]) (fun f' c' e => by
            split at e
            · rename_i hff; cases e; rw [hff]; exact hc
            · cases e) sat hg rfl hd ho hcal (fun _ => rfl) (by
            have := lastF_eq (a := a) hl
            rw [← this]; cases c.args; simp) hf k'
        · cases hx
      · unfold sqOf at hx
        split at hx
        · unfold sfOf at hx
          split at hx
          · cases hx
          rename_i q hq
          split at hx
          · cases hx
          rename_i xs x hl
          split at hx
          · rename_i P' ss r pre g hxe
            cases hx
            simp only [hoK] at k
            obtain ⟨eP, pre', g', eA, k⟩ := k
            have := ok.prog _ eP
            subst this
            obtain ⟨hc, hf⟩ := ok.sf f q hq
            have k' : callK E.cx (fun f' => if f' = f then some (q.ct pre' g') else none) s [] o.dst f xs K := by
              unfold callK at k ⊢
              simpa using k
            rw [eA] at hxe
            have cx' : CnV h β (.c (.abs (.clo P' q.ss q.r pre' g'))) (a.eval x) := getE_ok sat hg (show gv s.gl [] = true from rfl) hxe
            exact call_stepY (suf := [a.eval x]) (fun c' e d vs h' le hw hg' ha hp => by
              have e' : q.ct pre' g' = c' := by simpa using e
              subst e'
              exact hc pre' g' d vs [a.eval x] h' w hw hg' ha ⟨⟨(show Abs.rel h' (.clo P' q.ss q.r pre' g') (a.eval x) from Abs.rel_mono le (show Abs.rel h (.clo P' q.ss q.r pre' g') (a.eval x) from cx'.1)), cx'.2⟩, trivial⟩ hp) sat hg rfl hd ho hcal (fun _ => rfl) (by
              have := lastO_eq (a := a) hl
              rw [← this]; cases c.args; simp) hf k'
          · cases hx
        rename_i q hq
        split at hx
        · cases hx
        rename_i xs x hl
        split at hx
        · rename_i P' ss L hxe
          split at hx
          · rename_i L' hL
            cases hx
            obtain ⟨e1, e2⟩ := castQ_eq hL
            simp only [hoK] at k
            obtain ⟨eP, k⟩ := k
            have := ok.prog _ eP
            subst this
            subst e1; simp only at e2; subst e2
            obtain ⟨hc, hf⟩ := ok.sq f q hq
            have k' : callK E.cx (fun f' => if f' = f then some (q.ct L) else none) s [] o.dst f xs K := by
              unfold callK at k ⊢
              simpa using k
            have cx' : CnV h β (.c (.abs (.seq P' q.ss L))) (a.eval x) := getE_ok sat hg (show gv s.gl [] = true from rfl) hxe
            exact call_stepY (suf := [a.eval x]) (fun c' e d vs h' le hw hg' ha hp => by
              have e' : q.ct L = c' := by simpa using e
              subst e'
              exact hc L d vs [a.eval x] h' w hw hg' ha ⟨⟨(show Abs.rel h' (.seq P' q.ss L) (a.eval x) from Abs.rel_mono le (show Abs.rel h (.seq P' q.ss L) (a.eval x) from cx'.1)), cx'.2⟩, trivial⟩ hp) sat hg rfl hd ho hcal (fun _ => rfl) (by
              have := lastO_eq (a := a) hl
              rw [← this]; cases c.args; simp) hf k'
          · cases hx
        · cases hx
    · rename_i t hcal
      split at hx
      · rename_i v hlk
        split at hx
        · rename_i f hfn
          cases hx
          simp only [hoK] at k
          obtain ⟨z, z1, z2, _⟩ := sat.env t [] _ hlk
          have ez : z = .func (.func f) #[] #[] := ((z2 rfl : CnV h β (.c (.v v)) z).1.1).trans (fnOf_eq hfn)
          have hct : ∃ cc, E.ct f = some cc := by
            unfold callK at k
            cases hh : E.ct f with
            | none => rw [hh] at k; exact k.elim
            | some cc => exact ⟨cc, rfl⟩
          obtain ⟨cc, hct⟩ := hct
          exact call_stepX (suf := []) (fun f' c' e => (ok.ct f' c' e).1.x) sat hg rfl hd ho hcal (fun _ => by simp [Act.eval, z1, ez]) (by cases c.args; simp) (ok.ct f cc hct).2 k
        · cases hx
      · rename_i P' ss r pre g hlk
        cases hx
        simp only [hoK] at k
        obtain ⟨eP, k⟩ := k
        have := ok.prog _ eP
        subst this
        obtain ⟨z, z1, z2, _⟩ := sat.env t [] _ hlk
        obtain ⟨gn, lb, ez, hf, kk⟩ : GivesF P' h ss r pre g z := (z2 rfl : CnV h β (.c (.abs (.clo P' ss r pre g))) z).1
        have k' : callK E.cx (fun f' => if f' = gn then some { ps := ss, pre := pre, res := fun d => ([], .one (ofDat r (g d))) } else none) s [] o.dst gn (tl c.args) K := by
          unfold callK at k ⊢
          simpa using k
        exact call_stepZ (lb := lb) (suf := lb.toList) (fun c' e d vs h' le hw hg' ha hp => by
          have e' : ({ ps := ss, pre := pre, res := fun d => ([], .one (ofDat r (g d))) } : CT) = c' := by simpa using e
          subst e'
          rw [show (vs ++ lb.toList).toArray = vs.toArray ++ lb by simp]
          refine (kk d vs h' w le hw (ofDats_inv ha) hp).mono ?_
          rintro en w' ⟨v, rfl, ⟨cs, rfl, rd⟩, bel, dr⟩
          refine ⟨h', [], _, rfl, ⟨⟨bel.os, bel.tape, bel.output, bel.size, fun k hk ha => bel.block k hk⟩, dr, rfl, fun i r v e _ => by simp at e, fun i r v b e _ _ _ => by simp at e, fun i j r r' u v b e _ _ _ _ _ _ _ => by simp at e, FH.le.refl h', fun b o v hh => (vis_of_block (bel.block b (vis_lt (hw b o v hh)))).trans (hw b o v hh), fun b o v hh => .inl hh, fun k o hh => hh.elim⟩, ofDat_ok r (rd.mono (fun _ _ _ e => by cases e) r)⟩) sat hg rfl hd ho hcal (fun _ => by simp [Act.eval, z1, ez]) (by cases c.args; simp) hf k'
      · cases hx
    · cases hx
  · rename_i g fst cap ho
    split at hx
    · rename_i hfst
      cases hx
      simp only [hoK] at k
      split at k
      · exact k.elim
      rename_i m hm
      split at k
      · exact k.elim
      rename_i s' ds hcap
      obtain ⟨h', le, sat', cap'⟩ := capS_ok sat hcap
      obtain ⟨hmp, k⟩ := k
      have rel := ok.mkf g m hm ds h' _ hmp (hg.mono le) cap'
      intro Nx Q next
      rw [if_pos rfl]
      refine wp_value (v := .func (.func g) #[] ((tl cap).map a.eval).toArray) ?_ (next _ _ _ _ _ k le (fun _ => Gro.refl w) (sat'.put (dOK_lt hd) rfl (fun _ => ⟨rel, Abs.rel_one rel⟩) fun hh => by cases hh))
      simp only [execOp, ho, Instr.makeFunc, Sem.run_bind, Sem.run_pure, Result.andThen_ok]
      rw [tl_eq hfst]
      have : cap.map a.eval = ((tl cap).map a.eval).toArray := by cases cap; simp
      rw [this]; simp
    · cases hx
  · cases hx
theorem stepI_ok {P : Program} {E : Env} (ok : EnvOK P E) {B : Base} {h0 : FH} {s : St} {h : FH} {β : List RV} {w : World} {a : Act} (sat : Sat E.n B h0 s h β w a) (hg : GlobOK E.cx.gd h) {ops : Array Oper} {o : Oper} {K : St → Prop}
    (k : stepI E (tl ops) o s K) : OpW P E.n B h0 h w a o (Region.wanted o (yielded ops a.tmps)) K := by
  unfold stepI at k
  split at k
  · rename_i p hp
    split at k
    · exact k.elim
    · rename_i hd
      obtain ⟨hgd, st⟩ := mapP_ok ok.ti sat hg hd hp k
      rw [show Region.wanted o (yielded ops a.tmps) = true by simp [Region.wanted, hgd]]
      exact st
  split at k
  · rename_i x hx
    split at k
    · exact k.elim
    · rename_i hd
      exact (hoK_ok ok sat hg hx hd k).weak
  split at k
  · rename_i ip hip
    obtain ⟨hgd, c, f, ho, hcal, hf⟩ := dipOf_spec hip
    split at k
    · exact k.elim
    · rename_i hd
      rw [show Region.wanted o (yielded ops a.tmps) = true by simp [Region.wanted, hgd]]
      rw [show argsOf o.op = tl c.args by simp only [argsOf, ho]] at k
      exact dip_step (ok.ip f ip hf).1 (ok.ip f ip hf).2 sat hg hd ho hcal k
  split at k
  · split at k
    · exact (stepK_ok ok sat hg k).weak
    · rename_i p hp
      split at k
      · exact k.elim
      · rename_i hd
        exact extQ_ok ok.ti sat hg hd hp k
  · rename_i ip hip
    obtain ⟨hgd, c, f, ho, hcal, hf⟩ := ipOf_spec hip
    split at k
    · exact k.elim
    · rename_i hd
      rw [show Region.wanted o (yielded ops a.tmps) = true by simp [Region.wanted, hgd]]
      rw [show argsOf o.op = tl c.args by simp only [argsOf, ho]] at k
      exact ip_step (ok.ip f ip hf).1 (ok.ip f ip hf).2 sat hg hd ho hcal k
theorem opsI_ok {P : Program} {E : Env} (ok : EnvOK P E) {B : Base} {h0 : FH} (hg : GlobOK E.cx.gd h0) {ops : Array Oper} {R : Act → World → Prop} {K : St → Prop} : ∀ (l : List Oper) {s : St} {h : FH} {β : List RV} {w : World} {a : Act}, Sat E.n B h0 s h β w a →
    opsI E (tl ops) l s K → (∀ s' h' β' w' a', K s' → h.le h' → Sat E.n B h0 s' h' β' w' a' → Same (dsts l) a a' → R a' w') → wpL P ops R l a w
  | [], s, h, β, w, a, sat, k, next => next _ _ _ _ _ k (FH.le.refl h) sat (Same.refl _ _)
  | o :: r, s, h, β, w, a, sat, k, next => by
    have := stepI_ok ok sat (hg.mono sat.ok.hle) k (wpL P ops R r) noQ fun s' h' β' w' v k' le sat' => opsI_ok ok hg r sat' k' fun s2 h2 β2 w2 a2 k2 le2 sat2 sm => next s2 h2 β2 w2 a2 k2 (le.trans le2) sat2 sm.put
    unfold wpL
    split
    · rename_i hw; rw [if_pos hw] at this; exact this
    · rename_i hw; rw [if_neg hw] at this; exact this
/-! Regions that draw their order. -/
def blOf (ops : Array Oper) (listed : Array Bool) (i : Nat) : List Nat :=
  (List.range ops.size).foldl (fun acc j => if j != i && !listed.getD j true && (match ops[j]? with | some o => o.after.any (fun e => Region.binds .any e && (e.on == i || acc.contains e.on)) | none => false) then j :: acc else acc) []
def waitsB (ops : Array Oper) (listed : Array Bool) (i : Nat) (bl : List Nat) : Bool :=
  (bl.all fun j => !listed.getD j true && (match ops[j]? with | some o => o.after.any (fun e => Region.binds .any e && (e.on == i || bl.contains e.on)) | none => false)) &&
  ((List.range ops.size).all fun j => j == i || listed.getD j true || sfe ops j || bl.contains j)
theorem waitsB_spec {ops : Array Oper} {listed : Array Bool} {i : Nat} {bl : List Nat} (h : waitsB ops listed i bl = true) :
    Waits .any ops listed i bl ∧ ∀ j, j ≠ i → listed.getD j true = false → sfe ops j = false → j ∈ bl := by
  simp only [waitsB, Bool.and_eq_true, List.all_eq_true] at h
  refine ⟨fun j hj => ?_, fun j hji hun hs => ?_⟩
  · have h1 := h.1 j hj
    simp only [Bool.not_eq_true'] at h1
    refine ⟨h1.1, ?_⟩
    cases ho : ops[j]? with
    | none => rw [ho] at h1; exact absurd h1.2 (by simp)
    | some o =>
      rw [ho] at h1
      obtain ⟨e, he, hb⟩ := Array.any_eq_true'.1 h1.2
      simp only [Bool.and_eq_true, Bool.or_eq_true, beq_iff_eq, List.contains_iff_mem] at hb
      exact ⟨o, rfl, e, he, hb.1, hb.2⟩
  · rcases Nat.lt_or_ge j ops.size with hlt | hge
    · have h2 := h.2 j (List.mem_range.2 hlt)
      simp only [Bool.or_eq_true, beq_iff_eq, hji, hun, hs, List.contains_iff_mem, Bool.false_eq_true, false_or] at h2
      exact h2
    · have : ops[j]? = none := Array.getElem?_eq_none hge
      simp [sfe, this] at hs
inductive DT where
  | done
  | fl (i : Nat) (t : DT)
  | op (i : Nat) (t : DT)
  | alt (i : Nat) (t m : DT)
inductive OT where
  | done
  | op (o : Oper) (t : OT)
  | alt (o : Oper) (t m : OT)
def DT.alts : DT → List Nat
  | .op i _ => [i]
  | .alt i _ m => i :: m.alts
  | _ => []
def floatsB (ops : Array Oper) (listed : Array Bool) (i : Nat) : Bool := match ops[i]? with
  | some o => isFloat o.op && Region.free .any ops listed i && (Region.ready .any ops listed).contains i && (!isLoad o.op || waitsB ops listed i (blOf ops listed i))
  | none => false
def chkT (ops : Array Oper) : DT → Bool → Nat → Array Bool → Bool
  | .done, top, n, listed => top && n == 0 && (Region.ready .any ops listed).isEmpty
  | .fl i t, top, n, listed => top && n != 0 && floatsB ops listed i && chkT ops t true (n - 1) (listed.setIfInBounds i true)
  | .op i t, top, n, listed => (!top || Region.ready .any ops listed == [i]) && n != 0 && (ops[i]?).isSome && chkT ops t true (n - 1) (listed.setIfInBounds i true)
  | .alt i t m, top, n, listed => (!top || Region.ready .any ops listed == i :: m.alts) && n != 0 && (ops[i]?).isSome && chkT ops t true (n - 1) (listed.setIfInBounds i true) && chkT ops m false n listed
def goT (g : Nat → DT) : List Nat → DT
  | [] => .done
  | [i] => .op i (g i)
  | i :: r => .alt i (g i) (goT g r)
def genT (ops : Array Oper) : Nat → Array Bool → DT
  | 0, _ => .done
  | f + 1, listed =>
    let rs := Region.ready .any ops listed
    match rs.find? (fun i => floatsB ops listed i) with
    | some i => .fl i (genT ops f (listed.setIfInBounds i true))
    | none => goT (fun i => genT ops f (listed.setIfInBounds i true)) rs
def opT (ops : Array Oper) : DT → OT
  | .done => .done
  | .fl i t => match ops[i]? with
    | some o => .op o (opT ops t)
    | none => .done
  | .op i t => match ops[i]? with
    | some o => .op o (opT ops t)
    | none => .done
  | .alt i t m => match ops[i]? with
    | some o => .alt o (opT ops t) (opT ops m)
    | none => .done
def ofL : List Oper → OT
  | [] => .done
  | o :: l => .op o (ofL l)
@[reducible] def treeK (E : Env) (ops : List Oper) : OT → St → (St → Prop) → Prop
  | .done, s, K => K s
  | .op o t, s, K => stepK E ops o s fun s => treeK E ops t s K
  | .alt o t m, s, K => (stepK E ops o s fun s => treeK E ops t s K) ∧ treeK E ops m s K
theorem treeK_eq {E : Env} {ops : List Oper} {K : St → Prop} : ∀ (l : List Oper), (fun s => treeK E ops (ofL l) s K) = fun s => opsK E ops l s K
  | [] => rfl
  | o :: l => by
    funext s
    show stepK E ops o s (fun s => treeK E ops (ofL l) s K) = stepK E ops o s fun s => opsK E ops l s K
    rw [treeK_eq l]
theorem treeK_ofL {E : Env} {ops : List Oper} {K : St → Prop} (l : List Oper) {s : St} (h : treeK E ops (ofL l) s K) : opsK E ops l s K := by
  have := congrFun (treeK_eq (E := E) (ops := ops) (K := K) l) s
  rw [← this]; exact h
def isPure (o : Oper) : Bool := match o.op with
  | .alloc _ | .box .. | .buildSlice .. | .makeSlice .. | .store .. => false
  | .call c => (match c.callee with | .value (.func _) => false | .builtin .append => false | .builtin .copy => false | .builtin .min => false | .builtin .max => false | _ => true)
  | _ => true
def drawOrd (ops : Array Oper) : Option OT :=
  if ops.all isPure && Region.lexB .any ops then some (ofL ops.toList)
  else
    let t := genT ops ops.size (Array.replicate ops.size false)
    if Region.noSelect ops && chkT ops t true ops.size (Array.replicate ops.size false) then some (opT ops t) else none
section
variable {P : Program} {E : Env} {B : Base} {h0 : FH} {s : St} {h : FH} {β : List RV} {w : World} {a : Act} {o : Oper} {ops : Array Oper} {K : St → Prop}
theorem guardK_mono {L : List Nat} {s : St} {l : List Oper} {g : Option (Nat × Bool)} {K K' : Gd → St → Prop} (hk : ∀ G s, K G s → K' G s) (h : guardK L s l g K) : guardK L s l g K' := by
  unfold guardK at *
  split at h
  · exact hk _ _ h
  · split at h
    · exact h.elim
    · split at h
      · split at h
        · split at h
          · split at h
            · exact hk _ _ h
            · exact h.elim
          · split at h
            · exact h.elim
            · exact hk _ _ h
        · exact h.elim
      · split at h
        · split at h
          · exact hk _ _ h
          · exact hk _ _ h
        · exact h.elim
theorem stepK_pure (hp : isPure o = true) (k : stepK E (tl ops) o s K) : dOK E.n o.dst = true ∧ guardK E.lits s (tl ops) o.guard fun G s => pureK E.cx s G o fun e => K (s.put o.dst G e) := by
  unfold stepK at k
  rw [apP_none (fun t n ps ho => by simp [isPure, ho] at hp) (fun c ho hcal => by simp [isPure, ho, hcal] at hp)] at k
  simp only at k
  unfold stepK0 at k
  split at k
  · exact k.elim
  rename_i hd
  refine ⟨hd, ?_⟩
  have key : ∀ G s, (match o.op with
    | .alloc t => allocK E.cx s G o.dst t K
    | .box t x => boxK E.cx s G o.dst t x K
    | .buildSlice t n ps => buildSliceK E.cx (frzAll s (frzB E s G (tl ps))) G o.dst t n (tl ps) K
    | .makeSlice t l c => makeK E.cx s G o.dst t l c K
    | .store t p x => match G with
      | [] => match dstP E.cx s o.dst t p x K with
        | some q => q
        | none => storeK E.cx (frzAll s (frzSt E s p x)) o.dst t p x K
      | _ :: _ => False
    | .call c => match c.callee with
      | .value (.func f) => match hcL E f (tl c.args) with
        | some (ct, xs) => callK E.cx (fun _ => some ct) s G o.dst f xs K
        | none => callK E.cx E.ct (frzAll s (frzL E s G f (tl c.args))) G o.dst f (tl c.args) K
      | .builtin .append => match G with
        | [] => match tl c.args with
          | [x, y] => match tl c.argTypes with
            | [t, t'] => match Nat.beq t t' with
              | true => match openK s x fun s => appendK E.cx s o.dst t x y K with
                | some q => q
                | none => appendK E.cx s o.dst t x y K
              | false => False
            | _ => False
          | _ => False
        | _ :: _ => False
      | .builtin .copy => match G with
        | [] => match tl c.args with
          | [x, y] => match tl c.argTypes with
            | [t, _] => copyK E.cx s o.dst t x y K
            | _ => False
          | _ => False
        | _ :: _ => False
      | .builtin .min => match G with
        | [] => match tl c.args with
          | [x, y] => minK E.cx s o.dst x y K
          | _ => False
        | _ :: _ => False
      | .builtin .max => match G with
        | [] => match tl c.args with
          | [x, y] => maxK E.cx s o.dst x y K
          | _ => False
        | _ :: _ => False
      | _ => pureK E.cx s G o fun e => K (s.put o.dst G e)
    | _ => pureK E.cx s G o fun e => K (s.put o.dst G e)) → pureK E.cx s G o fun e => K (s.put o.dst G e) := by
    intro G s k
    split at k
    · rename_i ho; simp [isPure, ho] at hp
    · rename_i ho; simp [isPure, ho] at hp
    · rename_i ho; simp [isPure, ho] at hp
    · rename_i ho; simp [isPure, ho] at hp
    · rename_i ho; simp [isPure, ho] at hp
    · rename_i c ho
      split at k
      · rename_i hc; simp [isPure, ho, hc] at hp
      · rename_i hc; simp [isPure, ho, hc] at hp
      · rename_i hc; simp [isPure, ho, hc] at hp
      · rename_i hc; simp [isPure, ho, hc] at hp
      · rename_i hc; simp [isPure, ho, hc] at hp
      · exact k
    · exact k
  exact guardK_mono key k
theorem lenB {x : Callee} (h : (match x with | .builtin .len => true | _ => false) = true) : x = .builtin .len := by
  split at h
  · rfl
  · cases h
theorem float_pure (hf : isFloat o.op = true) : isPure o = true := by
  cases ho : o.op with
  | call c =>
    rw [ho] at hf
    have : c.callee = .builtin .len := lenB hf
    simp [isPure, ho, this]
  | _ =>
    rw [ho] at hf
    first
      | (simp [isPure, ho]; done)
      | (simp [isFloat, isFloat0] at hf; done)
theorem float_quiet {x : Op} (hf : isFloat x = true) : quietly x = true := by
  cases x with
  | call c =>
    have : c.callee = .builtin .len := lenB hf
    simp [quietly, this]
  | _ =>
    first
      | rfl
      | (simp [isFloat, isFloat0] at hf; done)
theorem float_step (ok : EnvOK P E) (sat : Sat E.n B h0 s h β w a) (hg : GlobOK E.cx.gd h) (hf : isFloat o.op = true) (k : stepK E (tl ops) o s K) :
    ∃ v s', YI P ops (isLoad o.op) w o v a ∧ K s' ∧ Sat E.n B h0 s' h β w (a.put o.dst v) := by
  obtain ⟨hd, k⟩ := stepK_pure (float_pure hf) k
  obtain ⟨G, s', k, sat', hw, hG⟩ := guardK_ok sat k
  obtain ⟨e, k1, k2⟩ := pureK_ext ok.ti sat' hg hf k
  cases hgv : gv s'.gl G with
  | true =>
    obtain ⟨v, r, c⟩ := k2 hgv
    refine ⟨v, _, .inl ⟨by rw [hw]; exact hgv, fun w' hg' => ?_⟩, k1, sat'.put (dOK_lt hd) hG (fun _ => c) fun hh => by rw [hgv] at hh; cases hh⟩
    exact r w' hg'
  | false =>
    exact ⟨undef, _, .inr ⟨by rw [hw]; exact hgv, rfl⟩, k1, sat'.put (dOK_lt hd) hG (fun hh => by rw [hgv] at hh; cases hh) fun _ => rfl⟩
theorem still_step (ok : EnvOK P E) (sat : Sat E.n B h0 s h β w a) (hg : GlobOK E.cx.gd h) (hp : isPure o = true) (k : stepK E (tl ops) o s K) {Nx : Act → Prop}
    (next : ∀ v s', K s' → Sat E.n B h0 s' h β w (a.put o.dst v) → Nx (a.put o.dst v)) : if Region.wanted o (yielded ops a.tmps) then o.still P a w Nx else Nx (a.put o.dst undef) := by
  obtain ⟨hd, k⟩ := stepK_pure hp k
  obtain ⟨G, s', k, sat', hw, hG⟩ := guardK_ok sat k
  obtain ⟨e, k1, k2⟩ := pureK_ok ok.ti sat' hg k
  rw [hw]
  cases hgv : gv s'.gl G with
  | true =>
    obtain ⟨v, r, c⟩ := k2 hgv
    rw [if_pos rfl]
    unfold Oper.still
    rw [r, Oper.stillUpon_value]
    exact next _ _ k1 (sat'.put (dOK_lt hd) hG (fun _ => c) fun hh => by rw [hgv] at hh; cases hh)
  | false =>
    rw [if_neg (by simp)]
    exact next _ _ k1 (sat'.put (dOK_lt hd) hG (fun hh => by rw [hgv] at hh; cases hh) fun _ => rfl)
theorem still_ok (ok : EnvOK P E) (hg : GlobOK E.cx.gd h0) {R : Act → Prop} : ∀ (l : List Oper) {s : St} {a : Act}, l.all isPure = true → Sat E.n B h0 s h β w a → opsK E (tl ops) l s K →
    (∀ s' a', K s' → Sat E.n B h0 s' h β w a' → Same (dsts l) a a' → R a') → wpStill P ops w R l a
  | [], s, a, _, sat, k, next => next _ _ k sat (Same.refl _ _)
  | o :: r, s, a, hp, sat, k, next => by
    simp only [List.all_cons, Bool.and_eq_true] at hp
    exact still_step ok sat (hg.mono sat.ok.hle) hp.1 k fun v s' k' sat' => still_ok ok hg r hp.2 sat' k' fun s2 a2 k2 sat2 sm => next s2 a2 k2 sat2 sm.put
/-! Drawn regions that read maps. -/
@[reducible] def mapAny (cx : Cx) : List Oper → Bool
  | [] => false
  | o :: l => match o.op with
    | .call c => match c.callee with
      | .builtin .len => match tl c.argTypes with
        | [t] => match isMapT cx t with
          | true => true
          | false => mapAny cx l
        | _ => mapAny cx l
      | _ => mapAny cx l
    | .lookup _ _ _ _ => true
    | _ => mapAny cx l
@[reducible] def stepM (E : Env) (ops : List Oper) (o : Oper) (s : St) (K : St → Prop) : Prop := match o.guard with
  | some _ => stepK E ops o s K
  | none => match mapPure E.cx s o.op fun e => K (s.put o.dst [] e) with
    | some p => match dOK E.n o.dst with
      | false => False
      | true => p
    | none => stepK E ops o s K
@[reducible] def opsM (E : Env) (ops : List Oper) : List Oper → St → (St → Prop) → Prop
  | [], s, K => K s
  | o :: r, s, K => stepM E ops o s fun s => opsM E ops r s K
theorem stillM_ok (ok : EnvOK P E) (hg : GlobOK E.cx.gd h0) {R : Act → Prop} : ∀ (l : List Oper) {s : St} {a : Act}, l.all isPure = true → Sat E.n B h0 s h β w a → opsM E (tl ops) l s K →
    (∀ s' a', K s' → Sat E.n B h0 s' h β w a' → Same (dsts l) a a' → R a') → wpStill P ops w R l a
  | [], s, a, _, sat, k, next => next _ _ k sat (Same.refl _ _)
  | o :: r, s, a, hp, sat, k, next => by
    simp only [List.all_cons, Bool.and_eq_true] at hp
    have old : stepK E (tl ops) o s (fun s => opsM E (tl ops) r s K) → wpStill P ops w R (o :: r) a := fun k =>
      still_step ok sat (hg.mono sat.ok.hle) hp.1 k fun v s' k' sat' => stillM_ok ok hg r hp.2 sat' k' fun s2 a2 k2 sat2 sm => next s2 a2 k2 sat2 sm.put
    simp only [opsM, stepM] at k
    split at k
    · exact old k
    · rename_i hgd
      split at k
      · rename_i p hp'
        split at k
        · exact k.elim
        · rename_i hd
          obtain ⟨e, v, k1, run, c⟩ := mapPure_run ok.ti sat (hg.mono sat.ok.hle) hp' k
          unfold wpStill
          rw [if_pos (by simp [Region.wanted, hgd])]
          unfold Oper.still
          rw [run, Oper.stillUpon_value]
          exact stillM_ok ok hg r hp.2 (sat.put (dOK_lt hd) rfl (fun _ => c) fun hh => by cases hh) k1 fun s2 a2 k2 sat2 sm => next s2 a2 k2 sat2 sm.put
      · exact old k
def lexM (ops : Array Oper) : Bool := ops.all isPure && Region.lexB .any ops
theorem mem_dsts {t : Nat} : ∀ {l : List Oper}, memN t (dsts l) = true ↔ ∃ o ∈ l, o.dst = some t
  | [] => by simp [dsts, memN]
  | o :: l => by
    cases hd : o.dst with
    | none =>
      have e : dsts (o :: l) = dsts l := by simp only [dsts, hd]
      rw [e, mem_dsts]
      simp [hd]
    | some d =>
      have e : dsts (o :: l) = d :: dsts l := by simp only [dsts, hd]
      rw [e, memN_cons, Bool.or_eq_true, mem_dsts]
      constructor
      · rintro (h | ⟨o', h1, h2⟩)
        · exact ⟨o, by simp, by rw [hd, Nat.eq_of_beq_eq_true h]⟩
        · exact ⟨o', by simp [h1], h2⟩
      · rintro ⟨o', h1, h2⟩
        rcases List.mem_cons.1 h1 with rfl | h1
        · rw [hd] at h2; cases h2; exact .inl (Nat.beq_refl _)
        · exact .inr ⟨o', h1, h2⟩
theorem Same.sub {l m : List Oper} {a b : Act} (hs : ∀ o ∈ l, o ∈ m) (x : Same (dsts l) a b) : Same (dsts m) a b := fun t h => x t (by
  cases hh : memN t (dsts l) with
  | false => rfl
  | true =>
    obtain ⟨o, h1, h2⟩ := mem_dsts.1 hh
    rw [mem_dsts.2 ⟨o, hs o h1, h2⟩] at h; cases h)
theorem Same.put_mem {ol : List Oper} {o : Oper} (ho : o ∈ ol) {a b : Act} {v : Value} (x : Same (dsts ol) (a.put o.dst v) b) : Same (dsts ol) a b := by
  intro t h
  rw [x t h]
  cases hd : o.dst with
  | none => rfl
  | some d =>
    have hne : d ≠ t := by
      rintro rfl
      rw [mem_dsts.2 ⟨o, ho, hd⟩] at h; cases h
    simp [Act.put, Array.getElem?_setIfInBounds_ne hne]
theorem tree_ok (ok : EnvOK P E) (hg : GlobOK E.cx.gd h0) (hs : Region.noSelect ops = true) {R : Act → World → Prop} : ∀ (t : DT) {n : Nat} {listed : Array Bool} {s : St} {h : FH} {β : List RV} {w : World} {a : Act},
    Sat E.n B h0 s h β w a → treeK E (tl ops) (opT ops t) s K → (∀ s' h' β' w' a', K s' → h.le h' → Sat E.n B h0 s' h' β' w' a' → Same (dsts ops.toList) a a' → R a' w') →
    (chkT ops t true n listed = true → anyI P .any ops (sfe ops) R n listed a w) ∧
    (chkT ops t false n listed = true → ∀ i ∈ t.alts, wpO P ops i (fun a' w' => (sfe ops i = true → Gro w w') ∧ anyI P .any ops (sfe ops) R (n - 1) (listed.setIfInBounds i true) a' w') a w)
  | .done, n, listed, s, h, β, w, a, sat, k, next => by
    refine ⟨fun hc => ?_, fun hc => by simp [chkT] at hc⟩
    simp only [chkT, Bool.true_and, Bool.and_eq_true, beq_iff_eq] at hc
    obtain ⟨rfl, he⟩ := hc
    exact ⟨by simpa using he, next _ _ _ _ _ k (FH.le.refl h) sat (Same.refl _ _)⟩
  | .fl i t, n, listed, s, h, β, w, a, sat, k, next => by
    refine ⟨fun hc => ?_, fun hc => by simp [chkT] at hc⟩
    simp only [chkT, Bool.true_and, Bool.and_eq_true, bne_iff_ne, ne_eq] at hc
    obtain ⟨⟨hn, hb⟩, hc⟩ := hc
    obtain ⟨n, rfl⟩ : ∃ m, n = m + 1 := ⟨n - 1, by omega⟩
    unfold floatsB at hb
    cases hi : ops[i]? with
    | none => rw [hi] at hb; simp at hb
    | some o =>
      rw [hi] at hb
      simp only [Bool.and_eq_true] at hb
      simp only [opT, hi, treeK] at k
      have hmem : o ∈ ops.toList := List.mem_of_getElem? (i := i) (by simpa using hi)
      obtain ⟨⟨⟨hf, hfree⟩, hr⟩, hl⟩ := hb
      obtain ⟨v, s', hy, k', sat'⟩ := float_step ok sat (hg.mono sat.ok.hle) hf k
      have hq : sfe ops i = true := by
        simp only [sfe, hi]
        exact float_quiet hf
      refine anyI_first (bl := blOf ops listed i) hi (Region.noSelect_spec hs) hq n listed a w (Region.free_spec hi hfree) (fun e => ?_) (by simpa using hr) hy (fun _ => Gro.refl w)
        ((tree_ok ok hg hs t sat' k' fun s2 h2 β2 w2 a2 k2 le2 sat2 sm => next s2 h2 β2 w2 a2 k2 le2 sat2 (sm.put_mem hmem)).1 hc)
      rw [e] at hl
      exact waitsB_spec (by simpa using hl)
  | .op i t, n, listed, s, h, β, w, a, sat, k, next => by
    have key : n ≠ 0 → (ops[i]?).isSome = true → chkT ops t true (n - 1) (listed.setIfInBounds i true) = true → wpO P ops i (fun a' w' => (sfe ops i = true → Gro w w') ∧ anyI P .any ops (sfe ops) R (n - 1) (listed.setIfInBounds i true) a' w') a w := by
      intro hn hi hc
      obtain ⟨o, hi⟩ := Option.isSome_iff_exists.1 hi
      have hmem : o ∈ ops.toList := List.mem_of_getElem? (i := i) (by simpa using hi)
      simp only [opT, hi, treeK] at k
      unfold wpO
      simp only [hi]
      refine stepK_ok ok sat (hg.mono sat.ok.hle) k _ noQ fun s' h' β' w' v k' le gro sat' => ⟨fun e => gro (by simpa [sfe, hi] using e), ?_⟩
      exact (tree_ok ok hg hs t sat' k' fun s2 h2 β2 w2 a2 k2 le2 sat2 sm => next s2 h2 β2 w2 a2 k2 (le.trans le2) sat2 (sm.put_mem hmem)).1 hc
    refine ⟨fun hc => ?_, fun hc j hj => ?_⟩
    · simp only [chkT, Bool.not_true, Bool.false_or, Bool.and_eq_true, bne_iff_ne, ne_eq, beq_iff_eq] at hc
      obtain ⟨⟨⟨hr, hn⟩, hi⟩, hc⟩ := hc
      obtain ⟨m, rfl⟩ : ∃ m, n = m + 1 := ⟨n - 1, by omega⟩
      refine ⟨fun h0 => by rw [hr] at h0; simp at h0, fun j hj => ?_⟩
      rw [hr] at hj
      simp at hj
      subst hj
      exact key hn hi hc
    · simp only [chkT, Bool.not_false, Bool.true_or, Bool.true_and, Bool.and_eq_true, bne_iff_ne, ne_eq] at hc
      simp only [DT.alts, List.mem_singleton] at hj
      subst hj
      exact key hc.1.1 hc.1.2 hc.2
  | .alt i t m, n, listed, s, h, β, w, a, sat, k, next => by
    have key : n ≠ 0 → (ops[i]?).isSome = true → chkT ops t true (n - 1) (listed.setIfInBounds i true) = true → chkT ops m false n listed = true →
        ∀ j ∈ i :: m.alts, wpO P ops j (fun a' w' => (sfe ops j = true → Gro w w') ∧ anyI P .any ops (sfe ops) R (n - 1) (listed.setIfInBounds j true) a' w') a w := by
      intro hn hi hc hm j hj
      obtain ⟨o, hi⟩ := Option.isSome_iff_exists.1 hi
      have hmem : o ∈ ops.toList := List.mem_of_getElem? (i := i) (by simpa using hi)
      simp only [opT, hi, treeK] at k
      rcases List.mem_cons.1 hj with rfl | hj
      · unfold wpO
        simp only [hi]
        refine stepK_ok ok sat (hg.mono sat.ok.hle) k.1 _ noQ fun s' h' β' w' v k' le gro sat' => ⟨fun e => gro (by simpa [sfe, hi] using e), ?_⟩
        exact (tree_ok ok hg hs t sat' k' fun s2 h2 β2 w2 a2 k2 le2 sat2 sm => next s2 h2 β2 w2 a2 k2 (le.trans le2) sat2 (sm.put_mem hmem)).1 hc
      · exact (tree_ok ok hg hs m sat k.2 next).2 hm j hj
    refine ⟨fun hc => ?_, fun hc j hj => ?_⟩
    · simp only [chkT, Bool.not_true, Bool.false_or, Bool.and_eq_true, bne_iff_ne, ne_eq, beq_iff_eq] at hc
      obtain ⟨⟨⟨⟨hr, hn⟩, hi⟩, hc⟩, hm⟩ := hc
      obtain ⟨q, rfl⟩ : ∃ m, n = m + 1 := ⟨n - 1, by omega⟩
      refine ⟨fun h0 => by rw [hr] at h0; simp at h0, fun j hj => ?_⟩
      rw [hr] at hj
      exact key hn hi hc hm j hj
    · simp only [chkT, Bool.not_false, Bool.true_or, Bool.true_and, Bool.and_eq_true, bne_iff_ne, ne_eq] at hc
      exact key hc.1.1.1 hc.1.1.2 hc.1.2 hc.2 j hj
theorem Sat.drawn (sat : Sat E.n B h0 s h β w a) (n : Nat) (hn : w.drawn ≤ n) : Sat E.n B h0 s h β { w with drawn := n } a where
  ok := ⟨⟨sat.ok.below.os, sat.ok.below.tape, sat.ok.below.output, sat.ok.below.size, sat.ok.below.block⟩, Nat.le_trans sat.ok.dr hn, sat.ok.len, fun i r v h1 h2 => by
      have := sat.ok.holds i r v h1 h2
      cases r <;> cases v <;> exact this, sat.ok.own, sat.ok.inj, sat.ok.hle, sat.ok.hw, sat.ok.hg, sat.ok.kn⟩
  env := sat.env
  gs := sat.gs
  defers := sat.defers
  sz := sat.sz
  gb := sat.gb
  gT := sat.gT
theorem draw_ok (ok : EnvOK P E) (hg : GlobOK E.cx.gd h0) {id : Nat} {ol : OT} (ho : drawOrd ops = some ol) (sat : Sat E.n B h0 s h β w a) (k : treeK E (tl ops) ol s K) {F : Fence} {n : Nat} (hF : Wd F) (hn : ndL ops.toList = true) {Q : Exit → Act → World → Prop}
    (next : ∀ s' h' β' w' a', K s' → h.le h' → Sat E.n B h0 s' h' β' w' a' → Same (dsts (tl ops)) a a' → Q .normal a' w') : (Code.region id ops true).wpIn F n P Q a w := by
  unfold drawOrd at ho
  have et : tl ops = ops.toList := by cases ops; rfl
  split at ho
  · rename_i hp
    cases ho
    simp only [Bool.and_eq_true] at hp
    refine still_region hF hn ok.mixed hp.2 (still_ok ok hg ops.toList (by simpa using hp.1) (sat.drawn _ (Nat.le_succ _)) (treeK_ofL _ k) fun s' a' k' sat' sm => next _ _ _ _ _ k' (FH.le.refl h) sat' (by rw [et]; exact sm))
  · simp only at ho
    split at ho
    · rename_i hp
      cases ho
      simp only [Bool.and_eq_true, beq_iff_eq] at hp
      refine wpIn_region_any ok.mixed (anyI_In (sf := sfe ops) (R := fun a w => Q .normal a w) hF hn (fun _ _ hh => hh) _ _ _ _ ?_)
      exact (tree_ok ok hg hp.1 (R := fun a w => Q .normal a w) (genT ops ops.size (Array.replicate ops.size false)) (sat.drawn (w.drawn + 1) (Nat.le_succ _)) k fun s' h' β' w' a' k' le sat' sm => next _ _ _ _ _ k' le sat' (by rw [et]; exact sm)).1 hp.2
    · cases ho
end
section
variable {P : Program} {E : Env} {B : Base} {h0 : FH} {s : St} {h : FH} {β : List RV} {w : World} {a : Act} {o : Oper} {ops : Array Oper} {K : St → Prop}
theorem drawM_ok (ok : EnvOK P E) (hg : GlobOK E.cx.gd h0) {id : Nat} (ho : lexM ops = true) (sat : Sat E.n B h0 s h β w a) (k : opsM E (tl ops) (tl ops) s K) {F : Fence} {n : Nat} (hF : Wd F) (hn : ndL ops.toList = true) {Q : Exit → Act → World → Prop}
    (next : ∀ s' h' β' w' a', K s' → h.le h' → Sat E.n B h0 s' h' β' w' a' → Same (dsts (tl ops)) a a' → Q .normal a' w') : (Code.region id ops true).wpIn F n P Q a w := by
  unfold lexM at ho
  have et : tl ops = ops.toList := by cases ops; rfl
  simp only [Bool.and_eq_true] at ho
  rw [et] at next
  refine still_region hF hn ok.mixed ho.2 (stillM_ok ok hg ops.toList (by simpa using ho.1) (sat.drawn _ (Nat.le_succ _)) (by rw [et] at k ⊢; exact k) fun s' a' k' sat' sm => next _ _ _ _ _ k' (FH.le.refl h) sat' sm)
end
/-! Drawn regions with calls that write. -/
@[reducible] def isCallO : Op → Bool
  | .call _ => true
  | _ => false
def quiet0 : Op → Bool
  | .call c => (match c.callee with
    | .builtin .len => true
    | _ => false)
  | o => quietly o
def sf0 (ops : Array Oper) (i : Nat) : Bool := match ops[i]? with
  | some o => quiet0 o.op
  | none => true
def waits0 (ops : Array Oper) (listed : Array Bool) (i : Nat) (bl : List Nat) : Bool :=
  (bl.all fun j => !listed.getD j true && (match ops[j]? with | some o => o.after.any (fun e => Region.binds .any e && (e.on == i || bl.contains e.on)) | none => false)) &&
  ((List.range ops.size).all fun j => j == i || listed.getD j true || sf0 ops j || bl.contains j)
theorem waits0_spec {ops : Array Oper} {listed : Array Bool} {i : Nat} {bl : List Nat} (h : waits0 ops listed i bl = true) :
    Waits .any ops listed i bl ∧ ∀ j, j ≠ i → listed.getD j true = false → sf0 ops j = false → j ∈ bl := by
  simp only [waits0, Bool.and_eq_true, List.all_eq_true] at h
  refine ⟨fun j hj => ?_, fun j hji hun hs => ?_⟩
  · have h1 := h.1 j hj
    simp only [Bool.not_eq_true'] at h1
    refine ⟨h1.1, ?_⟩
    cases ho : ops[j]? with
    | none => rw [ho] at h1; exact absurd h1.2 (by simp)
    | some o =>
      rw [ho] at h1
      obtain ⟨e, he, hb⟩ := Array.any_eq_true'.1 h1.2
      simp only [Bool.and_eq_true, Bool.or_eq_true, beq_iff_eq, List.contains_iff_mem] at hb
      exact ⟨o, rfl, e, he, hb.1, hb.2⟩
  · rcases Nat.lt_or_ge j ops.size with hlt | hge
    · have h2 := h.2 j (List.mem_range.2 hlt)
      simp only [Bool.or_eq_true, beq_iff_eq, hji, hun, hs, List.contains_iff_mem, Bool.false_eq_true, false_or] at h2
      exact h2
    · have : ops[j]? = none := Array.getElem?_eq_none hge
      simp [sf0, this] at hs
def floats0 (ops : Array Oper) (listed : Array Bool) (i : Nat) : Bool := match ops[i]? with
  | some o => isFloat o.op && Region.free .any ops listed i && (Region.ready .any ops listed).contains i && (!isLoad o.op || waits0 ops listed i (blOf ops listed i))
  | none => false
def chk0 (ops : Array Oper) : DT → Bool → Nat → Array Bool → Bool
  | .done, top, n, listed => top && n == 0 && (Region.ready .any ops listed).isEmpty
  | .fl i t, top, n, listed => top && n != 0 && floats0 ops listed i && chk0 ops t true (n - 1) (listed.setIfInBounds i true)
  | .op i t, top, n, listed => (!top || Region.ready .any ops listed == [i]) && n != 0 && (ops[i]?).isSome && chk0 ops t true (n - 1) (listed.setIfInBounds i true)
  | .alt i t m, top, n, listed => (!top || Region.ready .any ops listed == i :: m.alts) && n != 0 && (ops[i]?).isSome && chk0 ops t true (n - 1) (listed.setIfInBounds i true) && chk0 ops m false n listed
def genT0 (ops : Array Oper) : Nat → Array Bool → DT
  | 0, _ => .done
  | f + 1, listed =>
    let rs := Region.ready .any ops listed
    match rs.find? (fun i => floats0 ops listed i) with
    | some i => .fl i (genT0 ops f (listed.setIfInBounds i true))
    | none => goT (fun i => genT0 ops f (listed.setIfInBounds i true)) rs
def drawOrd0 (ops : Array Oper) : Option OT :=
  let t := genT0 ops ops.size (Array.replicate ops.size false)
  if Region.noSelect ops && chk0 ops t true ops.size (Array.replicate ops.size false) then some (opT ops t) else none
@[reducible] def stepQ (E : Env) (ops : List Oper) (o : Oper) (s : St) (K : St → Prop) : Prop := match isFloat o.op with
  | true => stepK E ops o s K
  | false => match isCallO o.op with
    | true => stepI E ops o s K
    | false => stepK E ops o s K
@[reducible] def itreeK (E : Env) (ops : List Oper) : OT → St → (St → Prop) → Prop
  | .done, s, K => K s
  | .op o t, s, K => stepQ E ops o s fun s => itreeK E ops t s K
  | .alt o t m, s, K => (stepQ E ops o s fun s => itreeK E ops t s K) ∧ itreeK E ops m s K
@[reducible] def ipAny (E : Env) : List Oper → Bool
  | [] => false
  | o :: l => match o.op with
    | .call c => match c.callee with
      | .value (.func f) => match E.ip f with
        | some _ => true
        | none => ipAny E l
      | _ => ipAny E l
    | _ => ipAny E l
section
variable {P : Program} {E : Env} {B : Base} {h0 : FH} {s : St} {h : FH} {β : List RV} {w : World} {a : Act} {o : Oper} {ops : Array Oper} {K : St → Prop}
theorem stepQ_ok (ok : EnvOK P E) (sat : Sat E.n B h0 s h β w a) (hg : GlobOK E.cx.gd h) {i : Nat} (hi : ops[i]? = some o) (k : stepQ E (tl ops) o s K) {R : Act → World → Prop}
    (next : ∀ s' h' β' w' v, K s' → h.le h' → (sf0 ops i = true → Gro w w') → Sat E.n B h0 s' h' β' w' (a.put o.dst v) → R (a.put o.dst v) w') : wpO P ops i R a w := by
  unfold wpO
  simp only [hi]
  unfold stepQ at k
  have plain : quiet0 o.op = quietly o.op → stepK E (tl ops) o s K → if Region.wanted o (yielded ops a.tmps) = true then o.wp P a w R noQ else R (a.put o.dst undef) w := fun hq k =>
    stepK_ok ok sat hg k R noQ fun s' h' β' w' v k' le gro sat' => next s' h' β' w' v k' le (fun e => gro (by rw [← hq]; simpa [sf0, hi] using e)) sat'
  split at k
  · rename_i hf
    refine plain ?_ k
    cases ho : o.op with
    | call c =>
      rw [ho] at hf
      have : c.callee = .builtin .len := lenB hf
      simp [quiet0, quietly, this]
    | _ => rfl
  · rename_i hf
    split at k
    · rename_i hc
      refine stepI_ok ok sat hg k R noQ fun s' h' β' w' v k' le sat' => next s' h' β' w' v k' le (fun e => ?_) sat'
      exfalso
      cases ho : o.op with
      | call c =>
        rw [ho] at hf
        simp only [sf0, hi, ho, quiet0] at e
        have h1 : c.callee = .builtin .len := by
          revert e; split
          · rename_i h2; intro _; exact h2
          · intro e; cases e
        have : isFloat (Op.call c) = true := by simp [isFloat, isFloat0, h1]
        rw [this] at hf; cases hf
      | _ => rw [ho] at hc; cases hc
    · rename_i hc
      refine plain ?_ k
      cases ho : o.op with
      | call c => rw [ho] at hc; cases hc
      | _ => rfl
theorem itree_ok (ok : EnvOK P E) (hg : GlobOK E.cx.gd h0) (hs : Region.noSelect ops = true) {R : Act → World → Prop} : ∀ (t : DT) {n : Nat} {listed : Array Bool} {s : St} {h : FH} {β : List RV} {w : World} {a : Act},
    Sat E.n B h0 s h β w a → itreeK E (tl ops) (opT ops t) s K → (∀ s' h' β' w' a', K s' → h.le h' → Sat E.n B h0 s' h' β' w' a' → Same (dsts ops.toList) a a' → R a' w') →
    (chk0 ops t true n listed = true → anyI P .any ops (sf0 ops) R n listed a w) ∧
    (chk0 ops t false n listed = true → ∀ i ∈ t.alts, wpO P ops i (fun a' w' => (sf0 ops i = true → Gro w w') ∧ anyI P .any ops (sf0 ops) R (n - 1) (listed.setIfInBounds i true) a' w') a w)
  | .done, n, listed, s, h, β, w, a, sat, k, next => by
    refine ⟨fun hc => ?_, fun hc => by simp [chk0] at hc⟩
    simp only [chk0, Bool.true_and, Bool.and_eq_true, beq_iff_eq] at hc
    obtain ⟨rfl, hr⟩ := hc
    exact ⟨by simpa using hr, next _ _ _ _ _ k (FH.le.refl h) sat (Same.refl _ _)⟩
  | .fl i t, n, listed, s, h, β, w, a, sat, k, next => by
    refine ⟨fun hc => ?_, fun hc => by simp [chk0] at hc⟩
    simp only [chk0, Bool.true_and, Bool.and_eq_true, bne_iff_ne, ne_eq] at hc
    obtain ⟨⟨hn0, hb⟩, hc⟩ := hc
    obtain ⟨n, rfl⟩ : ∃ m, n = m + 1 := ⟨n - 1, by omega⟩
    unfold floats0 at hb
    cases hi : ops[i]? with
    | none => rw [hi] at hb; simp at hb
    | some o =>
      rw [hi] at hb
      simp only [Bool.and_eq_true] at hb
      simp only [opT, hi, itreeK] at k
      have hmem : o ∈ ops.toList := List.mem_of_getElem? (i := i) (by simpa using hi)
      obtain ⟨⟨⟨hf, hfree⟩, hr⟩, hl⟩ := hb
      have k : stepK E (tl ops) o s fun s => itreeK E (tl ops) (opT ops t) s K := by
        unfold stepQ at k; rw [hf] at k; exact k
      obtain ⟨v, s', hy, k', sat'⟩ := float_step ok sat (hg.mono sat.ok.hle) hf k
      have hq : sf0 ops i = true := by
        simp only [sf0, hi]
        cases ho : o.op with
        | call c =>
          rw [ho] at hf
          have : c.callee = .builtin .len := lenB hf
          simp [quiet0, this]
        | _ =>
          have := float_quiet hf
          rw [ho] at this
          exact this
      refine anyI_first (bl := blOf ops listed i) hi (Region.noSelect_spec hs) hq n listed a w (Region.free_spec hi hfree) (fun e => ?_) (by simpa using hr) hy (fun _ => Gro.refl w)
        ((itree_ok ok hg hs t sat' k' fun s2 h2 β2 w2 a2 k2 le2 sat2 sm => next s2 h2 β2 w2 a2 k2 le2 sat2 (sm.put_mem hmem)).1 hc)
      rw [e] at hl
      exact waits0_spec (by simpa using hl)
  | .op i t, n, listed, s, h, β, w, a, sat, k, next => by
    have key : n ≠ 0 → (ops[i]?).isSome = true → chk0 ops t true (n - 1) (listed.setIfInBounds i true) = true → wpO P ops i (fun a' w' => (sf0 ops i = true → Gro w w') ∧ anyI P .any ops (sf0 ops) R (n - 1) (listed.setIfInBounds i true) a' w') a w := by
      intro hn0 hi hc
      obtain ⟨o, hi⟩ := Option.isSome_iff_exists.1 hi
      have hmem : o ∈ ops.toList := List.mem_of_getElem? (i := i) (by simpa using hi)
      simp only [opT, hi, itreeK] at k
      exact (stepQ_ok ok sat (hg.mono sat.ok.hle) hi k fun s' h' β' w' v k' le gro sat' => ⟨gro, (itree_ok ok hg hs t sat' k' fun s2 h2 β2 w2 a2 k2 le2 sat2 sm => next s2 h2 β2 w2 a2 k2 (le.trans le2) sat2 (sm.put_mem hmem)).1 hc⟩)
    refine ⟨fun hc => ?_, fun hc j hj => ?_⟩
    · simp only [chk0, Bool.not_true, Bool.false_or, Bool.and_eq_true, bne_iff_ne, ne_eq, beq_iff_eq] at hc
      obtain ⟨⟨⟨hr, hn0⟩, hi⟩, hc⟩ := hc
      obtain ⟨m, rfl⟩ : ∃ m, n = m + 1 := ⟨n - 1, by omega⟩
      refine ⟨fun h0 => by rw [hr] at h0; simp at h0, fun j hj => ?_⟩
      rw [hr] at hj
      simp at hj
      subst hj
      exact key hn0 hi hc
    · simp only [chk0, Bool.not_false, Bool.true_or, Bool.true_and, Bool.and_eq_true, bne_iff_ne, ne_eq] at hc
      simp only [DT.alts, List.mem_singleton] at hj
      subst hj
      exact key hc.1.1 hc.1.2 hc.2
  | .alt i t mm, n, listed, s, h, β, w, a, sat, k, next => by
    have key : n ≠ 0 → (ops[i]?).isSome = true → chk0 ops t true (n - 1) (listed.setIfInBounds i true) = true → chk0 ops mm false n listed = true →
        ∀ j ∈ i :: mm.alts, wpO P ops j (fun a' w' => (sf0 ops j = true → Gro w w') ∧ anyI P .any ops (sf0 ops) R (n - 1) (listed.setIfInBounds j true) a' w') a w := by
      intro hn0 hi hc hm j hj
      obtain ⟨o, hi⟩ := Option.isSome_iff_exists.1 hi
      have hmem : o ∈ ops.toList := List.mem_of_getElem? (i := i) (by simpa using hi)
      simp only [opT, hi, itreeK] at k
      rcases List.mem_cons.1 hj with rfl | hj
      · exact (stepQ_ok ok sat (hg.mono sat.ok.hle) hi k.1 fun s' h' β' w' v k' le gro sat' => ⟨gro, (itree_ok ok hg hs t sat' k' fun s2 h2 β2 w2 a2 k2 le2 sat2 sm => next s2 h2 β2 w2 a2 k2 (le.trans le2) sat2 (sm.put_mem hmem)).1 hc⟩)
      · exact (itree_ok ok hg hs mm sat k.2 next).2 hm j hj
    refine ⟨fun hc => ?_, fun hc j hj => ?_⟩
    · simp only [chk0, Bool.not_true, Bool.false_or, Bool.and_eq_true, bne_iff_ne, ne_eq, beq_iff_eq] at hc
      obtain ⟨⟨⟨⟨hr, hn0⟩, hi⟩, hc⟩, hm⟩ := hc
      obtain ⟨q, rfl⟩ : ∃ m, n = m + 1 := ⟨n - 1, by omega⟩
      refine ⟨fun h0 => by rw [hr] at h0; simp at h0, fun j hj => ?_⟩
      rw [hr] at hj
      exact key hn0 hi hc hm j hj
    · simp only [chk0, Bool.not_false, Bool.true_or, Bool.true_and, Bool.and_eq_true, bne_iff_ne, ne_eq] at hc
      exact key hc.1.1.1 hc.1.1.2 hc.1.2 hc.2 j hj
theorem idraw_ok (ok : EnvOK P E) (hg : GlobOK E.cx.gd h0) {id : Nat} {ol : OT} (ho : drawOrd0 ops = some ol) (sat : Sat E.n B h0 s h β w a) (k : itreeK E (tl ops) ol s K) {F : Fence} {n : Nat} (hF : Wd F) (hn : ndL ops.toList = true) {Q : Exit → Act → World → Prop}
    (next : ∀ s' h' β' w' a', K s' → h.le h' → Sat E.n B h0 s' h' β' w' a' → Same (dsts (tl ops)) a a' → Q .normal a' w') : (Code.region id ops true).wpIn F n P Q a w := by
  unfold drawOrd0 at ho
  have et : tl ops = ops.toList := by cases ops; rfl
  simp only at ho
  split at ho
  · rename_i hp
    cases ho
    simp only [Bool.and_eq_true, beq_iff_eq] at hp
    refine wpIn_region_any ok.mixed (anyI_In (sf := sf0 ops) (R := fun a w => Q .normal a w) hF hn (fun _ _ hh => hh) _ _ _ _ ?_)
    exact (itree_ok ok hg hp.1 (R := fun a w => Q .normal a w) (genT0 ops ops.size (Array.replicate ops.size false)) (sat.drawn (w.drawn + 1) (Nat.le_succ _)) k fun s' h' β' w' a' k' le sat' sm => next _ _ _ _ _ k' le sat' (by rw [et]; exact sm)).1 hp.2
  · cases ho
end
/-! At a region's end the guards are forgotten. -/
@[reducible] def isNil {α : Type} : List α → Bool
  | [] => true
  | _ :: _ => false
@[reducible] def cleanE (seen : List Nat) : List (Nat × Gd × Ent) → List (Nat × Gd × Ent)
  | [] => []
  | (k, g, e) :: l => match memN k seen with
    | true => cleanE seen l
    | false => match isNil g with
      | true => (k, g, e) :: cleanE (k :: seen) l
      | false => cleanE (k :: seen) l
@[reducible] def cleanT : List (Gd × Res) → List (Gd × Res)
  | [] => []
  | (g, r) :: l => match isNil g with
    | true => ([], r) :: cleanT l
    | false => ([], .gone) :: cleanT l
@[reducible] def clean (s : St) : St := { env := cleanE [] s.env, T := cleanT s.T, gl := [], gs := [] }
theorem cleanE_get : ∀ {l : List (Nat × Gd × Ent)} {seen : List Nat} {t : Nat} {G : Gd} {e : Ent}, lkE (cleanE seen l) t = some (G, e) → memN t seen = false ∧ lkE l t = some (G, e) ∧ G = []
  | [], _, _, _, _, h => by simp [cleanE, lkE] at h
  | (k, g, e0) :: l, seen, t, G, e, h => by
    unfold cleanE at h
    split at h
    · rename_i hm
      obtain ⟨h1, h2, h3⟩ := cleanE_get h
      refine ⟨h1, ?_, h3⟩
      rw [lkE_cons, if_neg]
      · exact h2
      · rintro rfl; rw [hm] at h1; cases h1
    · rename_i hm
      have sub : lkE (cleanE (k :: seen) l) t = some (G, e) → memN t seen = false ∧ lkE ((k, g, e0) :: l) t = some (G, e) ∧ G = [] := by
        intro h
        obtain ⟨h1, h2, h3⟩ := cleanE_get h
        rw [memN_cons, Bool.or_eq_false_iff] at h1
        refine ⟨h1.2, ?_, h3⟩
        rw [lkE_cons, if_neg]
        · exact h2
        · rintro rfl; exact Nat.ne_of_beq_eq_false h1.1 rfl
      split at h
      · rename_i hn
        rw [lkE_cons] at h
        split at h
        · rename_i hk
          subst hk
          cases h
          refine ⟨hm, by rw [lkE_cons, if_pos rfl], ?_⟩
          cases g with
          | nil => rfl
          | cons _ _ => cases hn
        · exact sub h
      · exact sub h
theorem cleanT_eff (gl : List Bool) : ∀ (T : List (Gd × Res)) (i : Nat) (r : Res), (eff [] (cleanT T))[i]? = some r → r.live = true → (eff gl T)[i]? = some r
  | [], i, r, h, _ => by simp [cleanT, eff] at h
  | (g, r0) :: l, i, r, h, hl => by
    have e1 : eff [] (cleanT ((g, r0) :: l)) = (match isNil g with | true => r0 | false => Res.gone) :: eff [] (cleanT l) := by
      simp only [cleanT]; cases isNil g <;> rfl
    rw [e1] at h
    cases i with
    | zero =>
      simp only [List.getElem?_cons_zero, Option.some.injEq] at h
      cases g with
      | nil => simp only [isNil] at h; subst h; rfl
      | cons _ _ => simp only [isNil] at h; subst h; cases hl
    | succ i =>
      simp only [List.getElem?_cons_succ, eff] at h ⊢
      exact cleanT_eff gl l i r h hl
theorem cleanT_len : ∀ (T : List (Gd × Res)), (cleanT T).length = T.length
  | [] => rfl
  | (g, r) :: l => by simp only [cleanT]; split <;> simp [cleanT_len l]
theorem cleanT_nil : ∀ {T : List (Gd × Res)} {p : Gd × Res}, p ∈ cleanT T → p.1 = []
  | [], p, h => by simp [cleanT] at h
  | (g, r) :: l, p, h => by
    simp only [cleanT] at h
    split at h
    · rcases List.mem_cons.1 h with rfl | h
      · rfl
      · exact cleanT_nil h
    · rcases List.mem_cons.1 h with rfl | h
      · rfl
      · exact cleanT_nil h
theorem OK.weaken {B : Base} {h0 : FH} {T T' : List Res} {h : FH} {β : List RV} {w : World} (ok : OK B h0 T h β w) (hl : T'.length = T.length) (sub : ∀ (i : Nat) r, T'[i]? = some r → r.live = true → T[i]? = some r) : OK B h0 T' h β w where
  below := ok.below
  dr := ok.dr
  len := by rw [hl]; exact ok.len
  holds := by
    intro i r v e e'
    cases hr : r.live with
    | true => exact ok.holds i r v (sub i r e hr) e'
    | false => cases r <;> first | (cases hr; done) | (cases v <;> trivial)
  own := fun i r v b e l e' hb => ok.own i r v b (sub i r e l) l e' hb
  inj := fun i j r r' u v b e l e' l' f f' hb hb' => ok.inj i j r r' u v b (sub i r e l) l (sub j r' e' l') l' f f' hb hb'
  hle := ok.hle
  hw := ok.hw
  hg := ok.hg
  kn := ok.kn
theorem Sat.clean {N : Nat} {B : Base} {h0 : FH} {s : St} {h : FH} {β : List RV} {w : World} {a : Act} (sat : Sat N B h0 s h β w a) : Sat N B h0 (clean s) h β w a := by
  refine ⟨?_, ?_, ?_, sat.defers, sat.sz, ?_, ?_⟩
  · exact sat.ok.weaken (by simp [eff_len, cleanT_len]) fun i r e l => cleanT_eff s.gl s.T i r e l
  · intro t G e ht
    obtain ⟨_, h1, rfl⟩ := cleanE_get ht
    exact sat.env t [] e h1
  · intro d i hi
    have hi : lkG [] d = some i := hi
    cases hi
  · intro t G e ht
    obtain ⟨_, h1, rfl⟩ := cleanE_get ht
    rfl
  · intro p hp; rw [cleanT_nil hp]
/-! Loops. -/
@[reducible] def writes : Code → List Nat
  | .region _ ops _ => dsts (tl ops)
  | .seq a b => catL (writes a) (writes b)
  | .cond _ a b => catL (writes a) (writes b)
  | .block _ c => writes c
  | .loop c => writes c
  | _ => []
@[reducible] def keyOf : Code → Nat
  | .region id _ _ => id
  | .seq a _ => keyOf a
  | .cond _ a _ => keyOf a
  | .block _ c => keyOf c
  | .loop c => keyOf c
  | _ => 0
@[reducible] def scBelow (n : Nat) : SC → Bool
  | .own i _ => Nat.ble (i + 1) n
  | .row i => Nat.ble (i + 1) n
  | .rowp i _ _ _ => Nat.ble (i + 1) n
  | .sub i _ => Nat.ble (i + 1) n
  | .subp i _ _ _ _ => Nat.ble (i + 1) n
  | _ => true
@[reducible] def svBelow (n : Nat) : SV → Bool
  | .c x => scBelow n x
  | .agg xs => allL (scBelow n) xs
  | _ => true
@[reducible] def resBelow (n : Nat) : Res → Bool
  | .blk _ xs => allL (scBelow n) xs
  | _ => true
@[reducible] def scRefFree : SC → Bool
  | .v _ => true
  | .sl _ _ => true
  | .one _ _ => true
  | .fp _ _ => true
  | .abs _ => true
  | .junk => true
  | _ => false
@[reducible] def svRefFree : SV → Bool
  | .c x => scRefFree x
  | .agg xs => allL scRefFree xs
  | _ => true
@[reducible] def entRefFree : Ent → Bool
  | .one v => svRefFree v
  | .tup vs => allL svRefFree vs
@[reducible] def keepE (ws : List Nat) (seen : List Nat) : List (Nat × Gd × Ent) → List (Nat × Gd × Ent)
  | [] => []
  | (k, g, e) :: l => match memN k seen with
    | true => keepE ws seen l
    | false => match memN k ws with
      | true => keepE ws (k :: seen) l
      | false => match andB (isNil g) (entRefFree e) with
        | true => (k, g, e) :: keepE ws (k :: seen) l
        | false => keepE ws (k :: seen) l
@[reducible] def keepR (n : Nat) (ws : List Nat) (seen : List Nat) : List (Nat × Gd × Ent) → List (Nat × SV)
  | [] => []
  | (k, g, e) :: l => match memN k seen with
    | true => keepR n ws seen l
    | false => match memN k ws with
      | true => keepR n ws (k :: seen) l
      | false => match isNil g with
        | true => match e with
          | .one (.c (.own i off)) => match Nat.ble (i + 1) n with
            | true => (k, .c (.own i off)) :: keepR n ws (k :: seen) l
            | false => keepR n ws (k :: seen) l
          | .one (.c (.row i)) => match Nat.ble (i + 1) n with
            | true => (k, .c (.row i)) :: keepR n ws (k :: seen) l
            | false => keepR n ws (k :: seen) l
          | _ => keepR n ws (k :: seen) l
        | false => keepR n ws (k :: seen) l
@[reducible] def hasR (s : St) : List (Nat × SV) → Bool
  | [] => true
  | (k, .c (.own i off)) :: l => match lkE s.env k with
    | some ([], .one (.c (.own i' off'))) => andB (andB (Nat.beq i i') (Nat.beq off off')) (hasR s l)
    | _ => false
  | (k, .c (.row i)) :: l => match lkE s.env k with
    | some ([], .one (.c (.row i'))) => andB (Nat.beq i i') (hasR s l)
    | _ => false
  | _ => false
@[reducible] def slotE : List (Nat × SV) → List (Nat × Gd × Ent)
  | [] => []
  | (k, v) :: l => (k, [], .one v) :: slotE l
@[reducible] def updT : List (Nat × Res) → List (Gd × Res) → List (Gd × Res)
  | [], T => T
  | (i, r) :: l, T => updT l (setL T i ([], r))
@[reducible] def headSt (ws : List Nat) (s : St) (sl : List (Nat × SV)) (rs : List (Nat × Res)) : St :=
  { env := catL (slotE sl) (catL (slotE (keepR (lenL s.T) ws [] s.env)) (keepE ws [] s.env)), T := updT rs s.T, gl := [], gs := [] }
@[reducible] def asSl : SV → SV
  | .c x => match x with
    | .abs (.ful sh l) => .c (.sl sh l)
    | x => .c x
  | v => v
@[reducible] def hasE (s : St) : List (Nat × SV) → Prop
  | [] => True
  | (k, v) :: l => (match lkE s.env k with
    | some ([], .one u) => asSl u = v
    | _ => False) ∧ hasE s l
@[reducible] def goodT (n : Nat) (T : List (Gd × Res)) : Bool := allL (fun p => andB (isNil p.1) (resBelow n p.2)) T
@[reducible] def goodS (n : Nat) (ws : List Nat) (sl : List (Nat × SV)) : Bool := allL (fun p => andB (svBelow n p.2) (memN p.1 ws)) sl
@[reducible] def nil1 (s : St) (k : Nat) (t : TypeId) (sh : Sh) : St := match lkE s.env k with
  | some ([], .one (.c (.v (.slice none 0 0)))) => { s with T := snoc s.T ([], .row t sh []), env := (k, [], .one (.c (.row (lenL s.T)))) :: s.env, gs := rmG s.gs k }
  | some ([], .one (.c (.own i 0))) => match nthL s.T i with
    | some ([], .blk t' [.v (.slice none 0 0)]) => { s with T := setL s.T i ([], .blk t' [.sl sh []]) }
    | _ => s
  | _ => s
@[reducible] def frzSlot (s : St) (k : Nat) : St := match lkE s.env k with
  | some ([], .one (.c (.row r))) => frzS s r
  | some ([], .one (.c (.abs (.ful sh l)))) => { s with env := (k, [], .one (.c (.sl sh l))) :: s.env, gs := rmG s.gs k }
  | _ => s
@[reducible] def frzSlots (s : St) : List Nat → St
  | [] => s
  | k :: l => frzSlots (frzSlot s k) l
theorem Sat.frzSlots {N : Nat} {B : Base} {h0 : FH} {w : World} {a : Act} {β : List RV} : ∀ (l : List Nat) {s : St} {h : FH}, Sat N B h0 s h β w a → ∃ h', h.le h' ∧ Sat N B h0 (frzSlots s l) h' β w a
  | [], s, h, sat => ⟨h, FH.le.refl h, sat⟩
  | k :: l, s, h, sat => by
    have h1 : ∃ h', h.le h' ∧ Sat N B h0 (frzSlot s k) h' β w a := by
      unfold frzSlot
      split
      · exact sat.frz1 _
      · rename_i sh l hk
        refine ⟨h, FH.le.refl h, sat.ok, ?_, ?_, sat.defers, sat.sz, ?_, sat.gT⟩
        · intro t' G e ht
          rw [lkE_cons] at ht
          split at ht
          · rename_i hkt
            subst hkt; cases ht
            obtain ⟨z, z1, z2, z3⟩ := sat.env k _ _ hk
            have c : CnV h β (.c (.abs (.ful sh l))) z := z2 rfl
            exact ⟨z, z1, fun _ => ⟨c.1.1, c.2⟩, fun hh => by cases hh⟩
          · exact sat.env t' G e ht
        · intro d i hi
          obtain ⟨hne, hi⟩ := lkG_rm _ _ _ _ hi
          obtain ⟨G, b, q1, q2⟩ := sat.gs d i hi
          exact ⟨G, b, by rw [lkE_cons, if_neg (Ne.symm hne)]; exact q1, q2⟩
        · intro t' G e ht
          rw [lkE_cons] at ht
          split at ht
          · cases ht; rfl
          · exact sat.gb _ _ _ ht
      · exact ⟨h, FH.le.refl h, sat⟩
    obtain ⟨h1, le1, sat1⟩ := h1
    obtain ⟨h2, le2, sat2⟩ := Sat.frzSlots l sat1
    exact ⟨h2, le1.trans le2, sat2⟩
@[reducible] def nilSt (s : St) : List (Nat × TypeId × Sh) → St
  | [] => s
  | (k, t, sh) :: l => nilSt (nil1 s k t sh) l
theorem Sat.nil1 {N : Nat} {B : Base} {h0 : FH} {s : St} {h : FH} {β : List RV} {w : World} {a : Act} (sat : Sat N B h0 s h β w a) (k : Nat) (t : TypeId) (sh : Sh) : ∃ β', Sat N B h0 (nil1 s k t sh) h β' w a := by
  unfold Eng.nil1
  split
  · rename_i hk
    obtain ⟨z, z1, z2, _⟩ := sat.env k _ _ hk
    have ez : z = .slice none 0 0 := (z2 rfl : CnV h β (.c (.v (.slice none 0 0))) z).1.1
    subst ez
    have ok : OK B h0 (eff s.gl (snoc s.T ([], .row t sh []))) h (β ++ [.row (.slice none 0 0)]) w := by
      rw [eff_snoc]
      exact sat.ok.add (r := .row t sh []) (v := .row (.slice none 0 0)) (grown_refl w none) (fun b hb => by rw [has_row] at hb; simp [rowBlk] at hb) (.inl ⟨rfl, rfl⟩)
    have gT : ∀ p ∈ snoc s.T (([] : Gd), Res.row t sh []), gbd s.gl.length p.1 = true := by
      intro p hp
      rw [snoc_eq, List.mem_append] at hp
      rcases hp with hp | hp
      · exact sat.gT p hp
      · simp at hp; subst hp; rfl
    have sm := sat.mem ok (FH.le.refl h) (Ext.append _ _) gT
    refine ⟨_, ok, ?_, ?_, sat.defers, sat.sz, ?_, gT⟩
    · intro t' G e ht
      rw [lkE_cons] at ht
      split at ht
      · rename_i hkt
        subst hkt; cases ht
        refine ⟨_, z1, fun _ => ⟨?_, rfl, rfl⟩, fun hh => by cases hh⟩
        refine ⟨.row (.slice none 0 0), ?_, rfl⟩
        have : lenL s.T = β.length := by rw [sat.ok.len, eff_len, lenL_eq]
        rw [this]; simp
      · exact sm.env t' G e ht
    · intro d i hi
      obtain ⟨hne, hi⟩ := lkG_rm _ _ _ _ hi
      obtain ⟨G, b, q1, q2⟩ := sat.gs d i hi
      exact ⟨G, b, by rw [lkE_cons, if_neg (Ne.symm hne)]; exact q1, q2⟩
    · intro t' G e ht
      rw [lkE_cons] at ht
      split at ht
      · cases ht; rfl
      · exact sat.gb _ _ _ ht
  · rename_i i hk
    split
    · rename_i t' hT
      refine ⟨β, ?_, sat.env, sat.gs, sat.defers, sat.sz, sat.gb, ?_⟩
      · show OK B h0 (eff s.gl (setL s.T i ([], .blk t' [.sl sh []]))) h β w
        rw [eff_set]
        refine sat.ok.reread (effres hT (show gv s.gl [] = true from rfl)) rfl fun v hv => ?_
        cases v with
        | blk b =>
          obtain ⟨ys, e1, al⟩ := hv
          refine ⟨ys, e1, ?_⟩
          cases ys with
          | nil => exact al.elim
          | cons y ys =>
            cases ys with
            | cons _ _ => exact al.2.elim
            | nil =>
              obtain ⟨⟨c, o⟩, _⟩ := al
              obtain rfl : y = .slice none 0 0 := c.1
              exact ⟨⟨.inl ⟨rfl, rfl⟩, o⟩, trivial⟩
        | row _ => exact hv.elim
        | deep _ _ => exact hv.elim
        | no => exact hv.elim
      · intro p hp
        rw [setL_eq] at hp
        rcases List.mem_or_eq_of_mem_set hp with hp | hp
        · exact sat.gT p hp
        · subst hp; rfl
    · exact ⟨β, sat⟩
  · exact ⟨β, sat⟩
theorem Sat.nilSt {N : Nat} {B : Base} {h0 : FH} {h : FH} {w : World} {a : Act} : ∀ (l : List (Nat × TypeId × Sh)) {s : St} {β : List RV}, Sat N B h0 s h β w a → ∃ β', Sat N B h0 (nilSt s l) h β' w a
  | [], s, β, sat => ⟨β, sat⟩
  | (k, t, sh) :: l, s, β, sat => by
    obtain ⟨β1, sat1⟩ := sat.nil1 k t sh
    exact Sat.nilSt l sat1
@[reducible] def loopK (body : St → (Exit → St → Prop) → Prop) (ws : List Nat) (la : LA) (s : St) (K : Exit → St → Prop) : Prop :=
  (∃ x, la.inv x ∧ hasE s (la.slots x) ∧ s.T = updT (la.res x) s.T) ∧
  ∀ x, la.inv x → match andB (goodT (lenL s.T) (updT (la.res x) s.T)) (goodS (lenL s.T) ws (la.slots x)) with
    | false => False
    | true => body (headSt ws s (la.slots x) (la.res x)) fun e s' => match e with
      | .normal => match hasR (canS la.can (swAll la.ren s')) (keepR (lenL s.T) ws [] s.env) with
        | true => ∃ x', la.inv x' ∧ hasE (canS la.can (swAll la.ren s')) (la.slots x') ∧ takeL (lenL s.T) (canS la.can (swAll la.ren s')).T = updT (la.res x') s.T ∧ la.meas x' < la.meas x
        | false => False
      | e => K e s'
@[reducible] def roundsK (body : St → (Exit → St → Prop) → Prop) : Nat → St → (Exit → St → Prop) → Prop
  | 0, _, _ => False
  | n + 1, s, K => body s fun e s' => match e with
    | .normal => roundsK body n s' K
    | e => K e s'
@[reducible] def annK (E : Env) (c : Code) (s : St) : Option Ann := match E.ann (keyOf c) with
  | some f => some (f s)
  | none => none
/-! What a loop's relation may ask of the state before it. -/
@[reducible] def slotI (s : St) (t : Nat) : Int := match lkE s.env t with
  | some (_, .one (.c (.v (.int _ n)))) => n
  | _ => 0
@[reducible] def slotL (sh : Sh) (s : St) (t : Nat) : List sh.den := match lkE s.env t with
  | some (_, .one v) => match srcD s sh v with
    | some l => l
    | none => []
  | _ => []
@[reducible] def br (b : Bool) (X Y : Prop) : Prop := match b with
  | true => X
  | false => Y
theorem br_iff {b : Bool} {X Y : Prop} : br b X Y ↔ (b = true → X) ∧ (b = false → Y) := by cases b <;> simp [br]
@[reducible] def parE : (ps : List Nat) → (ss : List Sh) → dens ss → List (Nat × Gd × Ent)
  | p :: ps, s :: ss, d => (p, [], .one (ofDat s d.1)) :: parE ps ss d.2
  | _, _, _ => []
@[reducible] def parOK (n : Nat) : List Nat → List Sh → Bool
  | [], [] => true
  | p :: ps, _ :: ss => andB (andB (Nat.ble (p + 1) n) (!(memN p ps))) (parOK n ps ss)
  | _, _ => false
@[reducible] def rdE (ws dr : List Nat) (s : St) : List (Nat × Gd × Ent) := catL (slotE (keepR (lenL s.T) ws [] s.env)) (keepE dr [] s.env)
@[reducible] def rangeK (n : Nat) (body : St → (Exit → St → Prop) → Prop) (ws : List Nat) (ra : RA) (ps : List Nat) (ss : List Sh) (L : List (dens ss)) (s : St) (K : Exit → St → Prop) : Prop :=
  match parOK n ps ss with
  | false => False
  | true =>
  (∃ x, ra.inv 0 x ∧ s.T = updT (ra.res x) s.T) ∧
  (∀ i x d, ra.inv i x → L[i]? = some d → match goodT (lenL s.T) (updT (ra.res x) s.T) with
    | false => False
    | true => body { env := catL (parE ps ss d) (rdE ws (catL ra.drop ps) s), T := updT (ra.res x) s.T, gl := [], gs := [] } fun e s' => match hasR s' (keepR (lenL s.T) ws [] s.env) with
      | false => False
      | true => match e with
        | .normal => ∃ x', ra.inv (i + 1) x' ∧ takeL (lenL s.T) s'.T = updT (ra.res x') s.T
        | .ret => K .ret { env := rdE ws ra.drop s, T := s'.T, gl := s'.gl, gs := [] }
        | .exit j => K (.exit j) { env := rdE ws ra.drop s, T := s'.T, gl := s'.gl, gs := [] }
        | _ => False) ∧
  ∀ x, ra.inv (lenL L) x → match goodT (lenL s.T) (updT (ra.res x) s.T) with
    | false => False
    | true => K .normal { env := rdE ws ra.drop s, T := updT (ra.res x) s.T, gl := [], gs := [] }
@[reducible] def turnS (s : St) (frz : List Nat) (frzI : List Nat) (nl : List (Nat × TypeId × Sh)) (nilC : List (Nat × Nat × TypeId × Sh)) (dp : List (Nat × TypeId × Sh × Nat)) : St := deepAll (nilCs (nilSt (frzTls (frzSlots s frz) frzI) nl) nilC) dp
theorem Sat.turnS {N : Nat} {B : Base} {h0 : FH} {h : FH} {w : World} {a : Act} {s : St} {β : List RV} (sat : Sat N B h0 s h β w a) (frz frzI : List Nat) (nl : List (Nat × TypeId × Sh)) (nilC : List (Nat × Nat × TypeId × Sh)) (dp : List (Nat × TypeId × Sh × Nat)) : ∃ h' β', h.le h' ∧ Sat N B h0 (turnS s frz frzI nl nilC dp) h' β' w a := by
  obtain ⟨h1, le1, sat1⟩ := Sat.frzSlots frz sat
  obtain ⟨h2, β2, le2, sat2⟩ := Sat.frzTls (l := frzI) sat1
  obtain ⟨β3, sat3⟩ := Sat.nilSt nl sat2
  obtain ⟨β4, sat4⟩ := Sat.nilCs nilC sat3
  obtain ⟨β5, sat5⟩ := Sat.deepAll dp sat4
  exact ⟨h2, β5, le1.trans le2, sat5⟩
@[reducible] def padS : Nat → St → St
  | 0, s => s
  | n + 1, s => padS n { s with T := snoc s.T ([], .gone) }
theorem Sat.padS {N : Nat} {B : Base} {h0 : FH} {h : FH} {w : World} {a : Act} : ∀ (n : Nat) {s : St} {β : List RV}, Sat N B h0 s h β w a → ∃ β', Sat N B h0 (padS n s) h β' w a
  | 0, s, β, sat => ⟨β, sat⟩
  | n + 1, s, β, sat => by
    refine Sat.padS n (β := β ++ [.no]) (s := { s with T := snoc s.T ([], .gone) }) ?_
    refine sat.mem ?_ (FH.le.refl h) (Ext.append _ _) fun p hp => ?_
    · rw [eff_snoc]
      exact sat.ok.add (r := .gone) (v := .no) (grown_refl w none) (fun b hb => (has_no hb).elim) trivial
    · rw [snoc_eq, List.mem_append] at hp
      rcases hp with hp | hp
      · exact sat.gT p hp
      · simp at hp; subst hp; rfl
@[reducible] def cutA (E : Env) (c : Code) (s : St) : Option LA := match annK E c s with
  | some (.cut la) => some la
  | _ => none
@[reducible] def cutI (ws : List Nat) (la : LA) (s s' : St) : Prop := match hasR (canS la.can (swAll la.ren (turnS s' la.frz la.frzI la.nil la.nilC la.deep))) (keepR (lenL s.T) ws [] s.env) with
  | true => ∃ v, la.inv v ∧ hasE (canS la.can (swAll la.ren (turnS s' la.frz la.frzI la.nil la.nilC la.deep))) (la.slots v) ∧ takeL (lenL s.T) (canS la.can (swAll la.ren (turnS s' la.frz la.frzI la.nil la.nilC la.deep))).T = updT (la.res v) s.T
  | false => False
@[reducible] def codeK : Env → Code → St → (Exit → St → Prop) → Prop
  | E, .skip, s, K => K .normal s
  | E, .region _ ops draw, s, K => match ndL (tl ops) with
    | false => False
    | true => match draw with
      | false => opsI E (tl ops) (tl ops) s fun s => K .normal (clean s)
      | true => match mapAny E.cx (tl ops) with
        | true => match lexM ops with
          | true => opsM E (tl ops) (tl ops) s fun s => K .normal (clean s)
          | false => False
        | false => match ipAny E (tl ops) with
          | true => match drawOrd0 ops with
            | some l => itreeK E (tl ops) l s fun s => K .normal (clean s)
            | none => False
          | false => match drawOrd ops with
            | some l => treeK E (tl ops) l s fun s => K .normal (clean s)
            | none => False
  | E, .seq x y, s, K => match cutA E y s with
    | some la => (codeK E x (padS la.pad s) fun e s' => match e with
        | .normal => cutI (catL la.drop (writes x)) la (padS la.pad s) s'
        | e => K e s') ∧ ∀ v, la.inv v → match andB (goodT (lenL (padS la.pad s).T) (updT (la.res v) (padS la.pad s).T)) (goodS (lenL (padS la.pad s).T) (catL la.drop (writes x)) (la.slots v)) with
          | false => False
          | true => codeK E y (headSt (catL la.drop (writes x)) (padS la.pad s) (la.slots v) (la.res v)) K
    | none => codeK E x s fun e s' => match e with
      | .normal => codeK E y s' K
      | e => K e s'
  | E, .cond c x y, s, K => match getE E.cx s [] c with
    | some (.one (.c (.v (.bool b)))) => br b (codeK E x s K) (codeK E y s K)
    | _ => False
  | E, .block id c, s, K => codeK E c s fun e s' => match e with
    | .exit i => match Nat.beq i id with
      | true => K .normal s'
      | false => K (.exit i) s'
    | e => K e s'
  | E, .loop c, s, K => match annK E c s with
    | some (.inv la) => loopK (codeK E c) (catL la.drop (writes c)) la (padS la.pad (turnS s la.frz la.frzI la.nil la.nilC la.deep)) K
    | some (.unroll n) => roundsK (codeK E c) n s K
    | _ => False
  | E, .rangeFunc g ps asg c, s, K => match E.rd with
    | true => False
    | false => match getE E.cx s [] g with
      | some (.one (.c (.abs (.seq P' ss L)))) => match annK E c s with
        | some (.rng ra) => E.P = some P' ∧ rangeK E.n (fun s K => codeK { E with rd := true } asg s fun e s' => match e with
          | .normal => codeK { E with rd := true } c s' K
          | _ => False) (catL ra.drop (catL (tl ps) (catL (writes asg) (writes c)))) ra (tl ps) ss L (turnS s ra.frz ra.frzI ra.nil ra.nilC ra.deep) K
        | _ => False
      | _ => False
  | E, .exit i, s, K => K (.exit i) s
  | E, .ret, s, K => K .ret s
  | _, _, _, _ => False
end Go.Eng
set_option linter.unusedSimpArgs false
set_option linter.unusedVariables false
namespace Go.Eng
open Go Go.RowKit
@[reducible] def markOf (D : Nat) : Deferred := { target := .collected D, args := #[] }
theorem gs_loop (w : World) (a b : Obj) (G : Nat → Prop) : Gs G w ((w.alloc a).alloc b) :=
  ⟨rfl, rfl, rfl, by simp; omega, Nat.le_refl _, fun k hk _ => by
    rw [Below.heap_alloc _ _ _ (by simp; omega), Below.heap_alloc _ _ _ hk]⟩
def roundQ (A : World) (l D : Nat) (G : Nat → Prop) (I : World → Prop) (Ix : Code → World → Prop) : Exit → Act → World → Prop
  | .normal, _, A' => (∀ b, b = l ∨ b = D ∨ G b → A'.heap[b]? = A.heap[b]?) ∧ I A'
  | .ret, _, A' => (∀ b, b = l ∨ b = D ∨ G b → A'.heap[b]? = A.heap[b]?) ∧ Ix .ret A'
  | .exit id, _, A' => (∀ b, b = l ∨ b = D ∨ G b → A'.heap[b]? = A.heap[b]?) ∧ Ix (.exit id) A'
  | .goto t, _, _ => False
  | .panic _, _, _ => False
  | .outgrown, _, _ => False
theorem range_law {P : Program} {h : FH} {ss : List Sh} {L : List (dens ss)} {g : Operand} {ps : Array Tmp} {asg body : Code} {Q : Exit → Act → World → Prop} {a : Act} {w : World} {n : Nat}
    (gv : Gives P h ss L (a.eval g)) (hps : ps.size = ss.length)
    (I : Nat → (Nat → Prop) → World → Prop) (Ix : Code → (Nat → Prop) → World → Prop) (hI : ∀ i G A, I i G A → HW h A) (hX : ∀ c G A, Ix c G A → HW h A)
    (hIg : ∀ i G G' A A', I i G A → Gs G A A' → Own' G G' A A' → I i G' A') (hXg : ∀ c G G' A A', Ix c G A → Gs G A A' → Own' G G' A A' → Ix c G' A')
    (hIp : ∀ i G A l o o', I i G A → w.heap.size ≤ l → A.heap[l]? = some o → ours o = false → I i G (A.putObj l o'))
    (hXp : ∀ c G A l o o', Ix c G A → w.heap.size ≤ l → A.heap[l]? = some o → ours o = false → Ix c G (A.putObj l o'))
    (h0 : I 0 (fun _ => False) w)
    (hbody : ∀ (i : Nat) (d : dens ss) (vs : List Value) (G : Nat → Prop) (A : World) (l : Nat) (o1 o1' o2 : Obj), L[i]? = some d → DVs h ss d vs → I i G A → w.heap.size < l → A.heap[l]? = some o1 → ours o1 = false → ours o1' = false → A.heap[w.heap.size]? = some o2 → ours o2 = false → ¬ G l →
      asg.wpIn (Fence.wide.inRound l) 0 P (Exit.then (fun a1 A1 => (∀ b, b = l ∨ b = w.heap.size ∨ G b → A1.heap[b]? = A.heap[b]?) ∧
        body.wpIn (Fence.wide.inRound l) 0 P (roundQ (A1.putObj l o1') l w.heap.size G (I (i + 1) G) (fun c => Ix c G)) a1 (A1.putObj l o1')) (fun _ _ _ => False)) { tmps := (ps.zip vs.toArray).foldl (fun t (p, v) => t.setIfInBounds p v) a.tmps, defers := [] } A)
    (hdone : ∀ G A, I L.length G A → A.heap[w.heap.size]? = some (.deferred (some [])) → Q .normal { a with defers := markOf w.heap.size :: a.defers } A)
    (hret : ∀ G A, Ix .ret G A → A.heap[w.heap.size]? = some (.deferred (some [])) → Q .ret { a with defers := markOf w.heap.size :: a.defers } A)
    (hexit : ∀ j G A, Ix (.exit j) G A → A.heap[w.heap.size]? = some (.deferred (some [])) → Q (.exit j) { a with defers := markOf w.heap.size :: a.defers } A) :
    (Code.rangeFunc g ps asg body).wpIn Fence.wide n P Q a w := by
  refine wpIn_rangeFunc fun fn hfn => ?_
  obtain ⟨gf, lb, hg, ⟨fng, hfg, hbg, hng⟩, gives⟩ := gv
  obtain ⟨rec, hrec⟩ : ∃ rec : LoopState → Option Code → Loop, rec = fun st pe => { state := st, pending := pe, fn, tmps := a.tmps, params := ps, assign := asg, body, defers := w.heap.size } := ⟨_, rfl⟩
  obtain ⟨W1, hW1⟩ : ∃ W1, (w.alloc (.deferred (some []))).alloc (.loop (rec .ready none)) = W1 := ⟨_, rfl⟩
  have hL1 : W1.heap[w.heap.size + 1]? = some (.loop (rec .ready none)) := by
    rw [← hW1]; have := World.alloc_heap_new (w.alloc (.deferred (some []))) (.loop (rec .ready none)); rwa [World.size_alloc] at this
  have hD1 : W1.heap[w.heap.size]? = some (.deferred (some [])) := by
    rw [← hW1]; exact (Below.heap_alloc _ _ _ (by simp)).trans (World.alloc_heap_new w _)
  have hI1 : I 0 (fun _ => False) W1 := hIg 0 _ _ _ _ h0 (by rw [← hW1]; exact gs_loop w _ _ _) (fun b hb => hb.elim)
  have kd : ∀ {G G' : Nat → Prop} {A A' : World} {k : Nat} {o : Obj}, A.heap[k]? = some o → ¬ G k → Gs G A A' → Own' G G' A A' → A'.heap[k]? = some o ∧ ¬ G' k := fun hk hn hgs ho =>
    ⟨(hgs.block _ (Array.getElem?_eq_some_iff.1 hk).1 hn).trans hk, fun hh => by
      have h1 := (Array.getElem?_eq_some_iff.1 hk).1
      rcases (ho _ hh).2 with h2 | h2
      · exact hn h2
      · omega⟩
  refine ⟨w.heap.size + 1, [markOf w.heap.size], W1, { target := .fn (.func gf) lb, args := #[.func (.yield (w.heap.size + 1)) #[] #[]] }, W1, gf,
    #[.func (.yield (w.heap.size + 1)) #[] #[]] ++ lb, W1, ?_, ?_, ?_, ?_, fun hh => (by cases hh), ?_⟩
  · rw [← hW1, hrec]; exact run_enterLoop_outer _ _ _ _ _
  · simp only [resolve, hg]
    simp [go_sem]
  · intro f' hf'; trivial
  · have e : (callFunc gf (#[.func (.yield (w.heap.size + 1)) #[] #[]] ++ lb)).run P W1 = .ok (.enter gf (#[.func (.yield (w.heap.size + 1)) #[] #[]] ++ lb)) W1 := by
      simp only [callFunc, Sem.run_bind, run_program, Result.andThen_ok, hfg, hng]
      simp [hbg]
      cases hb : fng.body with
      | none => rw [hb] at hbg; cases hbg
      | some _ => simp
    simp [invoke, go_sem, e]
  · have hc := gives (w.heap.size + 1)
      (fun i G A => match i with
        | some i => I i G A ∧ (A.heap[w.heap.size + 1]? = some (.loop (rec .ready none)) ∧ ¬ G (w.heap.size + 1)) ∧ (A.heap[w.heap.size]? = some (.deferred (some [])) ∧ ¬ G w.heap.size)
        | none => ∃ c, (c = .ret ∨ ∃ j, c = .exit j) ∧ Ix c G A ∧ (A.heap[w.heap.size + 1]? = some (.loop (rec .done (some c))) ∧ ¬ G (w.heap.size + 1)) ∧ (A.heap[w.heap.size]? = some (.deferred (some [])) ∧ ¬ G w.heap.size)) W1
      (fun i G A x => by
        cases i with
        | some i => exact hI i G A x.1
        | none => obtain ⟨c, _, x1, _⟩ := x; exact hX c G A x1)
      (fun i G G' A A' x hgs ho => by
        cases i with
        | some i => exact ⟨hIg i _ _ _ _ x.1 hgs ho, kd x.2.1.1 x.2.1.2 hgs ho, kd x.2.2.1 x.2.2.2 hgs ho⟩
        | none =>
          obtain ⟨c, hc, x1, x2, x3⟩ := x
          exact ⟨c, hc, hXg c _ _ _ _ x1 hgs ho, kd x2.1 x2.2 hgs ho, kd x3.1 x3.2 hgs ho⟩)
      (fun i d vs G A hd hv x => by
        obtain ⟨x1, ⟨x2, y2n⟩, x3, y3n⟩ := x
        have hlt : w.heap.size + 1 < A.heap.size := (Array.getElem?_eq_some_iff.1 x2).1
        have hvl : vs.length = ss.length := by
          have : ∀ {ss : List Sh} {d : dens ss} {vs : List Value}, DVs h ss d vs → vs.length = ss.length := by
            intro ss
            induction ss with
            | nil => intro d vs x; cases vs with | nil => rfl | cons _ _ => exact x.elim
            | cons s l ih => intro d vs x; cases vs with | nil => exact x.elim | cons v vs => simp [ih x.2]
          exact this hv
        have hy := run_yield (P := P) (args := vs.toArray) x2 (by rw [hrec]; simp [hps, hvl])
        rw [hrec] at hy
        refine ⟨fn, _, asg, body, hy, (roundIn_of_wpIn (F := Fence.wide) (n := 0) trivial ?_ : RoundIn Fence.wide _ P _ _ _ _ _ _ _)⟩
        refine wpIn_mono (hbody i d vs G A (w.heap.size + 1) _ (.loop { rec .ready none with state := .busy }) _ hd hv x1 (by omega) x2 rfl rfl x3 rfl y2n) ?_
        intro e0 a1 A1 h1
        cases e0 with
        | exit j => exact h1
        | goto j => exact h1
        | ret => exact h1
        | panic c => exact h1
        | outgrown => exact h1
        | normal =>
        obtain ⟨k1, h1⟩ := h1
        have z2 : A1.heap[w.heap.size + 1]? = some (.loop (rec .ready none)) := (k1 _ (.inl rfl)).trans x2
        have z3 : A1.heap[w.heap.size]? = some (.deferred (some [])) := (k1 _ (.inr (.inl rfl))).trans x3
        have hlt1 : w.heap.size + 1 < A1.heap.size := (Array.getElem?_eq_some_iff.1 z2).1
        refine ⟨_, run_beginRound z2 (by rw [hrec]), ?_⟩
        have y2 : (A1.putObj (w.heap.size + 1) (.loop { rec .ready none with state := .busy })).heap[w.heap.size + 1]? = some (.loop { rec .ready none with state := .busy }) := World.putObj_heap_same hlt1
        have y3 : (A1.putObj (w.heap.size + 1) (.loop { rec .ready none with state := .busy })).heap[w.heap.size]? = some (.deferred (some [])) := (World.putObj_heap_other (by omega)).trans z3
        have fin : ∀ (jump : Option Code) (A3 : World), A3.heap[w.heap.size + 1]? = some (.loop { rec .ready none with state := .busy }) → A3.heap[w.heap.size]? = some (.deferred (some [])) →
            (Instr.endRound (w.heap.size + 1) jump).run P A3 = .ok (.bool jump.isNone) (A3.putObj (w.heap.size + 1) (.loop (rec (if jump.isNone then .ready else .done) jump))) ∧
            (A3.putObj (w.heap.size + 1) (.loop (rec (if jump.isNone then .ready else .done) jump))).heap[w.heap.size + 1]? = some (.loop (rec (if jump.isNone then .ready else .done) jump)) ∧
            (A3.putObj (w.heap.size + 1) (.loop (rec (if jump.isNone then .ready else .done) jump))).heap[w.heap.size]? = some (.deferred (some [])) := fun jump A3 h3 h4 => by
          have := run_endRound (P := P) jump h3
          rw [hrec] at this ⊢
          exact ⟨this, World.putObj_heap_same (Array.getElem?_eq_some_iff.1 h3).1, (World.putObj_heap_other (by omega)).trans h4⟩
        have kg : ∀ (A3 : World) (o' : Obj), (∀ b, b = w.heap.size + 1 ∨ b = w.heap.size ∨ G b → A3.heap[b]? = (A1.putObj (w.heap.size + 1) (.loop { rec .ready none with state := .busy })).heap[b]?) → ∀ b, G b → (A3.putObj (w.heap.size + 1) o').heap[b]? = A.heap[b]? := by
          intro A3 o' hk b hb
          have hne : b ≠ w.heap.size + 1 := by rintro rfl; exact y2n hb
          rw [World.putObj_heap_other hne, hk b (.inr (.inr hb)), World.putObj_heap_other hne, k1 b (.inr (.inr hb))]
        refine wpIn_mono h1 ?_
        rintro e a3 A3 hp
        cases e with
        | normal =>
          obtain ⟨p0, p3⟩ := hp
          have p1 := p0 _ (.inl rfl)
          have p2 := p0 _ (.inr (.inl rfl))
          rw [y2] at p1; rw [y3] at p2
          obtain ⟨q1, q2, q3⟩ := fin none A3 p1 p2
          exact ⟨_, _, q1, kg A3 _ p0, .inl ⟨rfl, hIp _ _ _ _ _ _ p3 (by omega) p1 rfl, ⟨q2, y2n⟩, q3, y3n⟩⟩
        | ret =>
          obtain ⟨p0, p3⟩ := hp
          have p1 := p0 _ (.inl rfl)
          have p2 := p0 _ (.inr (.inl rfl))
          rw [y2] at p1; rw [y3] at p2
          obtain ⟨q1, q2, q3⟩ := fin (some .ret) A3 p1 p2
          exact ⟨_, _, q1, kg A3 _ p0, .inr ⟨rfl, .ret, .inl rfl, hXp _ _ _ _ _ _ p3 (by omega) p1 rfl, ⟨q2, y2n⟩, q3, y3n⟩⟩
        | exit id =>
          obtain ⟨p0, p3⟩ := hp
          have p1 := p0 _ (.inl rfl)
          have p2 := p0 _ (.inr (.inl rfl))
          rw [y2] at p1; rw [y3] at p2
          obtain ⟨q1, q2, q3⟩ := fin (some (.exit id)) A3 p1 p2
          exact ⟨_, _, q1, kg A3 _ p0, .inr ⟨rfl, .exit id, .inr ⟨id, rfl⟩, hXp _ _ _ _ _ _ p3 (by omega) p1 rfl, ⟨q2, y2n⟩, q3, y3n⟩⟩
        | goto t => exact hp.elim
        | panic ch => exact hp.elim
        | outgrown => exact hp.elim)
      ⟨hI1, ⟨hL1, fun hh => hh⟩, hD1, fun hh => hh⟩
    refine CallsIn.mono (F := Fence.wide) (n := n - 1) (callsIn_wide.2 (callsIn_wide.1 hc)) ?_
    rintro e W2 ⟨⟨v, rfl⟩, G, hJ⟩
    rcases hJ with ⟨x1, ⟨x2, _⟩, x3, _⟩ | ⟨c, hc, x1, ⟨x2, _⟩, x3, _⟩
    · refine ⟨none, _, by have := run_endLoop (P := P) x2 (by rw [hrec]; simp); rw [hrec] at this; exact this, ?_⟩
      exact hdone G _ (hIp _ _ _ _ _ _ x1 (by omega) x2 rfl) ((World.putObj_heap_other (by omega)).trans x3)
    · refine ⟨some c, _, by have := run_endLoop (P := P) x2 (by rw [hrec]; simp); rw [hrec] at this; exact this, ?_⟩
      have y1 := hXp _ _ _ _ _ (.loop { rec .done (some c) with state := .exhausted }) x1 (show w.heap.size ≤ w.heap.size + 1 by omega) x2 rfl
      have y3 : (W2.putObj (w.heap.size + 1) (.loop { rec .done (some c) with state := .exhausted })).heap[w.heap.size]? = some (.deferred (some [])) := (World.putObj_heap_other (by omega)).trans x3
      rw [hrec] at y1 y3
      rcases hc with rfl | ⟨j, rfl⟩
      · exact wpIn_ret (hret G _ y1 y3)
      · exact wpIn_exit (hexit _ G _ y1 y3)
end Go.Eng
set_option linter.unusedSimpArgs false
set_option linter.unusedVariables false
namespace Go.Eng
open Go Go.RowKit
theorem lkE_cat : ∀ {l m : List (Nat × Gd × Ent)} {t : Nat}, lkE (catL l m) t = match lkE l t with | some x => some x | none => lkE m t
  | [], m, t => rfl
  | (k, x) :: l, m, t => by
    rw [show catL ((k, x) :: l) m = (k, x) :: catL l m from rfl, lkE_cons, lkE_cons]
    split
    · rfl
    · exact lkE_cat
theorem slotE_get : ∀ {l : List (Nat × SV)} {t : Nat} {G : Gd} {e : Ent}, lkE (slotE l) t = some (G, e) → ∃ v, e = .one v ∧ G = [] ∧ (t, v) ∈ l
  | [], _, _, _, h => by simp [slotE, lkE] at h
  | (k, v) :: l, t, G, e, h => by
    simp only [slotE] at h
    rw [lkE_cons] at h
    split at h
    · rename_i hk; subst hk; cases h; exact ⟨v, rfl, rfl, by simp⟩
    · obtain ⟨u, h1, h2, h3⟩ := slotE_get h; exact ⟨u, h1, h2, by simp [h3]⟩
theorem keepE_get {ws : List Nat} : ∀ {l : List (Nat × Gd × Ent)} {seen : List Nat} {t : Nat} {G : Gd} {e : Ent}, lkE (keepE ws seen l) t = some (G, e) →
    memN t seen = false ∧ memN t ws = false ∧ lkE l t = some (G, e) ∧ G = [] ∧ entRefFree e = true
  | [], _, _, _, _, h => by simp [keepE, lkE] at h
  | (k, g, e0) :: l, seen, t, G, e, h => by
    have skip : lkE (keepE ws (k :: seen) l) t = some (G, e) → memN t seen = false ∧ memN t ws = false ∧ lkE ((k, g, e0) :: l) t = some (G, e) ∧ G = [] ∧ entRefFree e = true := by
      intro h
      obtain ⟨h1, h2, h3, h4⟩ := keepE_get h
      rw [memN_cons, Bool.or_eq_false_iff] at h1
      refine ⟨h1.2, h2, ?_, h4⟩
      rw [lkE_cons, if_neg]
      · exact h3
      · rintro rfl; exact Nat.ne_of_beq_eq_false h1.1 rfl
    unfold keepE at h
    split at h
    · rename_i hm
      obtain ⟨h1, h2, h3, h4⟩ := keepE_get h
      refine ⟨h1, h2, ?_, h4⟩
      rw [lkE_cons, if_neg]
      · exact h3
      · rintro rfl; rw [hm] at h1; cases h1
    · rename_i hm
      split at h
      · exact skip h
      · rename_i hw
        split at h
        · rename_i hc
          rw [andB_eq, Bool.and_eq_true] at hc
          rw [lkE_cons] at h
          split at h
          · rename_i hk
            subst hk
            cases h
            refine ⟨hm, hw, by rw [lkE_cons, if_pos rfl], ?_, hc.2⟩
            cases g with
            | nil => rfl
            | cons _ _ => have := hc.1; cases this
          · exact skip h
        · exact skip h
theorem hasE_mem {s : St} : ∀ {l : List (Nat × SV)}, hasE s l → ∀ p ∈ l, ∃ u, lkE s.env p.1 = some ([], .one u) ∧ asSl u = p.2
  | [], _, p, hp => by simp at hp
  | (k, v) :: l, ⟨h1, h2⟩, p, hp => by
    rcases List.mem_cons.1 hp with rfl | hp
    · split at h1
      · rename_i u hu; exact ⟨u, hu, h1⟩
      · exact h1.elim
    · exact hasE_mem h2 p hp
theorem asSl_ok {h : FH} {β β' : List RV} {u v : SV} {z : Value} (e : asSl u = v) (hv : CnV h β' v z ∨ CnV h β u z) (hb : u = v → CnV h β u z → CnV h β' v z) : CnV h β' v z := by
  rcases hv with hv | hu
  · exact hv
  · unfold asSl at e
    split at e
    · split at e
      · subst e; exact ⟨hu.1.1, hu.2⟩
      · exact hb e hu
    · exact hb e hu
theorem hasR_mem {s : St} : ∀ {l : List (Nat × SV)}, hasR s l = true → ∀ p ∈ l, lkE s.env p.1 = some ([], .one p.2)
  | [], _, p, hp => by simp at hp
  | (k, .c (.own i off)) :: l, h, p, hp => by
    simp only [hasR] at h
    split at h
    · rename_i i' off' hu
      rw [andB_eq, andB_eq, Bool.and_eq_true, Bool.and_eq_true] at h
      rcases List.mem_cons.1 hp with rfl | hp
      · have e1 := Nat.eq_of_beq_eq_true h.1.1
        have e2 := Nat.eq_of_beq_eq_true h.1.2
        rw [hu, e1, e2]
      · exact hasR_mem h.2 p hp
    · cases h
  | (k, .c (.row i)) :: l, h, p, hp => by
    simp only [hasR] at h
    split at h
    · rename_i i' hu
      rw [andB_eq, Bool.and_eq_true] at h
      rcases List.mem_cons.1 hp with rfl | hp
      · have e1 := Nat.eq_of_beq_eq_true h.1
        rw [hu, e1]
      · exact hasR_mem h.2 p hp
    · cases h
  | (k, .c (.v _)) :: l, h, p, hp => by cases h
  | (k, .c (.sl _ _)) :: l, h, p, hp => by cases h
  | (k, .c (.fp _ _)) :: l, h, p, hp => by cases h
  | (k, .c (.rowp _ _ _ _)) :: l, h, p, hp => by cases h
  | (k, .c (.abs _)) :: l, h, p, hp => by cases h
  | (k, .c .junk) :: l, h, p, hp => by cases h
  | (k, .agg _) :: l, h, p, hp => by cases h
  | (k, .dat _ _) :: l, h, p, hp => by cases h
  | (k, .und) :: l, h, p, hp => by cases h
theorem keepR_below {n : Nat} {ws : List Nat} : ∀ {l : List (Nat × Gd × Ent)} {seen : List Nat}, ∀ p ∈ keepR n ws seen l, svBelow n p.2 = true
  | [], _, p, hp => by simp [keepR] at hp
  | (k, g, e) :: l, seen, p, hp => by
    unfold keepR at hp
    repeat' (split at hp)
    all_goals first
      | exact keepR_below p hp
      | (rcases List.mem_cons.1 hp with rfl | hp
         · assumption
         · exact keepR_below p hp)
theorem keepR_mem {n : Nat} {ws : List Nat} : ∀ {l : List (Nat × Gd × Ent)} {seen : List Nat}, ∀ p ∈ keepR n ws seen l, memN p.1 seen = false ∧ lkE l p.1 = some ([], .one p.2)
  | [], _, p, hp => by simp [keepR] at hp
  | (k, g, e) :: l, seen, p, hp => by
    have skip1 : memN k seen = true → p ∈ keepR n ws seen l → memN p.1 seen = false ∧ lkE ((k, g, e) :: l) p.1 = some ([], .one p.2) := by
      intro hm hp
      obtain ⟨h1, h2⟩ := keepR_mem p hp
      refine ⟨h1, ?_⟩
      rw [lkE_cons, if_neg]
      · exact h2
      · rintro rfl; rw [hm] at h1; cases h1
    have skip2 : p ∈ keepR n ws (k :: seen) l → memN p.1 seen = false ∧ lkE ((k, g, e) :: l) p.1 = some ([], .one p.2) := by
      intro hp
      obtain ⟨h1, h2⟩ := keepR_mem p hp
      rw [memN_cons, Bool.or_eq_false_iff] at h1
      refine ⟨h1.2, ?_⟩
      rw [lkE_cons, if_neg]
      · exact h2
      · rintro rfl; exact Nat.ne_of_beq_eq_false h1.1 rfl
    unfold keepR at hp
    split at hp
    · rename_i hm; exact skip1 hm hp
    · rename_i hm
      split at hp
      · exact skip2 hp
      · split at hp
        · rename_i hn
          have hg : g = [] := by cases g with | nil => rfl | cons _ _ => simp [isNil] at hn
          subst hg
          split at hp
          · split at hp
            · rcases List.mem_cons.1 hp with rfl | hp
              · exact ⟨hm, by rw [lkE_cons, if_pos rfl]⟩
              · exact skip2 hp
            · exact skip2 hp
          · split at hp
            · rcases List.mem_cons.1 hp with rfl | hp
              · exact ⟨hm, by rw [lkE_cons, if_pos rfl]⟩
              · exact skip2 hp
            · exact skip2 hp
          · exact skip2 hp
        · exact skip2 hp
theorem take_get {α : Type} {l : List α} {n i : Nat} (h : i < n) : (l.take n)[i]? = l[i]? := by
  rw [List.getElem?_take, if_pos h]
theorem CnC.below {h : FH} {β : List RV} {n : Nat} : ∀ {x : SC} {y : Value}, scBelow n x = true → CnC h β x y → CnC h (β.take n) x y
  | .v _, _, _, c => c
  | .sl _ _, _, _, c => c
  | .fp _ _, _, _, c => c
  | .one _ _, _, _, c => c
  | .own i _, _, f, ⟨b, e, e'⟩ => ⟨b, by rw [take_get (by have := Nat.le_of_ble_eq_true f; omega)]; exact e, e'⟩
  | .row i, _, f, ⟨v, e, e'⟩ => ⟨v, by rw [take_get (by have := Nat.le_of_ble_eq_true f; omega)]; exact e, e'⟩
  | .sub i _, _, f, ⟨v, us, e, e'⟩ => ⟨v, us, by rw [take_get (by have := Nat.le_of_ble_eq_true f; omega)]; exact e, e'⟩
  | .subp i _ _ _ _, _, f, ⟨v, us, g, e, e'⟩ => ⟨v, us, g, by rw [take_get (by have := Nat.le_of_ble_eq_true f; omega)]; exact e, e'⟩
  | .rowp i _ _ _, _, f, ⟨v, g, e, e'⟩ => ⟨v, g, by rw [take_get (by have := Nat.le_of_ble_eq_true f; omega)]; exact e, e'⟩
  | .abs _, _, _, c => c
  | .junk, _, _, _ => trivial
theorem CnV.below {h : FH} {β : List RV} {n : Nat} : ∀ {x : SV} {y : Value}, svBelow n x = true → CnV h β x y → CnV h (β.take n) x y
  | .c _, _, f, c => ⟨c.1.below f, c.2⟩
  | .agg _, _, f, ⟨ys, e, a⟩ => ⟨ys, e, a.allL (fun _ _ f ⟨p, q⟩ => ⟨p.below f, q⟩) f⟩
  | .dat _ _, _, _, c => c
  | .und, _, _, c => c
theorem Holds.below {h : FH} {β : List RV} {w : World} {n : Nat} : ∀ {r : Res} {v : RV}, resBelow n r = true → Holds h β w r v → Holds h (β.take n) w r v
  | .blk _ _, .blk _, f, ⟨ys, e, a⟩ => ⟨ys, e, a.allL (fun _ _ f ⟨p, q⟩ => ⟨p.below f, q⟩) f⟩
  | .row _ _ _, .row _, _, c => c
  | .obj _ _ _, .blk _, _, c => c
  | .deep _ _ _ _ _ _ _ _, .deep _ _, _, c => c
  | .mp _ _ _, .row _, _, c => c
  | .mpo _ _ _ _, .deep _ _, _, c => c
  | .it _ _ _ _, .blk _, _, c => c
  | .tlr _ _ _ _, .row _, _, c => c
  | .gone, _, _, _ => trivial
theorem CnC.refFree {h : FH} {β : List RV} : ∀ {x : SC} {y : Value}, scRefFree x = true → CnC h β x y → ∀ β', CnC h β' x y
  | .v _, _, _, c => fun _ => c
  | .sl _ _, _, _, c => fun _ => c
  | .fp _ _, _, _, c => fun _ => c
  | .abs _, _, _, c => fun _ => c
  | .junk, _, _, _ => fun _ => trivial
  | .one _ _, _, _, c => fun _ => c
  | .own _ _, _, f, _ => by simp [scRefFree] at f
  | .row _, _, f, _ => by simp [scRefFree] at f
  | .rowp _ _ _ _, _, f, _ => by simp [scRefFree] at f
  | .sub _ _, _, f, _ => by simp [scRefFree] at f
  | .subp _ _ _ _ _, _, f, _ => by simp [scRefFree] at f
theorem CnV.refFree {h : FH} {β : List RV} (β' : List RV) : ∀ {x : SV} {y : Value}, svRefFree x = true → CnV h β x y → CnV h β' x y
  | .c _, _, f, c => ⟨c.1.refFree f β', c.2⟩
  | .agg _, _, f, ⟨ys, e, a⟩ => ⟨ys, e, a.allL (fun _ _ f ⟨p, q⟩ => ⟨p.refFree f β', q⟩) f⟩
  | .dat _ _, _, _, c => c
  | .und, _, _, c => c
theorem CnE.refFree {h : FH} {β : List RV} (β' : List RV) : ∀ {x : Ent} {y : Value}, entRefFree x = true → CnE h β x y → CnE h β' x y
  | .one _, _, f, c => CnV.refFree β' f c
  | .tup _, _, f, ⟨ys, e, a⟩ => ⟨ys, e, a.allL (R' := CnV h β') (fun _ _ f c => CnV.refFree β' f c) f⟩
theorem OK.take {B : Base} {h0 : FH} {T : List Res} {h : FH} {β : List RV} {w : World} (ok : OK B h0 T h β w) {n : Nat} (hn : n ≤ T.length) (below : ∀ r ∈ T.take n, resBelow n r = true) : OK B h0 (T.take n) h (β.take n) w where
  below := ok.below
  dr := ok.dr
  len := by simp [ok.len]
  holds := by
    intro i r v e e'
    have hi : i < n := by have := (List.getElem?_eq_some_iff.1 e).1; simp at this; omega
    have hm := below r (List.mem_of_getElem? e)
    rw [take_get hi] at e e'
    exact (ok.holds i r v e e').below hm
  own := by
    intro i r v b e l e' hb
    have hi : i < n := by have := (List.getElem?_eq_some_iff.1 e).1; simp at this; omega
    rw [take_get hi] at e e'
    exact ok.own i r v b e l e' hb
  inj := by
    intro i j r r' u v b e l e' l' f f' hb hb'
    have hi : i < n := by have := (List.getElem?_eq_some_iff.1 e).1; simp at this; omega
    have hj : j < n := by have := (List.getElem?_eq_some_iff.1 e').1; simp at this; omega
    rw [take_get hi] at e f
    rw [take_get hj] at e' f'
    exact ok.inj i j r r' u v b e l e' l' f f' hb hb'
  hle := ok.hle
  hw := ok.hw
  hg := ok.hg
  kn := ok.kn
theorem allL_mem {α : Type} {p : α → Bool} : ∀ {l : List α}, allL p l = true → ∀ x ∈ l, p x = true
  | [], _, x, hx => by simp at hx
  | y :: l, h, x, hx => by
    simp only [allL, andB_eq, Bool.and_eq_true] at h
    rcases List.mem_cons.1 hx with rfl | hx
    · exact h.1
    · exact allL_mem h.2 x hx
theorem eff_nil_take {gl : List Bool} : ∀ {T : List (Gd × Res)} {n : Nat}, (∀ p ∈ T.take n, p.1 = []) → eff [] (T.take n) = (eff gl T).take n
  | [], n, _ => by simp [eff]
  | (g, r) :: l, 0, _ => by simp [eff]
  | (g, r) :: l, n + 1, h => by
    have hg : g = [] := h (g, r) (by simp)
    subst hg
    simp only [List.take_succ_cons, eff]
    rw [eff_nil_take (gl := gl) (T := l) fun p hp => h p (by simp [hp])]
theorem updT_len : ∀ (rs : List (Nat × Res)) (T : List (Gd × Res)), (updT rs T).length = T.length
  | [], _ => rfl
  | (i, r) :: l, T => by simp only [updT]; rw [updT_len, setL_eq, List.length_set]
theorem head_ok {N : Nat} {B : Base} {h0 : FH} {s s' : St} {h : FH} {β : List RV} {w : World} {a : Act} (sat : Sat N B h0 s' h β w a) {ws : List Nat} {sl : List (Nat × SV)} {rs : List (Nat × Res)}
    (hT : takeL (lenL s.T) s'.T = updT rs s.T) (gT : goodT (lenL s.T) (updT rs s.T) = true) (gS : goodS (lenL s.T) ws sl = true) (hE : hasE s' sl)
    (hR : ∀ p ∈ keepR (lenL s.T) ws [] s.env, lkE s'.env p.1 = some ([], .one p.2))
    (D : ∀ t e, lkE (keepE ws [] s.env) t = some ([], e) → ∃ z, a.tmps[t]? = some z ∧ CnE h [] e z) :
    Sat N B h0 (headSt ws s sl rs) h (β.take (lenL s.T)) w a := by
  have e1 := hT
  rw [takeL_eq] at e1
  have g1 : ∀ p ∈ updT rs s.T, p.1 = [] ∧ resBelow (lenL s.T) p.2 = true := by
    intro p hp
    have := allL_mem gT p hp
    rw [andB_eq, Bool.and_eq_true] at this
    refine ⟨?_, this.2⟩
    have h2 := this.1
    cases hh : p.1 with
    | nil => rfl
    | cons _ _ => rw [hh] at h2; simp [isNil] at h2
  have hlen : lenL s.T ≤ s'.T.length := by
    have := congrArg List.length e1
    rw [updT_len, List.length_take, lenL_eq] at this
    rw [lenL_eq]; omega
  have look : ∀ {v : SV} {t : Nat}, svBelow (lenL s.T) v = true → lkE s'.env t = some ([], .one v) → ∃ z, a.tmps[t]? = some z ∧ CnV h (β.take (lenL s.T)) v z := by
    intro v t hb hl
    obtain ⟨z, q1, q2, _⟩ := sat.env t [] _ hl
    exact ⟨z, q1, CnV.below hb (q2 rfl)⟩
  have look2 : ∀ {v : SV} {t : Nat}, svBelow (lenL s.T) v = true → (∃ u, lkE s'.env t = some ([], .one u) ∧ asSl u = v) → ∃ z, a.tmps[t]? = some z ∧ CnV h (β.take (lenL s.T)) v z := by
    rintro v t hb ⟨u, hl, hu⟩
    obtain ⟨z, q1, q2, _⟩ := sat.env t [] _ hl
    exact ⟨z, q1, asSl_ok hu (.inr (q2 rfl)) fun e c => CnV.below hb (e ▸ c)⟩
  refine ⟨?_, ?_, ?_, sat.defers, sat.sz, ?_, ?_⟩
  · show OK B h0 (eff [] (updT rs s.T)) h (β.take (lenL s.T)) w
    rw [← e1, eff_nil_take (gl := s'.gl) fun p hp => by rw [e1] at hp; exact (g1 p hp).1]
    refine sat.ok.take (by rw [eff_len]; exact hlen) ?_
    rw [← eff_nil_take (gl := s'.gl) fun p hp => by rw [e1] at hp; exact (g1 p hp).1]
    rw [e1]
    have : ∀ {l : List (Gd × Res)}, (∀ p ∈ l, p.1 = [] ∧ resBelow (lenL s.T) p.2 = true) → ∀ r ∈ eff [] l, resBelow (lenL s.T) r = true := by
      intro l
      induction l with
      | nil => intro _ r hr; simp [eff] at hr
      | cons q l ih =>
        obtain ⟨g, r0⟩ := q
        intro hh r hr
        have hg := hh (g, r0) (by simp)
        have hg1 : g = [] := hg.1
        subst hg1
        simp only [eff] at hr
        rcases List.mem_cons.1 hr with rfl | hr
        · exact hg.2
        · exact ih (fun p hp => hh p (by simp [hp])) r hr
    exact this g1
  · intro t G e ht
    simp only [headSt] at ht ⊢
    rw [lkE_cat] at ht
    split at ht
    · rename_i x hx
      cases ht
      obtain ⟨v, rfl, rfl, hm⟩ := slotE_get hx
      have hb := allL_mem gS _ hm
      rw [andB_eq, Bool.and_eq_true] at hb
      obtain ⟨z, q1, q2⟩ := look2 hb.1 (hasE_mem hE _ hm)
      exact ⟨z, q1, fun _ => q2, fun hh => by cases hh⟩
    · rw [lkE_cat] at ht
      split at ht
      · rename_i x hx
        cases ht
        obtain ⟨v, rfl, rfl, hm⟩ := slotE_get hx
        obtain ⟨z, q1, q2⟩ := look (keepR_below _ hm) (hR _ hm)
        exact ⟨z, q1, fun _ => q2, fun hh => by cases hh⟩
      · obtain ⟨_, _, _, rfl, hf⟩ := keepE_get ht
        obtain ⟨z, q1, q2⟩ := D t e ht
        exact ⟨z, q1, fun _ => CnE.refFree _ hf q2, fun hh => by cases hh⟩
  · intro d i hi; cases hi
  · intro t G e ht
    simp only [headSt] at ht
    rw [lkE_cat] at ht
    split at ht
    · rename_i x hx
      cases ht
      obtain ⟨_, _, rfl, _⟩ := slotE_get hx; rfl
    · rw [lkE_cat] at ht
      split at ht
      · rename_i x hx
        cases ht
        obtain ⟨_, _, rfl, _⟩ := slotE_get hx; rfl
      · obtain ⟨_, _, _, rfl, _⟩ := keepE_get ht; rfl
  · intro p hp
    rw [(g1 p hp).1]
/-! The base may come to know more objects that stay. -/
def Base.leB (B B' : Base) : Prop := B'.toWorld = B.toWorld ∧ B'.al = B.al ∧ ∀ k o, B.nc k o → B'.nc k o
theorem Base.leB.refl (B : Base) : B.leB B := ⟨rfl, rfl, fun _ _ h => h⟩
theorem Base.leB.trans {A B C : Base} (x : A.leB B) (y : B.leB C) : A.leB C := ⟨y.1.trans x.1, y.2.1.trans x.2.1, fun k o h => y.2.2 k o (x.2.2 k o h)⟩
def Base.leR (r : Bool) (B B' : Base) : Prop := B.leB B' ∧ (r = true → B' = B)
theorem Base.leR.refl {r : Bool} (B : Base) : Base.leR r B B := ⟨.refl B, fun _ => rfl⟩
theorem Base.leR.trans {r : Bool} {A B C : Base} (x : Base.leR r A B) (y : Base.leR r B C) : Base.leR r A C := ⟨x.1.trans y.1, fun h => (y.2 h).trans (x.2 h)⟩
theorem OK.rebase {B B' : Base} {h0 : FH} {T : List Res} {h : FH} {β : List RV} {w : World} (ok : OK B h0 T h β w) (e : B'.toWorld = B.toWorld) (ea : B'.al = B.al) (kn : ∀ k o, B'.nc k o → w.heap[k]? = some o) : OK B' h0 T h β w where
  below := ⟨by rw [e]; exact ok.below.os, by rw [e]; exact ok.below.tape, by rw [e]; exact ok.below.output, by rw [e]; exact ok.below.size, by rw [e, ea]; exact ok.below.block⟩
  dr := by rw [e]; exact ok.dr
  len := ok.len
  holds := ok.holds
  own := by rw [ea]; exact ok.own
  inj := ok.inj
  hle := ok.hle
  hw := ok.hw
  hg := by rw [ea]; exact ok.hg
  kn := kn
def ownB (T : List Res) (β : List RV) (b : Nat) : Prop := ∃ (i : Nat) (r : Res) (v : RV), T[i]? = some r ∧ r.live = true ∧ β[i]? = some v ∧ v.has b
@[reducible] def Base.rd (B : Base) (T : List Res) (β : List RV) (A : World) : Base :=
  { A with nc := B.nc, cell := B.cell, al := fun k => ownB T β k ∨ A.heap.size ≤ k, up := fun _ h => .inr h }
theorem OK.enter {B : Base} {h0 : FH} {T : List Res} {h : FH} {β : List RV} {A : World} (ok : OK B h0 T h β A) : OK (B.rd T β A) h T h β A where
  below := ⟨rfl, rfl, rfl, Nat.le_refl _, fun _ _ _ => rfl⟩
  dr := Nat.le_refl _
  len := ok.len
  holds := ok.holds
  own := fun i r v b e hl e' hb => ⟨.inl ⟨i, r, v, e, hl, e', hb⟩, (ok.own i r v b e hl e' hb).2⟩
  inj := ok.inj
  hle := FH.le.refl h
  hw := ok.hw
  hg := fun b o v hh => .inl hh
  kn := ok.kn
theorem OK.leave {B : Base} {h0 : FH} {T : List Res} {h : FH} {β : List RV} {A : World} (ok : OK B h0 T h β A) {T' : List Res} {h' : FH} {β' : List RV} {A' : World} {Br : Base} (e : Br.toWorld = A) (ea : Br.al = (B.rd T β A).al) (en : ∀ k o, B.nc k o → Br.nc k o) (ok' : OK Br h T' h' β' A') : OK B h0 T' h' β' A' := by
  have toB : ∀ k, Br.al k → B.al k := by
    intro k hk
    rw [ea] at hk
    rcases hk with ⟨i, r, v, h1, h2, h3, h4⟩ | hk
    · exact (ok.own i r v k h1 h2 h3 h4).1
    · exact B.up k (Nat.le_trans ok.below.size hk)
  subst e
  have cell : ∀ k, ownB T β k → ∃ o, Br.heap[k]? = some o ∧ ours o = true := by
    rintro k ⟨i, r, v, h1, h2, h3, h4⟩
    exact (ok.holds i r v h1 h3).cells h2 h4
  refine ⟨⟨ok'.below.os.trans ok.below.os, ok'.below.tape.trans ok.below.tape, ok'.below.output.trans ok.below.output, Nat.le_trans ok.below.size ok'.below.size, fun k hk ha => ?_⟩, Nat.le_trans ok.dr ok'.dr, ok'.len, ok'.holds,
    fun i r v b e1 l1 e2 hb => ⟨toB b (ok'.own i r v b e1 l1 e2 hb).1, (ok'.own i r v b e1 l1 e2 hb).2⟩, ok'.inj, ok.hle.trans ok'.hle, ok'.hw, fun b o v hh => ?_, fun k o hk => ok'.kn k o (en k o hk)⟩
  · exact (ok'.below.block k (Nat.lt_of_lt_of_le hk ok.below.size) (fun hh => ha (toB k hh))).trans (ok.below.block k hk ha)
  · rcases ok'.hg b o v hh with h1 | h1
    · exact ok.hg b o v h1
    · exact .inr (toB b h1)
theorem OK.gs {B : Base} {h0 : FH} {T : List Res} {h : FH} {β : List RV} {A A' : World} (ok : OK B h0 T h β A) {G : Nat → Prop} (gs : Gs G A A') (hB : ∀ k, G k → B.heap.size ≤ k) (hO : ∀ k, ownB T β k → ¬ G k) (hF : ∀ k o v, h k o = some v → ¬ G k) (hN : ∀ k o, B.nc k o → ¬ G k) : OK B h0 T h β A' := by
  have cl : ∀ b o v, h b o = some v → vis A' b o = some v := by
    intro b o v hh
    have h1 := ok.hw b o v hh
    exact (vis_of_block (gs.block b (vis_lt h1) (hF b o v hh))).trans h1
  exact {
    below := ⟨gs.os.trans ok.below.os, gs.tape.trans ok.below.tape, gs.output.trans ok.below.output, Nat.le_trans ok.below.size gs.size, fun k hk ha => (gs.block k (Nat.lt_of_lt_of_le hk ok.below.size) (fun hg => by have := hB k hg; omega)).trans (ok.below.block k hk ha)⟩
    dr := Nat.le_trans ok.dr gs.dr
    len := ok.len
    holds := fun i r v e e' => (ok.holds i r v e e').move (FH.le.refl h) (Ext.refl _) fun hl b hb => gs.block b (ok.own i r v b e hl e' hb).2.1 (hO b ⟨i, r, v, e, hl, e', hb⟩)
    own := fun i r v b e hl e' hb => by
      obtain ⟨h1, h2, h3⟩ := ok.own i r v b e hl e' hb
      exact ⟨h1, Nat.lt_of_lt_of_le h2 gs.size, h3⟩
    inj := ok.inj
    hle := ok.hle
    hw := cl
    hg := ok.hg
    kn := fun k o hk => by
      have h1 := ok.kn k o hk
      exact (gs.block k (Array.getElem?_eq_some_iff.1 h1).1 (hN k o hk)).trans h1 }
theorem OK.turn {B : Base} {h0 : FH} {T : List Res} {h : FH} {β : List RV} {w : World} (ok : OK B h0 T h β w) {l : Nat} {o o' : Obj} (hB : B.al l) (hn : ∀ k u, B.nc k u → k ≠ l) (hl : w.heap[l]? = some o) (ho : ours o = false) : OK B h0 T h β (w.putObj l o') := by
  have cl : ∀ {b i : Nat} {v : Value}, vis w b i = some v → vis (w.putObj l o') b i = some v := by
    intro b i v hv
    have hne : b ≠ l := by
      intro e
      unfold vis at hv
      rw [e, hl] at hv
      cases o <;> simp_all [ours]
    exact (vis_of_block (World.putObj_heap_other hne)).trans hv
  exact {
    below := ok.below.grown (row := some l) ⟨rfl, rfl, rfl, by simp, fun k _ hk => World.putObj_heap_other (fun e => hk (by rw [e]))⟩ (fun k e => by cases e; exact hB)
    dr := ok.dr
    len := ok.len
    holds := fun i r v e e' => (ok.holds i r v e e').move (FH.le.refl h) (Ext.refl _) fun hlv b hb => World.putObj_heap_other (by
      rintro rfl
      obtain ⟨o1, h1, h2⟩ := (ok.holds i r v e e').cells hlv hb
      rw [hl] at h1; cases h1; rw [ho] at h2; cases h2)
    own := fun i r v b e hlv e' hb => by
      obtain ⟨h1, h2, h3⟩ := ok.own i r v b e hlv e' hb
      exact ⟨h1, by simpa using h2, h3⟩
    inj := ok.inj
    hle := ok.hle
    hw := fun b o v hh => cl (ok.hw b o v hh)
    hg := ok.hg
    kn := fun k u hk => (World.putObj_heap_other (hn k u hk)).trans (ok.kn k u hk) }
theorem keepR_ws {n : Nat} {ws : List Nat} : ∀ {l : List (Nat × Gd × Ent)} {seen : List Nat}, ∀ p ∈ keepR n ws seen l, memN p.1 ws = false
  | [], _, p, hp => by simp [keepR] at hp
  | (k, g, e) :: l, seen, p, hp => by
    unfold keepR at hp
    repeat' (split at hp)
    all_goals first
      | exact keepR_ws p hp
      | (rcases List.mem_cons.1 hp with rfl | hp
         · assumption
         · exact keepR_ws p hp)
theorem good_all {n : Nat} {T : List (Gd × Res)} (h : goodT n T = true) : ∀ p ∈ T, p.1 = [] ∧ resBelow n p.2 = true := by
  intro p hp
  have := allL_mem h p hp
  rw [andB_eq, Bool.and_eq_true] at this
  refine ⟨?_, this.2⟩
  have h2 := this.1
  cases hh : p.1 with
  | nil => rfl
  | cons _ _ => rw [hh] at h2; simp [isNil] at h2
theorem eff_nil {gl : List Bool} : ∀ {T : List (Gd × Res)}, (∀ p ∈ T, p.1 = []) → eff [] T = eff gl T
  | [], _ => rfl
  | (g, r) :: l, h => by
    have hg : g = [] := h (g, r) (by simp)
    subst hg
    simp only [eff]
    rw [eff_nil (gl := gl) (T := l) fun p hp => h p (by simp [hp])]
theorem rd_env {N : Nat} {B : Base} {h0 : FH} {s : St} {h : FH} {β : List RV} {w : World} {a : Act} (sat : Sat N B h0 s h β w a) {ws dr : List Nat} {h' : FH} {β' : List RV} (le : h.le h')
    (refs : ∀ p ∈ keepR (lenL s.T) ws [] s.env, ∃ z, a.tmps[p.1]? = some z ∧ CnV h' β' p.2 z) : ∀ t G e, lkE (rdE ws dr s) t = some (G, e) → G = [] ∧ (memN t ws = false ∨ memN t dr = false) ∧ ∃ z, a.tmps[t]? = some z ∧ CnE h' β' e z := by
  intro t G e ht
  simp only [rdE] at ht
  rw [lkE_cat] at ht
  split at ht
  · rename_i x hx
    cases ht
    obtain ⟨v, rfl, rfl, hm⟩ := slotE_get hx
    obtain ⟨z, q1, q2⟩ := refs _ hm
    exact ⟨rfl, .inl (keepR_ws _ hm), z, q1, q2⟩
  · obtain ⟨_, hd, hl, rfl, hf⟩ := keepE_get ht
    obtain ⟨z, q1, q2, _⟩ := sat.env t [] e hl
    exact ⟨rfl, .inr hd, z, q1, (CnE.refFree β' hf (q2 rfl)).mono le (Ext.refl _)⟩
theorem rd_sat {N : Nat} {B B' : Base} {h0 : FH} {s : St} {h : FH} {β : List RV} {w : World} {a : Act} (sat : Sat N B h0 s h β w a) {ws dr : List Nat} {h' : FH} {β' : List RV} {A : World} {a' : Act} (le : h.le h')
    (refs : ∀ p ∈ keepR (lenL s.T) ws [] s.env, ∃ z, a.tmps[p.1]? = some z ∧ CnV h' β' p.2 z) {T : List (Gd × Res)} {gl : List Bool} (ok : OK B' h0 (eff gl T) h' β' A) (gT : ∀ p ∈ T, gbd gl.length p.1 = true) (ht : a'.tmps = a.tmps) (df : Dfr B' a') :
    Sat N B' h0 { env := rdE ws dr s, T := T, gl := gl, gs := [] } h' β' A a' where
  ok := ok
  env := fun t G e h1 => by
    obtain ⟨rfl, _, z, q1, q2⟩ := rd_env sat le refs t G e h1
    exact ⟨z, by rw [ht]; exact q1, fun _ => q2, fun hh => by cases hh⟩
  gs := fun d i hi => by cases hi
  defers := df
  sz := by rw [ht]; exact sat.sz
  gb := fun t G e h1 => by
    obtain ⟨rfl, _⟩ := rd_env sat le refs t G e h1; rfl
  gT := gT
theorem fold_size : ∀ (l : List (Nat × Value)) (t : Array Value), (l.foldl (fun t (p : Nat × Value) => t.setIfInBounds p.1 p.2) t).size = t.size
  | [], _ => rfl
  | _ :: l, t => by simp only [List.foldl_cons]; rw [fold_size l]; simp
theorem fold_other {k : Nat} : ∀ (l : List (Nat × Value)) (t : Array Value), (∀ p ∈ l, p.1 ≠ k) → (l.foldl (fun t (p : Nat × Value) => t.setIfInBounds p.1 p.2) t)[k]? = t[k]?
  | [], _, _ => rfl
  | (p, v) :: l, t, h => by
    simp only [List.foldl_cons]
    rw [fold_other l _ fun q hq => h q (by simp [hq])]
    exact Array.getElem?_setIfInBounds_ne (h (p, v) (by simp))
theorem zip_fold (ps : Array Tmp) (vs : List Value) (t : Array Value) : (ps.zip vs.toArray).foldl (fun t (p, v) => t.setIfInBounds p v) t = ((tl ps).zip vs).foldl (fun t (p : Nat × Value) => t.setIfInBounds p.1 p.2) t := by
  cases ps with
  | mk l => simp
theorem par_ok {h : FH} {n : Nat} : ∀ {ps : List Nat} {ss : List Sh} {d : dens ss} {vs : List Value} {t : Array Value}, t.size = n → parOK n ps ss = true → DVs h ss d vs →
    (∀ k G e, lkE (parE ps ss d) k = some (G, e) → G = [] ∧ ∃ z, ((ps.zip vs).foldl (fun t (p : Nat × Value) => t.setIfInBounds p.1 p.2) t)[k]? = some z ∧ ∀ β, CnE h β e z) ∧
    (∀ k, lkE (parE ps ss d) k = none → memN k ps = false)
  | [], [], d, vs, t, _, _, _ => ⟨fun k G e hh => by simp [parE, lkE] at hh, fun k _ => rfl⟩
  | [], _ :: _, d, vs, t, _, hp, _ => by simp [parOK] at hp
  | _ :: _, [], d, vs, t, _, hp, _ => by simp [parOK] at hp
  | p :: ps, s :: ss, d, vs, t, hn, hp, hv => by
    cases vs with
    | nil => exact hv.elim
    | cons v vs =>
      simp only [parOK, andB_eq, Bool.and_eq_true] at hp
      obtain ⟨⟨hp1, hp2⟩, hp3⟩ := hp
      have hp2 : memN p ps = false := by simpa using hp2
      have hp1 := Nat.le_of_ble_eq_true hp1
      obtain ⟨i1, i2⟩ := par_ok (t := t.setIfInBounds p v) (by simp [hn]) hp3 hv.2
      have hnot : ∀ q ∈ ps.zip vs, q.1 ≠ p := by
        intro q hq e
        have hm : q.1 ∈ ps := (List.of_mem_zip hq).1
        rw [e] at hm
        have : ∀ {l : List Nat}, p ∈ l → memN p l = true := by
          intro l
          induction l with
          | nil => intro h; cases h
          | cons x l ih =>
            intro h
            rw [memN_cons]
            rcases List.mem_cons.1 h with rfl | h
            · simp
            · rw [ih h]; simp
        rw [this hm] at hp2; cases hp2
      refine ⟨fun k G e hh => ?_, fun k hh => ?_⟩
      · simp only [parE] at hh
        rw [lkE_cons] at hh
        split at hh
        · rename_i hk
          subst hk
          cases hh
          refine ⟨rfl, v, ?_, fun β => ?_⟩
          · simp only [List.zip_cons_cons, List.foldl_cons]
            rw [fold_other _ _ hnot]
            rw [Array.getElem?_setIfInBounds_self_of_lt (by omega)]
          · obtain ⟨cs, rfl, r⟩ := hv.1
            exact ofDat_ok s r
        · simpa only [List.zip_cons_cons, List.foldl_cons] using i1 k G e hh
      · simp only [parE] at hh
        rw [lkE_cons] at hh
        split at hh
        · cases hh
        · rename_i hk
          rw [memN_cons, i2 k hh, Bool.or_false]
          cases hb : Nat.beq k p with
          | false => rfl
          | true => exact absurd (Nat.eq_of_beq_eq_true hb).symm hk
def Apt (n : Nat) (T : List Res) (h : FH) (β : List RV) (G : Nat → Prop) : Prop := (∀ b, G b → n ≤ b) ∧ (∀ b, ownB T β b → ¬ G b) ∧ ∀ b o v, h b o = some v → ¬ G b
theorem piece_out {N n : Nat} {B : Base} {h0 : FH} {T : List Res} {h : FH} {β : List RV} {A : World} {G : Nat → Prop} (ok' : OK B h0 T h β A) (ap : Apt n T h β G) (apb : ∀ b, G b → b < A.heap.size)
    {B2 : Base} {s2 : St} {h2 : FH} {β2 : List RV} {A2 : World} {a2 : Act} (lb2 : (B.rd T β A).leB B2) (sat2 : Sat N B2 h s2 h2 β2 A2 a2) :
    OK B h0 (eff s2.gl s2.T) h2 β2 A2 ∧ Apt n (eff s2.gl s2.T) h2 β2 G ∧ A.heap.size ≤ A2.heap.size ∧ (∀ k, k < A.heap.size → ¬ ownB T β k → A2.heap[k]? = A.heap[k]?) ∧
      (∀ k o, A.heap[k]? = some o → ours o = false → ¬ ownB T β k) := by
  have same : ∀ k, k < A.heap.size → ¬ ownB T β k → A2.heap[k]? = A.heap[k]? := by
    intro k hk hn
    have h1 := sat2.ok.below
    have h2 := lb2.1
    have h3 : B2.al k ↔ (ownB T β k ∨ A.heap.size ≤ k) := by rw [lb2.2.1]
    have h4 := h1.block k (by rw [h2]; exact hk) (fun hh => by rcases h3.1 hh with hh | hh <;> first | exact hn hh | omega)
    rw [h2] at h4
    exact h4
  refine ⟨ok'.leave lb2.1 lb2.2.1 lb2.2.2 sat2.ok, ⟨ap.1, ?_, ?_⟩, ?_, same, ?_⟩
  · rintro b ⟨i, r, v, e1, e2, e3, e4⟩ hb
    have hh := (sat2.ok.own i r v b e1 e2 e3 e4).1
    rw [lb2.2.1] at hh
    rcases hh with hh | hh
    · exact ap.2.1 b hh hb
    · have := apb b hb; omega
  · intro b o v hh hb
    rcases sat2.ok.hg b o v hh with h1 | h1
    · exact ap.2.2 b o v h1 hb
    · rw [lb2.2.1] at h1
      rcases h1 with h1 | h1
      · exact ap.2.1 b h1 hb
      · have := apb b hb; omega
  · have := sat2.ok.below.size
    rw [lb2.1] at this
    exact this
  · rintro k o hk ho ⟨i, r, v, e1, e2, e3, e4⟩
    obtain ⟨o', q1, q2⟩ := (ok'.holds i r v e1 e3).cells e2 e4
    rw [hk] at q1; cases q1; rw [ho] at q2; cases q2
theorem range_ok {P : Program} {h0 : FH} {n : Nat} {asg c : Code} (rec : ∀ (c' : Code), c' = asg ∨ c' = c → ∀ (h0 : FH) (E : Env) (B : Base) (s : St) (h : FH) (β : List RV) (w : World) (a : Act) (K : Exit → St → Prop) (Q : Exit → Act → World → Prop) (l : Nat), EnvOK P E → GlobOK E.cx.gd h0 → E.rd = true → Sat E.n B h0 s h β w a →
      codeK E c' s K → (∀ e s' h' β' w' a' B', Base.leR E.rd B B' → K e s' → h.le h' → Sat E.n B' h0 s' h' β' w' a' → Same (writes c') a a' → Q e a' w') → c'.wpIn (Fence.wide.inRound l) 0 P Q a w)
    {E : Env} (ok : EnvOK P E) (hg : GlobOK E.cx.gd h0) {B : Base} {s : St} {h : FH} {β : List RV} {w : World} {a : Act} {K : Exit → St → Prop} {Q : Exit → Act → World → Prop} (sat : Sat E.n B h0 s h β w a)
    {g : Operand} {ss : List Sh} {L : List (dens ss)} (gv : Gives P h ss L (a.eval g)) {ps : Array Tmp} {ra : RA}
    (k : rangeK E.n (fun s K => codeK { E with rd := true } asg s fun e s' => match e with
      | .normal => codeK { E with rd := true } c s' K
      | _ => False) (catL ra.drop (catL (tl ps) (catL (writes asg) (writes c)))) ra (tl ps) ss L s K)
    (hrd : E.rd = false) (next : ∀ e s' h' β' w' a' B', Base.leR E.rd B B' → K e s' → h.le h' → Sat E.n B' h0 s' h' β' w' a' → Same [] a a' → Q e a' w') : (Code.rangeFunc g ps asg c).wpIn Fence.wide n P Q a w := by
  unfold rangeK at k
  split at k
  · exact k.elim
  rename_i hpar
  obtain ⟨⟨x0, i0, t0⟩, kr, kd⟩ := k
  obtain ⟨ws, hws⟩ : ∃ ws, ws = catL ra.drop (catL (tl ps) (catL (writes asg) (writes c))) := ⟨_, rfl⟩
  rw [← hws] at kr kd
  have good : ∀ i x, i ≤ L.length → ra.inv i x → goodT (lenL s.T) (updT (ra.res x) s.T) = true := by
    intro i x hi hx
    cases hd : L[i]? with
    | some d =>
      have := kr i x d hx hd
      split at this
      · exact this.elim
      · rename_i hh; exact hh
    | none =>
      have he : i = lenL L := by rw [lenL_eq]; have := List.getElem?_eq_none_iff.1 hd; omega
      subst he
      have := kd x hx
      split at this
      · exact this.elim
      · rename_i hh; exact hh
  have tlen : ∀ x, lenL s.T = (updT (ra.res x) s.T).length := fun x => by rw [updT_len, lenL_eq]
  have hpl : ps.size = ss.length := by
    have : ∀ {l : List Nat} {ss : List Sh}, parOK E.n l ss = true → l.length = ss.length := by
      intro l
      induction l with
      | nil => intro ss h; cases ss with | nil => rfl | cons _ _ => simp [parOK] at h
      | cons x l ih =>
        intro ss h
        cases ss with
        | nil => simp [parOK] at h
        | cons s ss =>
          simp only [parOK, andB_eq, Bool.and_eq_true] at h
          simp [ih h.2]
    have h1 := this hpar
    cases ps; simpa using h1
  have psw : ∀ t, memN t ws = false → memN t (tl ps) = false ∧ memN t (writes asg) = false ∧ memN t (writes c) = false := by
    intro t ht
    rw [hws, memN_cat, memN_cat, memN_cat, Bool.or_eq_false_iff, Bool.or_eq_false_iff, Bool.or_eq_false_iff] at ht
    exact ⟨ht.2.1, ht.2.2.1, ht.2.2.2⟩
  have fold_ne : ∀ (vs : List Value) t, memN t (tl ps) = false → ((ps.zip vs.toArray).foldl (fun t (p, v) => t.setIfInBounds p v) a.tmps)[t]? = a.tmps[t]? := by
    intro vs t ht
    rw [zip_fold]
    refine fold_other _ _ fun q hq e => ?_
    have hm : q.1 ∈ tl ps := (List.of_mem_zip hq).1
    rw [e] at hm
    have : ∀ {l : List Nat}, t ∈ l → memN t l = true := by
      intro l
      induction l with
      | nil => intro h; cases h
      | cons x l ih =>
        intro h
        rw [memN_cons]
        rcases List.mem_cons.1 h with rfl | h
        · simp
        · rw [ih h]; simp
    rw [this hm] at ht; cases ht
  have refs0 : ∀ p ∈ keepR (lenL s.T) ws [] s.env, ∃ z, a.tmps[p.1]? = some z ∧ CnV h β p.2 z := by
    intro p hp
    obtain ⟨z, q1, q2, _⟩ := sat.env _ _ _ (keepR_mem p hp).2
    exact ⟨z, q1, q2 rfl⟩
  have nclt : ∀ kk o, B.nc kk o → kk < w.heap.size := fun kk o hk => (Array.getElem?_eq_some_iff.1 (sat.ok.kn kk o hk)).1
  have hBs : B.heap.size ≤ w.heap.size := sat.ok.below.size
  -- the iterator's blocks are no one else's
  let Ap : List Res → FH → List RV → (Nat → Prop) → Prop := fun T h' β' G => Apt w.heap.size T h' β' G
  have apG : ∀ {T : List Res} {h' : FH} {β' : List RV} {G G' : Nat → Prop} {A A' : World}, OK B h0 T h' β' A → w.heap.size ≤ A.heap.size → Ap T h' β' G → Own' G G' A A' → Ap T h' β' G' := by
    intro T h' β' G G' A A' ok' hsz ⟨a1, a2, a3⟩ ho
    refine ⟨fun b hb => ?_, fun b hb hg => ?_, fun b o v hb hg => ?_⟩
    · rcases (ho b hb).2 with h1 | h1
      · exact a1 b h1
      · omega
    · rcases (ho b hg).2 with h1 | h1
      · exact a2 b hb h1
      · obtain ⟨i, r, v, e1, e2, e3, e4⟩ := hb
        have := (ok'.own i r v b e1 e2 e3 e4).2.1
        omega
    · rcases (ho b hg).2 with h1 | h1
      · exact a3 b o v hb h1
      · have := vis_lt (ok'.hw b o v hb)
        omega
  have gsO : ∀ {T : List Res} {h' : FH} {β' : List RV} {G : Nat → Prop} {A A' : World}, OK B h0 T h' β' A → Ap T h' β' G → Gs G A A' → OK B h0 T h' β' A' := fun ok' ⟨a1, a2, a3⟩ gs =>
    ok'.gs gs (fun k hk => Nat.le_trans hBs (a1 k hk)) a2 a3 (fun k o hk hg => by have := nclt k o hk; have := a1 k hg; omega)
  -- what holds between the rounds; what holds where a round has left
  let I : Nat → (Nat → Prop) → World → Prop := fun i G A => i ≤ L.length ∧ (w.heap.size ≤ A.heap.size ∧ ∀ b, G b → b < A.heap.size) ∧ ∃ x h' β', Ap (eff [] (updT (ra.res x) s.T)) h' β' G ∧ ra.inv i x ∧ h.le h' ∧ OK B h0 (eff [] (updT (ra.res x) s.T)) h' β' A ∧ ∀ p ∈ keepR (lenL s.T) ws [] s.env, ∃ z, a.tmps[p.1]? = some z ∧ CnV h' β' p.2 z
  let Ix : Code → (Nat → Prop) → World → Prop := fun cc G A => w.heap.size ≤ A.heap.size ∧ ∃ e T gl h' β', Ap (eff gl T) h' β' G ∧ ((cc = .ret ∧ e = Exit.ret) ∨ ∃ j, cc = .exit j ∧ e = Exit.exit j) ∧ K e { env := rdE ws ra.drop s, T := T, gl := gl, gs := [] } ∧ h.le h' ∧ OK B h0 (eff gl T) h' β' A ∧
    (∀ p ∈ T, gbd gl.length p.1 = true) ∧ ∀ p ∈ keepR (lenL s.T) ws [] s.env, ∃ z, a.tmps[p.1]? = some z ∧ CnV h' β' p.2 z
  have dfr : ∀ A, A.heap[w.heap.size]? = some (.deferred (some [])) → ∃ B' : Base, B.leB B' ∧ Dfr B' { a with defers := markOf w.heap.size :: a.defers } ∧ (∀ {T h' β'}, OK B h0 T h' β' A → OK B' h0 T h' β' A) := by
    intro A hA
    refine ⟨{ B with nc := fun k o => B.nc k o ∨ (k = w.heap.size ∧ o = .deferred (some [])), cell := fun k o hh => hh.elim (B.cell k o) fun hh => by rw [hh.2] }, ⟨rfl, rfl, fun k o hh => .inl hh⟩, ?_, fun ok' => ok'.rebase rfl rfl (fun k o hh => hh.elim (ok'.kn k o) fun hh => by rw [hh.1, hh.2]; exact hA)⟩
    obtain ⟨X, x1, x2, x3⟩ := sat.defers
    refine ⟨w.heap.size :: X, by simp [x1, markOf], ?_, ?_⟩
    · refine List.nodup_cons.2 ⟨fun hm => ?_, x2⟩
      have := nclt _ _ (x3 _ hm).2
      omega
    · intro D hD
      rcases List.mem_cons.1 hD with rfl | hD
      · exact ⟨B.up _ hBs, .inr ⟨rfl, rfl⟩⟩
      · exact ⟨(x3 D hD).1, .inl (x3 D hD).2⟩
  have fin : ∀ e cc G A, ((cc = .ret ∧ e = Exit.ret) ∨ ∃ j, cc = .exit j ∧ e = Exit.exit j) → Ix cc G A → A.heap[w.heap.size]? = some (.deferred (some [])) → Q e { a with defers := markOf w.heap.size :: a.defers } A := by
    rintro e cc G A he ⟨_, e', T, gl, h', β', _, he', kk, le, ok', gT, refs⟩ hA
    have hee : e' = e := by
      rcases he with ⟨rfl, rfl⟩ | ⟨j, rfl, rfl⟩ <;> rcases he' with ⟨h1, h2⟩ | ⟨j', h1, h2⟩ <;> first | (cases h1; exact h2) | cases h1
    subst hee
    obtain ⟨B', lb, df, up⟩ := dfr A hA
    exact next _ _ h' β' A _ B' ⟨lb, fun hh => (by rw [hrd] at hh; cases hh)⟩ kk le (rd_sat sat le refs (up ok') gT rfl df) fun _ _ => rfl
  refine range_law gv hpl I Ix ?_ ?_ ?_ ?_ ?_ ?_ ?_ ?_ ?_ (fun G A hA => fin .ret .ret G A (.inl ⟨rfl, rfl⟩) hA) (fun j G A hA => fin (.exit j) (.exit j) G A (.inr ⟨j, rfl, rfl⟩) hA)
  · rintro i G A ⟨_, _, x, h', β', _, _, le, ok', _⟩
    exact HW.mono le ok'.hw
  · rintro cc G A ⟨_, e, T, gl, h', β', _, he, kk, le, ok', _⟩
    exact HW.mono le ok'.hw
  · rintro i G G' A A' ⟨hi, hsz, x, h', β', ap, i1, le, ok', refs⟩ gs ho
    exact ⟨hi, ⟨Nat.le_trans hsz.1 gs.size, fun b hb => (ho b hb).1⟩, x, h', β', apG ok' hsz.1 ap ho, i1, le, gsO ok' ap gs, refs⟩
  · rintro cc G G' A A' ⟨hsz, e, T, gl, h', β', ap, he, kk, le, ok', gT, refs⟩ gs ho
    exact ⟨Nat.le_trans hsz gs.size, e, T, gl, h', β', apG ok' hsz ap ho, he, kk, le, gsO ok' ap gs, gT, refs⟩
  · rintro i G A l o o' ⟨hi, hsz, x, h', β', ap, i1, le, ok', refs⟩ hl hA ho
    exact ⟨hi, ⟨by simpa using hsz.1, by simpa using hsz.2⟩, x, h', β', ap, i1, le, ok'.turn (B.up _ (Nat.le_trans hBs hl)) (fun kk u hk e => by have := nclt kk u hk; omega) hA ho, refs⟩
  · rintro cc G A l o o' ⟨hsz, e, T, gl, h', β', ap, he, kk, le, ok', gT, refs⟩ hl hA ho
    exact ⟨by simpa using hsz, e, T, gl, h', β', ap, he, kk, le, ok'.turn (B.up _ (Nat.le_trans hBs hl)) (fun kk u hk e => by have := nclt kk u hk; omega) hA ho, gT, refs⟩
  · refine ⟨Nat.zero_le _, ⟨Nat.le_refl _, fun b hb => hb.elim⟩, x0, h, β, ⟨fun b hb => hb.elim, fun b _ hb => hb.elim, fun b o v _ hb => hb.elim⟩, i0, FH.le.refl h, ?_, refs0⟩
    have g0 := good 0 x0 (Nat.zero_le _) i0
    rw [eff_nil (gl := s.gl) fun p hp => (good_all g0 p hp).1, ← t0]
    exact sat.ok
  · rintro i d vs G A l o1 o1' o2 hd hv ⟨hi, ⟨hsz, apb⟩, x, h', β', ap, i1, le, ok', refs⟩ hl hA1 ho1 ho1' hA2 ho2 hGl
    have kk := kr i x d i1 hd
    have gx := good i x hi i1
    rw [gx] at kk
    simp only at kk
    have blen : β'.length = lenL s.T := by rw [ok'.len, eff_len, ← tlen]
    obtain ⟨p1, p2⟩ := par_ok (t := a.tmps) (n := E.n) sat.sz hpar hv
    have satr : Sat E.n (B.rd (eff [] (updT (ra.res x) s.T)) β' A) h'
        { env := catL (parE (tl ps) ss d) (rdE ws (catL ra.drop (tl ps)) s), T := updT (ra.res x) s.T, gl := [], gs := [] } h' β' A { tmps := (ps.zip vs.toArray).foldl (fun t (p, v) => t.setIfInBounds p v) a.tmps, defers := [] } := by
      refine ⟨ok'.enter, ?_, ?_, Dfr.nil rfl, ?_, ?_, ?_⟩
      · intro t G e ht
        simp only at ht ⊢
        rw [lkE_cat] at ht
        split at ht
        · rename_i y hy
          cases ht
          obtain ⟨rfl, z, z1, z2⟩ := p1 t G e hy
          refine ⟨z, by rw [zip_fold]; exact z1, fun _ => (z2 β').mono le (Ext.refl _), fun hh => by cases hh⟩
        · rename_i hy
          obtain ⟨rfl, hm, z, z1, z2⟩ := rd_env sat le refs t G e ht
          have hps : memN t (tl ps) = false := p2 t hy
          exact ⟨z, by rw [fold_ne vs t hps]; exact z1, fun _ => z2, fun hh => by cases hh⟩
      · intro dd ii hh; cases hh
      · rw [zip_fold, fold_size]; exact sat.sz
      · intro t G e ht
        simp only at ht
        rw [lkE_cat] at ht
        split at ht
        · rename_i y hy
          cases ht
          obtain ⟨rfl, _⟩ := p1 t G e hy; rfl
        · obtain ⟨rfl, _⟩ := rd_env sat le refs t G e ht; rfl
      · intro p hp; rw [(good_all gx p hp).1]
    have okE : EnvOK P { E with rd := true } := ⟨ok.prog, ok.hc, ok.mkf, ok.mixed, ok.ti, ok.ct, ok.ip, ok.sq, ok.sf⟩
    refine rec asg (.inl rfl) h' { E with rd := true } _ _ h' β' A _ _ _ l okE (hg.mono ok'.hle) rfl satr kk ?_
    rintro e1 s1 h1 β1 A1 a1 B1 ⟨lb1, lr1⟩ k1 le1 sat1 sm1
    cases e1 with
    | exit j => exact k1.elim
    | goto j => exact k1.elim
    | ret => exact k1.elim
    | panic c => exact k1.elim
    | outgrown => exact k1.elim
    | normal =>
    obtain ⟨q1, q2, q3, q4, q5⟩ := piece_out ok' ap apb lb1 sat1
    have keep1 : ∀ b, b = l ∨ b = w.heap.size ∨ G b → A1.heap[b]? = A.heap[b]? := by
      rintro b (rfl | rfl | hb)
      · exact q4 _ (Array.getElem?_eq_some_iff.1 hA1).1 (q5 _ _ hA1 ho1)
      · exact q4 _ (Array.getElem?_eq_some_iff.1 hA2).1 (q5 _ _ hA2 ho2)
      · exact q4 b (apb b hb) (fun hh => ap.2.1 b hh hb)
    refine ⟨keep1, ?_⟩
    have hB1 : A1.heap[l]? = some o1 := (keep1 l (.inl rfl)).trans hA1
    have hl1 : l < A1.heap.size := (Array.getElem?_eq_some_iff.1 hB1).1
    -- the record is turned; all else stands
    have okt : OK B h0 (eff s1.gl s1.T) h1 β1 (A1.putObj l o1') := q1.turn (B.up _ (Nat.le_trans hBs (by omega))) (fun kk u hk e => by have := nclt kk u hk; omega) hB1 ho1
    have sat1' : Sat E.n (B.rd (eff s1.gl s1.T) β1 (A1.putObj l o1')) h1 s1 h1 β1 (A1.putObj l o1') a1 := by
      have hd1 : a1.defers = [] := by
        obtain ⟨X, x1, x2, x3⟩ := sat1.defers
        cases X with
        | nil => simpa using x1
        | cons D X =>
          exfalso
          obtain ⟨d1, d2⟩ := x3 D (by simp)
          rw [lr1 rfl] at d1 d2
          have hk := ok'.kn D _ d2
          rcases d1 with d1 | d1
          · obtain ⟨i, r, v, e1, e2, e3, e4⟩ := d1
            obtain ⟨o', q1, q2⟩ := (ok'.holds i r v e1 e3).cells e2 e4
            rw [hk] at q1; cases q1; cases q2
          · have := (Array.getElem?_eq_some_iff.1 hk).1
            omega
      exact ⟨okt.enter, sat1.env, sat1.gs, Dfr.nil hd1, sat1.sz, sat1.gb, sat1.gT⟩
    have hsz1 : w.heap.size ≤ (A1.putObj l o1').heap.size := by simp; omega
    have apb1 : ∀ b, G b → b < (A1.putObj l o1').heap.size := fun b hb => by have := apb b hb; simp; omega
    have hT2 : (A1.putObj l o1').heap[w.heap.size]? = some o2 := (World.putObj_heap_other (by omega)).trans ((keep1 _ (.inr (.inl rfl))).trans hA2)
    have hT1 : (A1.putObj l o1').heap[l]? = some o1' := World.putObj_heap_same hl1
    refine rec c (.inr rfl) h1 { E with rd := true } _ _ h1 β1 _ _ _ _ l okE (hg.mono (ok'.hle.trans le1)) rfl sat1' k1 ?_
    rintro e s2 h2 β2 A2 a2 B2 ⟨lb2, _⟩ k2 le2 sat2 sm2
    obtain ⟨ok2, ap2, q8, q9, q10⟩ := piece_out okt q2 apb1 lb2 sat2
    have keep : ∀ b, b = l ∨ b = w.heap.size ∨ G b → A2.heap[b]? = (A1.putObj l o1').heap[b]? := by
      rintro b (rfl | rfl | hb)
      · exact q9 _ (Array.getElem?_eq_some_iff.1 hT1).1 (q10 _ _ hT1 ho1')
      · exact q9 _ (Array.getElem?_eq_some_iff.1 hT2).1 (q10 _ _ hT2 ho2)
      · exact q9 b (apb1 b hb) (fun hh => q2.2.1 b hh hb)
    split at k2
    · exact k2.elim
    rename_i hR
    have hsz2 : w.heap.size ≤ A2.heap.size := Nat.le_trans hsz1 q8
    have refs2 : ∀ p ∈ keepR (lenL s.T) ws [] s.env, ∃ z, a.tmps[p.1]? = some z ∧ CnV h2 β2 p.2 z := by
      intro p hp
      obtain ⟨z, q1, q2, _⟩ := sat2.env _ _ _ (hasR_mem hR p hp)
      obtain ⟨w1, w2, w3⟩ := psw _ (keepR_ws p hp)
      have e1 := sm2 p.1 w3
      have e2 := sm1 p.1 w2
      simp only at e2
      rw [e1, e2, fold_ne vs _ w1] at q1
      exact ⟨z, q1, q2 rfl⟩
    cases e with
    | normal =>
      simp only at k2
      obtain ⟨x', j1, j2⟩ := k2
      have hi1 : i + 1 ≤ L.length := (List.getElem?_eq_some_iff.1 hd).1
      have gx' := good (i + 1) x' hi1 j1
      have et : eff [] (updT (ra.res x') s.T) = (eff s2.gl s2.T).take (lenL s.T) := by
        rw [takeL_eq] at j2
        rw [← j2, eff_nil_take (gl := s2.gl) fun p hp => by rw [j2] at hp; exact (good_all gx' p hp).1]
      refine ⟨keep, hi1, ⟨hsz2, fun b hb => Nat.lt_of_lt_of_le (apb1 b hb) q8⟩, x', h2, β2.take (lenL s.T), ?_, j1, (le.trans le1).trans le2, ?_, fun p hp => ?_⟩
      · refine ⟨ap2.1, ?_, ap2.2.2⟩
        rintro b ⟨i, r, v, e1, e2, e3, e4⟩ hb
        rw [et] at e1
        have hi : i < lenL s.T := by have := (List.getElem?_eq_some_iff.1 e1).1; simp at this; omega
        rw [take_get hi] at e1 e3
        exact ap2.2.1 b ⟨i, r, v, e1, e2, e3, e4⟩ hb
      · rw [et]
        rw [takeL_eq] at j2
        have hlen : lenL s.T ≤ s2.T.length := by
          have := congrArg List.length j2
          rw [updT_len, List.length_take, lenL_eq] at this
          rw [lenL_eq]; omega
        refine ok2.take (by rw [eff_len]; exact hlen) ?_
        rw [← et]
        have : ∀ {l : List (Gd × Res)}, (∀ p ∈ l, p.1 = [] ∧ resBelow (lenL s.T) p.2 = true) → ∀ r ∈ eff [] l, resBelow (lenL s.T) r = true := by
          intro l
          induction l with
          | nil => intro _ r hr; simp [eff] at hr
          | cons q l ih =>
            obtain ⟨g, r0⟩ := q
            intro hh r hr
            have hg := hh (g, r0) (by simp)
            have hg1 : g = [] := hg.1
            subst hg1
            simp only [eff] at hr
            rcases List.mem_cons.1 hr with rfl | hr
            · exact hg.2
            · exact ih (fun p hp => hh p (by simp [hp])) r hr
        exact this (good_all gx')
      · obtain ⟨z, q1, q2⟩ := refs2 p hp
        exact ⟨z, q1, CnV.below (keepR_below p hp) q2⟩
    | ret => exact ⟨keep, hsz2, .ret, s2.T, s2.gl, h2, β2, ap2, .inl ⟨rfl, rfl⟩, k2, (le.trans le1).trans le2, ok2, sat2.gT, refs2⟩
    | exit j => exact ⟨keep, hsz2, .exit j, s2.T, s2.gl, h2, β2, ap2, .inr ⟨j, rfl, rfl⟩, k2, (le.trans le1).trans le2, ok2, sat2.gT, refs2⟩
    | goto t => exact k2.elim
    | panic ch => exact k2.elim
    | outgrown => exact k2.elim
  · rintro G A ⟨_, _, x, h', β', _, i1, le, ok', refs⟩ hA
    have kk := kd x (by rw [lenL_eq]; exact i1)
    have gx := good _ x (Nat.le_refl _) i1
    rw [gx] at kk
    simp only at kk
    obtain ⟨B', lb, df, up⟩ := dfr A hA
    exact next _ _ h' β' A _ B' ⟨lb, fun hh => (by rw [hrd] at hh; cases hh)⟩ kk le (rd_sat sat le refs (up ok') (fun p hp => by rw [(good_all gx p hp).1]) rfl df) fun _ _ => rfl
theorem codeK_ok {P : Program} {n : Nat} : ∀ (c : Code) {h0 : FH} {E : Env} (ok : EnvOK P E) (hg : GlobOK E.cx.gd h0) {F : Fence} (hF : Wd F) (hr : E.rd = false → F = Fence.wide) {B : Base} {s : St} {h : FH} {β : List RV} {w : World} {a : Act} {K : Exit → St → Prop} {Q : Exit → Act → World → Prop}, Sat E.n B h0 s h β w a →
    codeK E c s K → (∀ e s' h' β' w' a' B', Base.leR E.rd B B' → K e s' → h.le h' → Sat E.n B' h0 s' h' β' w' a' → Same (writes c) a a' → Q e a' w') → c.wpIn F n P Q a w
  | .skip, h0, E, ok, hg, F, hF, hr, B, s, h, β, w, a, K, Q, sat, k, next => wpIn_skip (next _ _ _ _ _ _ _ (.refl _) k (FH.le.refl h) sat (Same.refl _ _))
  | .exit i, h0, E, ok, hg, F, hF, hr, B, s, h, β, w, a, K, Q, sat, k, next => wpIn_exit (next _ _ _ _ _ _ _ (.refl _) k (FH.le.refl h) sat (Same.refl _ _))
  | .ret, h0, E, ok, hg, F, hF, hr, B, s, h, β, w, a, K, Q, sat, k, next => wpIn_ret (next _ _ _ _ _ _ _ (.refl _) k (FH.le.refl h) sat (Same.refl _ _))
  | .region id ops false, h0, E, ok, hg, F, hF, hr, B, s, h, β, w, a, K, Q, sat, k, next => by
    simp only [codeK] at k
    split at k
    · exact k.elim
    rename_i hnd
    have et : tl ops = ops.toList := by cases ops; rfl
    rw [et] at hnd k
    refine wpL_region (R := fun a w => Q .normal a w) hF (fun _ _ hh => hh) hnd (opsI_ok ok hg ops.toList sat (by rw [et]; exact k) fun s' h' β' w' a' k' le sat' sm => next .normal _ _ _ _ _ _ (.refl _) k' le sat'.clean ?_)
    simp only [writes]; rw [et]; exact sm
  | .seq x y, h0, E, ok, hg, F, hF, hr, B, s, h, β, w, a, K, Q, sat, k, next => by
    simp only [codeK] at k
    split at k
    · rename_i la _
      obtain ⟨β0, sat0⟩ := sat.padS la.pad
      clear sat
      generalize padS la.pad s = s at sat0 k
      generalize β0 = β at sat0
      have sat := sat0
      obtain ⟨k1, k2⟩ := k
      have D0 : ∀ h' a', h.le h' → Same (writes x) a a' → ∀ t e, lkE (keepE (catL la.drop (writes x)) [] s.env) t = some ([], e) → ∃ z, a'.tmps[t]? = some z ∧ CnE h' [] e z := by
        intro h' a' le sm t e ht
        obtain ⟨_, hw, hl, _, hf⟩ := keepE_get ht
        obtain ⟨z, q1, q2, _⟩ := sat.env t [] e hl
        exact ⟨z, by rw [sm t (by rw [memN_cat, Bool.or_eq_false_iff] at hw; exact hw.2)]; exact q1, (CnE.refFree [] hf (q2 rfl)).mono le (Ext.refl _)⟩
      refine wpIn_seq (codeK_ok x ok hg hF hr sat k1 fun e s' h' β' w' a' B1 lb k' le sat' sm => ?_)
      cases e with
      | normal =>
        simp only at k'
        unfold cutI at k'
        obtain ⟨h1, β1, le1, sat2⟩ := Sat.turnS sat' la.frz la.frzI la.nil la.nilC la.deep
        obtain ⟨β20, sat30⟩ := sat2.swAll la.ren
        obtain ⟨β2, sat3⟩ := sat30.canS la.can
        split at k'
        · rename_i hR
          obtain ⟨v, j1, j2, j3⟩ := k'
          have kk := k2 v j1
          split at kk
          · exact kk.elim
          · rename_i hc
            rw [andB_eq, Bool.and_eq_true] at hc
            exact codeK_ok y ok hg hF hr (head_ok sat3 j3 hc.1 hc.2 j2 (hasR_mem hR) (D0 h1 a' (le.trans le1) sm)) kk fun e s2 h2 β3 w2 a2 B2 lb2 k3 le2 sat4 sm2 => next e s2 h2 β3 w2 a2 B2 (lb.trans lb2) k3 ((le.trans le1).trans le2) sat4 (sm.left.trans sm2.right)
        · exact k'.elim
      | exit i => exact next _ _ _ _ _ _ _ lb k' le sat' sm.left
      | goto l => exact next _ _ _ _ _ _ _ lb k' le sat' sm.left
      | ret => exact next _ _ _ _ _ _ _ lb k' le sat' sm.left
      | panic ch => exact next _ _ _ _ _ _ _ lb k' le sat' sm.left
      | outgrown => exact next _ _ _ _ _ _ _ lb k' le sat' sm.left
    · refine wpIn_seq (codeK_ok x ok hg hF hr sat k fun e s' h' β' w' a' B1 lb k' le sat' sm => ?_)
      cases e with
      | normal => exact codeK_ok y ok hg hF hr sat' k' fun e s2 h2 β2 w2 a2 B2 lb2 k2 le2 sat2 sm2 => next e s2 h2 β2 w2 a2 B2 (lb.trans lb2) k2 (le.trans le2) sat2 (sm.left.trans sm2.right)
      | exit i => exact next _ _ _ _ _ _ _ lb k' le sat' sm.left
      | goto l => exact next _ _ _ _ _ _ _ lb k' le sat' sm.left
      | ret => exact next _ _ _ _ _ _ _ lb k' le sat' sm.left
      | panic ch => exact next _ _ _ _ _ _ _ lb k' le sat' sm.left
      | outgrown => exact next _ _ _ _ _ _ _ lb k' le sat' sm.left
  | .cond c x y, h0, E, ok, hg, F, hF, hr, B, s, h, β, w, a, K, Q, sat, k, next => by
    simp only [codeK] at k
    split at k
    · rename_i b hb
      have hc : a.eval c = .bool b := (getE_ok sat (hg.mono sat.ok.hle) (show gv s.gl [] = true from rfl) hb).1.1
      refine wpIn_cond_split hc (fun ht => codeK_ok x ok hg hF hr sat ((br_iff.1 k).1 ht) fun e s' h' β' w' a' B1 lb k' le sat' sm => next _ _ _ _ _ _ _ lb k' le sat' sm.left)
        (fun hf => codeK_ok y ok hg hF hr sat ((br_iff.1 k).2 hf) fun e s' h' β' w' a' B1 lb k' le sat' sm => next _ _ _ _ _ _ _ lb k' le sat' sm.right)
    · exact k.elim
  | .block id c, h0, E, ok, hg, F, hF, hr, B, s, h, β, w, a, K, Q, sat, k, next => by
    refine wpIn_block (codeK_ok c ok hg hF hr sat k fun e s' h' β' w' a' B1 lb k' le sat' sm => ?_)
    cases e with
    | normal => exact next _ _ _ _ _ _ _ lb k' le sat' sm
    | exit i =>
      simp only at k'
      simp only [Exit.inBlock]
      split at k'
      · rename_i hi
        have : i = id := Nat.eq_of_beq_eq_true hi
        rw [if_pos this]
        exact next _ _ _ _ _ _ _ lb k' le sat' sm
      · rename_i hi
        have : ¬ i = id := fun hh => by rw [hh] at hi; simp at hi
        rw [if_neg this]
        exact next _ _ _ _ _ _ _ lb k' le sat' sm
    | goto l => exact next _ _ _ _ _ _ _ lb k' le sat' sm
    | ret => exact next _ _ _ _ _ _ _ lb k' le sat' sm
    | panic ch => exact next _ _ _ _ _ _ _ lb k' le sat' sm
    | outgrown => exact next _ _ _ _ _ _ _ lb k' le sat' sm
  | .loop c, h0, E, ok, hg, F, hF, hr, B, s, h, β, w, a, K, Q, sat, k, next => by
    simp only [codeK] at k
    split at k
    · rename_i la _
      obtain ⟨h1, β1, le1, sat1⟩ := Sat.turnS sat la.frz la.frzI la.nil la.nilC la.deep
      replace next := fun e s' h' β' w' a' B1 lb k' le sat' sm => next e s' h' β' w' a' B1 lb k' (le1.trans le) sat' sm
      clear le1 sat
      clear h
      rename FH => h
      generalize turnS s la.frz la.frzI la.nil la.nilC la.deep = s at sat1 k
      obtain ⟨β2, sat⟩ := sat1.padS la.pad
      clear sat1
      have sat1 := sat
      clear sat
      generalize padS la.pad s = s at sat1 k
      have sat := sat1
      clear sat1
      obtain ⟨⟨x, i1, i2, i3⟩, k2⟩ := k
      have good : ∀ x, la.inv x → goodT (lenL s.T) (updT (la.res x) s.T) = true ∧ goodS (lenL s.T) (catL la.drop (writes c)) (la.slots x) = true ∧
          codeK E c (headSt (catL la.drop (writes c)) s (la.slots x) (la.res x)) (fun e s' => match e with
            | .normal => match hasR (canS la.can (swAll la.ren s')) (keepR (lenL s.T) (catL la.drop (writes c)) [] s.env) with
              | true => ∃ x', la.inv x' ∧ hasE (canS la.can (swAll la.ren s')) (la.slots x') ∧ takeL (lenL s.T) (canS la.can (swAll la.ren s')).T = updT (la.res x') s.T ∧ la.meas x' < la.meas x
              | false => False
            | e => K e s') := by
        intro x hx
        have := k2 x hx
        split at this
        · exact this.elim
        · rename_i hc
          rw [andB_eq, Bool.and_eq_true] at hc
          exact ⟨hc.1, hc.2, this⟩
      have D0 : ∀ h' a', h.le h' → Same (writes c) a a' → ∀ t e, lkE (keepE (catL la.drop (writes c)) [] s.env) t = some ([], e) → ∃ z, a'.tmps[t]? = some z ∧ CnE h' [] e z := by
        intro h' a' le sm t e ht
        obtain ⟨_, hw, hl, _, hf⟩ := keepE_get ht
        obtain ⟨z, q1, q2, _⟩ := sat.env t [] e hl
        exact ⟨z, by rw [sm t (by rw [memN_cat, Bool.or_eq_false_iff] at hw; exact hw.2)]; exact q1, (CnE.refFree [] hf (q2 rfl)).mono le (Ext.refl _)⟩
      refine wpIn_loop_ghost (fun n a' w' => ∃ x h' β' B1, Base.leR E.rd B B1 ∧ la.meas x = n ∧ la.inv x ∧ h.le h' ∧ Sat E.n B1 h0 (headSt (catL la.drop (writes c)) s (la.slots x) (la.res x)) h' β' w' a' ∧ Same (writes c) a a') (la.meas x) ?_ ?_
      · obtain ⟨g1, g2, _⟩ := good x i1
        refine ⟨x, h, _, B, .refl _, rfl, i1, FH.le.refl h, head_ok sat ?_ g1 g2 i2 (fun p hp => (keepR_mem p hp).2) (D0 h a (FH.le.refl h) (Same.refl _ _)), Same.refl _ _⟩
        rw [← i3, takeL_eq, lenL_eq, List.take_length]
      · rintro n a' w' ⟨x, h', β', B1, lb, rfl, hx, le, sat', sm⟩
        obtain ⟨g1, g2, kk⟩ := good x hx
        refine codeK_ok c ok hg hF hr sat' kk fun e s2 h2 β2 w2 a2 B2 lb2 k2 le2 sat2 sm2 => ?_
        cases e with
        | normal =>
          simp only at k2
          split at k2
          · rename_i hR
            obtain ⟨x', j1, j2, j3, j4⟩ := k2
            obtain ⟨g1', g2', _⟩ := good x' j1
            obtain ⟨β30, sat20⟩ := sat2.swAll la.ren
            obtain ⟨β3, sat2⟩ := sat20.canS la.can
            refine ⟨la.meas x', j4, x', h2, _, B2, lb.trans lb2, rfl, j1, le.trans le2, head_ok sat2 j3 g1' g2' j2 (hasR_mem hR) (D0 h2 a2 (le.trans le2) (sm.trans sm2)), sm.trans sm2⟩
          · exact k2.elim
        | exit i => exact next _ _ _ _ _ _ _ (lb.trans lb2) k2 (le.trans le2) sat2 (sm.trans sm2)
        | goto l => exact next _ _ _ _ _ _ _ (lb.trans lb2) k2 (le.trans le2) sat2 (sm.trans sm2)
        | ret => exact next _ _ _ _ _ _ _ (lb.trans lb2) k2 (le.trans le2) sat2 (sm.trans sm2)
        | panic ch => exact next _ _ _ _ _ _ _ (lb.trans lb2) k2 (le.trans le2) sat2 (sm.trans sm2)
        | outgrown => exact next _ _ _ _ _ _ _ (lb.trans lb2) k2 (le.trans le2) sat2 (sm.trans sm2)
    · rename_i m _
      refine wpIn_loop_rounds m ?_
      have key : ∀ (m : Nat) {B : Base} {s : St} {h : FH} {β : List RV} {w : World} {a : Act} {K : Exit → St → Prop} {Q : Exit → Act → World → Prop}, Sat E.n B h0 s h β w a → roundsK (codeK E c) m s K →
          (∀ e s' h' β' w' a' B', Base.leR E.rd B B' → K e s' → h.le h' → Sat E.n B' h0 s' h' β' w' a' → Same (writes c) a a' → Q e a' w') → Code.roundsIn F n P c Q m a w := by
        intro m
        induction m with
        | zero => intro B s h β w a K Q sat k next; exact k.elim
        | succ m ih =>
          intro B s h β w a K Q sat k next
          rw [roundsIn_succ]
          refine codeK_ok c ok hg hF hr sat k fun e s2 h2 β2 w2 a2 B2 lb2 k2 le2 sat2 sm2 => ?_
          cases e with
          | normal => exact ih sat2 k2 fun e s3 h3 β3 w3 a3 B3 lb3 k3 le3 sat3 sm3 => next e s3 h3 β3 w3 a3 B3 (lb2.trans lb3) k3 (le2.trans le3) sat3 (sm2.trans sm3)
          | exit i => exact next _ _ _ _ _ _ _ lb2 k2 le2 sat2 sm2
          | goto l => exact next _ _ _ _ _ _ _ lb2 k2 le2 sat2 sm2
          | ret => exact next _ _ _ _ _ _ _ lb2 k2 le2 sat2 sm2
          | panic ch => exact next _ _ _ _ _ _ _ lb2 k2 le2 sat2 sm2
          | outgrown => exact next _ _ _ _ _ _ _ lb2 k2 le2 sat2 sm2
      exact key m sat k next
    · exact k.elim
  | .region id ops true, h0, E, ok, hg, F, hF, hr, B, s, h, β, w, a, K, Q, sat, k, next => by
    simp only [codeK] at k
    split at k
    · exact k.elim
    rename_i hnd
    have et : tl ops = ops.toList := by cases ops; rfl
    cases hma : mapAny E.cx (tl ops) with
    | true =>
      rw [hma] at k
      simp only at k
      cases hlx : lexM ops with
      | false => rw [hlx] at k; exact k.elim
      | true =>
        rw [hlx] at k
        exact drawM_ok ok hg hlx sat k hF (by rw [et] at hnd; exact hnd) fun s' h' β' w' a' k' le sat' sm => next .normal _ _ _ _ _ _ (.refl _) k' le sat'.clean sm
    | false =>
    rw [hma] at k
    simp only at k
    cases hip : ipAny E (tl ops) with
    | true =>
      rw [hip] at k
      simp only at k
      cases hd : drawOrd0 ops with
      | none => rw [hd] at k; exact k.elim
      | some l =>
        rw [hd] at k
        exact idraw_ok ok hg hd sat k hF (by rw [et] at hnd; exact hnd) fun s' h' β' w' a' k' le sat' sm => next .normal _ _ _ _ _ _ (.refl _) k' le sat'.clean sm
    | false =>
    rw [hip] at k
    simp only at k
    cases hd : drawOrd ops with
    | none => rw [hd] at k; exact k.elim
    | some l =>
      rw [hd] at k
      exact draw_ok ok hg hd sat k hF (by rw [et] at hnd; exact hnd) fun s' h' β' w' a' k' le sat' sm => next .normal _ _ _ _ _ _ (.refl _) k' le sat'.clean sm
  | .rangeFunc g ps asg c, h0, E, ok, hg, F, hF, hr, B, s, h, β, w, a, K, Q, sat, k, next => by
    simp only [codeK] at k
    split at k
    · exact k.elim
    rename_i hrd
    have hF' := hr hrd
    subst hF'
    split at k
    · rename_i P' ss L hgE
      split at k
      · rename_i ra _
        obtain ⟨hP, k⟩ := k
        have hP := ok.prog _ hP
        subst hP
        have gv0 : Gives P' h ss L (a.eval g) := (getE_ok sat (hg.mono sat.ok.hle) (show gv s.gl [] = true from rfl) hgE).1
        obtain ⟨h1, β1, le1, sat2⟩ := Sat.turnS sat ra.frz ra.frzI ra.nil ra.nilC ra.deep
        replace next := fun e s' h' β' w' a' B1 lb k' le sat' sm => next e s' h' β' w' a' B1 lb k' (le1.trans le) sat' sm
        have gv1 := Abs.rel_mono (x := .seq P' ss L) le1 gv0
        generalize turnS s ra.frz ra.frzI ra.nil ra.nilC ra.deep = s2 at sat2 k
        refine range_ok (fun c' hc' h0' E' B' s' h' β' w' a' K' Q' l ok' hg' he sat' k' next' => ?_) ok hg sat2 gv1 k hrd next
        rcases hc' with rfl | rfl
        · exact codeK_ok _ ok' hg' (F := Fence.wide.inRound l) (.inr ⟨l, rfl⟩) (fun hh => by rw [he] at hh; cases hh) sat' k' next'
        · exact codeK_ok _ ok' hg' (F := Fence.wide.inRound l) (.inr ⟨l, rfl⟩) (fun hh => by rw [he] at hh; cases hh) sat' k' next'
      · exact k.elim
    · exact k.elim
  | .scope _, h0, E, ok, hg, F, hF, hr, B, s, h, β, w, a, K, Q, sat, k, next => k.elim
  | .label _, h0, E, ok, hg, F, hF, hr, B, s, h, β, w, a, K, Q, sat, k, next => k.elim
  | .goto _, h0, E, ok, hg, F, hF, hr, B, s, h, β, w, a, K, Q, sat, k, next => k.elim
  | .refuse _, h0, E, ok, hg, F, hF, hr, B, s, h, β, w, a, K, Q, sat, k, next => k.elim
end Go.Eng
set_option linter.unusedSimpArgs false
set_option linter.unusedVariables false
namespace Go.Eng
open Go Go.RowKit
@[reducible] def resV (cx : Cx) (s : St) (r : ResultVar) (K : SV → Prop) : Prop := match r with
  | .tmp t => match lkE s.env t with
    | some ([], .one v) => K v
    | _ => False
  | .cell p t => match lkE s.env p with
    | some ([], .one (.c q)) => loadK cx s [] t q fun e => match e with
      | .one v => K v
      | _ => False
    | _ => False
@[reducible] def resL (cx : Cx) (s : St) : List ResultVar → (List SV → Prop) → Prop
  | [], K => K []
  | r :: l, K => resV cx s r fun v => resL cx s l fun vs => K (v :: vs)
@[reducible] def memA (i : Nat) : List (Nat × Res) → Bool
  | [] => false
  | (j, _) :: l => match Nat.beq i j with
    | true => true
    | false => memA i l
@[reducible] def selC (T : List (Gd × Res)) (x : SC) (acc : List (Nat × Res)) : Option (SC × List (Nat × Res)) := match x with
  | .v u => some (.v u, acc)
  | .sl sh l => some (.sl sh l, acc)
  | .fp sh d => some (.fp sh d, acc)
  | .one sh d => some (.one sh d, acc)
  | .abs x => some (.abs x, acc)
  | .row i => match nthL T i with
    | some ([], .row t sh l) => match memA i acc with
      | true => none
      | false => some (.row (lenL acc), snoc acc (i, .row t sh l))
    | some ([], .deep t sh l tt e so own hs) => match memA i acc with
      | true => none
      | false => some (.row (lenL acc), snoc acc (i, .deep t sh l tt e so own hs))
    | some ([], .mp k sh l) => match memA i acc with
      | true => none
      | false => some (.row (lenL acc), snoc acc (i, .mp k sh l))
    | _ => none
  | _ => none
@[reducible] def selCs (T : List (Gd × Res)) : List SC → List (Nat × Res) → Option (List SC × List (Nat × Res))
  | [], acc => some ([], acc)
  | x :: l, acc => match selC T x acc with
    | some (y, acc) => match selCs T l acc with
      | some (m, acc) => some (y :: m, acc)
      | none => none
    | none => none
@[reducible] def selV (T : List (Gd × Res)) (v : SV) (acc : List (Nat × Res)) : Option (SV × List (Nat × Res)) := match v with
  | .c x => match selC T x acc with
    | some (y, acc) => some (.c y, acc)
    | none => none
  | .agg xs => match selCs T xs acc with
    | some (ys, acc) => some (.agg ys, acc)
    | none => none
  | .dat sh d => some (.dat sh d, acc)
  | .und => none
@[reducible] def selVs (T : List (Gd × Res)) : List SV → List (Nat × Res) → Option (List SV × List (Nat × Res))
  | [], acc => some ([], acc)
  | x :: l, acc => match selV T x acc with
    | some (y, acc) => match selVs T l acc with
      | some (m, acc) => some (y :: m, acc)
      | none => none
    | none => none
@[reducible] def mkEnt : List SV → Ent
  | [v] => .one v
  | vs => .tup vs
@[reducible] def sndL : List (Nat × Res) → List Res
  | [] => []
  | (_, r) :: l => r :: sndL l
@[reducible] def outK (T : List (Gd × Res)) (vs : List SV) (R : List Res → Ent → Prop) : Prop := match selVs T vs [] with
  | some (vs', acc) => R (sndL acc) (mkEnt vs')
  | none => False
@[reducible] def argE (n : Nat) : List SV → List (Nat × Gd × Ent)
  | [] => []
  | v :: l => (n, [], .one v) :: argE (Nat.succ n) l
/-! Results in the form that the contract says: rows frozen, nil slices as rows. -/
@[reducible] def frC (T : List (Gd × Res)) (x : SC) : Option (List (Gd × Res) × SC) := match x with
  | .row i => match nthL T i with
    | some ([], .row _ sh l) => some (setL T i ([], .gone), .sl sh l)
    | some ([], .deep _ sh l _ _ _ _ []) => some (setL T i ([], .gone), .sl sh l)
    | some ([], .mp k sh l) => some (setL T i ([], .gone), .one (.mp k sh) l)
    | _ => none
  | x => some (T, x)
@[reducible] def frL (T : List (Gd × Res)) : List SC → Option (List (Gd × Res) × List SC)
  | [] => some (T, [])
  | x :: l => match frC T x with
    | some (T, y) => match frL T l with
      | some (T, m) => some (T, y :: m)
      | none => none
    | none => none
@[reducible] def frV (T : List (Gd × Res)) (v : SV) : Option (List (Gd × Res) × SV) := match v with
  | .c x => match frC T x with
    | some (T, y) => some (T, .c y)
    | none => none
  | .agg xs => match frL T xs with
    | some (T, ys) => some (T, .agg ys)
    | none => none
  | v => some (T, v)
@[reducible] def coV (c : RC) (T : List (Gd × Res)) (v : SV) (K : List (Gd × Res) → SV → Prop) : Prop := match c with
  | .keep => K T v
  | .data sh => match frV T v with
    | some (T, v) => match toDat sh v with
      | some d => K T (ofDat sh d)
      | none => False
    | none => False
  | .row t sh => match v with
    | .c (.v (.slice none 0 0)) => K (snoc T ([], .row t sh [])) (.c (.row (lenL T)))
    | v => K T v
@[reducible] def coK : List RC → List (Gd × Res) → List SV → (List (Gd × Res) → List SV → Prop) → Prop
  | [], T, vs, K => K T vs
  | _ :: _, T, [], K => K T []
  | c :: cs, T, v :: vs, K => coV c T v fun T v => coK cs T vs fun T vs => K T (v :: vs)
section
variable {B : Base} {h0 : FH} {gl : List Bool} {w : World}
theorem frC_ok {T T' : List (Gd × Res)} {h : FH} {β : List RV} (ok : OK B h0 (eff gl T) h β w) {x x' : SC} {y : Value} (e : frC T x = some (T', x')) (c : CnC h β x y) :
    ∃ h', h.le h' ∧ OK B h0 (eff gl T') h' β w ∧ CnC h' β x' y := by
  unfold frC at e
  split at e
  · rename_i i
    split at e
    · rename_i t sh l hT
      cases e
      have hT' : (eff gl T)[i]? = some (.row t sh l) := by rw [eff_get, ← nthL_eq, hT]; rfl
      obtain ⟨h', le, ok', sl⟩ := ok.freeze hT' (ok.row_of hT' c)
      exact ⟨h', le, by rw [eff_set]; exact ok', sl⟩
    · rename_i t sh l t2 e2 so own hT
      cases e
      have hT' : (eff gl T)[i]? = some (.deep t sh l t2 e2 so own []) := by rw [eff_get, ← nthL_eq, hT]; rfl
      obtain ⟨us, hu, hd⟩ := ok.deep_of hT' c
      obtain ⟨le, ok', vis⟩ := ok.freezeHas hT' rfl hu
      exact ⟨_, le, by rw [eff_set]; exact ok', hd.data le fun b hb o z hz => vis b hb o z hz⟩
    · rename_i k sh l hT
      cases e
      have hT' : (eff gl T)[i]? = some (.mp k sh l) := by rw [eff_get, ← nthL_eq, hT]; rfl
      have hu := ok.mp_rv hT' c
      obtain ⟨le, ok', vs⟩ := ok.freezeHas hT' rfl hu
      exact ⟨_, le, by rw [eff_set]; exact ok', mp_data (β := β) (ok.holds i _ _ hT' hu) le fun b hb o z hz => vs b hb o z hz⟩
    · cases e
  · cases e; exact ⟨h, FH.le.refl h, ok, c⟩
theorem frL_ok : ∀ {xs xs' : List SC} {T T' : List (Gd × Res)} {h : FH} {β : List RV} {ys : List Value}, OK B h0 (eff gl T) h β w → frL T xs = some (T', xs') → All2 (fun x y => CnC h β x y ∧ oneC y) xs ys →
    ∃ h', h.le h' ∧ OK B h0 (eff gl T') h' β w ∧ All2 (fun x y => CnC h' β x y ∧ oneC y) xs' ys
  | [], xs', T, T', h, β, [], ok, e, _ => by simp [frL] at e; obtain ⟨rfl, rfl⟩ := e; exact ⟨h, FH.le.refl h, ok, trivial⟩
  | x :: l, xs', T, T', h, β, y :: ys, ok, e, ⟨c, r⟩ => by
    unfold frL at e
    split at e
    · rename_i T1 x1 h1
      split at e
      · rename_i T2 m h2
        cases e
        obtain ⟨ha, le1, ok1, c1⟩ := frC_ok ok h1 c.1
        obtain ⟨hb, le2, ok2, c2⟩ := frL_ok ok1 h2 (r.mono fun _ _ q => ⟨q.1.mono le1 (Ext.refl β), q.2⟩)
        exact ⟨hb, le1.trans le2, ok2, ⟨c1.mono le2 (Ext.refl β), c.2⟩, c2⟩
      · cases e
    · cases e
theorem frV_ok {T T' : List (Gd × Res)} {h : FH} {β : List RV} (ok : OK B h0 (eff gl T) h β w) {x x' : SV} {y : Value} (e : frV T x = some (T', x')) (c : CnV h β x y) :
    ∃ h', h.le h' ∧ OK B h0 (eff gl T') h' β w ∧ CnV h' β x' y := by
  unfold frV at e
  split at e
  · split at e
    · rename_i T1 y1 h1
      cases e
      obtain ⟨h', le, ok', c'⟩ := frC_ok ok h1 c.1
      exact ⟨h', le, ok', c', c.2⟩
    · cases e
  · split at e
    · rename_i T1 y1 h1
      cases e
      obtain ⟨ys, rfl, a⟩ := c
      obtain ⟨h', le, ok', c'⟩ := frL_ok ok h1 a
      exact ⟨h', le, ok', ys, rfl, c'⟩
    · cases e
  · cases e; exact ⟨h, FH.le.refl h, ok, c⟩
theorem coV_ok {T : List (Gd × Res)} {h : FH} {β : List RV} (ok : OK B h0 (eff gl T) h β w) {c : RC} {v : SV} {y : Value} {K : List (Gd × Res) → SV → Prop} (k : coV c T v K) (cv : CnV h β v y) :
    ∃ T' v' h' β', K T' v' ∧ h.le h' ∧ Ext β β' ∧ OK B h0 (eff gl T') h' β' w ∧ CnV h' β' v' y := by
  unfold coV at k
  split at k
  · exact ⟨T, v, h, β, k, FH.le.refl h, Ext.refl β, ok, cv⟩
  · split at k
    · rename_i T1 v1 h1
      split at k
      · rename_i d hd
        obtain ⟨h', le, ok', c'⟩ := frV_ok ok h1 cv
        obtain ⟨cs, rfl, rd⟩ := toDat_ok hd c'
        exact ⟨T1, _, h', β, k, le, Ext.refl β, ok', ofDat_ok _ rd⟩
      · exact k.elim
    · exact k.elim
  · rename_i t sh
    split at k
    · obtain ⟨e, _⟩ := cv
      obtain ⟨rfl, _⟩ := e
      refine ⟨_, _, h, β ++ [.row (.slice none 0 0)], k, FH.le.refl h, Ext.append _ _, ?_, ?_⟩
      · rw [snoc_eq, eff_append]
        exact ok.add (r := .row t sh []) (v := .row (.slice none 0 0)) (grown_refl w none) (fun b hb => by rw [has_row] at hb; simp [rowBlk] at hb) (.inl ⟨rfl, rfl⟩)
      · refine ⟨⟨.row (.slice none 0 0), ?_, rfl⟩, rfl, rfl⟩
        have : lenL T = β.length := by rw [ok.len, eff_len, lenL_eq]
        rw [this]; simp
    · exact ⟨T, v, h, β, k, FH.le.refl h, Ext.refl β, ok, cv⟩
theorem coK_ok : ∀ {cs : List RC} {vs : List SV} {ys : List Value} {T : List (Gd × Res)} {h : FH} {β : List RV} {K : List (Gd × Res) → List SV → Prop}, OK B h0 (eff gl T) h β w → coK cs T vs K → All2 (CnV h β) vs ys →
    ∃ T' vs' h' β', K T' vs' ∧ h.le h' ∧ Ext β β' ∧ OK B h0 (eff gl T') h' β' w ∧ All2 (CnV h' β') vs' ys
  | [], vs, ys, T, h, β, K, ok, k, a => ⟨T, vs, h, β, k, FH.le.refl h, Ext.refl β, ok, a⟩
  | _ :: _, [], ys, T, h, β, K, ok, k, a => ⟨T, [], h, β, k, FH.le.refl h, Ext.refl β, ok, a⟩
  | c :: cs, v :: vs, y :: ys, T, h, β, K, ok, k, ⟨cv, a⟩ => by
    obtain ⟨T1, v1, h1, β1, k1, le1, eb1, ok1, c1⟩ := coV_ok ok k cv
    obtain ⟨T2, vs2, h2, β2, k2, le2, eb2, ok2, c2⟩ := coK_ok ok1 k1 (a.mono fun _ _ q => q.mono le1 eb1)
    exact ⟨T2, v1 :: vs2, h2, β2, k2, le1.trans le2, fun i u e => eb2 i u (eb1 i u e), ok2, c1.mono le2 eb2, c2⟩
end
@[reducible] def funcK (E : Env) (body : Code) (rs : List ResultVar) (args : List SV) (R : List Res → Ent → Prop) : Prop :=
  codeK E body { env := argE 0 args, T := [], gl := [], gs := [] } fun e s => match e with
    | .normal => resL E.cx s rs fun vs => coK E.rc s.T vs fun T vs => outK T vs R
    | .ret => resL E.cx s rs fun vs => coK E.rc s.T vs fun T vs => outK T vs R
    | _ => False
section
variable {B : Base} {h0 : FH} {h : FH} {β : List RV} {w : World} {T : List (Gd × Res)} {gl : List Bool}
def Res.isRow : Res → Prop
  | .row _ _ _ => True
  | .deep _ _ _ _ _ _ _ _ => True
  | .mp _ _ _ => True
  | _ => False
structure AccOK (T : List Res) (acc : List (Nat × Res)) : Prop where
  at_ : ∀ p ∈ acc, T[p.1]? = some p.2 ∧ p.2.isRow
  dup : ∀ (i j : Nat) p q, acc[i]? = some p → acc[j]? = some q → p.1 = q.1 → i = j
def betaOf (β : List RV) (acc : List (Nat × Res)) : List RV := acc.map fun p => β.getD p.1 .no
theorem memA_false : ∀ {acc : List (Nat × Res)} {i : Nat}, memA i acc = false → ∀ p ∈ acc, p.1 ≠ i
  | [], i, _, p, hp => by simp at hp
  | (j, r) :: l, i, h, p, hp => by
    simp only [memA] at h
    split at h
    · cases h
    · rename_i hij
      rcases List.mem_cons.1 hp with rfl | hp
      · exact fun hh => Nat.ne_of_beq_eq_false hij hh.symm
      · exact memA_false h p hp
theorem AccOK.snoc {T : List Res} {acc : List (Nat × Res)} (k : AccOK T acc) {i : Nat} {r : Res} (hT : T[i]? = some r) (hr : r.isRow) (hm : memA i acc = false) : AccOK T (acc ++ [(i, r)]) where
  at_ := by
    intro p hp
    rw [List.mem_append] at hp
    rcases hp with hp | hp
    · exact k.at_ p hp
    · simp at hp; subst hp; exact ⟨hT, hr⟩
  dup := by
    intro a b p q ha hb e
    rcases getElem?_append_some ha with ⟨h1, ha⟩ | ⟨h1, rfl⟩ <;> rcases getElem?_append_some hb with ⟨h2, hb⟩ | ⟨h2, rfl⟩
    · exact k.dup a b p q ha hb e
    · exact (memA_false hm p (List.mem_of_getElem? ha) e).elim
    · exact (memA_false hm q (List.mem_of_getElem? hb) e.symm).elim
    · omega
theorem betaOf_ext (β : List RV) (acc ext : List (Nat × Res)) : Ext (betaOf β acc) (betaOf β (acc ++ ext)) := by
  unfold betaOf; rw [List.map_append]; exact Ext.append _ _
theorem selC_ok (ok : OK B h0 (eff gl T) h β w) {x x' : SC} {acc acc' : List (Nat × Res)} {y : Value} (e : selC T x acc = some (x', acc')) (k : AccOK (eff gl T) acc) (c : CnC h β x y) :
    AccOK (eff gl T) acc' ∧ (∃ ext, acc' = acc ++ ext) ∧ CnC h (betaOf β acc') x' y := by
  unfold selC at e
  split at e
  · cases e; exact ⟨k, ⟨[], by simp⟩, c⟩
  · cases e; exact ⟨k, ⟨[], by simp⟩, c⟩
  · cases e; exact ⟨k, ⟨[], by simp⟩, c⟩
  · cases e; exact ⟨k, ⟨[], by simp⟩, c⟩
  · cases e; exact ⟨k, ⟨[], by simp⟩, c⟩
  · rename_i i
    split at e
    · rename_i t sh l hT
      split at e
      · cases e
      · rename_i hm
        cases e
        have hT' : (eff gl T)[i]? = some (.row t sh l) := by rw [eff_get, ← nthL_eq, hT]; rfl
        rw [snoc_eq]
        refine ⟨k.snoc hT' trivial hm, ⟨_, rfl⟩, ?_⟩
        obtain ⟨u, c, cs⟩ := c
        refine ⟨u, ?_, cs⟩
        unfold betaOf
        rw [List.map_append, lenL_eq, List.getElem?_append_right (by simp)]
        simp [c]
    · rename_i t sh l t2 e2 so own hs hT
      split at e
      · cases e
      · rename_i hm
        cases e
        have hT' : (eff gl T)[i]? = some (.deep t sh l t2 e2 so own hs) := by rw [eff_get, ← nthL_eq, hT]; rfl
        rw [snoc_eq]
        refine ⟨k.snoc hT' trivial hm, ⟨_, rfl⟩, ?_⟩
        obtain ⟨u, c, cs⟩ := c
        refine ⟨u, ?_, cs⟩
        unfold betaOf
        rw [List.map_append, lenL_eq, List.getElem?_append_right (by simp)]
        simp [c]
    · rename_i k2 sh l hT
      split at e
      · cases e
      · rename_i hm
        cases e
        have hT' : (eff gl T)[i]? = some (.mp k2 sh l) := by rw [eff_get, ← nthL_eq, hT]; rfl
        rw [snoc_eq]
        refine ⟨k.snoc hT' trivial hm, ⟨_, rfl⟩, ?_⟩
        obtain ⟨u, c, cs⟩ := c
        refine ⟨u, ?_, cs⟩
        unfold betaOf
        rw [List.map_append, lenL_eq, List.getElem?_append_right (by simp)]
        simp [c]
    · cases e
  · cases e
theorem selCs_ok (ok : OK B h0 (eff gl T) h β w) : ∀ {xs xs' : List SC} {acc acc' : List (Nat × Res)} {ys : List Value}, selCs T xs acc = some (xs', acc') → AccOK (eff gl T) acc → All2 (fun x y => CnC h β x y ∧ oneC y) xs ys →
    AccOK (eff gl T) acc' ∧ (∃ ext, acc' = acc ++ ext) ∧ All2 (fun x y => CnC h (betaOf β acc') x y ∧ oneC y) xs' ys
  | [], xs', acc, acc', [], e, k, _ => by simp [selCs] at e; obtain ⟨rfl, rfl⟩ := e; exact ⟨k, ⟨[], by simp⟩, trivial⟩
  | x :: l, xs', acc, acc', y :: ys, e, k, ⟨c, r⟩ => by
    unfold selCs at e
    split at e
    · rename_i x1 acc1 h1
      split at e
      · rename_i m acc2 h2
        cases e
        obtain ⟨k1, ⟨ext1, rfl⟩, c1⟩ := selC_ok ok h1 k c.1
        obtain ⟨k2, ⟨ext2, rfl⟩, c2⟩ := selCs_ok ok h2 k1 r
        exact ⟨k2, ⟨ext1 ++ ext2, by rw [List.append_assoc]⟩, ⟨c1.mono (FH.le.refl h) (betaOf_ext _ _ _), c.2⟩, c2⟩
      · cases e
    · cases e
theorem selV_ok (ok : OK B h0 (eff gl T) h β w) {x x' : SV} {acc acc' : List (Nat × Res)} {y : Value} (e : selV T x acc = some (x', acc')) (k : AccOK (eff gl T) acc) (c : CnV h β x y) :
    AccOK (eff gl T) acc' ∧ (∃ ext, acc' = acc ++ ext) ∧ CnV h (betaOf β acc') x' y := by
  unfold selV at e
  split at e
  · split at e
    · rename_i y1 acc1 h1
      cases e
      obtain ⟨k1, e1, c1⟩ := selC_ok ok h1 k c.1
      exact ⟨k1, e1, c1, c.2⟩
    · cases e
  · split at e
    · rename_i y1 acc1 h1
      cases e
      obtain ⟨vs, e0, a⟩ := c
      obtain ⟨k1, e1, c1⟩ := selCs_ok ok h1 k a
      exact ⟨k1, e1, vs, e0, c1⟩
    · cases e
  · cases e; exact ⟨k, ⟨[], by simp⟩, c⟩
  · cases e
theorem selVs_ok (ok : OK B h0 (eff gl T) h β w) : ∀ {xs xs' : List SV} {acc acc' : List (Nat × Res)} {ys : List Value}, selVs T xs acc = some (xs', acc') → AccOK (eff gl T) acc → All2 (CnV h β) xs ys →
    AccOK (eff gl T) acc' ∧ (∃ ext, acc' = acc ++ ext) ∧ All2 (CnV h (betaOf β acc')) xs' ys
  | [], xs', acc, acc', [], e, k, _ => by simp [selVs] at e; obtain ⟨rfl, rfl⟩ := e; exact ⟨k, ⟨[], by simp⟩, trivial⟩
  | x :: l, xs', acc, acc', y :: ys, e, k, ⟨c, r⟩ => by
    unfold selVs at e
    split at e
    · rename_i x1 acc1 h1
      split at e
      · rename_i m acc2 h2
        cases e
        obtain ⟨k1, ⟨ext1, rfl⟩, c1⟩ := selV_ok ok h1 k c
        obtain ⟨k2, ⟨ext2, rfl⟩, c2⟩ := selVs_ok ok h2 k1 r
        exact ⟨k2, ⟨ext1 ++ ext2, by rw [List.append_assoc]⟩, CnV.mono (FH.le.refl h) (betaOf_ext _ _ _) c1, c2⟩
      · cases e
    · cases e
theorem sndL_eq : ∀ (l : List (Nat × Res)), sndL l = l.map (·.2)
  | [] => rfl
  | (_, r) :: l => by simp [sndL, sndL_eq l]
theorem OK.pick {T : List Res} (ok : OK B h0 T h β w) {acc : List (Nat × Res)} (k : AccOK T acc) : OK B h0 (sndL acc) h (betaOf β acc) w := by
  have get : ∀ {i : Nat} {r : Res} {v : RV}, (sndL acc)[i]? = some r → (betaOf β acc)[i]? = some v → ∃ p, acc[i]? = some p ∧ T[p.1]? = some r ∧ β[p.1]? = some v ∧ r.isRow := by
    intro i r v e e'
    rw [sndL_eq, List.getElem?_map] at e
    unfold betaOf at e'
    rw [List.getElem?_map] at e'
    cases hp : acc[i]? with
    | none => rw [hp] at e; cases e
    | some p =>
      rw [hp] at e e'
      cases e; cases e'
      obtain ⟨h1, h2⟩ := k.at_ p (List.mem_of_getElem? hp)
      have hlt : p.1 < β.length := by rw [ok.len]; exact (List.getElem?_eq_some_iff.1 h1).1
      exact ⟨p, rfl, h1, by simp [hlt], h2⟩
  exact {
    below := ok.below
    dr := ok.dr
    len := by rw [sndL_eq]; simp [betaOf]
    holds := by
      intro i r v e e'
      obtain ⟨p, _, h1, h2, hr⟩ := get e e'
      have := ok.holds _ _ _ h1 h2
      cases r with
      | row _ _ _ =>
        cases v with
        | row y => exact this
        | _ => exact this.elim
      | deep _ _ _ _ _ _ _ _ =>
        cases v with
        | deep y us => exact this
        | _ => exact this.elim
      | mp _ _ _ =>
        cases v with
        | row y => exact this
        | _ => exact this.elim
      | mpo _ _ _ _ => exact hr.elim
      | it _ _ _ _ => exact hr.elim
      | tlr _ _ _ _ => exact hr.elim
      | blk _ _ => exact hr.elim
      | obj _ _ _ => exact hr.elim
      | gone => exact hr.elim
    own := by
      intro i r v b e l e' hb
      obtain ⟨p, _, h1, h2, _⟩ := get e e'
      exact ok.own _ r v b h1 l h2 hb
    inj := by
      intro i j r r' u v b e l e' l' f f' hb hb'
      obtain ⟨p, p1, h1, h2, _⟩ := get e f
      obtain ⟨q, q1, h3, h4, _⟩ := get e' f'
      exact k.dup i j p q p1 q1 (ok.inj _ _ r r' u v b h1 l h3 l' h2 h4 hb hb')
    hle := ok.hle
    hw := ok.hw
    hg := ok.hg
    kn := ok.kn }
end
def rOne (a : Act) : ResultVar → Sem Value
  | .tmp t => pure (a.tmps.getD t undef)
  | .cell p t => do loadVar t (← asAddr (a.tmps.getD p undef))
theorem resV_ok {cx : Cx} {P : Program} (hc : TisOK P cx.ti) {N : Nat} {B : Base} {h0 : FH} {s : St} {h : FH} {β : List RV} {w : World} {a : Act} (sat : Sat N B h0 s h β w a) {r : ResultVar} {K : SV → Prop} (k : resV cx s r K) :
    ∃ v y, K v ∧ (rOne a r).run P w = .ok y w ∧ CnV h β v y := by
  unfold resV at k
  split at k
  · rename_i t
    split at k
    · rename_i v hv
      obtain ⟨z, q1, q2, _⟩ := sat.env _ _ _ hv
      exact ⟨v, z, k, by simp [rOne, q1], q2 rfl⟩
    · exact k.elim
  · rename_i p t
    split at k
    · rename_i q hq
      obtain ⟨z, q1, q2, _⟩ := sat.env _ _ _ hq
      obtain ⟨e, k1, k2⟩ := loadK_ok hc sat k
      split at k1
      · rename_i v
        obtain ⟨y, r1, r2⟩ := k2 rfl z (q2 rfl).1
        refine ⟨v, y, k1, ?_, r2⟩
        have hz : ∃ ad, z = .pointer (some ad) := by
          have c := (q2 rfl).1
          cases q with
          | v x =>
            unfold loadK at k
            split at k
            · exact k.elim
            · exact k.elim
          | sl _ _ =>
            unfold loadK at k
            split at k
            · exact k.elim
            · exact k.elim
          | fp _ _ => obtain ⟨b, o, _, e, _⟩ := c; exact ⟨_, e⟩
          | own _ _ => obtain ⟨b, _, e⟩ := c; exact ⟨_, e⟩
          | row _ =>
            unfold loadK at k
            split at k
            · exact k.elim
            · exact k.elim
          | rowp _ _ _ _ => obtain ⟨_, g, _, _, e⟩ := c; exact ⟨_, e⟩
          | subp _ _ _ _ _ => obtain ⟨_, _, g, _, _, e⟩ := c; exact ⟨_, e⟩
          | sub _ _ =>
            unfold loadK at k
            split at k
            · exact k.elim
            · exact k.elim
          | one _ _ =>
            unfold loadK at k
            split at k
            · exact k.elim
            · exact k.elim
          | abs _ =>
            unfold loadK at k
            split at k
            · exact k.elim
            · exact k.elim
          | junk =>
            unfold loadK at k
            split at k
            · exact k.elim
            · exact k.elim
        obtain ⟨ad, rfl⟩ := hz
        have hg : a.tmps.getD p undef = .pointer (some ad) := by simp [q1]
        simp only [rOne]
        rw [hg]
        simpa [Instr.loadAt, Instr.sureAddr, asAddr] using r1 w (Gro.refl w)
      · exact k1.elim
    · exact k.elim
theorem resL_ok {cx : Cx} {P : Program} (hc : TisOK P cx.ti) {N : Nat} {B : Base} {h0 : FH} {s : St} {h : FH} {β : List RV} {w : World} {a : Act} (sat : Sat N B h0 s h β w a) : ∀ {rs : List ResultVar} {K : List SV → Prop}, resL cx s rs K →
    ∃ vs ys, K vs ∧ (rs.mapM (rOne a)).run P w = .ok ys w ∧ All2 (CnV h β) vs ys
  | [], K, k => ⟨[], [], k, rfl, trivial⟩
  | r :: l, K, k => by
    obtain ⟨v, y, k1, r1, c1⟩ := resV_ok hc sat k
    obtain ⟨vs, ys, k2, r2, c2⟩ := resL_ok hc sat k1
    refine ⟨v :: vs, y :: ys, k2, ?_, c1, c2⟩
    rw [List.mapM_cons]
    simp only [Sem.run_bind, Sem.run_pure]
    rw [r1]
    simp only [Result.andThen_ok]
    rw [r2]
    rfl
theorem results_eq (fn : Func) (a : Act) : results fn a.tmps = (do let vs ← fn.results.mapM (rOne a); pure (if h : vs.size = 1 then vs[0] else .tuple vs) : Sem Value) := by
  unfold results
  congr 1
theorem results_run {P : Program} {fn : Func} {a : Act} {w : World} {ys : List Value}
    (h : ((tl fn.results).mapM (rOne a)).run P w = .ok ys w) :
    (results fn a.tmps).run P w = .ok (match ys with | [y] => y | _ => .tuple ys.toArray) w := by
  rw [results_eq]
  have e : (fn.results.mapM (rOne a)).run P w = .ok ys.toArray w := by
    cases hr : fn.results with
    | mk l =>
      rw [hr] at h
      have e2 := List.mapM_toArray (m := Sem) (f := (rOne a)) (l := l)
      refine (congrArg (fun x => Sem.run P x w) e2).trans ?_
      simp only [Sem.run_map]
      rw [show Sem.run P (List.mapM (rOne a) l) w = _ from h]; rfl
  simp only [Sem.run_bind]
  rw [e]
  simp only [Result.andThen_ok, Sem.run_pure]
  congr 1
  match ys with
  | [] => rfl
  | [y] => rfl
  | _ :: _ :: _ => simp
@[reducible] def bodyOf (fn : Func) : Code := match fn.body with
  | some c => c
  | none => .skip
theorem leave_marks {P : Program} {fn : Func} {tmps : Array Value} {R : Ending → World → Prop} {N : Nat} {B : World} {h0 : FH} {s : St} {h : FH} {β : List RV} : ∀ (X : List Nat) {w : World}, X.Nodup → (∀ D ∈ X, B.heap.size ≤ D ∧ w.heap[D]? = some (.deferred (some []))) →
    Sat N (Base.of B) h0 s h β w { tmps := tmps, defers := [] } → (∀ w', Sat N (Base.of B) h0 s h β w' { tmps := tmps, defers := [] } → ∃ v, (results fn tmps).run P w' = .ok v w' ∧ R (.returned v) w') →
    LeavesInM Fence.wide 0 P fn tmps R (X.map (fun D => ({ target := .collected D, args := #[] } : Deferred))) .returning w
  | [], w, _, _, sat, fin => fin w sat
  | D :: X, w, hn, hx, sat, fin => by
    obtain ⟨h1, h2⟩ := hx D (by simp)
    have hn := List.nodup_cons.1 hn
    refine ⟨fun hh => (by cases hh), .inl ⟨D, w.putObj D (.deferred none), rfl, run_takeDeferred h2, ?_⟩⟩
    refine leave_marks X hn.2 (fun D' hD' => ?_) ⟨sat.ok.turn h1 (fun k u hk => hk.elim) h2 rfl, sat.env, sat.gs, Dfr.nil rfl, sat.sz, sat.gb, sat.gT⟩ fin
    obtain ⟨g1, g2⟩ := hx D' (by simp [hD'])
    refine ⟨g1, (World.putObj_heap_other ?_).trans g2⟩
    rintro rfl
    exact hn.1 hD'
@[reducible] def sufE : List Value → List SV
  | [] => []
  | v :: l => .c (.v v) :: sufE l
theorem sufE_ok {h : FH} {β : List RV} : ∀ {l : List Value}, (∀ v ∈ l, isOne v = true) → All2 (CnV h β) (sufE l) l
  | [], _ => trivial
  | v :: l, hh => ⟨⟨⟨rfl, isOne_one (hh v (by simp))⟩, isOne_one (hh v (by simp))⟩, sufE_ok fun u hu => hh u (by simp [hu])⟩
theorem All2.append {α β : Type} {R : α → β → Prop} : ∀ {l l' : List α} {m m' : List β}, All2 R l m → All2 R l' m' → All2 R (l ++ l') (m ++ m')
  | [], _, [], _, _, h => h
  | _ :: _, _, _ :: _, _, ⟨a, b⟩, h => ⟨a, All2.append b h⟩
theorem fn_oks {P : Program} {E : Env} (ok : EnvOK P E) {f : FuncId} {fn : Func} {body : Code} {ct : CT} {sv : List SV} (hf : P.funcs[f]? = some fn) (hb : fn.body = some body) (hn : fn.ntmps = E.n) (hle : Nat.ble (lenL ct.ps + lenL sv) E.n = true)
    (k : ∀ d, ct.pre d → ∃ ann, funcK { E with ann := ann } body (tl fn.results) (catL (ofDats ct.ps d) sv) fun T e => (ct.res d).1 = T ∧ (ct.res d).2 = e) : CTS P E.cx.gd f sv ct := by
  intro d vs suf h B hw hg hargs hys hpre
  obtain ⟨ann, kk⟩ := k d hpre
  have ok : EnvOK P { E with ann := ann } := ⟨ok.prog, ok.hc, ok.mkf, ok.mixed, ok.ti, ok.ct, ok.ip, ok.sq, ok.sf⟩
  have hlen : ∀ {ss : List Sh} {d : dens ss}, (ofDats ss d).length = lenL ss := by
    intro ss
    induction ss with
    | nil => intro d; rfl
    | cons s l ih => intro d; simp [ofDats, lenL, ih]
  have hvl : vs.length = lenL ct.ps := by rw [← hargs.length, hlen]
  have hvn : (vs ++ suf).length ≤ E.n := by rw [List.length_append, hvl, ← hys.length, ← lenL_eq sv]; exact Nat.le_of_ble_eq_true hle
  replace hargs : All2 (CnV h []) (catL (ofDats ct.ps d) sv) (vs ++ suf) := by
    rw [catL_eq]; exact hargs.append hys
  generalize catL (ofDats ct.ps d) sv = av at hargs kk
  clear hvl hys
  generalize vs ++ suf = vs at hargs hvn ⊢
  refine callsIn_wide.1 (callsIn_of_wp_marks (F := Fence.wide) (n := 0) hf hb trivial ?_)
  have sat : Sat E.n (Base.of B) h { env := argE 0 av, T := [], gl := [], gs := [] } h [] B { tmps := vs.toArray ++ Array.replicate (fn.ntmps - vs.toArray.size) undef, defers := [] } := by
    have look : ∀ {xs : List SV} {ys : List Value} {n t : Nat} {G : Gd} {e : Ent}, All2 (CnV h []) xs ys → lkE (argE n xs) t = some (G, e) → ∃ y, G = [] ∧ n ≤ t ∧ ys[t - n]? = some y ∧ CnE h [] e y := by
      intro xs
      induction xs with
      | nil => intro ys n t G e _ hh; simp [argE, lkE] at hh
      | cons x xs ih =>
        intro ys n t G e a hh
        cases ys with
        | nil => exact a.elim
        | cons y ys =>
          simp only [argE] at hh
          rw [lkE_cons] at hh
          split at hh
          · rename_i hk; subst hk; cases hh; exact ⟨y, rfl, Nat.le_refl _, by simp, a.1⟩
          · obtain ⟨u, h1, h2, h3, h4⟩ := ih a.2 hh
            refine ⟨u, h1, by omega, ?_, h4⟩
            rw [show t - n = (t - (n + 1)) + 1 by omega]
            simpa using h3
    refine ⟨⟨Bw.refl (Base.of B), Nat.le_refl _, rfl, fun i r v e _ => by simp [eff] at e, fun i r v b e _ _ _ => by simp [eff] at e, fun i j r r' u v b e _ _ _ _ _ _ _ => by simp [eff] at e, FH.le.refl h, hw, fun b o v hh => .inl hh, fun k o hh => hh.elim⟩, ?_, ?_, Dfr.nil rfl, ?_, ?_, ?_⟩
    · intro t G e ht
      obtain ⟨y, rfl, h2, h3, h4⟩ := look hargs ht
      simp only [Nat.sub_zero] at h3
      refine ⟨y, ?_, fun _ => h4, fun hh => by cases hh⟩
      rw [Array.getElem?_append_left (by have := (List.getElem?_eq_some_iff.1 h3).1; simpa using this)]
      simpa using h3
    · intro d i hi; cases hi
    · simp only [Array.size_append, List.size_toArray, Array.size_replicate]; omega
    · intro t G e ht
      obtain ⟨y, rfl, _⟩ := look hargs ht
      rfl
    · intro p hp; cases hp
  refine codeK_ok body ok hg (.inl rfl) (fun _ => rfl) sat kk fun e s' h' β' w' a' B' lb k' le sat' sm => ?_
  have fin : resL E.cx s' (tl fn.results) (fun vs => coK E.rc s'.T vs fun T vs => outK T vs fun T e => (ct.res d).1 = T ∧ (ct.res d).2 = e) →
      LeavesInM Fence.wide 0 P fn a'.tmps (fun en w' => ∃ h' β y, en = .returned y ∧ OK (Base.of B) h (ct.res d).1 h' β w' ∧ CnE h' β (ct.res d).2 y) a'.defers .returning w' := by
    intro kr
    obtain ⟨X, x1, x2, x3⟩ := sat'.defers
    rw [x1]
    have e0 : B'.toWorld = B := lb.1.1
    have ea : B'.al = (Base.of B).al := lb.1.2.1
    have nd : ∀ D ∈ X, B.heap.size ≤ D ∧ w'.heap[D]? = some (.deferred (some [])) := fun D hD => ⟨by have := (x3 D hD).1; rw [ea] at this; exact this, sat'.ok.kn D _ (x3 D hD).2⟩
    have sat1 : Sat E.n (Base.of B) h s' h' β' w' { tmps := a'.tmps, defers := [] } :=
      ⟨sat'.ok.rebase (B' := Base.of B) (by rw [e0]) (by rw [ea]) (fun k o hh => hh.elim), sat'.env, sat'.gs, Dfr.nil rfl, sat'.sz, sat'.gb, sat'.gT⟩
    refine leave_marks X x2 nd sat1 fun w' sat' => ?_
    replace kr := kr
    obtain ⟨vs, ys, k1, r1, c1⟩ := resL_ok ok.ti sat' kr
    obtain ⟨T1, vs1, h1, β1, k1, le1, eb1, ok1, c1⟩ := coK_ok sat'.ok k1 c1
    unfold outK at k1
    split at k1
    · rename_i vs' acc hsel
      obtain ⟨e1, e2⟩ := k1
      obtain ⟨ka, _, c2⟩ := selVs_ok ok1 hsel ⟨fun p hp => by simp at hp, fun i j p q hp => by simp at hp⟩ c1
      refine ⟨_, results_run r1, h1, _, _, rfl, by rw [e1]; exact ok1.pick ka, ?_⟩
      rw [e2]
      match vs', ys, c2 with
      | [], [], c2 => exact ⟨[], rfl, c2⟩
      | [v], [y], c2 => exact c2.1
      | _ :: _ :: _, y :: z :: ys, c2 => exact ⟨_, rfl, c2⟩
    · exact k1.elim
  cases e with
  | normal => exact fin k'
  | ret => exact fin k'
  | exit i => exact k'.elim
  | goto l => exact k'.elim
  | panic ch => exact k'.elim
  | outgrown => exact k'.elim
theorem fn_okx {P : Program} {E : Env} (ok : EnvOK P E) {f : FuncId} {fn : Func} {body : Code} {ct : CT} {suf : List Value} (hsuf : ∀ v ∈ suf, isOne v = true) (hf : P.funcs[f]? = some fn) (hb : fn.body = some body) (hn : fn.ntmps = E.n) (hle : Nat.ble (lenL ct.ps + lenL suf) E.n = true)
    (k : ∀ d, ct.pre d → ∃ ann, funcK { E with ann := ann } body (tl fn.results) (catL (ofDats ct.ps d) (sufE suf)) fun T e => (ct.res d).1 = T ∧ (ct.res d).2 = e) : CTX P E.cx.gd f suf ct := by
  intro d vs h B hw hg hargs hpre
  have hl : lenL (sufE suf) = lenL suf := by
    clear hle k hsuf
    induction suf with
    | nil => rfl
    | cons v l ih => simp [sufE, lenL, ih]
  exact fn_oks ok hf hb hn (by rw [hl]; exact hle) k d vs suf h B hw hg hargs (sufE_ok hsuf) hpre
theorem fn_ok {P : Program} {E : Env} (ok : EnvOK P E) {f : FuncId} {fn : Func} {body : Code} {ct : CT} (hf : P.funcs[f]? = some fn) (hb : fn.body = some body) (hn : fn.ntmps = E.n) (hle : Nat.ble (lenL ct.ps) E.n = true)
    (k : ∀ d, ct.pre d → ∃ ann, funcK { E with ann := ann } body (tl fn.results) (ofDats ct.ps d) fun T e => (ct.res d).1 = T ∧ (ct.res d).2 = e) : CTOK P E.cx.gd f ct :=
  (fn_okx (suf := []) ok (fun v hv => by cases hv) hf hb hn (by simpa [lenL] using hle) (fun d hd => by
    obtain ⟨ann, kk⟩ := k d hd
    exact ⟨ann, by rw [show catL (ofDats ct.ps d) (sufE []) = ofDats ct.ps d by rw [catL_eq]; simp [sufE]]; exact kk⟩)).ok
/-! A function at a time. -/
@[reducible] def lkC : List (Nat × CT) → Nat → Option CT
  | [], _ => none
  | (k, e) :: l, n => cnd (Nat.beq k n) (some e) (lkC l n)
def Met (P : Program) (gd : Nat → Option (Sigma Sh.den)) (f : FuncId) (c : CT) : Prop := CTOK P gd f c ∧ FnIs P f
def AllMet (P : Program) (gd : Nat → Option (Sigma Sh.den)) : List (Nat × CT) → Prop
  | [] => True
  | (k, c) :: l => Met P gd k c ∧ AllMet P gd l
theorem AllMet.get {P : Program} {gd : Nat → Option (Sigma Sh.den)} : ∀ {l : List (Nat × CT)} {f : Nat} {c : CT}, AllMet P gd l → lkC l f = some c → Met P gd f c
  | [], _, _, _, e => by simp [lkC] at e
  | (k, x) :: l, t, i, ⟨h1, h2⟩, e => by
    simp only [lkC, cnd_eq] at e
    split at e
    · rename_i hk
      have : k = t := by simpa using hk
      subst this; cases e; exact h1
    · exact AllMet.get h2 e
@[reducible] def lkI : List (Nat × IP) → Nat → Option IP
  | [], _ => none
  | (k, e) :: l, n => cnd (Nat.beq k n) (some e) (lkI l n)
def MetIP (P : Program) (gd : Nat → Option (Sigma Sh.den)) (f : FuncId) (c : IP) : Prop := IPOK P gd f c ∧ FnIs P f
def AllIP (P : Program) (gd : Nat → Option (Sigma Sh.den)) : List (Nat × IP) → Prop
  | [] => True
  | (k, c) :: l => MetIP P gd k c ∧ AllIP P gd l
theorem AllIP.get {P : Program} {gd : Nat → Option (Sigma Sh.den)} : ∀ {l : List (Nat × IP)} {f : Nat} {c : IP}, AllIP P gd l → lkI l f = some c → MetIP P gd f c
  | [], _, _, _, e => by simp [lkI] at e
  | (k, x) :: l, t, i, ⟨h1, h2⟩, e => by
    simp only [lkI, cnd_eq] at e
    split at e
    · rename_i hk
      have : k = t := by simpa using hk
      subst this; cases e; exact h1
    · exact AllIP.get h2 e
theorem met_ip {P : Program} {cx : Cx} {n : Nat} {cl : List (Nat × CT)} {il : List (Nat × IP)} (mx : P.follows .mixedOrders = true) (ti : TisOK P cx.ti) (cm : AllMet P cx.gd cl) (im : AllIP P cx.gd il) {f : FuncId} {fn : Func} {ct : CT} (hf : P.funcs[f]? = some fn) (hb : fn.body = some (bodyOf fn)) (hn : fn.ntmps = n) (hle : Nat.ble (lenL ct.ps) n = true)
    (hs : fn.body.isSome = true) (hname : (fn.name == "runtime.NumGoroutine") = false)
    {rc : List RC} (k : ∀ d, ct.pre d → ∃ ann, funcK { cx := cx, n := n, ct := lkC cl, ann := ann, ip := lkI il, rc := rc } (bodyOf fn) (tl fn.results) (ofDats ct.ps d) fun T e => (ct.res d).1 = T ∧ (ct.res d).2 = e) : Met P cx.gd f ct :=
  ⟨fn_ok (E := { cx := cx, n := n, ct := lkC cl, ann := fun _ => none, ip := lkI il, rc := rc }) ⟨fun P' e => (by cases e), fun _ _ _ e => (by cases e), fun _ _ e => (by cases e), mx, ti, fun f c h => ⟨(cm.get h).1, (cm.get h).2⟩, fun f c h => ⟨(im.get h).1, (im.get h).2⟩, fun _ _ e => (by cases e), fun _ _ e => (by cases e)⟩ hf hb hn hle k, ⟨fn, hf, hs, hname⟩⟩
theorem met_of {P : Program} {cx : Cx} {n : Nat} {cl : List (Nat × CT)} (mx : P.follows .mixedOrders = true) (ti : TisOK P cx.ti) (cm : AllMet P cx.gd cl) {f : FuncId} {fn : Func} {ct : CT} (hf : P.funcs[f]? = some fn) (hb : fn.body = some (bodyOf fn)) (hn : fn.ntmps = n) (hle : Nat.ble (lenL ct.ps) n = true)
    (hs : fn.body.isSome = true) (hname : (fn.name == "runtime.NumGoroutine") = false)
    (k : ∀ d, ct.pre d → ∃ ann, funcK { cx := cx, n := n, ct := lkC cl, ann := ann } (bodyOf fn) (tl fn.results) (ofDats ct.ps d) fun T e => (ct.res d).1 = T ∧ (ct.res d).2 = e) : Met P cx.gd f ct :=
  ⟨fn_ok (E := { cx := cx, n := n, ct := lkC cl, ann := fun _ => none }) ⟨fun P' e => (by cases e), fun _ _ _ e => (by cases e), fun _ _ e => (by cases e), mx, ti, fun f c h => ⟨(cm.get h).1, (cm.get h).2⟩, fun f c h => (by cases h), fun _ _ e => (by cases e), fun _ _ e => (by cases e)⟩ hf hb hn hle k, ⟨fn, hf, hs, hname⟩⟩
/-! With all that there is. -/
def MkOK (P : Program) (gd : Nat → Option (Sigma Sh.den)) (g : Nat) (m : MK) : Prop :=
  ∀ d h lb, m.pre d → GlobOK gd h → capD h m.ss d lb → (m.f d).rel h (.func (.func g) #[] lb.toArray)
@[reducible] def lkM : List (Nat × MK) → Nat → Option MK
  | [], _ => none
  | (k, e) :: l, n => cnd (Nat.beq k n) (some e) (lkM l n)
def AllMk (P : Program) (gd : Nat → Option (Sigma Sh.den)) : List (Nat × MK) → Prop
  | [] => True
  | (k, c) :: l => MkOK P gd k c ∧ AllMk P gd l
theorem AllMk.get {P : Program} {gd : Nat → Option (Sigma Sh.den)} : ∀ {l : List (Nat × MK)} {f : Nat} {c : MK}, AllMk P gd l → lkM l f = some c → MkOK P gd f c
  | [], _, _, _, e => by simp [lkM] at e
  | (k, x) :: l, t, i, ⟨h1, h2⟩, e => by
    simp only [lkM, cnd_eq] at e
    split at e
    · rename_i hk
      have : k = t := by simpa using hk
      subst this; cases e; exact h1
    · exact AllMk.get h2 e
def MetX (P : Program) (gd : Nat → Option (Sigma Sh.den)) (f : FuncId) (suf : List Value) (c : CT) : Prop := CTX P gd f suf c ∧ FnIs P f
@[reducible] def lkH : List (Nat × Nat × CT) → Nat → Nat → Option CT
  | [], _, _ => none
  | (k, g, e) :: l, n, m => cnd (andB (Nat.beq k n) (Nat.beq g m)) (some e) (lkH l n m)
def AllHc (P : Program) (gd : Nat → Option (Sigma Sh.den)) : List (Nat × Nat × CT) → Prop
  | [] => True
  | (k, g, c) :: l => MetX P gd k [.func (.func g) #[] #[]] c ∧ AllHc P gd l
theorem AllHc.get {P : Program} {gd : Nat → Option (Sigma Sh.den)} : ∀ {l : List (Nat × Nat × CT)} {f g : Nat} {c : CT}, AllHc P gd l → lkH l f g = some c → MetX P gd f [.func (.func g) #[] #[]] c
  | [], _, _, _, _, e => by simp [lkH] at e
  | (k, g', x) :: l, t, g, i, ⟨h1, h2⟩, e => by
    simp only [lkH, cnd_eq, andB_eq] at e
    split at e
    · rename_i hk
      rw [Bool.and_eq_true] at hk
      have e1 : k = t := Nat.eq_of_beq_eq_true hk.1
      have e2 : g' = g := Nat.eq_of_beq_eq_true hk.2
      subst e1; subst e2; cases e; exact h1
    · exact AllHc.get h2 e
@[reducible] def envA (P : Program) (cx : Cx) (n : Nat) (cl : List (Nat × CT)) (il : List (Nat × IP)) (hl : List (Nat × Nat × CT)) (ml : List (Nat × MK)) (rc : List RC) (lits : List Nat) (ann : Nat → Option (St → Ann)) : Env :=
  { cx := cx, n := n, ct := lkC cl, ann := ann, ip := lkI il, rc := rc, lits := lits, P := some P, hc := lkH hl, mkf := lkM ml }
theorem envA_ok {P : Program} {cx : Cx} {n : Nat} {cl : List (Nat × CT)} {il : List (Nat × IP)} {hl : List (Nat × Nat × CT)} {ml : List (Nat × MK)} {rc : List RC} {lits : List Nat} {ann : Nat → Option (St → Ann)}
    (mx : P.follows .mixedOrders = true) (ti : TisOK P cx.ti) (cm : AllMet P cx.gd cl) (im : AllIP P cx.gd il) (hm : AllHc P cx.gd hl) (mm : AllMk P cx.gd ml) : EnvOK P (envA P cx n cl il hl ml rc lits ann) where
  prog := fun P' e => by cases e; rfl
  hc := fun f g c e => hm.get e
  mkf := fun g fx e => mm.get e
  mixed := mx
  ti := ti
  ct := fun f c h => cm.get h
  ip := fun f c h => im.get h
  sq := fun f c h => by cases h
  sf := fun f c h => by cases h
theorem met_all {P : Program} {cx : Cx} {n : Nat} {cl : List (Nat × CT)} {il : List (Nat × IP)} {hl : List (Nat × Nat × CT)} {ml : List (Nat × MK)} {rc : List RC} {lits : List Nat} {suf : List Value}
    (mx : P.follows .mixedOrders = true) (ti : TisOK P cx.ti) (cm : AllMet P cx.gd cl) (im : AllIP P cx.gd il) (hm : AllHc P cx.gd hl) (mm : AllMk P cx.gd ml) {f : FuncId} {fn : Func} {ct : CT} (hf : P.funcs[f]? = some fn) (hb : fn.body = some (bodyOf fn)) (hn : fn.ntmps = n)
    (hle : Nat.ble (lenL ct.ps + lenL suf) n = true) (hs : fn.body.isSome = true) (hname : (fn.name == "runtime.NumGoroutine") = false) (hsuf : ∀ v ∈ suf, isOne v = true)
    (k : ∀ d, ct.pre d → ∃ ann, funcK (envA P cx n cl il hl ml rc lits ann) (bodyOf fn) (tl fn.results) (catL (ofDats ct.ps d) (sufE suf)) fun T e => (ct.res d).1 = T ∧ (ct.res d).2 = e) : MetX P cx.gd f suf ct :=
  ⟨fn_okx (E := envA P cx n cl il hl ml rc lits fun _ => none) (envA_ok mx ti cm im hm mm) hsuf hf hb hn hle k, ⟨fn, hf, hs, hname⟩⟩
/-! Functions whose last argument is an iterator. -/
def MetS (P : Program) (gd : Nat → Option (Sigma Sh.den)) (f : FuncId) (q : SQ) : Prop := (∀ L, CTS P gd f [.c (.abs (.seq P q.ss L))] (q.ct L)) ∧ FnIs P f
@[reducible] def lkQ : List (Nat × SQ) → Nat → Option SQ
  | [], _ => none
  | (k, e) :: l, n => cnd (Nat.beq k n) (some e) (lkQ l n)
def AllQ (P : Program) (gd : Nat → Option (Sigma Sh.den)) : List (Nat × SQ) → Prop
  | [] => True
  | (k, c) :: l => MetS P gd k c ∧ AllQ P gd l
theorem AllQ.get {P : Program} {gd : Nat → Option (Sigma Sh.den)} : ∀ {l : List (Nat × SQ)} {f : Nat} {c : SQ}, AllQ P gd l → lkQ l f = some c → MetS P gd f c
  | [], _, _, _, e => by simp [lkQ] at e
  | (k, x) :: l, t, i, ⟨h1, h2⟩, e => by
    simp only [lkQ, cnd_eq] at e
    split at e
    · rename_i hk
      have : k = t := by simpa using hk
      subst this; cases e; exact h1
    · exact AllQ.get h2 e
/-! Functions whose last argument is a function value. -/
def MetF (P : Program) (gd : Nat → Option (Sigma Sh.den)) (f : FuncId) (q : SF) : Prop := (∀ pre g, CTS P gd f [.c (.abs (.clo P q.ss q.r pre g))] (q.ct pre g)) ∧ FnIs P f
@[reducible] def lkF : List (Nat × SF) → Nat → Option SF
  | [], _ => none
  | (k, e) :: l, n => cnd (Nat.beq k n) (some e) (lkF l n)
def AllF (P : Program) (gd : Nat → Option (Sigma Sh.den)) : List (Nat × SF) → Prop
  | [] => True
  | (k, c) :: l => MetF P gd k c ∧ AllF P gd l
theorem AllF.get {P : Program} {gd : Nat → Option (Sigma Sh.den)} : ∀ {l : List (Nat × SF)} {f : Nat} {c : SF}, AllF P gd l → lkF l f = some c → MetF P gd f c
  | [], _, _, _, e => by simp [lkF] at e
  | (k, x) :: l, t, i, ⟨h1, h2⟩, e => by
    simp only [lkF, cnd_eq] at e
    split at e
    · rename_i hk
      have : k = t := by simpa using hk
      subst this; cases e; exact h1
    · exact AllF.get h2 e
@[reducible] def envF (P : Program) (cx : Cx) (n : Nat) (cl : List (Nat × CT)) (ml : List (Nat × MK)) (fl : List (Nat × SF)) (rc : List RC) (ann : Nat → Option (St → Ann)) : Env :=
  { cx := cx, n := n, ct := lkC cl, ann := ann, rc := rc, P := some P, mkf := lkM ml, sf := lkF fl }
theorem envF_ok {P : Program} {cx : Cx} {n : Nat} {cl : List (Nat × CT)} {ml : List (Nat × MK)} {fl : List (Nat × SF)} {rc : List RC} {ann : Nat → Option (St → Ann)}
    (mx : P.follows .mixedOrders = true) (ti : TisOK P cx.ti) (cm : AllMet P cx.gd cl) (mm : AllMk P cx.gd ml) (fm : AllF P cx.gd fl) : EnvOK P (envF P cx n cl ml fl rc ann) where
  prog := fun P' e => by cases e; rfl
  hc := fun f g c e => by cases e
  mkf := fun g fx e => mm.get e
  mixed := mx
  ti := ti
  ct := fun f c h => cm.get h
  ip := fun f c h => by cases h
  sq := fun f c h => by cases h
  sf := fun f c h => fm.get h
theorem met_sf {P : Program} {cx : Cx} {n : Nat} {cl : List (Nat × CT)} {ml : List (Nat × MK)} {fl : List (Nat × SF)} {rc : List RC} {q : SF}
    (mx : P.follows .mixedOrders = true) (ti : TisOK P cx.ti) (cm : AllMet P cx.gd cl) (mm : AllMk P cx.gd ml) (fm : AllF P cx.gd fl) {f : FuncId} {fn : Func} (hf : P.funcs[f]? = some fn) (hb : fn.body = some (bodyOf fn)) (hn : fn.ntmps = n)
    (hle : ∀ pre g, Nat.ble (lenL (q.ct pre g).ps + 1) n = true) (hs : fn.body.isSome = true) (hname : (fn.name == "runtime.NumGoroutine") = false)
    (k : ∀ pre g d, (q.ct pre g).pre d → ∃ ann, funcK (envF P cx n cl ml fl rc ann) (bodyOf fn) (tl fn.results) (catL (ofDats (q.ct pre g).ps d) [.c (.abs (.clo P q.ss q.r pre g))]) fun T e => ((q.ct pre g).res d).1 = T ∧ ((q.ct pre g).res d).2 = e) : MetF P cx.gd f q :=
  ⟨fun pre g => fn_oks (E := envF P cx n cl ml fl rc fun _ => none) (envF_ok mx ti cm mm fm) hf hb hn (hle pre g) (k pre g), ⟨fn, hf, hs, hname⟩⟩
theorem met_usf {P : Program} {cx : Cx} {n : Nat} {cl : List (Nat × CT)} {ml : List (Nat × MK)} {fl : List (Nat × SF)} {rc : List RC} {ct : CT}
    (mx : P.follows .mixedOrders = true) (ti : TisOK P cx.ti) (cm : AllMet P cx.gd cl) (mm : AllMk P cx.gd ml) (fm : AllF P cx.gd fl) {f : FuncId} {fn : Func} (hf : P.funcs[f]? = some fn) (hb : fn.body = some (bodyOf fn)) (hn : fn.ntmps = n)
    (hle : Nat.ble (lenL ct.ps) n = true) (hs : fn.body.isSome = true) (hname : (fn.name == "runtime.NumGoroutine") = false)
    (k : ∀ d, ct.pre d → ∃ ann, funcK (envF P cx n cl ml fl rc ann) (bodyOf fn) (tl fn.results) (ofDats ct.ps d) fun T e => (ct.res d).1 = T ∧ (ct.res d).2 = e) : Met P cx.gd f ct :=
  ⟨fn_ok (E := envF P cx n cl ml fl rc fun _ => none) (envF_ok mx ti cm mm fm) hf hb hn hle k, ⟨fn, hf, hs, hname⟩⟩
theorem MetX.met {P : Program} {gd : Nat → Option (Sigma Sh.den)} {f : FuncId} {c : CT} (h : MetX P gd f [] c) : Met P gd f c := ⟨h.1.ok, h.2⟩
end Go.Eng
set_option linter.unusedSimpArgs false
set_option linter.unusedVariables false
namespace Go.Eng
open Go Go.RowKit
end Go.Eng
