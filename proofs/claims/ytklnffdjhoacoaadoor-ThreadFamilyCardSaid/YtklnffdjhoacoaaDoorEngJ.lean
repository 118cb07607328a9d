/- The engine, part J: guards, the joining of guarded ways, the value operations together. -/
import Derived.Test.YtklnffdjhoacoaaDoorEngIe
set_option linter.unusedSimpArgs false
set_option linter.unusedVariables false
namespace Go.Eng
open Go Go.RowKit

@[reducible] def nthDst (ops : List Oper) (j : Nat) : Option Nat := match nthL ops j with
  | some o => o.dst
  | none => none

@[reducible] def memL (k : Nat) : List Nat → Bool
  | [] => false
  | x :: l => match Nat.beq k x with
    | true => true
    | false => memL k l
/-- 'L': the slots whose guards are known: there the operation is taken as unguarded. -/
@[reducible] def guardK (L : List Nat) (s : St) (ops : List Oper) (g : Option (Nat × Bool)) (K : Gd → St → Prop) : Prop := match g with
  | none => K [] s
  | some (j, w) => match nthDst ops j with
    | none => False
    | some d => match memL d L with
      | true => match lkE s.env d with
        | some ([], .one (.c (.v (.bool b)))) => match b with
          | true => match w with
            | true => K [] s
            | false => False
          | false => match w with
            | true => False
            | false => K [] s
        | _ => False
      | false => match lkE s.env d with
        | some (G', .one (.c (.v (.bool b)))) => match lkG s.gs d with
          | some i => K ((i, w) :: G') s
          | none => K ((lenL s.gl, w) :: G') { s with gl := snoc s.gl b, gs := (d, lenL s.gl) :: s.gs }
        | _ => False

theorem eff_grow {gl : List Bool} {b : Bool} : ∀ {T : List (Gd × Res)}, (∀ p ∈ T, gbd gl.length p.1 = true) → eff (snoc gl b) T = eff gl T
  | [], _ => rfl
  | (g, r) :: l, h => by
    simp only [eff]
    rw [gv_snoc (h (g, r) (by simp)), eff_grow fun p hp => h p (by simp [hp])]

theorem Sat.grow {N : Nat} {B : Base} {h0 : FH} {s : St} {h : FH} {β : List RV} {w : World} {a : Act} (sat : Sat N B h0 s h β w a) {d : Nat} {G' : Gd} {b : Bool}
    (hd : lkE s.env d = some (G', .one (.c (.v (.bool b))))) : Sat N B h0 { s with gl := snoc s.gl b, gs := (d, lenL s.gl) :: s.gs } h β w a := by
  have hlen : (snoc s.gl b).length = s.gl.length + 1 := by simp [snoc_eq]
  refine ⟨?_, ?_, ?_, sat.defers, sat.sz, ?_, ?_⟩
  · simp only; rw [eff_grow sat.gT]; exact sat.ok
  · intro t G e ht
    obtain ⟨z, q1, q2, q3⟩ := sat.env t G e ht
    have hb := sat.gb t G e ht
    simp only
    rw [gv_snoc hb]
    exact ⟨z, q1, q2, q3⟩
  · intro k i hk
    simp only at hk ⊢
    rw [lkG_cons] at hk
    split at hk
    · rename_i hdk; subst hdk
      cases hk
      rw [lenL_eq]
      exact ⟨G', b, hd, by omega, lb_last⟩
    · obtain ⟨G1, b1, q1, q2, q3⟩ := sat.gs k i hk
      exact ⟨G1, b1, q1, by omega, by rw [lb_snoc q2]; exact q3⟩
  · intro t G e ht
    simp only
    exact gbd_mono (by omega) (sat.gb t G e ht)
  · intro p hp
    simp only
    exact gbd_mono (by omega) (sat.gT p hp)

def asB : Value → Option Bool
  | .bool b => some b
  | _ => none

theorem yielded_slot {ops : Array Oper} {a : Act} {j d : Nat} {z : Value} (hd : nthDst (tl ops) j = some d) (hz : a.tmps[d]? = some z) : yielded ops a.tmps j = asB z := by
  unfold nthDst at hd
  split at hd
  · rename_i o ho
    rw [nthL_eq] at ho
    have : ops[j]? = some o := by cases ops; simpa using ho
    simp only [yielded, this, Option.bind_some, hd, hz]
    cases z <;> rfl
  · cases hd

theorem tl_eq {α : Type} {a : Array α} {l : List α} (h : tl a = l) : a = l.toArray := by
  cases a with | mk m => rw [← h]

theorem guardK_ok {N : Nat} {B : Base} {h0 : FH} {s : St} {h : FH} {β : List RV} {w : World} {a : Act} (sat : Sat N B h0 s h β w a) {ops : Array Oper} {o : Oper} {L : List Nat} {K : Gd → St → Prop}
    (k : guardK L s (tl ops) o.guard K) : ∃ G s', K G s' ∧ Sat N B h0 s' h β w a ∧ Region.wanted o (yielded ops a.tmps) = gv s'.gl G ∧ gbd s'.gl.length G = true := by
  unfold guardK at k
  split at k
  · rename_i hg
    exact ⟨[], s, k, sat, by simp [Region.wanted, hg], rfl⟩
  · rename_i j want hg
    split at k
    · exact k.elim
    rename_i d hd
    split at k
    · split at k
      · rename_i b he
        obtain ⟨z, q1, q2, _⟩ := sat.env _ _ _ he
        have hy := yielded_slot hd q1
        obtain ⟨⟨rfl, _⟩, _⟩ := q2 rfl
        split at k
        · split at k
          · exact ⟨[], s, k, sat, by simp [Region.wanted, hg, hy, asB], rfl⟩
          · exact k.elim
        · split at k
          · exact k.elim
          · exact ⟨[], s, k, sat, by simp [Region.wanted, hg, hy, asB], rfl⟩
      · exact k.elim
    split at k
    · rename_i G' b he
      obtain ⟨z, q1, q2, q3⟩ := sat.env _ _ _ he
      have hy := yielded_slot hd q1
      have wanted : ∀ gl, gv gl G' = gv s.gl G' → lb gl = lb gl → ∀ i, lb gl i = b → Region.wanted o (yielded ops a.tmps) = gv gl ((i, want) :: G') := by
        intro gl e1 _ i e2
        rw [gv_cons, e1]
        simp only [Region.wanted, hg, hy]
        cases hG : gv s.gl G' with
        | true =>
          obtain ⟨⟨rfl, _⟩, _⟩ := q2 hG
          unfold glit
          rw [e2]
          cases b <;> cases want <;> rfl
        | false =>
          have := q3 hG; subst this
          simp [undef, asB]
      have hb := sat.gb _ _ _ he
      split at k
      · rename_i i hi
        obtain ⟨G1, b1, e1, e2, e3⟩ := sat.gs _ _ hi
        have : b1 = b := by rw [he] at e1; cases e1; rfl
        subst this
        refine ⟨_, s, k, sat, wanted s.gl rfl rfl i e3, ?_⟩
        simp only [gbd, andB_eq, Bool.and_eq_true]
        exact ⟨Nat.ble_eq_true_of_le (by omega), hb⟩
      · refine ⟨_, _, k, sat.grow he, wanted _ (gv_snoc hb) rfl _ (by rw [lenL_eq]; exact lb_last), ?_⟩
        have hlen : (snoc s.gl b).length = s.gl.length + 1 := by simp [snoc_eq]
        simp only [gbd, andB_eq, Bool.and_eq_true]
        exact ⟨Nat.ble_eq_true_of_le (by rw [lenL_eq]; omega), gbd_mono (by omega) hb⟩
    · exact k.elim

/-! Joining. -/

@[reducible] def pickV (cb : Bool) (a b : Operand) (x y : Value) (K : Ent → Prop) : Prop := match x with
  | .bool p => match y with
    | .bool q => match a with
      | .const (.bool true) => K (vB (cb || q))
      | _ => match b with
        | .const (.bool false) => K (vB (cb && p))
        | _ => K (vB (if cb = true then p else q))
    | _ => False
  | .int k p => match y with
    | .int k' q => match Nat.beq (ikn k) (ikn k') with
      | true => K (vI k (if cb = true then p else q))
      | false => False
    | _ => False
  | .string p => match y with
    | .string q => K (vS (if cb = true then p else q))
    | _ => False
  | _ => False

@[reducible] def pickK (cx : Cx) (s : St) (G : Gd) (c a b : Operand) (K : Ent → Prop) : Prop := match c with
  | .tmp sc => match getE cx s G c with
    | some (.one (.c (.v (.bool cb)))) => match lkG s.gs sc with
      | some i => match getE cx s ((i, true) :: G) a with
        | some (.one (.c (.v x))) => match getE cx s ((i, false) :: G) b with
          | some (.one (.c (.v y))) => pickV cb a b x y K
          | _ => False
        | _ => False
      | none => match getE cx s G a with
        | some (.one (.c (.v x))) => match getE cx s G b with
          | some (.one (.c (.v y))) => pickV cb a b x y K
          | _ => False
        | _ => False
    | _ => False
  | _ => False

theorem pickV_ok {cb : Bool} {a b : Operand} {x y : Value} {K : Ent → Prop} (k : pickV cb a b x y K) :
    ∃ v, K (.one (.c (.v v))) ∧ oneC v ∧ ((cb = true → ∀ p, a = .const p → x = p) → (cb = false → ∀ p, b = .const p → y = p) → v = if cb = true then x else y) := by
  unfold pickV at k
  split at k
  · rename_i p
    split at k
    · rename_i q
      split at k
      · refine ⟨_, k, oneC_bool _, fun h1 h2 => ?_⟩
        cases cb with
        | true => have := h1 rfl _ rfl; cases this; rfl
        | false => rfl
      · split at k
        · refine ⟨_, k, oneC_bool _, fun h1 h2 => ?_⟩
          cases cb with
          | true => rfl
          | false => have := h2 rfl _ rfl; cases this; rfl
        · exact ⟨_, k, oneC_bool _, fun _ _ => by cases cb <;> rfl⟩
    · exact k.elim
  · split at k
    · split at k
      · rename_i hk
        have := ikn_inj hk; subst this
        exact ⟨_, k, oneC_int _ _, fun _ _ => by cases cb <;> rfl⟩
      · exact k.elim
    · exact k.elim
  · split at k
    · exact ⟨_, k, oneC_string _, fun _ _ => by cases cb <;> rfl⟩
    · exact k.elim
  · exact k.elim

theorem run_pick {P : Program} {a : Act} {w : World} {o : Oper} {c x y : Operand} {cb : Bool} (ho : o.op = .pick c x y) (hc : a.eval c = .bool cb) :
    (execOp a.eval o).run P w = .ok (.value (if cb = true then a.eval x else a.eval y)) w := by
  unfold execOp
  simp only [ho, hc, asBool, Sem.run_bind, Sem.run_pure, Result.andThen_ok]

theorem pickK_ok {cx : Cx} {P : Program} {N : Nat} {B : Base} {h0 : FH} {s : St} {h : FH} {β : List RV} {w : World} {a : Act} (sat : Sat N B h0 s h β w a) (hg : GlobOK cx.gd h)
    {G : Gd} {o : Oper} {c x y : Operand} {K : Ent → Prop} (ho : o.op = .pick c x y) (k : pickK cx s G c x y K) :
    ∃ e, K e ∧ (gv s.gl G = true → ∃ v, (execOp a.eval o).run P w = .ok (.value v) w ∧ CnE h β e v) := by
  unfold pickK at k
  split at k
  · rename_i sc
    split at k
    · rename_i cb hcb
      have hcv : gv s.gl G = true → a.eval (.tmp sc) = .bool cb := fun hG => (getE_ok sat hg hG hcb).1.1
      -- the common end
      have fin : ∀ {Ga Gb : Gd} {u v : Value}, (gv s.gl G = true → cb = true → gv s.gl Ga = true) → (gv s.gl G = true → cb = false → gv s.gl Gb = true) →
          getE cx s Ga x = some (.one (.c (.v u))) → getE cx s Gb y = some (.one (.c (.v v))) → pickV cb x y u v K →
          ∃ e, K e ∧ (gv s.gl G = true → ∃ v, (execOp a.eval o).run P w = .ok (.value v) w ∧ CnE h β e v) := by
        intro Ga Gb u v ha hb hu hv kk
        obtain ⟨r, k1, k2, k3⟩ := pickV_ok kk
        refine ⟨_, k1, fun hG => ⟨_, run_pick ho (hcv hG), ?_⟩⟩
        have eu : cb = true → a.eval x = u := fun hc => (getE_ok sat hg (ha hG hc) hu).1.1
        have ev : cb = false → a.eval y = v := fun hc => (getE_ok sat hg (hb hG hc) hv).1.1
        have hr := k3 (fun hc p hp => by rw [← eu hc, hp]; rfl) (fun hc p hp => by rw [← ev hc, hp]; rfl)
        have : (if cb = true then a.eval x else a.eval y) = r := by
          rw [hr]
          cases cb with
          | true => simpa using eu rfl
          | false => simpa using ev rfl
        rw [this]
        exact ⟨⟨rfl, k2⟩, k2⟩
      split at k
      · rename_i i hi
        obtain ⟨G1, b1, e1, e2, e3⟩ := sat.gs _ _ hi
        have hb1 : b1 = cb := by
          simp only [getE, e1] at hcb
          split at hcb
          · cases hcb; rfl
          · cases hcb
        subst hb1
        split at k
        · rename_i u hu
          split at k
          · rename_i v hv
            refine fin (fun hG hc => ?_) (fun hG hc => ?_) hu hv k
            · rw [gv_cons, hG, Bool.and_true]; unfold glit; rw [e3, hc]
            · rw [gv_cons, hG, Bool.and_true]; unfold glit; rw [e3, hc]; rfl
          · exact k.elim
        · exact k.elim
      · split at k
        · rename_i u hu
          split at k
          · rename_i v hv
            exact fin (fun hG _ => hG) (fun hG _ => hG) hu hv k
          · exact k.elim
        · exact k.elim
    · exact k.elim
  · exact k.elim

/-! The value operations. -/

@[reducible] def pureK (cx : Cx) (s : St) (G : Gd) (o : Oper) (K : Ent → Prop) : Prop := match o.op with
  | .move x => match getE cx s G x with
    | some e => K e
    | none => False
  | .assign x => match getE cx s G x with
    | some e => K e
    | none => False
  | .binOp op t x y _ => match getE cx s G x with
    | some (.one (.c (.v u))) => match getE cx s G y with
      | some (.one (.c (.v v))) => match guardFree u with
        | true => binV cx s.gl G op t u v K
        | false => False
      | _ => False
    | some (.one (.agg xs)) => match getE cx s G y with
      | some (.one v) => eqK cx op t (.agg xs) v K
      | _ => False
    | some (.one (.dat sh d)) => match getE cx s G y with
      | some (.one v) => eqK cx op t (.dat sh d) v K
      | _ => False
    | _ => False
  | .unOp op _ x => match getE cx s G x with
    | some (.one (.c (.v u))) => unK s.gl G op u K
    | _ => False
  | .convert src dst x => match getE cx s G x with
    | some (.one (.c (.v u))) => convK cx s.gl G src dst u K
    | _ => False
  | .load t x => match getE cx s G x with
    | some (.one (.c p)) => loadK cx s G t p K
    | _ => False
  | .fieldAddr t x f => match getE cx s G x with
    | some (.one (.c p)) => fieldAddrK cx s G t p f K
    | _ => False
  | .field t x f => match getE cx s G x with
    | some (.one v) => fieldK cx t v f K
    | _ => False
  | .indexAddr t x i => match getE cx s G x with
    | some (.one (.c p)) => match getE cx s G i with
      | some (.one (.c (.v (.int _ n)))) => indexAddrK cx s G t p n K
      | _ => False
    | _ => False
  | .index t x i => match getE cx s G x with
    | some (.one v) => match getE cx s G i with
      | some (.one (.c (.v (.int _ n)))) => indexK cx s G t v n K
      | _ => False
    | _ => False
  | .extract x i => match getE cx s G x with
    | some (.tup xs) => match nthL xs i with
      | some v => K (.one v)
      | none => False
    | _ => False
  | .nilCheck x => match getE cx s G x with
    | some (.one (.c (.own r off))) => K (.one (.c (.own r off)))
    | some (.one (.c (.rowp r j sz off))) => K (.one (.c (.rowp r j sz off)))
    | some (.one (.c (.fp sh d))) => K (.one (.c (.fp sh d)))
    | _ => False
  | .slice t x lo hi mx => match mx with
    | none => match getE cx s G x with
      | some (.one v) => sliceK cx s G t v lo hi K
      | _ => False
    | some _ => False
  | .build t parts => buildK cx s G t (tl parts) K
  | .pick c a b => pickK cx s G c a b K
  | .call c => match c.callee with
    | .builtin .len => match tl c.args with
      | [x] => match tl c.argTypes with
        | [t] => match getE cx s G x with
          | some (.one v) => lenK cx s G t v K
          | _ => False
        | _ => False
      | _ => False
    | _ => False
  | _ => False

theorem pureK_ok {cx : Cx} {P : Program} (hc : TisOK P cx.ti) {N : Nat} {B : Base} {h0 : FH} {s : St} {h : FH} {β : List RV} {w : World} {a : Act} (sat : Sat N B h0 s h β w a) (hg : GlobOK cx.gd h)
    {G : Gd} {o : Oper} {K : Ent → Prop} (k : pureK cx s G o K) :
    ∃ e, K e ∧ (gv s.gl G = true → ∃ v, (execOp a.eval o).run P w = .ok (.value v) w ∧ CnE h β e v) := by
  have get : ∀ {G' : Gd} {x : Operand} {e : Ent}, gv s.gl G' = true → getE cx s G' x = some e → CnE h β e (a.eval x) := fun hG e => getE_ok sat hg hG e
  unfold pureK at k
  split at k
  · rename_i x ho
    split at k
    · rename_i e he
      exact ⟨e, k, fun hG => ⟨_, by simp [execOp, ho], get hG he⟩⟩
    · exact k.elim
  · rename_i x ho
    split at k
    · rename_i e he
      exact ⟨e, k, fun hG => ⟨_, by simp [execOp, ho], get hG he⟩⟩
    · exact k.elim
  · rename_i op t x y yt ho
    split at k
    · rename_i u hu
      split at k
      · rename_i v hv
        split at k
        · rename_i hf
          obtain ⟨r, k1, k2, k3⟩ := binV_ok (P := P) hc k
          refine ⟨_, k1, fun hG => ⟨r, ?_, ⟨rfl, k2⟩, k2⟩⟩
          have e1 : a.eval x = u := (get hG hu).1.1
          have e2 : a.eval y = v := (get hG hv).1.1
          simp only [execOp, ho, e1, e2, Sem.run_bind, eqGuard_free P op t x y hf, Result.andThen_ok, k3 hG w, Sem.run_pure]
        · exact k.elim
      · exact k.elim
    · rename_i xs hu
      split at k
      · rename_i v hv
        obtain ⟨r, k1, k2⟩ := eqK_ok (h := h) (β := β) hc k
        refine ⟨_, k1, fun hG => ⟨.bool r, ?_, ⟨rfl, rfl, rfl⟩, rfl, rfl⟩⟩
        obtain ⟨g1, g2⟩ := k2 _ _ x y (get hG hu) (get hG hv) w
        simp only [execOp, ho, Sem.run_bind, g1, g2, Result.andThen_ok, Sem.run_pure]
      · exact k.elim
    · rename_i sh d hu
      split at k
      · rename_i v hv
        obtain ⟨r, k1, k2⟩ := eqK_ok (h := h) (β := β) hc k
        refine ⟨_, k1, fun hG => ⟨.bool r, ?_, ⟨rfl, rfl, rfl⟩, rfl, rfl⟩⟩
        obtain ⟨g1, g2⟩ := k2 _ _ x y (get hG hu) (get hG hv) w
        simp only [execOp, ho, Sem.run_bind, g1, g2, Result.andThen_ok, Sem.run_pure]
      · exact k.elim
    · exact k.elim
  · rename_i op t x ho
    split at k
    · rename_i u hu
      obtain ⟨r, k1, k2, k3⟩ := unK_ok (P := P) k
      refine ⟨_, k1, fun hG => ⟨r, ?_, ⟨rfl, k2⟩, k2⟩⟩
      have e1 : a.eval x = u := (get hG hu).1.1
      simp only [execOp, ho, e1, Sem.run_bind, k3 hG w, Result.andThen_ok, Sem.run_pure]
    · exact k.elim
  · rename_i src dst x ho
    split at k
    · rename_i u hu
      obtain ⟨r, k1, k2, k3⟩ := convK_ok (P := P) hc k
      refine ⟨_, k1, fun hG => ⟨r, ?_, ⟨rfl, k2⟩, k2⟩⟩
      have e1 : a.eval x = u := (get hG hu).1.1
      simp only [execOp, ho, e1, Sem.run_bind, k3 hG w, Result.andThen_ok, Sem.run_pure]
    · exact k.elim
  · rename_i t x ho
    split at k
    · rename_i p hp
      obtain ⟨e, k1, k2⟩ := loadK_ok hc sat k
      refine ⟨e, k1, fun hG => ?_⟩
      obtain ⟨y, r1, r2⟩ := k2 hG _ (get hG hp).1
      exact ⟨y, by simp only [execOp, ho, Sem.run_bind, r1 w (Gro.refl w), Result.andThen_ok, Sem.run_pure], r2⟩
    · exact k.elim
  · rename_i t x f ho
    split at k
    · rename_i p hp
      obtain ⟨e, k1, k2⟩ := fieldAddrK_ok (P := P) (h := h) (β := β) hc k
      refine ⟨e, k1, fun hG => ?_⟩
      obtain ⟨y, r1, r2⟩ := k2 hG _ (get hG hp).1
      exact ⟨y, by simp only [execOp, ho, Sem.run_bind, r1, Result.andThen_ok, Sem.run_pure], r2⟩
    · exact k.elim
  · rename_i t x f ho
    split at k
    · rename_i v hv
      obtain ⟨e, k1, k2⟩ := fieldK_ok (P := P) (s := s) (G := G) (h := h) (β := β) hc k
      refine ⟨e, k1, fun hG => ?_⟩
      obtain ⟨y, r1, r2⟩ := k2 hG w _ (get hG hv)
      exact ⟨y, by simp only [execOp, ho, Sem.run_bind, r1, Result.andThen_ok, Sem.run_pure], r2⟩
    · exact k.elim
  · rename_i t x i ho
    split at k
    · rename_i p hp
      split at k
      · rename_i ik n hi
        obtain ⟨e, k1, k2⟩ := indexAddrK_ok (ik := ik) hc sat k
        refine ⟨e, k1, fun hG => ?_⟩
        obtain ⟨y, r1, r2⟩ := k2 hG _ (get hG hp).1
        have e1 : a.eval i = .int ik n := (get hG hi).1.1
        exact ⟨y, by simp only [execOp, ho, e1, Sem.run_bind, r1 w, Result.andThen_ok, Sem.run_pure], r2⟩
      · exact k.elim
    · exact k.elim
  · rename_i t x i ho
    split at k
    · rename_i v hv
      split at k
      · rename_i ik n hi
        obtain ⟨e, k1, k2⟩ := indexK_ok (P := P) (ik := ik) (h := h) (β := β) hc k
        refine ⟨e, k1, fun hG => ?_⟩
        obtain ⟨y, r1, r2⟩ := k2 hG w _ (get hG hv)
        have e1 : a.eval i = .int ik n := (get hG hi).1.1
        exact ⟨y, by simp only [execOp, ho, e1, Sem.run_bind, r1, Result.andThen_ok, Sem.run_pure], r2⟩
      · exact k.elim
    · exact k.elim
  · rename_i x i ho
    split at k
    · rename_i xs hx
      split at k
      · rename_i v hv
        refine ⟨_, k, fun hG => ?_⟩
        obtain ⟨ys, e1, hall⟩ := get hG hx
        obtain ⟨y, hy, hvy⟩ := hall.get (show xs[i]? = some v by rw [← nthL_eq]; exact hv)
        exact ⟨y, by simp [execOp, ho, e1, Instr.extract, hy], hvy⟩
      · exact k.elim
    · exact k.elim
  · rename_i x ho
    split at k
    · rename_i r off hx
      refine ⟨_, k, fun hG => ⟨a.eval x, ?_, get hG hx⟩⟩
      obtain ⟨⟨b, hb, e1⟩, _⟩ := get hG hx
      simp only [execOp, ho, e1]; rfl
    · rename_i r j sz off hx
      refine ⟨_, k, fun hG => ⟨a.eval x, ?_, get hG hx⟩⟩
      obtain ⟨⟨v, g, hb, hg', e1⟩, _⟩ := get hG hx
      simp only [execOp, ho, e1]; rfl
    · rename_i sh d hx
      refine ⟨_, k, fun hG => ⟨a.eval x, ?_, get hG hx⟩⟩
      obtain ⟨⟨b, o', cs, e1, _⟩, _⟩ := get hG hx
      simp only [execOp, ho, e1]; rfl
    · exact k.elim
  · rename_i t x lo hi mx ho
    split at k
    · split at k
      · rename_i v hv
        obtain ⟨e, k1, k2⟩ := sliceK_ok hc sat hg k
        refine ⟨e, k1, fun hG => ?_⟩
        obtain ⟨y, r1, r2⟩ := k2 hG _ (get hG hv)
        exact ⟨y, by simp only [execOp, ho, Option.map_none, Sem.run_bind, r1, Result.andThen_ok, Sem.run_pure], r2⟩
      · exact k.elim
    · exact k.elim
  · rename_i t parts ho
    obtain ⟨e, k1, k2⟩ := buildK_ok hc sat hg k
    refine ⟨e, k1, fun hG => ?_⟩
    obtain ⟨y, r1, r2⟩ := k2 hG
    exact ⟨y, by simp only [execOp, ho, Sem.run_bind, r1, Result.andThen_ok, Sem.run_pure], r2⟩
  · rename_i c x y ho
    exact pickK_ok sat hg ho k
  · rename_i c ho
    split at k
    · rename_i hcal
      split at k
      · rename_i x hargs
        split at k
        · rename_i t htys
          split at k
          · rename_i v hv
            obtain ⟨e, k1, k2⟩ := lenK_ok (ty := o.type) hc sat k
            refine ⟨e, k1, fun hG => ?_⟩
            obtain ⟨y, r1, r2⟩ := k2 hG _ (get hG hv)
            refine ⟨y, ?_, r2⟩
            have ea : c.args = #[x] := tl_eq hargs
            have et : c.argTypes = #[t] := tl_eq htys
            simp [execOp, ho, resolve, hcal, ea, et, invoke, builtin, r1 w]
          · exact k.elim
        · exact k.elim
      · exact k.elim
    · exact k.elim
  · exact k.elim

/-! Operations whose value is the same in every world that has only grown. -/

@[reducible] def isFloat0 : Op → Bool
  | .move _ => true
  | .assign _ => true
  | .pick .. => true
  | .extract .. => true
  | .load .. => true
  | _ => false

@[reducible] def isFloat : Op → Bool
  | .binOp .. => true
  | .unOp .. => true
  | .indexAddr .. => true
  | .fieldAddr .. => true
  | .call c => match c.callee with
    | .builtin .len => true
    | _ => false
  | o => isFloat0 o
@[reducible] def isLoad : Op → Bool
  | .load .. => true
  | _ => false

theorem float_ext {P : Program} {ρ : Operand → Value} {o : Oper} {w w' : World} {v : Value} (hf : isFloat0 o.op = true) (hl : ∀ t x, o.op ≠ .load t x) (r : (execOp ρ o).run P w = .ok (.value v) w) :
    (execOp ρ o).run P w' = .ok (.value v) w' := by
  cases ho : o.op with
  | move x => simp only [execOp, ho, Sem.run_pure] at r ⊢; cases r; rfl
  | assign x => simp only [execOp, ho, Sem.run_pure] at r ⊢; cases r; rfl
  | load t x => exact absurd ho (hl t x)
  | pick c x y =>
    simp only [execOp, ho, Sem.run_bind] at r ⊢
    cases hc : ρ c <;> simp [hc, asBool, stuck] at r ⊢ <;> exact r
  | extract x i =>
    simp only [execOp, ho, Sem.run_bind, Instr.extract] at r ⊢
    cases hc : ρ x with
    | tuple vs =>
      rw [hc] at r
      cases hv : vs[i]? with
      | some u => simp [hv] at r ⊢; exact r
      | none => simp [hv, stuck] at r
    | _ => rw [hc] at r; simp [stuck] at r
  | _ => rw [ho] at hf; simp [isFloat0] at hf

theorem pureK_ext {cx : Cx} {P : Program} (hc : TisOK P cx.ti) {N : Nat} {B : Base} {h0 : FH} {s : St} {h : FH} {β : List RV} {w : World} {a : Act} (sat : Sat N B h0 s h β w a) (hg : GlobOK cx.gd h)
    {G : Gd} {o : Oper} {K : Ent → Prop} (hf : isFloat o.op = true) (k : pureK cx s G o K) :
    ∃ e, K e ∧ (gv s.gl G = true → ∃ v, (∀ w', (isLoad o.op = true → Gro w w') → (execOp a.eval o).run P w' = .ok (.value v) w') ∧ CnE h β e v) := by
  have get : ∀ {G' : Gd} {x : Operand} {e : Ent}, gv s.gl G' = true → getE cx s G' x = some e → CnE h β e (a.eval x) := fun hG e => getE_ok sat hg hG e
  have k0 := k
  by_cases h0f : isFloat0 o.op = true ∧ ∀ t x, o.op ≠ .load t x
  · obtain ⟨e, k1, k2⟩ := pureK_ok hc sat hg k
    refine ⟨e, k1, fun hG => ?_⟩
    obtain ⟨v, r, c⟩ := k2 hG
    exact ⟨v, fun w' _ => float_ext h0f.1 h0f.2 r, c⟩
  · cases ho : o.op with
    | load t x =>
      simp only [pureK, ho] at k
      split at k
      · rename_i p hp
        obtain ⟨e, k1, k2⟩ := loadK_ok hc sat k
        refine ⟨e, k1, fun hG => ?_⟩
        obtain ⟨y, r1, r2⟩ := k2 hG _ (getE_ok sat hg hG hp).1
        exact ⟨y, fun w' gro => by simp only [execOp, ho, Sem.run_bind, r1 w' (gro rfl), Result.andThen_ok, Sem.run_pure], r2⟩
      · exact k.elim
    | binOp op t x y yt =>
      simp only [pureK, ho] at k
      split at k
      · rename_i u hu
        split at k
        · rename_i v hv
          split at k
          · rename_i hf
            obtain ⟨r, k1, k2, k3⟩ := binV_ok (P := P) hc k
            refine ⟨_, k1, fun hG => ⟨r, fun w' _ => ?_, ⟨rfl, k2⟩, k2⟩⟩
            have e1 : a.eval x = u := (get hG hu).1.1
            have e2 : a.eval y = v := (get hG hv).1.1
            simp only [execOp, ho, e1, e2, Sem.run_bind, eqGuard_free P op t x y hf, Result.andThen_ok, k3 hG w', Sem.run_pure]
          · exact k.elim
        · exact k.elim
      · rename_i xs hu
        split at k
        · rename_i v hv
          obtain ⟨r, k1, k2⟩ := eqK_ok (h := h) (β := β) hc k
          refine ⟨_, k1, fun hG => ⟨.bool r, fun w' _ => ?_, ⟨rfl, rfl, rfl⟩, rfl, rfl⟩⟩
          obtain ⟨g1, g2⟩ := k2 _ _ x y (get hG hu) (get hG hv) w'
          simp only [execOp, ho, Sem.run_bind, g1, g2, Result.andThen_ok, Sem.run_pure]
        · exact k.elim
      · rename_i sh d hu
        split at k
        · rename_i v hv
          obtain ⟨r, k1, k2⟩ := eqK_ok (h := h) (β := β) hc k
          refine ⟨_, k1, fun hG => ⟨.bool r, fun w' _ => ?_, ⟨rfl, rfl, rfl⟩, rfl, rfl⟩⟩
          obtain ⟨g1, g2⟩ := k2 _ _ x y (get hG hu) (get hG hv) w'
          simp only [execOp, ho, Sem.run_bind, g1, g2, Result.andThen_ok, Sem.run_pure]
        · exact k.elim
      · exact k.elim
    | unOp op t x =>
      simp only [pureK, ho] at k
      split at k
      · rename_i u hu
        obtain ⟨r, k1, k2, k3⟩ := unK_ok (P := P) k
        refine ⟨_, k1, fun hG => ⟨r, fun w' _ => ?_, ⟨rfl, k2⟩, k2⟩⟩
        have e1 : a.eval x = u := (get hG hu).1.1
        simp only [execOp, ho, e1, Sem.run_bind, k3 hG w', Result.andThen_ok, Sem.run_pure]
      · exact k.elim
    | fieldAddr t x f =>
      simp only [pureK, ho] at k
      split at k
      · rename_i p hp
        obtain ⟨e, k1, k2⟩ := fieldAddrK_ok (P := P) (h := h) (β := β) hc k
        refine ⟨e, k1, fun hG => ?_⟩
        obtain ⟨y, r1, r2⟩ := k2 hG _ (get hG hp).1
        exact ⟨y, fun w' _ => by simp only [execOp, ho, Sem.run_bind, r1 w', Result.andThen_ok, Sem.run_pure], r2⟩
      · exact k.elim
    | indexAddr t x i =>
      simp only [pureK, ho] at k
      split at k
      · rename_i p hp
        split at k
        · rename_i ik n hi
          obtain ⟨e, k1, k2⟩ := indexAddrK_ok (ik := ik) hc sat k
          refine ⟨e, k1, fun hG => ?_⟩
          obtain ⟨y, r1, r2⟩ := k2 hG _ (get hG hp).1
          have e1 : a.eval i = .int ik n := (get hG hi).1.1
          exact ⟨y, fun w' _ => by simp only [execOp, ho, e1, Sem.run_bind, r1 w', Result.andThen_ok, Sem.run_pure], r2⟩
        · exact k.elim
      · exact k.elim
    | call c =>
      simp only [pureK, ho] at k
      split at k
      · rename_i hcal
        split at k
        · rename_i x hargs
          split at k
          · rename_i t htys
            split at k
            · rename_i v hv
              obtain ⟨e, k1, k2⟩ := lenK_ok (ty := o.type) hc sat k
              refine ⟨e, k1, fun hG => ?_⟩
              obtain ⟨y, r1, r2⟩ := k2 hG _ (get hG hv)
              refine ⟨y, fun w' _ => ?_, r2⟩
              have ea : c.args = #[x] := tl_eq hargs
              have et : c.argTypes = #[t] := tl_eq htys
              simp [execOp, ho, resolve, hcal, ea, et, invoke, builtin, r1 w']
            · exact k.elim
          · exact k.elim
        · exact k.elim
      · exact k.elim
    | _ =>
      exact absurd ⟨(congrArg isFloat0 ho).trans ((congrArg isFloat ho).symm.trans hf), fun t x hh => by rw [ho] at hh; cases hh⟩ h0f
end Go.Eng
