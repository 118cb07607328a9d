/- The engine, part H: all operations that give a value and change no memory. -/
import Derived.Test.YtklnffdjhoacoaaDoorEngG
set_option linter.unusedSimpArgs false
set_option linter.unusedVariables false
namespace Go.Eng
open Go Go.RowKit

@[reducible] def unK (gl : List Bool) (G : Gd) (op : UnOp) (x : Value) (K : Ent → Prop) : Prop := match op with
  | .not => match x with
    | .bool b => K (vB (!b))
    | _ => False
  | .neg => match x with
    | .int k n => arith gl G k (0 - n) K
    | _ => False
  | _ => False

theorem unK_ok {gl : List Bool} {G : Gd} {op : UnOp} {x : Value} {K : Ent → Prop} {P : Program} (k : unK gl G op x K) : Good gl G P (Op.unary op x) K := by
  unfold unK at k
  split at k
  · split at k
    · exact ⟨_, k, oneC_bool _, fun _ w => rfl⟩
    · exact k.elim
  · split at k
    · exact arith_ok k fun _ w => rfl
    · exact k.elim
  · exact k.elim

@[reducible] def descOf (cx : Cx) (t : TypeId) : TypeDesc := match lkT cx.ti t with
  | some i => i.desc
  | none => .invalid

@[reducible] def convK (cx : Cx) (gl : List Bool) (G : Gd) (src dst : TypeId) (x : Value) (K : Ent → Prop) : Prop := match lkT cx.ti src with
  | none => False
  | some _ => match descOf cx dst with
    | .int k => match x with
      | .int _ n => arith gl G k n K
      | _ => False
    | .string => match x with
      | .string b => K (vS b)
      | _ => False
    | _ => False

theorem descOf_und {cx : Cx} {P : Program} (hc : TisOK P cx.ti) {t : TypeId} {d : TypeDesc} (h : descOf cx t = d) (hd : d ≠ .invalid) (hs : isSt d = false := by rfl) : P.underlying t = some d := by
  unfold descOf at h
  split at h
  · rename_i i hi
    exact (hc.get hi).und' h hs
  · exact (hd h.symm).elim

theorem convK_ok {cx : Cx} {P : Program} (hc : TisOK P cx.ti) {gl : List Bool} {G : Gd} {src dst : TypeId} {x : Value} {K : Ent → Prop} (k : convK cx gl G src dst x K) :
    Good gl G P (convert src dst x) K := by
  unfold convK at k
  split at k
  · exact k.elim
  rename_i i hi
  obtain ⟨d0, hs, _⟩ := (hc.get hi).und
  split at k
  · rename_i kd hd
    have hu := descOf_und hc hd (by simp)
    split at k
    · refine arith_ok k fun _ w => ?_
      simp [convert, run_underlying hs, run_underlying hu, Conv.intToInt]
    · exact k.elim
  · rename_i hd
    have hu := descOf_und hc hd (by simp)
    split at k
    · refine ⟨_, k, oneC_string _, fun _ w => ?_⟩
      simp only [convert, Sem.run_bind, run_underlying hs, run_underlying hu, Result.andThen_ok]
      rfl
    · exact k.elim
  · exact k.elim

@[reducible] def lenK (cx : Cx) (s : St) (G : Gd) (t : TypeId) (x : SV) (K : Ent → Prop) : Prop := match descOf cx t with
  | .slice _ => match x with
    | .c (.sl _ l) => K (vI .i64 l.length)
    | .c (.row r) => match nthL s.T r with
      | some (Gr, .row _ _ l) => match gsub Gr G with
        | true => K (vI .i64 l.length)
        | false => False
      | _ => False
    | .c (.v (.slice _ n _)) => K (vI .i64 n)
    | _ => False
  | .string => match x with
    | .c (.v (.string b)) => K (vI .i64 b.size)
    | _ => False
  | .array n _ => K (vI .i64 n)
  | _ => False

theorem lenK_ok {cx : Cx} {P : Program} (hc : TisOK P cx.ti) {N : Nat} {B : Base} {h0 : FH} {s : St} {h : FH} {β : List RV} {w : World} {a : Act} (sat : Sat N B h0 s h β w a)
    {G : Gd} {t ty : TypeId} {x : SV} {K : Ent → Prop} (k : lenK cx s G t x K) :
    ∃ e, K e ∧ (gv s.gl G = true → ∀ xv, CnV h β x xv → ∃ y, (∀ w, (Builtin.len_ #[t] ty #[xv]).run P w = .ok y w) ∧ CnE h β e y) := by
  have int : ∀ n : Nat, CnE h β (vI .i64 (n : Int)) (goInt n) := fun n => ⟨⟨rfl, oneC_int _ _⟩, oneC_int _ _⟩
  unfold lenK at k
  split at k
  · rename_i el hd
    have hu := descOf_und hc hd (by simp)
    split at k
    · rename_i sh l
      refine ⟨_, k, fun hG xv hx => ?_⟩
      rcases hx.1 with ⟨rfl, rfl⟩ | ⟨_, _, rfl, rfl, _⟩ | ⟨b, off, cap, rfl, _⟩
      · exact ⟨_, fun _ => by simp [Builtin.len_, run_underlying hu], int 0⟩
      · exact ⟨_, fun _ => by simp [Builtin.len_, run_underlying hu], int 0⟩
      · exact ⟨_, fun _ => by simp [Builtin.len_, run_underlying hu], int _⟩
    · rename_i r
      split at k
      · rename_i Gr tt sh l hT
        split at k
        · rename_i hs
          refine ⟨_, k, fun hG xv hx => ?_⟩
          rcases sat.ok.holds r _ _ (effres hT (gsub_gv hs hG)) hx.1 with ⟨rfl, rfl⟩ | ⟨_, rfl, rfl⟩ | ⟨g, cap, cur, rfl, _⟩
          · exact ⟨_, fun _ => by simp [Builtin.len_, run_underlying hu], int 0⟩
          · exact ⟨_, fun _ => by simp [Builtin.len_, run_underlying hu], int 0⟩
          · exact ⟨_, fun _ => by simp [Builtin.len_, run_underlying hu], int _⟩
        · exact k.elim
      · exact k.elim
    · rename_i a n c
      refine ⟨_, k, fun hG xv hx => ?_⟩
      obtain ⟨⟨rfl, _⟩, _⟩ := hx
      exact ⟨_, fun _ => by simp [Builtin.len_, run_underlying hu], int _⟩
    · exact k.elim
  · rename_i hd
    have hu := descOf_und hc hd (by simp)
    split at k
    · refine ⟨_, k, fun hG xv hx => ?_⟩
      obtain ⟨⟨rfl, _⟩, _⟩ := hx
      exact ⟨_, fun _ => by simp [Builtin.len_, run_underlying hu], int _⟩
    · exact k.elim
  · rename_i n el hd
    have hu := descOf_und hc hd (by simp)
    refine ⟨_, k, fun hG xv hx => ⟨_, fun _ => by simp [Builtin.len_, run_underlying hu], int _⟩⟩
  · exact k.elim

/-- A bound of a slice expression. -/
@[reducible] def bndE (cx : Cx) (s : St) (G : Gd) (o : Option Operand) (d : Int) : Option Int := match o with
  | none => some d
  | some x => match getE cx s G x with
    | some (.one (.c (.v (.int _ n)))) => some n
    | _ => none

@[reducible] def sliceK (cx : Cx) (s : St) (G : Gd) (t : TypeId) (x : SV) (lo hi : Option Operand) (K : Ent → Prop) : Prop := match descOf cx t with
  | .slice el => match lkT cx.ti el with
    | none => False
    | some ie => match x with
      | .c (.sl sh l) => match Nat.beq ie.size sh.size with
        | true => match bndE cx s G lo 0 with
          | some a => match bndE cx s G hi l.length with
            | some b => side s.gl G (0 ≤ a ∧ a ≤ b ∧ b ≤ l.length) ∧ K (.one (.c (.sl sh ((l.take b.toNat).drop a.toNat))))
            | none => False
          | none => False
        | false => False
      | _ => False
  | .string => match x with
    | .c (.v (.string u)) => match bndE cx s G lo 0 with
      | some a => match bndE cx s G hi u.size with
        | some b => side s.gl G (0 ≤ a ∧ a ≤ b ∧ b ≤ u.size) ∧ K (vS (u.extract a.toNat b.toNat))
        | none => False
      | none => False
    | _ => False
  | _ => False

theorem bndE_ok {cx : Cx} {N : Nat} {B : Base} {h0 : FH} {s : St} {h : FH} {β : List RV} {w : World} {a : Act} (sat : Sat N B h0 s h β w a) (hg : GlobOK cx.gd h) {G : Gd} (hG : gv s.gl G = true)
    {o : Option Operand} {d n : Int} (k : bndE cx s G o d = some n) : (o = none ∧ n = d) ∨ ∃ x ik, o = some x ∧ a.eval x = .int ik n := by
  unfold bndE at k
  split at k
  · cases k; exact .inl ⟨rfl, rfl⟩
  · rename_i x
    split at k
    · rename_i ik m hx
      cases k
      obtain ⟨⟨e, _⟩, _⟩ := getE_ok sat hg hG hx
      exact .inr ⟨x, ik, rfl, e⟩
    · cases k

theorem run_bounds {P : Program} {w : World} {isS : Bool} {len cap : Nat} {lo hi : Option Value} {a b : Int} (hlo : (lo = none ∧ a = 0) ∨ ∃ k, lo = some (.int k a)) (hhi : (hi = none ∧ b = len) ∨ ∃ k, hi = some (.int k b))
    (h : 0 ≤ a ∧ a ≤ b ∧ b ≤ len) (hc : len ≤ cap) : (Instr.sliceBounds isS len cap lo hi none).run P w = .ok (a.toNat, b.toNat, cap) w := by
  unfold Instr.sliceBounds
  have hb : (0 : Int) ≤ b ∧ b ≤ cap := by omega
  have ha : 0 ≤ a ∧ a ≤ b.toNat := by omega
  rcases hlo with ⟨rfl, rfl⟩ | ⟨k, rfl⟩ <;> rcases hhi with ⟨rfl, rfl⟩ | ⟨k', rfl⟩
  · simp
  · simp [Instr.sliceBound, asIntOf, hb]
  · have : 0 ≤ a ∧ a ≤ (len : Int) := by omega
    simp [Instr.sliceBound, asIntOf, this]
  · have ha' : a ≤ max b 0 := by omega
    have hn : ¬ (max b 0 < a) := by omega
    simp [Instr.sliceBound, asIntOf, hb, ha, hn]

theorem RdL.takeDrop {α : Type} {R : List Value → α → Prop} {k : Nat} (hR : ∀ c d, R c d → c.length = k) {l : List α} {cs : List Value} (r : RdL R cs l) {a b : Nat} (hab : a ≤ b) (hb : b ≤ l.length) :
    RdL R ((cs.take (b * k)).drop (a * k)) ((l.take b).drop a) := by
  have h1 : RdL R (cs.take (b * k)) (l.take b) := by
    have r' := r
    rw [← List.take_append_drop b l] at r'
    have := (RdL.split hR r').1
    rwa [List.length_take, Nat.min_eq_left hb] at this
  have r2 := h1
  rw [← List.take_append_drop a (l.take b)] at r2
  have := (RdL.split hR r2).2
  rwa [List.length_take, List.length_take, Nat.min_eq_left hb, Nat.min_eq_left hab] at this

theorem At.shift {h : FH} {b o : Nat} {cs : List Value} (x : At h b o cs) (n i : Nat) : At h b (o + i) ((cs.take n).drop i) := by
  intro j u e
  rw [List.getElem?_drop, List.getElem?_take] at e
  split at e
  · rw [Nat.add_assoc]; exact x _ _ e
  · cases e

theorem sliceK_ok {cx : Cx} {P : Program} (hc : TisOK P cx.ti) {N : Nat} {B : Base} {h0 : FH} {s : St} {h : FH} {β : List RV} {w : World} {a : Act} (sat : Sat N B h0 s h β w a) (hg : GlobOK cx.gd h)
    {G : Gd} {t : TypeId} {x : SV} {lo hi : Option Operand} {K : Ent → Prop} (k : sliceK cx s G t x lo hi K) :
    ∃ e, K e ∧ (gv s.gl G = true → ∀ xv, CnV h β x xv → ∃ y, (Instr.sliceAt t xv (lo.map a.eval) (hi.map a.eval) none).run P w = .ok y w ∧ CnE h β e y) := by
  have bnd : ∀ {o : Option Operand} {d n : Int}, gv s.gl G = true → bndE cx s G o d = some n → (o.map a.eval = none ∧ n = d) ∨ ∃ k, o.map a.eval = some (.int k n) := by
    intro o d n hG e
    rcases bndE_ok sat hg hG e with ⟨rfl, rfl⟩ | ⟨x, ik, rfl, e'⟩
    · exact .inl ⟨rfl, rfl⟩
    · exact .inr ⟨ik, by simp [e']⟩
  unfold sliceK at k
  split at k
  · rename_i el hd
    have hu := descOf_und hc hd (by simp)
    split at k
    · exact k.elim
    rename_i ie hie
    have tie := hc.get hie
    split at k
    · rename_i sh l
      split at k
      · rename_i hz
        have hz : ie.size = sh.size := Nat.eq_of_beq_eq_true hz
        split at k
        · rename_i p hp
          split at k
          · rename_i q hq
            refine ⟨_, k.2, fun hG xv hx => ?_⟩
            have hb := side_ok k.1 hG
            have run : ∀ (ad : Option Addr) (len cap : Nat), l.length = len → len ≤ cap → (Instr.sliceAt t (.slice ad len cap) (lo.map a.eval) (hi.map a.eval) none).run P w =
                .ok (.slice (if cap = p.toNat then ad else ad.map (·.add (p.toNat * ie.size))) (q.toNat - p.toNat) (cap - p.toNat)) w := by
              intro ad len cap hl hle
              have := run_bounds (P := P) (w := w) (isS := true) (len := len) (cap := cap) (bnd hG hp) (by rw [← hl]; exact bnd hG hq) (by rw [← hl]; exact hb) hle
              simp only [Instr.sliceAt, Instr.slice, Sem.run_bind, run_underlying hu, Result.andThen_ok, this, run_sizeOf tie, Sem.run_pure]
            rcases hx.1 with ⟨rfl, rfl⟩ | ⟨ad, cap, rfl, rfl, q2⟩ | ⟨b, off, cap, rfl, q1, q2, cs, r, at_⟩
            · have h1 : p.toNat = 0 := by simp at hb; omega
              have h2 : q.toNat = 0 := by simp at hb; omega
              refine ⟨_, run none 0 0 rfl (Nat.le_refl 0), ⟨.inl ⟨?_, by simp⟩, ?_⟩⟩
              · rw [h1, h2]; rfl
              · exact ⟨rfl, rfl⟩
            · have h1 : p.toNat = 0 := by simp at hb; omega
              have h2 : q.toNat = 0 := by simp at hb; omega
              refine ⟨_, run _ 0 cap rfl (Nat.zero_le _), ⟨.inr (.inl ⟨if cap = p.toNat then ad else ad.add (p.toNat * ie.size), cap - p.toNat, ?_, by simp, by omega⟩), ⟨rfl, rfl⟩⟩⟩
              rw [h2]
              split <;> simp
            · refine ⟨_, run _ _ cap rfl q1, ⟨.inr (.inr ?_), ⟨rfl, rfl⟩⟩⟩
              have hlen : ((l.take q.toNat).drop p.toNat).length = q.toNat - p.toNat := by
                rw [List.length_drop, List.length_take]; omega
              by_cases hcp : cap = p.toNat
              · refine ⟨b, off, cap - p.toNat, ?_, ?_, by omega, [], ?_, ?_⟩
                · rw [if_pos hcp, hlen]
                · rw [hlen]; omega
                · have : (l.take q.toNat).drop p.toNat = [] := List.eq_nil_of_length_eq_zero (by rw [hlen]; omega)
                  rw [this]; rfl
                · intro j u e; simp at e
              · refine ⟨b, off + p.toNat * ie.size, cap - p.toNat, ?_, ?_, by omega, _, RdL.takeDrop (fun _ _ => Rd.size sh) r (a := p.toNat) (b := q.toNat) (by omega) (by omega), ?_⟩
                · rw [if_neg hcp, hlen]; simp [add_lit]
                · rw [hlen]; omega
                · rw [hz]; exact at_.shift _ _
          · exact k.elim
        · exact k.elim
      · exact k.elim
    · exact k.elim
  · rename_i hd
    have hu := descOf_und hc hd (by simp)
    split at k
    · rename_i u
      split at k
      · rename_i p hp
        split at k
        · rename_i q hq
          refine ⟨_, k.2, fun hG xv hx => ?_⟩
          obtain ⟨⟨rfl, _⟩, _⟩ := hx
          have hb := side_ok k.1 hG
          have := run_bounds (P := P) (w := w) (isS := false) (len := u.size) (cap := u.size) (bnd hG hp) (bnd hG hq) hb (Nat.le_refl _)
          refine ⟨.string (u.extract p.toNat q.toNat), ?_, ⟨rfl, oneC_string _⟩, oneC_string _⟩
          simp only [Instr.sliceAt, Instr.slice, Sem.run_bind, run_underlying hu, Result.andThen_ok]
          simp [this]
        · exact k.elim
      · exact k.elim
    · exact k.elim
  · exact k.elim
end Go.Eng
