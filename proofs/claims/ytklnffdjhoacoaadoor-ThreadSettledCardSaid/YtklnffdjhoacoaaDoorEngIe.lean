/- The engine, part Ie: == on flat structs. -/
import Derived.Test.YtklnffdjhoacoaaDoorEngI
import Derived.Laws.StructEq
import Derived.ChangeKeysEq
set_option linter.unusedSimpArgs false
set_option linter.unusedVariables false
namespace Go.Eng
open Go Go.RowKit

@[reducible] def scalD : (s : Sh) → s.den → Option (List Value)
  | .int k, n => some [.int k n]
  | .bool, b => some [.bool b]
  | .str, b => some [.string b]
  | .unit, _ => some []
  | .pair a b, (x, y) => match scalD a x with
    | some l => match scalD b y with
      | some m => some (catL l m)
      | none => none
    | none => none
  | _, _ => none

theorem scalD_ok {h : FH} : ∀ (s : Sh) {cs : List Value} {d : s.den} {l : List Value}, Rd h s cs d → scalD s d = some l → cs = l
  | .int k, _, _, _, r, e => by simp [scalD] at e; subst e; exact r
  | .bool, _, _, _, r, e => by simp [scalD] at e; subst e; exact r
  | .str, _, _, _, r, e => by simp [scalD] at e; subst e; exact r
  | .unit, _, _, _, r, e => by simp [scalD] at e; subst e; exact r
  | .any, _, _, _, r, e => by simp [scalD] at e
  | .sl _, _, _, _, r, e => by simp [scalD] at e
  | .arr _ _, _, _, _, r, e => by simp [scalD] at e
  | .pair a b, _, (x, y), _, ⟨c1, c2, e', r1, r2⟩, e => by
    simp only [scalD] at e
    split at e
    · rename_i l hl
      split at e
      · rename_i m hm
        cases e
        rw [e', scalD_ok a r1 hl, scalD_ok b r2 hm]
        clear hl hm e' r1 r2
        induction l with
        | nil => rfl
        | cons x l ih => simp [catL, ih]
      · cases e
    · cases e

@[reducible] def scalL : List SC → Option (List Value)
  | [] => some []
  | .v x :: l => match scalL l with
    | some m => some (x :: m)
    | none => none
  | _ :: _ => none

theorem scalL_ok {h : FH} {β : List RV} : ∀ {xs : List SC} {ys l : List Value}, All2 (fun x y => CnC h β x y ∧ oneC y) xs ys → scalL xs = some l → ys = l
  | [], [], _, _, e => by simp [scalL] at e; subst e; rfl
  | .v x :: xs, y :: ys, l, ⟨a, b⟩, e => by
    simp only [scalL] at e
    split at e
    · rename_i m hm
      cases e
      rw [scalL_ok b hm, a.1.1]
    · cases e
  | .sl _ _ :: _, _ :: _, _, _, e => by simp [scalL] at e
  | .fp _ _ :: _, _ :: _, _, _, e => by simp [scalL] at e
  | .own _ _ :: _, _ :: _, _, _, e => by simp [scalL] at e
  | .row _ :: _, _ :: _, _, _, e => by simp [scalL] at e
  | .rowp _ _ _ _ :: _, _ :: _, _, _, e => by simp [scalL] at e
  | .junk :: _, _ :: _, _, _, e => by simp [scalL] at e

@[reducible] def scalV : SV → Option (List Value)
  | .agg xs => scalL xs
  | .dat s d => scalD s d
  | _ => none

theorem scalV_ok {h : FH} {β : List RV} {v : SV} {l : List Value} {y : Value} (c : CnV h β v y) (e : scalV v = some l) : y = .agg l.toArray := by
  cases v with
  | c x => simp [scalV] at e
  | agg xs => obtain ⟨ys, rfl, a⟩ := c; rw [scalL_ok a e]
  | dat s d => obtain ⟨_, cs, rfl, r⟩ := c; rw [scalD_ok s r e]
  | und => simp [scalV] at e

@[reducible] def eqVK : List Cl → List Value → List Value → Bool → (Bool → Prop) → Prop
  | [], [], [], acc, K => K acc
  | .i :: cs, .int k a :: xs, .int k' b :: ys, acc, K => match Nat.beq (ikn k) (ikn k') with
    | true => eqVK cs xs ys (acc && (a == b)) K
    | false => False
  | .b :: cs, .bool a :: xs, .bool b :: ys, acc, K => eqVK cs xs ys (acc && (a == b)) K
  | .s :: cs, .string a :: xs, .string b :: ys, acc, K => eqVK cs xs ys (acc && (a == b)) K
  | _, _, _, _, _ => False

theorem run_part_cls {P : Program} {t : TypeId} {c : Cl} (hc : clsOf P t = some c) {xs : Array Value} {off : Nat} {v : Value} (hx : xs[off]? = some v) (w : World) : (part t xs off).run P w = .ok v w := by
  unfold clsOf at hc
  cases hu : P.underlying t with
  | none => simp [hu] at hc
  | some d => cases d <;> simp [hu] at hc <;> simp [part, isAgg, run_underlying hu, hx]

theorem eqF_ok {P : Program} {XS YS : List Value} {K : Bool → Prop} : ∀ (cls : List Cl) (xs ys : List Value) (fs : List Field) (i : Nat) (acc : Bool), eqFs P i cls fs = true → XS.drop i = xs → YS.drop i = ys → eqVK cls xs ys acc K →
    ∃ r, K (acc && r) ∧ ∀ w d, (Op.eqFields (d + 1) XS.toArray YS.toArray fs).run P w = .ok r w := by
  have hd : ∀ {L : List Value} {i : Nat} {x : Value} {l : List Value}, L.drop i = x :: l → L.toArray[i]? = some x ∧ L.drop (i + 1) = l := by
    intro L i x l e
    refine ⟨?_, ?_⟩
    · have := congrArg List.head? e; simpa [List.head?_drop] using this
    · rw [← List.drop_drop, e]; rfl
  intro cls
  induction cls with
  | nil =>
    intro xs ys fs i acc hf hx hy k
    cases fs with
    | cons _ _ => simp [eqFs] at hf
    | nil =>
      unfold eqVK at k
      split at k
      · exact ⟨true, by simpa using k, fun w d => by simp [Op.eqFields]⟩
      all_goals first | contradiction | exact k.elim
  | cons c cls ih =>
    intro xs ys fs i acc hf hx hy k
    cases fs with
    | nil => simp [eqFs] at hf
    | cons f fs =>
      simp only [eqFs, Bool.and_eq_true, bne_iff_ne, ne_eq, beq_iff_eq] at hf
      obtain ⟨⟨⟨h1, h2⟩, h3⟩, h4⟩ := hf
      have one : ∀ {x y : Value} {xs' ys' : List Value} {b : Bool}, XS.drop i = x :: xs' → YS.drop i = y :: ys' → (∀ w d, (Op.equalIn (d + 1) f.type x y).run P w = .ok b w) →
          eqVK cls xs' ys' (acc && b) K → ∃ r, K (acc && r) ∧ ∀ w d, (Op.eqFields (d + 1) XS.toArray YS.toArray (f :: fs)).run P w = .ok r w := by
        intro x y xs' ys' b hx hy he k
        obtain ⟨x1, x2⟩ := hd hx
        obtain ⟨y1, y2⟩ := hd hy
        obtain ⟨r, k1, k2⟩ := ih xs' ys' fs (i + 1) (acc && b) h4 x2 y2 k
        refine ⟨b && r, by rw [← Bool.and_assoc]; exact k1, fun w d => ?_⟩
        simp only [Op.eqFields, ne_eq, h1, not_false_eq_true, if_true, Sem.run_bind, h2, run_part_cls h3 x1, run_part_cls h3 y1, Result.andThen_ok, he w d]
        cases b with
        | true => simp [k2 w d]
        | false => simp
      unfold eqVK at k
      split at k
      · contradiction
      · rename_i hc
        cases hc
        split at k
        · rename_i hk
          have := ikn_inj hk
          subst this
          unfold clsOf at h3
          cases hu : P.underlying f.type with
          | none => simp [hu] at h3
          | some D => cases D <;> simp [hu] at h3; exact one hx hy (fun w d => run_equalIn_int w d f.type _ _ _ _ hu) k
        · exact k.elim
      · rename_i hc
        cases hc
        unfold clsOf at h3
        cases hu : P.underlying f.type with
        | none => simp [hu] at h3
        | some D => cases D <;> simp [hu] at h3; exact one hx hy (fun w d => run_equalIn_bool' w d f.type _ _ hu) k
      · rename_i hc
        cases hc
        unfold clsOf at h3
        cases hu : P.underlying f.type with
        | none => simp [hu] at h3
        | some D => cases D <;> simp [hu] at h3; exact one hx hy (fun w d => by rw [beq_toListBytes]; exact run_equalIn_string w d f.type _ _ hu) k
      · exact k.elim

/-! Arrays of integers. -/
@[reducible] def eqArrK (m : Nat) (op : BinOp) (x y : SV) (K : Ent → Prop) : Prop := match x with
  | .dat (.arr n (.int k)) l => match y with
    | .dat (.arr n' (.int k')) l' => match andB (Nat.beq n m) (andB (Nat.beq n' m) (Nat.beq (ikn k) (ikn k'))) with
      | true => match op with
        | .eql => K (vB (decide (l = l')))
        | .neq => K (vB (!decide (l = l')))
        | _ => False
      | false => False
    | _ => False
  | _ => False

theorem rdl_ints {h : FH} {k : IntKind} : ∀ {l : List Int} {cs : List Value}, RdL (Rd h (.int k)) cs l → cs = l.map (Value.int k)
  | [], _, r => r
  | x :: l, _, ⟨c, r, e, h1, h2⟩ => by
    rw [e, rdl_ints h2, show c = [Value.int k x] from h1]; rfl

theorem run_items {P : Program} {e : TypeId} (he : clsOf P e = some .i) {k : IntKind} {l l' : List Int} {d : Nat} : ∀ {is : List Nat}, (∀ j ∈ is, j < l.length ∧ j < l'.length) →
    ∃ r : Bool, (∀ w, (Op.eqItems (d + 1) e 1 (l.map (Value.int k)).toArray (l'.map (Value.int k)).toArray is).run P w = .ok r w) ∧ (r = true ↔ ∀ j ∈ is, l[j]? = l'[j]?)
  | [], _ => ⟨true, fun w => by simp [Op.eqItems], by simp⟩
  | j :: is, h => by
    obtain ⟨r, r1, r2⟩ := run_items he (k := k) (l := l) (l' := l') (d := d) (is := is) fun i hi => h i (by simp [hi])
    obtain ⟨h1, h2⟩ := h j (by simp)
    have p1 : (l.map (Value.int k)).toArray[j]? = some (Value.int k l[j]) := by simp [h1]
    have p2 : (l'.map (Value.int k)).toArray[j]? = some (Value.int k l'[j]) := by simp [h2]
    have hu : ∃ k', P.underlying e = some (.int k') := by
      unfold clsOf at he
      cases hu : P.underlying e with
      | none => simp [hu] at he
      | some D => cases D <;> simp [hu] at he; exact ⟨_, rfl⟩
    obtain ⟨k', hu⟩ := hu
    refine ⟨(l[j] == l'[j]) && r, fun w => ?_, ?_⟩
    · simp only [Op.eqItems, Nat.mul_one, Sem.run_bind, run_part_cls he p1, run_part_cls he p2, Result.andThen_ok, run_equalIn_int w d e k k' _ _ hu]
      cases hq : l[j] == l'[j] with
      | true => simp [r1 w]
      | false => simp
    · rw [Bool.and_eq_true, r2, beq_iff_eq]
      constructor
      · rintro ⟨q1, q2⟩ i hi
        rcases List.mem_cons.1 hi with rfl | hi
        · rw [List.getElem?_eq_getElem h1, List.getElem?_eq_getElem h2, q1]
        · exact q2 i hi
      · intro q
        refine ⟨?_, fun i hi => q i (by simp [hi])⟩
        have := q j (by simp)
        rw [List.getElem?_eq_getElem h1, List.getElem?_eq_getElem h2] at this
        exact Option.some.inj this

@[reducible] def eqK (cx : Cx) (op : BinOp) (t : TypeId) (x y : SV) (K : Ent → Prop) : Prop := match lkT cx.ti t with
  | none => False
  | some i => match i.eqf with
    | [] => False
    | c :: cs => match i.desc with
      | .array m _ => eqArrK m op x y K
      | .struct _ => match scalV x with
        | some xs => match scalV y with
          | some ys => match op with
            | .eql => eqVK (c :: cs) xs ys true fun b => K (vB b)
            | .neq => eqVK (c :: cs) xs ys true fun b => K (vB (!b))
            | _ => False
          | none => False
        | none => False
      | _ => False

theorem eqK_ok {cx : Cx} {P : Program} (hc : TisOK P cx.ti) {op : BinOp} {t : TypeId} {x y : SV} {K : Ent → Prop} {h : FH} {β : List RV} (k : eqK cx op t x y K) :
    ∃ r : Bool, K (vB r) ∧ ∀ u v (px py : Operand), CnV h β x u → CnV h β y v → ∀ w, (eqGuard op t px py u v).run P w = .ok () w ∧ (binOp op t u v).run P w = .ok (.bool r) w := by
  unfold eqK at k
  split at k
  · exact k.elim
  rename_i i hi
  have ti := hc.get hi
  split at k
  · exact k.elim
  rename_i c cs he
  have ok := ti.eqf (by rw [he]; simp)
  rw [he] at ok
  split at k
  · rename_i m el hd
    have hu := ti.und' hd rfl
    unfold eqOK at ok
    rw [hu] at ok
    simp only [Bool.and_eq_true, Bool.not_eq_true', beq_iff_eq] at ok
    obtain ⟨⟨⟨o1, o2⟩, o3⟩, o4⟩ := ok
    obtain ⟨inf, hinf⟩ := Option.isSome_iff_exists.1 o3
    unfold eqArrK at k
    split at k
    · rename_i n q l
      split at k
      · rename_i n' q' l'
        split at k
        · rename_i hz
          rw [andB_eq, andB_eq, Bool.and_eq_true, Bool.and_eq_true] at hz
          have z1 : n = m := Nat.eq_of_beq_eq_true hz.1
          have z2 : n' = m := Nat.eq_of_beq_eq_true hz.2.1
          have z3 := ikn_inj hz.2.2
          subst z1; subst z2; subst z3
          have run : ∀ u v, CnV h β (.dat (.arr n' (.int q)) l) u → CnV h β (.dat (.arr n' (.int q)) l') v → ∃ xs ys, u = .agg xs ∧ v = .agg ys ∧ ∀ w, (Op.equalIn 10000 t (.agg xs) (.agg ys)).run P w = .ok (decide (l = l')) w := by
            intro u v hu' hv'
            obtain ⟨_, cs1, rfl, l1, r1⟩ := hu'
            obtain ⟨_, cs2, rfl, l2, r2⟩ := hv'
            have l1 : l.length = n' := l1
            have l2 : l'.length = n' := l2
            refine ⟨_, _, rfl, rfl, fun w => ?_⟩
            rw [rdl_ints r1, rdl_ints r2, show (10000 : Nat) = 9999 + 1 from rfl, run_equalIn_array w 9999 _ _ hu hinf, o2]
            obtain ⟨r, e1, e2⟩ := run_items o1 (k := q) (l := l) (l' := l') (d := 9998) (is := List.range n') fun j hj => by
              have := List.mem_range.1 hj; omega
            rw [e1 w]
            congr 1
            rw [Bool.eq_iff_iff, e2, decide_eq_true_eq]
            constructor
            · intro hh
              apply List.ext_getElem?
              intro j
              by_cases hj : j < n'
              · exact hh j (List.mem_range.2 hj)
              · rw [List.getElem?_eq_none (by omega), List.getElem?_eq_none (by omega)]
            · intro hh j _
              rw [hh]
          split at k
          · refine ⟨_, k, fun u v px py hu' hv' w => ?_⟩
            obtain ⟨xs, ys, rfl, rfl, r⟩ := run u v hu' hv'
            refine ⟨run_eqGuard_agg w _ t px py _ _ o4, ?_⟩
            simp only [run_eql_struct, r, Result.andThen_ok]
          · refine ⟨_, k, fun u v px py hu' hv' w => ?_⟩
            obtain ⟨xs, ys, rfl, rfl, r⟩ := run u v hu' hv'
            refine ⟨run_eqGuard_agg w _ t px py _ _ o4, ?_⟩
            simp only [run_neq_struct, r, Result.andThen_ok]
          · exact k.elim
        · exact k.elim
      · exact k.elim
    · exact k.elim
  · rename_i fs0 hd
    obtain ⟨fs, hu, _⟩ := ti.undS hd
    unfold eqOK at ok
    rw [hu] at ok
    simp only [Bool.and_eq_true, Bool.not_eq_true'] at ok
    obtain ⟨⟨o1, o2⟩, o3⟩ := ok
    have hf : P.fieldsOf t = fs := by simp [Program.fieldsOf, hu]
    have hu' : P.underlying t = some (.struct (P.fieldsOf t)) := by rw [hf]; exact hu
    split at k
    · rename_i xs hx
      split at k
      · rename_i ys hy
        have run : ∀ {r : Bool}, (∀ w d, (Op.eqFields (d + 1) xs.toArray ys.toArray fs.toList).run P w = .ok r w) → ∀ w, (Op.equalIn 10000 t (.agg xs.toArray) (.agg ys.toArray)).run P w = .ok r w := by
          intro r hr w
          rw [show (10000 : Nat) = 9999 + 1 from rfl, run_equalIn_struct w 9999 t _ _ hu' o2, hf]
          exact hr w 9998
        split at k
        · obtain ⟨r, k1, k2⟩ := eqF_ok (XS := xs) (YS := ys) _ _ _ fs.toList 0 true o1 rfl rfl k
          refine ⟨r, by simpa using k1, fun u v px py hu hv w => ?_⟩
          rw [scalV_ok hu hx, scalV_ok hv hy]
          refine ⟨run_eqGuard_agg w _ t px py _ _ o3, ?_⟩
          simp only [run_eql_struct, run k2, Result.andThen_ok]
        · obtain ⟨r, k1, k2⟩ := eqF_ok (XS := xs) (YS := ys) _ _ _ fs.toList 0 true o1 rfl rfl k
          refine ⟨!r, by simpa using k1, fun u v px py hu hv w => ?_⟩
          rw [scalV_ok hu hx, scalV_ok hv hy]
          refine ⟨run_eqGuard_agg w _ t px py _ _ o3, ?_⟩
          simp only [run_neq_struct, run k2, Result.andThen_ok]
        · exact k.elim
      · exact k.elim
    · exact k.elim
  · exact k.elim
end Go.Eng
