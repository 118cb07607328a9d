/- Texts of this claim, part 3: EngDp, EngBr, EngWg, EngMp, EngO, EngRg. Conditions: those of the given rows. -/
import Derived.Test.YtpfdgbddpdngbaaDoorB2
import Derived.LoopNIn
import Derived.Deep.LoopGhost
import Derived.Laws.IdiomRangeMap
set_option linter.unusedSimpArgs false
set_option linter.unusedVariables false
namespace Go.Eng
open Go Go.RowKit
/-! What speaks of rows in elements is forgotten. -/
@[reducible] def SC.freeS (i : Nat) : SC → Bool
  | .sub j _ => !Nat.beq i j
  | .subp j _ _ _ _ => !Nat.beq i j
  | _ => true
@[reducible] def jsC (i : Nat) (x : SC) : SC := match SC.freeS i x with
  | true => x
  | false => .junk
@[reducible] def mV (f : SC → SC) : SV → SV
  | .c x => .c (f x)
  | .agg xs => .agg (mapL f xs)
  | v => v
@[reducible] def mE (f : SC → SC) : Ent → Ent
  | .one v => .one (mV f v)
  | .tup vs => .tup (mapL (mV f) vs)
@[reducible] def mR (f : SC → SC) : Res → Res
  | .blk t cs => .blk t (mapL f cs)
  | r => r
@[reducible] def mEnv (f : SC → SC) : List (Nat × Gd × Ent) → List (Nat × Gd × Ent)
  | [] => []
  | (k, g, e) :: l => (k, g, mE f e) :: mEnv f l
@[reducible] def mT (f : SC → SC) : List (Gd × Res) → List (Gd × Res)
  | [] => []
  | (g, r) :: l => (g, mR f r) :: mT f l
theorem all2_map {R R' : SC → Value → Prop} {f : SC → SC} (hR : ∀ x y, R x y → R' (f x) y) : ∀ {xs : List SC} {ys : List Value}, All2 (fun x y => R x y ∧ oneC y) xs ys → All2 (fun x y => R' x y ∧ oneC y) (mapL f xs) ys
  | [], [], _ => trivial
  | _ :: _, _ :: _, ⟨a, b⟩ => ⟨⟨hR _ _ a.1, a.2⟩, all2_map hR b⟩
theorem CnV.map {h h' : FH} {β β' : List RV} {f : SC → SC} (le : h.le h') (hR : ∀ x y, CnC h β x y → CnC h' β' (f x) y) : ∀ {x : SV} {y : Value}, CnV h β x y → CnV h' β' (mV f x) y
  | .c _, _, c => ⟨hR _ _ c.1, c.2⟩
  | .agg _, _, ⟨ys, e, a⟩ => ⟨ys, e, all2_map hR a⟩
  | .dat s _, _, ⟨g, cs, e, r⟩ => ⟨g, cs, e, r.mono le s⟩
  | .und, _, c => c
theorem CnE.map {h h' : FH} {β β' : List RV} {f : SC → SC} (le : h.le h') (hR : ∀ x y, CnC h β x y → CnC h' β' (f x) y) : ∀ {x : Ent} {y : Value}, CnE h β x y → CnE h' β' (mE f x) y
  | .one _, _, c => CnV.map le hR c
  | .tup _, _, ⟨ys, e, a⟩ => ⟨ys, e, go a⟩
where
  go : ∀ {xs : List SV} {ys : List Value}, All2 (CnV h β) xs ys → All2 (CnV h' β') (mapL (mV f) xs) ys
    | [], [], _ => trivial
    | _ :: _, _ :: _, ⟨a, b⟩ => ⟨CnV.map le hR a, go b⟩
theorem Holds.map {h h' : FH} {β β' : List RV} {w w' : World} {f : SC → SC} (le : h.le h') (hR : ∀ x y, CnC h β x y → CnC h' β' (f x) y) : ∀ {r : Res} {v : RV}, Holds h β w r v → (r.live = true → ∀ b, v.has b → w'.heap[b]? = w.heap[b]?) → Holds h' β' w' (mR f r) v
  | .blk _ _, .blk b, ⟨ys, e, a⟩, k => ⟨ys, by rw [k rfl b (has_blk.2 rfl)]; exact e, all2_map hR a⟩
  | .row _ _ _, .row v, x, k => RowH.move le x fun b hb => k rfl b (has_row.2 hb)
  | .obj _ s _, .blk b, ⟨ys, e, r⟩, k => ⟨ys, by rw [k rfl b (has_blk.2 rfl)]; exact e, r.mono le s⟩
  | .deep _ _ _ _ _ _ _ _, .deep _ _, x, k => DeepH.move le x (k rfl)
  | .mp k' s l, .row v, x, k => Holds.move (r := .mp k' s l) (v := .row v) (β' := β') (β := β') le (Ext.refl _) x k
  | .mpo k' s l n, .deep v us, x, k => Holds.move (r := .mpo k' s l n) (v := .deep v us) (β' := β') (β := β') le (Ext.refl _) x k
  | .it k' s l dn, .blk v, x, k => Holds.move (r := .it k' s l dn) (v := .blk v) (β' := β') (β := β') le (Ext.refl _) x k
  | .gone, _, _, _ => trivial
theorem mR_live (f : SC → SC) (r : Res) : (mR f r).live = r.live := by cases r <;> rfl
theorem lkE_m {f : SC → SC} : ∀ {l : List (Nat × Gd × Ent)} {t : Nat} {G : Gd} {e : Ent}, lkE (mEnv f l) t = some (G, e) → ∃ e0, lkE l t = some (G, e0) ∧ e = mE f e0
  | [], _, _, _, h => by simp [mEnv, lkE] at h
  | (k, g, e0) :: l, t, G, e, h => by
    simp only [mEnv] at h
    rw [lkE_cons] at h ⊢
    split at h
    · rename_i hk; cases h; exact ⟨e0, by rw [if_pos hk], rfl⟩
    · rename_i hk; rw [if_neg hk]; exact lkE_m h
theorem lkE_m' {f : SC → SC} : ∀ {l : List (Nat × Gd × Ent)} {t : Nat} {G : Gd} {e : Ent}, lkE l t = some (G, e) → lkE (mEnv f l) t = some (G, mE f e)
  | [], _, _, _, h => by simp [lkE] at h
  | (k, g, e0) :: l, t, G, e, h => by
    simp only [mEnv]
    rw [lkE_cons] at h ⊢
    split at h
    · rename_i hk; cases h; rw [if_pos hk]
    · rename_i hk; rw [if_neg hk]; exact lkE_m' h
theorem eff_m (gl : List Bool) (f : SC → SC) : ∀ {T : List (Gd × Res)}, eff gl (mT f T) = (eff gl T).map (mR f)
  | [] => rfl
  | (g, r) :: l => by
    simp only [mT, eff, List.map_cons, eff_m gl f (T := l)]
    congr 1
    cases gv gl g <;> rfl
theorem mT_gd {f : SC → SC} {p : Gd × Res} : ∀ {T : List (Gd × Res)}, p ∈ mT f T → ∃ q ∈ T, q.1 = p.1
  | [], h => by simp [mT] at h
  | (g, r) :: t, h => by
    simp only [mT, List.mem_cons] at h
    rcases h with rfl | h
    · exact ⟨(g, r), by simp, rfl⟩
    · obtain ⟨q, h1, h2⟩ := mT_gd h; exact ⟨q, by simp [h1], h2⟩
section
variable {cx : Cx} {P : Program} {N : Nat} {B : Base} {h0 : FH} {s : St} {h : FH} {β : List RV} {w : World} {a : Act} {o : Oper} {K : St → Prop}
theorem Sat.map (sat : Sat N B h0 s h β w a) {f : SC → SC} {T' : List (Gd × Res)} {h' : FH} {β' : List RV} {w' : World} (le : h.le h') (hf : ∀ b, f (.v (.bool b)) = .v (.bool b)) (hR : ∀ x y, CnC h β x y → CnC h' β' (f x) y)
    (ok : OK B h0 (eff s.gl T') h' β' w') (gT : ∀ p ∈ T', gbd s.gl.length p.1 = true) : Sat N B h0 { s with T := T', env := mEnv f s.env } h' β' w' a := by
  refine ⟨ok, ?_, ?_, sat.defers, sat.sz, ?_, gT⟩
  · intro t G e ht
    obtain ⟨e0, h1, rfl⟩ := lkE_m ht
    obtain ⟨z, q1, q2, q3⟩ := sat.env t G e0 h1
    exact ⟨z, q1, fun hG => CnE.map le hR (q2 hG), q3⟩
  · intro d i hi
    obtain ⟨G, b, q1, q2⟩ := sat.gs d i hi
    have := lkE_m' (f := f) q1
    simp only [mE, mV, hf] at this
    exact ⟨G, b, this, q2⟩
  · intro t G e ht
    obtain ⟨e0, h1, rfl⟩ := lkE_m ht
    exact sat.gb t G e0 h1
theorem set_get {β : List RV} {i j : Nat} {u v : RV} (hu : β[i]? = some u) : (β.set i v)[j]? = if j = i then some v else β[j]? := by
  by_cases hj : j = i
  · subst hj
    rw [if_pos rfl, List.getElem?_set_self (List.getElem?_eq_some_iff.1 hu).1]
  · rw [if_neg hj, List.getElem?_set_ne (Ne.symm hj)]
theorem beqT {i j : Nat} (h : (!Nat.beq i j) = true) : j ≠ i := by
  rintro rfl; simp at h
theorem CnC.js {h : FH} {β : List RV} {i : Nat} {v : Value} {us us' : Nat → Value} {u : RV} (hu : β[i]? = some u) (hd : u = .deep v us ∨ u = .row v) {x : SC} {y : Value} (c : CnC h β x y) : CnC h (β.set i (.deep v us')) (jsC i x) y := by
  have hsl : u.sl = some v := by rcases hd with rfl | rfl <;> rfl
  have hbl : u.block = (RV.deep v us').block := by rcases hd with rfl | rfl <;> rfl
  have nb : ∀ b, u ≠ .blk b := by rcases hd with rfl | rfl <;> intro b e <;> cases e
  unfold jsC
  split
  · rename_i hf
    cases x with
    | v _ => exact c
    | sl _ _ => exact c
    | fp _ _ => exact c
    | one _ _ => exact c
    | abs _ => exact c
    | junk => trivial
    | own j off =>
      obtain ⟨b, e, e'⟩ := c
      refine ⟨b, ?_, e'⟩
      rw [set_get hu, if_neg]
      · exact e
      · rintro rfl; rw [hu] at e; cases e; exact nb b rfl
    | row j =>
      obtain ⟨z, e, e'⟩ := c
      by_cases hj : j = i
      · subst hj
        rw [hu] at e; cases e
        exact ⟨.deep v us', by rw [set_get hu, if_pos rfl], by rw [hsl] at e'; exact e'⟩
      · exact ⟨z, by rw [set_get hu, if_neg hj]; exact e, e'⟩
    | rowp j k sz off =>
      obtain ⟨z, g, e, e', e2⟩ := c
      by_cases hj : j = i
      · subst hj
        rw [hu] at e; cases e
        exact ⟨.deep v us', g, by rw [set_get hu, if_pos rfl], by rw [← hbl]; exact e', e2⟩
      · exact ⟨z, g, by rw [set_get hu, if_neg hj]; exact e, e', e2⟩
    | sub j k =>
      obtain ⟨z, us2, e, e'⟩ := c
      exact ⟨z, us2, by rw [set_get hu, if_neg (beqT hf)]; exact e, e'⟩
    | subp j k m sz off =>
      obtain ⟨z, us2, g, e, e'⟩ := c
      exact ⟨z, us2, g, by rw [set_get hu, if_neg (beqT hf)]; exact e, e'⟩
  · trivial
theorem OK.upd3 {T : List Res} (ok : OK B h0 T h β w) {w' : World} {i : Nat} {r r' : Res} {u v : RV} {f : SC → SC}
    (hT : T[i]? = some r) (hl : r.live = true) (hu : β[i]? = some u) {row : Option Nat} (hg : Gb w w' row) (hrow : ∀ k, row = some k → u.has k) {X : Nat → Prop}
    (hX : ∀ b, X b → B.al b ∧ b < w.heap.size ∧ (∀ o, h b o = none) ∧ ∀ (j : Nat) (rj : Res) (vj : RV), j ≠ i → T[j]? = some rj → rj.live = true → β[j]? = some vj → ¬ vj.has b)
    (hv : ∀ b, v.has b → u.has b ∨ X b ∨ (w.heap.size ≤ b ∧ b < w'.heap.size)) (hC : ∀ x y, CnC h β x y → CnC h (β.set i v) (f x) y) (hold : Holds h (β.set i v) w' r' v) :
    OK B h0 ((T.map (mR f)).set i r') h (β.set i v) w' := by
  have hi : i < T.length := (List.getElem?_eq_some_iff.1 hT).1
  have hi' : i < β.length := by rw [ok.len]; exact hi
  have own_i : ∀ b, u.has b → B.al b ∧ b < w.heap.size ∧ ∀ o, h b o = none := fun b hb => ok.own i r u b hT hl hu hb
  have nf : ∀ b, w.heap.size ≤ b → ∀ o, h b o = none := by
    intro b hb o
    cases hh : h b o with
    | none => rfl
    | some x => have := vis_lt (ok.hw b o x hh); omega
  have own_v : ∀ b, v.has b → B.al b ∧ b < w'.heap.size ∧ ∀ o, h b o = none := by
    intro b hb
    rcases hv b hb with hb' | hb' | ⟨h1, h2⟩
    · obtain ⟨a1, a2, a3⟩ := own_i b hb'
      exact ⟨a1, Nat.lt_of_lt_of_le a2 hg.size, a3⟩
    · obtain ⟨a1, a2, a3, _⟩ := hX b hb'
      exact ⟨a1, Nat.lt_of_lt_of_le a2 hg.size, a3⟩
    · exact ⟨B.up _ (Nat.le_trans ok.below.size h1), h2, nf b h1⟩
  have apart : ∀ j rj vj b, j ≠ i → T[j]? = some rj → rj.live = true → β[j]? = some vj → vj.has b → v.has b → False := by
    intro j rj vj b hj ej lj ej' hb hb2
    rcases hv b hb2 with hb' | hb' | ⟨h1, h2⟩
    · exact hj (ok.inj j i rj r vj u b ej lj hT hl ej' hu hb hb')
    · exact (hX b hb').2.2.2 j rj vj hj ej lj ej' hb
    · have := (ok.own j rj vj b ej lj ej' hb).2.1; omega
  have get : ∀ {j : Nat} {rj : Res}, j ≠ i → ((T.map (mR f)).set i r')[j]? = some rj → ∃ r0, T[j]? = some r0 ∧ rj = mR f r0 := by
    intro j rj hj e
    rw [List.getElem?_set_ne (Ne.symm hj), List.getElem?_map] at e
    cases hh : T[j]? with
    | none => rw [hh] at e; cases e
    | some r0 => rw [hh] at e; cases e; exact ⟨r0, rfl, rfl⟩
  exact {
    below := ok.below.grown hg.togrownBy fun k e => (own_i k (hrow k e)).1
    dr := Nat.le_trans ok.dr hg.dr
    len := by simp [ok.len]
    holds := by
      intro j rj vj ej ej'
      by_cases hj : j = i
      · subst hj
        rw [List.getElem?_set_self (by simpa using hi)] at ej
        rw [List.getElem?_set_self hi'] at ej'
        cases ej; cases ej'; exact hold
      · obtain ⟨r0, e0, rfl⟩ := get hj ej
        rw [List.getElem?_set_ne (Ne.symm hj)] at ej'
        refine (ok.holds j r0 vj e0 ej').map (FH.le.refl h) hC fun hlj b hb => hg.block b (ok.own j r0 vj b e0 hlj ej' hb).2.1 fun e => hj ?_
        exact ok.inj j i r0 r vj u b e0 hlj hT hl ej' hu hb (hrow b e.symm)
    own := by
      intro j rj vj b ej hlj ej' hb
      by_cases hj : j = i
      · subst hj
        rw [List.getElem?_set_self hi'] at ej'
        cases ej'; exact own_v b hb
      · obtain ⟨r0, e0, rfl⟩ := get hj ej
        rw [List.getElem?_set_ne (Ne.symm hj)] at ej'
        obtain ⟨a1, a2, a3⟩ := ok.own j r0 vj b e0 (by rw [← mR_live f]; exact hlj) ej' hb
        exact ⟨a1, Nat.lt_of_lt_of_le a2 hg.size, a3⟩
    inj := by
      intro j k r1 r2 u1 u2 b e1 l1 e2 l2 e3 e4 b1 b2
      by_cases hj : j = i <;> by_cases hk : k = i
      · rw [hj, hk]
      · exfalso
        subst hj
        rw [List.getElem?_set_self hi'] at e3; cases e3
        obtain ⟨r0, e0, rfl⟩ := get hk e2
        rw [List.getElem?_set_ne (Ne.symm hk)] at e4
        exact apart k r0 u2 b hk e0 (by rw [← mR_live f]; exact l2) e4 b2 b1
      · exfalso
        subst hk
        rw [List.getElem?_set_self hi'] at e4; cases e4
        obtain ⟨r0, e0, rfl⟩ := get hj e1
        rw [List.getElem?_set_ne (Ne.symm hj)] at e3
        exact apart j r0 u1 b hj e0 (by rw [← mR_live f]; exact l1) e3 b1 b2
      · obtain ⟨r0, e0, rfl⟩ := get hj e1
        obtain ⟨r0', e0', rfl⟩ := get hk e2
        rw [List.getElem?_set_ne (Ne.symm hj)] at e3
        rw [List.getElem?_set_ne (Ne.symm hk)] at e4
        exact ok.inj j k r0 r0' u1 u2 b e0 (by rw [← mR_live f]; exact l1) e0' (by rw [← mR_live f]; exact l2) e3 e4 b1 b2
    hle := ok.hle
    hw := frozen_kept ok.hw hg fun k e => (own_i k (hrow k e)).2.2
    hg := ok.hg
    kn := ok.kept hg fun b e => (ok.holds i r u hT hu).cells hl (hrow b e) }
theorem OK.addX {T : List Res} (ok : OK B h0 T h β w) {r : Res} {v : RV}
    (hX : ∀ b, v.has b → B.al b ∧ b < w.heap.size ∧ (∀ o, h b o = none) ∧ ∀ (j : Nat) (rj : Res) (vj : RV), T[j]? = some rj → rj.live = true → β[j]? = some vj → ¬ vj.has b) (hold : Holds h (β ++ [v]) w r v) :
    OK B h0 (T ++ [r]) h (β ++ [v]) w where
  below := ok.below
  dr := ok.dr
  len := by simp [ok.len]
  holds := by
    intro i r' v' e e'
    rcases getElem?_append_some e with ⟨hi, e⟩ | ⟨hi, rfl⟩
    · rcases getElem?_append_some e' with ⟨_, e'⟩ | ⟨hj, _⟩
      · exact (ok.holds i r' v' e e').move (FH.le.refl h) (Ext.append _ _) fun hl b hb => rfl
      · have := ok.len; omega
    · rcases getElem?_append_some e' with ⟨hj, e'⟩ | ⟨_, rfl⟩
      · have := ok.len; omega
      · exact hold
  own := by
    intro i r' v' b e hl e' hb
    rcases getElem?_append_some e' with ⟨hj, e'⟩ | ⟨hj, rfl⟩
    · rcases getElem?_append_some e with ⟨_, e⟩ | ⟨hi, rfl⟩
      · exact ok.own i r' v' b e hl e' hb
      · have := ok.len; omega
    · obtain ⟨h1, h2, h3, _⟩ := hX b hb
      exact ⟨h1, h2, h3⟩
  inj := by
    intro i j r1 r2 u v' b ei hl1 ej hl2 eu ev hu hv'
    have L := ok.len
    rcases getElem?_append_some ei with ⟨hi, ei⟩ | ⟨hi, _⟩ <;> rcases getElem?_append_some ej with ⟨hj, ej⟩ | ⟨hj, _⟩ <;>
      rcases getElem?_append_some eu with ⟨hi', eu⟩ | ⟨hi', rfl⟩ <;> rcases getElem?_append_some ev with ⟨hj', ev⟩ | ⟨hj', rfl⟩ <;> first
        | omega
        | exact ok.inj i j r1 r2 u v' b ei hl1 ej hl2 eu ev hu hv'
        | exact ((hX b hv').2.2.2 i r1 u ei hl1 eu hu).elim
        | exact ((hX b hu).2.2.2 j r2 v' ej hl2 ev hv').elim
  hle := ok.hle
  hw := ok.hw
  hg := ok.hg
  kn := ok.kn
/-! A row is read as one whose elements may have rows of their own. -/
@[reducible] def noOwn : Nat → Bool := fun _ => false
def noRows : Nat → Value := fun _ => nilS
theorem noRows_blk (j : Nat) : rowBlk (noRows j) = none := rfl
theorem deepen_holds {t : TypeId} {s : Sh} {l : List s.den} {tt : TypeId} {e : Sh} {so : Nat} {v : Value} (x : RowH h w t s l v) : DeepH h w t s l tt e so noOwn [] v noRows := by
  refine ⟨fun j k b hb => (by rw [noRows_blk] at hb; cases hb), fun j b hb => (by rw [noRows_blk] at hb; cases hb), ?_⟩
  rcases x with x | x | ⟨g, cap, cur, e0, e1, e2, e3, e4, r⟩
  · exact .inl x
  · exact .inr (.inl x)
  · refine .inr (.inr ⟨g, cap, cur, e0, e1, e2, e3, e4, fun j => by rw [noRows_blk]; simp, fun j d hd => ?_⟩)
    obtain ⟨g1, g2⟩ := r.get (fun _ _ => Rd.size s) hd
    refine ⟨?_, noRows_blk j⟩
    have hj := (List.getElem?_eq_some_iff.1 hd).1
    have hm : (j + 1) * s.size ≤ l.length * s.size := Nat.mul_le_mul_right _ hj
    rw [Nat.succ_mul] at hm
    have e5 : List.take s.size (List.drop (j * s.size) (List.take (l.length * s.size) cur.toList)) = List.take s.size (List.drop (j * s.size) cur.toList) := by
      apply List.ext_getElem?
      intro p
      simp only [List.getElem?_take, List.getElem?_drop]
      split
      · rw [if_pos (by omega)]
      · rfl
    rw [e5] at g1
    exact g1
@[reducible] def deepS (s : St) (i : Nat) (tt : TypeId) (e : Sh) (so : Nat) : St := match nthL s.T i with
  | some ([], .row t sh l) => { s with T := setL s.T i ([], .deep t sh l tt e so noOwn []) }
  | _ => s
theorem mR_id (r : Res) : mR (fun x => x) r = r := by
  have : ∀ l : List SC, mapL (fun x => x) l = l := by
    intro l
    induction l with
    | nil => rfl
    | cons x l ih => simp [mapL, ih]
  cases r <;> simp [mR, this]
theorem Sat.deepS (sat : Sat N B h0 s h β w a) (i : Nat) (tt : TypeId) (e : Sh) (so : Nat) : ∃ β', Sat N B h0 (deepS s i tt e so) h β' w a := by
  unfold Eng.deepS
  split
  · rename_i t sh l hT
    have hT' := effres hT (show gv s.gl [] = true from rfl)
    have hlt : i < β.length := by rw [sat.ok.len]; exact (List.getElem?_eq_some_iff.1 hT').1
    have hu := List.getElem?_eq_getElem hlt
    have hold := sat.ok.holds i _ _ hT' hu
    cases hb : β[i] with
    | blk b => rw [hb] at hold; exact hold.elim
    | no => rw [hb] at hold; exact hold.elim
    | deep _ _ => rw [hb] at hold; exact hold.elim
    | row v =>
      rw [hb] at hold hu
      have hC : ∀ x y, CnC h β x y → CnC h (β.set i (.deep v noRows)) x y := by
        intro x y c
        have := CnC.js (us := noRows) (us' := noRows) hu (.inr rfl) c
        cases x with
        | sub j k =>
          obtain ⟨z, us2, e1, e2⟩ := c
          refine ⟨z, us2, ?_, e2⟩
          rw [set_get hu, if_neg]
          · exact e1
          · rintro rfl; rw [hu] at e1; cases e1
        | subp j k m sz off =>
          obtain ⟨z, us2, g, e1, e2⟩ := c
          refine ⟨z, us2, g, ?_, e2⟩
          rw [set_get hu, if_neg]
          · exact e1
          · rintro rfl; rw [hu] at e1; cases e1
        | _ => exact this
      refine ⟨β.set i (.deep v noRows), ?_, ?_, sat.gs, sat.defers, sat.sz, sat.gb, gT_set sat⟩
      · show OK B h0 (eff s.gl (setL s.T i ([], .deep t sh l tt e so noOwn []))) h _ w
        rw [effset]
        have := sat.ok.upd3 (f := fun x => x) (r' := .deep t sh l tt e so noOwn []) (v := .deep v noRows) (row := none) (X := fun _ => False) hT' rfl hu (grown_refl w none) (fun k e => by cases e) (fun b hb => hb.elim)
          (fun b hb => by
            rw [has_deep] at hb
            rcases hb with hb | ⟨j, hb⟩
            · exact .inl (has_row.2 hb)
            · rw [noRows_blk] at hb; cases hb) hC (deepen_holds hold)
        rwa [show (eff s.gl s.T).map (mR fun x => x) = eff s.gl s.T by rw [show (mR fun x => x) = id from funext mR_id]; simp] at this
      · intro t' G e' ht
        obtain ⟨z, q1, q2, q3⟩ := sat.env t' G e' ht
        refine ⟨z, q1, fun hG => ?_, q3⟩
        have := CnE.map (f := fun x => x) (FH.le.refl h) hC (q2 hG)
        have hid : mE (fun x => x) e' = e' := by
          have m1 : ∀ l : List SC, mapL (fun x => x) l = l := by
            intro l
            induction l with
            | nil => rfl
            | cons x l ih => simp [mapL, ih]
          have m2 : ∀ x : SV, mV (fun x => x) x = x := by intro x; cases x <;> simp [mV, m1]
          cases e' with
          | one x => simp [mE, m2]
          | tup xs =>
            have : ∀ l : List SV, mapL (mV fun x => x) l = l := by
              intro l
              induction l with
              | nil => rfl
              | cons x l ih => simp [mapL, ih, m2]
            simp [mE, this]
        rwa [hid] at this
  · exact ⟨β, sat⟩
/-! What becomes of the relation. -/
theorem DeepH.third {t : TypeId} {sh : Sh} {l : List sh.den} {tt : TypeId} {e : Sh} {so : Nat} {own : Nat → Bool} {hs : List Nat} {v : Value} {us : Nat → Value} (D : DeepH h w t sh l tt e so own hs v us) {j : Nat} (hj : j < l.length) :
    ∃ g cap cur, v = .slice (some ⟨g, 0, none⟩) l.length cap ∧ w.heap[g]? = some (.cells cur t (0, 0)) ∧ l.length ≤ cap ∧ (1 ≤ cap ∧ cap ≤ maxLen) ∧
      cur.size = cap * sh.size ∧ (∀ j, rowBlk (us j) ≠ some g) ∧ ∀ j d, l[j]? = some d → ElH h w sh tt e so (own j) (memH j hs) (us j) ((cur.toList.drop (j * sh.size)).take sh.size) d := by
  obtain ⟨_, _, D⟩ := D
  rcases D with ⟨_, e0⟩ | ⟨_, _, e0⟩ | D
  · subst e0; simp at hj
  · subst e0; simp at hj
  · exact D
theorem DeepH.get {t : TypeId} {sh : Sh} {l : List sh.den} {tt : TypeId} {e : Sh} {so : Nat} {own : Nat → Bool} {hs : List Nat} {v : Value} {us : Nat → Value} (D : DeepH h w t sh l tt e so own hs v us) {j : Nat} {d : sh.den} (hd : l[j]? = some d) (ho : own j = true) (hh : memH j hs = false)
    {x : List e.den} (hx : getF sh d so e = some x) : RowH h w tt e x (us j) := by
  obtain ⟨_, _, _, _, _, _, _, _, _, h6⟩ := D.third (List.getElem?_eq_some_iff.1 hd).1
  have h7 := h6 j d hd
  rw [ho, hh] at h7
  obtain ⟨d0, x', _, p, _, rw_⟩ := h7
  rw [getF_R p hx]; exact rw_
theorem DeepH.inner {t : TypeId} {sh : Sh} {l : List sh.den} {tt : TypeId} {e : Sh} {so : Nat} {own : Nat → Bool} {hs : List Nat} {v : Value} {us : Nat → Value} (D : DeepH h w t sh l tt e so own hs v us) {j : Nat} {d d' : sh.den} (hd : l[j]? = some d) (ho : own j = true) (hh : memH j hs = false)
    {w' : World} (fr : ∀ b, rowBlk (us j) ≠ some b → (∃ o, w.heap[b]? = some o) → w'.heap[b]? = w.heap[b]?) (ce : ∀ b, rowBlk (us j) = some b → ∃ o, w'.heap[b]? = some o ∧ ours o = true) {x' : List e.den} (hp : putF sh d so e x' = some d') (hr : RowH h w' tt e x' (us j)) : DeepH h w' t sh (l.set j d') tt e so own hs v us := by
  have hj := (List.getElem?_eq_some_iff.1 hd).1
  obtain ⟨g, cap, cur, e0, e1, e2, e3, e4, e5, e6⟩ := D.third hj
  obtain ⟨D1, D2, _⟩ := D
  have fr' : ∀ i b, i ≠ j → rowBlk (us i) = some b → w'.heap[b]? = w.heap[b]? := by
    intro i b hi hb
    obtain ⟨_, o, ho, _⟩ := D2 i b hb
    exact fr b (fun hh => hi (D1 i j b hb hh)) ⟨o, ho⟩
  refine ⟨D1, fun i b hb => ?_, .inr (.inr ⟨g, cap, cur, by rw [List.length_set]; exact e0, ?_, by rw [List.length_set]; exact e2, e3, e4, e5, fun i di hdi => ?_⟩)⟩
  · rw [List.length_set]
    obtain ⟨q1, o, q2, q3⟩ := D2 i b hb
    by_cases hi : i = j
    · subst hi; exact ⟨q1, ce b hb⟩
    · exact ⟨q1, o, by rw [fr' i b hi hb]; exact q2, q3⟩
  · rw [fr g (e5 j) ⟨_, e1⟩]; exact e1
  · by_cases hi : i = j
    · subst hi
      rw [List.getElem?_set_self hj] at hdi
      cases hdi
      have h7 := e6 i d hd
      rw [ho, hh] at h7 ⊢
      obtain ⟨d0, y, r, p, c, q⟩ := h7
      exact ⟨d0, x', r, p.trans (putF_R hp), c, hr⟩
    · rw [List.getElem?_set_ne (Ne.symm hi)] at hdi
      exact (e6 i di hdi).move (FH.le.refl h) fun b hb => fr' i b hi hb
theorem DeepH.write {t : TypeId} {sh : Sh} {l : List sh.den} {tt : TypeId} {e : Sh} {so : Nat} {own own' : Nat → Bool} {hs hs' : List Nat} {v : Value} {us us' : Nat → Value} (D : DeepH h w t sh l tt e so own hs v us) {j : Nat} {d d' : sh.den} (hd : l[j]? = some d)
    {g cap : Nat} {cur : Array Value} (hv : v = .slice (some ⟨g, 0, none⟩) l.length cap) (hw : w.heap[g]? = some (.cells cur t (0, 0))) {off k : Nat} (hk : off + k ≤ sh.size) {cs' : List Value} (hc : cs'.length = k)
    (same : ∀ i, i ≠ j → own' i = own i ∧ memH i hs' = memH i hs ∧ us' i = us i) (apart : ∀ i b, i ≠ j → rowBlk (us i) = some b → rowBlk (us' j) ≠ some b) (bl : ∀ b, rowBlk (us' j) = some b → b ≠ g ∧ ∃ o, w.heap[b]? = some o ∧ ours o = true)
    (el : ∀ (w' : World) cs, (∀ b, b ≠ g → w'.heap[b]? = w.heap[b]?) → cs.length = sh.size → ElH h w sh tt e so (own j) (memH j hs) (us j) cs d → ElH h w' sh tt e so (own' j) (memH j hs') (us' j) (cs.take off ++ cs' ++ cs.drop (off + k)) d') :
    j * sh.size + off + k ≤ cur.size ∧ DeepH h (w.setRow g (cur.toList.take (j * sh.size + off) ++ cs' ++ cur.toList.drop (j * sh.size + off + k)).toArray) t sh (l.set j d') tt e so own' hs' v us' := by
  have hj := (List.getElem?_eq_some_iff.1 hd).1
  obtain ⟨g2, cap2, cur2, e0, e1, e2, e3, e4, e5, e6⟩ := D.third hj
  rw [hv] at e0
  have eg : g = g2 ∧ cap = cap2 := by simpa using e0
  obtain ⟨rfl, rfl⟩ := eg
  rw [hw] at e1
  have ec : cur = cur2 := by simpa using e1
  subst ec
  obtain ⟨D1, D2, _⟩ := D
  have lc : cur.toList.length = cap * sh.size := by simpa using e4
  have hm : (j + 1) * sh.size ≤ cap * sh.size := Nat.mul_le_mul_right _ (by omega)
  rw [Nat.succ_mul] at hm
  refine ⟨by omega, ?_⟩
  generalize hw' : w.setRow g (cur.toList.take (j * sh.size + off) ++ cs' ++ cur.toList.drop (j * sh.size + off + k)).toArray = w'
  have fr : ∀ b, b ≠ g → w'.heap[b]? = w.heap[b]? := fun b hb => by rw [← hw']; exact setRow_other w g b _ hb
  have hg' : w'.heap[g]? = some (.cells (cur.toList.take (j * sh.size + off) ++ cs' ++ cur.toList.drop (j * sh.size + off + k)).toArray t (0, 0)) := by rw [← hw']; exact setRow_heap w g _ _ t (0, 0) hw
  have ne : ∀ i b, rowBlk (us i) = some b → b ≠ g := fun i b hb hh => e5 i (by rw [hb, hh])
  refine ⟨fun i k b h1 h2 => ?_, fun i b hb => ?_, .inr (.inr ⟨g, cap, _, by rw [List.length_set]; exact hv, hg', by rw [List.length_set]; exact e2, e3, ?_, fun i hb => ?_, fun i di hdi => ?_⟩)⟩
  · by_cases hi : i = j <;> by_cases hk : k = j
    · rw [hi, hk]
    · subst hi
      rw [(same k hk).2.2] at h2
      exact (apart k b hk h2 h1).elim
    · subst hk
      rw [(same i hi).2.2] at h1
      exact (apart i b hi h1 h2).elim
    · rw [(same i hi).2.2] at h1
      rw [(same k hk).2.2] at h2
      exact D1 i k b h1 h2
  · rw [List.length_set]
    by_cases hi : i = j
    · subst hi
      obtain ⟨q1, o, q2, q3⟩ := bl b hb
      exact ⟨hj, o, by rw [fr b q1]; exact q2, q3⟩
    · rw [(same i hi).2.2] at hb
      obtain ⟨q1, o, q2, q3⟩ := D2 i b hb
      exact ⟨q1, o, by rw [fr b (ne i b hb)]; exact q2, q3⟩
  · simp only [List.size_toArray, List.length_append, List.length_take, List.length_drop]; omega
  · by_cases hi : i = j
    · subst hi; exact (bl g hb).1 rfl
    · rw [(same i hi).2.2] at hb; exact e5 i hb
  · by_cases hi : i = j
    · subst hi
      rw [List.getElem?_set_self hj] at hdi
      cases hdi
      have h7 := el w' _ fr (by rw [List.length_take, List.length_drop]; omega) (e6 i d hd)
      have key : List.take sh.size (List.drop (i * sh.size) (List.take (i * sh.size + off) cur.toList ++ cs' ++ List.drop (i * sh.size + off + k) cur.toList)) = List.take off (List.take sh.size (List.drop (i * sh.size) cur.toList)) ++ cs' ++ List.drop (off + k) (List.take sh.size (List.drop (i * sh.size) cur.toList)) := by
        apply List.ext_getElem?
        intro p
        simp only [List.getElem?_append, List.getElem?_take, List.getElem?_drop, List.length_append, List.length_take, List.length_drop, lc, hc]
        repeat' split
        all_goals first | rfl | omega | (congr 1; omega) | (rw [List.getElem?_eq_none (by omega)]) | (exfalso; omega) | skip
      simp only at key ⊢
      rw [key]; exact h7
    · rw [List.getElem?_set_ne (Ne.symm hi)] at hdi
      obtain ⟨q1, q2, q3⟩ := same i hi
      rw [q1, q2, q3]
      have h7 := (e6 i di hdi).move (w' := w') (FH.le.refl h) fun b hb => fr b (ne i b hb)
      have hi2 := (List.getElem?_eq_some_iff.1 hdi).1
      have hm2 : (i + 1) * sh.size ≤ cap * sh.size := Nat.mul_le_mul_right _ (by omega)
      rw [Nat.succ_mul] at hm2
      have hne : i * sh.size + sh.size ≤ j * sh.size ∨ j * sh.size + sh.size ≤ i * sh.size := by
        rcases Nat.lt_or_gt_of_ne hi with hh | hh
        · left
          have : (i + 1) * sh.size ≤ j * sh.size := Nat.mul_le_mul_right _ hh
          rwa [Nat.succ_mul] at this
        · right
          have : (j + 1) * sh.size ≤ i * sh.size := Nat.mul_le_mul_right _ hh
          rwa [Nat.succ_mul] at this
      have key : List.take sh.size (List.drop (i * sh.size) (List.take (j * sh.size + off) cur.toList ++ cs' ++ List.drop (j * sh.size + off + k) cur.toList)) = List.take sh.size (List.drop (i * sh.size) cur.toList) := by
        apply List.ext_getElem?
        intro p
        simp only [List.getElem?_append, List.getElem?_take, List.getElem?_drop, List.length_append, List.length_take, List.length_drop, lc, hc]
        repeat' split
        all_goals first | rfl | omega | (congr 1; omega) | (rw [List.getElem?_eq_none (by omega)]) | (exfalso; omega) | skip
      simp only at key ⊢
      rw [key]; exact h7
@[reducible] def unRow (us : Nat → Value) (j : Nat) : Nat → Value := fun k => if k = j then nilS else us k
theorem DeepH.open {t : TypeId} {sh : Sh} {l : List sh.den} {tt : TypeId} {e : Sh} {so : Nat} {own : Nat → Bool} {v : Value} {us : Nat → Value} (D : DeepH h w t sh l tt e so own [] v us) {j : Nat} {d : sh.den} (hd : l[j]? = some d) (ho : own j = true) : DeepH h w t sh l tt e so own [j] v (unRow us j) := by
  have hj := (List.getElem?_eq_some_iff.1 hd).1
  obtain ⟨g, cap, cur, e0, e1, e2, e3, e4, e5, e6⟩ := D.third hj
  obtain ⟨D1, D2, _⟩ := D
  have sub : ∀ i b, rowBlk (unRow us j i) = some b → i ≠ j ∧ rowBlk (us i) = some b := by
    intro i b hb
    unfold unRow at hb
    split at hb
    · cases hb
    · rename_i hi; exact ⟨hi, hb⟩
  refine ⟨fun i k b h1 h2 => D1 i k b (sub i b h1).2 (sub k b h2).2, fun i b hb => D2 i b (sub i b hb).2, .inr (.inr ⟨g, cap, cur, e0, e1, e2, e3, e4, fun i hb => e5 i (sub i g hb).2, fun i di hdi => ?_⟩)⟩
  have h7 := e6 i di hdi
  by_cases hi : i = j
  · subst hi
    rw [ho] at h7
    obtain ⟨d0, y, r, p, c, q⟩ := h7
    have e7 : memH i [i] = true := by simp [memH]
    rw [e7]
    refine ⟨by simp [unRow, nilS, rowBlk], d0, y, r, p, us i, c, ?_⟩
    rcases q with ⟨e1, _⟩ | ⟨_, e1, _⟩ | ⟨_, _, _, e1, _⟩ <;> rw [e1] <;> exact ⟨rfl, rfl⟩
  · have e7 : memH i [j] = false := by simp [memH, hi]
    have e8 : unRow us j i = us i := by simp [unRow, hi]
    rw [e7, e8]; exact h7
/-! Stores. -/
theorem updD_put : ∀ {s : Sh} {so : Nat} {e : Sh} {d0 d d' : s.den} {x : List e.den} {off k : Nat} {v : SV}, PutR s so e d0 x d → off + k ≤ so ∨ so + 1 ≤ off → updD s d off k v = some d' → ∃ d0', updD s d0 off k v = some d0' ∧ PutR s so e d0' x d'
  | .sl s, so, e, d0, d, d', x, off, k, v, ⟨h1, _, _⟩, hd, h => by
    exfalso
    unfold updD at h
    split at h
    · rename_i hh
      rw [andB_eq, Bool.and_eq_true] at hh
      have a1 := Nat.eq_of_beq_eq_true hh.1
      have a2 : 1 = k := Nat.eq_of_beq_eq_true hh.2
      omega
    · cases h
  | .pair a b, so, e, (p0, q0), (p, q), d', x, off, k, v, hp, hd, h => by
    have hlt : so < a.size + b.size := PutR.lt hp
    unfold updD at h ⊢
    cases hw : andB (Nat.beq off 0) (Nat.beq (a.size + b.size) k) with
    | true =>
      rw [andB_eq, Bool.and_eq_true] at hw
      have a1 := Nat.eq_of_beq_eq_true hw.1
      have a2 := Nat.eq_of_beq_eq_true hw.2
      omega
    | false =>
      rw [hw] at h
      simp only at h ⊢
      cases hle : Nat.ble (off + 1) a.size with
      | true =>
        rw [hle] at h
        simp only at h ⊢
        have hle := Nat.le_of_ble_eq_true hle
        split at h
        · rename_i y hy
          cases h
          rcases hp with ⟨g1, e1, h1⟩ | ⟨g1, e1, h1⟩
          · subst e1
            rw [hy]
            exact ⟨_, rfl, .inl ⟨g1, rfl, h1⟩⟩
          · obtain ⟨z, hz, h2⟩ := updD_put h1 hd hy
            rw [hz]
            exact ⟨_, rfl, .inr ⟨g1, e1, h2⟩⟩
        · cases h
      | false =>
        rw [hle] at h
        simp only at h ⊢
        have hle := ble_false hle
        split at h
        · rename_i y hy
          cases h
          rcases hp with ⟨g1, e1, h1⟩ | ⟨g1, e1, h1⟩
          · obtain ⟨z, hz, h2⟩ := updD_put h1 (by omega) hy
            rw [hz]
            exact ⟨_, rfl, .inl ⟨g1, e1, h2⟩⟩
          · subst e1
            rw [hy]
            exact ⟨_, rfl, .inr ⟨g1, rfl, h1⟩⟩
        · cases h
  | .int _, _, _, _, _, _, _, _, _, _, h, _, _ => h.elim
  | .bool, _, _, _, _, _, _, _, _, _, h, _, _ => h.elim
  | .str, _, _, _, _, _, _, _, _, _, h, _, _ => h.elim
  | .any, _, _, _, _, _, _, _, _, _, h, _, _ => h.elim
  | .unit, _, _, _, _, _, _, _, _, _, h, _, _ => h.elim
  | .arr _ _, _, _, _, _, _, _, _, _, _, h, _, _ => h.elim
theorem set_mid {cs cs' : List Value} {off k so : Nat} {z : Value} (hk : cs'.length = k) (hl : off + k ≤ cs.length) (hd : off + k ≤ so ∨ so + 1 ≤ off) :
    (cs.set so z).take off ++ cs' ++ (cs.set so z).drop (off + k) = (cs.take off ++ cs' ++ cs.drop (off + k)).set so z := by
  apply List.ext_getElem?
  intro p
  simp only [List.getElem?_append, List.getElem?_take, List.getElem?_drop, List.length_append, List.length_take, List.length_drop, List.getElem?_set, List.length_set, hk]
  repeat' split
  all_goals first | rfl | omega | (congr 1; omega) | (exfalso; omega) | skip
theorem ElH.upd {s : Sh} {tt : TypeId} {e : Sh} {so : Nat} {own hole : Bool} {u : Value} {cs : List Value} {d d' : s.den} {off k : Nat} {v : SV} {y : Value} (x : ElH h w s tt e so own hole u cs d) (dis : off + k ≤ so ∨ so + 1 ≤ off)
    (hu : updD s d off k v = some d') (c : CnV h β v y) : ∃ cs', y.cells = cs'.toArray ∧ cs'.length = k ∧ (∀ u ∈ cs', oneC u) ∧ off + k ≤ cs.length ∧ ElH h w s tt e so own hole u (cs.take off ++ cs' ++ cs.drop (off + k)) d' := by
  have getso : ∀ {cs' : List Value} {z : Value}, cs'.length = k → off + k ≤ cs.length → cs[so]? = some z → (cs.take off ++ cs' ++ cs.drop (off + k))[so]? = some z := by
    intro cs' z hk hl hz
    have hlt := (List.getElem?_eq_some_iff.1 hz).1
    rcases dis with dis | dis
    · rw [List.getElem?_append_right (by simp only [List.length_append, List.length_take]; omega), List.getElem?_drop, ← hz]
      congr 1
      simp only [List.length_append, List.length_take]; omega
    · rw [List.getElem?_append_left (by simp only [List.length_append, List.length_take]; omega), List.getElem?_append_left (by simp only [List.length_take]; omega), List.getElem?_take, if_pos (by omega)]
      exact hz
  unfold ElH at x ⊢
  cases hole with
  | false =>
    cases own with
    | false =>
      obtain ⟨cs', e1, e2, e3, e4, e5⟩ := updD_ok s hu x.1 c
      exact ⟨cs', e1, e2, e3, e4, e5, x.2⟩
    | true =>
      obtain ⟨d0, z, r, p, cu, q⟩ := x
      obtain ⟨d0', h1, h2⟩ := updD_put p dis hu
      obtain ⟨cs', e1, e2, e3, e4, e5⟩ := updD_ok s h1 r c
      rw [List.length_set] at e4
      rw [set_mid e2 e4 dis] at e5
      exact ⟨cs', e1, e2, e3, e4, d0', z, e5, h2, getso e2 e4 cu, q⟩
  | true =>
    obtain ⟨x0, d0, z, r, p, y0, cu, q⟩ := x
    obtain ⟨d0', h1, h2⟩ := updD_put p dis hu
    obtain ⟨cs', e1, e2, e3, e4, e5⟩ := updD_ok s h1 r c
    rw [List.length_set] at e4
    rw [set_mid e2 e4 dis] at e5
    exact ⟨cs', e1, e2, e3, e4, x0, d0', z, e5, h2, y0, getso e2 e4 cu, q⟩
@[reducible] def ownAt (own : Nat → Bool) (j : Nat) : Nat → Bool := fun k => cnd (decide (k = j)) true (own k)
@[reducible] def rowOf : SV → Option Nat
  | .c (.row q) => some q
  | _ => none
@[reducible] def holeK (hs : List Nat) (j : Nat) (K : Prop) : Prop := match hs with
  | [] => K
  | [k] => j = k ∧ K
  | _ => False
@[reducible] def dstoreK (s : St) (d : Option Nat) (i : TI) (r j sz off : Nat) (tt : TypeId) (sh : Sh) (l : List sh.den) (t2 : TypeId) (e : Sh) (so : Nat) (own : Nat → Bool) (hs : List Nat) (v : SV) (K : St → Prop) : Prop := match Nat.beq sz sh.size with
  | false => False
  | true => match orB' (Nat.ble (off + i.size) so) (Nat.ble (so + 1) off) with
    | true => (j < l.length) ∧ ∀ e0 : sh.den, l[j]? = some e0 → match updD sh e0 off i.size v with
      | some dd => K ({ s with T := setL s.T r ([], .deep tt sh (l.set j dd) t2 e so own hs) }.put d [] (.one .und))
      | none => False
    | false => match rowOf v with
      | some q => match nthL s.T q with
        | some ([], .row tq eq x) => match andB (Nat.beq tq t2) (andB (Nat.beq off so) (Nat.beq i.size 1)) with
          | true => match castD (.sl eq) x (.sl e) with
            | some x => (j < l.length) ∧ holeK hs j (∀ e0 : sh.den, l[j]? = some e0 → match putF sh e0 so e x with
              | some dd => K ({ s with T := setL (mT (jsC r) (setL s.T q ([], .gone))) r ([], .deep tt sh (l.set j dd) t2 e so (ownAt own j) []), env := mEnv (jsC r) s.env }.put d [] (.one .und))
              | none => False)
            | none => False
          | false => False
        | _ => False
      | none => False
@[reducible] def dstP (cx : Cx) (s : St) (d : Option Nat) (t : TypeId) (p x : Operand) (K : St → Prop) : Option Prop := match lkT cx.ti t with
  | none => none
  | some i => match getE cx s [] p with
    | some (.one (.c (.rowp r j sz off))) => match nthL s.T r with
      | some ([], .deep tt sh l t2 e so own hs) => match getE cx s [] x with
        | some (.one v) => some (dstoreK s d i r j sz off tt sh l t2 e so own hs v K)
        | _ => none
      | _ => none
    | some (.one (.c (.subp r j k sz off))) => match nthL s.T r with
      | some ([], .deep tt sh l t2 e so own hs) => match getE cx s [] x with
        | some (.one v) => some (match Nat.beq sz e.size with
          | false => False
          | true => (own j = true ∧ memH j hs = false ∧ j < l.length) ∧ ∀ d0 : sh.den, l[j]? = some d0 → match getF sh d0 so e with
            | some xs => (k < xs.length) ∧ ∀ y : e.den, xs[k]? = some y → match updD e y off i.size v with
              | some y' => match putF sh d0 so e (xs.set k y') with
                | some dd => K ({ s with T := setL s.T r ([], .deep tt sh (l.set j dd) t2 e so own hs) }.put d [] (.one .und))
                | none => False
              | none => False
            | none => False)
        | _ => none
      | _ => none
    | _ => none
set_option maxHeartbeats 4000000 in
theorem RowH.write {t : TypeId} {sh : Sh} {l : List sh.den} {u : Value} (x : RowH h w t sh l u) {g j off k : Nat} {d dd : sh.den} (hg : rowBlk u = some g) (hd : l[j]? = some d) {y : Value} (up : ∀ {cs : List Value}, Rd h sh cs d → Upd h sh cs off k y dd) :
    ∃ cur, w.heap[g]? = some (.cells cur t (0, 0)) ∧ j * sh.size + off + k ≤ cur.size ∧ y.cells.size = k ∧ (∀ z ∈ y.cells.toList, oneC z) ∧ RowH h (w.setRow g (cur.toList.take (j * sh.size + off) ++ y.cells.toList ++ cur.toList.drop (j * sh.size + off + k)).toArray) t sh (l.set j dd) u := by
  have hj := (List.getElem?_eq_some_iff.1 hd).1
  rcases x with ⟨hv0, _⟩ | ⟨_, hv0, _⟩ | ⟨g', cap, cur, hv0, he, q2, q3, q4, q5⟩
  · subst hv0; simp [rowBlk] at hg
  · subst hv0; simp [rowBlk] at hg
  · have hgg : g' = g := by rw [hv0, rowBlk_own q3.1] at hg; exact Option.some.inj hg
    subst hgg
    have hm : (j + 1) * sh.size ≤ l.length * sh.size := Nat.mul_le_mul_right _ hj
    have hm2 : l.length * sh.size ≤ cap * sh.size := Nat.mul_le_mul_right _ q2
    rw [Nat.succ_mul] at hm
    obtain ⟨g1, g2⟩ := q5.get (fun _ _ => Rd.size sh) hd
    have gl := Rd.size sh g1
    obtain ⟨cs', ec, e2, e3, e4, e5⟩ := up g1
    rw [gl] at e4
    have lc : cur.toList.length = cap * sh.size := by simpa using q4
    refine ⟨cur, he, by omega, by rw [ec]; simpa using e2, fun z hz => e3 z (by rw [ec] at hz; simpa using hz), .inr (.inr ⟨g', cap, _, by rw [List.length_set]; exact hv0, setRow_heap w g' _ _ t (0, 0) he, by rw [List.length_set]; exact q2, q3, ?_, ?_⟩)⟩
    · rw [ec]
      simp only [List.size_toArray, List.length_append, List.length_take, List.length_drop, Array.length_toList]; omega
    · rw [List.length_set, ec]
      show RdL (Rd h sh) ((List.take (j * sh.size + off) cur.toList ++ cs' ++ List.drop (j * sh.size + off + k) cur.toList).take (l.length * sh.size)) (l.set j dd)
      have e := RdL.set (fun _ _ => Rd.size sh) q5 hj e5
      have key : (List.take (j * sh.size + off) cur.toList ++ cs' ++ List.drop (j * sh.size + off + k) cur.toList).take (l.length * sh.size) =
          List.take (j * sh.size) (List.take (l.length * sh.size) cur.toList) ++ (List.take off (List.take sh.size (List.drop (j * sh.size) (List.take (l.length * sh.size) cur.toList))) ++ cs' ++ List.drop (off + k) (List.take sh.size (List.drop (j * sh.size) (List.take (l.length * sh.size) cur.toList)))) ++ List.drop (j * sh.size + sh.size) (List.take (l.length * sh.size) cur.toList) := by
        apply List.ext_getElem?
        intro p
        simp only [List.getElem?_append, List.getElem?_take, List.getElem?_drop, List.length_append, List.length_take, List.length_drop, lc, e2]
        repeat' split
        all_goals first | rfl | omega | (congr 1; omega) | (rw [List.getElem?_eq_none (by omega)]) | (exfalso; omega) | skip
      rw [key]; exact e
theorem take_set {cs : List Value} {o : Nat} {y : Value} (h : o < cs.length) : cs.take o ++ [y] ++ cs.drop (o + 1) = cs.set o y := by
  rw [List.set_eq_take_append_cons_drop, if_pos h]; simp
set_option maxHeartbeats 4000000 in
theorem dst_step (hc : TisOK P cx.ti) (sat : Sat N B h0 s h β w a) (hg : GlobOK cx.gd h) (hd : dOK N o.dst = true) {t : TypeId} {p x : Operand} (ho : o.op = .store t p x) {q : Prop} (hq : dstP cx s o.dst t p x K = some q) (k : q) :
    OpOK P N B h0 h w a o (gv s.gl []) K := by
  have tr : gv s.gl [] = true := rfl
  unfold dstP at hq
  split at hq
  · cases hq
  rename_i i hi
  have ti := hc.get hi
  have exec : ∀ {w' : World} {v pv : Value}, a.eval x = v → a.eval p = pv → (Instr.storeAt t pv v).run P w = .ok () w' → (execOp a.eval o).run P w = .ok .skip w' := by
    intro w' v pv e1 e2 r
    simp only [execOp, ho, e1, e2, Sem.run_bind, r, Result.andThen_ok, Sem.run_pure]
  split at hq
  · rename_i r j sz off hp
    obtain ⟨⟨v0, g, hb, hgb, ep⟩, _⟩ := getE_ok sat hg tr hp
    split at hq
    · rename_i tt sh l t2 e so own hs hT
      have hT' := effres hT tr
      have hold := sat.ok.holds r _ _ hT' hb
      split at hq
      · rename_i v hv
        have cv := getE_ok sat hg tr hv
        cases hq
        match v0, hold, hgb, hb with
        | .deep vv us, D, hgb, hb =>
          have D : DeepH h w tt sh l t2 e so own hs vv us := D
          have hgb : rowBlk vv = some g := hgb
          have outer : ∀ {j : Nat}, j < l.length → ∃ cap cur, vv = .slice (some ⟨g, 0, none⟩) l.length cap ∧ w.heap[g]? = some (.cells cur tt (0, 0)) ∧ ∀ d, l[j]? = some d → ElH h w sh t2 e so (own j) (memH j hs) (us j) ((cur.toList.drop (j * sh.size)).take sh.size) d ∧ (j + 1) * sh.size ≤ cur.size := by
            intro j hj
            obtain ⟨g2, cap, cur, e0, e1, e2, e3, e4, e5, e6⟩ := D.third hj
            rw [e0, rowBlk_own e3.1] at hgb
            cases hgb
            refine ⟨cap, cur, e0, e1, fun d hd => ⟨e6 j d hd, ?_⟩⟩
            rw [e4]; exact Nat.mul_le_mul_right _ (by omega)
          unfold dstoreK at k
          split at k
          · exact k.elim
          rename_i hz
          have hz : sz = sh.size := Nat.eq_of_beq_eq_true hz
          split at k
          · rename_i hdis
            have hdis : off + i.size ≤ so ∨ so + 1 ≤ off := by
              unfold orB' at hdis
              split at hdis
              · rename_i hh; exact .inl (Nat.le_of_ble_eq_true hh)
              · exact .inr (Nat.le_of_ble_eq_true hdis)
            obtain ⟨hj, k⟩ := k
            have k := k _ (List.getElem?_eq_getElem hj)
            split at k
            · rename_i dd hdd
              obtain ⟨cap, cur, e0, e1, e2⟩ := outer hj
              obtain ⟨el, hsz⟩ := e2 _ (List.getElem?_eq_getElem hj)
              obtain ⟨cs', ec, c2, c3, c4, c5⟩ := el.upd hdis hdd cv
              rw [Nat.succ_mul] at hsz
              have hcl : ((cur.toList.drop (j * sh.size)).take sh.size).length = sh.size := by rw [List.length_take, List.length_drop, Array.length_toList]; omega
              rw [hcl] at c4
              obtain ⟨f1, f2⟩ := D.write (own' := own) (hs' := hs) (us' := us) (d' := dd) (cs' := cs') (off := off) (k := i.size) (List.getElem?_eq_getElem hj) e0 e1 c4 c2 (fun _ _ => ⟨rfl, rfl, rfl⟩) (fun i' b hi' hb' hb2 => hi' (D.1 _ _ b hb' hb2)) (fun b hb' => ⟨fun hh => (D.third hj).elim fun g2 z => by
                  obtain ⟨cap2, cur2, f0, _, f3, f4, _, f5, _⟩ := z
                  rw [f0, rowBlk_own f4.1] at hgb
                  cases hgb
                  exact f5 j (by rw [hb', hh]), (D.2.1 j b hb').2⟩) (fun w' cs fr hl ex => by
                  obtain ⟨cs2, ec2, _, _, _, ex2⟩ := ex.upd hdis hdd cv
                  have : cs2 = cs' := by rw [ec] at ec2; simpa using ec2.symm
                  subst this
                  refine ex2.move (FH.le.refl h) fun b hb' => fr b fun hh => ?_
                  obtain ⟨g2, cap2, cur2, f0, _, _, f4, _, f5, _⟩ := D.third hj
                  rw [f0, rowBlk_own f4.1] at hgb
                  cases hgb
                  exact f5 j (by rw [hb', hh]))
              have r1 := run_storeVar_at (o := j * sz + off) (v := a.eval x) ti e1 (by rw [ec]; simpa using c2) (by rw [hz]; omega) (by rw [ec]; intro u hu; exact c3 u (by simpa using hu))
              refine store_in sat (by rw [ho]; rfl) hd hT rfl hb hgb ?_ (exec rfl ep r1) k
              rw [ec, hz]
              exact f2
            · exact k.elim
          · split at k
            · rename_i q hq0
              split at k
              · rename_i tq eq x0 hTq
                have hTq' := effres hTq tr
                split at k
                · rename_i hcs
                  rw [andB_eq, andB_eq, Bool.and_eq_true, Bool.and_eq_true] at hcs
                  have a0 : tq = t2 := Nat.eq_of_beq_eq_true hcs.1
                  have a1 : off = so := Nat.eq_of_beq_eq_true hcs.2.1
                  have a2 : i.size = 1 := Nat.eq_of_beq_eq_true hcs.2.2
                  subst a0; subst a1
                  split at k
                  · rename_i x1 hx1
                    obtain ⟨e1, e2⟩ := castSl hx1
                    subst e1; simp only at e2; subst e2
                    obtain ⟨hj, k⟩ := k
                    have hv1 : v = .c (.row q) := by
                      unfold rowOf at hq0
                      split at hq0
                      · cases hq0; rfl
                      · cases hq0
                    subst hv1
                    have hbq := sat.ok.row_of hTq' cv.1
                    have hrow : RowH h w tq eq x0 (a.eval x) := sat.ok.holds q _ _ hTq' hbq
                    have hone : oneC (a.eval x) := cv.2
                    have hqr : q ≠ r := by rintro rfl; rw [hTq'] at hT'; cases hT'
                    have kk : (∀ i', i' ≠ j → memH i' hs = false) ∧ ∀ e0 : sh.den, l[j]? = some e0 → match putF sh e0 off eq x0 with
                        | some dd => K ({ s with T := setL (mT (jsC r) (setL s.T q ([], .gone))) r ([], .deep tt sh (l.set j dd) tq eq off (ownAt own j) []), env := mEnv (jsC r) s.env }.put o.dst [] (.one .und))
                        | none => False := by
                      unfold holeK at k
                      split at k
                      · exact ⟨fun _ _ => rfl, k⟩
                      · exact ⟨fun i' hi' => by simp [memH]; rw [← k.1]; exact hi', k.2⟩
                      · exact k.elim
                    obtain ⟨hmem, k⟩ := kk
                    have k := k _ (List.getElem?_eq_getElem hj)
                    split at k
                    · rename_i dd hdd
                      have hdd := putF_R hdd
                      have hso := hdd.lt
                      obtain ⟨cap, cur, e0, e1, e2⟩ := outer hj
                      obtain ⟨_, hsz⟩ := e2 _ (List.getElem?_eq_getElem hj)
                      rw [Nat.succ_mul] at hsz
                      have gne : ∀ b, rowBlk (a.eval x) = some b → ∀ u, (RV.deep vv us).has u → u ≠ b := fun b hb1 u hu hh => hqr (sat.ok.inj q r _ _ _ _ b hTq' rfl hT' rfl hbq hb (has_row.2 hb1) (by rw [← hh]; exact hu))
                      obtain ⟨f1, f2⟩ := D.write (own' := ownAt own j) (hs' := []) (us' := fun i' => if i' = j then a.eval x else us i') (d' := dd) (cs' := [a.eval x]) (off := off) (k := 1) (List.getElem?_eq_getElem hj) e0 e1 (by omega) rfl
                        (fun i' hi' => ⟨by simp [ownAt, hi', cnd], by rw [hmem i' hi'], by simp [hi']⟩)
                        (fun i' b hi' hb' hb2 => by
                          rw [if_pos rfl] at hb2
                          exact gne b hb2 b (has_deep.2 (.inr ⟨i', hb'⟩)) rfl)
                        (fun b hb' => by
                          rw [if_pos rfl] at hb'
                          exact ⟨fun hh => gne b hb' g (has_deep.2 (.inl hgb)) hh.symm, (sat.ok.holds q _ _ hTq' hbq).cells rfl (has_row.2 hb')⟩)
                        (fun w' cs fr hl ex => by
                          rw [if_pos rfl, show ownAt own j j = true by simp [ownAt, cnd], take_set (by omega)]
                          have emp : ∃ d0, Rd h sh (cs.set off nilS) d0 ∧ PutR sh off eq d0 x0 dd := by
                            unfold ElH at ex
                            cases hh : memH j hs with
                            | false =>
                              rw [hh] at ex
                              cases hoo : own j with
                              | false =>
                                rw [hoo] at ex
                                obtain ⟨d0, hd0⟩ := hdd.ex []
                                exact ⟨d0, hd0.rd ex.1 (SlAt.nil _ _), hd0.turn hdd⟩
                              | true =>
                                rw [hoo] at ex
                                obtain ⟨d0, z, r0, p0, _, _⟩ := ex
                                exact ⟨d0, r0, p0.trans hdd⟩
                            | true =>
                              rw [hh] at ex
                              obtain ⟨_, d0, z, r0, p0, _⟩ := ex
                              exact ⟨d0, r0, p0.trans hdd⟩
                          obtain ⟨d0, r0, p0⟩ := emp
                          refine ⟨d0, x0, by rw [List.set_set]; exact r0, p0, by rw [List.getElem?_set_self (by omega)], hrow.move (FH.le.refl h) fun b hb' => fr b fun hh => gne b hb' g (has_deep.2 (.inl hgb)) hh.symm⟩)
                      have r1 := run_storeVar_at (o := j * sz + off) (v := a.eval x) ti e1 (by rw [hone.1, a2]; rfl) (by rw [hz, a2]; omega) (by rw [hone.1]; intro u hu; simp at hu; subst hu; exact hone)
                      rw [hone.1, a2, hz] at r1
                      rw [hz] at ep
                      have ok1 := sat.ok.forget hTq'
                      have hT1 : ((eff s.gl s.T).set q .gone)[r]? = some (.deep tt sh l tq eq off own hs) := by rw [List.getElem?_set_ne hqr]; exact hT'
                      have ok2 := ok1.upd3 (f := jsC r) (r' := .deep tt sh (l.set j dd) tq eq off (ownAt own j) []) (v := .deep vv fun i' => if i' = j then a.eval x else us i') (row := some g) (X := fun b => rowBlk (a.eval x) = some b) hT1 rfl hb (grown_setRow w g _) (fun k e => by cases e; exact .inl hgb)
                        (fun b hb' => by
                          obtain ⟨o1, o2, o3⟩ := sat.ok.own q _ _ b hTq' rfl hbq (has_row.2 hb')
                          refine ⟨o1, o2, o3, fun j' rj vj hj' ej lj ej' hbj => ?_⟩
                          have hjq : j' ≠ q := by
                            rintro rfl
                            rw [List.getElem?_set_self (List.getElem?_eq_some_iff.1 hTq').1] at ej
                            cases ej; cases lj
                          rw [List.getElem?_set_ne (Ne.symm hjq)] at ej
                          exact hjq (sat.ok.inj j' q _ _ _ _ b ej lj hTq' rfl ej' hbq hbj (has_row.2 hb')))
                        (fun b hb' => by
                          rw [has_deep] at hb'
                          rcases hb' with hb' | ⟨i', hb'⟩
                          · exact .inl (has_deep.2 (.inl hb'))
                          · by_cases hi' : i' = j
                            · rw [if_pos hi'] at hb'; exact .inr (.inl hb')
                            · rw [if_neg hi'] at hb'; exact .inl (has_deep.2 (.inr ⟨i', hb'⟩)))
                        (fun x y c => CnC.js hb (.inl rfl) c) f2
                      refine upd_step sat k rfl (by rw [ho]; rfl) (.inr ⟨exec rfl ep r1, rfl⟩) (FH.le.refl h) ((sat.map (f := jsC r) (T' := setL (mT (jsC r) (setL s.T q ([], .gone))) r ([], .deep tt sh (l.set j dd) tq eq off (ownAt own j) [])) (β' := β.set r (.deep vv fun i' => if i' = j then a.eval x else us i')) (FH.le.refl h) (fun _ => rfl) (fun x y c => CnC.js hb (.inl rfl) c) ?_ ?_).put (dOK_lt hd) rfl (fun _ => rfl) fun hh => by cases hh)
                      · rw [eff_set, eff_m, eff_set]
                        exact ok2
                      · intro p' hp'
                        rw [setL_eq] at hp'
                        rcases List.mem_or_eq_of_mem_set hp' with hp' | hp'
                        · obtain ⟨p2, h1, h2⟩ := mT_gd hp'
                          rw [← h2]
                          exact gT_set sat p2 h1
                        · subst hp'; rfl
                    · exact k.elim
                  · exact k.elim
                · exact k.elim
              · exact k.elim
            · exact k.elim
      · cases hq
    · cases hq
  · rename_i r j k0 sz off hp
    obtain ⟨⟨vv, us, g, hb, hgb, ep⟩, _⟩ := getE_ok sat hg tr hp
    split at hq
    · rename_i tt sh l t2 e so own hs hT
      have hT' := effres hT tr
      have D : DeepH h w tt sh l t2 e so own hs vv us := sat.ok.holds r _ _ hT' hb
      split at hq
      · rename_i v hv
        have cv := getE_ok sat hg tr hv
        cases hq
        split at k
        · exact k.elim
        rename_i hz
        have hz : sz = e.size := Nat.eq_of_beq_eq_true hz
        obtain ⟨⟨o1, o2, o3⟩, k⟩ := k
        have hdj := List.getElem?_eq_getElem o3
        have k := k _ hdj
        split at k
        · rename_i xs hxs
          obtain ⟨hk, k⟩ := k
          have k := k _ (List.getElem?_eq_getElem hk)
          split at k
          · rename_i y' hy'
            split at k
            · rename_i dd hdd
              have hrow := D.get hdj o1 o2 hxs
              obtain ⟨cur, he, f1, f2, f3, f4⟩ := hrow.write hgb (List.getElem?_eq_getElem hk) (fun hr => updD_ok e hy' hr cv)
              have r1 := run_storeVar_at (o := k0 * sz + off) (v := a.eval x) ti he f2 (by rw [hz]; omega) f3
              rw [hz] at ep r1
              have D' := D.inner (w' := w.setRow g (cur.toList.take (k0 * e.size + off) ++ (a.eval x).cells.toList ++ cur.toList.drop (k0 * e.size + off + i.size)).toArray) hdj o1 o2 (fun b hb' _ => setRow_other w g b _ fun hh => hb' (by rw [hh]; exact hgb)) (fun b hb' => by
                rw [hgb] at hb'; cases hb'
                exact ⟨_, setRow_heap w g _ _ t2 (0, 0) he, rfl⟩) hdd f4
              have ok : OK B h0 (eff s.gl (setL s.T r ([], .deep tt sh (l.set j dd) t2 e so own hs))) h β (w.setRow g (cur.toList.take (k0 * e.size + off) ++ (a.eval x).cells.toList ++ cur.toList.drop (k0 * e.size + off + i.size)).toArray) := by
                rw [effset]
                have := sat.ok.upd (r' := .deep tt sh (l.set j dd) t2 e so own hs) (v := .deep vv us) hT' rfl hb (row := some g) (grown_setRow w g _) (fun k e => by cases e; exact has_deep.2 (.inr ⟨j, hgb⟩)) (fun b hb => .inl hb) (.inl rfl) (by rw [set_same hb]; exact D')
                rwa [set_same hb] at this
              exact upd_step sat k rfl (by rw [ho]; rfl) (.inr ⟨exec rfl ep r1, rfl⟩) (FH.le.refl h) ((sat.mem ok (FH.le.refl h) (Ext.refl β) (gT_set sat)).put (dOK_lt hd) rfl (fun _ => rfl) fun hh => by cases hh)
            · exact k.elim
          · exact k.elim
        · exact k.elim
      · cases hq
    · cases hq
  · cases hq
/-! The row in an element becomes a row of its own. -/
@[reducible] def openK (s : St) (x : Operand) (K : St → Prop) : Option Prop := match x with
  | .tmp t => match lkE s.env t with
    | some ([], .one (.c (.sub r j))) => match nthL s.T r with
      | some ([], .deep tt sh l t2 e so own []) => some ((own j = true ∧ j < l.length) ∧ ∀ d : sh.den, l[j]? = some d → match getF sh d so e with
        | some x => K { s with T := snoc (setL (mT (jsC r) s.T) r ([], .deep tt sh l t2 e so own [j])) ([], .row t2 e x), env := (t, [], .one (.c (.row (lenL s.T)))) :: mEnv (jsC r) s.env, gs := rmG s.gs t }
        | none => False)
      | _ => none
    | _ => none
  | _ => none
theorem mT_len (f : SC → SC) : ∀ {T : List (Gd × Res)}, (mT f T).length = T.length
  | [] => rfl
  | (_, _) :: l => by simp [mT, mT_len f (T := l)]
theorem open_ok (sat : Sat N B h0 s h β w a) {x : Operand} {q : Prop} (hq : openK s x K = some q) (k : q) : ∃ s' β', K s' ∧ Sat N B h0 s' h β' w a ∧ s'.gl = s.gl := by
  have tr : gv s.gl [] = true := rfl
  unfold openK at hq
  split at hq
  · rename_i t
    split at hq
    · rename_i r j hlk
      split at hq
      · rename_i tt sh l t2 e so own hT
        cases hq
        have hT' := effres hT tr
        obtain ⟨⟨o1, o2⟩, k⟩ := k
        have hdj := List.getElem?_eq_getElem o2
        have k := k _ hdj
        split at k
        · rename_i xs hxs
          obtain ⟨z, z1, z2, _⟩ := sat.env t [] _ hlk
          obtain ⟨⟨vv, us, hb, hus⟩, hone⟩ : CnV h β (.c (.sub r j)) z := z2 rfl
          have D : DeepH h w tt sh l t2 e so own [] vv us := sat.ok.holds r _ _ hT' hb
          have hrow := D.get hdj o1 rfl hxs
          have ok2 := sat.ok.upd3 (f := jsC r) (r' := .deep tt sh l t2 e so own [j]) (v := .deep vv (unRow us j)) (row := none) (X := fun _ => False) hT' rfl hb (grown_refl w none) (fun k e => by cases e) (fun b hb => hb.elim)
            (fun b hb' => by
              rw [has_deep] at hb'
              rcases hb' with hb' | ⟨i', hb'⟩
              · exact .inl (has_deep.2 (.inl hb'))
              · unfold unRow at hb'
                split at hb'
                · cases hb'
                · exact .inl (has_deep.2 (.inr ⟨i', hb'⟩)))
            (fun x y c => CnC.js hb (.inl rfl) c) (D.open hdj o1)
          have ok3 := ok2.addX (r := .row t2 e xs) (v := .row z) (fun b hb' => by
            rw [has_row] at hb'
            rw [← hus] at hb'
            have hu : (RV.deep vv us).has b := has_deep.2 (.inr ⟨j, hb'⟩)
            obtain ⟨p1, p2, p3⟩ := sat.ok.own r _ _ b hT' rfl hb hu
            refine ⟨p1, p2, p3, fun j' rj vj ej lj ej' hbj => ?_⟩
            by_cases hj' : j' = r
            · subst hj'
              rw [List.getElem?_set_self (by have := (List.getElem?_eq_some_iff.1 hb).1; exact this)] at ej'
              cases ej'
              rw [has_deep] at hbj
              rcases hbj with hbj | ⟨i', hbj⟩
              · obtain ⟨g, cap, cur, e0, _, _, e3, _, e5, _⟩ := D.third o2
                rw [e0, rowBlk_own (n := l.length) e3.1] at hbj
                cases hbj
                exact e5 j hb'
              · unfold unRow at hbj
                split at hbj
                · cases hbj
                · rename_i hi'
                  exact hi' (D.1 i' j b hbj hb')
            · rw [List.getElem?_set_ne (Ne.symm hj')] at ej'
              rw [List.getElem?_set_ne (Ne.symm hj'), List.getElem?_map] at ej
              cases hh : (eff s.gl s.T)[j']? with
              | none => rw [hh] at ej; cases ej
              | some r0 =>
                rw [hh] at ej; cases ej
                exact hj' (sat.ok.inj j' r _ _ _ _ b hh (by rw [← mR_live (jsC r)]; exact lj) hT' rfl ej' hb hbj hu)) (by rw [← hus]; exact hrow)
          have hlen : lenL s.T = (β.set r (.deep vv (unRow us j))).length := by rw [List.length_set, sat.ok.len, eff_len, lenL_eq]
          refine ⟨_, (β.set r (.deep vv (unRow us j))) ++ [.row z], k, ?_, rfl⟩
          have hC : ∀ x y, CnC h β x y → CnC h ((β.set r (.deep vv (unRow us j))) ++ [.row z]) (jsC r x) y := fun x y c => (CnC.js hb (.inl rfl) c).mono (FH.le.refl h) (Ext.append _ _)
          have sm := sat.map (f := jsC r) (T' := snoc (setL (mT (jsC r) s.T) r ([], .deep tt sh l t2 e so own [j])) ([], .row t2 e xs)) (h' := h) (β' := (β.set r (.deep vv (unRow us j))) ++ [.row z]) (w' := w) (FH.le.refl h) (fun _ => rfl) hC (by
              rw [eff_snoc, eff_set, eff_m]; exact ok3) (fun p hp => by
              rw [snoc_eq, List.mem_append] at hp
              rcases hp with hp | hp
              · rw [setL_eq] at hp
                rcases List.mem_or_eq_of_mem_set hp with hp | hp
                · obtain ⟨p2, h1, h2⟩ := mT_gd hp
                  rw [← h2]; exact sat.gT p2 h1
                · subst hp; rfl
              · simp at hp; subst hp; rfl)
          refine ⟨sm.ok, ?_, ?_, sm.defers, sm.sz, ?_, sm.gT⟩
          · intro t' G e' ht
            rw [lkE_cons] at ht
            split at ht
            · rename_i hkt
              subst hkt; cases ht
              refine ⟨z, z1, fun _ => ⟨⟨.row z, ?_, rfl⟩, hone⟩, fun hh => by cases hh⟩
              rw [hlen]; simp
            · exact sm.env t' G e' ht
          · intro d i hi
            obtain ⟨hne, hi⟩ := lkG_rm _ _ _ _ hi
            obtain ⟨G, b, q1, q2⟩ := sm.gs d i hi
            exact ⟨G, b, by rw [lkE_cons, if_neg (Ne.symm hne)]; exact q1, q2⟩
          · intro t' G e' ht
            rw [lkE_cons] at ht
            split at ht
            · cases ht; rfl
            · exact sm.gb _ _ _ ht
        · exact k.elim
      · cases hq
    · cases hq
  · cases hq
/-! Calls that change the row in an element in place. -/
@[reducible] def borX (s : St) (i j : Nat) : List SV → (List SV → Prop) → Prop
  | [], K => K []
  | .c (.sub i' k) :: l, K => match Nat.beq i i' with
    | true => k ≠ j ∧ subQ s [] i' k fun e x => borX s i j l fun r => K (.c (.sl e x) :: r)
    | false => False
  | v :: l, K => match noRow v with
    | true => match borV s [] v with
      | some v' => borX s i j l fun r => K (v' :: r)
      | none => False
    | false => False
@[reducible] def dipK (cx : Cx) (ip : IP) (s : St) (d : Option Nat) (args : List Operand) (K : St → Prop) : Prop := match args with
  | [] => False
  | x :: r => match getE cx s [] x with
    | some (.one (.c (.sub i j))) => match nthL s.T i with
      | some ([], .deep tt sh l t2 e so own hs) => match andB (sheq e ip.sh) (andB (shFlat ip.sh) (!ip.back)) with
        | false => False
        | true => match argsV cx s [] r with
          | none => False
          | some vs => (own j = true ∧ memH j hs = false ∧ j < l.length) ∧ ∀ d0 : sh.den, l[j]? = some d0 → match getF sh d0 so ip.sh with
            | none => False
            | some xs => borX s i j vs fun bs => match datA ip.ps bs with
              | none => False
              | some dd => ip.pre xs dd ∧ match putF sh d0 so ip.sh (ip.res xs dd) with
                | some d1 => K ({ s with T := setL s.T i ([], .deep tt sh (l.set j d1) t2 e so own hs) }.put d [] (.tup []))
                | none => False
      | _ => False
    | _ => False
open Classical in
noncomputable def FH.but (w : World) (u : Value) : FH := fun b o => if rowBlk u = some b then none else vis w b o
theorem but_le (sat : Sat N B h0 s h β w a) {i j : Nat} {r : Res} {vv : Value} {us : Nat → Value} (hT : (eff s.gl s.T)[i]? = some r) (hl : r.live = true) (hb : β[i]? = some (.deep vv us)) : h.le (FH.but w (us j)) := by
  intro b o v hv
  unfold FH.but
  rw [if_neg]
  · exact sat.ok.hw b o v hv
  · intro hh
    rw [(sat.ok.own i r _ b hT hl hb (has_deep.2 (.inr ⟨j, hh⟩))).2.2 o] at hv; cases hv
theorem borX_ok (sat : Sat N B h0 s h β w a) {i j : Nat} {vv : Value} {us : Nat → Value} (hb : β[i]? = some (.deep vv us)) (inj : ∀ j k b, rowBlk (us j) = some b → rowBlk (us k) = some b → j = k) (le : h.le (FH.but w (us j))) :
    ∀ {vs : List SV} {ys : List Value} {K : List SV → Prop}, All2 (CnV h β) vs ys → borX s i j vs K → ∃ bs, K bs ∧ All2 (CnV (FH.but w (us j)) []) bs ys
  | [], [], K, _, k => ⟨[], k, trivial⟩
  | x :: l, y :: ys, K, ⟨c, r⟩, k => by
    have tr : gv s.gl [] = true := rfl
    unfold borX at k
    split at k
    · rename_i he; cases he
    · rename_i i' k' l' K' he
      cases he
      split at k
      · rename_i hi
        have hi := Nat.eq_of_beq_eq_true hi
        subst hi
        obtain ⟨hk, k⟩ := k
        obtain ⟨e, xs, k1, k2⟩ := subQ_ok sat k
        obtain ⟨bs, k3, c3⟩ := borX_ok sat hb inj le r k1
        obtain ⟨⟨vv2, us2, hb2, rfl⟩, hone⟩ := c
        rw [hb] at hb2
        cases hb2
        obtain ⟨tt, hrow⟩ := k2 tr vv us hb
        refine ⟨_, k3, ⟨?_, hone⟩, c3⟩
        refine hrow.sl le fun b hb3 o z hz => ?_
        unfold FH.but
        rw [if_neg]
        · exact hz
        · exact fun hh => hk (inj _ _ b hb3 hh)
      · exact k.elim
    · rename_i v' l' K' hne he
      cases he
      split at k
      · rename_i hnr
        split at k
        · rename_i v1 hv1
          obtain ⟨bs, k3, c3⟩ := borX_ok sat hb inj le r k
          exact ⟨_, k3, (((borV_ok sat tr hv1 c).2 hnr).mono le (Ext.refl [])), c3⟩
        · exact k.elim
      · exact k.elim
set_option maxHeartbeats 4000000 in
theorem dip_step {f : FuncId} {ip : IP} (hip : IPOK P cx.gd f ip) (hf : ∃ fn, P.funcs[f]? = some fn ∧ fn.body.isSome = true ∧ (fn.name == "runtime.NumGoroutine") = false)
    (sat : Sat N B h0 s h β w a) (hg : GlobOK cx.gd h) (hd : dOK N o.dst = true) {c : Call} (ho : o.op = .call c) (hcal : c.callee = .value (.func f))
    (k : dipK cx ip s o.dst (tl c.args) K) : OpW P N B h0 h w a o true K := by
  have tr : gv s.gl [] = true := rfl
  unfold dipK at k
  split at k
  · exact k.elim
  rename_i x r hargs0
  split at k
  · rename_i i j hx
    split at k
    · rename_i tt sh l t2 e so own hs hT
      split at k
      · exact k.elim
      rename_i hck
      rw [andB_eq, andB_eq, Bool.and_eq_true, Bool.and_eq_true] at hck
      have he : e = ip.sh := sheq_eq hck.1
      subst he
      have hfl := hck.2.1
      have hbk : ip.back = false := by simpa using hck.2.2
      split at k
      · exact k.elim
      rename_i vs hvs
      obtain ⟨⟨o1, o2, o3⟩, k⟩ := k
      have hdj := List.getElem?_eq_getElem o3
      have k := k _ hdj
      split at k
      · exact k.elim
      rename_i xs hxs
      have hT' := effres hT tr
      obtain ⟨⟨vv, us, hb, hus⟩, _⟩ : CnV h β (.c (.sub i j)) (a.eval x) := getE_ok sat hg tr hx
      have D : DeepH h w tt sh l t2 ip.sh so own hs vv us := sat.ok.holds i _ _ hT' hb
      have hrow := D.get hdj o1 o2 hxs
      have le : h.le (FH.but w (us j)) := but_le sat hT' rfl hb
      have hav := argsV_ok sat hg tr hvs
      obtain ⟨bs, k, cb⟩ := borX_ok sat hb D.1 le hav k
      split at k
      · exact k.elim
      rename_i dd hdd
      obtain ⟨hpre, k⟩ := k
      split at k
      · rename_i d1 hd1
        intro Nx Q next
        rw [if_pos rfl]
        obtain ⟨fn, hfn, hbody, hname⟩ := hf
        have exec : (execOp a.eval o).run P w = .ok (.enter f (c.args.map a.eval)) w := by
          simp only [execOp, ho, resolve, hcal, Act.eval, Deferred.ofValue, invoke, Sem.run_bind, Sem.run_pure, Result.andThen_ok, callFunc, run_program, hfn, hname]
          simp [hbody]
          cases hb : fn.body with
          | none => rw [hb] at hbody; cases hbody
          | some _ => simp
        have hargs : (c.args.map a.eval) = (a.eval x :: r.map a.eval).toArray := by
          have : c.args = (x :: r).toArray := by
            cases hc : c.args with
            | mk q => rw [hc] at hargs0; simp only [tl] at hargs0; rw [hargs0]
          rw [this]; simp
        unfold Oper.wp
        rw [exec]
        simp only [Oper.upon]
        rw [hargs]
        refine (hip t2 xs dd (a.eval x) _ (FH.but w (us j)) w (fun b o u hu => ?_) (hg.mono le) (show Holds (FH.but w (us j)) [] w (.row t2 ip.sh xs) (.row (a.eval x)) by rw [← hus]; exact hrow.move le fun _ _ => rfl) (fun b hb' o => ?_) (datA_ok hdd cb) hpre).mono ?_
        · unfold FH.but at hu
          split at hu
          · cases hu
          · exact hu
        · unfold FH.but
          rw [hus, if_pos hb']
        rintro en w' ⟨v', y, rfl, hgr, hv, hold', _, hb2⟩
        obtain ⟨rfl, rfl⟩ := hb2 hbk
        have hrow' : RowH h w' t2 ip.sh (ip.res xs dd) (us j) := by
          have := Holds.flat (h' := h) (show resFlat (.row t2 ip.sh (ip.res xs dd)) = true from hfl) hold'
          rw [hus]; exact this
        have D' : DeepH h w' tt sh (l.set j d1) t2 ip.sh so own hs vv us := D.inner hdj o1 o2 (fun b hb' hx' => by
            obtain ⟨o', ho'⟩ := hx'
            exact hgr.block b (Array.getElem?_eq_some_iff.1 ho').1 (fun hh => hb' (by rw [hus]; exact hh.symm))) (fun b hb' => by
            exact Holds.cells (h := h) (β := []) (r := .row t2 ip.sh (ip.res xs dd)) (v := .row (us j)) hrow' rfl (has_row.2 hb')) hd1 hrow'
        have ok : OK B h0 (eff s.gl (setL s.T i ([], .deep tt sh (l.set j d1) t2 ip.sh so own hs))) h β w' := by
          rw [effset]
          have := sat.ok.upd (r' := .deep tt sh (l.set j d1) t2 ip.sh so own hs) (v := .deep vv us) hT' rfl hb hgr (fun k e => has_deep.2 (.inr ⟨j, by rw [hus]; exact e⟩)) (fun b hb => .inl hb) (.inl rfl) (by rw [set_same hb]; exact D')
          rwa [set_same hb] at this
        exact next _ _ _ _ _ k (FH.le.refl h) ((sat.mem ok (FH.le.refl h) (Ext.refl β) (gT_set sat)).put (dOK_lt hd) rfl (fun _ => ⟨[], rfl, trivial⟩) fun hh => by cases hh)
      · exact k.elim
    · exact k.elim
  · exact k.elim
/-! A row whose elements have rows of their own comes to be read as a row of data: the elements' rows are frozen. -/
theorem CnC.us {h : FH} {β : List RV} {i : Nat} {v : Value} {us : Nat → Value} (hu : β[i]? = some (.deep v us)) {x : SC} {y : Value} (c : CnC h β x y) : CnC h (β.set i (.row v)) (jsC i x) y := by
  unfold jsC
  split
  · rename_i hf
    cases x with
    | v _ => exact c
    | sl _ _ => exact c
    | fp _ _ => exact c
    | one _ _ => exact c
    | abs _ => exact c
    | junk => trivial
    | own j off =>
      obtain ⟨b, e, e'⟩ := c
      refine ⟨b, ?_, e'⟩
      rw [set_get hu, if_neg]
      · exact e
      · rintro rfl; rw [hu] at e; cases e
    | row j =>
      obtain ⟨z, e, e'⟩ := c
      by_cases hj : j = i
      · subst hj
        rw [hu] at e; cases e
        exact ⟨.row v, by rw [set_get hu, if_pos rfl], e'⟩
      · exact ⟨z, by rw [set_get hu, if_neg hj]; exact e, e'⟩
    | rowp j k sz off =>
      obtain ⟨z, g, e, e', e2⟩ := c
      by_cases hj : j = i
      · subst hj
        rw [hu] at e; cases e
        exact ⟨.row v, g, by rw [set_get hu, if_pos rfl], e', e2⟩
      · exact ⟨z, g, by rw [set_get hu, if_neg hj]; exact e, e', e2⟩
    | sub j k =>
      obtain ⟨z, us2, e, e'⟩ := c
      exact ⟨z, us2, by rw [set_get hu, if_neg (beqT hf)]; exact e, e'⟩
    | subp j k m sz off =>
      obtain ⟨z, us2, g, e, e'⟩ := c
      exact ⟨z, us2, g, by rw [set_get hu, if_neg (beqT hf)]; exact e, e'⟩
  · trivial
theorem DeepH.row {h h' : FH} {w : World} {t : TypeId} {s : Sh} {l : List s.den} {tt : TypeId} {e : Sh} {so : Nat} {own : Nat → Bool} {v : Value} {us : Nat → Value} (x : DeepH h w t s l tt e so own [] v us) (le : h.le h')
    (hb : ∀ b, (∃ j, rowBlk (us j) = some b) → ∀ o z, vis w b o = some z → h' b o = some z) : RowH h' w t s l v ∧ ∀ g, rowBlk v = some g → ∀ j, rowBlk (us j) ≠ some g := by
  obtain ⟨_, _, x⟩ := x
  rcases x with ⟨e1, e2⟩ | ⟨ra, e1, e2⟩ | ⟨g, cap, cur, e1, q1, q2, q3, q4, q5, q6⟩
  · exact ⟨.inl ⟨e1, e2⟩, fun g hg => by subst e1; simp [rowBlk] at hg⟩
  · exact ⟨.inr (.inl ⟨ra, e1, e2⟩), fun g hg => by subst e1; simp [rowBlk] at hg⟩
  · have lc : cur.toList.length = cap * s.size := by simpa using q4
    have hm : l.length * s.size ≤ cap * s.size := Nat.mul_le_mul_right _ q2
    refine ⟨.inr (.inr ⟨g, cap, cur, e1, q1, q2, q3, q4, ?_⟩), fun g' hg' => ?_⟩
    · refine RdL.of_get (k := s.size) (by rw [List.length_take]; omega) fun j d hd => ?_
      have hj := (List.getElem?_eq_some_iff.1 hd).1
      have hm : (j + 1) * s.size ≤ l.length * s.size := Nat.mul_le_mul_right _ hj
      rw [Nat.succ_mul] at hm
      have e5 : List.take s.size (List.drop (j * s.size) (List.take (l.length * s.size) cur.toList)) = List.take s.size (List.drop (j * s.size) cur.toList) := by
        apply List.ext_getElem?
        intro p
        simp only [List.getElem?_take, List.getElem?_drop]
        split
        · rw [if_pos (by omega)]
        · rfl
      rw [e5]
      exact (q6 j d hd).rd le fun b hu => hb b ⟨j, hu⟩
    · rw [e1, rowBlk_own q3.1] at hg'
      cases hg'; exact q5
theorem OK.undeep {T : List Res} (ok : OK B h0 T h β w) {i : Nat} {t : TypeId} {s : Sh} {l : List s.den} {tt : TypeId} {e : Sh} {so : Nat} {own : Nat → Bool} {v : Value} {us : Nat → Value}
    (hT : T[i]? = some (.deep t s l tt e so own [])) (hu : β[i]? = some (.deep v us)) :
    h.le (h.plusS w fun b => ∃ j, rowBlk (us j) = some b) ∧ OK B h0 ((T.map (mR (jsC i))).set i (.row t s l)) (h.plusS w fun b => ∃ j, rowBlk (us j) = some b) (β.set i (.row v)) w := by
  have hi : i < T.length := (List.getElem?_eq_some_iff.1 hT).1
  have hi' : i < β.length := by rw [ok.len]; exact hi
  have hl : (Res.deep t s l tt e so own []).live = true := rfl
  have own' := fun g hv => ok.own i _ _ g hT hl hu hv
  have sub : ∀ {b : Nat}, (∃ j, rowBlk (us j) = some b) → (RV.deep v us).has b := fun hb => has_deep.2 (.inr hb)
  have le : h.le (h.plusS w fun b => ∃ j, rowBlk (us j) = some b) := by
    intro b o x hb
    unfold FH.plusS
    by_cases hbg : ∃ j, rowBlk (us j) = some b
    · rw [(own' b (sub hbg)).2.2 o] at hb; cases hb
    · rw [if_neg hbg]; exact hb
  have hold : DeepH h w t s l tt e so own [] v us := ok.holds i _ _ hT hu
  obtain ⟨rh, rn⟩ := hold.row le fun b hb o z hz => by
    unfold FH.plusS
    rw [if_pos hb]; exact hz
  have get : ∀ {j : Nat} {rj : Res}, j ≠ i → ((T.map (mR (jsC i))).set i (.row t s l))[j]? = some rj → ∃ r0, T[j]? = some r0 ∧ rj = mR (jsC i) r0 := by
    intro j rj hj e
    rw [List.getElem?_set_ne (Ne.symm hj), List.getElem?_map] at e
    cases hh : T[j]? with
    | none => rw [hh] at e; cases e
    | some r0 => rw [hh] at e; cases e; exact ⟨r0, rfl, rfl⟩
  have hasv : ∀ {b : Nat}, (RV.row v).has b → (RV.deep v us).has b := fun hb => has_deep.2 (.inl (has_row.1 hb))
  refine ⟨le, {
    below := ok.below
    dr := ok.dr
    len := by simp [ok.len]
    holds := ?_
    own := ?_
    inj := ?_
    hle := ok.hle.trans le
    hw := ?_
    hg := ?_
    kn := ok.kn }⟩
  · intro j rj vj ej ej'
    by_cases hj : j = i
    · subst hj
      rw [List.getElem?_set_self (by simpa using hi)] at ej
      rw [List.getElem?_set_self hi'] at ej'
      cases ej; cases ej'; exact rh
    · obtain ⟨r0, e0, rfl⟩ := get hj ej
      rw [List.getElem?_set_ne (Ne.symm hj)] at ej'
      exact (ok.holds j r0 vj e0 ej').map le (fun x y c => (CnC.us hu c).mono le (Ext.refl _)) fun _ _ _ => rfl
  · intro j rj vj b ej hlj ej' hb
    by_cases hj : j = i
    · subst hj
      rw [List.getElem?_set_self hi'] at ej'
      cases ej'
      obtain ⟨a1, a2, a3⟩ := own' b (hasv hb)
      refine ⟨a1, a2, fun o => ?_⟩
      unfold FH.plusS
      rw [if_neg, a3 o]
      rintro ⟨j', hj'⟩
      exact rn b (has_row.1 hb) j' hj'
    · obtain ⟨r0, e0, rfl⟩ := get hj ej
      rw [List.getElem?_set_ne (Ne.symm hj)] at ej'
      have hlj' : r0.live = true := by rw [← mR_live (jsC i)]; exact hlj
      obtain ⟨a1, a2, a3⟩ := ok.own j r0 vj b e0 hlj' ej' hb
      refine ⟨a1, a2, fun o => ?_⟩
      unfold FH.plusS
      rw [if_neg, a3 o]
      exact fun hg => hj (ok.inj j i _ _ _ _ _ e0 hlj' hT hl ej' hu hb (sub hg))
  · intro j k r1 r2 u1 u2 b e1 l1 e2 l2 e3 e4 b1 b2
    have look : ∀ {m : Nat} {rm : Res} {um : RV}, ((T.map (mR (jsC i))).set i (.row t s l))[m]? = some rm → rm.live = true → (β.set i (.row v))[m]? = some um → um.has b → ∃ r0 u0, T[m]? = some r0 ∧ r0.live = true ∧ β[m]? = some u0 ∧ u0.has b := by
      intro m rm um e l e' hb
      by_cases hm : m = i
      · subst hm
        rw [List.getElem?_set_self hi'] at e'
        cases e'
        exact ⟨_, _, hT, hl, hu, hasv hb⟩
      · obtain ⟨r0, e0, rfl⟩ := get hm e
        rw [List.getElem?_set_ne (Ne.symm hm)] at e'
        exact ⟨r0, um, e0, by rw [← mR_live (jsC i)]; exact l, e', hb⟩
    obtain ⟨p1, p2, p3, p4, p5, p6⟩ := look e1 l1 e3 b1
    obtain ⟨q1, q2, q3, q4, q5, q6⟩ := look e2 l2 e4 b2
    exact ok.inj j k p1 q1 p2 q2 b p3 p4 q3 q4 p5 q5 p6 q6
  · intro b o x hb
    unfold FH.plusS at hb
    split at hb
    · exact hb
    · exact ok.hw b o x hb
  · intro b o x hb
    unfold FH.plusS at hb
    split at hb
    · rename_i hbg; exact .inr (own' b (sub hbg)).1
    · exact ok.hg b o x hb
@[reducible] def undS (s : St) (i : Nat) : St := match nthL s.T i with
  | some ([], .deep t sh l _ _ _ _ []) => { s with T := setL (mT (jsC i) s.T) i ([], .row t sh l), env := mEnv (jsC i) s.env }
  | _ => s
theorem Sat.undS (sat : Sat N B h0 s h β w a) (i : Nat) : ∃ h' β', h.le h' ∧ Sat N B h0 (undS s i) h' β' w a := by
  unfold Go.Eng.undS
  split
  · rename_i t sh l t2 e so own hT
    have hT' : (eff s.gl s.T)[i]? = some (.deep t sh l t2 e so own []) := by rw [eff_get, ← nthL_eq, hT]; rfl
    have hlt : i < β.length := by rw [sat.ok.len]; exact (List.getElem?_eq_some_iff.1 hT').1
    have hu := List.getElem?_eq_getElem hlt
    have hold := sat.ok.holds i _ _ hT' hu
    cases hb : β[i] with
    | blk b => rw [hb] at hold; exact hold.elim
    | no => rw [hb] at hold; exact hold.elim
    | row _ => rw [hb] at hold; exact hold.elim
    | deep v us =>
      rw [hb] at hu
      obtain ⟨le, ok'⟩ := sat.ok.undeep hT' hu
      refine ⟨_, _, le, sat.map (f := jsC i) le (fun _ => rfl) (fun x y c => (CnC.us hu c).mono le (Ext.refl _)) ?_ ?_⟩
      · rw [eff_set, eff_m]
        exact ok'
      · intro p hp
        rw [setL_eq] at hp
        rcases List.mem_or_eq_of_mem_set hp with hp | hp
        · obtain ⟨q, h1, h2⟩ := mT_gd hp
          rw [← h2]; exact sat.gT q h1
        · subst hp; rfl
  · exact ⟨h, β, FH.le.refl h, sat⟩
@[reducible] def frzU (s : St) (i : Nat) : St := match Nat.ble 1000 i with
  | true => undS s (i - 1000)
  | false => frzS s i
@[reducible] def frzUs (s : St) : List Nat → St
  | [] => s
  | i :: r => frzUs (frzU s i) r
theorem Sat.frzUs : ∀ {l : List Nat} {s : St} {h : FH} {β : List RV}, Sat N B h0 s h β w a → ∃ h' β', h.le h' ∧ Sat N B h0 (frzUs s l) h' β' w a
  | [], s, h, β, sat => ⟨h, β, FH.le.refl h, sat⟩
  | i :: r, s, h, β, sat => by
    have h1 : ∃ h' β', h.le h' ∧ Sat N B h0 (frzU s i) h' β' w a := by
      unfold frzU
      split
      · exact sat.undS _
      · obtain ⟨h', le, sat'⟩ := sat.frz1 i; exact ⟨h', β, le, sat'⟩
    obtain ⟨h1, β1, le1, sat1⟩ := h1
    obtain ⟨h2, β2, le2, sat2⟩ := Sat.frzUs (l := r) sat1
    exact ⟨h2, β2, le1.trans le2, sat2⟩
@[reducible] def deepAll (s : St) : List (Nat × TypeId × Sh × Nat) → St
  | [] => s
  | (i, tt, e, so) :: l => deepAll (deepS s i tt e so) l
theorem Sat.deepAll : ∀ (l : List (Nat × TypeId × Sh × Nat)) {s : St} {β : List RV}, Sat N B h0 s h β w a → ∃ β', Sat N B h0 (deepAll s l) h β' w a
  | [], s, β, sat => ⟨β, sat⟩
  | (i, tt, e, so) :: l, s, β, sat => by
    obtain ⟨β1, sat1⟩ := sat.deepS i tt e so
    exact Sat.deepAll l sat1
theorem OK.reread {T : List Res} (ok : OK B h0 T h β w) {i : Nat} {r r' : Res} (hT : T[i]? = some r) (hl : r.live = true) (hold : ∀ v, Holds h β w r v → Holds h β w r' v) : OK B h0 (T.set i r') h β w := by
  have hi : i < T.length := (List.getElem?_eq_some_iff.1 hT).1
  have key : ∀ {m : Nat} {rm : Res}, (T.set i r')[m]? = some rm → rm.live = true → ∃ rm', T[m]? = some rm' ∧ rm'.live = true := by
    intro m rm e l
    by_cases hm : m = i
    · subst hm; exact ⟨r, hT, hl⟩
    · rw [List.getElem?_set_ne (Ne.symm hm)] at e; exact ⟨rm, e, l⟩
  exact {
    below := ok.below
    dr := ok.dr
    len := by simp [ok.len]
    holds := by
      intro j rj vj ej ej'
      by_cases hj : j = i
      · subst hj
        rw [List.getElem?_set_self hi] at ej
        cases ej
        exact hold vj (ok.holds j r vj hT ej')
      · rw [List.getElem?_set_ne (Ne.symm hj)] at ej; exact ok.holds j rj vj ej ej'
    own := by
      intro j rj vj b ej l ej' hb
      obtain ⟨rm, e1, e2⟩ := key ej l
      exact ok.own j rm vj b e1 e2 ej' hb
    inj := by
      intro j k r1 r2 u v b e1 l1 e2 l2 e3 e4 b1 b2
      obtain ⟨q1, f1, f2⟩ := key e1 l1
      obtain ⟨q2, g1, g2⟩ := key e2 l2
      exact ok.inj j k q1 q2 u v b f1 f2 g1 g2 e3 e4 b1 b2
    hle := ok.hle
    hw := ok.hw
    hg := ok.hg
    kn := ok.kn }
@[reducible] def nilC1 (s : St) (i c : Nat) (t : TypeId) (sh : Sh) : St := match nthL s.T i with
  | some ([], .blk t' cs) => match nthL cs c with
    | some (.v (.slice none 0 0)) => { s with T := snoc (setL s.T i ([], .blk t' (setL cs c (.row (lenL s.T))))) ([], .row t sh []) }
    | _ => s
  | _ => s
theorem All2.setL {α β : Type} {R : α → β → Prop} {y : α} {z : β} (hR : R y z) : ∀ {l : List α} {m : List β} {c : Nat}, m[c]? = some z → All2 R l m → All2 R (Eng.setL l c y) m
  | [], [], _, h, _ => by simp at h
  | _ :: _, _ :: _, 0, h, ⟨_, b⟩ => by simp at h; subst h; exact ⟨hR, b⟩
  | _ :: _, _ :: _, c + 1, h, ⟨a, b⟩ => ⟨a, All2.setL hR (by simpa using h) b⟩
theorem Sat.nilC1 (sat : Sat N B h0 s h β w a) (i c : Nat) (t : TypeId) (sh : Sh) : ∃ β', Sat N B h0 (nilC1 s i c t sh) h β' w a := by
  unfold Eng.nilC1
  split
  · rename_i t' cs hT
    split
    · rename_i hc
      have hT' := effres hT (show gv s.gl [] = true from rfl)
      have ok1 : OK B h0 (eff s.gl s.T ++ [.row t sh []]) h (β ++ [.row (.slice none 0 0)]) w := sat.ok.add (r := .row t sh []) (v := .row (.slice none 0 0)) (grown_refl w none) (fun b hb => by rw [has_row] at hb; simp [rowBlk] at hb) (.inl ⟨rfl, rfl⟩)
      have hi := (List.getElem?_eq_some_iff.1 hT').1
      have hlen : lenL s.T = β.length := by rw [sat.ok.len, eff_len, lenL_eq]
      have hT1 : (eff s.gl s.T ++ [.row t sh []])[i]? = some (.blk t' cs) := by rw [List.getElem?_append_left hi]; exact hT'
      have ok2 := ok1.reread (r' := .blk t' (Eng.setL cs c (.row (lenL s.T)))) hT1 rfl fun v hv => by
        cases v with
        | blk b =>
          obtain ⟨ys, e1, al⟩ := hv
          refine ⟨ys, e1, ?_⟩
          obtain ⟨y, hy, hcn⟩ := al.get (show cs[c]? = some (.v (.slice none 0 0)) by rw [← nthL_eq]; exact hc)
          obtain rfl : y = .slice none 0 0 := hcn.1.1
          refine All2.setL ?_ hy al
          refine ⟨⟨.row (.slice none 0 0), ?_, rfl⟩, rfl, rfl⟩
          rw [hlen]; simp
        | row _ => exact hv.elim
        | deep _ _ => exact hv.elim
        | no => exact hv.elim
      refine ⟨β ++ [.row (.slice none 0 0)], sat.mem ?_ (FH.le.refl h) (Ext.append _ _) fun p hp => ?_⟩
      · rw [eff_snoc, eff_set]
        have e : ((eff s.gl s.T) ++ [Res.row t sh []]).set i (.blk t' (Eng.setL cs c (.row (lenL s.T)))) = (eff s.gl s.T).set i (.blk t' (Eng.setL cs c (.row (lenL s.T)))) ++ [.row t sh []] := by rw [List.set_append_left _ _ hi]
        rw [e] at ok2
        exact ok2
      · rw [snoc_eq, List.mem_append] at hp
        rcases hp with hp | hp
        · rw [setL_eq] at hp
          rcases List.mem_or_eq_of_mem_set hp with hp | hp
          · exact sat.gT p hp
          · subst hp; rfl
        · simp at hp; subst hp; rfl
    · exact ⟨β, sat⟩
  · exact ⟨β, sat⟩
@[reducible] def nilCs (s : St) : List (Nat × Nat × TypeId × Sh) → St
  | [] => s
  | (i, c, t, sh) :: l => nilCs (nilC1 s i c t sh) l
theorem Sat.nilCs : ∀ (l : List (Nat × Nat × TypeId × Sh)) {s : St} {β : List RV}, Sat N B h0 s h β w a → ∃ β', Sat N B h0 (nilCs s l) h β' w a
  | [], s, β, sat => ⟨β, sat⟩
  | (i, c, t, sh) :: l, s, β, sat => by
    obtain ⟨β1, sat1⟩ := sat.nilC1 i c t sh
    exact Sat.nilCs l sat1
/-! copy, min. -/
theorem run_copy0 {dT sT ty el : TypeId} {i : TI} (k : TIOK P el i) (hu : P.underlying dT = some (.slice el)) {d b : Option Addr} {dLen dCap sLen sCap : Nat} (hn : Nat.min sLen dLen = 0) :
    (Builtin.copy_ #[dT, sT] ty #[.slice d dLen dCap, .slice b sLen sCap]).run P w = .ok (goInt 0) w := by
  have hl : ∀ (x : Addr), (loadCells x 0).run P w = .ok #[] w := fun x => by simpa using run_loadCells_list (P := P) w x [] (by simp)
  cases d <;> cases b <;> simp [Builtin.copy_, run_underlying hu, Builtin.lenOf, Builtin.firstCells, run_sizeOf k, hn, storeCells, hl]
theorem run_copy1 {dT sT ty el : TypeId} {i : TI} (k : TIOK P el i) (hu : P.underlying dT = some (.slice el)) {g dLen dCap : Nat} {b : Addr} {sLen sCap : Nat} {cur : Array Value} {t : TypeId} {cs : List Value}
    (hg : w.heap[g]? = some (.cells cur t (0, 0))) (hn : cs.length = Nat.min sLen dLen * i.size) (hsrc : ∀ j v, cs[j]? = some v → w.cell? (b.add j) = some v) (hfit : cs.length ≤ cur.size) (h1 : ∀ v ∈ cs, v.oneCell' = true) :
    (Builtin.copy_ #[dT, sT] ty #[.slice (some ⟨g, 0, none⟩) dLen dCap, .slice (some b) sLen sCap]).run P w = .ok (goInt (Nat.min sLen dLen)) (w.setRow g (cs ++ cur.toList.drop cs.length).toArray) := by
  have hl := run_loadCells_list (P := P) w b cs hsrc
  have hst := run_storeCells_at P g 0 t cs 0 cur w hg (by simpa using hfit) h1
  simp only [Nat.add_zero, Nat.zero_add, List.take_zero, List.nil_append] at hst
  simp [Builtin.copy_, run_underlying hu, Builtin.lenOf, Builtin.firstCells, run_sizeOf k, ← hn, hl, hst]
@[reducible] def copyK (cx : Cx) (s : St) (d : Option Nat) (t : TypeId) (x y : Operand) (K : St → Prop) : Prop := isOneOf cx t fun el ie sh => match getE cx s [] x with
  | some (.one (.c (.row r))) => match nthL s.T r with
    | some ([], .row tt sh1 l1) => match castD (.sl sh1) l1 (.sl sh) with
      | some l => match getE cx s [] y with
        | some (.one v) => match srcD s sh v with
          | some l2 => K ({ s with T := setL s.T r ([], .row tt sh (l2.take l.length ++ l.drop l2.length)) }.put d [] (vI .i64 (Nat.min l2.length l.length)))
          | none => False
        | _ => False
      | none => False
    | _ => False
  | _ => False
def minI (a b : Int) : Int := if b < a then b else a
@[reducible] def minK (cx : Cx) (s : St) (d : Option Nat) (x y : Operand) (K : St → Prop) : Prop := match getE cx s [] x with
  | some (.one (.c (.v (.int .i64 a)))) => match getE cx s [] y with
    | some (.one (.c (.v (.int .i64 b)))) => K (s.put d [] (vI .i64 (minI a b)))
    | _ => False
  | _ => False
theorem min_step (sat : Sat N B h0 s h β w a) (hg : GlobOK cx.gd h) (hd : dOK N o.dst = true) {x y : Operand} {c : Call} (ho : o.op = .call c) (hcal : c.callee = .builtin .min) (ha : c.args = #[x, y])
    (k : minK cx s o.dst x y K) : OpOK P N B h0 h w a o (gv s.gl []) K := by
  have tr : gv s.gl [] = true := rfl
  unfold minK at k
  split at k
  · rename_i n hx
    have ex : a.eval x = .int .i64 n := (getE_ok sat hg tr hx : CnV h β (.c (.v (.int .i64 n))) (a.eval x)).1.1
    split at k
    · rename_i m hy
      have ey : a.eval y = .int .i64 m := (getE_ok sat hg tr hy : CnV h β (.c (.v (.int .i64 m))) (a.eval y)).1.1
      refine upd_step sat k rfl (by rw [ho]; simp [quietly, hcal]) (.inl ?_) (FH.le.refl h) (sat.put (G := []) (e := vI .i64 (minI n m)) (z := .int .i64 (minI n m)) (dOK_lt hd) rfl (fun _ => ⟨⟨rfl, oneC_int _ _⟩, oneC_int _ _⟩) fun hh => by cases hh)
      simp [execOp, ho, resolve, hcal, ha, invoke, builtin, ex, ey, Builtin.min_, Builtin.min2, minI]
    · exact k.elim
  · exact k.elim
theorem max_stepQ (sat : Sat N B h0 s h β w a) (hg : GlobOK cx.gd h) (hd : dOK N o.dst = true) {x y : Operand} {c : Call} (ho : o.op = .call c) (hcal : c.callee = .builtin .max) (ha : c.args = #[x, y])
    (k : maxK cx s o.dst x y K) : OpOK P N B h0 h w a o (gv s.gl []) K := by
  have tr : gv s.gl [] = true := rfl
  unfold maxK at k
  split at k
  · rename_i n hx
    have ex : a.eval x = .int .i64 n := (getE_ok sat hg tr hx : CnV h β (.c (.v (.int .i64 n))) (a.eval x)).1.1
    split at k
    · rename_i m hy
      have ey : a.eval y = .int .i64 m := (getE_ok sat hg tr hy : CnV h β (.c (.v (.int .i64 m))) (a.eval y)).1.1
      refine upd_step sat k rfl (by rw [ho]; simp [quietly, hcal]) (.inl ?_) (FH.le.refl h) (sat.put (G := []) (e := vI .i64 (maxI n m)) (z := .int .i64 (maxI n m)) (dOK_lt hd) rfl (fun _ => ⟨⟨rfl, oneC_int _ _⟩, oneC_int _ _⟩) fun hh => by cases hh)
      simp [execOp, ho, resolve, hcal, ha, invoke, builtin, ex, ey, Builtin.max_, Builtin.max2, maxI]
    · exact k.elim
  · exact k.elim
set_option maxHeartbeats 1000000 in
theorem copy_step (hc : TisOK P cx.ti) (sat : Sat N B h0 s h β w a) (hg : GlobOK cx.gd h) (hd : dOK N o.dst = true) {t t' : TypeId} {x y : Operand} {c : Call} (ho : o.op = .call c) (hcal : c.callee = .builtin .copy) (ha : c.args = #[x, y]) (hat : c.argTypes = #[t, t'])
    (k : copyK cx s o.dst t x y K) : OpOK P N B h0 h w a o (gv s.gl []) K := by
  have tr : gv s.gl [] = true := rfl
  unfold copyK at k
  unfold isOneOf at k
  split at k
  · rename_i el hde
    have hu := descOf_und hc hde (by simp)
    split at k
    · exact k.elim
    rename_i ie hie
    have tie := hc.get hie
    split at k
    · exact k.elim
    rename_i sh hsh
    split at k
    · rename_i hz
      rw [andB_eq, andB_eq, Bool.and_eq_true, Bool.and_eq_true] at hz
      have hz1 : sh.size = ie.size := Nat.eq_of_beq_eq_true hz.1
      split at k
      · rename_i r hx
        split at k
        · rename_i tt sh1 l1 hT
          split at k
          · rename_i l hl
            obtain ⟨e1, e2⟩ := castSl hl
            subst e1; simp only at e2; subst e2
            split at k
            · rename_i v hv
              split at k
              · rename_i l2 hl2
                have cx' := (getE_ok sat hg tr hx : CnV h β (.c (.row r)) (a.eval x))
                have cv := getE_ok sat hg tr hv
                have hT' := effres hT tr
                have hb := sat.ok.row_of hT' cx'.1
                have hrow : RowH h w tt sh1 l1 (a.eval x) := sat.ok.holds r _ _ hT' hb
                have src := srcD_ok sat hl2 cv
                have exec : ∀ {w' : World}, (Builtin.copy_ #[t, t'] o.type #[a.eval x, a.eval y]).run P w = .ok (goInt (Nat.min l2.length l1.length)) w' → (execOp a.eval o).run P w = .ok (.value (goInt (Nat.min l2.length l1.length))) w' := by
                  intro w' r0
                  simp only [execOp, ho, resolve, hcal, ha, hat, invoke, builtin, Sem.run_bind, Sem.run_pure, Result.andThen_ok]
                  simp [r0]
                have fin : ∀ {w' : World} {row : Option Nat}, Gb w w' row → (∀ k, row = some k → rowBlk (a.eval x) = some k) → (Builtin.copy_ #[t, t'] o.type #[a.eval x, a.eval y]).run P w = .ok (goInt (Nat.min l2.length l1.length)) w' →
                    RowH h w' tt sh1 (l2.take l1.length ++ l1.drop l2.length) (a.eval x) → OpOK P N B h0 h w a o (gv s.gl []) K := by
                  intro w' row hgr hrw r0 hr
                  have ok : OK B h0 (eff s.gl (setL s.T r ([], .row tt sh1 (l2.take l1.length ++ l1.drop l2.length)))) h β w' := by
                    rw [effset]
                    have := sat.ok.upd (r' := .row tt sh1 (l2.take l1.length ++ l1.drop l2.length)) (v := .row (a.eval x)) hT' rfl hb hgr (fun k e => has_row.2 (hrw k e)) (fun b hb => .inl hb) (.inl rfl) hr
                    rwa [set_same hb] at this
                  exact upd_step sat k rfl (by rw [ho]; simp [quietly, hcal]) (.inl (exec r0)) (FH.le.refl h) ((sat.mem ok (FH.le.refl h) (Ext.refl β) (gT_set sat)).put (G := []) (e := vI .i64 (Nat.min l2.length l1.length)) (dOK_lt hd) rfl (fun _ => ⟨⟨rfl, oneC_int _ _⟩, oneC_int _ _⟩) fun hh => by cases hh)
                have zero : ∀ (ad ab : Option Addr) (dC sC : Nat), a.eval x = .slice ad l1.length dC → a.eval y = .slice ab l2.length sC → (l1 = [] ∨ l2 = []) → OpOK P N B h0 h w a o (gv s.gl []) K := by
                  intro ad ab dC sC ex ey h0'
                  have hm : Nat.min l2.length l1.length = 0 := by rcases h0' with rfl | rfl <;> simp
                  refine fin (grown_refl w none) (fun k e => by cases e) ?_ ?_
                  · rw [hm, ex, ey]
                    exact run_copy0 tie hu hm
                  · have : l2.take l1.length ++ l1.drop l2.length = l1 := by rcases h0' with rfl | rfl <;> simp
                    rw [this]; exact hrow
                rcases hrow with ⟨e1, e2⟩ | ⟨ra, e1, e2⟩ | ⟨g, cap, cur, e1, q1, q2, q3, q4, q5⟩
                · rcases src with ⟨s1, s2⟩ | ⟨sa, sc, s1, s2⟩ | ⟨sb, so, sc, cs, s1, s2, s3⟩
                  · exact zero none none 0 0 (by rw [e1, e2]; rfl) (by rw [s1, s2]; rfl) (.inl e2)
                  · exact zero none (some sa) 0 sc (by rw [e1, e2]; rfl) (by rw [s1, s2]; rfl) (.inl e2)
                  · exact zero none _ 0 sc (by rw [e1, e2]; rfl) s1 (.inl e2)
                · rcases src with ⟨s1, s2⟩ | ⟨sa, sc, s1, s2⟩ | ⟨sb, so, sc, cs, s1, s2, s3⟩
                  · exact zero (some ra) none 0 0 (by rw [e1, e2]; rfl) (by rw [s1, s2]; rfl) (.inl e2)
                  · exact zero (some ra) (some sa) 0 sc (by rw [e1, e2]; rfl) (by rw [s1, s2]; rfl) (.inl e2)
                  · exact zero (some ra) _ 0 sc (by rw [e1, e2]; rfl) s1 (.inl e2)
                · rcases src with ⟨s1, s2⟩ | ⟨sa, sc, s1, s2⟩ | ⟨sb, so, sc, cs, s1, s2, s3⟩
                  · exact zero _ none cap 0 e1 (by rw [s1, s2]; rfl) (.inr s2)
                  · exact zero _ (some sa) cap sc e1 (by rw [s1, s2]; rfl) (.inr s2)
                  · have hcs := RdL.size (fun _ _ => Rd.size sh1) s2
                    have lc : cur.toList.length = cap * sh1.size := by simpa using q4
                    have hm1 : l1.length * sh1.size ≤ cap * sh1.size := Nat.mul_le_mul_right _ q2
                    generalize hm : Nat.min l2.length l1.length = m at *
                    have hm2 : m ≤ l2.length := by rw [← hm]; exact Nat.min_le_left _ _
                    have hm3 : m ≤ l1.length := by rw [← hm]; exact Nat.min_le_right _ _
                    have hm4 : m * sh1.size ≤ l2.length * sh1.size := Nat.mul_le_mul_right _ hm2
                    have hm5 : m * sh1.size ≤ l1.length * sh1.size := Nat.mul_le_mul_right _ hm3
                    have ht := RdL.takeDrop (fun _ _ => Rd.size sh1) s2 (a := 0) (b := m) (Nat.zero_le _) hm2
                    simp only [Nat.zero_mul, List.drop_zero] at ht
                    have hlen : (cs.take (m * sh1.size)).length = m * sh1.size := by rw [List.length_take]; omega
                    have r0 := run_copy1 (P := P) (w := w) (dT := t) (sT := t') (ty := o.type) tie hu (g := g) (dLen := l1.length) (dCap := cap) (b := ⟨sb, so, none⟩) (sLen := l2.length) (sCap := sc) (cs := cs.take (m * sh1.size)) q1 (by rw [hlen, hm, hz1]) (fun j v hj => by
                      rw [List.getElem?_take] at hj
                      split at hj
                      · have := s3 j v hj
                        have ea : (⟨sb, so, none⟩ : Addr).add j = ⟨sb, so + j, none⟩ := by unfold Addr.add; split <;> simp_all
                        rw [ea]; exact this
                      · cases hj) (by rw [hlen]; rw [← Array.length_toList, lc]; omega) (fun v hv => (RdL.all (fun _ _ => Rd.one sh1) ht v hv).2)
                    rw [hm] at r0
                    refine fin (row := some g) (grown_setRow w g _) (fun k e => by cases e; rw [e1]; exact rowBlk_own q3.1) (by rw [e1, s1]; exact r0) ?_
                    have el : (l2.take l1.length ++ l1.drop l2.length) = l2.take m ++ l1.drop m := by
                      rcases Nat.le_total l2.length l1.length with hh | hh
                      · have : m = l2.length := by rw [← hm]; exact Nat.min_eq_left hh
                        rw [this, List.take_of_length_le hh, List.take_of_length_le (Nat.le_refl _)]
                      · have : m = l1.length := by rw [← hm]; exact Nat.min_eq_right hh
                        rw [this, List.drop_of_length_le hh, List.drop_of_length_le (Nat.le_refl _)]
                    rw [el]
                    have ll : (l2.take m ++ l1.drop m).length = l1.length := by rw [List.length_append, List.length_take, List.length_drop]; omega
                    refine .inr (.inr ⟨g, cap, _, by rw [ll]; exact e1, setRow_heap w g _ _ tt (0, 0) q1, by rw [ll]; exact q2, q3, ?_, ?_⟩)
                    · simp only [List.size_toArray, List.length_append, List.length_drop, hlen]; omega
                    · rw [ll]
                      have h2 := RdL.split (fun _ _ => Rd.size sh1) (l := l1.take m) (l' := l1.drop m) (by rw [List.take_append_drop]; exact q5)
                      have h3 := ht.append h2.2
                      have e3 : List.take (l1.length * sh1.size) (cs.take (m * sh1.size) ++ List.drop (cs.take (m * sh1.size)).length cur.toList) = cs.take (m * sh1.size) ++ List.drop ((l1.take m).length * sh1.size) (List.take (l1.length * sh1.size) cur.toList) := by
                        rw [hlen, List.length_take, Nat.min_eq_left hm3]
                        apply List.ext_getElem?
                        intro p
                        simp only [List.getElem?_append, List.getElem?_take, List.getElem?_drop, List.length_take, lc]
                        repeat' split
                        all_goals first | rfl | omega | (congr 1; omega) | (exfalso; omega) | skip
                      simp only at e3 ⊢
                      rw [e3]; exact h3
              · exact k.elim
            · exact k.elim
          · exact k.elim
        · exact k.elim
      · exact k.elim
    · exact k.elim
  · exact k.elim
end
end Go.Eng
set_option linter.unusedSimpArgs false
set_option linter.unusedVariables false
namespace Go.Eng
open Go Go.RowKit
def Wd (F : Fence) : Prop := F = Fence.wide ∨ ∃ l, F = Fence.wide.inRound l
theorem Wd.fn {F : Fence} (h : Wd F) (f : FuncId) : F.fn f := by rcases h with rfl | ⟨l, rfl⟩ <;> trivial
theorem Wd.depth {F : Fence} (h : Wd F) : F.depth = none := by rcases h with rfl | ⟨l, rfl⟩ <;> rfl
theorem Wd.calls {F : Fence} (hF : Wd F) {n : Nat} {P : Program} {f : FuncId} {args : Array Value} {w : World} {R : Ending → World → Prop} (h : Calls P f args w R) : CallsIn F n P f args w R := by
  rcases hF with rfl | ⟨l, rfl⟩
  · exact callsIn_wide.2 h
  · exact (callsIn_wide.2 h : CallsIn Fence.wide n P f args w R).inRound l
@[reducible] def notDef : Op → Bool
  | .defer _ => false
  | _ => true
@[reducible] def ndL : List Oper → Bool
  | [] => true
  | o :: l => andB (notDef o.op) (ndL l)
section
variable {F : Fence} {n : Nat} {P : Program} {ops : Array Oper} {md : Region.Mode}
theorem wp_In (hF : Wd F) {o : Oper} (hd : notDef o.op = true) {a : Act} {w : World} {Nx : Act → World → Prop} {Q Q' : Exit → Act → World → Prop} (h : o.wp P a w Nx noQ) : o.wpIn F n P a w Nx Q' := by
  refine ⟨fun f _ => hF.fn f, ?_⟩
  rw [Oper.semAt_eq _ _ _ (fun c hc => by rw [hc] at hd; cases hd)]
  unfold Oper.wp at h
  generalize (execOp a.eval o).run P w = r at *
  cases r with
  | ok m w' =>
    cases m <;> simp only [Oper.upon] at h <;> simp only [Oper.uponIn]
    case enter f args =>
      refine ⟨fun hh => (by rw [hF.depth] at hh; cases hh), hF.calls (h.mono fun e w'' he => ?_)⟩
      cases e with
      | returned v => exact he
      | panicked c => exact False.elim he
      | outgrown => exact letsOut_no he
    case row row args =>
      refine ⟨fun hh => (by rw [hF.depth] at hh; cases hh), fun c cs _ => ?_⟩
      obtain ⟨v, w'', hr, hs⟩ := h c cs
      refine ⟨v, w'', hr, ?_⟩
      have : StepsIn (Machine.fenced P Fence.wide) P (lone (Frame.ofRow P row args .normal) (c :: cs) w') (lone (c.finish v) cs w'') := stepsIn_wide.2 hs
      rcases hF with rfl | ⟨l, rfl⟩
      · exact this
      · exact this
    all_goals first | exact h | exact h.elim
  | halt x w' => cases x <;> simp only [Oper.upon] at h <;> first | exact h.elim | exact False.elim h
def wpL (P : Program) (ops : Array Oper) (R : Act → World → Prop) : List Oper → Act → World → Prop
  | [], a, w => R a w
  | o :: rest, a, w => if Region.wanted o (yielded ops a.tmps) = true then o.wp P a w (wpL P ops R rest) noQ else wpL P ops R rest (a.put o.dst undef) w
theorem wpL_In (hF : Wd F) {R : Act → World → Prop} {Q : Exit → Act → World → Prop} (hR : ∀ a w, R a w → Q .normal a w) : ∀ (l : List Oper) (k : Nat) (a : Act) (w : World), (∀ j, l[j]? = ops[k + j]?) → ndL l = true → wpL P ops R l a w →
    wpOpsIn F n P ops Q (List.range' k l.length) a w
  | [], k, a, w, _, _, h => hR _ _ h
  | o :: l, k, a, w, hl, hn, h => by
    have h0 : ops[k]? = some o := by simpa using (hl 0).symm
    simp only [ndL, andB_eq, Bool.and_eq_true] at hn
    have ih : ∀ a w, wpL P ops R l a w → wpOpsIn F n P ops Q (List.range' (k + 1) l.length) a w := fun a w => wpL_In hF hR l (k + 1) a w (fun j => by have := hl (j + 1); simpa [Nat.add_assoc, Nat.add_comm 1 j] using this) hn.2
    simp only [List.length_cons, List.range'_succ, wpOpsIn, h0]
    unfold wpL at h
    split
    · rename_i hw; rw [if_pos hw] at h; exact Oper.wpIn_mono ih (wp_In (Q := Q) hF hn.1 h)
    · rename_i hw; rw [if_neg hw] at h; exact ⟨fun f _ => hF.fn f, ih _ _ h⟩
theorem wpL_region (hF : Wd F) {R : Act → World → Prop} {Q : Exit → Act → World → Prop} (hR : ∀ a w, R a w → Q .normal a w) {id : Nat} {a : Act} {w : World} (hn : ndL ops.toList = true) (h : wpL P ops R ops.toList a w) : (Code.region id ops false).wpIn F n P Q a w :=
  wpIn_region (by
    have := wpL_In (n := n) hF hR ops.toList 0 a w (fun j => by simp) hn h
    rw [List.range_eq_range']
    simpa using this)
theorem nd_get (hn : ndL ops.toList = true) {i : Nat} {o : Oper} (h : ops[i]? = some o) : notDef o.op = true := by
  have key : ∀ {l : List Oper}, ndL l = true → o ∈ l → notDef o.op = true := by
    intro l
    induction l with
    | nil => intro _ hm; cases hm
    | cons x l ih =>
      intro hh hm
      simp only [ndL, andB_eq, Bool.and_eq_true] at hh
      rcases List.mem_cons.1 hm with rfl | hm
      · exact hh.1
      · exact ih hh.2 hm
  exact key hn (List.mem_of_getElem? (i := i) (by simpa using h))
theorem wpO_In (hF : Wd F) (hn : ndL ops.toList = true) {i : Nat} {K : Act → World → Prop} {Q : Exit → Act → World → Prop} {a : Act} {w : World} (h : wpO P ops i K a w) : wpOpIn F n P ops Q i K a w := by
  unfold wpO at h
  unfold wpOpIn
  split
  · rename_i ho; simpa [ho] using h
  · rename_i o ho
    simp only [ho] at h
    split
    · rename_i hw; rw [if_pos hw] at h; exact wp_In (Q := Q) hF (nd_get hn ho) h
    · rename_i hw; rw [if_neg hw] at h; exact ⟨fun f _ => hF.fn f, h⟩
theorem anyI_In {sf : Nat → Bool} (hF : Wd F) (hn : ndL ops.toList = true) {R : Act → World → Prop} {Q : Exit → Act → World → Prop} (hR : ∀ a w, R a w → Q .normal a w) : ∀ (fuel : Nat) (listed : Array Bool) (a : Act) (w : World),
    anyI P md ops sf R fuel listed a w → wpAnyIn F n P md ops Q fuel listed a w
  | 0, _, _, _, h => ⟨h.1, hR _ _ h.2⟩
  | fuel + 1, _, _, _, h => ⟨fun e => hR _ _ (h.1 e), fun i hi => wpO_In hF hn (wpO_mono (fun a w hh => anyI_In hF hn hR fuel _ a w hh.2) (h.2 i hi))⟩
theorem stOp_In (hF : Wd F) (hn : ndL ops.toList = true) {i : Nat} {w : World} {K : Act → Prop} {K' : Act → World → Prop} (hK : ∀ a, K a → K' a w) {Q : Exit → Act → World → Prop} {a : Act} (h : stOp P ops w i K a) : wpOpIn F n P ops Q i K' a w := by
  unfold stOp at h
  unfold wpOpIn
  split
  · rename_i ho; simp only [ho] at h; exact hK _ h
  · rename_i o ho
    simp only [ho] at h
    split
    · rename_i hw; rw [if_pos hw] at h; exact wp_In (Q := Q) hF (nd_get hn ho) (Oper.wp_of_still hK h)
    · rename_i hw; rw [if_neg hw] at h; exact ⟨fun f _ => hF.fn f, hK _ h⟩
theorem anyS_In (hF : Wd F) (hn : ndL ops.toList = true) {w : World} {R : Act → Prop} {Q : Exit → Act → World → Prop} (hR : ∀ a, R a → Q .normal a w) : ∀ (fuel : Nat) (listed : Array Bool) (a : Act),
    wpAnyS P md ops w R fuel listed a → wpAnyIn F n P md ops Q fuel listed a w
  | 0, _, _, h => ⟨h.1, hR _ h.2⟩
  | fuel + 1, _, _, h => ⟨fun e => hR _ (h.1 e), fun i hi => stOp_In hF hn (fun a hh => anyS_In hF hn hR fuel _ a hh) (h.2 i hi)⟩
theorem still_region (hF : Wd F) (hn : ndL ops.toList = true) {id : Nat} {Q : Exit → Act → World → Prop} {a : Act} {w : World} (hm : P.follows .mixedOrders = true) (hB : Region.lexB .any ops = true)
    (h : wpStill P ops { w with drawn := w.drawn + 1 } (fun a' => Q .normal a' { w with drawn := w.drawn + 1 }) ops.toList a) : (Code.region id ops true).wpIn F n P Q a w := by
  simp only [Region.lexB, Bool.and_eq_true] at hB
  refine wpIn_region_any hm (anyS_In (R := fun a' => Q .normal a' { w with drawn := w.drawn + 1 }) hF hn (fun _ h => h) _ _ _ ?_)
  have := wpAnyS_lex (md := .any) hB.1 ops.toList 0 (Array.replicate ops.size false) a (by simp) (by simpa using hB.2) h
  simpa using this
theorem wpIn_loop_ghost {Q : Exit → Act → World → Prop} {a : Act} {w : World} {c : Code} (I : Nat → Act → World → Prop) (n₀ : Nat) (h₀ : I n₀ a w)
    (round : ∀ m a w, I m a w → c.wpIn F n P (Exit.then (fun a' w' => ∃ n', n' < m ∧ I n' a' w') Q) a w) : (Code.loop c).wpIn F n P Q a w := by
  refine wpIn_loop (fun a w => ∃ m, I m a w) (fun a w => leastOf (fun m => I m a w)) ⟨n₀, h₀⟩ ?_
  intro a w hI
  refine wpIn_mono (round _ a w (leastOf_spec hI).1) ?_
  intro e a' w' hq
  cases e with
  | normal =>
    obtain ⟨n', hlt, hI'⟩ := hq
    exact show (∃ m, I m a' w') ∧ leastOf (fun m => I m a' w') < leastOf (fun m => I m a w) from ⟨⟨n', hI'⟩, Nat.lt_of_le_of_lt ((leastOf_spec ⟨n', hI'⟩).2 n' hI') hlt⟩
  | exit id => exact hq
  | goto l => exact hq
  | ret => exact hq
  | panic ch => exact hq
  | outgrown => exact hq
end
end Go.Eng
set_option linter.unusedSimpArgs false
set_option linter.unusedVariables false
namespace Go.Eng
open Go Go.RowKit
section
variable {P : Program} {ops : Array Oper} {md : Region.Mode} {n : Nat} {sf : Nat → Bool}
def wpOW (P : Program) (n : Nat) (ops : Array Oper) (i : Nat) (K : Act → World → Prop) (a : Act) (w : World) : Prop :=
  match ops[i]? with
  | none => K a w
  | some o => if Region.wanted o (yielded ops a.tmps) = true then o.uponIn Fence.wide n P a K noQ ((execOp a.eval o).run P w) else K (a.put o.dst undef) w
theorem upon_mono {o : Oper} {a : Act} {K K' : Act → World → Prop} {Q' : Exit → Act → World → Prop} (h : ∀ a w, K a w → K' a w) {r : Result Next} (hh : o.uponIn Fence.wide n P a K noQ r) : o.uponIn Fence.wide n P a K' Q' r := by
  cases r with
  | ok x w' =>
    cases x <;> simp only [Oper.uponIn] at hh ⊢
    case enter f args =>
      refine ⟨hh.1, hh.2.mono fun e w'' he => ?_⟩
      cases e with
      | returned v => exact h _ _ he
      | panicked c => exact False.elim he
      | outgrown => exact letsOut_no he
    case row r args =>
      exact ⟨hh.1, RowsIn.mono hh.2 fun v w'' he => h _ _ he⟩
    case round l f tmps asg body =>
      refine ⟨hh.1, RoundIn.mono hh.2 fun e w'' he => ?_⟩
      cases e with
      | returned v => exact h _ _ he
      | panicked c => exact False.elim he
      | outgrown => exact letsOut_no he
    all_goals first | exact h _ _ hh | exact hh.elim
  | halt x w' => cases x <;> simp only [Oper.uponIn] at hh ⊢ <;> exact False.elim hh
theorem wpOW_mono {i : Nat} {K K' : Act → World → Prop} {a : Act} {w : World} (h : ∀ a w, K a w → K' a w) (hh : wpOW P n ops i K a w) : wpOW P n ops i K' a w := by
  unfold wpOW at *
  split
  · exact h _ _ (by simpa [*] using hh)
  · rename_i o ho
    simp only [ho] at hh
    split
    · rename_i hw; rw [if_pos hw] at hh; exact upon_mono h hh
    · rename_i hw; rw [if_neg hw] at hh; exact h _ _ hh
theorem wpOW_In (hn : ndL ops.toList = true) {i : Nat} {K : Act → World → Prop} {Q : Exit → Act → World → Prop} {a : Act} {w : World} (h : wpOW P n ops i K a w) : wpOpIn Fence.wide n P ops Q i K a w := by
  unfold wpOW at h
  unfold wpOpIn
  split
  · rename_i ho; simpa [ho] using h
  · rename_i o ho
    simp only [ho] at h
    split
    · rename_i hw
      rw [if_pos hw] at h
      refine ⟨fun f _ => trivial, ?_⟩
      rw [Oper.semAt_eq _ _ _ (fun c hc => by have := nd_get hn ho; rw [hc] at this; cases this)]
      exact upon_mono (fun _ _ hh => hh) h
    · rename_i hw; rw [if_neg hw] at h; exact ⟨fun f _ => trivial, h⟩
theorem wpO_W (hn : ndL ops.toList = true) {i : Nat} {K : Act → World → Prop} {a : Act} {w : World} (h : wpO P ops i K a w) : wpOW P n ops i K a w := by
  unfold wpO at h
  unfold wpOW
  split
  · rename_i ho; simpa [ho] using h
  · rename_i o ho
    simp only [ho] at h
    split
    · rename_i hw
      rw [if_pos hw] at h
      have h2 := (wp_In (n := n) (Q := noQ) (Q' := noQ) (.inl rfl : Wd Fence.wide) (nd_get hn ho) h).2
      rwa [Oper.semAt_eq _ _ _ (fun c hc => by have := nd_get hn ho; rw [hc] at this; cases this)] at h2
    · rename_i hw; rw [if_neg hw] at h; exact h
def anyW (P : Program) (n : Nat) (md : Region.Mode) (ops : Array Oper) (sf : Nat → Bool) (R : Act → World → Prop) : Nat → Array Bool → Act → World → Prop
  | 0, listed, a, w => Region.ready md ops listed = [] ∧ R a w
  | fuel + 1, listed, a, w => (Region.ready md ops listed = [] → R a w) ∧
    ∀ i ∈ Region.ready md ops listed, wpOW P n ops i (fun a' w' => (sf i = true → Gro w w') ∧ anyW P n md ops sf R fuel (listed.setIfInBounds i true) a' w') a w
theorem anyW_In (hn : ndL ops.toList = true) {R : Act → World → Prop} {Q : Exit → Act → World → Prop} (hR : ∀ a w, R a w → Q .normal a w) : ∀ (fuel : Nat) (listed : Array Bool) (a : Act) (w : World),
    anyW P n md ops sf R fuel listed a w → wpAnyIn Fence.wide n P md ops Q fuel listed a w
  | 0, _, _, _, h => ⟨h.1, hR _ _ h.2⟩
  | fuel + 1, _, _, _, h => ⟨fun e => hR _ _ (h.1 e), fun i hi => wpOW_In hn (wpOW_mono (fun a w hh => anyW_In hn hR fuel _ a w hh.2) (h.2 i hi))⟩
theorem YI.wpOW {ld : Bool} {w0 : World} {i : Nat} {o : Oper} {v : Value} {a : Act} (hi : ops[i]? = some o) (hy : YI P ops ld w0 o v a) {K : Act → World → Prop} {w : World} (hg : ld = true → Gro w0 w)
    (h : K (a.put o.dst v) w) : wpOW P n ops i K a w := by
  unfold Go.Eng.wpOW
  simp only [hi]
  rcases hy with ⟨hw, hv⟩ | ⟨hw, rfl⟩
  · rw [if_pos hw, hv w hg]; exact h
  · rw [if_neg (by rw [hw]; simp)]; exact h
theorem wpOW_put {ld : Bool} {w0 : World} {j : Nat} {oi oj : Oper} {v : Value} (hj : ops[j]? = some oj) (hap : oi.apart ops oj = true)
    (hsi : ∀ cs b, oi.op ≠ .select cs b) (hsj : ∀ cs b, oj.op ≠ .select cs b) {K : Act → World → Prop} {a : Act} {w : World}
    (hy : YI P ops ld w0 oi v a) (h : wpOW P n ops j K (a.put oi.dst v) w) :
    wpOW P n ops j (fun a' w' => YI P ops ld w0 oi v a' ∧ K (a'.put oi.dst v) w') a w := by
  obtain ⟨h1, h2, h3⟩ := Oper.apart_spec hap
  have keep : ∀ (a : Act), YI P ops ld w0 oi v a → ∀ u, YI P ops ld w0 oi v (a.put oj.dst u) := fun a hy u =>
    hy.of_same (execOp_put oi hsi a oj.dst u h3) (wanted_put oi a oj.dst u h3)
  have keepD : ∀ d, YI P ops ld w0 oi v { a with defers := d :: a.defers } := fun d => hy.of_same rfl rfl
  unfold wpOW at *
  simp only [hj] at *
  rw [wanted_put oj a oi.dst v h1] at h
  split
  · rename_i hw
    rw [if_pos hw] at h
    rw [execOp_put oj hsj a oi.dst v h1] at h
    generalize (execOp a.eval oj).run P w = r at *
    cases r with
    | ok m w' =>
      cases m <;> simp only [Oper.uponIn] at h ⊢
      case value u => exact ⟨keep a hy u, by rw [← Act.put_comm a v u h2]; exact h⟩
      case skip => exact ⟨keep a hy _, by rw [← Act.put_comm a v undef h2]; exact h⟩
      case defer d =>
        refine ⟨(keep _ (keepD d) _), ?_⟩
        rw [← Act.put_comm _ v undef h2, ← Act.put_defers]
        exact h
      case enter f args =>
        refine ⟨h.1, h.2.mono fun e w'' he => ?_⟩
        cases e with
        | returned u => exact ⟨keep a hy u, by rw [← Act.put_comm a v u h2]; exact he⟩
        | panicked c => exact he
        | outgrown => exact he
      case row r args =>
        refine ⟨h.1, RowsIn.mono h.2 fun u w'' he => ?_⟩
        exact ⟨keep a hy u, by rw [← Act.put_comm a v u h2]; exact he⟩
      case round l f tmps asg body =>
        refine ⟨h.1, RoundIn.mono h.2 fun e w'' he => ?_⟩
        cases e with
        | returned u => exact ⟨keep a hy u, by rw [← Act.put_comm a v u h2]; exact he⟩
        | panicked c => exact he
        | outgrown => exact he
      all_goals exact h
    | halt x w' => cases x <;> simp only [Oper.uponIn] at h ⊢ <;> exact h
  · rename_i hw
    rw [if_neg hw] at h
    exact ⟨keep a hy _, by rw [← Act.put_comm a v undef h2]; exact h⟩
theorem anyW_first {R : Act → World → Prop} {ld : Bool} {w0 : World} {i : Nat} {oi : Oper} {v : Value} {bl : List Nat} (hi : ops[i]? = some oi) (hsel : ∀ (j : Nat) (o : Oper) cs b, ops[j]? = some o → o.op ≠ .select cs b)
    (hq : sf i = true) :
    ∀ (fuel : Nat) (listed : Array Bool) (a : Act) (w : World),
      (∀ j oj, ops[j]? = some oj → j ≠ i → listed.getD j true = false → (∀ e ∈ oj.after, Region.binds md e = true → e.on ≠ i) → oi.apart ops oj = true) →
      (ld = true → Waits md ops listed i bl ∧ ∀ j, j ≠ i → listed.getD j true = false → sf j = false → j ∈ bl) →
      i ∈ Region.ready md ops listed → YI P ops ld w0 oi v a → (ld = true → Gro w0 w) →
      anyW P n md ops sf R fuel (listed.setIfInBounds i true) (a.put oi.dst v) w → anyW P n md ops sf R (fuel + 1) listed a w := by
  intro fuel
  induction fuel with
  | zero =>
    intro listed a w _ _ hr hy hg H
    refine ⟨fun h => (by rw [h] at hr; cases hr), fun j hj => ?_⟩
    by_cases hji : j = i
    · subst hji; exact hy.wpOW hi hg ⟨fun _ => Gro.refl w, H⟩
    · have := ready_mono hj hji
      rw [H.1] at this
      cases this
  | succ fuel ih =>
    intro listed a w hfree hbl hr hy hg H
    refine ⟨fun h => (by rw [h] at hr; cases hr), fun j hj => ?_⟩
    by_cases hji : j = i
    · subst hji; exact hy.wpOW hi hg ⟨fun _ => Gro.refl w, H⟩
    · have h1 := H.2 j (ready_mono hj hji)
      obtain ⟨hjun, oj, hoj, hall⟩ := mem_ready.1 hj
      have hiun := (mem_ready.1 hr).1
      have hnot : ∀ e ∈ oj.after, Region.binds md e = true → e.on ≠ i := fun e he hb heq => by
        have h1 := hall e he hb
        rw [heq, getD_dflt hiun] at h1; cases h1
      have h2 := wpOW_put hoj (hfree j oj hoj hji hjun hnot) (fun cs b => hsel i oi cs b hi) (fun cs b => hsel j oj cs b hoj) hy h1
      have hfree' : ∀ k ok, ops[k]? = some ok → k ≠ i → (listed.setIfInBounds j true).getD k true = false →
          (∀ e ∈ ok.after, Region.binds md e = true → e.on ≠ i) → oi.apart ops ok = true := fun k ok hk hki hun hno => by
        refine hfree k ok hk hki ?_ hno
        by_cases hjk : j = k
        · subst hjk; exact hjun
        · rw [getD_set_ne true hjk] at hun; exact hun
      have hjbl : ld = true → j ∉ bl := fun e hm => not_ready hiun (hbl e).1 hm hj
      have hsj : ld = true → sf j = true := fun e => by
        cases hs : sf j with
        | true => rfl
        | false => exact absurd ((hbl e).2 j hji hjun hs) (hjbl e)
      have hbl' : ld = true → Waits md ops (listed.setIfInBounds j true) i bl ∧ ∀ k, k ≠ i → (listed.setIfInBounds j true).getD k true = false → sf k = false → k ∈ bl := fun e => by
        refine ⟨fun k hk => ?_, fun k hki hun hs => ?_⟩
        · obtain ⟨g1, g2⟩ := (hbl e).1 k hk
          refine ⟨?_, g2⟩
          rw [getD_set_ne true (fun hh => hjbl e (by rw [hh]; exact hk))]; exact g1
        · refine (hbl e).2 k hki ?_ hs
          by_cases hjk : j = k
          · subst hjk; exact hjun
          · rw [getD_set_ne true hjk] at hun; exact hun
      refine wpOW_mono (fun a' w' h3 => ⟨h3.2.1, ih (listed.setIfInBounds j true) a' w' hfree' hbl' (ready_mono hr (Ne.symm hji)) h3.1 (fun e => (hg e).trans (h3.2.1 (hsj e))) ?_⟩) h2
      rw [Array.setIfInBounds_comm _ _ hji]
      exact h3.2.2
end
end Go.Eng
set_option linter.unusedSimpArgs false
set_option linter.unusedVariables false
namespace Go.Eng
open Go Go.RowKit
@[reducible] def isMapOf (cx : Cx) (t : TypeId) (K : IntKind → TypeId → TI → Sh → Prop) : Prop := match lkT cx.ti t with
  | some i => match i.desc with
    | .map kt et => match lkT cx.ti kt with
      | some ik => match ik.desc with
        | .int kk => match lkT cx.ti et with
          | some ie => match ie.shp with
            | some sh => K kk et ie sh
            | none => False
          | none => False
        | _ => False
      | none => False
    | _ => False
  | none => False
@[reducible] def isMapT (cx : Cx) (t : TypeId) : Bool := match lkT cx.ti t with
  | some i => match i.desc with
    | .map _ _ => true
    | _ => false
  | none => false
@[reducible] def mapRd (cx : Cx) (s : St) (x : Operand) (kk : IntKind) (sh : Sh) : Option (List (Int × sh.den)) := match getE cx s [] x with
  | some (.one (.c (.one s' d))) => castD s' d (.mp kk sh)
  | some (.one (.c (.row i))) => match nthL s.T i with
    | some ([], .mp kk' sh' l) => castD (.mp kk' sh') l (.mp kk sh)
    | _ => none
  | some (.one (.c (.v (.map none)))) => some []
  | _ => none
@[reducible] def keyRd (cx : Cx) (s : St) (x : Operand) (kk : IntKind) : Option Int := match getE cx s [] x with
  | some (.one (.c (.v (.int k n)))) => match Nat.beq (ikn k) (ikn kk) with
    | true => some n
    | false => none
  | _ => none
@[reducible] def makeMapK (cx : Cx) (s : St) (d : Option Nat) (t : TypeId) (K : St → Prop) : Prop := isMapOf cx t fun kk _ _ sh =>
  K ({ s with T := snoc s.T ([], .mp kk sh []) }.put d [] (.one (.c (.row (lenL s.T)))))
@[reducible] def mapUpdK (cx : Cx) (s : St) (d : Option Nat) (t : TypeId) (m x y : Operand) (K : St → Prop) : Prop := isMapOf cx t fun kk _ _ sh => match getE cx s [] m with
  | some (.one (.c (.row i))) => match nthL s.T i with
    | some ([], .mp kk' sh' l) => match castD (.mp kk' sh') l (.mp kk sh) with
      | none => False
      | some l => match keyRd cx s x kk with
        | none => False
        | some n => match getE cx s [] y with
          | some (.one v) => match toDat sh v with
            | none => False
            | some dd => K ({ s with T := setL s.T i ([], .mp kk sh (mput l n dd)) }.put d [] (.one .und))
          | _ => False
    | _ => False
  | _ => False
@[reducible] def mapDelK (cx : Cx) (s : St) (d : Option Nat) (t : TypeId) (m x : Operand) (K : St → Prop) : Prop := isMapOf cx t fun kk _ _ sh => match getE cx s [] m with
  | some (.one (.c (.row i))) => match nthL s.T i with
    | some ([], .mp kk' sh' l) => match castD (.mp kk' sh') l (.mp kk sh) with
      | none => False
      | some l => match keyRd cx s x kk with
        | none => False
        | some n => K ({ s with T := setL s.T i ([], .mp kk sh (mdel l n)) }.put d [] (.tup []))
    | _ => False
  | _ => False
def mgetD {α : Type} (l : List (Int × α)) (n : Int) (z : α) : α := (mget l n).getD z
def mhas {α : Type} (l : List (Int × α)) (n : Int) : Bool := (mget l n).isSome
@[reducible] def mapPure (cx : Cx) (s : St) (o : Op) (K : Ent → Prop) : Option Prop := match o with
  | .lookup t m x ok => some (isMapOf cx t fun kk _ _ sh => match mapRd cx s m kk sh with
    | none => False
    | some l => match keyRd cx s x kk with
      | none => False
      | some n => match ok with
        | false => K (.one (ofDat sh (mgetD l n (zdat sh))))
        | true => K (.tup [ofDat sh (mgetD l n (zdat sh)), .c (.v (.bool (mhas l n)))]))
  | .call c => match c.callee with
    | .builtin .len => match tl c.argTypes with
      | [t] => match isMapT cx t with
        | false => none
        | true => some (isMapOf cx t fun kk _ _ sh => match tl c.args with
          | [m] => match mapRd cx s m kk sh with
            | none => False
            | some l => K (.one (.c (.v (.int .i64 l.length))))
          | _ => False)
      | _ => none
    | _ => none
  | _ => none
@[reducible] def frzM (cx : Cx) (s : St) (m : Operand) : List Nat := match getE cx s [] m with
  | some (.one (.c (.row i))) => [i]
  | _ => []
@[reducible] def rangeMK (cx : Cx) (s : St) (d : Option Nat) (t : TypeId) (m : Operand) (K : St → Prop) : Prop := isMapOf cx t fun kk _ _ sh => match getE cx s [] m with
  | some (.one (.c (.one s' l0))) => match castD s' l0 (.mp kk sh) with
    | none => False
    | some l => K ({ s with T := snoc s.T ([], .it kk sh l []) }.put d [] (.one (.c (.own (lenL s.T) 0))))
  | _ => False
@[reducible] def nextMK (cx : Cx) (s : St) (d : Option Nat) (it : Operand) (K : St → Prop) : Prop := match getE cx s [] it with
  | some (.one (.c (.own r 0))) => match nthL s.T r with
    | some ([], .it kk sh l dn) => ((∀ x ∈ l, x ∈ dn) → K (s.put d [] (.tup [.c (.v (.bool false))]))) ∧
        ∀ (n : Int) (v : sh.den), (n, v) ∈ l → (∀ y ∈ dn, y.1 ≠ n) → K ({ s with T := setL s.T r ([], .it kk sh l (dn ++ [(n, v)])) }.put d [] (.tup [.c (.v (.bool true)), .c (.v (.int kk n)), ofDat sh v]))
    | _ => False
  | _ => False
@[reducible] def entryMK (cx : Cx) (s : St) (d : Option Nat) (it : Operand) (K : St → Prop) : Prop := match getE cx s [] it with
  | some (.one (.c (.own r 0))) => match nthL s.T r with
    | some ([], .it kk sh l dn) => dn ≠ [] ∧ ∀ (n : Int) (v : sh.den), dn.getLast? = some (n, v) → K (s.put d [] (.tup [.c (.v (.int kk n)), ofDat sh v]))
    | _ => False
  | _ => False
@[reducible] def mapP (cx : Cx) (s : St) (o : Oper) (K : St → Prop) : Option Prop := match o.guard with
  | some _ => none
  | none => match o.op with
    | .makeMap t hint => match hint with
      | none => some (makeMapK cx s o.dst t K)
      | some _ => none
    | .mapUpdate t m x y => some (mapUpdK cx s o.dst t m x y K)
    | .insert t m x y => some (mapUpdK cx s o.dst t m x y K)
    | .range t m => match isMapT cx t with
      | true => some (rangeMK cx (frzAll s (frzM cx s m)) o.dst t m K)
      | false => none
    | .next it str => match str with
      | false => some (nextMK cx s o.dst it K)
      | true => none
    | .entry it => some (entryMK cx s o.dst it K)
    | .call c => match c.callee with
      | .builtin .delete => match tl c.argTypes with
        | t :: _ => match tl c.args with
          | [m, x] => some (mapDelK cx s o.dst t m x K)
          | _ => none
        | _ => none
      | _ => mapPure cx s o.op fun e => K (s.put o.dst [] e)
    | _ => mapPure cx s o.op fun e => K (s.put o.dst [] e)
section
variable {cx : Cx} {P : Program} {N : Nat} {B : Base} {h0 : FH} {s : St} {h : FH} {β : List RV} {w : World} {a : Act} {o : Oper} {K : St → Prop}
structure MapT (P : Program) (t : TypeId) (kk : IntKind) (et : TypeId) (ie : TI) (sh : Sh) : Prop where
  und : ∃ kt, P.underlying t = some (.map kt et) ∧ P.underlying kt = some (.int kk)
  ei : TIOK P et ie
  es : ie.shp = some sh
theorem isMapOf_ok (hc : TisOK P cx.ti) {t : TypeId} {K : IntKind → TypeId → TI → Sh → Prop} (k : isMapOf cx t K) : ∃ kk et ie sh, K kk et ie sh ∧ MapT P t kk et ie sh := by
  unfold isMapOf at k
  split at k
  · rename_i i hi
    split at k
    · rename_i kt et hd
      split at k
      · rename_i ik hik
        split at k
        · rename_i kk hkk
          split at k
          · rename_i ie hie
            split at k
            · rename_i sh hsh
              exact ⟨kk, et, ie, sh, k, ⟨kt, (hc.get hi).und' hd rfl, (hc.get hik).und' hkk rfl⟩, hc.get hie, hsh⟩
            · exact k.elim
          · exact k.elim
        · exact k.elim
      · exact k.elim
    · exact k.elim
  · exact k.elim
theorem zero_DW {et : TypeId} {ie : TI} {sh : Sh} (k : TIOK P et ie) (hs : ie.shp = some sh) (h : FH) (w : World) : ∃ z, (zeroValue et).run P w = .ok z w ∧ DW h sh z (zdat sh) := by
  obtain ⟨inf, z, h1, h2, h3, h4, h5⟩ := k.info
  obtain ⟨r, ha⟩ := k.zshp sh hs
  refine ⟨z, by simp [zeroValue, typeInfo, h1, h4], ie.zero, ?_, Rd_empty r⟩
  have hz := k.zagg inf z h1 h4
  rw [← ha] at hz
  unfold mkV
  cases z with
  | agg cs =>
    have hz : sh.isAgg = true := hz.symm
    rw [hz, if_pos rfl]
    simp [Value.cells] at h5
    rw [h5]
  | _ =>
    have hz : sh.isAgg = false := hz.symm
    rw [hz, if_neg (by simp)]
    have h6 := congrArg Array.toList h5
    simp only [Value.cells] at h6
    rw [show ie.zero = _ from h6.symm]; rfl
theorem DW.cn {sh : Sh} {y : Value} {d : sh.den} (x : DW h sh y d) : CnV h β (ofDat sh d) y := by
  obtain ⟨cs, rfl, r⟩ := x
  exact ofDat_ok sh r
def MapIs (h : FH) (w : World) (kk : IntKind) (sh : Sh) (y : Value) (l : List (Int × sh.den)) : Prop :=
  (y = .map none ∧ l = []) ∨ ∃ b es c, y = .map (some b) ∧ w.heap[b]? = some (.map es c) ∧ MapR kk (DW h sh) es c l
theorem castMp {k1 kk : IntKind} {s1 sh : Sh} {l1 : List (Int × s1.den)} {l : List (Int × sh.den)} (e : castD (.mp k1 s1) l1 (.mp kk sh) = some l) : k1 = kk ∧ ∃ e' : s1 = sh, (e' ▸ l1 : List (Int × sh.den)) = l := by
  obtain ⟨e1, e2⟩ := castD_eq e
  cases e1
  exact ⟨rfl, rfl, e2⟩
theorem mapRd_ok (sat : Sat N B h0 s h β w a) (hg : GlobOK cx.gd h) {x : Operand} {kk : IntKind} {sh : Sh} {l : List (Int × sh.den)} (e : mapRd cx s x kk sh = some l) : MapIs h w kk sh (a.eval x) l := by
  have tr : gv s.gl [] = true := rfl
  unfold mapRd at e
  split at e
  · rename_i s' d hx
    have c : CnV h β (.c (.one s' d)) (a.eval x) := getE_ok sat hg tr hx
    obtain ⟨e1, e2⟩ := castD_eq e
    subst e1; simp only at e2; subst e2
    obtain ⟨v, hv, r⟩ := c.1
    have hv : a.eval x = v := by simpa using hv
    rw [hv]
    rcases r with r | ⟨b, es, cc, r1, r2, r3⟩
    · exact .inl r
    · exact .inr ⟨b, es, cc, r1, vis_map (sat.ok.hw b 0 _ r2), r3⟩
  · rename_i i hx
    have c : CnV h β (.c (.row i)) (a.eval x) := getE_ok sat hg tr hx
    split at e
    · rename_i kk' sh' l' hT
      obtain ⟨e1, e2, e3⟩ := castMp e
      subst e1; subst e2; simp only at e3; subst e3
      exact .inr (sat.ok.mp_of (effres hT tr) c.1)
    · cases e
  · rename_i hx
    have c : CnV h β (.c (.v (.map none))) (a.eval x) := getE_ok sat hg tr hx
    cases e
    exact .inl ⟨c.1.1, rfl⟩
  · cases e
theorem keyRd_ok (sat : Sat N B h0 s h β w a) (hg : GlobOK cx.gd h) {x : Operand} {kk : IntKind} {n : Int} (e : keyRd cx s x kk = some n) : a.eval x = .int kk n := by
  unfold keyRd at e
  split at e
  · rename_i k m hx
    have c : CnV h β (.c (.v (.int k m))) (a.eval x) := getE_ok sat hg (show gv s.gl [] = true from rfl) hx
    split at e
    · rename_i hk
      cases e
      rw [c.1.1, ikn_inj hk]
    · cases e
  · cases e
theorem run_chk {kt : TypeId} {kk : IntKind} {n : Int} (hk : P.underlying kt = some (.int kk)) (b : Bool) (w : World) : (Instr.checkKey b 10000 kt (.int kk n)).run P w = .ok () w :=
  MapKept.run_checkKey (n := 9999) (k := .int kk n) hk (show kk = kk from rfl) b
theorem run_look {t et : TypeId} {kk : IntKind} {ie : TI} {sh : Sh} (mt : MapT P t kk et ie sh) {y : Value} {l : List (Int × sh.den)} (m : MapIs h w kk sh y l) (n : Int) (ok : Bool) :
    ∃ v, DW h sh v (mgetD l n (zdat sh)) ∧ (Instr.lookup t y (.int kk n) ok).run P w = .ok (if ok then .tuple #[v, .bool (mhas l n)] else v) w := by
  obtain ⟨kt, hu, hk⟩ := mt.und
  obtain ⟨z, hz, dz⟩ := zero_DW mt.ei mt.es h w
  rcases m with ⟨rfl, rfl⟩ | ⟨b, es, c, rfl, hb, m⟩
  · refine ⟨z, dz, ?_⟩
    have hf := MapKept.run_findKey (P := P) (w := w) (k := .int kk n) (l := []) hk rfl
    simp [Instr.lookup, run_underlying hu, run_chk hk, hf, hz, mhas, mget, Result.andThen]
  · rcases m.find kk n with ⟨j, e, d, e1, e2, e3, e4, e5⟩ | ⟨e1, e2⟩
    · refine ⟨e.val, by rw [show mgetD l n (zdat sh) = d by simp [mgetD, e2]]; exact e3, ?_⟩
      have hf := MapKept.run_findKey (P := P) (w := w) hk e5
      simp [Instr.lookup, run_underlying hu, run_chk hk, MapKept.run_getObj_map hb, hf, mhas, e2, Result.andThen]
    · refine ⟨z, by rw [show mgetD l n (zdat sh) = zdat sh by simp [mgetD, e1]]; exact dz, ?_⟩
      have hf := MapKept.run_findKey (P := P) (w := w) hk e2
      simp [Instr.lookup, run_underlying hu, run_chk hk, MapKept.run_getObj_map hb, hf, hz, mhas, e1, Result.andThen]
theorem run_mlen {t et : TypeId} {kk : IntKind} {ie : TI} {sh : Sh} (mt : MapT P t kk et ie sh) {y : Value} {l : List (Int × sh.den)} (m : MapIs h w kk sh y l) {ts : Array TypeId} (ht : ts = #[t]) {ty : TypeId} :
    (Builtin.len_ ts ty #[y]).run P w = .ok (.int .i64 l.length) w := by
  obtain ⟨kt, hu, hk⟩ := mt.und
  subst ht
  rcases m with ⟨rfl, rfl⟩ | ⟨b, es, c, rfl, hb, m⟩
  · simp [Builtin.len_, run_underlying hu, goInt]
  · simp [Builtin.len_, run_underlying hu, MapKept.run_getObj_map hb, goInt, m.len]
theorem mapPure_run (hc : TisOK P cx.ti) (sat : Sat N B h0 s h β w a) (hg : GlobOK cx.gd h) {K : Ent → Prop} {p : Prop} (hp : mapPure cx s o.op K = some p) (k : p) :
    ∃ e v, K e ∧ (execOp a.eval o).run P w = .ok (.value v) w ∧ CnE h β e v := by
  unfold mapPure at hp
  split at hp
  · rename_i t m x okb ho
    cases hp
    obtain ⟨kk, et, ie, sh, k, mt⟩ := isMapOf_ok hc k
    split at k
    · exact k.elim
    rename_i l hl
    split at k
    · exact k.elim
    rename_i n hn
    have hm := mapRd_ok sat hg hl
    have hx := keyRd_ok sat hg hn
    obtain ⟨v, dv, run⟩ := run_look mt hm n okb
    have run2 : (execOp a.eval o).run P w = .ok (.value (if okb then .tuple #[v, .bool (mhas l n)] else v)) w := by
      simp only [execOp, ho, hx, Sem.run_bind, run, Result.andThen_ok, Sem.run_pure]
    split at k
    · exact ⟨_, _, k, run2, dv.cn⟩
    · exact ⟨_, _, k, run2, [v, .bool (mhas l n)], rfl, dv.cn, ⟨⟨rfl, rfl, rfl⟩, rfl, rfl⟩, trivial⟩
  · rename_i c ho
    split at hp
    · rename_i hcal
      split at hp
      · rename_i t ht
        split at hp
        · cases hp
        · cases hp
          obtain ⟨kk, et, ie, sh, k, mt⟩ := isMapOf_ok hc k
          split at k
          · rename_i m hm0
            split at k
            · exact k.elim
            rename_i l hl
            have hm := mapRd_ok sat hg hl
            refine ⟨_, _, k, ?_, ⟨⟨rfl, rfl, rfl⟩, rfl, rfl⟩⟩
            simp [execOp, ho, resolve, hcal, invoke, builtin, tl_eq hm0, run_mlen mt hm (tl_eq ht)]
          · exact k.elim
      · cases hp
    · cases hp
  · cases hp
theorem upd_stepW (sat : Sat N B h0 s h β w a) {s' : St} (k : K s') {h' : FH} {β' : List RV} {w' : World} {v : Value}
    (run : (execOp a.eval o).run P w = .ok (.value v) w' ∨ ((execOp a.eval o).run P w = .ok .skip w' ∧ v = undef)) (le : h.le h') (sat' : Sat N B h0 s' h' β' w' (a.put o.dst v)) :
    OpW P N B h0 h w a o true K := by
  intro Nx Q next
  rw [if_pos rfl]
  rcases run with run | ⟨run, rfl⟩
  · exact wp_value run (next _ _ _ _ _ k le sat')
  · exact wp_skip' run (next _ _ _ _ _ k le sat')
theorem gb_put {w : World} {b : Nat} {o : Obj} : Gb w (w.putObj b o) (some b) :=
  ⟨⟨rfl, rfl, rfl, by simp [World.putObj], fun k _ hk => World.putObj_heap_other fun e => hk (by rw [e])⟩, Nat.le_refl _⟩
theorem mapUpd_step (hc : TisOK P cx.ti) (sat : Sat N B h0 s h β w a) (hg : GlobOK cx.gd h) (hd : dOK N o.dst = true) {t : TypeId} {m x y : Operand} (ho : o.op = .mapUpdate t m x y ∨ o.op = .insert t m x y) (k : mapUpdK cx s o.dst t m x y K) :
    OpW P N B h0 h w a o true K := by
  have tr : gv s.gl [] = true := rfl
  unfold mapUpdK at k
  obtain ⟨kk, et, ie, sh, k, mt⟩ := isMapOf_ok hc k
  obtain ⟨kt, hu, hk⟩ := mt.und
  split at k
  · rename_i i hm
    split at k
    · rename_i kk' sh' l0 hT
      split at k
      · exact k.elim
      rename_i l hl
      obtain ⟨e1, e2, e3⟩ := castMp hl
      subst e1; subst e2; simp only at e3; subst e3
      split at k
      · exact k.elim
      rename_i n hn
      have hx := keyRd_ok sat hg hn
      split at k
      · rename_i v hv
        have cv := getE_ok sat hg tr hv
        split at k
        · exact k.elim
        rename_i dd hdd
        have dv : DW h sh' (a.eval y) dd := toDat_ok hdd cv
        have cm : CnV h β (.c (.row i)) (a.eval m) := getE_ok sat hg tr hm
        have hT' := effres hT tr
        have hb := sat.ok.mp_rv hT' cm.1
        obtain ⟨b, es, c, em, hw, mr⟩ := sat.ok.mp_of hT' cm.1
        have fin : ∀ {es' : Array MapEntry} {c' : Nat}, MapR kk' (DW h sh') es' c' (mput l0 n dd) → (Instr.mapUpdate t (.map (some b)) (.int kk' n) (a.eval y)).run P w = .ok () (w.putObj b (.map es' c')) → OpW P N B h0 h w a o true K := by
          intro es' c' mr' run
          have ok : OK B h0 (eff s.gl (setL s.T i ([], .mp kk' sh' (mput l0 n dd)))) h β (w.putObj b (.map es' c')) := by
            rw [effset]
            have := sat.ok.upd (r' := .mp kk' sh' (mput l0 n dd)) (v := .row (a.eval m)) hT' rfl hb gb_put (fun k e => by cases e; rw [has_row, em]; rfl) (fun b hb => .inl hb) (.inl rfl)
              (by rw [set_same hb]; exact ⟨b, es', c', em, World.putObj_heap_same (Array.getElem?_eq_some_iff.1 hw).1, mr'⟩)
            rwa [set_same hb] at this
          refine upd_stepW sat k (.inr ⟨?_, rfl⟩) (FH.le.refl h) ((sat.mem ok (FH.le.refl h) (Ext.refl β) (gT_set sat)).put (dOK_lt hd) rfl (fun _ => rfl) fun hh => by cases hh)
          rcases ho with ho | ho <;> simp only [execOp, ho, em, hx, Sem.run_bind, run, Result.andThen_ok, Sem.run_pure]
        have kts : (Instr.keyThatStays (.int kk' n) (.int kk' n)).run P w = .ok (.int kk' n) w := MapKept.run_keyThatStays (d := .int kk') (k := .int kk' n) (show kk' = kk' from rfl)
        rcases mr.find kk' n with ⟨j, e, d, e1, e2, e3, e4, e5⟩ | ⟨e1, e2⟩
        · have hf := MapKept.run_findKey (P := P) (w := w) hk e5
          refine fin (mr.mod e1 e4 dv _ rfl) ?_
          have hj := (Array.getElem?_eq_some_iff.1 e1).1
          simp [Instr.mapUpdate, run_underlying hu, run_chk hk, MapKept.run_getObj_map hw, hf, e1, e4, kts, MapKept.run_setObj_map _ hw, World.putObj, Result.andThen]
        · have hf := MapKept.run_findKey (P := P) (w := w) hk e2
          refine fin (mr.push e1 dv) ?_
          simp [Instr.mapUpdate, run_underlying hu, run_chk hk, MapKept.run_getObj_map hw, hf, MapKept.run_setObj_map _ hw, World.putObj, Result.andThen]
      · exact k.elim
    · exact k.elim
  · exact k.elim
theorem mapDel_step (hc : TisOK P cx.ti) (sat : Sat N B h0 s h β w a) (hg : GlobOK cx.gd h) (hd : dOK N o.dst = true) {t : TypeId} {m x : Operand} {c : Call} (ho : o.op = .call c) (hcal : c.callee = .builtin .delete) {ts : List TypeId} (hts : tl c.argTypes = t :: ts) (hargs : tl c.args = [m, x]) (k : mapDelK cx s o.dst t m x K) :
    OpW P N B h0 h w a o true K := by
  have tr : gv s.gl [] = true := rfl
  unfold mapDelK at k
  obtain ⟨kk, et, ie, sh, k, mt⟩ := isMapOf_ok hc k
  obtain ⟨kt, hu, hk⟩ := mt.und
  split at k
  · rename_i i hm
    split at k
    · rename_i kk' sh' l0 hT
      split at k
      · exact k.elim
      rename_i l hl
      obtain ⟨e1, e2, e3⟩ := castMp hl
      subst e1; subst e2; simp only at e3; subst e3
      split at k
      · exact k.elim
      rename_i n hn
      have hx := keyRd_ok sat hg hn
      have cm : CnV h β (.c (.row i)) (a.eval m) := getE_ok sat hg tr hm
      have hT' := effres hT tr
      have hb := sat.ok.mp_rv hT' cm.1
      obtain ⟨b, es, cl, em, hw, mr⟩ := sat.ok.mp_of hT' cm.1
      have ht0 : c.argTypes[0]? = some t := by rw [tl_eq hts]; rfl
      have fin : ∀ {es' : Array MapEntry}, MapR kk' (DW h sh') es' cl (mdel l0 n) → (Builtin.delete_ c.argTypes o.type #[.map (some b), .int kk' n]).run P w = .ok (.tuple #[]) (w.putObj b (.map es' cl)) → OpW P N B h0 h w a o true K := by
        intro es' mr' run
        have ok : OK B h0 (eff s.gl (setL s.T i ([], .mp kk' sh' (mdel l0 n)))) h β (w.putObj b (.map es' cl)) := by
          rw [effset]
          have := sat.ok.upd (r' := .mp kk' sh' (mdel l0 n)) (v := .row (a.eval m)) hT' rfl hb gb_put (fun k e => by cases e; rw [has_row, em]; rfl) (fun b hb => .inl hb) (.inl rfl)
            (by rw [set_same hb]; exact ⟨b, es', cl, em, World.putObj_heap_same (Array.getElem?_eq_some_iff.1 hw).1, mr'⟩)
          rwa [set_same hb] at this
        refine upd_stepW sat k (.inl ?_) (FH.le.refl h) ((sat.mem ok (FH.le.refl h) (Ext.refl β) (gT_set sat)).put (z := .tuple #[]) (dOK_lt hd) rfl (fun _ => ⟨[], rfl, trivial⟩) fun hh => by cases hh)
        simp [execOp, ho, resolve, hcal, invoke, builtin, tl_eq hargs, em, hx, run]
      rcases mr.find kk' n with ⟨j, e, d, e1, e2, e3, e4, e5⟩ | ⟨e1, e2⟩
      · have hf := MapKept.run_findKey (P := P) (w := w) hk e5
        refine fin (mr.erase e1 e4) ?_
        simp [Builtin.delete_, ht0, run_underlying hu, run_chk hk, MapKept.run_getObj_map hw, hf, MapKept.run_setObj_map _ hw, World.putObj, Result.andThen]
      · have hf := MapKept.run_findKey (P := P) (w := w) hk e2
        refine fin (es' := es) (by rw [mdel_none e1]; exact mr) ?_
        simp [Builtin.delete_, ht0, run_underlying hu, run_chk hk, MapKept.run_getObj_map hw, hf, MapKept.run_setObj_map _ hw, World.putObj, Result.andThen]
    · exact k.elim
  · exact k.elim
theorem has_map {b c : Nat} : (RV.row (.map (some b))).has c ↔ b = c := by simp [has_row, rowBlk]
theorem makeMap_step (hc : TisOK P cx.ti) (sat : Sat N B h0 s h β w a) (hd : dOK N o.dst = true) {t : TypeId} (ho : o.op = .makeMap t none) (k : makeMapK cx s o.dst t K) : OpW P N B h0 h w a o true K := by
  unfold makeMapK at k
  obtain ⟨kk, et, ie, sh, k, mt⟩ := isMapOf_ok hc k
  refine (new_step (G := []) sat rfl hd k fun _ => ⟨.map (some w.heap.size), w.alloc (.map #[] 0), .row (.map (some w.heap.size)), ?_, gb_alloc _ _ _, fun b hb => ?_, ⟨_, _, _, rfl, heap_new w _, .empty⟩, ?_⟩).weak
  · simp only [execOp, ho]
    simp [Instr.makeMap, run_newObj]
  · rw [has_map] at hb; subst hb
    exact ⟨Nat.le_refl _, by simp⟩
  · exact ⟨⟨_, last_ref (sat_len sat) _, rfl⟩, rfl, rfl⟩
theorem rangeM_step (hc : TisOK P cx.ti) (sat : Sat N B h0 s h β w a) (hg : GlobOK cx.gd h) (hd : dOK N o.dst = true) {t : TypeId} {m : Operand} (ho : o.op = .range t m) (k : rangeMK cx s o.dst t m K) : OpW P N B h0 h w a o true K := by
  have tr : gv s.gl [] = true := rfl
  unfold rangeMK at k
  obtain ⟨kk, et, ie, sh, k, mt⟩ := isMapOf_ok hc k
  obtain ⟨kt, hu, hk⟩ := mt.und
  split at k
  · rename_i s' l0 hm
    split at k
    · exact k.elim
    rename_i l hl
    obtain ⟨e1, e2⟩ := castD_eq hl
    subst e1; simp only at e2; subst e2
    have cm : CnV h β (.c (.one (.mp kk sh) l0)) (a.eval m) := getE_ok sat hg tr hm
    obtain ⟨v, hv, r⟩ := cm.1
    have hv : a.eval m = v := by simpa using hv
    have fin : ∀ (mo : Option Nat) (c : Nat), ItAt h kk (DW h sh) mo c #[] l0 [] → (Instr.range t v).run P w = .ok (.pointer (some ⟨w.heap.size, 0, none⟩)) (w.alloc (.mapIter mo c #[] c)) → OpW P N B h0 h w a o true K := by
      intro mo c it run
      refine (new_step (G := []) sat rfl hd k fun _ => ⟨.pointer (some ⟨w.heap.size, 0, none⟩), w.alloc (.mapIter mo c #[] c), .blk w.heap.size, ?_, gb_alloc _ _ _, fun b hb => ?_, ⟨_, _, _, heap_new w _, it⟩, ?_⟩).weak
      · simp only [execOp, ho, hv, Sem.run_bind, run, Result.andThen_ok, Sem.run_pure]
      · rw [has_blk] at hb; subst hb
        exact ⟨Nat.le_refl _, by simp⟩
      · exact ⟨⟨_, last_ref (sat_len sat) _, rfl⟩, rfl, rfl⟩
    rcases r with ⟨rfl, rfl⟩ | ⟨b, es, c, rfl, hb, mr⟩
    · exact fin none 0 (.inl ⟨rfl, rfl, rfl⟩) (run_range_nilMap w t kt et hu)
    · have hw := vis_map (sat.ok.hw b 0 _ hb)
      exact fin (some b) c (.inr ⟨b, es, rfl, hb, mr, ⟨by simp, trivial⟩, fun x hx => by cases hx⟩) (run_range_map w t kt et b es c hu hw)
  · exact k.elim
theorem run_next_it {w : World} {ty : TypeId} {r bm c : Nat} {seen : Array Nat} {es : Array MapEntry} (hi : w.heap[r]? = some (.mapIter (some bm) c seen c)) (hb : w.heap[bm]? = some (.map es c)) (hold : ∀ x ∈ es.toList, x.born < c) :
    ((leftOf es seen).size = 0 ∧ (Instr.next (.pointer (some ⟨r, 0, none⟩)) false ty).run P w = .ok (.tuple #[.bool false]) w) ∨
    ∃ e ∈ (leftOf es seen).toList, ∃ w1 : World, w1.heap = w.heap ∧ w1.os = w.os ∧ w1.tape = w.tape ∧ w1.output = w.output ∧ w.drawn ≤ w1.drawn ∧ (Instr.next (.pointer (some ⟨r, 0, none⟩)) false ty).run P w = .ok (.tuple #[.bool true, e.key, e.val]) (w1.putObj r (.mapIter (some bm) c (seen.push e.born) c)) := by
  simp only [Instr.next, getObj, Sem.run_bind, Sem.run, hi, hb, Result.andThen, next_test_false seen es c c hold (Nat.le_refl _), Bool.false_eq_true, if_false]
  unfold leftOf
  have hmem : ∀ x ∈ (Array.filter (fun e => !seen.contains e.born) es).toList, x.born < c := fun x hx => hold x (by simp at hx ⊢; exact hx.1)
  generalize Array.filter (fun e => !seen.contains e.born) es = L at hmem ⊢
  have e1 : L.filter (fun x => decide (x.born < c)) = L := Array.filter_eq_self.2 (fun x hx => by simpa using hmem x (by simpa using hx))
  have e2 : L.filter (fun x => decide (x.born ≥ c)) = #[] := by
    rw [Array.filter_eq_empty_iff]
    intro x hx
    have := hmem x (by simpa using hx)
    simp
    omega
  simp only [e1, e2, Array.append_empty]
  by_cases h0 : L.size = 0
  · left
    have : L = #[] := Array.eq_empty_of_size_eq_zero h0
    subst this
    refine ⟨rfl, ?_⟩
    simp [choose, Sem.run, Question.forced]
  · right
    have hne : L.isEmpty = false := by simp [Array.isEmpty, h0]
    simp only [hne, Bool.false_eq_true, if_false, Array.empty_append, Array.size_map]
    have hch : ∃ (j : Nat) (w1 : World), j < L.size ∧ (w1.heap = w.heap ∧ w1.os = w.os ∧ w1.tape = w.tape ∧ w1.output = w.output ∧ w.drawn ≤ w1.drawn) ∧ (choose (Question.mapNext L.size)).run P w = .ok j w1 := by
      by_cases hf : L.size ≤ 1
      · exact ⟨0, w, by omega, ⟨rfl, rfl, rfl, rfl, Nat.le_refl _⟩, by simp [choose, Sem.run, Question.forced, hf]⟩
      · exact ⟨_, w.drew, Nat.mod_lt _ (by omega), ⟨rfl, rfl, rfl, rfl, Nat.le_succ _⟩, by
          simp only [choose, Sem.run, Question.forced, decide_eq_true_eq, hf, if_false, Question.cut]
          rfl⟩
    obtain ⟨j, w1, hj, ⟨q1, q2, q3, q4, q5⟩, hrun⟩ := hch
    refine ⟨L[j], by simp, w1, q1, q2, q3, q4, q5, ?_⟩
    have hset : ∀ (o' : Obj), (setObj r o').run P w1 = .ok () (w1.putObj r o') := fun o' => by
      simp [setObj, Sem.run, q1, hi, World.putObj]
    simp only [hrun, Array.getElem?_map, Array.getElem?_eq_getElem hj, Option.map_some, Sem.run_bind, hset, Result.andThen]
    rfl
theorem seen_inj {α : Type} {k : IntKind} {R : Value → α → Prop} {es : Array MapEntry} {c : Nat} {l : List (Int × α)} (m : MapR k R es c l) {e e' : MapEntry} (he : e ∈ es.toList) (he' : e' ∈ es.toList) (hk : e.key = e'.key) : e = e' := by
  obtain ⟨up, ⟨ks, p, al⟩, st, lt⟩ := m
  obtain ⟨i, hi⟩ := List.mem_iff_getElem?.1 he
  obtain ⟨j, hj⟩ := List.mem_iff_getElem?.1 he'
  obtain ⟨x, x1, x2, _⟩ := al.at2 hi
  obtain ⟨y, y1, y2, _⟩ := al.at2 hj
  have hxy : x.1 = y.1 := by rw [x2, y2] at hk; simpa using hk
  have kn := perm_keys p up
  have h4 : (ks.map (·.1))[i]? = some x.1 := by rw [List.getElem?_map, x1]; rfl
  have h5 : (ks.map (·.1))[j]? = some x.1 := by rw [List.getElem?_map, y1, hxy]; rfl
  have i1 := (List.getElem?_eq_some_iff.1 h4).1
  have : i = j := (List.getElem?_inj i1 kn).1 (h4.trans h5.symm)
  subst this
  rw [hi] at hj; cases hj; rfl
theorem born_inj {es : List MapEntry} (h : (es.map (·.born)).Nodup) {e e' : MapEntry} (he : e ∈ es) (he' : e' ∈ es) (hk : e.born = e'.born) : e = e' := by
  obtain ⟨i, hi⟩ := List.mem_iff_getElem?.1 he
  obtain ⟨j, hj⟩ := List.mem_iff_getElem?.1 he'
  have h4 : (es.map (·.born))[i]? = some e.born := by rw [List.getElem?_map, hi]; rfl
  have h5 : (es.map (·.born))[j]? = some e.born := by rw [List.getElem?_map, hj, hk]; rfl
  have i1 := (List.getElem?_eq_some_iff.1 h4).1
  have : i = j := (List.getElem?_inj i1 h).1 (h4.trans h5.symm)
  subst this
  rw [hi] at hj; cases hj; rfl
theorem All2.memL {α β : Type} {R : α → β → Prop} : ∀ {l : List α} {m : List β} {a : α}, All2 R l m → a ∈ l → ∃ b ∈ m, R a b
  | [], _, _, _, ha => by cases ha
  | x :: l, y :: m, a, ⟨h1, h2⟩, ha => by
    rcases List.mem_cons.1 ha with rfl | ha
    · exact ⟨y, by simp, h1⟩
    · obtain ⟨b, hb, r⟩ := All2.memL h2 ha; exact ⟨b, by simp [hb], r⟩
theorem All2.memR {α β : Type} {R : α → β → Prop} : ∀ {l : List α} {m : List β} {b : β}, All2 R l m → b ∈ m → ∃ a ∈ l, R a b
  | [], [], _, _, ha => by cases ha
  | x :: l, y :: m, b, ⟨h1, h2⟩, ha => by
    rcases List.mem_cons.1 ha with rfl | ha
    · exact ⟨x, by simp, h1⟩
    · obtain ⟨a, hb, r⟩ := All2.memR h2 ha; exact ⟨a, by simp [hb], r⟩
theorem All2.last {α β : Type} {R : α → β → Prop} : ∀ {l : List α} {m : List β} {a : α}, All2 R l m → l.getLast? = some a → ∃ b, m.getLast? = some b ∧ R a b
  | [], _, _, _, e => by simp at e
  | [x], [y], a, ⟨h1, _⟩, e => by simp at e; subst e; exact ⟨y, rfl, h1⟩
  | x :: x2 :: l, y :: y2 :: m, a, ⟨_, h2⟩, e => by
    rw [List.getLast?_cons_cons] at e ⊢
    exact All2.last h2 e
theorem nextM_step (sat : Sat N B h0 s h β w a) (hg : GlobOK cx.gd h) (hd : dOK N o.dst = true) {it : Operand} (ho : o.op = .next it false) (k : nextMK cx s o.dst it K) : OpW P N B h0 h w a o true K := by
  have tr : gv s.gl [] = true := rfl
  unfold nextMK at k
  split at k
  · rename_i r hit
    split at k
    · rename_i kk sh l dn hT
      obtain ⟨k1, k2⟩ := k
      obtain ⟨⟨rb, hb, ep⟩, _⟩ : CnV h β (.c (.own r 0)) (a.eval it) := getE_ok sat hg tr hit
      have hT' := effres hT tr
      obtain ⟨mo, c, seen, hi, it'⟩ := sat.ok.holds r _ _ hT' hb
      have over : (∀ x ∈ l, x ∈ dn) → (Instr.next (.pointer (some ⟨rb, 0, none⟩)) false o.type).run P w = .ok (.tuple #[.bool false]) w → OpW P N B h0 h w a o true K := by
        intro hall run
        refine upd_stepW sat (k1 hall) (.inl ?_) (FH.le.refl h) (sat.put (z := .tuple #[.bool false]) (dOK_lt hd) rfl (fun _ => ⟨[.bool false], rfl, ⟨⟨rfl, rfl, rfl⟩, rfl, rfl⟩, trivial⟩) fun hh => by cases hh)
        simp only [execOp, ho, ep, Sem.run_bind, run, Result.andThen_ok, Sem.run_pure]
      rcases it' with ⟨rfl, rfl, rfl⟩ | ⟨b, es, rfl, hbm, mr, sr, sub⟩
      · refine over (fun x hx => by cases hx) ?_
        simp [Instr.next, getObj, Sem.run, hi, Result.andThen]
      · have hw := vis_map (sat.ok.hw b 0 _ hbm)
        have mr0 := mr
        obtain ⟨up, ⟨ks, p, al⟩, st, lt⟩ := mr0
        rcases run_next_it (P := P) (ty := o.type) hi hw lt with ⟨h0', run⟩ | ⟨e, he, w1, q1, q2, q3, q4, q5, run⟩
        · refine over (fun x hx => ?_) run
          obtain ⟨e, he, e1, e2⟩ := al.memL (p.mem_iff.2 hx)
          have hs : e.born ∈ seen.toList := by
            have hl : leftOf es seen = #[] := Array.eq_empty_of_size_eq_zero h0'
            unfold leftOf at hl
            rw [Array.filter_eq_empty_iff] at hl
            have := hl e (by simpa using he)
            simpa using this
          obtain ⟨y, hy, e', he', f1, f2, f3⟩ := sr.2.memR hs
          have := born_inj st he' he f1
          subst this
          have hxy : y.1 = x.1 := by rw [e1] at f2; simpa using f2.symm
          exact keys_inj (up_keys up) (sub y hy) hx hxy ▸ hy
        · have he' : e ∈ es.toList ∧ e.born ∉ seen.toList := by
            unfold leftOf at he
            simp at he
            exact ⟨by simpa using he.1, by simpa using he.2⟩
          obtain ⟨x, hx, e1, e2⟩ := al.memR he'.1
          obtain ⟨n, v⟩ := x
          have hxl := p.mem_iff.1 hx
          have hnew : ∀ y ∈ dn, y.1 ≠ n := by
            intro y hy hyn
            obtain ⟨st', hst, e', f0, f1, f2, f3⟩ := sr.2.memL hy
            have := seen_inj mr f0 he'.1 (by rw [f2, e1, hyn])
            subst this
            exact he'.2 (by rw [f1]; exact hst)
          have hold : Holds h β (w1.putObj rb (.mapIter (some b) c (seen.push e.born) c)) (.it kk sh l (dn ++ [(n, v)])) (.blk rb) := by
            refine ⟨some b, c, seen.push e.born, World.putObj_heap_same (by rw [q1]; exact (Array.getElem?_eq_some_iff.1 hi).1), .inr ⟨b, es, rfl, hbm, mr, ⟨?_, ?_⟩, ?_⟩⟩
            · rw [Array.toList_push, List.nodup_append]
              refine ⟨sr.1, by simp, ?_⟩
              intro x1 hx1 y1 hy1 hxy
              simp at hy1
              subst hy1; subst hxy
              exact he'.2 hx1
            · rw [Array.toList_push]
              exact sr.2.snoc ⟨e, he'.1, rfl, e1, e2⟩
            · intro z hz
              rcases List.mem_append.1 hz with hz | hz
              · exact sub z hz
              · simp at hz; subst hz; exact hxl
          have gb : Gb w (w1.putObj rb (.mapIter (some b) c (seen.push e.born) c)) (some rb) :=
            ⟨⟨q2, q3, q4, by simp [World.putObj, q1], fun k _ hk => by rw [World.putObj_heap_other fun e => hk (by rw [e]), q1]⟩, q5⟩
          have ok : OK B h0 (eff s.gl (setL s.T r ([], .it kk sh l (dn ++ [(n, v)])))) h β (w1.putObj rb (.mapIter (some b) c (seen.push e.born) c)) := by
            rw [effset]
            have := sat.ok.upd (r' := .it kk sh l (dn ++ [(n, v)])) (v := .blk rb) hT' rfl hb gb (fun k e => by cases e; exact has_blk.2 rfl) (fun b hb => .inl hb) (.inl rfl) (by rw [set_same hb]; exact hold)
            rwa [set_same hb] at this
          refine upd_stepW sat (k2 n v hxl hnew) (.inl ?_) (FH.le.refl h) ((sat.mem ok (FH.le.refl h) (Ext.refl β) (gT_set sat)).put (z := .tuple #[.bool true, e.key, e.val]) (dOK_lt hd) rfl (fun _ => ⟨[.bool true, e.key, e.val], rfl, ⟨⟨rfl, rfl, rfl⟩, rfl, rfl⟩, ⟨⟨e1, oneC_int _ _⟩, by rw [e1]; exact oneC_int _ _⟩, DW.cn e2, trivial⟩) fun hh => by cases hh)
          simp only [execOp, ho, ep, Sem.run_bind, run, Result.andThen_ok, Sem.run_pure]
    · exact k.elim
  · exact k.elim
theorem run_entry_it {w : World} {r b c : Nat} {seen : Array Nat} {es : Array MapEntry} {e : MapEntry} (hi : w.heap[r]? = some (.mapIter (some b) c seen c)) (hb : w.heap[b]? = some (.map es c)) (hs : seen.back? = some e.born) (he : e ∈ es.toList) (hn : (es.toList.map (·.born)).Nodup) :
    (Instr.entry (.pointer (some ⟨r, 0, none⟩))).run P w = .ok (.tuple #[e.key, e.val]) w := by
  have hf : es.find? (·.born == e.born) = some e := by rw [← Array.find?_toList]; exact find_born e es.toList hn he
  simp only [Instr.entry, getObj, Sem.run_bind, Sem.run, hi, hb, Result.andThen, hs, bne_self_eq_false, Bool.false_eq_true, if_false, hf]
  rfl
theorem entryM_step (sat : Sat N B h0 s h β w a) (hg : GlobOK cx.gd h) (hd : dOK N o.dst = true) {it : Operand} (ho : o.op = .entry it) (k : entryMK cx s o.dst it K) : OpW P N B h0 h w a o true K := by
  have tr : gv s.gl [] = true := rfl
  unfold entryMK at k
  split at k
  · rename_i r hit
    split at k
    · rename_i kk sh l dn hT
      obtain ⟨k1, k2⟩ := k
      obtain ⟨⟨rb, hb, ep⟩, _⟩ : CnV h β (.c (.own r 0)) (a.eval it) := getE_ok sat hg tr hit
      obtain ⟨mo, c, seen, hi, it'⟩ := sat.ok.holds r _ _ (effres hT tr) hb
      rcases it' with ⟨rfl, rfl, rfl⟩ | ⟨b, es, rfl, hbm, mr, sr, sub⟩
      · exact absurd rfl k1
      · have hw := vis_map (sat.ok.hw b 0 _ hbm)
        obtain ⟨x, hx⟩ : ∃ x, dn.getLast? = some x := ⟨_, List.getLast?_eq_some_getLast k1⟩
        obtain ⟨n, v⟩ := x
        obtain ⟨st, hst, e, he, e0, e1, e2⟩ := sr.2.last hx
        subst e0
        have run := run_entry_it (P := P) hi hw (by rw [← Array.getLast?_toList]; exact hst) he mr.st
        refine upd_stepW sat (k2 n v hx) (.inl ?_) (FH.le.refl h) (sat.put (z := .tuple #[e.key, e.val]) (dOK_lt hd) rfl (fun _ => ⟨[e.key, e.val], rfl, ⟨⟨e1, oneC_int _ _⟩, by rw [e1]; exact oneC_int _ _⟩, DW.cn e2, trivial⟩) fun hh => by cases hh)
        simp only [execOp, ho, ep, Sem.run_bind, run, Result.andThen_ok, Sem.run_pure]
    · exact k.elim
  · exact k.elim
theorem mapPure_step (hc : TisOK P cx.ti) (sat : Sat N B h0 s h β w a) (hg : GlobOK cx.gd h) (hd : dOK N o.dst = true) {p : Prop} (hp : mapPure cx s o.op (fun e => K (s.put o.dst [] e)) = some p) (k : p) : OpW P N B h0 h w a o true K := by
  obtain ⟨e, v, k1, run, c⟩ := mapPure_run hc sat hg hp k
  exact upd_stepW sat k1 (.inl run) (FH.le.refl h) (sat.put (dOK_lt hd) rfl (fun _ => c) fun hh => by cases hh)
theorem mapP_ok (hc : TisOK P cx.ti) (sat : Sat N B h0 s h β w a) (hg : GlobOK cx.gd h) (hd : dOK N o.dst = true) {p : Prop} (hp : mapP cx s o K = some p) (k : p) : o.guard = none ∧ OpW P N B h0 h w a o true K := by
  unfold mapP at hp
  split at hp
  · cases hp
  rename_i hgd
  refine ⟨hgd, ?_⟩
  split at hp
  · rename_i t hint ho
    split at hp
    · cases hp; exact makeMap_step hc sat hd ho k
    · cases hp
  · rename_i t m x y ho
    cases hp; exact mapUpd_step hc sat hg hd (.inl ho) k
  · rename_i t m x y ho
    cases hp; exact mapUpd_step hc sat hg hd (.inr ho) k
  · rename_i t m ho
    split at hp
    · cases hp
      obtain ⟨h', le, sat2⟩ := sat.frz (l := frzM cx s m)
      have := rangeM_step hc sat2 (hg.mono le) hd ho k
      exact fun Nx Q next => this Nx Q fun s' h2 β' w' v k' le' q => next s' h2 β' w' v k' (le.trans le') q
    · cases hp
  · rename_i it str ho
    split at hp
    · cases hp; exact nextM_step sat hg hd ho k
    · cases hp
  · rename_i it ho
    cases hp; exact entryM_step sat hg hd ho k
  · rename_i c ho
    split at hp
    · rename_i hcal
      split at hp
      · rename_i t ts hts
        split at hp
        · rename_i m x hargs
          cases hp; exact mapDel_step hc sat hg hd ho hcal hts hargs k
        · cases hp
      · cases hp
    · exact mapPure_step hc sat hg hd hp k
  · exact mapPure_step hc sat hg hd hp k
end
end Go.Eng
set_option linter.unusedSimpArgs false
set_option linter.unusedVariables false
namespace Go.Eng
open Go Go.RowKit
structure LA where
  α : Type
  slots : α → List (Nat × SV)
  res : α → List (Nat × Res)
  inv : α → Prop
  meas : α → Nat
  ren : List (Nat × Nat) := []
  drop : List Nat := []
  nil : List (Nat × TypeId × Sh) := []
  frz : List Nat := []
  pad : Nat := 0
  frzI : List Nat := []
  deep : List (Nat × TypeId × Sh × Nat) := []
  nilC : List (Nat × Nat × TypeId × Sh) := []
  can : List (Nat × Loc) := []
structure RA where
  α : Type
  res : α → List (Nat × Res)
  inv : Nat → α → Prop
  drop : List Nat := []
  nil : List (Nat × TypeId × Sh) := []
  frz : List Nat := []
  frzI : List Nat := []
  deep : List (Nat × TypeId × Sh × Nat) := []
  nilC : List (Nat × Nat × TypeId × Sh) := []
inductive Ann where
  | inv (a : LA)
  | gen (a : LA) (gh : a.α → Nat)
  | unroll (n : Nat)
  | rng (a : RA)
  | cut (a : LA)
inductive RC where
  | keep
  | data (s : Sh)
  | row (t : TypeId) (s : Sh)
structure SQ where
  ss : List Sh
  ct : List (dens ss) → CT
structure Env where
  cx : Cx
  n : Nat
  ct : Nat → Option CT
  ann : Nat → Option (St → Ann)
  ip : Nat → Option IP := fun _ => none
  rc : List RC := []
  lits : List Nat := []
  P : Option Program := none
  rd : Bool := false
  hc : Nat → Nat → Option CT := fun _ _ => none
  mkf : Nat → Option MK := fun _ => none
  sq : Nat → Option SQ := fun _ => none
@[reducible] def rowsA : List SV → List Nat
  | [] => []
  | v :: r => match v with
    | .c (.row i) => i :: rowsA r
    | .agg xs => rowsC xs (rowsA r)
    | _ => rowsA r
@[reducible] def frzL (E : Env) (s : St) (G : Gd) (f : Nat) (args : List Operand) : List Nat := match G with
  | _ :: _ => []
  | [] => match E.ct f with
    | none => []
    | some cc => match argsV E.cx s [] args with
      | none => []
      | some vs => match allL noRow vs with
        | true => []
        | false => match borA s [] vs with
          | none => []
          | some bs => match datA cc.ps bs with
            | none => []
            | some dd => match andB (entFlat (cc.res dd).2) (allL resFlat (cc.res dd).1) with
              | true => []
              | false => rowsA vs
@[reducible] def frzB (E : Env) (s : St) (G : Gd) (ps : List (Nat × Operand)) : List Nat := match G with
  | _ :: _ => []
  | [] => rowsOf E.cx s ps
@[reducible] def frzSt (E : Env) (s : St) (p x : Operand) : List Nat := match getE E.cx s [] x with
  | some (.one v) => match rowsA [v] with
    | [] => []
    | i :: r => match getE E.cx s [] p with
      | some (.one (.c (.own q _))) => match nthL s.T q with
        | some ([], .obj _ _ _) => i :: r
        | _ => []
      | some (.one (.c (.rowp _ _ _ _))) => i :: r
      | _ => []
  | _ => []
@[reducible] def lastF : List Operand → Option (List Operand × Nat)
  | [] => none
  | x :: l => match l with
    | [] => match x with
      | .func g => some ([], g)
      | _ => none
    | _ :: _ => match lastF l with
      | some (m, g) => some (x :: m, g)
      | none => none
theorem lastF_eq {a : Act} : ∀ {l xs : List Operand} {g : Nat}, lastF l = some (xs, g) → l.map a.eval = xs.map a.eval ++ [.func (.func g) #[] #[]]
  | [], _, _, h => by simp [lastF] at h
  | [x], xs, g, h => by
    simp only [lastF] at h
    split at h
    · cases h; rfl
    · cases h
  | x :: y :: l, xs, g, h => by
    simp only [lastF] at h
    split at h
    · rename_i m g' hm
      cases h
      have := lastF_eq (a := a) (l := y :: l) hm
      simp only [List.map_cons] at this ⊢
      rw [this]; rfl
    · cases h
@[reducible] def lastO : List Operand → Option (List Operand × Operand)
  | [] => none
  | x :: l => match l with
    | [] => some ([], x)
    | _ :: _ => match lastO l with
      | some (m, g) => some (x :: m, g)
      | none => none
theorem lastO_eq {a : Act} : ∀ {l xs : List Operand} {g : Operand}, lastO l = some (xs, g) → l.map a.eval = xs.map a.eval ++ [a.eval g]
  | [], _, _, h => by simp [lastO] at h
  | [x], xs, g, h => by
    simp only [lastO] at h
    cases h; rfl
  | x :: y :: l, xs, g, h => by
    simp only [lastO] at h
    split at h
    · rename_i m g' hm
      cases h
      have := lastO_eq (a := a) (l := y :: l) hm
      simp only [List.map_cons] at this ⊢
      rw [this]; rfl
    · cases h
@[reducible] def castQ (ss ss' : List Sh) (L : List (dens ss)) : Option (List (dens ss')) := if h : ss = ss' then some (h ▸ L) else none
theorem castQ_eq {ss ss' : List Sh} {L : List (dens ss)} {M : List (dens ss')} (h : castQ ss ss' L = some M) : ∃ e : ss = ss', e ▸ L = M := by
  unfold castQ at h
  split at h
  · rename_i e; cases h; exact ⟨e, rfl⟩
  · cases h
@[reducible] def hcL (E : Env) (f : Nat) (args : List Operand) : Option (CT × List Operand) := match lastF args with
  | some (xs, g) => match E.hc f g with
    | some ct => some (ct, xs)
    | none => none
  | none => none
@[reducible] def stepK (E : Env) (ops : List Oper) (o : Oper) (s : St) (K : St → Prop) : Prop := match dOK E.n o.dst with
  | false => False
  | true => guardK E.lits s ops o.guard fun G s => match o.op with
    | .alloc t => allocK E.cx s G o.dst t K
    | .box t x => boxK E.cx s G o.dst t x K
    | .buildSlice t n ps => buildSliceK E.cx (frzAll s (frzB E s G (tl ps))) G o.dst t n (tl ps) K
    | .makeSlice t l c => makeK E.cx s G o.dst t l c K
    | .store t p x => match G with
      | [] => match dstP E.cx s o.dst t p x K with
        | some q => q
        | none => storeK E.cx (frzAll s (frzSt E s p x)) o.dst t p x K
      | _ :: _ => False
    | .call c => match c.callee with
      | .value (.func f) => match hcL E f (tl c.args) with
        | some (ct, xs) => callK E.cx (fun _ => some ct) s G o.dst f xs K
        | none => callK E.cx E.ct (frzAll s (frzL E s G f (tl c.args))) G o.dst f (tl c.args) K
      | .builtin .append => match G with
        | [] => match tl c.args with
          | [x, y] => match tl c.argTypes with
            | [t, t'] => match Nat.beq t t' with
              | true => match openK s x fun s => appendK E.cx s o.dst t x y K with
                | some q => q
                | none => appendK E.cx s o.dst t x y K
              | false => False
            | _ => False
          | _ => False
        | _ :: _ => False
      | .builtin .copy => match G with
        | [] => match tl c.args with
          | [x, y] => match tl c.argTypes with
            | [t, _] => copyK E.cx s o.dst t x y K
            | _ => False
          | _ => False
        | _ :: _ => False
      | .builtin .min => match G with
        | [] => match tl c.args with
          | [x, y] => minK E.cx s o.dst x y K
          | _ => False
        | _ :: _ => False
      | .builtin .max => match G with
        | [] => match tl c.args with
          | [x, y] => maxK E.cx s o.dst x y K
          | _ => False
        | _ :: _ => False
      | _ => pureK E.cx s G o fun e => K (s.put o.dst G e)
    | _ => pureK E.cx s G o fun e => K (s.put o.dst G e)
structure EnvOK (P : Program) (E : Env) : Prop where
  prog : ∀ P', E.P = some P' → P' = P
  hc : ∀ f g c, E.hc f g = some c → CTX P E.cx.gd f [.func (.func g) #[] #[]] c ∧ FnIs P f
  mkf : ∀ g m, E.mkf g = some m → ∀ d h lb, m.pre d → GlobOK E.cx.gd h → capD h m.ss d lb → (m.f d).rel h (.func (.func g) #[] lb.toArray)
  mixed : P.follows .mixedOrders = true
  ti : TisOK P E.cx.ti
  ct : ∀ f c, E.ct f = some c → CTOK P E.cx.gd f c ∧ ∃ fn, P.funcs[f]? = some fn ∧ fn.body.isSome = true ∧ (fn.name == "runtime.NumGoroutine") = false
  ip : ∀ f c, E.ip f = some c → IPOK P E.cx.gd f c ∧ ∃ fn, P.funcs[f]? = some fn ∧ fn.body.isSome = true ∧ (fn.name == "runtime.NumGoroutine") = false
  sq : ∀ f q, E.sq f = some q → (∀ L, CTS P E.cx.gd f [.c (.abs (.seq P q.ss L))] (q.ct L)) ∧ FnIs P f
theorem OpOK.cast {P : Program} {N : Nat} {B : Base} {h0 h : FH} {w : World} {a : Act} {o : Oper} {b b' : Bool} {K : St → Prop} (e : b = b') (h' : OpOK P N B h0 h w a o b' K) : OpOK P N B h0 h w a o b K := by rw [e]; exact h'
theorem frzS_gl (s : St) (i : Nat) : (frzS s i).gl = s.gl := by
  unfold frzS
  split <;> rfl
theorem frzAll_gl : ∀ {l : List Nat} {s : St}, (frzAll s l).gl = s.gl
  | [], _ => rfl
  | i :: l, s => by
    show (frzAll (frzS s i) l).gl = s.gl
    rw [frzAll_gl, frzS_gl]
theorem OpOK.le {P : Program} {N : Nat} {B : Base} {h0 h h' : FH} {w : World} {a : Act} {o : Oper} {b : Bool} {K : St → Prop} (le : h.le h') (k : OpOK P N B h0 h' w a o b K) : OpOK P N B h0 h w a o b K :=
  fun Nx Q next => k Nx Q fun s' h2 β' w' v k' le' q sat => next s' h2 β' w' v k' (le.trans le') q sat
theorem stepK_ok {P : Program} {E : Env} (ok : EnvOK P E) {B : Base} {h0 : FH} {s : St} {h : FH} {β : List RV} {w : World} {a : Act} (sat : Sat E.n B h0 s h β w a) (hg : GlobOK E.cx.gd h) {ops : Array Oper} {o : Oper} {K : St → Prop}
    (k : stepK E (tl ops) o s K) : OpOK P E.n B h0 h w a o (Region.wanted o (yielded ops a.tmps)) K := by
  unfold stepK at k
  split at k
  · exact k.elim
  rename_i hd
  obtain ⟨G, s', k, sat', hw, hG⟩ := guardK_ok sat k
  refine OpOK.cast hw ?_
  split at k
  · rename_i t ho; exact alloc_step ok.ti sat' hG hd ho k
  · rename_i t x ho; exact box_step ok.ti sat' hg hG hd ho k
  · rename_i t n ps ho
    obtain ⟨h', le, sat2⟩ := sat'.frz (l := frzB E s' G (tl ps))
    have := buildSlice_step ok.ti sat2 (hg.mono le) (by rw [frzAll_gl]; exact hG) hd ho k
    rw [frzAll_gl] at this
    exact OpOK.le le this
  · rename_i t l c ho; exact make_step ok.ti sat' hg hG hd ho k
  · rename_i t p x ho
    split at k
    · split at k
      · rename_i q hq
        exact dst_step ok.ti sat' hg hd ho hq k
      · obtain ⟨h', le, sat2⟩ := sat'.frz (l := frzSt E s' p x)
        have := store_step ok.ti sat2 (hg.mono le) hd ho k
        rw [frzAll_gl] at this
        exact OpOK.le le this
    · exact k.elim
  · rename_i c ho
    split at k
    · rename_i f hcal
      split at k
      · rename_i ct xs hl
        unfold hcL at hl
        split at hl
        · rename_i xs' g hlf
          split at hl
          · rename_i ct' hct
            cases hl
            obtain ⟨hc, hf⟩ := ok.hc f g ct hct
            have k' : callK E.cx (fun f' => if f' = f then some ct else none) s' G o.dst f xs K := by
              unfold callK at k ⊢
              simpa using k
            exact call_stepX (suf := [.func (.func g) #[] #[]]) (fun f' c' e => by
              split at e
              · rename_i hff; cases e; rw [hff]; exact hc
              · cases e) sat' hg hG hd ho hcal (fun _ => rfl) (by
              have := lastF_eq (a := a) hlf
              rw [← this]; cases c.args; simp) hf k'
          · cases hl
        · cases hl
      · obtain ⟨h', le, sat2⟩ := sat'.frz (l := frzL E s' G f (tl c.args))
        refine OpOK.le le ?_
        rw [← frzAll_gl (l := frzL E s' G f (tl c.args)) (s := s')] at hG ⊢
        generalize frzAll s' (frzL E s' G f (tl c.args)) = s' at k sat2 hG ⊢
        unfold callK at k
        cases hct : E.ct f with
        | none => rw [hct] at k; exact k.elim
        | some cc => exact call_step (fun f c e => (ok.ct f c e).1) sat2 (hg.mono le) hG hd ho hcal (ok.ct f cc hct).2 k
    · rename_i hcal
      split at k
      · split at k
        · rename_i x y ha
          split at k
          · rename_i t t' ht
            split at k
            · rename_i htt
              have htt : t = t' := Nat.eq_of_beq_eq_true htt
              subst htt
              split at k
              · rename_i q hq
                obtain ⟨s2, β2, k2, sat2, egl⟩ := open_ok sat' hq k
                have := append_step ok.ti sat2 hg hd ho hcal (tl_eq ha) (tl_eq ht) k2
                rw [egl] at this
                exact this
              · exact append_step ok.ti sat' hg hd ho hcal (tl_eq ha) (tl_eq ht) k
            · exact k.elim
          · exact k.elim
        · exact k.elim
      · exact k.elim
    · rename_i hcal
      split at k
      · split at k
        · rename_i x y ha
          split at k
          · rename_i t t' ht
            exact copy_step ok.ti sat' hg hd ho hcal (tl_eq ha) (tl_eq ht) k
          · exact k.elim
        · exact k.elim
      · exact k.elim
    · rename_i hcal
      split at k
      · split at k
        · rename_i x y ha
          exact min_step sat' hg hd ho hcal (tl_eq ha) k
        · exact k.elim
      · exact k.elim
    · rename_i hcal
      split at k
      · split at k
        · rename_i x y ha
          exact max_stepQ sat' hg hd ho hcal (tl_eq ha) k
        · exact k.elim
      · exact k.elim
    · exact pure_step ok.ti sat' hg hG hd k
  · exact pure_step ok.ti sat' hg hG hd k
@[reducible] def opsK (E : Env) (ops : List Oper) : List Oper → St → (St → Prop) → Prop
  | [], s, K => K s
  | o :: r, s, K => stepK E ops o s fun s => opsK E ops r s K
@[reducible] def memN (k : Nat) : List Nat → Bool
  | [] => false
  | j :: l => match Nat.beq k j with
    | true => true
    | false => memN k l
theorem memN_cons {k j : Nat} {l : List Nat} : memN k (j :: l) = (Nat.beq k j || memN k l) := by
  simp only [memN]; cases Nat.beq k j <;> rfl
theorem memN_cat {k : Nat} {m : List Nat} : ∀ {l : List Nat}, memN k (catL l m) = (memN k l || memN k m)
  | [] => rfl
  | j :: l => by rw [show catL (j :: l) m = j :: catL l m from rfl, memN_cons, memN_cons, memN_cat, Bool.or_assoc]
@[reducible] def dsts : List Oper → List Nat
  | [] => []
  | o :: l => match o.dst with
    | some d => d :: dsts l
    | none => dsts l
def Same (ws : List Nat) (a a' : Act) : Prop := ∀ t, memN t ws = false → a'.tmps[t]? = a.tmps[t]?
theorem Same.refl (ws : List Nat) (a : Act) : Same ws a a := fun _ _ => rfl
theorem Same.trans {ws : List Nat} {a b c : Act} (x : Same ws a b) (y : Same ws b c) : Same ws a c := fun t h => (y t h).trans (x t h)
theorem Same.left {l m : List Nat} {a b : Act} (x : Same l a b) : Same (catL l m) a b := fun t h => x t (by rw [memN_cat, Bool.or_eq_false_iff] at h; exact h.1)
theorem Same.right {l m : List Nat} {a b : Act} (x : Same m a b) : Same (catL l m) a b := fun t h => x t (by rw [memN_cat, Bool.or_eq_false_iff] at h; exact h.2)
theorem Same.put {o : Oper} {l : List Oper} {a : Act} {v : Value} {b : Act} (x : Same (dsts l) (a.put o.dst v) b) : Same (dsts (o :: l)) a b := by
  intro t h
  cases hd : o.dst with
  | none =>
    have e : dsts (o :: l) = dsts l := by simp only [dsts, hd]
    rw [e] at h
    rw [x t h, hd]; rfl
  | some d =>
    have e : dsts (o :: l) = d :: dsts l := by simp only [dsts, hd]
    rw [e, memN_cons, Bool.or_eq_false_iff] at h
    rw [x t h.2, hd]
    have hne : d ≠ t := fun hh => Nat.ne_of_beq_eq_false h.1 hh.symm
    simp [Act.put, Array.getElem?_setIfInBounds_ne hne]
@[reducible] def ipOf (E : Env) (s : St) (o : Oper) : Option IP := match o.guard with
  | some _ => none
  | none => match o.op with
    | .call c => match c.callee with
      | .value (.func f) => match E.ip f with
        | none => none
        | some ip => match tl c.args with
          | [] => none
          | x :: _ => match getE E.cx s [] x with
            | some (.one (.c (.row _))) => some ip
            | _ => none
      | _ => none
    | _ => none
@[reducible] def dipOf (E : Env) (s : St) (o : Oper) : Option IP := match o.guard with
  | some _ => none
  | none => match o.op with
    | .call c => match c.callee with
      | .value (.func f) => match E.ip f with
        | none => none
        | some ip => match tl c.args with
          | [] => none
          | x :: _ => match getE E.cx s [] x with
            | some (.one (.c (.sub _ _))) => some ip
            | _ => none
      | _ => none
    | _ => none
@[reducible] def argsOf : Op → List Operand
  | .call c => tl c.args
  | _ => []
@[reducible] def fnOf : Value → Option Nat
  | .func (.func f) a b => match tl a with
    | [] => match tl b with
      | [] => some f
      | _ :: _ => none
    | _ :: _ => none
  | _ => none
@[reducible] def resQ (sh : Sh) : Res → Option SV
  | .obj _ s d => match andB sh.isAgg s.isAgg with
    | true => some (.dat s d)
    | false => none
  | .blk _ xs => match sh.isAgg with
    | true => some (.agg xs)
    | false => match xs with
      | [x] => some (.c x)
      | _ => none
  | _ => none
@[reducible] def capS (s : St) : (ss : List Sh) → List Operand → Option (St × dens ss)
  | [], [] => some (s, ())
  | sh :: ss, x :: l => match x with
    | .tmp t => match lkE s.env t with
      | some ([], .one (.c (.own i 0))) => match nthL s.T i with
        | some ([], r) => match resQ sh r with
          | some v => match toDat sh v with
            | some d => match capS { s with T := setL s.T i ([], .gone) } ss l with
              | some (s', ds) => some (s', (d, ds))
              | none => none
            | none => none
          | none => none
        | _ => none
      | _ => none
    | _ => none
  | _, _ => none
inductive HO where
  | hc (c : CT) (xs : List Operand)
  | cc (f : Nat) (xs : List Operand)
  | mk (g : Nat) (cap : List Operand)
  | sq (P : Program) (c : CT) (xs : List Operand)
@[reducible] def sqOf (E : Env) (s : St) (f : Nat) (args : List Operand) : Option HO := match E.sq f with
  | none => none
  | some q => match lastO args with
    | none => none
    | some (xs, x) => match getE E.cx s [] x with
      | some (.one (.c (.abs (.seq P ss L)))) => match castQ ss q.ss L with
        | some L => some (.sq P (q.ct L) xs)
        | none => none
      | _ => none
@[reducible] def hoOf (E : Env) (s : St) (o : Oper) : Option HO := match o.guard with
  | some _ => none
  | none => match o.op with
    | .call c => match c.callee with
      | .value (.func f) => match lastF (tl c.args) with
        | some (xs, g) => match E.hc f g with
          | some ct => some (.hc ct xs)
          | none => none
        | none => sqOf E s f (tl c.args)
      | .value (.tmp t) => match lkE s.env t with
        | some ([], .one (.c (.v v))) => match fnOf v with
          | some f => some (.cc f (tl c.args))
          | none => none
        | _ => none
      | _ => none
    | .makeFunc (.func g) fst cap => match tl fst with
      | [] => some (.mk g (tl cap))
      | _ :: _ => none
    | _ => none
@[reducible] def hoK (E : Env) (s : St) (d : Option Nat) (x : HO) (K : St → Prop) : Prop := match x with
  | .hc c xs => callK E.cx (fun _ => some c) s [] d 0 xs K
  | .cc f xs => callK E.cx E.ct s [] d f xs K
  | .sq P c xs => E.P = some P ∧ callK E.cx (fun _ => some c) s [] d 0 xs K
  | .mk g cap => match E.mkf g with
    | none => False
    | some m => match capS s m.ss cap with
      | none => False
      | some (s', ds) => m.pre ds ∧ K (s'.put d [] (.one (.c (.abs (m.f ds)))))
@[reducible] def stepI (E : Env) (ops : List Oper) (o : Oper) (s : St) (K : St → Prop) : Prop := match mapP E.cx s o K with
  | some p => match dOK E.n o.dst with
    | false => False
    | true => p
  | none => match hoOf E s o with
  | some x => match dOK E.n o.dst with
    | false => False
    | true => hoK E s o.dst x K
  | none => match dipOf E s o with
  | some ip => match dOK E.n o.dst with
    | false => False
    | true => dipK E.cx ip s o.dst (argsOf o.op) K
  | none => match ipOf E s o with
  | none => match extP E.cx s o K with
    | none => stepK E ops o s K
    | some p => match dOK E.n o.dst with
      | false => False
      | true => p
  | some ip => match dOK E.n o.dst with
    | false => False
    | true => ipK E.cx ip s o.dst (argsOf o.op) K
@[reducible] def opsI (E : Env) (ops : List Oper) : List Oper → St → (St → Prop) → Prop
  | [], s, K => K s
  | o :: r, s, K => stepI E ops o s fun s => opsI E ops r s K
theorem ipOf_spec {E : Env} {s : St} {o : Oper} {ip : IP} (e : ipOf E s o = some ip) : o.guard = none ∧ ∃ c f, o.op = .call c ∧ c.callee = .value (.func f) ∧ E.ip f = some ip := by
  unfold ipOf at e
  split at e
  · cases e
  · rename_i hgd
    split at e
    · rename_i c ho
      split at e
      · rename_i f hcal
        split at e
        · cases e
        · rename_i ip' hip
          split at e
          · cases e
          · split at e
            · cases e; exact ⟨hgd, c, f, ho, hcal, hip⟩
            · cases e
      · cases e
    · cases e
theorem dipOf_spec {E : Env} {s : St} {o : Oper} {ip : IP} (e : dipOf E s o = some ip) : o.guard = none ∧ ∃ c f, o.op = .call c ∧ c.callee = .value (.func f) ∧ E.ip f = some ip := by
  unfold dipOf at e
  split at e
  · cases e
  · rename_i hgd
    split at e
    · rename_i c ho
      split at e
      · rename_i f hcal
        split at e
        · cases e
        · rename_i ip' hip
          split at e
          · cases e
          · split at e
            · cases e; exact ⟨hgd, c, f, ho, hcal, hip⟩
            · cases e
      · cases e
    · cases e
theorem fnOf_eq {v : Value} {f : Nat} (h : fnOf v = some f) : v = .func (.func f) #[] #[] := by
  unfold fnOf at h
  split at h
  · rename_i f' x y
    split at h
    · rename_i hx
      split at h
      · rename_i hy
        cases h
        rw [tl_eq hx, tl_eq hy]
      · cases h
    · cases h
  · cases h
theorem sz_one {s : Sh} (h : s.isAgg = false) : s.size = 1 := by cases s <;> simp_all [Sh.isAgg, Sh.size]
theorem capS_ok {N : Nat} {B : Base} {h0 : FH} {w : World} {a : Act} {β : List RV} : ∀ {ss : List Sh} {l : List Operand} {s s' : St} {h : FH} {ds : dens ss}, Sat N B h0 s h β w a → capS s ss l = some (s', ds) →
    ∃ h', h.le h' ∧ Sat N B h0 s' h' β w a ∧ capD h' ss ds (l.map a.eval)
  | [], [], s, s', h, ds, sat, e => by simp [capS] at e; subst e; exact ⟨h, FH.le.refl h, sat, trivial⟩
  | [], _ :: _, s, s', h, ds, sat, e => by simp [capS] at e
  | _ :: _, [], s, s', h, ds, sat, e => by simp [capS] at e
  | sh :: ss, x :: l, s, s', h, ds, sat, e => by
    unfold capS at e
    split at e
    · rename_i t
      split at e
      · rename_i i hlk
        split at e
        · rename_i r hT
          split at e
          · rename_i v hv
            split at e
            · rename_i d hd
              split at e
              · rename_i s2 ds2 hc
                cases e
                obtain ⟨z, z1, z2, _⟩ := sat.env t [] _ hlk
                obtain ⟨b, hb, ez⟩ : ∃ b, β[i]? = some (.blk b) ∧ z = .pointer (some ⟨b, 0, none⟩) := (z2 rfl : CnV h β (.c (.own i 0)) z).1
                have hT' := effres hT (show gv s.gl [] = true from rfl)
                have hold := sat.ok.holds i r _ hT' hb
                have hlive : r.live = true := by cases r <;> first | rfl | (simp [resQ] at hv)
                obtain ⟨le1, ok1⟩ := sat.ok.freezeBlk hT' hlive hb (has_blk.2 rfl)
                have sat1 : Sat N B h0 { s with T := setL s.T i ([], .gone) } (h.plus w b) β w a := sat.mem (by rw [eff_set]; exact ok1) le1 (Ext.refl _) (by
                  intro q hq
                  rw [setL_eq] at hq
                  rcases List.mem_or_eq_of_mem_set hq with hq | hq
                  · exact sat.gT q hq
                  · subst hq; rfl)
                obtain ⟨h', le2, sat2, cap⟩ := capS_ok (l := l) sat1 hc
                refine ⟨h', le1.trans le2, sat2, ⟨?_, cap⟩⟩
                have ev : a.eval (.tmp t) = z := by simp [Act.eval, z1]
                rw [ev, ez]
                have at_ : ∀ (ys : List Value) (tt : TypeId), w.heap[b]? = some (.cells ys.toArray tt (0, 0)) → (∀ u ∈ ys, oneC u) → At h' b 0 ys := by
                  intro ys tt hw h1 j u hj
                  refine le2 _ _ _ ?_
                  unfold FH.plus
                  rw [if_pos rfl, Nat.zero_add]
                  exact vis_cells hw (by simpa using hj) (h1 u (List.mem_of_getElem? hj)).2
                have key : ∀ (ys : List Value) (tt : TypeId), w.heap[b]? = some (.cells ys.toArray tt (0, 0)) → (sh.isAgg = true → CnV h β v (.agg ys.toArray)) → (sh.isAgg = false → ∃ y, ys = [y] ∧ CnV h β v y) →
                    ∃ b' cs, (Value.pointer (some ⟨b, 0, none⟩)) = .pointer (some ⟨b', 0, none⟩) ∧ Rd h' sh cs d ∧ At h' b' 0 cs := by
                  intro ys tt hw k1 k2
                  cases hag : sh.isAgg with
                  | true =>
                    obtain ⟨cs, e1, rd⟩ := toDat_ok hd (k1 hag)
                    unfold mkV at e1
                    rw [if_pos hag] at e1
                    injection e1 with e1
                    have e1 : ys = cs := by simpa using e1
                    subst e1
                    exact ⟨b, ys, rfl, (rd.mono le1 _).mono le2 _, at_ ys tt hw (Rd.one _ rd)⟩
                  | false =>
                    obtain ⟨y, rfl, c⟩ := k2 hag
                    obtain ⟨cs, e1, rd⟩ := toDat_ok hd c
                    unfold mkV at e1
                    rw [if_neg (by rw [hag]; simp)] at e1
                    have hs := Rd.size sh rd
                    rw [sz_one hag] at hs
                    obtain ⟨u, rfl⟩ := List.length_eq_one_iff.1 hs
                    have e1 : y = u := e1
                    subst e1
                    exact ⟨b, [y], rfl, (rd.mono le1 _).mono le2 _, at_ [y] tt hw (Rd.one _ rd)⟩
                cases r with
                | obj tt s0 d0 =>
                  simp only [resQ] at hv
                  split at hv
                  · rename_i hag
                    rw [andB_eq, Bool.and_eq_true] at hag
                    cases hv
                    obtain ⟨ys, e1, rd⟩ := hold
                    exact key ys tt e1 (fun _ => ⟨hag.2, ys, rfl, rd⟩) (fun hh => by rw [hag.1] at hh; cases hh)
                  · cases hv
                | blk tt cs =>
                  obtain ⟨ys, e1, al⟩ := hold
                  simp only [resQ] at hv
                  split at hv
                  · rename_i hag
                    cases hv
                    exact key ys tt e1 (fun _ => ⟨ys, rfl, al⟩) (fun hh => by rw [hag] at hh; cases hh)
                  · rename_i hag
                    split at hv
                    · rename_i x
                      cases hv
                      cases ys with
                      | nil => exact al.elim
                      | cons y ys =>
                        cases ys with
                        | cons _ _ => exact al.2.elim
                        | nil => exact key [y] tt e1 (fun hh => by rw [hag] at hh; cases hh) (fun _ => ⟨y, rfl, al.1⟩)
                    · cases hv
                | row _ _ _ => simp [resQ] at hv
                | deep _ _ _ _ _ _ _ _ => simp [resQ] at hv
                | mp _ _ _ => simp [resQ] at hv
                | mpo _ _ _ _ => simp [resQ] at hv
                | it _ _ _ _ => simp [resQ] at hv
                | gone => simp [resQ] at hv
              · cases e
            · cases e
          · cases e
        · cases e
      · cases e
    · cases e
theorem hoK_ok {P : Program} {E : Env} (ok : EnvOK P E) {ops : Array Oper} {B : Base} {h0 : FH} {s : St} {h : FH} {β : List RV} {w : World} {a : Act} (sat : Sat E.n B h0 s h β w a) (hg : GlobOK E.cx.gd h) {o : Oper} {x : HO} (hx : hoOf E s o = some x) (hd : dOK E.n o.dst = true) {K : St → Prop}
    (k : hoK E s o.dst x K) : OpOK P E.n B h0 h w a o (Region.wanted o (yielded ops a.tmps)) K := by
  unfold hoOf at hx
  split at hx
  · cases hx
  rename_i hgd
  rw [show Region.wanted o (yielded ops a.tmps) = gv s.gl [] by simp [Region.wanted, hgd, gv]]
  split at hx
  · rename_i c ho
    split at hx
    · rename_i f hcal
      split at hx
      · rename_i xs g hl
        split at hx
        · rename_i ct hct
          cases hx
          obtain ⟨hc, hf⟩ := ok.hc f g ct hct
          simp only [hoK] at k
          have k' : callK E.cx (fun f' => if f' = f then some ct else none) s [] o.dst f xs K := by
            unfold callK at k ⊢
            simpa using k
          exact call_stepX (suf := [.func (.func g) #[] #[]]) (fun f' c' e => by
            split at e
            · rename_i hff; cases e; rw [hff]; exact hc
            · cases e) sat hg rfl hd ho hcal (fun _ => rfl) (by
            have := lastF_eq (a := a) hl
            rw [← this]; cases c.args; simp) hf k'
        · cases hx
      · unfold sqOf at hx
        split at hx
        · cases hx
        rename_i q hq
        split at hx
        · cases hx
        rename_i xs x hl
        split at hx
        · rename_i P' ss L hxe
          split at hx
          · rename_i L' hL
            cases hx
            obtain ⟨e1, e2⟩ := castQ_eq hL
            simp only [hoK] at k
            obtain ⟨eP, k⟩ := k
            have := ok.prog _ eP
            subst this
            subst e1; simp only at e2; subst e2
            obtain ⟨hc, hf⟩ := ok.sq f q hq
            have k' : callK E.cx (fun f' => if f' = f then some (q.ct L) else none) s [] o.dst f xs K := by
              unfold callK at k ⊢
              simpa using k
            have cx' : CnV h β (.c (.abs (.seq P' q.ss L))) (a.eval x) := getE_ok sat hg (show gv s.gl [] = true from rfl) hxe
            exact call_stepY (suf := [a.eval x]) (fun c' e d vs h' le hw hg' ha hp => by
              have e' : q.ct L = c' := by simpa using e
              subst e'
              exact hc L d vs [a.eval x] h' w hw hg' ha ⟨⟨(show Abs.rel h' (.seq P' q.ss L) (a.eval x) from Abs.rel_mono le (show Abs.rel h (.seq P' q.ss L) (a.eval x) from cx'.1)), cx'.2⟩, trivial⟩ hp) sat hg rfl hd ho hcal (fun _ => rfl) (by
              have := lastO_eq (a := a) hl
              rw [← this]; cases c.args; simp) hf k'
          · cases hx
        · cases hx
    · rename_i t hcal
      split at hx
      · rename_i v hlk
        split at hx
        · rename_i f hfn
          cases hx
          simp only [hoK] at k
          obtain ⟨z, z1, z2, _⟩ := sat.env t [] _ hlk
          have ez : z = .func (.func f) #[] #[] := ((z2 rfl : CnV h β (.c (.v v)) z).1.1).trans (fnOf_eq hfn)
          have hct : ∃ cc, E.ct f = some cc := by
            unfold callK at k
            cases hh : E.ct f with
            | none => rw [hh] at k; exact k.elim
            | some cc => exact ⟨cc, rfl⟩
          obtain ⟨cc, hct⟩ := hct
          exact call_stepX (suf := []) (fun f' c' e => (ok.ct f' c' e).1.x) sat hg rfl hd ho hcal (fun _ => by simp [Act.eval, z1, ez]) (by cases c.args; simp) (ok.ct f cc hct).2 k
        · cases hx
      · cases hx
    · cases hx
  · rename_i g fst cap ho
    split at hx
    · rename_i hfst
      cases hx
      simp only [hoK] at k
      split at k
      · exact k.elim
      rename_i m hm
      split at k
      · exact k.elim
      rename_i s' ds hcap
      obtain ⟨h', le, sat', cap'⟩ := capS_ok sat hcap
      obtain ⟨hmp, k⟩ := k
      have rel := ok.mkf g m hm ds h' _ hmp (hg.mono le) cap'
      intro Nx Q next
      rw [if_pos rfl]
      refine wp_value (v := .func (.func g) #[] ((tl cap).map a.eval).toArray) ?_ (next _ _ _ _ _ k le (fun _ => Gro.refl w) (sat'.put (dOK_lt hd) rfl (fun _ => ⟨rel, Abs.rel_one rel⟩) fun hh => by cases hh))
      simp only [execOp, ho, Instr.makeFunc, Sem.run_bind, Sem.run_pure, Result.andThen_ok]
      rw [tl_eq hfst]
      have : cap.map a.eval = ((tl cap).map a.eval).toArray := by cases cap; simp
      rw [this]; simp
    · cases hx
  · cases hx
theorem stepI_ok {P : Program} {E : Env} (ok : EnvOK P E) {B : Base} {h0 : FH} {s : St} {h : FH} {β : List RV} {w : World} {a : Act} (sat : Sat E.n B h0 s h β w a) (hg : GlobOK E.cx.gd h) {ops : Array Oper} {o : Oper} {K : St → Prop}
    (k : stepI E (tl ops) o s K) : OpW P E.n B h0 h w a o (Region.wanted o (yielded ops a.tmps)) K := by
  unfold stepI at k
  split at k
  · rename_i p hp
    split at k
    · exact k.elim
    · rename_i hd
      obtain ⟨hgd, st⟩ := mapP_ok ok.ti sat hg hd hp k
      rw [show Region.wanted o (yielded ops a.tmps) = true by simp [Region.wanted, hgd]]
      exact st
  split at k
  · rename_i x hx
    split at k
    · exact k.elim
    · rename_i hd
      exact (hoK_ok ok sat hg hx hd k).weak
  split at k
  · rename_i ip hip
    obtain ⟨hgd, c, f, ho, hcal, hf⟩ := dipOf_spec hip
    split at k
    · exact k.elim
    · rename_i hd
      rw [show Region.wanted o (yielded ops a.tmps) = true by simp [Region.wanted, hgd]]
      rw [show argsOf o.op = tl c.args by simp only [argsOf, ho]] at k
      exact dip_step (ok.ip f ip hf).1 (ok.ip f ip hf).2 sat hg hd ho hcal k
  split at k
  · split at k
    · exact (stepK_ok ok sat hg k).weak
    · rename_i p hp
      split at k
      · exact k.elim
      · rename_i hd
        exact extP_ok ok.ti sat hg hd hp k
  · rename_i ip hip
    obtain ⟨hgd, c, f, ho, hcal, hf⟩ := ipOf_spec hip
    split at k
    · exact k.elim
    · rename_i hd
      rw [show Region.wanted o (yielded ops a.tmps) = true by simp [Region.wanted, hgd]]
      rw [show argsOf o.op = tl c.args by simp only [argsOf, ho]] at k
      exact ip_step (ok.ip f ip hf).1 (ok.ip f ip hf).2 sat hg hd ho hcal k
theorem opsI_ok {P : Program} {E : Env} (ok : EnvOK P E) {B : Base} {h0 : FH} (hg : GlobOK E.cx.gd h0) {ops : Array Oper} {R : Act → World → Prop} {K : St → Prop} : ∀ (l : List Oper) {s : St} {h : FH} {β : List RV} {w : World} {a : Act}, Sat E.n B h0 s h β w a →
    opsI E (tl ops) l s K → (∀ s' h' β' w' a', K s' → h.le h' → Sat E.n B h0 s' h' β' w' a' → Same (dsts l) a a' → R a' w') → wpL P ops R l a w
  | [], s, h, β, w, a, sat, k, next => next _ _ _ _ _ k (FH.le.refl h) sat (Same.refl _ _)
  | o :: r, s, h, β, w, a, sat, k, next => by
    have := stepI_ok ok sat (hg.mono sat.ok.hle) k (wpL P ops R r) noQ fun s' h' β' w' v k' le sat' => opsI_ok ok hg r sat' k' fun s2 h2 β2 w2 a2 k2 le2 sat2 sm => next s2 h2 β2 w2 a2 k2 (le.trans le2) sat2 sm.put
    unfold wpL
    split
    · rename_i hw; rw [if_pos hw] at this; exact this
    · rename_i hw; rw [if_neg hw] at this; exact this
/-! Regions that draw their order. -/
def blOf (ops : Array Oper) (listed : Array Bool) (i : Nat) : List Nat :=
  (List.range ops.size).foldl (fun acc j => if j != i && !listed.getD j true && (match ops[j]? with | some o => o.after.any (fun e => Region.binds .any e && (e.on == i || acc.contains e.on)) | none => false) then j :: acc else acc) []
def waitsB (ops : Array Oper) (listed : Array Bool) (i : Nat) (bl : List Nat) : Bool :=
  (bl.all fun j => !listed.getD j true && (match ops[j]? with | some o => o.after.any (fun e => Region.binds .any e && (e.on == i || bl.contains e.on)) | none => false)) &&
  ((List.range ops.size).all fun j => j == i || listed.getD j true || sfe ops j || bl.contains j)
theorem waitsB_spec {ops : Array Oper} {listed : Array Bool} {i : Nat} {bl : List Nat} (h : waitsB ops listed i bl = true) :
    Waits .any ops listed i bl ∧ ∀ j, j ≠ i → listed.getD j true = false → sfe ops j = false → j ∈ bl := by
  simp only [waitsB, Bool.and_eq_true, List.all_eq_true] at h
  refine ⟨fun j hj => ?_, fun j hji hun hs => ?_⟩
  · have h1 := h.1 j hj
    simp only [Bool.not_eq_true'] at h1
    refine ⟨h1.1, ?_⟩
    cases ho : ops[j]? with
    | none => rw [ho] at h1; exact absurd h1.2 (by simp)
    | some o =>
      rw [ho] at h1
      obtain ⟨e, he, hb⟩ := Array.any_eq_true'.1 h1.2
      simp only [Bool.and_eq_true, Bool.or_eq_true, beq_iff_eq, List.contains_iff_mem] at hb
      exact ⟨o, rfl, e, he, hb.1, hb.2⟩
  · rcases Nat.lt_or_ge j ops.size with hlt | hge
    · have h2 := h.2 j (List.mem_range.2 hlt)
      simp only [Bool.or_eq_true, beq_iff_eq, hji, hun, hs, List.contains_iff_mem, Bool.false_eq_true, false_or] at h2
      exact h2
    · have : ops[j]? = none := Array.getElem?_eq_none hge
      simp [sfe, this] at hs
inductive DT where
  | done
  | fl (i : Nat) (t : DT)
  | op (i : Nat) (t : DT)
  | alt (i : Nat) (t m : DT)
inductive OT where
  | done
  | op (o : Oper) (t : OT)
  | alt (o : Oper) (t m : OT)
def DT.alts : DT → List Nat
  | .op i _ => [i]
  | .alt i _ m => i :: m.alts
  | _ => []
def floatsB (ops : Array Oper) (listed : Array Bool) (i : Nat) : Bool := match ops[i]? with
  | some o => isFloat o.op && Region.free .any ops listed i && (Region.ready .any ops listed).contains i && (!isLoad o.op || waitsB ops listed i (blOf ops listed i))
  | none => false
def chkT (ops : Array Oper) : DT → Bool → Nat → Array Bool → Bool
  | .done, top, n, listed => top && n == 0 && (Region.ready .any ops listed).isEmpty
  | .fl i t, top, n, listed => top && n != 0 && floatsB ops listed i && chkT ops t true (n - 1) (listed.setIfInBounds i true)
  | .op i t, top, n, listed => (!top || Region.ready .any ops listed == [i]) && n != 0 && (ops[i]?).isSome && chkT ops t true (n - 1) (listed.setIfInBounds i true)
  | .alt i t m, top, n, listed => (!top || Region.ready .any ops listed == i :: m.alts) && n != 0 && (ops[i]?).isSome && chkT ops t true (n - 1) (listed.setIfInBounds i true) && chkT ops m false n listed
def goT (g : Nat → DT) : List Nat → DT
  | [] => .done
  | [i] => .op i (g i)
  | i :: r => .alt i (g i) (goT g r)
def genT (ops : Array Oper) : Nat → Array Bool → DT
  | 0, _ => .done
  | f + 1, listed =>
    let rs := Region.ready .any ops listed
    match rs.find? (fun i => floatsB ops listed i) with
    | some i => .fl i (genT ops f (listed.setIfInBounds i true))
    | none => goT (fun i => genT ops f (listed.setIfInBounds i true)) rs
def opT (ops : Array Oper) : DT → OT
  | .done => .done
  | .fl i t => match ops[i]? with
    | some o => .op o (opT ops t)
    | none => .done
  | .op i t => match ops[i]? with
    | some o => .op o (opT ops t)
    | none => .done
  | .alt i t m => match ops[i]? with
    | some o => .alt o (opT ops t) (opT ops m)
    | none => .done
def ofL : List Oper → OT
  | [] => .done
  | o :: l => .op o (ofL l)
@[reducible] def treeK (E : Env) (ops : List Oper) : OT → St → (St → Prop) → Prop
  | .done, s, K => K s
  | .op o t, s, K => stepK E ops o s fun s => treeK E ops t s K
  | .alt o t m, s, K => (stepK E ops o s fun s => treeK E ops t s K) ∧ treeK E ops m s K
theorem treeK_eq {E : Env} {ops : List Oper} {K : St → Prop} : ∀ (l : List Oper), (fun s => treeK E ops (ofL l) s K) = fun s => opsK E ops l s K
  | [] => rfl
  | o :: l => by
    funext s
    show stepK E ops o s (fun s => treeK E ops (ofL l) s K) = stepK E ops o s fun s => opsK E ops l s K
    rw [treeK_eq l]
theorem treeK_ofL {E : Env} {ops : List Oper} {K : St → Prop} (l : List Oper) {s : St} (h : treeK E ops (ofL l) s K) : opsK E ops l s K := by
  have := congrFun (treeK_eq (E := E) (ops := ops) (K := K) l) s
  rw [← this]; exact h
def isPure (o : Oper) : Bool := match o.op with
  | .alloc _ | .box .. | .buildSlice .. | .makeSlice .. | .store .. => false
  | .call c => (match c.callee with | .value (.func _) => false | .builtin .append => false | .builtin .copy => false | .builtin .min => false | .builtin .max => false | _ => true)
  | _ => true
def drawOrd (ops : Array Oper) : Option OT :=
  if ops.all isPure && Region.lexB .any ops then some (ofL ops.toList)
  else
    let t := genT ops ops.size (Array.replicate ops.size false)
    if Region.noSelect ops && chkT ops t true ops.size (Array.replicate ops.size false) then some (opT ops t) else none
section
variable {P : Program} {E : Env} {B : Base} {h0 : FH} {s : St} {h : FH} {β : List RV} {w : World} {a : Act} {o : Oper} {ops : Array Oper} {K : St → Prop}
theorem guardK_mono {L : List Nat} {s : St} {l : List Oper} {g : Option (Nat × Bool)} {K K' : Gd → St → Prop} (hk : ∀ G s, K G s → K' G s) (h : guardK L s l g K) : guardK L s l g K' := by
  unfold guardK at *
  split at h
  · exact hk _ _ h
  · split at h
    · exact h.elim
    · split at h
      · split at h
        · split at h
          · split at h
            · exact hk _ _ h
            · exact h.elim
          · split at h
            · exact h.elim
            · exact hk _ _ h
        · exact h.elim
      · split at h
        · split at h
          · exact hk _ _ h
          · exact hk _ _ h
        · exact h.elim
theorem stepK_pure (hp : isPure o = true) (k : stepK E (tl ops) o s K) : dOK E.n o.dst = true ∧ guardK E.lits s (tl ops) o.guard fun G s => pureK E.cx s G o fun e => K (s.put o.dst G e) := by
  unfold stepK at k
  split at k
  · exact k.elim
  rename_i hd
  refine ⟨hd, ?_⟩
  have key : ∀ G s, (match o.op with
    | .alloc t => allocK E.cx s G o.dst t K
    | .box t x => boxK E.cx s G o.dst t x K
    | .buildSlice t n ps => buildSliceK E.cx (frzAll s (frzB E s G (tl ps))) G o.dst t n (tl ps) K
    | .makeSlice t l c => makeK E.cx s G o.dst t l c K
    | .store t p x => match G with
      | [] => match dstP E.cx s o.dst t p x K with
        | some q => q
        | none => storeK E.cx (frzAll s (frzSt E s p x)) o.dst t p x K
      | _ :: _ => False
    | .call c => match c.callee with
      | .value (.func f) => match hcL E f (tl c.args) with
        | some (ct, xs) => callK E.cx (fun _ => some ct) s G o.dst f xs K
        | none => callK E.cx E.ct (frzAll s (frzL E s G f (tl c.args))) G o.dst f (tl c.args) K
      | .builtin .append => match G with
        | [] => match tl c.args with
          | [x, y] => match tl c.argTypes with
            | [t, t'] => match Nat.beq t t' with
              | true => match openK s x fun s => appendK E.cx s o.dst t x y K with
                | some q => q
                | none => appendK E.cx s o.dst t x y K
              | false => False
            | _ => False
          | _ => False
        | _ :: _ => False
      | .builtin .copy => match G with
        | [] => match tl c.args with
          | [x, y] => match tl c.argTypes with
            | [t, _] => copyK E.cx s o.dst t x y K
            | _ => False
          | _ => False
        | _ :: _ => False
      | .builtin .min => match G with
        | [] => match tl c.args with
          | [x, y] => minK E.cx s o.dst x y K
          | _ => False
        | _ :: _ => False
      | .builtin .max => match G with
        | [] => match tl c.args with
          | [x, y] => maxK E.cx s o.dst x y K
          | _ => False
        | _ :: _ => False
      | _ => pureK E.cx s G o fun e => K (s.put o.dst G e)
    | _ => pureK E.cx s G o fun e => K (s.put o.dst G e)) → pureK E.cx s G o fun e => K (s.put o.dst G e) := by
    intro G s k
    split at k
    · rename_i ho; simp [isPure, ho] at hp
    · rename_i ho; simp [isPure, ho] at hp
    · rename_i ho; simp [isPure, ho] at hp
    · rename_i ho; simp [isPure, ho] at hp
    · rename_i ho; simp [isPure, ho] at hp
    · rename_i c ho
      split at k
      · rename_i hc; simp [isPure, ho, hc] at hp
      · rename_i hc; simp [isPure, ho, hc] at hp
      · rename_i hc; simp [isPure, ho, hc] at hp
      · rename_i hc; simp [isPure, ho, hc] at hp
      · rename_i hc; simp [isPure, ho, hc] at hp
      · exact k
    · exact k
  exact guardK_mono key k
theorem lenB {x : Callee} (h : (match x with | .builtin .len => true | _ => false) = true) : x = .builtin .len := by
  split at h
  · rfl
  · cases h
theorem float_pure (hf : isFloat o.op = true) : isPure o = true := by
  cases ho : o.op with
  | call c =>
    rw [ho] at hf
    have : c.callee = .builtin .len := lenB hf
    simp [isPure, ho, this]
  | _ =>
    rw [ho] at hf
    first
      | (simp [isPure, ho]; done)
      | (simp [isFloat, isFloat0] at hf; done)
theorem float_quiet {x : Op} (hf : isFloat x = true) : quietly x = true := by
  cases x with
  | call c =>
    have : c.callee = .builtin .len := lenB hf
    simp [quietly, this]
  | _ =>
    first
      | rfl
      | (simp [isFloat, isFloat0] at hf; done)
theorem float_step (ok : EnvOK P E) (sat : Sat E.n B h0 s h β w a) (hg : GlobOK E.cx.gd h) (hf : isFloat o.op = true) (k : stepK E (tl ops) o s K) :
    ∃ v s', YI P ops (isLoad o.op) w o v a ∧ K s' ∧ Sat E.n B h0 s' h β w (a.put o.dst v) := by
  obtain ⟨hd, k⟩ := stepK_pure (float_pure hf) k
  obtain ⟨G, s', k, sat', hw, hG⟩ := guardK_ok sat k
  obtain ⟨e, k1, k2⟩ := pureK_ext ok.ti sat' hg hf k
  cases hgv : gv s'.gl G with
  | true =>
    obtain ⟨v, r, c⟩ := k2 hgv
    refine ⟨v, _, .inl ⟨by rw [hw]; exact hgv, fun w' hg' => ?_⟩, k1, sat'.put (dOK_lt hd) hG (fun _ => c) fun hh => by rw [hgv] at hh; cases hh⟩
    exact r w' hg'
  | false =>
    exact ⟨undef, _, .inr ⟨by rw [hw]; exact hgv, rfl⟩, k1, sat'.put (dOK_lt hd) hG (fun hh => by rw [hgv] at hh; cases hh) fun _ => rfl⟩
theorem still_step (ok : EnvOK P E) (sat : Sat E.n B h0 s h β w a) (hg : GlobOK E.cx.gd h) (hp : isPure o = true) (k : stepK E (tl ops) o s K) {Nx : Act → Prop}
    (next : ∀ v s', K s' → Sat E.n B h0 s' h β w (a.put o.dst v) → Nx (a.put o.dst v)) : if Region.wanted o (yielded ops a.tmps) then o.still P a w Nx else Nx (a.put o.dst undef) := by
  obtain ⟨hd, k⟩ := stepK_pure hp k
  obtain ⟨G, s', k, sat', hw, hG⟩ := guardK_ok sat k
  obtain ⟨e, k1, k2⟩ := pureK_ok ok.ti sat' hg k
  rw [hw]
  cases hgv : gv s'.gl G with
  | true =>
    obtain ⟨v, r, c⟩ := k2 hgv
    rw [if_pos rfl]
    unfold Oper.still
    rw [r, Oper.stillUpon_value]
    exact next _ _ k1 (sat'.put (dOK_lt hd) hG (fun _ => c) fun hh => by rw [hgv] at hh; cases hh)
  | false =>
    rw [if_neg (by simp)]
    exact next _ _ k1 (sat'.put (dOK_lt hd) hG (fun hh => by rw [hgv] at hh; cases hh) fun _ => rfl)
theorem still_ok (ok : EnvOK P E) (hg : GlobOK E.cx.gd h0) {R : Act → Prop} : ∀ (l : List Oper) {s : St} {a : Act}, l.all isPure = true → Sat E.n B h0 s h β w a → opsK E (tl ops) l s K →
    (∀ s' a', K s' → Sat E.n B h0 s' h β w a' → Same (dsts l) a a' → R a') → wpStill P ops w R l a
  | [], s, a, _, sat, k, next => next _ _ k sat (Same.refl _ _)
  | o :: r, s, a, hp, sat, k, next => by
    simp only [List.all_cons, Bool.and_eq_true] at hp
    exact still_step ok sat (hg.mono sat.ok.hle) hp.1 k fun v s' k' sat' => still_ok ok hg r hp.2 sat' k' fun s2 a2 k2 sat2 sm => next s2 a2 k2 sat2 sm.put
/-! Drawn regions that read maps. -/
@[reducible] def mapAny (cx : Cx) : List Oper → Bool
  | [] => false
  | o :: l => match o.op with
    | .call c => match c.callee with
      | .builtin .len => match tl c.argTypes with
        | [t] => match isMapT cx t with
          | true => true
          | false => mapAny cx l
        | _ => mapAny cx l
      | _ => mapAny cx l
    | .lookup _ _ _ _ => true
    | _ => mapAny cx l
@[reducible] def stepM (E : Env) (ops : List Oper) (o : Oper) (s : St) (K : St → Prop) : Prop := match o.guard with
  | some _ => stepK E ops o s K
  | none => match mapPure E.cx s o.op fun e => K (s.put o.dst [] e) with
    | some p => match dOK E.n o.dst with
      | false => False
      | true => p
    | none => stepK E ops o s K
@[reducible] def opsM (E : Env) (ops : List Oper) : List Oper → St → (St → Prop) → Prop
  | [], s, K => K s
  | o :: r, s, K => stepM E ops o s fun s => opsM E ops r s K
theorem stillM_ok (ok : EnvOK P E) (hg : GlobOK E.cx.gd h0) {R : Act → Prop} : ∀ (l : List Oper) {s : St} {a : Act}, l.all isPure = true → Sat E.n B h0 s h β w a → opsM E (tl ops) l s K →
    (∀ s' a', K s' → Sat E.n B h0 s' h β w a' → Same (dsts l) a a' → R a') → wpStill P ops w R l a
  | [], s, a, _, sat, k, next => next _ _ k sat (Same.refl _ _)
  | o :: r, s, a, hp, sat, k, next => by
    simp only [List.all_cons, Bool.and_eq_true] at hp
    have old : stepK E (tl ops) o s (fun s => opsM E (tl ops) r s K) → wpStill P ops w R (o :: r) a := fun k =>
      still_step ok sat (hg.mono sat.ok.hle) hp.1 k fun v s' k' sat' => stillM_ok ok hg r hp.2 sat' k' fun s2 a2 k2 sat2 sm => next s2 a2 k2 sat2 sm.put
    simp only [opsM, stepM] at k
    split at k
    · exact old k
    · rename_i hgd
      split at k
      · rename_i p hp'
        split at k
        · exact k.elim
        · rename_i hd
          obtain ⟨e, v, k1, run, c⟩ := mapPure_run ok.ti sat (hg.mono sat.ok.hle) hp' k
          unfold wpStill
          rw [if_pos (by simp [Region.wanted, hgd])]
          unfold Oper.still
          rw [run, Oper.stillUpon_value]
          exact stillM_ok ok hg r hp.2 (sat.put (dOK_lt hd) rfl (fun _ => c) fun hh => by cases hh) k1 fun s2 a2 k2 sat2 sm => next s2 a2 k2 sat2 sm.put
      · exact old k
def lexM (ops : Array Oper) : Bool := ops.all isPure && Region.lexB .any ops
theorem mem_dsts {t : Nat} : ∀ {l : List Oper}, memN t (dsts l) = true ↔ ∃ o ∈ l, o.dst = some t
  | [] => by simp [dsts, memN]
  | o :: l => by
    cases hd : o.dst with
    | none =>
      have e : dsts (o :: l) = dsts l := by simp only [dsts, hd]
      rw [e, mem_dsts]
      simp [hd]
    | some d =>
      have e : dsts (o :: l) = d :: dsts l := by simp only [dsts, hd]
      rw [e, memN_cons, Bool.or_eq_true, mem_dsts]
      constructor
      · rintro (h | ⟨o', h1, h2⟩)
        · exact ⟨o, by simp, by rw [hd, Nat.eq_of_beq_eq_true h]⟩
        · exact ⟨o', by simp [h1], h2⟩
      · rintro ⟨o', h1, h2⟩
        rcases List.mem_cons.1 h1 with rfl | h1
        · rw [hd] at h2; cases h2; exact .inl (Nat.beq_refl _)
        · exact .inr ⟨o', h1, h2⟩
theorem Same.sub {l m : List Oper} {a b : Act} (hs : ∀ o ∈ l, o ∈ m) (x : Same (dsts l) a b) : Same (dsts m) a b := fun t h => x t (by
  cases hh : memN t (dsts l) with
  | false => rfl
  | true =>
    obtain ⟨o, h1, h2⟩ := mem_dsts.1 hh
    rw [mem_dsts.2 ⟨o, hs o h1, h2⟩] at h; cases h)
theorem Same.put_mem {ol : List Oper} {o : Oper} (ho : o ∈ ol) {a b : Act} {v : Value} (x : Same (dsts ol) (a.put o.dst v) b) : Same (dsts ol) a b := by
  intro t h
  rw [x t h]
  cases hd : o.dst with
  | none => rfl
  | some d =>
    have hne : d ≠ t := by
      rintro rfl
      rw [mem_dsts.2 ⟨o, ho, hd⟩] at h; cases h
    simp [Act.put, Array.getElem?_setIfInBounds_ne hne]
theorem tree_ok (ok : EnvOK P E) (hg : GlobOK E.cx.gd h0) (hs : Region.noSelect ops = true) {R : Act → World → Prop} : ∀ (t : DT) {n : Nat} {listed : Array Bool} {s : St} {h : FH} {β : List RV} {w : World} {a : Act},
    Sat E.n B h0 s h β w a → treeK E (tl ops) (opT ops t) s K → (∀ s' h' β' w' a', K s' → h.le h' → Sat E.n B h0 s' h' β' w' a' → Same (dsts ops.toList) a a' → R a' w') →
    (chkT ops t true n listed = true → anyI P .any ops (sfe ops) R n listed a w) ∧
    (chkT ops t false n listed = true → ∀ i ∈ t.alts, wpO P ops i (fun a' w' => (sfe ops i = true → Gro w w') ∧ anyI P .any ops (sfe ops) R (n - 1) (listed.setIfInBounds i true) a' w') a w)
  | .done, n, listed, s, h, β, w, a, sat, k, next => by
    refine ⟨fun hc => ?_, fun hc => by simp [chkT] at hc⟩
    simp only [chkT, Bool.true_and, Bool.and_eq_true, beq_iff_eq] at hc
    obtain ⟨rfl, he⟩ := hc
    exact ⟨by simpa using he, next _ _ _ _ _ k (FH.le.refl h) sat (Same.refl _ _)⟩
  | .fl i t, n, listed, s, h, β, w, a, sat, k, next => by
    refine ⟨fun hc => ?_, fun hc => by simp [chkT] at hc⟩
    simp only [chkT, Bool.true_and, Bool.and_eq_true, bne_iff_ne, ne_eq] at hc
    obtain ⟨⟨hn, hb⟩, hc⟩ := hc
    obtain ⟨n, rfl⟩ : ∃ m, n = m + 1 := ⟨n - 1, by omega⟩
    unfold floatsB at hb
    cases hi : ops[i]? with
    | none => rw [hi] at hb; simp at hb
    | some o =>
      rw [hi] at hb
      simp only [Bool.and_eq_true] at hb
      simp only [opT, hi, treeK] at k
      have hmem : o ∈ ops.toList := List.mem_of_getElem? (i := i) (by simpa using hi)
      obtain ⟨⟨⟨hf, hfree⟩, hr⟩, hl⟩ := hb
      obtain ⟨v, s', hy, k', sat'⟩ := float_step ok sat (hg.mono sat.ok.hle) hf k
      have hq : sfe ops i = true := by
        simp only [sfe, hi]
        exact float_quiet hf
      refine anyI_first (bl := blOf ops listed i) hi (Region.noSelect_spec hs) hq n listed a w (Region.free_spec hi hfree) (fun e => ?_) (by simpa using hr) hy (fun _ => Gro.refl w)
        ((tree_ok ok hg hs t sat' k' fun s2 h2 β2 w2 a2 k2 le2 sat2 sm => next s2 h2 β2 w2 a2 k2 le2 sat2 (sm.put_mem hmem)).1 hc)
      rw [e] at hl
      exact waitsB_spec (by simpa using hl)
  | .op i t, n, listed, s, h, β, w, a, sat, k, next => by
    have key : n ≠ 0 → (ops[i]?).isSome = true → chkT ops t true (n - 1) (listed.setIfInBounds i true) = true → wpO P ops i (fun a' w' => (sfe ops i = true → Gro w w') ∧ anyI P .any ops (sfe ops) R (n - 1) (listed.setIfInBounds i true) a' w') a w := by
      intro hn hi hc
      obtain ⟨o, hi⟩ := Option.isSome_iff_exists.1 hi
      have hmem : o ∈ ops.toList := List.mem_of_getElem? (i := i) (by simpa using hi)
      simp only [opT, hi, treeK] at k
      unfold wpO
      simp only [hi]
      refine stepK_ok ok sat (hg.mono sat.ok.hle) k _ noQ fun s' h' β' w' v k' le gro sat' => ⟨fun e => gro (by simpa [sfe, hi] using e), ?_⟩
      exact (tree_ok ok hg hs t sat' k' fun s2 h2 β2 w2 a2 k2 le2 sat2 sm => next s2 h2 β2 w2 a2 k2 (le.trans le2) sat2 (sm.put_mem hmem)).1 hc
    refine ⟨fun hc => ?_, fun hc j hj => ?_⟩
    · simp only [chkT, Bool.not_true, Bool.false_or, Bool.and_eq_true, bne_iff_ne, ne_eq, beq_iff_eq] at hc
      obtain ⟨⟨⟨hr, hn⟩, hi⟩, hc⟩ := hc
      obtain ⟨m, rfl⟩ : ∃ m, n = m + 1 := ⟨n - 1, by omega⟩
      refine ⟨fun h0 => by rw [hr] at h0; simp at h0, fun j hj => ?_⟩
      rw [hr] at hj
      simp at hj
      subst hj
      exact key hn hi hc
    · simp only [chkT, Bool.not_false, Bool.true_or, Bool.true_and, Bool.and_eq_true, bne_iff_ne, ne_eq] at hc
      simp only [DT.alts, List.mem_singleton] at hj
      subst hj
      exact key hc.1.1 hc.1.2 hc.2
  | .alt i t m, n, listed, s, h, β, w, a, sat, k, next => by
    have key : n ≠ 0 → (ops[i]?).isSome = true → chkT ops t true (n - 1) (listed.setIfInBounds i true) = true → chkT ops m false n listed = true →
        ∀ j ∈ i :: m.alts, wpO P ops j (fun a' w' => (sfe ops j = true → Gro w w') ∧ anyI P .any ops (sfe ops) R (n - 1) (listed.setIfInBounds j true) a' w') a w := by
      intro hn hi hc hm j hj
      obtain ⟨o, hi⟩ := Option.isSome_iff_exists.1 hi
      have hmem : o ∈ ops.toList := List.mem_of_getElem? (i := i) (by simpa using hi)
      simp only [opT, hi, treeK] at k
      rcases List.mem_cons.1 hj with rfl | hj
      · unfold wpO
        simp only [hi]
        refine stepK_ok ok sat (hg.mono sat.ok.hle) k.1 _ noQ fun s' h' β' w' v k' le gro sat' => ⟨fun e => gro (by simpa [sfe, hi] using e), ?_⟩
        exact (tree_ok ok hg hs t sat' k' fun s2 h2 β2 w2 a2 k2 le2 sat2 sm => next s2 h2 β2 w2 a2 k2 (le.trans le2) sat2 (sm.put_mem hmem)).1 hc
      · exact (tree_ok ok hg hs m sat k.2 next).2 hm j hj
    refine ⟨fun hc => ?_, fun hc j hj => ?_⟩
    · simp only [chkT, Bool.not_true, Bool.false_or, Bool.and_eq_true, bne_iff_ne, ne_eq, beq_iff_eq] at hc
      obtain ⟨⟨⟨⟨hr, hn⟩, hi⟩, hc⟩, hm⟩ := hc
      obtain ⟨q, rfl⟩ : ∃ m, n = m + 1 := ⟨n - 1, by omega⟩
      refine ⟨fun h0 => by rw [hr] at h0; simp at h0, fun j hj => ?_⟩
      rw [hr] at hj
      exact key hn hi hc hm j hj
    · simp only [chkT, Bool.not_false, Bool.true_or, Bool.true_and, Bool.and_eq_true, bne_iff_ne, ne_eq] at hc
      exact key hc.1.1.1 hc.1.1.2 hc.1.2 hc.2 j hj
theorem Sat.drawn (sat : Sat E.n B h0 s h β w a) (n : Nat) (hn : w.drawn ≤ n) : Sat E.n B h0 s h β { w with drawn := n } a where
  ok := ⟨⟨sat.ok.below.os, sat.ok.below.tape, sat.ok.below.output, sat.ok.below.size, sat.ok.below.block⟩, Nat.le_trans sat.ok.dr hn, sat.ok.len, fun i r v h1 h2 => by
      have := sat.ok.holds i r v h1 h2
      cases r <;> cases v <;> exact this, sat.ok.own, sat.ok.inj, sat.ok.hle, sat.ok.hw, sat.ok.hg, sat.ok.kn⟩
  env := sat.env
  gs := sat.gs
  defers := sat.defers
  sz := sat.sz
  gb := sat.gb
  gT := sat.gT
theorem draw_ok (ok : EnvOK P E) (hg : GlobOK E.cx.gd h0) {id : Nat} {ol : OT} (ho : drawOrd ops = some ol) (sat : Sat E.n B h0 s h β w a) (k : treeK E (tl ops) ol s K) {F : Fence} {n : Nat} (hF : Wd F) (hn : ndL ops.toList = true) {Q : Exit → Act → World → Prop}
    (next : ∀ s' h' β' w' a', K s' → h.le h' → Sat E.n B h0 s' h' β' w' a' → Same (dsts (tl ops)) a a' → Q .normal a' w') : (Code.region id ops true).wpIn F n P Q a w := by
  unfold drawOrd at ho
  have et : tl ops = ops.toList := by cases ops; rfl
  split at ho
  · rename_i hp
    cases ho
    simp only [Bool.and_eq_true] at hp
    refine still_region hF hn ok.mixed hp.2 (still_ok ok hg ops.toList (by simpa using hp.1) (sat.drawn _ (Nat.le_succ _)) (treeK_ofL _ k) fun s' a' k' sat' sm => next _ _ _ _ _ k' (FH.le.refl h) sat' (by rw [et]; exact sm))
  · simp only at ho
    split at ho
    · rename_i hp
      cases ho
      simp only [Bool.and_eq_true, beq_iff_eq] at hp
      refine wpIn_region_any ok.mixed (anyI_In (sf := sfe ops) (R := fun a w => Q .normal a w) hF hn (fun _ _ hh => hh) _ _ _ _ ?_)
      exact (tree_ok ok hg hp.1 (R := fun a w => Q .normal a w) (genT ops ops.size (Array.replicate ops.size false)) (sat.drawn (w.drawn + 1) (Nat.le_succ _)) k fun s' h' β' w' a' k' le sat' sm => next _ _ _ _ _ k' le sat' (by rw [et]; exact sm)).1 hp.2
    · cases ho
end
section
variable {P : Program} {E : Env} {B : Base} {h0 : FH} {s : St} {h : FH} {β : List RV} {w : World} {a : Act} {o : Oper} {ops : Array Oper} {K : St → Prop}
theorem drawM_ok (ok : EnvOK P E) (hg : GlobOK E.cx.gd h0) {id : Nat} (ho : lexM ops = true) (sat : Sat E.n B h0 s h β w a) (k : opsM E (tl ops) (tl ops) s K) {F : Fence} {n : Nat} (hF : Wd F) (hn : ndL ops.toList = true) {Q : Exit → Act → World → Prop}
    (next : ∀ s' h' β' w' a', K s' → h.le h' → Sat E.n B h0 s' h' β' w' a' → Same (dsts (tl ops)) a a' → Q .normal a' w') : (Code.region id ops true).wpIn F n P Q a w := by
  unfold lexM at ho
  have et : tl ops = ops.toList := by cases ops; rfl
  simp only [Bool.and_eq_true] at ho
  rw [et] at next
  refine still_region hF hn ok.mixed ho.2 (stillM_ok ok hg ops.toList (by simpa using ho.1) (sat.drawn _ (Nat.le_succ _)) (by rw [et] at k ⊢; exact k) fun s' a' k' sat' sm => next _ _ _ _ _ k' (FH.le.refl h) sat' sm)
end
/-! Drawn regions with calls that write. -/
@[reducible] def isCallO : Op → Bool
  | .call _ => true
  | _ => false
def quiet0 : Op → Bool
  | .call c => (match c.callee with
    | .builtin .len => true
    | _ => false)
  | o => quietly o
def sf0 (ops : Array Oper) (i : Nat) : Bool := match ops[i]? with
  | some o => quiet0 o.op
  | none => true
def waits0 (ops : Array Oper) (listed : Array Bool) (i : Nat) (bl : List Nat) : Bool :=
  (bl.all fun j => !listed.getD j true && (match ops[j]? with | some o => o.after.any (fun e => Region.binds .any e && (e.on == i || bl.contains e.on)) | none => false)) &&
  ((List.range ops.size).all fun j => j == i || listed.getD j true || sf0 ops j || bl.contains j)
theorem waits0_spec {ops : Array Oper} {listed : Array Bool} {i : Nat} {bl : List Nat} (h : waits0 ops listed i bl = true) :
    Waits .any ops listed i bl ∧ ∀ j, j ≠ i → listed.getD j true = false → sf0 ops j = false → j ∈ bl := by
  simp only [waits0, Bool.and_eq_true, List.all_eq_true] at h
  refine ⟨fun j hj => ?_, fun j hji hun hs => ?_⟩
  · have h1 := h.1 j hj
    simp only [Bool.not_eq_true'] at h1
    refine ⟨h1.1, ?_⟩
    cases ho : ops[j]? with
    | none => rw [ho] at h1; exact absurd h1.2 (by simp)
    | some o =>
      rw [ho] at h1
      obtain ⟨e, he, hb⟩ := Array.any_eq_true'.1 h1.2
      simp only [Bool.and_eq_true, Bool.or_eq_true, beq_iff_eq, List.contains_iff_mem] at hb
      exact ⟨o, rfl, e, he, hb.1, hb.2⟩
  · rcases Nat.lt_or_ge j ops.size with hlt | hge
    · have h2 := h.2 j (List.mem_range.2 hlt)
      simp only [Bool.or_eq_true, beq_iff_eq, hji, hun, hs, List.contains_iff_mem, Bool.false_eq_true, false_or] at h2
      exact h2
    · have : ops[j]? = none := Array.getElem?_eq_none hge
      simp [sf0, this] at hs
def floats0 (ops : Array Oper) (listed : Array Bool) (i : Nat) : Bool := match ops[i]? with
  | some o => isFloat o.op && Region.free .any ops listed i && (Region.ready .any ops listed).contains i && (!isLoad o.op || waits0 ops listed i (blOf ops listed i))
  | none => false
def chk0 (ops : Array Oper) : DT → Bool → Nat → Array Bool → Bool
  | .done, top, n, listed => top && n == 0 && (Region.ready .any ops listed).isEmpty
  | .fl i t, top, n, listed => top && n != 0 && floats0 ops listed i && chk0 ops t true (n - 1) (listed.setIfInBounds i true)
  | .op i t, top, n, listed => (!top || Region.ready .any ops listed == [i]) && n != 0 && (ops[i]?).isSome && chk0 ops t true (n - 1) (listed.setIfInBounds i true)
  | .alt i t m, top, n, listed => (!top || Region.ready .any ops listed == i :: m.alts) && n != 0 && (ops[i]?).isSome && chk0 ops t true (n - 1) (listed.setIfInBounds i true) && chk0 ops m false n listed
def genT0 (ops : Array Oper) : Nat → Array Bool → DT
  | 0, _ => .done
  | f + 1, listed =>
    let rs := Region.ready .any ops listed
    match rs.find? (fun i => floats0 ops listed i) with
    | some i => .fl i (genT0 ops f (listed.setIfInBounds i true))
    | none => goT (fun i => genT0 ops f (listed.setIfInBounds i true)) rs
def drawOrd0 (ops : Array Oper) : Option OT :=
  let t := genT0 ops ops.size (Array.replicate ops.size false)
  if Region.noSelect ops && chk0 ops t true ops.size (Array.replicate ops.size false) then some (opT ops t) else none
@[reducible] def stepQ (E : Env) (ops : List Oper) (o : Oper) (s : St) (K : St → Prop) : Prop := match isFloat o.op with
  | true => stepK E ops o s K
  | false => match isCallO o.op with
    | true => stepI E ops o s K
    | false => stepK E ops o s K
@[reducible] def itreeK (E : Env) (ops : List Oper) : OT → St → (St → Prop) → Prop
  | .done, s, K => K s
  | .op o t, s, K => stepQ E ops o s fun s => itreeK E ops t s K
  | .alt o t m, s, K => (stepQ E ops o s fun s => itreeK E ops t s K) ∧ itreeK E ops m s K
@[reducible] def ipAny (E : Env) : List Oper → Bool
  | [] => false
  | o :: l => match o.op with
    | .call c => match c.callee with
      | .value (.func f) => match E.ip f with
        | some _ => true
        | none => ipAny E l
      | _ => ipAny E l
    | _ => ipAny E l
section
variable {P : Program} {E : Env} {B : Base} {h0 : FH} {s : St} {h : FH} {β : List RV} {w : World} {a : Act} {o : Oper} {ops : Array Oper} {K : St → Prop}
theorem stepQ_ok (ok : EnvOK P E) (sat : Sat E.n B h0 s h β w a) (hg : GlobOK E.cx.gd h) {i : Nat} (hi : ops[i]? = some o) (k : stepQ E (tl ops) o s K) {R : Act → World → Prop}
    (next : ∀ s' h' β' w' v, K s' → h.le h' → (sf0 ops i = true → Gro w w') → Sat E.n B h0 s' h' β' w' (a.put o.dst v) → R (a.put o.dst v) w') : wpO P ops i R a w := by
  unfold wpO
  simp only [hi]
  unfold stepQ at k
  have plain : quiet0 o.op = quietly o.op → stepK E (tl ops) o s K → if Region.wanted o (yielded ops a.tmps) = true then o.wp P a w R noQ else R (a.put o.dst undef) w := fun hq k =>
    stepK_ok ok sat hg k R noQ fun s' h' β' w' v k' le gro sat' => next s' h' β' w' v k' le (fun e => gro (by rw [← hq]; simpa [sf0, hi] using e)) sat'
  split at k
  · rename_i hf
    refine plain ?_ k
    cases ho : o.op with
    | call c =>
      rw [ho] at hf
      have : c.callee = .builtin .len := lenB hf
      simp [quiet0, quietly, this]
    | _ => rfl
  · rename_i hf
    split at k
    · rename_i hc
      refine stepI_ok ok sat hg k R noQ fun s' h' β' w' v k' le sat' => next s' h' β' w' v k' le (fun e => ?_) sat'
      exfalso
      cases ho : o.op with
      | call c =>
        rw [ho] at hf
        simp only [sf0, hi, ho, quiet0] at e
        have h1 : c.callee = .builtin .len := by
          revert e; split
          · rename_i h2; intro _; exact h2
          · intro e; cases e
        have : isFloat (Op.call c) = true := by simp [isFloat, isFloat0, h1]
        rw [this] at hf; cases hf
      | _ => rw [ho] at hc; cases hc
    · rename_i hc
      refine plain ?_ k
      cases ho : o.op with
      | call c => rw [ho] at hc; cases hc
      | _ => rfl
theorem itree_ok (ok : EnvOK P E) (hg : GlobOK E.cx.gd h0) (hs : Region.noSelect ops = true) {R : Act → World → Prop} : ∀ (t : DT) {n : Nat} {listed : Array Bool} {s : St} {h : FH} {β : List RV} {w : World} {a : Act},
    Sat E.n B h0 s h β w a → itreeK E (tl ops) (opT ops t) s K → (∀ s' h' β' w' a', K s' → h.le h' → Sat E.n B h0 s' h' β' w' a' → Same (dsts ops.toList) a a' → R a' w') →
    (chk0 ops t true n listed = true → anyI P .any ops (sf0 ops) R n listed a w) ∧
    (chk0 ops t false n listed = true → ∀ i ∈ t.alts, wpO P ops i (fun a' w' => (sf0 ops i = true → Gro w w') ∧ anyI P .any ops (sf0 ops) R (n - 1) (listed.setIfInBounds i true) a' w') a w)
  | .done, n, listed, s, h, β, w, a, sat, k, next => by
    refine ⟨fun hc => ?_, fun hc => by simp [chk0] at hc⟩
    simp only [chk0, Bool.true_and, Bool.and_eq_true, beq_iff_eq] at hc
    obtain ⟨rfl, hr⟩ := hc
    exact ⟨by simpa using hr, next _ _ _ _ _ k (FH.le.refl h) sat (Same.refl _ _)⟩
  | .fl i t, n, listed, s, h, β, w, a, sat, k, next => by
    refine ⟨fun hc => ?_, fun hc => by simp [chk0] at hc⟩
    simp only [chk0, Bool.true_and, Bool.and_eq_true, bne_iff_ne, ne_eq] at hc
    obtain ⟨⟨hn0, hb⟩, hc⟩ := hc
    obtain ⟨n, rfl⟩ : ∃ m, n = m + 1 := ⟨n - 1, by omega⟩
    unfold floats0 at hb
    cases hi : ops[i]? with
    | none => rw [hi] at hb; simp at hb
    | some o =>
      rw [hi] at hb
      simp only [Bool.and_eq_true] at hb
      simp only [opT, hi, itreeK] at k
      have hmem : o ∈ ops.toList := List.mem_of_getElem? (i := i) (by simpa using hi)
      obtain ⟨⟨⟨hf, hfree⟩, hr⟩, hl⟩ := hb
      have k : stepK E (tl ops) o s fun s => itreeK E (tl ops) (opT ops t) s K := by
        unfold stepQ at k; rw [hf] at k; exact k
      obtain ⟨v, s', hy, k', sat'⟩ := float_step ok sat (hg.mono sat.ok.hle) hf k
      have hq : sf0 ops i = true := by
        simp only [sf0, hi]
        cases ho : o.op with
        | call c =>
          rw [ho] at hf
          have : c.callee = .builtin .len := lenB hf
          simp [quiet0, this]
        | _ =>
          have := float_quiet hf
          rw [ho] at this
          exact this
      refine anyI_first (bl := blOf ops listed i) hi (Region.noSelect_spec hs) hq n listed a w (Region.free_spec hi hfree) (fun e => ?_) (by simpa using hr) hy (fun _ => Gro.refl w)
        ((itree_ok ok hg hs t sat' k' fun s2 h2 β2 w2 a2 k2 le2 sat2 sm => next s2 h2 β2 w2 a2 k2 le2 sat2 (sm.put_mem hmem)).1 hc)
      rw [e] at hl
      exact waits0_spec (by simpa using hl)
  | .op i t, n, listed, s, h, β, w, a, sat, k, next => by
    have key : n ≠ 0 → (ops[i]?).isSome = true → chk0 ops t true (n - 1) (listed.setIfInBounds i true) = true → wpO P ops i (fun a' w' => (sf0 ops i = true → Gro w w') ∧ anyI P .any ops (sf0 ops) R (n - 1) (listed.setIfInBounds i true) a' w') a w := by
      intro hn0 hi hc
      obtain ⟨o, hi⟩ := Option.isSome_iff_exists.1 hi
      have hmem : o ∈ ops.toList := List.mem_of_getElem? (i := i) (by simpa using hi)
      simp only [opT, hi, itreeK] at k
      exact (stepQ_ok ok sat (hg.mono sat.ok.hle) hi k fun s' h' β' w' v k' le gro sat' => ⟨gro, (itree_ok ok hg hs t sat' k' fun s2 h2 β2 w2 a2 k2 le2 sat2 sm => next s2 h2 β2 w2 a2 k2 (le.trans le2) sat2 (sm.put_mem hmem)).1 hc⟩)
    refine ⟨fun hc => ?_, fun hc j hj => ?_⟩
    · simp only [chk0, Bool.not_true, Bool.false_or, Bool.and_eq_true, bne_iff_ne, ne_eq, beq_iff_eq] at hc
      obtain ⟨⟨⟨hr, hn0⟩, hi⟩, hc⟩ := hc
      obtain ⟨m, rfl⟩ : ∃ m, n = m + 1 := ⟨n - 1, by omega⟩
      refine ⟨fun h0 => by rw [hr] at h0; simp at h0, fun j hj => ?_⟩
      rw [hr] at hj
      simp at hj
      subst hj
      exact key hn0 hi hc
    · simp only [chk0, Bool.not_false, Bool.true_or, Bool.true_and, Bool.and_eq_true, bne_iff_ne, ne_eq] at hc
      simp only [DT.alts, List.mem_singleton] at hj
      subst hj
      exact key hc.1.1 hc.1.2 hc.2
  | .alt i t mm, n, listed, s, h, β, w, a, sat, k, next => by
    have key : n ≠ 0 → (ops[i]?).isSome = true → chk0 ops t true (n - 1) (listed.setIfInBounds i true) = true → chk0 ops mm false n listed = true →
        ∀ j ∈ i :: mm.alts, wpO P ops j (fun a' w' => (sf0 ops j = true → Gro w w') ∧ anyI P .any ops (sf0 ops) R (n - 1) (listed.setIfInBounds j true) a' w') a w := by
      intro hn0 hi hc hm j hj
      obtain ⟨o, hi⟩ := Option.isSome_iff_exists.1 hi
      have hmem : o ∈ ops.toList := List.mem_of_getElem? (i := i) (by simpa using hi)
      simp only [opT, hi, itreeK] at k
      rcases List.mem_cons.1 hj with rfl | hj
      · exact (stepQ_ok ok sat (hg.mono sat.ok.hle) hi k.1 fun s' h' β' w' v k' le gro sat' => ⟨gro, (itree_ok ok hg hs t sat' k' fun s2 h2 β2 w2 a2 k2 le2 sat2 sm => next s2 h2 β2 w2 a2 k2 (le.trans le2) sat2 (sm.put_mem hmem)).1 hc⟩)
      · exact (itree_ok ok hg hs mm sat k.2 next).2 hm j hj
    refine ⟨fun hc => ?_, fun hc j hj => ?_⟩
    · simp only [chk0, Bool.not_true, Bool.false_or, Bool.and_eq_true, bne_iff_ne, ne_eq, beq_iff_eq] at hc
      obtain ⟨⟨⟨⟨hr, hn0⟩, hi⟩, hc⟩, hm⟩ := hc
      obtain ⟨q, rfl⟩ : ∃ m, n = m + 1 := ⟨n - 1, by omega⟩
      refine ⟨fun h0 => by rw [hr] at h0; simp at h0, fun j hj => ?_⟩
      rw [hr] at hj
      exact key hn0 hi hc hm j hj
    · simp only [chk0, Bool.not_false, Bool.true_or, Bool.true_and, Bool.and_eq_true, bne_iff_ne, ne_eq] at hc
      exact key hc.1.1.1 hc.1.1.2 hc.1.2 hc.2 j hj
theorem idraw_ok (ok : EnvOK P E) (hg : GlobOK E.cx.gd h0) {id : Nat} {ol : OT} (ho : drawOrd0 ops = some ol) (sat : Sat E.n B h0 s h β w a) (k : itreeK E (tl ops) ol s K) {F : Fence} {n : Nat} (hF : Wd F) (hn : ndL ops.toList = true) {Q : Exit → Act → World → Prop}
    (next : ∀ s' h' β' w' a', K s' → h.le h' → Sat E.n B h0 s' h' β' w' a' → Same (dsts (tl ops)) a a' → Q .normal a' w') : (Code.region id ops true).wpIn F n P Q a w := by
  unfold drawOrd0 at ho
  have et : tl ops = ops.toList := by cases ops; rfl
  simp only at ho
  split at ho
  · rename_i hp
    cases ho
    simp only [Bool.and_eq_true, beq_iff_eq] at hp
    refine wpIn_region_any ok.mixed (anyI_In (sf := sf0 ops) (R := fun a w => Q .normal a w) hF hn (fun _ _ hh => hh) _ _ _ _ ?_)
    exact (itree_ok ok hg hp.1 (R := fun a w => Q .normal a w) (genT0 ops ops.size (Array.replicate ops.size false)) (sat.drawn (w.drawn + 1) (Nat.le_succ _)) k fun s' h' β' w' a' k' le sat' sm => next _ _ _ _ _ k' le sat' (by rw [et]; exact sm)).1 hp.2
  · cases ho
end
/-! At a region's end the guards are forgotten. -/
@[reducible] def isNil {α : Type} : List α → Bool
  | [] => true
  | _ :: _ => false
@[reducible] def cleanE (seen : List Nat) : List (Nat × Gd × Ent) → List (Nat × Gd × Ent)
  | [] => []
  | (k, g, e) :: l => match memN k seen with
    | true => cleanE seen l
    | false => match isNil g with
      | true => (k, g, e) :: cleanE (k :: seen) l
      | false => cleanE (k :: seen) l
@[reducible] def cleanT : List (Gd × Res) → List (Gd × Res)
  | [] => []
  | (g, r) :: l => match isNil g with
    | true => ([], r) :: cleanT l
    | false => ([], .gone) :: cleanT l
@[reducible] def clean (s : St) : St := { env := cleanE [] s.env, T := cleanT s.T, gl := [], gs := [] }
theorem cleanE_get : ∀ {l : List (Nat × Gd × Ent)} {seen : List Nat} {t : Nat} {G : Gd} {e : Ent}, lkE (cleanE seen l) t = some (G, e) → memN t seen = false ∧ lkE l t = some (G, e) ∧ G = []
  | [], _, _, _, _, h => by simp [cleanE, lkE] at h
  | (k, g, e0) :: l, seen, t, G, e, h => by
    unfold cleanE at h
    split at h
    · rename_i hm
      obtain ⟨h1, h2, h3⟩ := cleanE_get h
      refine ⟨h1, ?_, h3⟩
      rw [lkE_cons, if_neg]
      · exact h2
      · rintro rfl; rw [hm] at h1; cases h1
    · rename_i hm
      have sub : lkE (cleanE (k :: seen) l) t = some (G, e) → memN t seen = false ∧ lkE ((k, g, e0) :: l) t = some (G, e) ∧ G = [] := by
        intro h
        obtain ⟨h1, h2, h3⟩ := cleanE_get h
        rw [memN_cons, Bool.or_eq_false_iff] at h1
        refine ⟨h1.2, ?_, h3⟩
        rw [lkE_cons, if_neg]
        · exact h2
        · rintro rfl; exact Nat.ne_of_beq_eq_false h1.1 rfl
      split at h
      · rename_i hn
        rw [lkE_cons] at h
        split at h
        · rename_i hk
          subst hk
          cases h
          refine ⟨hm, by rw [lkE_cons, if_pos rfl], ?_⟩
          cases g with
          | nil => rfl
          | cons _ _ => cases hn
        · exact sub h
      · exact sub h
theorem cleanT_eff (gl : List Bool) : ∀ (T : List (Gd × Res)) (i : Nat) (r : Res), (eff [] (cleanT T))[i]? = some r → r.live = true → (eff gl T)[i]? = some r
  | [], i, r, h, _ => by simp [cleanT, eff] at h
  | (g, r0) :: l, i, r, h, hl => by
    have e1 : eff [] (cleanT ((g, r0) :: l)) = (match isNil g with | true => r0 | false => Res.gone) :: eff [] (cleanT l) := by
      simp only [cleanT]; cases isNil g <;> rfl
    rw [e1] at h
    cases i with
    | zero =>
      simp only [List.getElem?_cons_zero, Option.some.injEq] at h
      cases g with
      | nil => simp only [isNil] at h; subst h; rfl
      | cons _ _ => simp only [isNil] at h; subst h; cases hl
    | succ i =>
      simp only [List.getElem?_cons_succ, eff] at h ⊢
      exact cleanT_eff gl l i r h hl
theorem cleanT_len : ∀ (T : List (Gd × Res)), (cleanT T).length = T.length
  | [] => rfl
  | (g, r) :: l => by simp only [cleanT]; split <;> simp [cleanT_len l]
theorem cleanT_nil : ∀ {T : List (Gd × Res)} {p : Gd × Res}, p ∈ cleanT T → p.1 = []
  | [], p, h => by simp [cleanT] at h
  | (g, r) :: l, p, h => by
    simp only [cleanT] at h
    split at h
    · rcases List.mem_cons.1 h with rfl | h
      · rfl
      · exact cleanT_nil h
    · rcases List.mem_cons.1 h with rfl | h
      · rfl
      · exact cleanT_nil h
theorem OK.weaken {B : Base} {h0 : FH} {T T' : List Res} {h : FH} {β : List RV} {w : World} (ok : OK B h0 T h β w) (hl : T'.length = T.length) (sub : ∀ (i : Nat) r, T'[i]? = some r → r.live = true → T[i]? = some r) : OK B h0 T' h β w where
  below := ok.below
  dr := ok.dr
  len := by rw [hl]; exact ok.len
  holds := by
    intro i r v e e'
    cases hr : r.live with
    | true => exact ok.holds i r v (sub i r e hr) e'
    | false => cases r <;> first | (cases hr; done) | (cases v <;> trivial)
  own := fun i r v b e l e' hb => ok.own i r v b (sub i r e l) l e' hb
  inj := fun i j r r' u v b e l e' l' f f' hb hb' => ok.inj i j r r' u v b (sub i r e l) l (sub j r' e' l') l' f f' hb hb'
  hle := ok.hle
  hw := ok.hw
  hg := ok.hg
  kn := ok.kn
theorem Sat.clean {N : Nat} {B : Base} {h0 : FH} {s : St} {h : FH} {β : List RV} {w : World} {a : Act} (sat : Sat N B h0 s h β w a) : Sat N B h0 (clean s) h β w a := by
  refine ⟨?_, ?_, ?_, sat.defers, sat.sz, ?_, ?_⟩
  · exact sat.ok.weaken (by simp [eff_len, cleanT_len]) fun i r e l => cleanT_eff s.gl s.T i r e l
  · intro t G e ht
    obtain ⟨_, h1, rfl⟩ := cleanE_get ht
    exact sat.env t [] e h1
  · intro d i hi
    have hi : lkG [] d = some i := hi
    cases hi
  · intro t G e ht
    obtain ⟨_, h1, rfl⟩ := cleanE_get ht
    rfl
  · intro p hp; rw [cleanT_nil hp]
/-! Loops. -/
@[reducible] def writes : Code → List Nat
  | .region _ ops _ => dsts (tl ops)
  | .seq a b => catL (writes a) (writes b)
  | .cond _ a b => catL (writes a) (writes b)
  | .block _ c => writes c
  | .loop c => writes c
  | _ => []
@[reducible] def keyOf : Code → Nat
  | .region id _ _ => id
  | .seq a _ => keyOf a
  | .cond _ a _ => keyOf a
  | .block _ c => keyOf c
  | .loop c => keyOf c
  | _ => 0
@[reducible] def scBelow (n : Nat) : SC → Bool
  | .own i _ => Nat.ble (i + 1) n
  | .row i => Nat.ble (i + 1) n
  | .rowp i _ _ _ => Nat.ble (i + 1) n
  | .sub i _ => Nat.ble (i + 1) n
  | .subp i _ _ _ _ => Nat.ble (i + 1) n
  | _ => true
@[reducible] def svBelow (n : Nat) : SV → Bool
  | .c x => scBelow n x
  | .agg xs => allL (scBelow n) xs
  | _ => true
@[reducible] def entBelow (n : Nat) : Ent → Bool
  | .one v => svBelow n v
  | .tup vs => allL (svBelow n) vs
@[reducible] def resBelow (n : Nat) : Res → Bool
  | .blk _ xs => allL (scBelow n) xs
  | _ => true
@[reducible] def scRefFree : SC → Bool
  | .v _ => true
  | .sl _ _ => true
  | .one _ _ => true
  | .fp _ _ => true
  | .abs _ => true
  | .junk => true
  | _ => false
@[reducible] def svRefFree : SV → Bool
  | .c x => scRefFree x
  | .agg xs => allL scRefFree xs
  | _ => true
@[reducible] def entRefFree : Ent → Bool
  | .one v => svRefFree v
  | .tup vs => allL svRefFree vs
@[reducible] def entRef (n : Nat) : Ent → Bool
  | .one (.c (.own i _)) => Nat.ble (i + 1) n
  | .one (.c (.row i)) => Nat.ble (i + 1) n
  | _ => false
@[reducible] def keepE (ws : List Nat) (seen : List Nat) : List (Nat × Gd × Ent) → List (Nat × Gd × Ent)
  | [] => []
  | (k, g, e) :: l => match memN k seen with
    | true => keepE ws seen l
    | false => match memN k ws with
      | true => keepE ws (k :: seen) l
      | false => match andB (isNil g) (entRefFree e) with
        | true => (k, g, e) :: keepE ws (k :: seen) l
        | false => keepE ws (k :: seen) l
@[reducible] def keepR (n : Nat) (ws : List Nat) (seen : List Nat) : List (Nat × Gd × Ent) → List (Nat × SV)
  | [] => []
  | (k, g, e) :: l => match memN k seen with
    | true => keepR n ws seen l
    | false => match memN k ws with
      | true => keepR n ws (k :: seen) l
      | false => match isNil g with
        | true => match e with
          | .one (.c (.own i off)) => match Nat.ble (i + 1) n with
            | true => (k, .c (.own i off)) :: keepR n ws (k :: seen) l
            | false => keepR n ws (k :: seen) l
          | .one (.c (.row i)) => match Nat.ble (i + 1) n with
            | true => (k, .c (.row i)) :: keepR n ws (k :: seen) l
            | false => keepR n ws (k :: seen) l
          | _ => keepR n ws (k :: seen) l
        | false => keepR n ws (k :: seen) l
@[reducible] def hasR (s : St) : List (Nat × SV) → Bool
  | [] => true
  | (k, .c (.own i off)) :: l => match lkE s.env k with
    | some ([], .one (.c (.own i' off'))) => andB (andB (Nat.beq i i') (Nat.beq off off')) (hasR s l)
    | _ => false
  | (k, .c (.row i)) :: l => match lkE s.env k with
    | some ([], .one (.c (.row i'))) => andB (Nat.beq i i') (hasR s l)
    | _ => false
  | _ => false
@[reducible] def slotE : List (Nat × SV) → List (Nat × Gd × Ent)
  | [] => []
  | (k, v) :: l => (k, [], .one v) :: slotE l
@[reducible] def updT : List (Nat × Res) → List (Gd × Res) → List (Gd × Res)
  | [], T => T
  | (i, r) :: l, T => updT l (setL T i ([], r))
@[reducible] def headSt (ws : List Nat) (s : St) (sl : List (Nat × SV)) (rs : List (Nat × Res)) : St :=
  { env := catL (slotE sl) (catL (slotE (keepR (lenL s.T) ws [] s.env)) (keepE ws [] s.env)), T := updT rs s.T, gl := [], gs := [] }
@[reducible] def asSl : SV → SV
  | .c x => match x with
    | .abs (.ful sh l) => .c (.sl sh l)
    | x => .c x
  | v => v
@[reducible] def hasE (s : St) : List (Nat × SV) → Prop
  | [] => True
  | (k, v) :: l => (match lkE s.env k with
    | some ([], .one u) => asSl u = v
    | _ => False) ∧ hasE s l
@[reducible] def goodT (n : Nat) (T : List (Gd × Res)) : Bool := allL (fun p => andB (isNil p.1) (resBelow n p.2)) T
@[reducible] def goodS (n : Nat) (ws : List Nat) (sl : List (Nat × SV)) : Bool := allL (fun p => andB (svBelow n p.2) (memN p.1 ws)) sl
@[reducible] def nil1 (s : St) (k : Nat) (t : TypeId) (sh : Sh) : St := match lkE s.env k with
  | some ([], .one (.c (.v (.slice none 0 0)))) => { s with T := snoc s.T ([], .row t sh []), env := (k, [], .one (.c (.row (lenL s.T)))) :: s.env, gs := rmG s.gs k }
  | some ([], .one (.c (.own i 0))) => match nthL s.T i with
    | some ([], .blk t' [.v (.slice none 0 0)]) => { s with T := setL s.T i ([], .blk t' [.sl sh []]) }
    | _ => s
  | _ => s
@[reducible] def frzSlot (s : St) (k : Nat) : St := match lkE s.env k with
  | some ([], .one (.c (.row r))) => frzS s r
  | some ([], .one (.c (.abs (.ful sh l)))) => { s with env := (k, [], .one (.c (.sl sh l))) :: s.env, gs := rmG s.gs k }
  | _ => s
@[reducible] def frzSlots (s : St) : List Nat → St
  | [] => s
  | k :: l => frzSlots (frzSlot s k) l
theorem Sat.frzSlots {N : Nat} {B : Base} {h0 : FH} {w : World} {a : Act} {β : List RV} : ∀ (l : List Nat) {s : St} {h : FH}, Sat N B h0 s h β w a → ∃ h', h.le h' ∧ Sat N B h0 (frzSlots s l) h' β w a
  | [], s, h, sat => ⟨h, FH.le.refl h, sat⟩
  | k :: l, s, h, sat => by
    have h1 : ∃ h', h.le h' ∧ Sat N B h0 (frzSlot s k) h' β w a := by
      unfold frzSlot
      split
      · exact sat.frz1 _
      · rename_i sh l hk
        refine ⟨h, FH.le.refl h, sat.ok, ?_, ?_, sat.defers, sat.sz, ?_, sat.gT⟩
        · intro t' G e ht
          rw [lkE_cons] at ht
          split at ht
          · rename_i hkt
            subst hkt; cases ht
            obtain ⟨z, z1, z2, z3⟩ := sat.env k _ _ hk
            have c : CnV h β (.c (.abs (.ful sh l))) z := z2 rfl
            exact ⟨z, z1, fun _ => ⟨c.1.1, c.2⟩, fun hh => by cases hh⟩
          · exact sat.env t' G e ht
        · intro d i hi
          obtain ⟨hne, hi⟩ := lkG_rm _ _ _ _ hi
          obtain ⟨G, b, q1, q2⟩ := sat.gs d i hi
          exact ⟨G, b, by rw [lkE_cons, if_neg (Ne.symm hne)]; exact q1, q2⟩
        · intro t' G e ht
          rw [lkE_cons] at ht
          split at ht
          · cases ht; rfl
          · exact sat.gb _ _ _ ht
      · exact ⟨h, FH.le.refl h, sat⟩
    obtain ⟨h1, le1, sat1⟩ := h1
    obtain ⟨h2, le2, sat2⟩ := Sat.frzSlots l sat1
    exact ⟨h2, le1.trans le2, sat2⟩
@[reducible] def nilSt (s : St) : List (Nat × TypeId × Sh) → St
  | [] => s
  | (k, t, sh) :: l => nilSt (nil1 s k t sh) l
theorem Sat.nil1 {N : Nat} {B : Base} {h0 : FH} {s : St} {h : FH} {β : List RV} {w : World} {a : Act} (sat : Sat N B h0 s h β w a) (k : Nat) (t : TypeId) (sh : Sh) : ∃ β', Sat N B h0 (nil1 s k t sh) h β' w a := by
  unfold Eng.nil1
  split
  · rename_i hk
    obtain ⟨z, z1, z2, _⟩ := sat.env k _ _ hk
    have ez : z = .slice none 0 0 := (z2 rfl : CnV h β (.c (.v (.slice none 0 0))) z).1.1
    subst ez
    have ok : OK B h0 (eff s.gl (snoc s.T ([], .row t sh []))) h (β ++ [.row (.slice none 0 0)]) w := by
      rw [eff_snoc]
      exact sat.ok.add (r := .row t sh []) (v := .row (.slice none 0 0)) (grown_refl w none) (fun b hb => by rw [has_row] at hb; simp [rowBlk] at hb) (.inl ⟨rfl, rfl⟩)
    have gT : ∀ p ∈ snoc s.T (([] : Gd), Res.row t sh []), gbd s.gl.length p.1 = true := by
      intro p hp
      rw [snoc_eq, List.mem_append] at hp
      rcases hp with hp | hp
      · exact sat.gT p hp
      · simp at hp; subst hp; rfl
    have sm := sat.mem ok (FH.le.refl h) (Ext.append _ _) gT
    refine ⟨_, ok, ?_, ?_, sat.defers, sat.sz, ?_, gT⟩
    · intro t' G e ht
      rw [lkE_cons] at ht
      split at ht
      · rename_i hkt
        subst hkt; cases ht
        refine ⟨_, z1, fun _ => ⟨?_, rfl, rfl⟩, fun hh => by cases hh⟩
        refine ⟨.row (.slice none 0 0), ?_, rfl⟩
        have : lenL s.T = β.length := by rw [sat.ok.len, eff_len, lenL_eq]
        rw [this]; simp
      · exact sm.env t' G e ht
    · intro d i hi
      obtain ⟨hne, hi⟩ := lkG_rm _ _ _ _ hi
      obtain ⟨G, b, q1, q2⟩ := sat.gs d i hi
      exact ⟨G, b, by rw [lkE_cons, if_neg (Ne.symm hne)]; exact q1, q2⟩
    · intro t' G e ht
      rw [lkE_cons] at ht
      split at ht
      · cases ht; rfl
      · exact sat.gb _ _ _ ht
  · rename_i i hk
    split
    · rename_i t' hT
      refine ⟨β, ?_, sat.env, sat.gs, sat.defers, sat.sz, sat.gb, ?_⟩
      · show OK B h0 (eff s.gl (setL s.T i ([], .blk t' [.sl sh []]))) h β w
        rw [eff_set]
        refine sat.ok.reread (effres hT (show gv s.gl [] = true from rfl)) rfl fun v hv => ?_
        cases v with
        | blk b =>
          obtain ⟨ys, e1, al⟩ := hv
          refine ⟨ys, e1, ?_⟩
          cases ys with
          | nil => exact al.elim
          | cons y ys =>
            cases ys with
            | cons _ _ => exact al.2.elim
            | nil =>
              obtain ⟨⟨c, o⟩, _⟩ := al
              obtain rfl : y = .slice none 0 0 := c.1
              exact ⟨⟨.inl ⟨rfl, rfl⟩, o⟩, trivial⟩
        | row _ => exact hv.elim
        | deep _ _ => exact hv.elim
        | no => exact hv.elim
      · intro p hp
        rw [setL_eq] at hp
        rcases List.mem_or_eq_of_mem_set hp with hp | hp
        · exact sat.gT p hp
        · subst hp; rfl
    · exact ⟨β, sat⟩
  · exact ⟨β, sat⟩
theorem Sat.nilSt {N : Nat} {B : Base} {h0 : FH} {h : FH} {w : World} {a : Act} : ∀ (l : List (Nat × TypeId × Sh)) {s : St} {β : List RV}, Sat N B h0 s h β w a → ∃ β', Sat N B h0 (nilSt s l) h β' w a
  | [], s, β, sat => ⟨β, sat⟩
  | (k, t, sh) :: l, s, β, sat => by
    obtain ⟨β1, sat1⟩ := sat.nil1 k t sh
    exact Sat.nilSt l sat1
@[reducible] def loopK (body : St → (Exit → St → Prop) → Prop) (ws : List Nat) (la : LA) (s : St) (K : Exit → St → Prop) : Prop :=
  (∃ x, la.inv x ∧ hasE s (la.slots x) ∧ s.T = updT (la.res x) s.T) ∧
  ∀ x, la.inv x → match andB (goodT (lenL s.T) (updT (la.res x) s.T)) (goodS (lenL s.T) ws (la.slots x)) with
    | false => False
    | true => body (headSt ws s (la.slots x) (la.res x)) fun e s' => match e with
      | .normal => match hasR (canS la.can (swAll la.ren s')) (keepR (lenL s.T) ws [] s.env) with
        | true => ∃ x', la.inv x' ∧ hasE (canS la.can (swAll la.ren s')) (la.slots x') ∧ takeL (lenL s.T) (canS la.can (swAll la.ren s')).T = updT (la.res x') s.T ∧ la.meas x' < la.meas x
        | false => False
      | e => K e s'
@[reducible] def roundsK (body : St → (Exit → St → Prop) → Prop) : Nat → St → (Exit → St → Prop) → Prop
  | 0, _, _ => False
  | n + 1, s, K => body s fun e s' => match e with
    | .normal => roundsK body n s' K
    | e => K e s'
@[reducible] def annK (E : Env) (c : Code) (s : St) : Option Ann := match E.ann (keyOf c) with
  | some f => some (f s)
  | none => none
/-! What a loop's relation may ask of the state before it. -/
@[reducible] def slotI (s : St) (t : Nat) : Int := match lkE s.env t with
  | some (_, .one (.c (.v (.int _ n)))) => n
  | _ => 0
@[reducible] def slotB (s : St) (t : Nat) : Bool := match lkE s.env t with
  | some (_, .one (.c (.v (.bool b)))) => b
  | _ => false
@[reducible] def slotS (s : St) (t : Nat) : ByteArray := match lkE s.env t with
  | some (_, .one (.c (.v (.string b)))) => b
  | _ => ByteArray.empty
@[reducible] def slotL (sh : Sh) (s : St) (t : Nat) : List sh.den := match lkE s.env t with
  | some (_, .one v) => match srcD s sh v with
    | some l => l
    | none => []
  | _ => []
@[reducible] def slotD (sh : Sh) (s : St) (t : Nat) : sh.den := match lkE s.env t with
  | some (_, .one v) => match toDat sh v with
    | some d => d
    | none => dflt sh
  | _ => dflt sh
@[reducible] def slotO (sh : Sh) (s : St) (t : Nat) : sh.den := match lkE s.env t with
  | some (_, .one (.c (.own k _))) => match nthL s.T k with
    | some (_, r) => match resQ sh r with
      | some v => match toDat sh v with
        | some d => d
        | none => dflt sh
      | none => dflt sh
    | none => dflt sh
  | _ => dflt sh
@[reducible] def br (b : Bool) (X Y : Prop) : Prop := match b with
  | true => X
  | false => Y
theorem br_iff {b : Bool} {X Y : Prop} : br b X Y ↔ (b = true → X) ∧ (b = false → Y) := by cases b <;> simp [br]
@[reducible] def parE : (ps : List Nat) → (ss : List Sh) → dens ss → List (Nat × Gd × Ent)
  | p :: ps, s :: ss, d => (p, [], .one (ofDat s d.1)) :: parE ps ss d.2
  | _, _, _ => []
@[reducible] def parOK (n : Nat) : List Nat → List Sh → Bool
  | [], [] => true
  | p :: ps, _ :: ss => andB (andB (Nat.ble (p + 1) n) (!(memN p ps))) (parOK n ps ss)
  | _, _ => false
@[reducible] def rdE (ws dr : List Nat) (s : St) : List (Nat × Gd × Ent) := catL (slotE (keepR (lenL s.T) ws [] s.env)) (keepE dr [] s.env)
@[reducible] def rangeK (n : Nat) (body : St → (Exit → St → Prop) → Prop) (ws : List Nat) (ra : RA) (ps : List Nat) (ss : List Sh) (L : List (dens ss)) (s : St) (K : Exit → St → Prop) : Prop :=
  match parOK n ps ss with
  | false => False
  | true =>
  (∃ x, ra.inv 0 x ∧ s.T = updT (ra.res x) s.T) ∧
  (∀ i x d, ra.inv i x → L[i]? = some d → match goodT (lenL s.T) (updT (ra.res x) s.T) with
    | false => False
    | true => body { env := catL (parE ps ss d) (rdE ws (catL ra.drop ps) s), T := updT (ra.res x) s.T, gl := [], gs := [] } fun e s' => match hasR s' (keepR (lenL s.T) ws [] s.env) with
      | false => False
      | true => match e with
        | .normal => ∃ x', ra.inv (i + 1) x' ∧ takeL (lenL s.T) s'.T = updT (ra.res x') s.T
        | .ret => K .ret { env := rdE ws ra.drop s, T := s'.T, gl := s'.gl, gs := [] }
        | .exit j => K (.exit j) { env := rdE ws ra.drop s, T := s'.T, gl := s'.gl, gs := [] }
        | _ => False) ∧
  ∀ x, ra.inv (lenL L) x → match goodT (lenL s.T) (updT (ra.res x) s.T) with
    | false => False
    | true => K .normal { env := rdE ws ra.drop s, T := updT (ra.res x) s.T, gl := [], gs := [] }
@[reducible] def turnS (s : St) (frz : List Nat) (frzI : List Nat) (nl : List (Nat × TypeId × Sh)) (nilC : List (Nat × Nat × TypeId × Sh)) (dp : List (Nat × TypeId × Sh × Nat)) : St := deepAll (nilCs (nilSt (frzUs (frzSlots s frz) frzI) nl) nilC) dp
theorem Sat.turnS {N : Nat} {B : Base} {h0 : FH} {h : FH} {w : World} {a : Act} {s : St} {β : List RV} (sat : Sat N B h0 s h β w a) (frz frzI : List Nat) (nl : List (Nat × TypeId × Sh)) (nilC : List (Nat × Nat × TypeId × Sh)) (dp : List (Nat × TypeId × Sh × Nat)) : ∃ h' β', h.le h' ∧ Sat N B h0 (turnS s frz frzI nl nilC dp) h' β' w a := by
  obtain ⟨h1, le1, sat1⟩ := Sat.frzSlots frz sat
  obtain ⟨h2, β2, le2, sat2⟩ := Sat.frzUs (l := frzI) sat1
  obtain ⟨β3, sat3⟩ := Sat.nilSt nl sat2
  obtain ⟨β4, sat4⟩ := Sat.nilCs nilC sat3
  obtain ⟨β5, sat5⟩ := Sat.deepAll dp sat4
  exact ⟨h2, β5, le1.trans le2, sat5⟩
@[reducible] def padS : Nat → St → St
  | 0, s => s
  | n + 1, s => padS n { s with T := snoc s.T ([], .gone) }
theorem Sat.padS {N : Nat} {B : Base} {h0 : FH} {h : FH} {w : World} {a : Act} : ∀ (n : Nat) {s : St} {β : List RV}, Sat N B h0 s h β w a → ∃ β', Sat N B h0 (padS n s) h β' w a
  | 0, s, β, sat => ⟨β, sat⟩
  | n + 1, s, β, sat => by
    refine Sat.padS n (β := β ++ [.no]) (s := { s with T := snoc s.T ([], .gone) }) ?_
    refine sat.mem ?_ (FH.le.refl h) (Ext.append _ _) fun p hp => ?_
    · rw [eff_snoc]
      exact sat.ok.add (r := .gone) (v := .no) (grown_refl w none) (fun b hb => (has_no hb).elim) trivial
    · rw [snoc_eq, List.mem_append] at hp
      rcases hp with hp | hp
      · exact sat.gT p hp
      · simp at hp; subst hp; rfl
@[reducible] def cutA (E : Env) (c : Code) (s : St) : Option LA := match annK E c s with
  | some (.cut la) => some la
  | _ => none
@[reducible] def cutI (ws : List Nat) (la : LA) (s s' : St) : Prop := match hasR (canS la.can (swAll la.ren (turnS s' la.frz la.frzI la.nil la.nilC la.deep))) (keepR (lenL s.T) ws [] s.env) with
  | true => ∃ v, la.inv v ∧ hasE (canS la.can (swAll la.ren (turnS s' la.frz la.frzI la.nil la.nilC la.deep))) (la.slots v) ∧ takeL (lenL s.T) (canS la.can (swAll la.ren (turnS s' la.frz la.frzI la.nil la.nilC la.deep))).T = updT (la.res v) s.T
  | false => False
@[reducible] def codeK : Env → Code → St → (Exit → St → Prop) → Prop
  | E, .skip, s, K => K .normal s
  | E, .region _ ops draw, s, K => match ndL (tl ops) with
    | false => False
    | true => match draw with
      | false => opsI E (tl ops) (tl ops) s fun s => K .normal (clean s)
      | true => match mapAny E.cx (tl ops) with
        | true => match lexM ops with
          | true => opsM E (tl ops) (tl ops) s fun s => K .normal (clean s)
          | false => False
        | false => match ipAny E (tl ops) with
          | true => match drawOrd0 ops with
            | some l => itreeK E (tl ops) l s fun s => K .normal (clean s)
            | none => False
          | false => match drawOrd ops with
            | some l => treeK E (tl ops) l s fun s => K .normal (clean s)
            | none => False
  | E, .seq x y, s, K => match cutA E y s with
    | some la => (codeK E x (padS la.pad s) fun e s' => match e with
        | .normal => cutI (catL la.drop (writes x)) la (padS la.pad s) s'
        | e => K e s') ∧ ∀ v, la.inv v → match andB (goodT (lenL (padS la.pad s).T) (updT (la.res v) (padS la.pad s).T)) (goodS (lenL (padS la.pad s).T) (catL la.drop (writes x)) (la.slots v)) with
          | false => False
          | true => codeK E y (headSt (catL la.drop (writes x)) (padS la.pad s) (la.slots v) (la.res v)) K
    | none => codeK E x s fun e s' => match e with
      | .normal => codeK E y s' K
      | e => K e s'
  | E, .cond c x y, s, K => match getE E.cx s [] c with
    | some (.one (.c (.v (.bool b)))) => br b (codeK E x s K) (codeK E y s K)
    | _ => False
  | E, .block id c, s, K => codeK E c s fun e s' => match e with
    | .exit i => match Nat.beq i id with
      | true => K .normal s'
      | false => K (.exit i) s'
    | e => K e s'
  | E, .loop c, s, K => match annK E c s with
    | some (.inv la) => loopK (codeK E c) (catL la.drop (writes c)) la (padS la.pad (turnS s la.frz la.frzI la.nil la.nilC la.deep)) K
    | some (.unroll n) => roundsK (codeK E c) n s K
    | _ => False
  | E, .rangeFunc g ps asg c, s, K => match E.rd with
    | true => False
    | false => match getE E.cx s [] g with
      | some (.one (.c (.abs (.seq P' ss L)))) => match annK E c s with
        | some (.rng ra) => E.P = some P' ∧ rangeK E.n (fun s K => codeK { E with rd := true } asg s fun e s' => match e with
          | .normal => codeK { E with rd := true } c s' K
          | _ => False) (catL ra.drop (catL (tl ps) (catL (writes asg) (writes c)))) ra (tl ps) ss L (turnS s ra.frz ra.frzI ra.nil ra.nilC ra.deep) K
        | _ => False
      | _ => False
  | E, .exit i, s, K => K (.exit i) s
  | E, .ret, s, K => K .ret s
  | _, _, _, _ => False
end Go.Eng
set_option linter.unusedSimpArgs false
set_option linter.unusedVariables false
namespace Go.Eng
open Go Go.RowKit
@[reducible] def markOf (D : Nat) : Deferred := { target := .collected D, args := #[] }
theorem gs_loop (w : World) (a b : Obj) (G : Nat → Prop) : Gs G w ((w.alloc a).alloc b) :=
  ⟨rfl, rfl, rfl, by simp; omega, Nat.le_refl _, fun k hk _ => by
    rw [Below.heap_alloc _ _ _ (by simp; omega), Below.heap_alloc _ _ _ hk]⟩
def roundQ (A : World) (l D : Nat) (G : Nat → Prop) (I : World → Prop) (Ix : Code → World → Prop) : Exit → Act → World → Prop
  | .normal, _, A' => (∀ b, b = l ∨ b = D ∨ G b → A'.heap[b]? = A.heap[b]?) ∧ I A'
  | .ret, _, A' => (∀ b, b = l ∨ b = D ∨ G b → A'.heap[b]? = A.heap[b]?) ∧ Ix .ret A'
  | .exit id, _, A' => (∀ b, b = l ∨ b = D ∨ G b → A'.heap[b]? = A.heap[b]?) ∧ Ix (.exit id) A'
  | .goto t, _, _ => False
  | .panic _, _, _ => False
  | .outgrown, _, _ => False
theorem range_law {P : Program} {h : FH} {ss : List Sh} {L : List (dens ss)} {g : Operand} {ps : Array Tmp} {asg body : Code} {Q : Exit → Act → World → Prop} {a : Act} {w : World} {n : Nat}
    (gv : Gives P h ss L (a.eval g)) (hps : ps.size = ss.length)
    (I : Nat → (Nat → Prop) → World → Prop) (Ix : Code → (Nat → Prop) → World → Prop) (hI : ∀ i G A, I i G A → HW h A) (hX : ∀ c G A, Ix c G A → HW h A)
    (hIg : ∀ i G G' A A', I i G A → Gs G A A' → Own' G G' A A' → I i G' A') (hXg : ∀ c G G' A A', Ix c G A → Gs G A A' → Own' G G' A A' → Ix c G' A')
    (hIp : ∀ i G A l o o', I i G A → w.heap.size ≤ l → A.heap[l]? = some o → ours o = false → I i G (A.putObj l o'))
    (hXp : ∀ c G A l o o', Ix c G A → w.heap.size ≤ l → A.heap[l]? = some o → ours o = false → Ix c G (A.putObj l o'))
    (h0 : I 0 (fun _ => False) w)
    (hbody : ∀ (i : Nat) (d : dens ss) (vs : List Value) (G : Nat → Prop) (A : World) (l : Nat) (o1 o1' o2 : Obj), L[i]? = some d → DVs h ss d vs → I i G A → w.heap.size < l → A.heap[l]? = some o1 → ours o1 = false → ours o1' = false → A.heap[w.heap.size]? = some o2 → ours o2 = false → ¬ G l →
      asg.wpIn (Fence.wide.inRound l) 0 P (Exit.then (fun a1 A1 => (∀ b, b = l ∨ b = w.heap.size ∨ G b → A1.heap[b]? = A.heap[b]?) ∧
        body.wpIn (Fence.wide.inRound l) 0 P (roundQ (A1.putObj l o1') l w.heap.size G (I (i + 1) G) (fun c => Ix c G)) a1 (A1.putObj l o1')) (fun _ _ _ => False)) { tmps := (ps.zip vs.toArray).foldl (fun t (p, v) => t.setIfInBounds p v) a.tmps, defers := [] } A)
    (hdone : ∀ G A, I L.length G A → A.heap[w.heap.size]? = some (.deferred (some [])) → Q .normal { a with defers := markOf w.heap.size :: a.defers } A)
    (hret : ∀ G A, Ix .ret G A → A.heap[w.heap.size]? = some (.deferred (some [])) → Q .ret { a with defers := markOf w.heap.size :: a.defers } A)
    (hexit : ∀ j G A, Ix (.exit j) G A → A.heap[w.heap.size]? = some (.deferred (some [])) → Q (.exit j) { a with defers := markOf w.heap.size :: a.defers } A) :
    (Code.rangeFunc g ps asg body).wpIn Fence.wide n P Q a w := by
  refine wpIn_rangeFunc fun fn hfn => ?_
  obtain ⟨gf, lb, hg, ⟨fng, hfg, hbg, hng⟩, gives⟩ := gv
  obtain ⟨rec, hrec⟩ : ∃ rec : LoopState → Option Code → Loop, rec = fun st pe => { state := st, pending := pe, fn, tmps := a.tmps, params := ps, assign := asg, body, defers := w.heap.size } := ⟨_, rfl⟩
  obtain ⟨W1, hW1⟩ : ∃ W1, (w.alloc (.deferred (some []))).alloc (.loop (rec .ready none)) = W1 := ⟨_, rfl⟩
  have hL1 : W1.heap[w.heap.size + 1]? = some (.loop (rec .ready none)) := by
    rw [← hW1]; have := World.alloc_heap_new (w.alloc (.deferred (some []))) (.loop (rec .ready none)); rwa [World.size_alloc] at this
  have hD1 : W1.heap[w.heap.size]? = some (.deferred (some [])) := by
    rw [← hW1]; exact (Below.heap_alloc _ _ _ (by simp)).trans (World.alloc_heap_new w _)
  have hI1 : I 0 (fun _ => False) W1 := hIg 0 _ _ _ _ h0 (by rw [← hW1]; exact gs_loop w _ _ _) (fun b hb => hb.elim)
  have kd : ∀ {G G' : Nat → Prop} {A A' : World} {k : Nat} {o : Obj}, A.heap[k]? = some o → ¬ G k → Gs G A A' → Own' G G' A A' → A'.heap[k]? = some o ∧ ¬ G' k := fun hk hn hgs ho =>
    ⟨(hgs.block _ (Array.getElem?_eq_some_iff.1 hk).1 hn).trans hk, fun hh => by
      have h1 := (Array.getElem?_eq_some_iff.1 hk).1
      rcases (ho _ hh).2 with h2 | h2
      · exact hn h2
      · omega⟩
  refine ⟨w.heap.size + 1, [markOf w.heap.size], W1, { target := .fn (.func gf) lb, args := #[.func (.yield (w.heap.size + 1)) #[] #[]] }, W1, gf,
    #[.func (.yield (w.heap.size + 1)) #[] #[]] ++ lb, W1, ?_, ?_, ?_, ?_, fun hh => (by cases hh), ?_⟩
  · rw [← hW1, hrec]; exact run_enterLoop_outer _ _ _ _ _
  · simp only [resolve, hg]
    simp [go_sem]
  · intro f' hf'; trivial
  · have e : (callFunc gf (#[.func (.yield (w.heap.size + 1)) #[] #[]] ++ lb)).run P W1 = .ok (.enter gf (#[.func (.yield (w.heap.size + 1)) #[] #[]] ++ lb)) W1 := by
      simp only [callFunc, Sem.run_bind, run_program, Result.andThen_ok, hfg, hng]
      simp [hbg]
      cases hb : fng.body with
      | none => rw [hb] at hbg; cases hbg
      | some _ => simp
    simp [invoke, go_sem, e]
  · have hc := gives (w.heap.size + 1)
      (fun i G A => match i with
        | some i => I i G A ∧ (A.heap[w.heap.size + 1]? = some (.loop (rec .ready none)) ∧ ¬ G (w.heap.size + 1)) ∧ (A.heap[w.heap.size]? = some (.deferred (some [])) ∧ ¬ G w.heap.size)
        | none => ∃ c, (c = .ret ∨ ∃ j, c = .exit j) ∧ Ix c G A ∧ (A.heap[w.heap.size + 1]? = some (.loop (rec .done (some c))) ∧ ¬ G (w.heap.size + 1)) ∧ (A.heap[w.heap.size]? = some (.deferred (some [])) ∧ ¬ G w.heap.size)) W1
      (fun i G A x => by
        cases i with
        | some i => exact hI i G A x.1
        | none => obtain ⟨c, _, x1, _⟩ := x; exact hX c G A x1)
      (fun i G G' A A' x hgs ho => by
        cases i with
        | some i => exact ⟨hIg i _ _ _ _ x.1 hgs ho, kd x.2.1.1 x.2.1.2 hgs ho, kd x.2.2.1 x.2.2.2 hgs ho⟩
        | none =>
          obtain ⟨c, hc, x1, x2, x3⟩ := x
          exact ⟨c, hc, hXg c _ _ _ _ x1 hgs ho, kd x2.1 x2.2 hgs ho, kd x3.1 x3.2 hgs ho⟩)
      (fun i d vs G A hd hv x => by
        obtain ⟨x1, ⟨x2, y2n⟩, x3, y3n⟩ := x
        have hlt : w.heap.size + 1 < A.heap.size := (Array.getElem?_eq_some_iff.1 x2).1
        have hvl : vs.length = ss.length := by
          have : ∀ {ss : List Sh} {d : dens ss} {vs : List Value}, DVs h ss d vs → vs.length = ss.length := by
            intro ss
            induction ss with
            | nil => intro d vs x; cases vs with | nil => rfl | cons _ _ => exact x.elim
            | cons s l ih => intro d vs x; cases vs with | nil => exact x.elim | cons v vs => simp [ih x.2]
          exact this hv
        have hy := run_yield (P := P) (args := vs.toArray) x2 (by rw [hrec]; simp [hps, hvl])
        rw [hrec] at hy
        refine ⟨fn, _, asg, body, hy, (roundIn_of_wpIn (F := Fence.wide) (n := 0) trivial ?_ : RoundIn Fence.wide _ P _ _ _ _ _ _ _)⟩
        refine wpIn_mono (hbody i d vs G A (w.heap.size + 1) _ (.loop { rec .ready none with state := .busy }) _ hd hv x1 (by omega) x2 rfl rfl x3 rfl y2n) ?_
        intro e0 a1 A1 h1
        cases e0 with
        | exit j => exact h1
        | goto j => exact h1
        | ret => exact h1
        | panic c => exact h1
        | outgrown => exact h1
        | normal =>
        obtain ⟨k1, h1⟩ := h1
        have z2 : A1.heap[w.heap.size + 1]? = some (.loop (rec .ready none)) := (k1 _ (.inl rfl)).trans x2
        have z3 : A1.heap[w.heap.size]? = some (.deferred (some [])) := (k1 _ (.inr (.inl rfl))).trans x3
        have hlt1 : w.heap.size + 1 < A1.heap.size := (Array.getElem?_eq_some_iff.1 z2).1
        refine ⟨_, run_beginRound z2 (by rw [hrec]), ?_⟩
        have y2 : (A1.putObj (w.heap.size + 1) (.loop { rec .ready none with state := .busy })).heap[w.heap.size + 1]? = some (.loop { rec .ready none with state := .busy }) := World.putObj_heap_same hlt1
        have y3 : (A1.putObj (w.heap.size + 1) (.loop { rec .ready none with state := .busy })).heap[w.heap.size]? = some (.deferred (some [])) := (World.putObj_heap_other (by omega)).trans z3
        have fin : ∀ (jump : Option Code) (A3 : World), A3.heap[w.heap.size + 1]? = some (.loop { rec .ready none with state := .busy }) → A3.heap[w.heap.size]? = some (.deferred (some [])) →
            (Instr.endRound (w.heap.size + 1) jump).run P A3 = .ok (.bool jump.isNone) (A3.putObj (w.heap.size + 1) (.loop (rec (if jump.isNone then .ready else .done) jump))) ∧
            (A3.putObj (w.heap.size + 1) (.loop (rec (if jump.isNone then .ready else .done) jump))).heap[w.heap.size + 1]? = some (.loop (rec (if jump.isNone then .ready else .done) jump)) ∧
            (A3.putObj (w.heap.size + 1) (.loop (rec (if jump.isNone then .ready else .done) jump))).heap[w.heap.size]? = some (.deferred (some [])) := fun jump A3 h3 h4 => by
          have := run_endRound (P := P) jump h3
          rw [hrec] at this ⊢
          exact ⟨this, World.putObj_heap_same (Array.getElem?_eq_some_iff.1 h3).1, (World.putObj_heap_other (by omega)).trans h4⟩
        have kg : ∀ (A3 : World) (o' : Obj), (∀ b, b = w.heap.size + 1 ∨ b = w.heap.size ∨ G b → A3.heap[b]? = (A1.putObj (w.heap.size + 1) (.loop { rec .ready none with state := .busy })).heap[b]?) → ∀ b, G b → (A3.putObj (w.heap.size + 1) o').heap[b]? = A.heap[b]? := by
          intro A3 o' hk b hb
          have hne : b ≠ w.heap.size + 1 := by rintro rfl; exact y2n hb
          rw [World.putObj_heap_other hne, hk b (.inr (.inr hb)), World.putObj_heap_other hne, k1 b (.inr (.inr hb))]
        refine wpIn_mono h1 ?_
        rintro e a3 A3 hp
        cases e with
        | normal =>
          obtain ⟨p0, p3⟩ := hp
          have p1 := p0 _ (.inl rfl)
          have p2 := p0 _ (.inr (.inl rfl))
          rw [y2] at p1; rw [y3] at p2
          obtain ⟨q1, q2, q3⟩ := fin none A3 p1 p2
          exact ⟨_, _, q1, kg A3 _ p0, .inl ⟨rfl, hIp _ _ _ _ _ _ p3 (by omega) p1 rfl, ⟨q2, y2n⟩, q3, y3n⟩⟩
        | ret =>
          obtain ⟨p0, p3⟩ := hp
          have p1 := p0 _ (.inl rfl)
          have p2 := p0 _ (.inr (.inl rfl))
          rw [y2] at p1; rw [y3] at p2
          obtain ⟨q1, q2, q3⟩ := fin (some .ret) A3 p1 p2
          exact ⟨_, _, q1, kg A3 _ p0, .inr ⟨rfl, .ret, .inl rfl, hXp _ _ _ _ _ _ p3 (by omega) p1 rfl, ⟨q2, y2n⟩, q3, y3n⟩⟩
        | exit id =>
          obtain ⟨p0, p3⟩ := hp
          have p1 := p0 _ (.inl rfl)
          have p2 := p0 _ (.inr (.inl rfl))
          rw [y2] at p1; rw [y3] at p2
          obtain ⟨q1, q2, q3⟩ := fin (some (.exit id)) A3 p1 p2
          exact ⟨_, _, q1, kg A3 _ p0, .inr ⟨rfl, .exit id, .inr ⟨id, rfl⟩, hXp _ _ _ _ _ _ p3 (by omega) p1 rfl, ⟨q2, y2n⟩, q3, y3n⟩⟩
        | goto t => exact hp.elim
        | panic ch => exact hp.elim
        | outgrown => exact hp.elim)
      ⟨hI1, ⟨hL1, fun hh => hh⟩, hD1, fun hh => hh⟩
    refine CallsIn.mono (F := Fence.wide) (n := n - 1) (callsIn_wide.2 (callsIn_wide.1 hc)) ?_
    rintro e W2 ⟨⟨v, rfl⟩, G, hJ⟩
    rcases hJ with ⟨x1, ⟨x2, _⟩, x3, _⟩ | ⟨c, hc, x1, ⟨x2, _⟩, x3, _⟩
    · refine ⟨none, _, by have := run_endLoop (P := P) x2 (by rw [hrec]; simp); rw [hrec] at this; exact this, ?_⟩
      exact hdone G _ (hIp _ _ _ _ _ _ x1 (by omega) x2 rfl) ((World.putObj_heap_other (by omega)).trans x3)
    · refine ⟨some c, _, by have := run_endLoop (P := P) x2 (by rw [hrec]; simp); rw [hrec] at this; exact this, ?_⟩
      have y1 := hXp _ _ _ _ _ (.loop { rec .done (some c) with state := .exhausted }) x1 (show w.heap.size ≤ w.heap.size + 1 by omega) x2 rfl
      have y3 : (W2.putObj (w.heap.size + 1) (.loop { rec .done (some c) with state := .exhausted })).heap[w.heap.size]? = some (.deferred (some [])) := (World.putObj_heap_other (by omega)).trans x3
      rw [hrec] at y1 y3
      rcases hc with rfl | ⟨j, rfl⟩
      · exact wpIn_ret (hret G _ y1 y3)
      · exact wpIn_exit (hexit _ G _ y1 y3)
end Go.Eng
