/- Texts of this claim, part 3: EngDp, EngTl, EngAp, EngBr, EngWg, EngMp. Conditions: those of the given rows. -/
import Derived.Test.YtklnffdjhoacoaaDoorB2
import Derived.LoopNIn
import Derived.Deep.LoopGhost
import Derived.Laws.IdiomRangeMap
set_option linter.unusedSimpArgs false
set_option linter.unusedVariables false
namespace Go.Eng
open Go Go.RowKit
/-! What speaks of rows in elements is forgotten. -/
@[reducible] def SC.freeS (i : Nat) : SC → Bool
  | .sub j _ => !Nat.beq i j
  | .subp j _ _ _ _ => !Nat.beq i j
  | _ => true
@[reducible] def jsC (i : Nat) (x : SC) : SC := match SC.freeS i x with
  | true => x
  | false => .junk
@[reducible] def mV (f : SC → SC) : SV → SV
  | .c x => .c (f x)
  | .agg xs => .agg (mapL f xs)
  | v => v
@[reducible] def mE (f : SC → SC) : Ent → Ent
  | .one v => .one (mV f v)
  | .tup vs => .tup (mapL (mV f) vs)
@[reducible] def mR (f : SC → SC) : Res → Res
  | .blk t cs => .blk t (mapL f cs)
  | r => r
@[reducible] def mEnv (f : SC → SC) : List (Nat × Gd × Ent) → List (Nat × Gd × Ent)
  | [] => []
  | (k, g, e) :: l => (k, g, mE f e) :: mEnv f l
@[reducible] def mT (f : SC → SC) : List (Gd × Res) → List (Gd × Res)
  | [] => []
  | (g, r) :: l => (g, mR f r) :: mT f l
theorem all2_map {R R' : SC → Value → Prop} {f : SC → SC} (hR : ∀ x y, R x y → R' (f x) y) : ∀ {xs : List SC} {ys : List Value}, All2 (fun x y => R x y ∧ oneC y) xs ys → All2 (fun x y => R' x y ∧ oneC y) (mapL f xs) ys
  | [], [], _ => trivial
  | _ :: _, _ :: _, ⟨a, b⟩ => ⟨⟨hR _ _ a.1, a.2⟩, all2_map hR b⟩
theorem CnV.map {h h' : FH} {β β' : List RV} {f : SC → SC} (le : h.le h') (hR : ∀ x y, CnC h β x y → CnC h' β' (f x) y) : ∀ {x : SV} {y : Value}, CnV h β x y → CnV h' β' (mV f x) y
  | .c _, _, c => ⟨hR _ _ c.1, c.2⟩
  | .agg _, _, ⟨ys, e, a⟩ => ⟨ys, e, all2_map hR a⟩
  | .dat s _, _, ⟨g, cs, e, r⟩ => ⟨g, cs, e, r.mono le s⟩
  | .und, _, c => c
theorem CnE.map {h h' : FH} {β β' : List RV} {f : SC → SC} (le : h.le h') (hR : ∀ x y, CnC h β x y → CnC h' β' (f x) y) : ∀ {x : Ent} {y : Value}, CnE h β x y → CnE h' β' (mE f x) y
  | .one _, _, c => CnV.map le hR c
  | .tup _, _, ⟨ys, e, a⟩ => ⟨ys, e, go a⟩
where
  go : ∀ {xs : List SV} {ys : List Value}, All2 (CnV h β) xs ys → All2 (CnV h' β') (mapL (mV f) xs) ys
    | [], [], _ => trivial
    | _ :: _, _ :: _, ⟨a, b⟩ => ⟨CnV.map le hR a, go b⟩
theorem Holds.map {h h' : FH} {β β' : List RV} {w w' : World} {f : SC → SC} (le : h.le h') (hR : ∀ x y, CnC h β x y → CnC h' β' (f x) y) : ∀ {r : Res} {v : RV}, Holds h β w r v → (r.live = true → ∀ b, v.has b → w'.heap[b]? = w.heap[b]?) → Holds h' β' w' (mR f r) v
  | .blk _ _, .blk b, ⟨ys, e, a⟩, k => ⟨ys, by rw [k rfl b (has_blk.2 rfl)]; exact e, all2_map hR a⟩
  | .row _ _ _, .row v, x, k => RowH.move le x fun b hb => k rfl b (has_row.2 hb)
  | .obj _ s _, .blk b, ⟨ys, e, r⟩, k => ⟨ys, by rw [k rfl b (has_blk.2 rfl)]; exact e, r.mono le s⟩
  | .deep _ _ _ _ _ _ _ _, .deep _ _, x, k => DeepH.move le x (k rfl)
  | .mp k' s l, .row v, x, k => Holds.move (r := .mp k' s l) (v := .row v) (β' := β') (β := β') le (Ext.refl _) x k
  | .mpo k' s l n, .deep v us, x, k => Holds.move (r := .mpo k' s l n) (v := .deep v us) (β' := β') (β := β') le (Ext.refl _) x k
  | .it k' s l dn, .blk v, x, k => Holds.move (r := .it k' s l dn) (v := .blk v) (β' := β') (β := β') le (Ext.refl _) x k
  | .tlr _ _ _ _, .row v, x, k => TlH.move x fun b hb => k rfl b (has_row.2 hb)
  | .gone, _, _, _ => trivial
theorem mR_live (f : SC → SC) (r : Res) : (mR f r).live = r.live := by cases r <;> rfl
theorem lkE_m {f : SC → SC} : ∀ {l : List (Nat × Gd × Ent)} {t : Nat} {G : Gd} {e : Ent}, lkE (mEnv f l) t = some (G, e) → ∃ e0, lkE l t = some (G, e0) ∧ e = mE f e0
  | [], _, _, _, h => by simp [mEnv, lkE] at h
  | (k, g, e0) :: l, t, G, e, h => by
    simp only [mEnv] at h
    rw [lkE_cons] at h ⊢
    split at h
    · rename_i hk; cases h; exact ⟨e0, by rw [if_pos hk], rfl⟩
    · rename_i hk; rw [if_neg hk]; exact lkE_m h
theorem lkE_m' {f : SC → SC} : ∀ {l : List (Nat × Gd × Ent)} {t : Nat} {G : Gd} {e : Ent}, lkE l t = some (G, e) → lkE (mEnv f l) t = some (G, mE f e)
  | [], _, _, _, h => by simp [lkE] at h
  | (k, g, e0) :: l, t, G, e, h => by
    simp only [mEnv]
    rw [lkE_cons] at h ⊢
    split at h
    · rename_i hk; cases h; rw [if_pos hk]
    · rename_i hk; rw [if_neg hk]; exact lkE_m' h
theorem eff_m (gl : List Bool) (f : SC → SC) : ∀ {T : List (Gd × Res)}, eff gl (mT f T) = (eff gl T).map (mR f)
  | [] => rfl
  | (g, r) :: l => by
    simp only [mT, eff, List.map_cons, eff_m gl f (T := l)]
    congr 1
    cases gv gl g <;> rfl
theorem mT_gd {f : SC → SC} {p : Gd × Res} : ∀ {T : List (Gd × Res)}, p ∈ mT f T → ∃ q ∈ T, q.1 = p.1
  | [], h => by simp [mT] at h
  | (g, r) :: t, h => by
    simp only [mT, List.mem_cons] at h
    rcases h with rfl | h
    · exact ⟨(g, r), by simp, rfl⟩
    · obtain ⟨q, h1, h2⟩ := mT_gd h; exact ⟨q, by simp [h1], h2⟩
section
variable {cx : Cx} {P : Program} {N : Nat} {B : Base} {h0 : FH} {s : St} {h : FH} {β : List RV} {w : World} {a : Act} {o : Oper} {K : St → Prop}
theorem Sat.map (sat : Sat N B h0 s h β w a) {f : SC → SC} {T' : List (Gd × Res)} {h' : FH} {β' : List RV} {w' : World} (le : h.le h') (hf : ∀ b, f (.v (.bool b)) = .v (.bool b)) (hR : ∀ x y, CnC h β x y → CnC h' β' (f x) y)
    (ok : OK B h0 (eff s.gl T') h' β' w') (gT : ∀ p ∈ T', gbd s.gl.length p.1 = true) : Sat N B h0 { s with T := T', env := mEnv f s.env } h' β' w' a := by
  refine ⟨ok, ?_, ?_, sat.defers, sat.sz, ?_, gT⟩
  · intro t G e ht
    obtain ⟨e0, h1, rfl⟩ := lkE_m ht
    obtain ⟨z, q1, q2, q3⟩ := sat.env t G e0 h1
    exact ⟨z, q1, fun hG => CnE.map le hR (q2 hG), q3⟩
  · intro d i hi
    obtain ⟨G, b, q1, q2⟩ := sat.gs d i hi
    have := lkE_m' (f := f) q1
    simp only [mE, mV, hf] at this
    exact ⟨G, b, this, q2⟩
  · intro t G e ht
    obtain ⟨e0, h1, rfl⟩ := lkE_m ht
    exact sat.gb t G e0 h1
theorem set_get {β : List RV} {i j : Nat} {u v : RV} (hu : β[i]? = some u) : (β.set i v)[j]? = if j = i then some v else β[j]? := by
  by_cases hj : j = i
  · subst hj
    rw [if_pos rfl, List.getElem?_set_self (List.getElem?_eq_some_iff.1 hu).1]
  · rw [if_neg hj, List.getElem?_set_ne (Ne.symm hj)]
theorem beqT {i j : Nat} (h : (!Nat.beq i j) = true) : j ≠ i := by
  rintro rfl; simp at h
theorem CnC.js {h : FH} {β : List RV} {i : Nat} {v : Value} {us us' : Nat → Value} {u : RV} (hu : β[i]? = some u) (hd : u = .deep v us ∨ u = .row v) {x : SC} {y : Value} (c : CnC h β x y) : CnC h (β.set i (.deep v us')) (jsC i x) y := by
  have hsl : u.sl = some v := by rcases hd with rfl | rfl <;> rfl
  have hbl : u.block = (RV.deep v us').block := by rcases hd with rfl | rfl <;> rfl
  have nb : ∀ b, u ≠ .blk b := by rcases hd with rfl | rfl <;> intro b e <;> cases e
  unfold jsC
  split
  · rename_i hf
    cases x with
    | v _ => exact c
    | sl _ _ => exact c
    | fp _ _ => exact c
    | one _ _ => exact c
    | abs _ => exact c
    | junk => trivial
    | own j off =>
      obtain ⟨b, e, e'⟩ := c
      refine ⟨b, ?_, e'⟩
      rw [set_get hu, if_neg]
      · exact e
      · rintro rfl; rw [hu] at e; cases e; exact nb b rfl
    | row j =>
      obtain ⟨z, e, e'⟩ := c
      by_cases hj : j = i
      · subst hj
        rw [hu] at e; cases e
        exact ⟨.deep v us', by rw [set_get hu, if_pos rfl], by rw [hsl] at e'; exact e'⟩
      · exact ⟨z, by rw [set_get hu, if_neg hj]; exact e, e'⟩
    | rowp j k sz off =>
      obtain ⟨z, g, e, e', e2⟩ := c
      by_cases hj : j = i
      · subst hj
        rw [hu] at e; cases e
        exact ⟨.deep v us', g, by rw [set_get hu, if_pos rfl], by rw [← hbl]; exact e', e2⟩
      · exact ⟨z, g, by rw [set_get hu, if_neg hj]; exact e, e', e2⟩
    | sub j k =>
      obtain ⟨z, us2, e, e'⟩ := c
      exact ⟨z, us2, by rw [set_get hu, if_neg (beqT hf)]; exact e, e'⟩
    | subp j k m sz off =>
      obtain ⟨z, us2, g, e, e'⟩ := c
      exact ⟨z, us2, g, by rw [set_get hu, if_neg (beqT hf)]; exact e, e'⟩
  · trivial
theorem OK.upd3 {T : List Res} (ok : OK B h0 T h β w) {w' : World} {i : Nat} {r r' : Res} {u v : RV} {f : SC → SC}
    (hT : T[i]? = some r) (hl : r.live = true) (hu : β[i]? = some u) {row : Option Nat} (hg : Gb w w' row) (hrow : ∀ k, row = some k → u.has k) {X : Nat → Prop}
    (hX : ∀ b, X b → B.al b ∧ b < w.heap.size ∧ (∀ o, h b o = none) ∧ ∀ (j : Nat) (rj : Res) (vj : RV), j ≠ i → T[j]? = some rj → rj.live = true → β[j]? = some vj → ¬ vj.has b)
    (hv : ∀ b, v.has b → u.has b ∨ X b ∨ (w.heap.size ≤ b ∧ b < w'.heap.size)) (hC : ∀ x y, CnC h β x y → CnC h (β.set i v) (f x) y) (hold : Holds h (β.set i v) w' r' v) :
    OK B h0 ((T.map (mR f)).set i r') h (β.set i v) w' := by
  have hi : i < T.length := (List.getElem?_eq_some_iff.1 hT).1
  have hi' : i < β.length := by rw [ok.len]; exact hi
  have own_i : ∀ b, u.has b → B.al b ∧ b < w.heap.size ∧ ∀ o, h b o = none := fun b hb => ok.own i r u b hT hl hu hb
  have nf : ∀ b, w.heap.size ≤ b → ∀ o, h b o = none := by
    intro b hb o
    cases hh : h b o with
    | none => rfl
    | some x => have := vis_lt (ok.hw b o x hh); omega
  have own_v : ∀ b, v.has b → B.al b ∧ b < w'.heap.size ∧ ∀ o, h b o = none := by
    intro b hb
    rcases hv b hb with hb' | hb' | ⟨h1, h2⟩
    · obtain ⟨a1, a2, a3⟩ := own_i b hb'
      exact ⟨a1, Nat.lt_of_lt_of_le a2 hg.size, a3⟩
    · obtain ⟨a1, a2, a3, _⟩ := hX b hb'
      exact ⟨a1, Nat.lt_of_lt_of_le a2 hg.size, a3⟩
    · exact ⟨B.up _ (Nat.le_trans ok.below.size h1), h2, nf b h1⟩
  have apart : ∀ j rj vj b, j ≠ i → T[j]? = some rj → rj.live = true → β[j]? = some vj → vj.has b → v.has b → False := by
    intro j rj vj b hj ej lj ej' hb hb2
    rcases hv b hb2 with hb' | hb' | ⟨h1, h2⟩
    · exact hj (ok.inj j i rj r vj u b ej lj hT hl ej' hu hb hb')
    · exact (hX b hb').2.2.2 j rj vj hj ej lj ej' hb
    · have := (ok.own j rj vj b ej lj ej' hb).2.1; omega
  have get : ∀ {j : Nat} {rj : Res}, j ≠ i → ((T.map (mR f)).set i r')[j]? = some rj → ∃ r0, T[j]? = some r0 ∧ rj = mR f r0 := by
    intro j rj hj e
    rw [List.getElem?_set_ne (Ne.symm hj), List.getElem?_map] at e
    cases hh : T[j]? with
    | none => rw [hh] at e; cases e
    | some r0 => rw [hh] at e; cases e; exact ⟨r0, rfl, rfl⟩
  exact {
    below := ok.below.grown hg.togrownBy fun k e => (own_i k (hrow k e)).1
    dr := Nat.le_trans ok.dr hg.dr
    len := by simp [ok.len]
    holds := by
      intro j rj vj ej ej'
      by_cases hj : j = i
      · subst hj
        rw [List.getElem?_set_self (by simpa using hi)] at ej
        rw [List.getElem?_set_self hi'] at ej'
        cases ej; cases ej'; exact hold
      · obtain ⟨r0, e0, rfl⟩ := get hj ej
        rw [List.getElem?_set_ne (Ne.symm hj)] at ej'
        refine (ok.holds j r0 vj e0 ej').map (FH.le.refl h) hC fun hlj b hb => hg.block b (ok.own j r0 vj b e0 hlj ej' hb).2.1 fun e => hj ?_
        exact ok.inj j i r0 r vj u b e0 hlj hT hl ej' hu hb (hrow b e.symm)
    own := by
      intro j rj vj b ej hlj ej' hb
      by_cases hj : j = i
      · subst hj
        rw [List.getElem?_set_self hi'] at ej'
        cases ej'; exact own_v b hb
      · obtain ⟨r0, e0, rfl⟩ := get hj ej
        rw [List.getElem?_set_ne (Ne.symm hj)] at ej'
        obtain ⟨a1, a2, a3⟩ := ok.own j r0 vj b e0 (by rw [← mR_live f]; exact hlj) ej' hb
        exact ⟨a1, Nat.lt_of_lt_of_le a2 hg.size, a3⟩
    inj := by
      intro j k r1 r2 u1 u2 b e1 l1 e2 l2 e3 e4 b1 b2
      by_cases hj : j = i <;> by_cases hk : k = i
      · rw [hj, hk]
      · exfalso
        subst hj
        rw [List.getElem?_set_self hi'] at e3; cases e3
        obtain ⟨r0, e0, rfl⟩ := get hk e2
        rw [List.getElem?_set_ne (Ne.symm hk)] at e4
        exact apart k r0 u2 b hk e0 (by rw [← mR_live f]; exact l2) e4 b2 b1
      · exfalso
        subst hk
        rw [List.getElem?_set_self hi'] at e4; cases e4
        obtain ⟨r0, e0, rfl⟩ := get hj e1
        rw [List.getElem?_set_ne (Ne.symm hj)] at e3
        exact apart j r0 u1 b hj e0 (by rw [← mR_live f]; exact l1) e3 b1 b2
      · obtain ⟨r0, e0, rfl⟩ := get hj e1
        obtain ⟨r0', e0', rfl⟩ := get hk e2
        rw [List.getElem?_set_ne (Ne.symm hj)] at e3
        rw [List.getElem?_set_ne (Ne.symm hk)] at e4
        exact ok.inj j k r0 r0' u1 u2 b e0 (by rw [← mR_live f]; exact l1) e0' (by rw [← mR_live f]; exact l2) e3 e4 b1 b2
    hle := ok.hle
    hw := frozen_kept ok.hw hg fun k e => (own_i k (hrow k e)).2.2
    hg := ok.hg
    kn := ok.kept hg fun b e => (ok.holds i r u hT hu).cells hl (hrow b e) }
theorem OK.addX {T : List Res} (ok : OK B h0 T h β w) {r : Res} {v : RV}
    (hX : ∀ b, v.has b → B.al b ∧ b < w.heap.size ∧ (∀ o, h b o = none) ∧ ∀ (j : Nat) (rj : Res) (vj : RV), T[j]? = some rj → rj.live = true → β[j]? = some vj → ¬ vj.has b) (hold : Holds h (β ++ [v]) w r v) :
    OK B h0 (T ++ [r]) h (β ++ [v]) w where
  below := ok.below
  dr := ok.dr
  len := by simp [ok.len]
  holds := by
    intro i r' v' e e'
    rcases getElem?_append_some e with ⟨hi, e⟩ | ⟨hi, rfl⟩
    · rcases getElem?_append_some e' with ⟨_, e'⟩ | ⟨hj, _⟩
      · exact (ok.holds i r' v' e e').move (FH.le.refl h) (Ext.append _ _) fun hl b hb => rfl
      · have := ok.len; omega
    · rcases getElem?_append_some e' with ⟨hj, e'⟩ | ⟨_, rfl⟩
      · have := ok.len; omega
      · exact hold
  own := by
    intro i r' v' b e hl e' hb
    rcases getElem?_append_some e' with ⟨hj, e'⟩ | ⟨hj, rfl⟩
    · rcases getElem?_append_some e with ⟨_, e⟩ | ⟨hi, rfl⟩
      · exact ok.own i r' v' b e hl e' hb
      · have := ok.len; omega
    · obtain ⟨h1, h2, h3, _⟩ := hX b hb
      exact ⟨h1, h2, h3⟩
  inj := by
    intro i j r1 r2 u v' b ei hl1 ej hl2 eu ev hu hv'
    have L := ok.len
    rcases getElem?_append_some ei with ⟨hi, ei⟩ | ⟨hi, _⟩ <;> rcases getElem?_append_some ej with ⟨hj, ej⟩ | ⟨hj, _⟩ <;>
      rcases getElem?_append_some eu with ⟨hi', eu⟩ | ⟨hi', rfl⟩ <;> rcases getElem?_append_some ev with ⟨hj', ev⟩ | ⟨hj', rfl⟩ <;> first
        | omega
        | exact ok.inj i j r1 r2 u v' b ei hl1 ej hl2 eu ev hu hv'
        | exact ((hX b hv').2.2.2 i r1 u ei hl1 eu hu).elim
        | exact ((hX b hu).2.2.2 j r2 v' ej hl2 ev hv').elim
  hle := ok.hle
  hw := ok.hw
  hg := ok.hg
  kn := ok.kn
/-! A row is read as one whose elements may have rows of their own. -/
@[reducible] def noOwn : Nat → Bool := fun _ => false
def noRows : Nat → Value := fun _ => nilS
theorem noRows_blk (j : Nat) : rowBlk (noRows j) = none := rfl
theorem deepen_holds {t : TypeId} {s : Sh} {l : List s.den} {tt : TypeId} {e : Sh} {so : Nat} {v : Value} (x : RowH h w t s l v) : DeepH h w t s l tt e so noOwn [] v noRows := by
  refine ⟨fun j k b hb => (by rw [noRows_blk] at hb; cases hb), fun j b hb => (by rw [noRows_blk] at hb; cases hb), ?_⟩
  rcases x with x | x | ⟨g, cap, cur, e0, e1, e2, e3, e4, r⟩
  · exact .inl x
  · exact .inr (.inl x)
  · refine .inr (.inr ⟨g, cap, cur, e0, e1, e2, e3, e4, fun j => by rw [noRows_blk]; simp, fun j d hd => ?_⟩)
    obtain ⟨g1, g2⟩ := r.get (fun _ _ => Rd.size s) hd
    refine ⟨?_, noRows_blk j⟩
    have hj := (List.getElem?_eq_some_iff.1 hd).1
    have hm : (j + 1) * s.size ≤ l.length * s.size := Nat.mul_le_mul_right _ hj
    rw [Nat.succ_mul] at hm
    have e5 : List.take s.size (List.drop (j * s.size) (List.take (l.length * s.size) cur.toList)) = List.take s.size (List.drop (j * s.size) cur.toList) := by
      apply List.ext_getElem?
      intro p
      simp only [List.getElem?_take, List.getElem?_drop]
      split
      · rw [if_pos (by omega)]
      · rfl
    rw [e5] at g1
    exact g1
@[reducible] def deepS (s : St) (i : Nat) (tt : TypeId) (e : Sh) (so : Nat) : St := match nthL s.T i with
  | some ([], .row t sh l) => { s with T := setL s.T i ([], .deep t sh l tt e so noOwn []) }
  | _ => s
theorem mR_id (r : Res) : mR (fun x => x) r = r := by
  have : ∀ l : List SC, mapL (fun x => x) l = l := by
    intro l
    induction l with
    | nil => rfl
    | cons x l ih => simp [mapL, ih]
  cases r <;> simp [mR, this]
theorem Sat.deepS (sat : Sat N B h0 s h β w a) (i : Nat) (tt : TypeId) (e : Sh) (so : Nat) : ∃ β', Sat N B h0 (deepS s i tt e so) h β' w a := by
  unfold Eng.deepS
  split
  · rename_i t sh l hT
    have hT' := effres hT (show gv s.gl [] = true from rfl)
    have hlt : i < β.length := by rw [sat.ok.len]; exact (List.getElem?_eq_some_iff.1 hT').1
    have hu := List.getElem?_eq_getElem hlt
    have hold := sat.ok.holds i _ _ hT' hu
    cases hb : β[i] with
    | blk b => rw [hb] at hold; exact hold.elim
    | no => rw [hb] at hold; exact hold.elim
    | deep _ _ => rw [hb] at hold; exact hold.elim
    | row v =>
      rw [hb] at hold hu
      have hC : ∀ x y, CnC h β x y → CnC h (β.set i (.deep v noRows)) x y := by
        intro x y c
        have := CnC.js (us := noRows) (us' := noRows) hu (.inr rfl) c
        cases x with
        | sub j k =>
          obtain ⟨z, us2, e1, e2⟩ := c
          refine ⟨z, us2, ?_, e2⟩
          rw [set_get hu, if_neg]
          · exact e1
          · rintro rfl; rw [hu] at e1; cases e1
        | subp j k m sz off =>
          obtain ⟨z, us2, g, e1, e2⟩ := c
          refine ⟨z, us2, g, ?_, e2⟩
          rw [set_get hu, if_neg]
          · exact e1
          · rintro rfl; rw [hu] at e1; cases e1
        | _ => exact this
      refine ⟨β.set i (.deep v noRows), ?_, ?_, sat.gs, sat.defers, sat.sz, sat.gb, gT_set sat⟩
      · show OK B h0 (eff s.gl (setL s.T i ([], .deep t sh l tt e so noOwn []))) h _ w
        rw [effset]
        have := sat.ok.upd3 (f := fun x => x) (r' := .deep t sh l tt e so noOwn []) (v := .deep v noRows) (row := none) (X := fun _ => False) hT' rfl hu (grown_refl w none) (fun k e => by cases e) (fun b hb => hb.elim)
          (fun b hb => by
            rw [has_deep] at hb
            rcases hb with hb | ⟨j, hb⟩
            · exact .inl (has_row.2 hb)
            · rw [noRows_blk] at hb; cases hb) hC (deepen_holds hold)
        rwa [show (eff s.gl s.T).map (mR fun x => x) = eff s.gl s.T by rw [show (mR fun x => x) = id from funext mR_id]; simp] at this
      · intro t' G e' ht
        obtain ⟨z, q1, q2, q3⟩ := sat.env t' G e' ht
        refine ⟨z, q1, fun hG => ?_, q3⟩
        have := CnE.map (f := fun x => x) (FH.le.refl h) hC (q2 hG)
        have hid : mE (fun x => x) e' = e' := by
          have m1 : ∀ l : List SC, mapL (fun x => x) l = l := by
            intro l
            induction l with
            | nil => rfl
            | cons x l ih => simp [mapL, ih]
          have m2 : ∀ x : SV, mV (fun x => x) x = x := by intro x; cases x <;> simp [mV, m1]
          cases e' with
          | one x => simp [mE, m2]
          | tup xs =>
            have : ∀ l : List SV, mapL (mV fun x => x) l = l := by
              intro l
              induction l with
              | nil => rfl
              | cons x l ih => simp [mapL, ih, m2]
            simp [mE, this]
        rwa [hid] at this
  · exact ⟨β, sat⟩
/-! What becomes of the relation. -/
theorem DeepH.third {t : TypeId} {sh : Sh} {l : List sh.den} {tt : TypeId} {e : Sh} {so : Nat} {own : Nat → Bool} {hs : List Nat} {v : Value} {us : Nat → Value} (D : DeepH h w t sh l tt e so own hs v us) {j : Nat} (hj : j < l.length) :
    ∃ g cap cur, v = .slice (some ⟨g, 0, none⟩) l.length cap ∧ w.heap[g]? = some (.cells cur t (0, 0)) ∧ l.length ≤ cap ∧ (1 ≤ cap ∧ cap ≤ maxLen) ∧
      cur.size = cap * sh.size ∧ (∀ j, rowBlk (us j) ≠ some g) ∧ ∀ j d, l[j]? = some d → ElH h w sh tt e so (own j) (memH j hs) (us j) ((cur.toList.drop (j * sh.size)).take sh.size) d := by
  obtain ⟨_, _, D⟩ := D
  rcases D with ⟨_, e0⟩ | ⟨_, _, e0⟩ | D
  · subst e0; simp at hj
  · subst e0; simp at hj
  · exact D
theorem DeepH.get {t : TypeId} {sh : Sh} {l : List sh.den} {tt : TypeId} {e : Sh} {so : Nat} {own : Nat → Bool} {hs : List Nat} {v : Value} {us : Nat → Value} (D : DeepH h w t sh l tt e so own hs v us) {j : Nat} {d : sh.den} (hd : l[j]? = some d) (ho : own j = true) (hh : memH j hs = false)
    {x : List e.den} (hx : getF sh d so e = some x) : RowH h w tt e x (us j) := by
  obtain ⟨_, _, _, _, _, _, _, _, _, h6⟩ := D.third (List.getElem?_eq_some_iff.1 hd).1
  have h7 := h6 j d hd
  rw [ho, hh] at h7
  obtain ⟨d0, x', _, p, _, rw_⟩ := h7
  rw [getF_R p hx]; exact rw_
theorem DeepH.inner {t : TypeId} {sh : Sh} {l : List sh.den} {tt : TypeId} {e : Sh} {so : Nat} {own : Nat → Bool} {hs : List Nat} {v : Value} {us : Nat → Value} (D : DeepH h w t sh l tt e so own hs v us) {j : Nat} {d d' : sh.den} (hd : l[j]? = some d) (ho : own j = true) (hh : memH j hs = false)
    {w' : World} (fr : ∀ b, rowBlk (us j) ≠ some b → (∃ o, w.heap[b]? = some o) → w'.heap[b]? = w.heap[b]?) (ce : ∀ b, rowBlk (us j) = some b → ∃ o, w'.heap[b]? = some o ∧ ours o = true) {x' : List e.den} (hp : putF sh d so e x' = some d') (hr : RowH h w' tt e x' (us j)) : DeepH h w' t sh (l.set j d') tt e so own hs v us := by
  have hj := (List.getElem?_eq_some_iff.1 hd).1
  obtain ⟨g, cap, cur, e0, e1, e2, e3, e4, e5, e6⟩ := D.third hj
  obtain ⟨D1, D2, _⟩ := D
  have fr' : ∀ i b, i ≠ j → rowBlk (us i) = some b → w'.heap[b]? = w.heap[b]? := by
    intro i b hi hb
    obtain ⟨_, o, ho, _⟩ := D2 i b hb
    exact fr b (fun hh => hi (D1 i j b hb hh)) ⟨o, ho⟩
  refine ⟨D1, fun i b hb => ?_, .inr (.inr ⟨g, cap, cur, by rw [List.length_set]; exact e0, ?_, by rw [List.length_set]; exact e2, e3, e4, e5, fun i di hdi => ?_⟩)⟩
  · rw [List.length_set]
    obtain ⟨q1, o, q2, q3⟩ := D2 i b hb
    by_cases hi : i = j
    · subst hi; exact ⟨q1, ce b hb⟩
    · exact ⟨q1, o, by rw [fr' i b hi hb]; exact q2, q3⟩
  · rw [fr g (e5 j) ⟨_, e1⟩]; exact e1
  · by_cases hi : i = j
    · subst hi
      rw [List.getElem?_set_self hj] at hdi
      cases hdi
      have h7 := e6 i d hd
      rw [ho, hh] at h7 ⊢
      obtain ⟨d0, y, r, p, c, q⟩ := h7
      exact ⟨d0, x', r, p.trans (putF_R hp), c, hr⟩
    · rw [List.getElem?_set_ne (Ne.symm hi)] at hdi
      exact (e6 i di hdi).move (FH.le.refl h) fun b hb => fr' i b hi hb
theorem DeepH.write {t : TypeId} {sh : Sh} {l : List sh.den} {tt : TypeId} {e : Sh} {so : Nat} {own own' : Nat → Bool} {hs hs' : List Nat} {v : Value} {us us' : Nat → Value} (D : DeepH h w t sh l tt e so own hs v us) {j : Nat} {d d' : sh.den} (hd : l[j]? = some d)
    {g cap : Nat} {cur : Array Value} (hv : v = .slice (some ⟨g, 0, none⟩) l.length cap) (hw : w.heap[g]? = some (.cells cur t (0, 0))) {off k : Nat} (hk : off + k ≤ sh.size) {cs' : List Value} (hc : cs'.length = k)
    (same : ∀ i, i ≠ j → own' i = own i ∧ memH i hs' = memH i hs ∧ us' i = us i) (apart : ∀ i b, i ≠ j → rowBlk (us i) = some b → rowBlk (us' j) ≠ some b) (bl : ∀ b, rowBlk (us' j) = some b → b ≠ g ∧ ∃ o, w.heap[b]? = some o ∧ ours o = true)
    (el : ∀ (w' : World) cs, (∀ b, b ≠ g → w'.heap[b]? = w.heap[b]?) → cs.length = sh.size → ElH h w sh tt e so (own j) (memH j hs) (us j) cs d → ElH h w' sh tt e so (own' j) (memH j hs') (us' j) (cs.take off ++ cs' ++ cs.drop (off + k)) d') :
    j * sh.size + off + k ≤ cur.size ∧ DeepH h (w.setRow g (cur.toList.take (j * sh.size + off) ++ cs' ++ cur.toList.drop (j * sh.size + off + k)).toArray) t sh (l.set j d') tt e so own' hs' v us' := by
  have hj := (List.getElem?_eq_some_iff.1 hd).1
  obtain ⟨g2, cap2, cur2, e0, e1, e2, e3, e4, e5, e6⟩ := D.third hj
  rw [hv] at e0
  have eg : g = g2 ∧ cap = cap2 := by simpa using e0
  obtain ⟨rfl, rfl⟩ := eg
  rw [hw] at e1
  have ec : cur = cur2 := by simpa using e1
  subst ec
  obtain ⟨D1, D2, _⟩ := D
  have lc : cur.toList.length = cap * sh.size := by simpa using e4
  have hm : (j + 1) * sh.size ≤ cap * sh.size := Nat.mul_le_mul_right _ (by omega)
  rw [Nat.succ_mul] at hm
  refine ⟨by omega, ?_⟩
  generalize hw' : w.setRow g (cur.toList.take (j * sh.size + off) ++ cs' ++ cur.toList.drop (j * sh.size + off + k)).toArray = w'
  have fr : ∀ b, b ≠ g → w'.heap[b]? = w.heap[b]? := fun b hb => by rw [← hw']; exact setRow_other w g b _ hb
  have hg' : w'.heap[g]? = some (.cells (cur.toList.take (j * sh.size + off) ++ cs' ++ cur.toList.drop (j * sh.size + off + k)).toArray t (0, 0)) := by rw [← hw']; exact setRow_heap w g _ _ t (0, 0) hw
  have ne : ∀ i b, rowBlk (us i) = some b → b ≠ g := fun i b hb hh => e5 i (by rw [hb, hh])
  refine ⟨fun i k b h1 h2 => ?_, fun i b hb => ?_, .inr (.inr ⟨g, cap, _, by rw [List.length_set]; exact hv, hg', by rw [List.length_set]; exact e2, e3, ?_, fun i hb => ?_, fun i di hdi => ?_⟩)⟩
  · by_cases hi : i = j <;> by_cases hk : k = j
    · rw [hi, hk]
    · subst hi
      rw [(same k hk).2.2] at h2
      exact (apart k b hk h2 h1).elim
    · subst hk
      rw [(same i hi).2.2] at h1
      exact (apart i b hi h1 h2).elim
    · rw [(same i hi).2.2] at h1
      rw [(same k hk).2.2] at h2
      exact D1 i k b h1 h2
  · rw [List.length_set]
    by_cases hi : i = j
    · subst hi
      obtain ⟨q1, o, q2, q3⟩ := bl b hb
      exact ⟨hj, o, by rw [fr b q1]; exact q2, q3⟩
    · rw [(same i hi).2.2] at hb
      obtain ⟨q1, o, q2, q3⟩ := D2 i b hb
      exact ⟨q1, o, by rw [fr b (ne i b hb)]; exact q2, q3⟩
  · simp only [List.size_toArray, List.length_append, List.length_take, List.length_drop]; omega
  · by_cases hi : i = j
    · subst hi; exact (bl g hb).1 rfl
    · rw [(same i hi).2.2] at hb; exact e5 i hb
  · by_cases hi : i = j
    · subst hi
      rw [List.getElem?_set_self hj] at hdi
      cases hdi
      have h7 := el w' _ fr (by rw [List.length_take, List.length_drop]; omega) (e6 i d hd)
      have key : List.take sh.size (List.drop (i * sh.size) (List.take (i * sh.size + off) cur.toList ++ cs' ++ List.drop (i * sh.size + off + k) cur.toList)) = List.take off (List.take sh.size (List.drop (i * sh.size) cur.toList)) ++ cs' ++ List.drop (off + k) (List.take sh.size (List.drop (i * sh.size) cur.toList)) := by
        apply List.ext_getElem?
        intro p
        simp only [List.getElem?_append, List.getElem?_take, List.getElem?_drop, List.length_append, List.length_take, List.length_drop, lc, hc]
        repeat' split
        all_goals first | rfl | omega | (congr 1; omega) | (rw [List.getElem?_eq_none (by omega)]) | (exfalso; omega) | skip
      simp only at key ⊢
      rw [key]; exact h7
    · rw [List.getElem?_set_ne (Ne.symm hi)] at hdi
      obtain ⟨q1, q2, q3⟩ := same i hi
      rw [q1, q2, q3]
      have h7 := (e6 i di hdi).move (w' := w') (FH.le.refl h) fun b hb => fr b (ne i b hb)
      have hi2 := (List.getElem?_eq_some_iff.1 hdi).1
      have hm2 : (i + 1) * sh.size ≤ cap * sh.size := Nat.mul_le_mul_right _ (by omega)
      rw [Nat.succ_mul] at hm2
      have hne : i * sh.size + sh.size ≤ j * sh.size ∨ j * sh.size + sh.size ≤ i * sh.size := by
        rcases Nat.lt_or_gt_of_ne hi with hh | hh
        · left
          have : (i + 1) * sh.size ≤ j * sh.size := Nat.mul_le_mul_right _ hh
          rwa [Nat.succ_mul] at this
        · right
          have : (j + 1) * sh.size ≤ i * sh.size := Nat.mul_le_mul_right _ hh
          rwa [Nat.succ_mul] at this
      have key : List.take sh.size (List.drop (i * sh.size) (List.take (j * sh.size + off) cur.toList ++ cs' ++ List.drop (j * sh.size + off + k) cur.toList)) = List.take sh.size (List.drop (i * sh.size) cur.toList) := by
        apply List.ext_getElem?
        intro p
        simp only [List.getElem?_append, List.getElem?_take, List.getElem?_drop, List.length_append, List.length_take, List.length_drop, lc, hc]
        repeat' split
        all_goals first | rfl | omega | (congr 1; omega) | (rw [List.getElem?_eq_none (by omega)]) | (exfalso; omega) | skip
      simp only at key ⊢
      rw [key]; exact h7
@[reducible] def unRow (us : Nat → Value) (j : Nat) : Nat → Value := fun k => if k = j then nilS else us k
theorem DeepH.open {t : TypeId} {sh : Sh} {l : List sh.den} {tt : TypeId} {e : Sh} {so : Nat} {own : Nat → Bool} {v : Value} {us : Nat → Value} (D : DeepH h w t sh l tt e so own [] v us) {j : Nat} {d : sh.den} (hd : l[j]? = some d) (ho : own j = true) : DeepH h w t sh l tt e so own [j] v (unRow us j) := by
  have hj := (List.getElem?_eq_some_iff.1 hd).1
  obtain ⟨g, cap, cur, e0, e1, e2, e3, e4, e5, e6⟩ := D.third hj
  obtain ⟨D1, D2, _⟩ := D
  have sub : ∀ i b, rowBlk (unRow us j i) = some b → i ≠ j ∧ rowBlk (us i) = some b := by
    intro i b hb
    unfold unRow at hb
    split at hb
    · cases hb
    · rename_i hi; exact ⟨hi, hb⟩
  refine ⟨fun i k b h1 h2 => D1 i k b (sub i b h1).2 (sub k b h2).2, fun i b hb => D2 i b (sub i b hb).2, .inr (.inr ⟨g, cap, cur, e0, e1, e2, e3, e4, fun i hb => e5 i (sub i g hb).2, fun i di hdi => ?_⟩)⟩
  have h7 := e6 i di hdi
  by_cases hi : i = j
  · subst hi
    rw [ho] at h7
    obtain ⟨d0, y, r, p, c, q⟩ := h7
    have e7 : memH i [i] = true := by simp [memH]
    rw [e7]
    refine ⟨by simp [unRow, nilS, rowBlk], d0, y, r, p, us i, c, ?_⟩
    rcases q with ⟨e1, _⟩ | ⟨_, e1, _⟩ | ⟨_, _, _, e1, _⟩ <;> rw [e1] <;> exact ⟨rfl, rfl⟩
  · have e7 : memH i [j] = false := by simp [memH, hi]
    have e8 : unRow us j i = us i := by simp [unRow, hi]
    rw [e7, e8]; exact h7
/-! Stores. -/
theorem updD_put : ∀ {s : Sh} {so : Nat} {e : Sh} {d0 d d' : s.den} {x : List e.den} {off k : Nat} {v : SV}, PutR s so e d0 x d → off + k ≤ so ∨ so + 1 ≤ off → updD s d off k v = some d' → ∃ d0', updD s d0 off k v = some d0' ∧ PutR s so e d0' x d'
  | .sl s, so, e, d0, d, d', x, off, k, v, ⟨h1, _, _⟩, hd, h => by
    exfalso
    unfold updD at h
    split at h
    · rename_i hh
      rw [andB_eq, Bool.and_eq_true] at hh
      have a1 := Nat.eq_of_beq_eq_true hh.1
      have a2 : 1 = k := Nat.eq_of_beq_eq_true hh.2
      omega
    · cases h
  | .pair a b, so, e, (p0, q0), (p, q), d', x, off, k, v, hp, hd, h => by
    have hlt : so < a.size + b.size := PutR.lt hp
    unfold updD at h ⊢
    cases hw : andB (Nat.beq off 0) (Nat.beq (a.size + b.size) k) with
    | true =>
      rw [andB_eq, Bool.and_eq_true] at hw
      have a1 := Nat.eq_of_beq_eq_true hw.1
      have a2 := Nat.eq_of_beq_eq_true hw.2
      omega
    | false =>
      rw [hw] at h
      simp only at h ⊢
      cases hle : Nat.ble (off + 1) a.size with
      | true =>
        rw [hle] at h
        simp only at h ⊢
        have hle := Nat.le_of_ble_eq_true hle
        split at h
        · rename_i y hy
          cases h
          rcases hp with ⟨g1, e1, h1⟩ | ⟨g1, e1, h1⟩
          · subst e1
            rw [hy]
            exact ⟨_, rfl, .inl ⟨g1, rfl, h1⟩⟩
          · obtain ⟨z, hz, h2⟩ := updD_put h1 hd hy
            rw [hz]
            exact ⟨_, rfl, .inr ⟨g1, e1, h2⟩⟩
        · cases h
      | false =>
        rw [hle] at h
        simp only at h ⊢
        have hle := ble_false hle
        split at h
        · rename_i y hy
          cases h
          rcases hp with ⟨g1, e1, h1⟩ | ⟨g1, e1, h1⟩
          · obtain ⟨z, hz, h2⟩ := updD_put h1 (by omega) hy
            rw [hz]
            exact ⟨_, rfl, .inl ⟨g1, e1, h2⟩⟩
          · subst e1
            rw [hy]
            exact ⟨_, rfl, .inr ⟨g1, rfl, h1⟩⟩
        · cases h
  | .int _, _, _, _, _, _, _, _, _, _, h, _, _ => h.elim
  | .bool, _, _, _, _, _, _, _, _, _, h, _, _ => h.elim
  | .str, _, _, _, _, _, _, _, _, _, h, _, _ => h.elim
  | .any, _, _, _, _, _, _, _, _, _, h, _, _ => h.elim
  | .unit, _, _, _, _, _, _, _, _, _, h, _, _ => h.elim
  | .arr _ _, _, _, _, _, _, _, _, _, _, h, _, _ => h.elim
theorem set_mid {cs cs' : List Value} {off k so : Nat} {z : Value} (hk : cs'.length = k) (hl : off + k ≤ cs.length) (hd : off + k ≤ so ∨ so + 1 ≤ off) :
    (cs.set so z).take off ++ cs' ++ (cs.set so z).drop (off + k) = (cs.take off ++ cs' ++ cs.drop (off + k)).set so z := by
  apply List.ext_getElem?
  intro p
  simp only [List.getElem?_append, List.getElem?_take, List.getElem?_drop, List.length_append, List.length_take, List.length_drop, List.getElem?_set, List.length_set, hk]
  repeat' split
  all_goals first | rfl | omega | (congr 1; omega) | (exfalso; omega) | skip
theorem ElH.upd {s : Sh} {tt : TypeId} {e : Sh} {so : Nat} {own hole : Bool} {u : Value} {cs : List Value} {d d' : s.den} {off k : Nat} {v : SV} {y : Value} (x : ElH h w s tt e so own hole u cs d) (dis : off + k ≤ so ∨ so + 1 ≤ off)
    (hu : updD s d off k v = some d') (c : CnV h β v y) : ∃ cs', y.cells = cs'.toArray ∧ cs'.length = k ∧ (∀ u ∈ cs', oneC u) ∧ off + k ≤ cs.length ∧ ElH h w s tt e so own hole u (cs.take off ++ cs' ++ cs.drop (off + k)) d' := by
  have getso : ∀ {cs' : List Value} {z : Value}, cs'.length = k → off + k ≤ cs.length → cs[so]? = some z → (cs.take off ++ cs' ++ cs.drop (off + k))[so]? = some z := by
    intro cs' z hk hl hz
    have hlt := (List.getElem?_eq_some_iff.1 hz).1
    rcases dis with dis | dis
    · rw [List.getElem?_append_right (by simp only [List.length_append, List.length_take]; omega), List.getElem?_drop, ← hz]
      congr 1
      simp only [List.length_append, List.length_take]; omega
    · rw [List.getElem?_append_left (by simp only [List.length_append, List.length_take]; omega), List.getElem?_append_left (by simp only [List.length_take]; omega), List.getElem?_take, if_pos (by omega)]
      exact hz
  unfold ElH at x ⊢
  cases hole with
  | false =>
    cases own with
    | false =>
      obtain ⟨cs', e1, e2, e3, e4, e5⟩ := updD_ok s hu x.1 c
      exact ⟨cs', e1, e2, e3, e4, e5, x.2⟩
    | true =>
      obtain ⟨d0, z, r, p, cu, q⟩ := x
      obtain ⟨d0', h1, h2⟩ := updD_put p dis hu
      obtain ⟨cs', e1, e2, e3, e4, e5⟩ := updD_ok s h1 r c
      rw [List.length_set] at e4
      rw [set_mid e2 e4 dis] at e5
      exact ⟨cs', e1, e2, e3, e4, d0', z, e5, h2, getso e2 e4 cu, q⟩
  | true =>
    obtain ⟨x0, d0, z, r, p, y0, cu, q⟩ := x
    obtain ⟨d0', h1, h2⟩ := updD_put p dis hu
    obtain ⟨cs', e1, e2, e3, e4, e5⟩ := updD_ok s h1 r c
    rw [List.length_set] at e4
    rw [set_mid e2 e4 dis] at e5
    exact ⟨cs', e1, e2, e3, e4, x0, d0', z, e5, h2, y0, getso e2 e4 cu, q⟩
@[reducible] def ownAt (own : Nat → Bool) (j : Nat) : Nat → Bool := fun k => cnd (decide (k = j)) true (own k)
@[reducible] def rowOf : SV → Option Nat
  | .c (.row q) => some q
  | _ => none
@[reducible] def holeK (hs : List Nat) (j : Nat) (K : Prop) : Prop := match hs with
  | [] => K
  | [k] => j = k ∧ K
  | _ => False
@[reducible] def dstoreK (s : St) (d : Option Nat) (i : TI) (r j sz off : Nat) (tt : TypeId) (sh : Sh) (l : List sh.den) (t2 : TypeId) (e : Sh) (so : Nat) (own : Nat → Bool) (hs : List Nat) (v : SV) (K : St → Prop) : Prop := match Nat.beq sz sh.size with
  | false => False
  | true => match orB' (Nat.ble (off + i.size) so) (Nat.ble (so + 1) off) with
    | true => (j < l.length) ∧ ∀ e0 : sh.den, l[j]? = some e0 → match updD sh e0 off i.size v with
      | some dd => K ({ s with T := setL s.T r ([], .deep tt sh (l.set j dd) t2 e so own hs) }.put d [] (.one .und))
      | none => False
    | false => match rowOf v with
      | some q => match nthL s.T q with
        | some ([], .row tq eq x) => match andB (Nat.beq tq t2) (andB (Nat.beq off so) (Nat.beq i.size 1)) with
          | true => match castD (.sl eq) x (.sl e) with
            | some x => (j < l.length) ∧ holeK hs j (∀ e0 : sh.den, l[j]? = some e0 → match putF sh e0 so e x with
              | some dd => K ({ s with T := setL (mT (jsC r) (setL s.T q ([], .gone))) r ([], .deep tt sh (l.set j dd) t2 e so (ownAt own j) []), env := mEnv (jsC r) s.env }.put d [] (.one .und))
              | none => False)
            | none => False
          | false => False
        | _ => False
      | none => False
@[reducible] def dstP (cx : Cx) (s : St) (d : Option Nat) (t : TypeId) (p x : Operand) (K : St → Prop) : Option Prop := match lkT cx.ti t with
  | none => none
  | some i => match getE cx s [] p with
    | some (.one (.c (.rowp r j sz off))) => match nthL s.T r with
      | some ([], .deep tt sh l t2 e so own hs) => match getE cx s [] x with
        | some (.one v) => some (dstoreK s d i r j sz off tt sh l t2 e so own hs v K)
        | _ => none
      | _ => none
    | some (.one (.c (.subp r j k sz off))) => match nthL s.T r with
      | some ([], .deep tt sh l t2 e so own hs) => match getE cx s [] x with
        | some (.one v) => some (match Nat.beq sz e.size with
          | false => False
          | true => (own j = true ∧ memH j hs = false ∧ j < l.length) ∧ ∀ d0 : sh.den, l[j]? = some d0 → match getF sh d0 so e with
            | some xs => (k < xs.length) ∧ ∀ y : e.den, xs[k]? = some y → match updD e y off i.size v with
              | some y' => match putF sh d0 so e (xs.set k y') with
                | some dd => K ({ s with T := setL s.T r ([], .deep tt sh (l.set j dd) t2 e so own hs) }.put d [] (.one .und))
                | none => False
              | none => False
            | none => False)
        | _ => none
      | _ => none
    | _ => none
set_option maxHeartbeats 4000000 in
theorem RowH.write {t : TypeId} {sh : Sh} {l : List sh.den} {u : Value} (x : RowH h w t sh l u) {g j off k : Nat} {d dd : sh.den} (hg : rowBlk u = some g) (hd : l[j]? = some d) {y : Value} (up : ∀ {cs : List Value}, Rd h sh cs d → Upd h sh cs off k y dd) :
    ∃ cur, w.heap[g]? = some (.cells cur t (0, 0)) ∧ j * sh.size + off + k ≤ cur.size ∧ y.cells.size = k ∧ (∀ z ∈ y.cells.toList, oneC z) ∧ RowH h (w.setRow g (cur.toList.take (j * sh.size + off) ++ y.cells.toList ++ cur.toList.drop (j * sh.size + off + k)).toArray) t sh (l.set j dd) u := by
  have hj := (List.getElem?_eq_some_iff.1 hd).1
  rcases x with ⟨hv0, _⟩ | ⟨_, hv0, _⟩ | ⟨g', cap, cur, hv0, he, q2, q3, q4, q5⟩
  · subst hv0; simp [rowBlk] at hg
  · subst hv0; simp [rowBlk] at hg
  · have hgg : g' = g := by rw [hv0, rowBlk_own q3.1] at hg; exact Option.some.inj hg
    subst hgg
    have hm : (j + 1) * sh.size ≤ l.length * sh.size := Nat.mul_le_mul_right _ hj
    have hm2 : l.length * sh.size ≤ cap * sh.size := Nat.mul_le_mul_right _ q2
    rw [Nat.succ_mul] at hm
    obtain ⟨g1, g2⟩ := q5.get (fun _ _ => Rd.size sh) hd
    have gl := Rd.size sh g1
    obtain ⟨cs', ec, e2, e3, e4, e5⟩ := up g1
    rw [gl] at e4
    have lc : cur.toList.length = cap * sh.size := by simpa using q4
    refine ⟨cur, he, by omega, by rw [ec]; simpa using e2, fun z hz => e3 z (by rw [ec] at hz; simpa using hz), .inr (.inr ⟨g', cap, _, by rw [List.length_set]; exact hv0, setRow_heap w g' _ _ t (0, 0) he, by rw [List.length_set]; exact q2, q3, ?_, ?_⟩)⟩
    · rw [ec]
      simp only [List.size_toArray, List.length_append, List.length_take, List.length_drop, Array.length_toList]; omega
    · rw [List.length_set, ec]
      show RdL (Rd h sh) ((List.take (j * sh.size + off) cur.toList ++ cs' ++ List.drop (j * sh.size + off + k) cur.toList).take (l.length * sh.size)) (l.set j dd)
      have e := RdL.set (fun _ _ => Rd.size sh) q5 hj e5
      have key : (List.take (j * sh.size + off) cur.toList ++ cs' ++ List.drop (j * sh.size + off + k) cur.toList).take (l.length * sh.size) =
          List.take (j * sh.size) (List.take (l.length * sh.size) cur.toList) ++ (List.take off (List.take sh.size (List.drop (j * sh.size) (List.take (l.length * sh.size) cur.toList))) ++ cs' ++ List.drop (off + k) (List.take sh.size (List.drop (j * sh.size) (List.take (l.length * sh.size) cur.toList)))) ++ List.drop (j * sh.size + sh.size) (List.take (l.length * sh.size) cur.toList) := by
        apply List.ext_getElem?
        intro p
        simp only [List.getElem?_append, List.getElem?_take, List.getElem?_drop, List.length_append, List.length_take, List.length_drop, lc, e2]
        repeat' split
        all_goals first | rfl | omega | (congr 1; omega) | (rw [List.getElem?_eq_none (by omega)]) | (exfalso; omega) | skip
      rw [key]; exact e
theorem take_set {cs : List Value} {o : Nat} {y : Value} (h : o < cs.length) : cs.take o ++ [y] ++ cs.drop (o + 1) = cs.set o y := by
  rw [List.set_eq_take_append_cons_drop, if_pos h]; simp
set_option maxHeartbeats 4000000 in
theorem dst_step (hc : TisOK P cx.ti) (sat : Sat N B h0 s h β w a) (hg : GlobOK cx.gd h) (hd : dOK N o.dst = true) {t : TypeId} {p x : Operand} (ho : o.op = .store t p x) {q : Prop} (hq : dstP cx s o.dst t p x K = some q) (k : q) :
    OpOK P N B h0 h w a o (gv s.gl []) K := by
  have tr : gv s.gl [] = true := rfl
  unfold dstP at hq
  split at hq
  · cases hq
  rename_i i hi
  have ti := hc.get hi
  have exec : ∀ {w' : World} {v pv : Value}, a.eval x = v → a.eval p = pv → (Instr.storeAt t pv v).run P w = .ok () w' → (execOp a.eval o).run P w = .ok .skip w' := by
    intro w' v pv e1 e2 r
    simp only [execOp, ho, e1, e2, Sem.run_bind, r, Result.andThen_ok, Sem.run_pure]
  split at hq
  · rename_i r j sz off hp
    obtain ⟨⟨v0, g, hb, hgb, ep⟩, _⟩ := getE_ok sat hg tr hp
    split at hq
    · rename_i tt sh l t2 e so own hs hT
      have hT' := effres hT tr
      have hold := sat.ok.holds r _ _ hT' hb
      split at hq
      · rename_i v hv
        have cv := getE_ok sat hg tr hv
        cases hq
        match v0, hold, hgb, hb with
        | .deep vv us, D, hgb, hb =>
          have D : DeepH h w tt sh l t2 e so own hs vv us := D
          have hgb : rowBlk vv = some g := hgb
          have outer : ∀ {j : Nat}, j < l.length → ∃ cap cur, vv = .slice (some ⟨g, 0, none⟩) l.length cap ∧ w.heap[g]? = some (.cells cur tt (0, 0)) ∧ ∀ d, l[j]? = some d → ElH h w sh t2 e so (own j) (memH j hs) (us j) ((cur.toList.drop (j * sh.size)).take sh.size) d ∧ (j + 1) * sh.size ≤ cur.size := by
            intro j hj
            obtain ⟨g2, cap, cur, e0, e1, e2, e3, e4, e5, e6⟩ := D.third hj
            rw [e0, rowBlk_own e3.1] at hgb
            cases hgb
            refine ⟨cap, cur, e0, e1, fun d hd => ⟨e6 j d hd, ?_⟩⟩
            rw [e4]; exact Nat.mul_le_mul_right _ (by omega)
          unfold dstoreK at k
          split at k
          · exact k.elim
          rename_i hz
          have hz : sz = sh.size := Nat.eq_of_beq_eq_true hz
          split at k
          · rename_i hdis
            have hdis : off + i.size ≤ so ∨ so + 1 ≤ off := by
              unfold orB' at hdis
              split at hdis
              · rename_i hh; exact .inl (Nat.le_of_ble_eq_true hh)
              · exact .inr (Nat.le_of_ble_eq_true hdis)
            obtain ⟨hj, k⟩ := k
            have k := k _ (List.getElem?_eq_getElem hj)
            split at k
            · rename_i dd hdd
              obtain ⟨cap, cur, e0, e1, e2⟩ := outer hj
              obtain ⟨el, hsz⟩ := e2 _ (List.getElem?_eq_getElem hj)
              obtain ⟨cs', ec, c2, c3, c4, c5⟩ := el.upd hdis hdd cv
              rw [Nat.succ_mul] at hsz
              have hcl : ((cur.toList.drop (j * sh.size)).take sh.size).length = sh.size := by rw [List.length_take, List.length_drop, Array.length_toList]; omega
              rw [hcl] at c4
              obtain ⟨f1, f2⟩ := D.write (own' := own) (hs' := hs) (us' := us) (d' := dd) (cs' := cs') (off := off) (k := i.size) (List.getElem?_eq_getElem hj) e0 e1 c4 c2 (fun _ _ => ⟨rfl, rfl, rfl⟩) (fun i' b hi' hb' hb2 => hi' (D.1 _ _ b hb' hb2)) (fun b hb' => ⟨fun hh => (D.third hj).elim fun g2 z => by
                  obtain ⟨cap2, cur2, f0, _, f3, f4, _, f5, _⟩ := z
                  rw [f0, rowBlk_own f4.1] at hgb
                  cases hgb
                  exact f5 j (by rw [hb', hh]), (D.2.1 j b hb').2⟩) (fun w' cs fr hl ex => by
                  obtain ⟨cs2, ec2, _, _, _, ex2⟩ := ex.upd hdis hdd cv
                  have : cs2 = cs' := by rw [ec] at ec2; simpa using ec2.symm
                  subst this
                  refine ex2.move (FH.le.refl h) fun b hb' => fr b fun hh => ?_
                  obtain ⟨g2, cap2, cur2, f0, _, _, f4, _, f5, _⟩ := D.third hj
                  rw [f0, rowBlk_own f4.1] at hgb
                  cases hgb
                  exact f5 j (by rw [hb', hh]))
              have r1 := run_storeVar_at (o := j * sz + off) (v := a.eval x) ti e1 (by rw [ec]; simpa using c2) (by rw [hz]; omega) (by rw [ec]; intro u hu; exact c3 u (by simpa using hu))
              refine store_in sat (by rw [ho]; rfl) hd hT rfl hb hgb ?_ (exec rfl ep r1) k
              rw [ec, hz]
              exact f2
            · exact k.elim
          · split at k
            · rename_i q hq0
              split at k
              · rename_i tq eq x0 hTq
                have hTq' := effres hTq tr
                split at k
                · rename_i hcs
                  rw [andB_eq, andB_eq, Bool.and_eq_true, Bool.and_eq_true] at hcs
                  have a0 : tq = t2 := Nat.eq_of_beq_eq_true hcs.1
                  have a1 : off = so := Nat.eq_of_beq_eq_true hcs.2.1
                  have a2 : i.size = 1 := Nat.eq_of_beq_eq_true hcs.2.2
                  subst a0; subst a1
                  split at k
                  · rename_i x1 hx1
                    obtain ⟨e1, e2⟩ := castSl hx1
                    subst e1; simp only at e2; subst e2
                    obtain ⟨hj, k⟩ := k
                    have hv1 : v = .c (.row q) := by
                      unfold rowOf at hq0
                      split at hq0
                      · cases hq0; rfl
                      · cases hq0
                    subst hv1
                    have hbq := sat.ok.row_of hTq' cv.1
                    have hrow : RowH h w tq eq x0 (a.eval x) := sat.ok.holds q _ _ hTq' hbq
                    have hone : oneC (a.eval x) := cv.2
                    have hqr : q ≠ r := by rintro rfl; rw [hTq'] at hT'; cases hT'
                    have kk : (∀ i', i' ≠ j → memH i' hs = false) ∧ ∀ e0 : sh.den, l[j]? = some e0 → match putF sh e0 off eq x0 with
                        | some dd => K ({ s with T := setL (mT (jsC r) (setL s.T q ([], .gone))) r ([], .deep tt sh (l.set j dd) tq eq off (ownAt own j) []), env := mEnv (jsC r) s.env }.put o.dst [] (.one .und))
                        | none => False := by
                      unfold holeK at k
                      split at k
                      · exact ⟨fun _ _ => rfl, k⟩
                      · exact ⟨fun i' hi' => by simp [memH]; rw [← k.1]; exact hi', k.2⟩
                      · exact k.elim
                    obtain ⟨hmem, k⟩ := kk
                    have k := k _ (List.getElem?_eq_getElem hj)
                    split at k
                    · rename_i dd hdd
                      have hdd := putF_R hdd
                      have hso := hdd.lt
                      obtain ⟨cap, cur, e0, e1, e2⟩ := outer hj
                      obtain ⟨_, hsz⟩ := e2 _ (List.getElem?_eq_getElem hj)
                      rw [Nat.succ_mul] at hsz
                      have gne : ∀ b, rowBlk (a.eval x) = some b → ∀ u, (RV.deep vv us).has u → u ≠ b := fun b hb1 u hu hh => hqr (sat.ok.inj q r _ _ _ _ b hTq' rfl hT' rfl hbq hb (has_row.2 hb1) (by rw [← hh]; exact hu))
                      obtain ⟨f1, f2⟩ := D.write (own' := ownAt own j) (hs' := []) (us' := fun i' => if i' = j then a.eval x else us i') (d' := dd) (cs' := [a.eval x]) (off := off) (k := 1) (List.getElem?_eq_getElem hj) e0 e1 (by omega) rfl
                        (fun i' hi' => ⟨by simp [ownAt, hi', cnd], by rw [hmem i' hi'], by simp [hi']⟩)
                        (fun i' b hi' hb' hb2 => by
                          rw [if_pos rfl] at hb2
                          exact gne b hb2 b (has_deep.2 (.inr ⟨i', hb'⟩)) rfl)
                        (fun b hb' => by
                          rw [if_pos rfl] at hb'
                          exact ⟨fun hh => gne b hb' g (has_deep.2 (.inl hgb)) hh.symm, (sat.ok.holds q _ _ hTq' hbq).cells rfl (has_row.2 hb')⟩)
                        (fun w' cs fr hl ex => by
                          rw [if_pos rfl, show ownAt own j j = true by simp [ownAt, cnd], take_set (by omega)]
                          have emp : ∃ d0, Rd h sh (cs.set off nilS) d0 ∧ PutR sh off eq d0 x0 dd := by
                            unfold ElH at ex
                            cases hh : memH j hs with
                            | false =>
                              rw [hh] at ex
                              cases hoo : own j with
                              | false =>
                                rw [hoo] at ex
                                obtain ⟨d0, hd0⟩ := hdd.ex []
                                exact ⟨d0, hd0.rd ex.1 (SlAt.nil _ _), hd0.turn hdd⟩
                              | true =>
                                rw [hoo] at ex
                                obtain ⟨d0, z, r0, p0, _, _⟩ := ex
                                exact ⟨d0, r0, p0.trans hdd⟩
                            | true =>
                              rw [hh] at ex
                              obtain ⟨_, d0, z, r0, p0, _⟩ := ex
                              exact ⟨d0, r0, p0.trans hdd⟩
                          obtain ⟨d0, r0, p0⟩ := emp
                          refine ⟨d0, x0, by rw [List.set_set]; exact r0, p0, by rw [List.getElem?_set_self (by omega)], hrow.move (FH.le.refl h) fun b hb' => fr b fun hh => gne b hb' g (has_deep.2 (.inl hgb)) hh.symm⟩)
                      have r1 := run_storeVar_at (o := j * sz + off) (v := a.eval x) ti e1 (by rw [hone.1, a2]; rfl) (by rw [hz, a2]; omega) (by rw [hone.1]; intro u hu; simp at hu; subst hu; exact hone)
                      rw [hone.1, a2, hz] at r1
                      rw [hz] at ep
                      have ok1 := sat.ok.forget hTq'
                      have hT1 : ((eff s.gl s.T).set q .gone)[r]? = some (.deep tt sh l tq eq off own hs) := by rw [List.getElem?_set_ne hqr]; exact hT'
                      have ok2 := ok1.upd3 (f := jsC r) (r' := .deep tt sh (l.set j dd) tq eq off (ownAt own j) []) (v := .deep vv fun i' => if i' = j then a.eval x else us i') (row := some g) (X := fun b => rowBlk (a.eval x) = some b) hT1 rfl hb (grown_setRow w g _) (fun k e => by cases e; exact .inl hgb)
                        (fun b hb' => by
                          obtain ⟨o1, o2, o3⟩ := sat.ok.own q _ _ b hTq' rfl hbq (has_row.2 hb')
                          refine ⟨o1, o2, o3, fun j' rj vj hj' ej lj ej' hbj => ?_⟩
                          have hjq : j' ≠ q := by
                            rintro rfl
                            rw [List.getElem?_set_self (List.getElem?_eq_some_iff.1 hTq').1] at ej
                            cases ej; cases lj
                          rw [List.getElem?_set_ne (Ne.symm hjq)] at ej
                          exact hjq (sat.ok.inj j' q _ _ _ _ b ej lj hTq' rfl ej' hbq hbj (has_row.2 hb')))
                        (fun b hb' => by
                          rw [has_deep] at hb'
                          rcases hb' with hb' | ⟨i', hb'⟩
                          · exact .inl (has_deep.2 (.inl hb'))
                          · by_cases hi' : i' = j
                            · rw [if_pos hi'] at hb'; exact .inr (.inl hb')
                            · rw [if_neg hi'] at hb'; exact .inl (has_deep.2 (.inr ⟨i', hb'⟩)))
                        (fun x y c => CnC.js hb (.inl rfl) c) f2
                      refine upd_step sat k rfl (by rw [ho]; rfl) (.inr ⟨exec rfl ep r1, rfl⟩) (FH.le.refl h) ((sat.map (f := jsC r) (T' := setL (mT (jsC r) (setL s.T q ([], .gone))) r ([], .deep tt sh (l.set j dd) tq eq off (ownAt own j) [])) (β' := β.set r (.deep vv fun i' => if i' = j then a.eval x else us i')) (FH.le.refl h) (fun _ => rfl) (fun x y c => CnC.js hb (.inl rfl) c) ?_ ?_).put (dOK_lt hd) rfl (fun _ => rfl) fun hh => by cases hh)
                      · rw [eff_set, eff_m, eff_set]
                        exact ok2
                      · intro p' hp'
                        rw [setL_eq] at hp'
                        rcases List.mem_or_eq_of_mem_set hp' with hp' | hp'
                        · obtain ⟨p2, h1, h2⟩ := mT_gd hp'
                          rw [← h2]
                          exact gT_set sat p2 h1
                        · subst hp'; rfl
                    · exact k.elim
                  · exact k.elim
                · exact k.elim
              · exact k.elim
            · exact k.elim
      · cases hq
    · cases hq
  · rename_i r j k0 sz off hp
    obtain ⟨⟨vv, us, g, hb, hgb, ep⟩, _⟩ := getE_ok sat hg tr hp
    split at hq
    · rename_i tt sh l t2 e so own hs hT
      have hT' := effres hT tr
      have D : DeepH h w tt sh l t2 e so own hs vv us := sat.ok.holds r _ _ hT' hb
      split at hq
      · rename_i v hv
        have cv := getE_ok sat hg tr hv
        cases hq
        split at k
        · exact k.elim
        rename_i hz
        have hz : sz = e.size := Nat.eq_of_beq_eq_true hz
        obtain ⟨⟨o1, o2, o3⟩, k⟩ := k
        have hdj := List.getElem?_eq_getElem o3
        have k := k _ hdj
        split at k
        · rename_i xs hxs
          obtain ⟨hk, k⟩ := k
          have k := k _ (List.getElem?_eq_getElem hk)
          split at k
          · rename_i y' hy'
            split at k
            · rename_i dd hdd
              have hrow := D.get hdj o1 o2 hxs
              obtain ⟨cur, he, f1, f2, f3, f4⟩ := hrow.write hgb (List.getElem?_eq_getElem hk) (fun hr => updD_ok e hy' hr cv)
              have r1 := run_storeVar_at (o := k0 * sz + off) (v := a.eval x) ti he f2 (by rw [hz]; omega) f3
              rw [hz] at ep r1
              have D' := D.inner (w' := w.setRow g (cur.toList.take (k0 * e.size + off) ++ (a.eval x).cells.toList ++ cur.toList.drop (k0 * e.size + off + i.size)).toArray) hdj o1 o2 (fun b hb' _ => setRow_other w g b _ fun hh => hb' (by rw [hh]; exact hgb)) (fun b hb' => by
                rw [hgb] at hb'; cases hb'
                exact ⟨_, setRow_heap w g _ _ t2 (0, 0) he, rfl⟩) hdd f4
              have ok : OK B h0 (eff s.gl (setL s.T r ([], .deep tt sh (l.set j dd) t2 e so own hs))) h β (w.setRow g (cur.toList.take (k0 * e.size + off) ++ (a.eval x).cells.toList ++ cur.toList.drop (k0 * e.size + off + i.size)).toArray) := by
                rw [effset]
                have := sat.ok.upd (r' := .deep tt sh (l.set j dd) t2 e so own hs) (v := .deep vv us) hT' rfl hb (row := some g) (grown_setRow w g _) (fun k e => by cases e; exact has_deep.2 (.inr ⟨j, hgb⟩)) (fun b hb => .inl hb) (.inl rfl) (by rw [set_same hb]; exact D')
                rwa [set_same hb] at this
              exact upd_step sat k rfl (by rw [ho]; rfl) (.inr ⟨exec rfl ep r1, rfl⟩) (FH.le.refl h) ((sat.mem ok (FH.le.refl h) (Ext.refl β) (gT_set sat)).put (dOK_lt hd) rfl (fun _ => rfl) fun hh => by cases hh)
            · exact k.elim
          · exact k.elim
        · exact k.elim
      · cases hq
    · cases hq
  · cases hq
/-! The row in an element becomes a row of its own. -/
@[reducible] def openK (s : St) (x : Operand) (K : St → Prop) : Option Prop := match x with
  | .tmp t => match lkE s.env t with
    | some ([], .one (.c (.sub r j))) => match nthL s.T r with
      | some ([], .deep tt sh l t2 e so own []) => some ((own j = true ∧ j < l.length) ∧ ∀ d : sh.den, l[j]? = some d → match getF sh d so e with
        | some x => K { s with T := snoc (setL (mT (jsC r) s.T) r ([], .deep tt sh l t2 e so own [j])) ([], .row t2 e x), env := (t, [], .one (.c (.row (lenL s.T)))) :: mEnv (jsC r) s.env, gs := rmG s.gs t }
        | none => False)
      | _ => none
    | _ => none
  | _ => none
theorem open_ok (sat : Sat N B h0 s h β w a) {x : Operand} {q : Prop} (hq : openK s x K = some q) (k : q) : ∃ s' β', K s' ∧ Sat N B h0 s' h β' w a ∧ s'.gl = s.gl := by
  have tr : gv s.gl [] = true := rfl
  unfold openK at hq
  split at hq
  · rename_i t
    split at hq
    · rename_i r j hlk
      split at hq
      · rename_i tt sh l t2 e so own hT
        cases hq
        have hT' := effres hT tr
        obtain ⟨⟨o1, o2⟩, k⟩ := k
        have hdj := List.getElem?_eq_getElem o2
        have k := k _ hdj
        split at k
        · rename_i xs hxs
          obtain ⟨z, z1, z2, _⟩ := sat.env t [] _ hlk
          obtain ⟨⟨vv, us, hb, hus⟩, hone⟩ : CnV h β (.c (.sub r j)) z := z2 rfl
          have D : DeepH h w tt sh l t2 e so own [] vv us := sat.ok.holds r _ _ hT' hb
          have hrow := D.get hdj o1 rfl hxs
          have ok2 := sat.ok.upd3 (f := jsC r) (r' := .deep tt sh l t2 e so own [j]) (v := .deep vv (unRow us j)) (row := none) (X := fun _ => False) hT' rfl hb (grown_refl w none) (fun k e => by cases e) (fun b hb => hb.elim)
            (fun b hb' => by
              rw [has_deep] at hb'
              rcases hb' with hb' | ⟨i', hb'⟩
              · exact .inl (has_deep.2 (.inl hb'))
              · unfold unRow at hb'
                split at hb'
                · cases hb'
                · exact .inl (has_deep.2 (.inr ⟨i', hb'⟩)))
            (fun x y c => CnC.js hb (.inl rfl) c) (D.open hdj o1)
          have ok3 := ok2.addX (r := .row t2 e xs) (v := .row z) (fun b hb' => by
            rw [has_row] at hb'
            rw [← hus] at hb'
            have hu : (RV.deep vv us).has b := has_deep.2 (.inr ⟨j, hb'⟩)
            obtain ⟨p1, p2, p3⟩ := sat.ok.own r _ _ b hT' rfl hb hu
            refine ⟨p1, p2, p3, fun j' rj vj ej lj ej' hbj => ?_⟩
            by_cases hj' : j' = r
            · subst hj'
              rw [List.getElem?_set_self (by have := (List.getElem?_eq_some_iff.1 hb).1; exact this)] at ej'
              cases ej'
              rw [has_deep] at hbj
              rcases hbj with hbj | ⟨i', hbj⟩
              · obtain ⟨g, cap, cur, e0, _, _, e3, _, e5, _⟩ := D.third o2
                rw [e0, rowBlk_own (n := l.length) e3.1] at hbj
                cases hbj
                exact e5 j hb'
              · unfold unRow at hbj
                split at hbj
                · cases hbj
                · rename_i hi'
                  exact hi' (D.1 i' j b hbj hb')
            · rw [List.getElem?_set_ne (Ne.symm hj')] at ej'
              rw [List.getElem?_set_ne (Ne.symm hj'), List.getElem?_map] at ej
              cases hh : (eff s.gl s.T)[j']? with
              | none => rw [hh] at ej; cases ej
              | some r0 =>
                rw [hh] at ej; cases ej
                exact hj' (sat.ok.inj j' r _ _ _ _ b hh (by rw [← mR_live (jsC r)]; exact lj) hT' rfl ej' hb hbj hu)) (by rw [← hus]; exact hrow)
          have hlen : lenL s.T = (β.set r (.deep vv (unRow us j))).length := by rw [List.length_set, sat.ok.len, eff_len, lenL_eq]
          refine ⟨_, (β.set r (.deep vv (unRow us j))) ++ [.row z], k, ?_, rfl⟩
          have hC : ∀ x y, CnC h β x y → CnC h ((β.set r (.deep vv (unRow us j))) ++ [.row z]) (jsC r x) y := fun x y c => (CnC.js hb (.inl rfl) c).mono (FH.le.refl h) (Ext.append _ _)
          have sm := sat.map (f := jsC r) (T' := snoc (setL (mT (jsC r) s.T) r ([], .deep tt sh l t2 e so own [j])) ([], .row t2 e xs)) (h' := h) (β' := (β.set r (.deep vv (unRow us j))) ++ [.row z]) (w' := w) (FH.le.refl h) (fun _ => rfl) hC (by
              rw [eff_snoc, eff_set, eff_m]; exact ok3) (fun p hp => by
              rw [snoc_eq, List.mem_append] at hp
              rcases hp with hp | hp
              · rw [setL_eq] at hp
                rcases List.mem_or_eq_of_mem_set hp with hp | hp
                · obtain ⟨p2, h1, h2⟩ := mT_gd hp
                  rw [← h2]; exact sat.gT p2 h1
                · subst hp; rfl
              · simp at hp; subst hp; rfl)
          refine ⟨sm.ok, ?_, ?_, sm.defers, sm.sz, ?_, sm.gT⟩
          · intro t' G e' ht
            rw [lkE_cons] at ht
            split at ht
            · rename_i hkt
              subst hkt; cases ht
              refine ⟨z, z1, fun _ => ⟨⟨.row z, ?_, rfl⟩, hone⟩, fun hh => by cases hh⟩
              rw [hlen]; simp
            · exact sm.env t' G e' ht
          · intro d i hi
            obtain ⟨hne, hi⟩ := lkG_rm _ _ _ _ hi
            obtain ⟨G, b, q1, q2⟩ := sm.gs d i hi
            exact ⟨G, b, by rw [lkE_cons, if_neg (Ne.symm hne)]; exact q1, q2⟩
          · intro t' G e' ht
            rw [lkE_cons] at ht
            split at ht
            · cases ht; rfl
            · exact sm.gb _ _ _ ht
        · exact k.elim
      · cases hq
    · cases hq
  · cases hq
/-! Calls that change the row in an element in place. -/
@[reducible] def borX (s : St) (i j : Nat) : List SV → (List SV → Prop) → Prop
  | [], K => K []
  | .c (.sub i' k) :: l, K => match Nat.beq i i' with
    | true => k ≠ j ∧ subQ s [] i' k fun e x => borX s i j l fun r => K (.c (.sl e x) :: r)
    | false => False
  | v :: l, K => match noRow v with
    | true => match borV s [] v with
      | some v' => borX s i j l fun r => K (v' :: r)
      | none => False
    | false => False
@[reducible] def dipK (cx : Cx) (ip : IP) (s : St) (d : Option Nat) (args : List Operand) (K : St → Prop) : Prop := match args with
  | [] => False
  | x :: r => match getE cx s [] x with
    | some (.one (.c (.sub i j))) => match nthL s.T i with
      | some ([], .deep tt sh l t2 e so own hs) => match andB (sheq e ip.sh) (andB (shFlat ip.sh) (!ip.back)) with
        | false => False
        | true => match argsV cx s [] r with
          | none => False
          | some vs => (own j = true ∧ memH j hs = false ∧ j < l.length) ∧ ∀ d0 : sh.den, l[j]? = some d0 → match getF sh d0 so ip.sh with
            | none => False
            | some xs => borX s i j vs fun bs => match datA ip.ps bs with
              | none => False
              | some dd => ip.pre xs dd ∧ match putF sh d0 so ip.sh (ip.res xs dd) with
                | some d1 => K ({ s with T := setL s.T i ([], .deep tt sh (l.set j d1) t2 e so own hs) }.put d [] (.tup []))
                | none => False
      | _ => False
    | _ => False
open Classical in
noncomputable def FH.but (w : World) (u : Value) : FH := fun b o => if rowBlk u = some b then none else vis w b o
theorem but_le (sat : Sat N B h0 s h β w a) {i j : Nat} {r : Res} {vv : Value} {us : Nat → Value} (hT : (eff s.gl s.T)[i]? = some r) (hl : r.live = true) (hb : β[i]? = some (.deep vv us)) : h.le (FH.but w (us j)) := by
  intro b o v hv
  unfold FH.but
  rw [if_neg]
  · exact sat.ok.hw b o v hv
  · intro hh
    rw [(sat.ok.own i r _ b hT hl hb (has_deep.2 (.inr ⟨j, hh⟩))).2.2 o] at hv; cases hv
theorem borX_ok (sat : Sat N B h0 s h β w a) {i j : Nat} {vv : Value} {us : Nat → Value} (hb : β[i]? = some (.deep vv us)) (inj : ∀ j k b, rowBlk (us j) = some b → rowBlk (us k) = some b → j = k) (le : h.le (FH.but w (us j))) :
    ∀ {vs : List SV} {ys : List Value} {K : List SV → Prop}, All2 (CnV h β) vs ys → borX s i j vs K → ∃ bs, K bs ∧ All2 (CnV (FH.but w (us j)) []) bs ys
  | [], [], K, _, k => ⟨[], k, trivial⟩
  | x :: l, y :: ys, K, ⟨c, r⟩, k => by
    have tr : gv s.gl [] = true := rfl
    unfold borX at k
    split at k
    · rename_i he; cases he
    · rename_i i' k' l' K' he
      cases he
      split at k
      · rename_i hi
        have hi := Nat.eq_of_beq_eq_true hi
        subst hi
        obtain ⟨hk, k⟩ := k
        obtain ⟨e, xs, k1, k2⟩ := subQ_ok sat k
        obtain ⟨bs, k3, c3⟩ := borX_ok sat hb inj le r k1
        obtain ⟨⟨vv2, us2, hb2, rfl⟩, hone⟩ := c
        rw [hb] at hb2
        cases hb2
        obtain ⟨tt, hrow⟩ := k2 tr vv us hb
        refine ⟨_, k3, ⟨?_, hone⟩, c3⟩
        refine hrow.sl le fun b hb3 o z hz => ?_
        unfold FH.but
        rw [if_neg]
        · exact hz
        · exact fun hh => hk (inj _ _ b hb3 hh)
      · exact k.elim
    · rename_i v' l' K' hne he
      cases he
      split at k
      · rename_i hnr
        split at k
        · rename_i v1 hv1
          obtain ⟨bs, k3, c3⟩ := borX_ok sat hb inj le r k
          exact ⟨_, k3, (((borV_ok sat tr hv1 c).2 hnr).mono le (Ext.refl [])), c3⟩
        · exact k.elim
      · exact k.elim
set_option maxHeartbeats 4000000 in
theorem dip_step {f : FuncId} {ip : IP} (hip : IPOK P cx.gd f ip) (hf : ∃ fn, P.funcs[f]? = some fn ∧ fn.body.isSome = true ∧ (fn.name == "runtime.NumGoroutine") = false)
    (sat : Sat N B h0 s h β w a) (hg : GlobOK cx.gd h) (hd : dOK N o.dst = true) {c : Call} (ho : o.op = .call c) (hcal : c.callee = .value (.func f))
    (k : dipK cx ip s o.dst (tl c.args) K) : OpW P N B h0 h w a o true K := by
  have tr : gv s.gl [] = true := rfl
  unfold dipK at k
  split at k
  · exact k.elim
  rename_i x r hargs0
  split at k
  · rename_i i j hx
    split at k
    · rename_i tt sh l t2 e so own hs hT
      split at k
      · exact k.elim
      rename_i hck
      rw [andB_eq, andB_eq, Bool.and_eq_true, Bool.and_eq_true] at hck
      have he : e = ip.sh := sheq_eq hck.1
      subst he
      have hfl := hck.2.1
      have hbk : ip.back = false := by simpa using hck.2.2
      split at k
      · exact k.elim
      rename_i vs hvs
      obtain ⟨⟨o1, o2, o3⟩, k⟩ := k
      have hdj := List.getElem?_eq_getElem o3
      have k := k _ hdj
      split at k
      · exact k.elim
      rename_i xs hxs
      have hT' := effres hT tr
      obtain ⟨⟨vv, us, hb, hus⟩, _⟩ : CnV h β (.c (.sub i j)) (a.eval x) := getE_ok sat hg tr hx
      have D : DeepH h w tt sh l t2 ip.sh so own hs vv us := sat.ok.holds i _ _ hT' hb
      have hrow := D.get hdj o1 o2 hxs
      have le : h.le (FH.but w (us j)) := but_le sat hT' rfl hb
      have hav := argsV_ok sat hg tr hvs
      obtain ⟨bs, k, cb⟩ := borX_ok sat hb D.1 le hav k
      split at k
      · exact k.elim
      rename_i dd hdd
      obtain ⟨hpre, k⟩ := k
      split at k
      · rename_i d1 hd1
        intro Nx Q next
        rw [if_pos rfl]
        obtain ⟨fn, hfn, hbody, hname⟩ := hf
        have exec : (execOp a.eval o).run P w = .ok (.enter f (c.args.map a.eval)) w := by
          simp only [execOp, ho, resolve, hcal, Act.eval, Deferred.ofValue, invoke, Sem.run_bind, Sem.run_pure, Result.andThen_ok, callFunc, run_program, hfn, hname]
          simp [hbody]
          cases hb : fn.body with
          | none => rw [hb] at hbody; cases hbody
          | some _ => simp
        have hargs : (c.args.map a.eval) = (a.eval x :: r.map a.eval).toArray := by
          have : c.args = (x :: r).toArray := by
            cases hc : c.args with
            | mk q => rw [hc] at hargs0; simp only [tl] at hargs0; rw [hargs0]
          rw [this]; simp
        unfold Oper.wp
        rw [exec]
        simp only [Oper.upon]
        rw [hargs]
        refine (hip t2 xs dd (a.eval x) _ (FH.but w (us j)) w (fun b o u hu => ?_) (hg.mono le) (show Holds (FH.but w (us j)) [] w (.row t2 ip.sh xs) (.row (a.eval x)) by rw [← hus]; exact hrow.move le fun _ _ => rfl) (fun b hb' o => ?_) (datA_ok hdd cb) hpre).mono ?_
        · unfold FH.but at hu
          split at hu
          · cases hu
          · exact hu
        · unfold FH.but
          rw [hus, if_pos hb']
        rintro en w' ⟨v', y, rfl, hgr, hv, hold', _, hb2⟩
        obtain ⟨rfl, rfl⟩ := hb2 hbk
        have hrow' : RowH h w' t2 ip.sh (ip.res xs dd) (us j) := by
          have := Holds.flat (h' := h) (show resFlat (.row t2 ip.sh (ip.res xs dd)) = true from hfl) hold'
          rw [hus]; exact this
        have D' : DeepH h w' tt sh (l.set j d1) t2 ip.sh so own hs vv us := D.inner hdj o1 o2 (fun b hb' hx' => by
            obtain ⟨o', ho'⟩ := hx'
            exact hgr.block b (Array.getElem?_eq_some_iff.1 ho').1 (fun hh => hb' (by rw [hus]; exact hh.symm))) (fun b hb' => by
            exact Holds.cells (h := h) (β := []) (r := .row t2 ip.sh (ip.res xs dd)) (v := .row (us j)) hrow' rfl (has_row.2 hb')) hd1 hrow'
        have ok : OK B h0 (eff s.gl (setL s.T i ([], .deep tt sh (l.set j d1) t2 ip.sh so own hs))) h β w' := by
          rw [effset]
          have := sat.ok.upd (r' := .deep tt sh (l.set j d1) t2 ip.sh so own hs) (v := .deep vv us) hT' rfl hb hgr (fun k e => has_deep.2 (.inr ⟨j, by rw [hus]; exact e⟩)) (fun b hb => .inl hb) (.inl rfl) (by rw [set_same hb]; exact D')
          rwa [set_same hb] at this
        exact next _ _ _ _ _ k (FH.le.refl h) ((sat.mem ok (FH.le.refl h) (Ext.refl β) (gT_set sat)).put (dOK_lt hd) rfl (fun _ => ⟨[], rfl, trivial⟩) fun hh => by cases hh)
      · exact k.elim
    · exact k.elim
  · exact k.elim
/-! A row whose elements have rows of their own comes to be read as a row of data: the elements' rows are frozen. -/
theorem CnC.us {h : FH} {β : List RV} {i : Nat} {v : Value} {us : Nat → Value} (hu : β[i]? = some (.deep v us)) {x : SC} {y : Value} (c : CnC h β x y) : CnC h (β.set i (.row v)) (jsC i x) y := by
  unfold jsC
  split
  · rename_i hf
    cases x with
    | v _ => exact c
    | sl _ _ => exact c
    | fp _ _ => exact c
    | one _ _ => exact c
    | abs _ => exact c
    | junk => trivial
    | own j off =>
      obtain ⟨b, e, e'⟩ := c
      refine ⟨b, ?_, e'⟩
      rw [set_get hu, if_neg]
      · exact e
      · rintro rfl; rw [hu] at e; cases e
    | row j =>
      obtain ⟨z, e, e'⟩ := c
      by_cases hj : j = i
      · subst hj
        rw [hu] at e; cases e
        exact ⟨.row v, by rw [set_get hu, if_pos rfl], e'⟩
      · exact ⟨z, by rw [set_get hu, if_neg hj]; exact e, e'⟩
    | rowp j k sz off =>
      obtain ⟨z, g, e, e', e2⟩ := c
      by_cases hj : j = i
      · subst hj
        rw [hu] at e; cases e
        exact ⟨.row v, g, by rw [set_get hu, if_pos rfl], e', e2⟩
      · exact ⟨z, g, by rw [set_get hu, if_neg hj]; exact e, e', e2⟩
    | sub j k =>
      obtain ⟨z, us2, e, e'⟩ := c
      exact ⟨z, us2, by rw [set_get hu, if_neg (beqT hf)]; exact e, e'⟩
    | subp j k m sz off =>
      obtain ⟨z, us2, g, e, e'⟩ := c
      exact ⟨z, us2, g, by rw [set_get hu, if_neg (beqT hf)]; exact e, e'⟩
  · trivial
theorem DeepH.row {h h' : FH} {w : World} {t : TypeId} {s : Sh} {l : List s.den} {tt : TypeId} {e : Sh} {so : Nat} {own : Nat → Bool} {v : Value} {us : Nat → Value} (x : DeepH h w t s l tt e so own [] v us) (le : h.le h')
    (hb : ∀ b, (∃ j, rowBlk (us j) = some b) → ∀ o z, vis w b o = some z → h' b o = some z) : RowH h' w t s l v ∧ ∀ g, rowBlk v = some g → ∀ j, rowBlk (us j) ≠ some g := by
  obtain ⟨_, _, x⟩ := x
  rcases x with ⟨e1, e2⟩ | ⟨ra, e1, e2⟩ | ⟨g, cap, cur, e1, q1, q2, q3, q4, q5, q6⟩
  · exact ⟨.inl ⟨e1, e2⟩, fun g hg => by subst e1; simp [rowBlk] at hg⟩
  · exact ⟨.inr (.inl ⟨ra, e1, e2⟩), fun g hg => by subst e1; simp [rowBlk] at hg⟩
  · have lc : cur.toList.length = cap * s.size := by simpa using q4
    have hm : l.length * s.size ≤ cap * s.size := Nat.mul_le_mul_right _ q2
    refine ⟨.inr (.inr ⟨g, cap, cur, e1, q1, q2, q3, q4, ?_⟩), fun g' hg' => ?_⟩
    · refine RdL.of_get (k := s.size) (by rw [List.length_take]; omega) fun j d hd => ?_
      have hj := (List.getElem?_eq_some_iff.1 hd).1
      have hm : (j + 1) * s.size ≤ l.length * s.size := Nat.mul_le_mul_right _ hj
      rw [Nat.succ_mul] at hm
      have e5 : List.take s.size (List.drop (j * s.size) (List.take (l.length * s.size) cur.toList)) = List.take s.size (List.drop (j * s.size) cur.toList) := by
        apply List.ext_getElem?
        intro p
        simp only [List.getElem?_take, List.getElem?_drop]
        split
        · rw [if_pos (by omega)]
        · rfl
      rw [e5]
      exact (q6 j d hd).rd le fun b hu => hb b ⟨j, hu⟩
    · rw [e1, rowBlk_own q3.1] at hg'
      cases hg'; exact q5
theorem OK.undeep {T : List Res} (ok : OK B h0 T h β w) {i : Nat} {t : TypeId} {s : Sh} {l : List s.den} {tt : TypeId} {e : Sh} {so : Nat} {own : Nat → Bool} {v : Value} {us : Nat → Value}
    (hT : T[i]? = some (.deep t s l tt e so own [])) (hu : β[i]? = some (.deep v us)) :
    h.le (h.plusS w fun b => ∃ j, rowBlk (us j) = some b) ∧ OK B h0 ((T.map (mR (jsC i))).set i (.row t s l)) (h.plusS w fun b => ∃ j, rowBlk (us j) = some b) (β.set i (.row v)) w := by
  have hi : i < T.length := (List.getElem?_eq_some_iff.1 hT).1
  have hi' : i < β.length := by rw [ok.len]; exact hi
  have hl : (Res.deep t s l tt e so own []).live = true := rfl
  have own' := fun g hv => ok.own i _ _ g hT hl hu hv
  have sub : ∀ {b : Nat}, (∃ j, rowBlk (us j) = some b) → (RV.deep v us).has b := fun hb => has_deep.2 (.inr hb)
  have le : h.le (h.plusS w fun b => ∃ j, rowBlk (us j) = some b) := by
    intro b o x hb
    unfold FH.plusS
    by_cases hbg : ∃ j, rowBlk (us j) = some b
    · rw [(own' b (sub hbg)).2.2 o] at hb; cases hb
    · rw [if_neg hbg]; exact hb
  have hold : DeepH h w t s l tt e so own [] v us := ok.holds i _ _ hT hu
  obtain ⟨rh, rn⟩ := hold.row le fun b hb o z hz => by
    unfold FH.plusS
    rw [if_pos hb]; exact hz
  have get : ∀ {j : Nat} {rj : Res}, j ≠ i → ((T.map (mR (jsC i))).set i (.row t s l))[j]? = some rj → ∃ r0, T[j]? = some r0 ∧ rj = mR (jsC i) r0 := by
    intro j rj hj e
    rw [List.getElem?_set_ne (Ne.symm hj), List.getElem?_map] at e
    cases hh : T[j]? with
    | none => rw [hh] at e; cases e
    | some r0 => rw [hh] at e; cases e; exact ⟨r0, rfl, rfl⟩
  have hasv : ∀ {b : Nat}, (RV.row v).has b → (RV.deep v us).has b := fun hb => has_deep.2 (.inl (has_row.1 hb))
  refine ⟨le, {
    below := ok.below
    dr := ok.dr
    len := by simp [ok.len]
    holds := ?_
    own := ?_
    inj := ?_
    hle := ok.hle.trans le
    hw := ?_
    hg := ?_
    kn := ok.kn }⟩
  · intro j rj vj ej ej'
    by_cases hj : j = i
    · subst hj
      rw [List.getElem?_set_self (by simpa using hi)] at ej
      rw [List.getElem?_set_self hi'] at ej'
      cases ej; cases ej'; exact rh
    · obtain ⟨r0, e0, rfl⟩ := get hj ej
      rw [List.getElem?_set_ne (Ne.symm hj)] at ej'
      exact (ok.holds j r0 vj e0 ej').map le (fun x y c => (CnC.us hu c).mono le (Ext.refl _)) fun _ _ _ => rfl
  · intro j rj vj b ej hlj ej' hb
    by_cases hj : j = i
    · subst hj
      rw [List.getElem?_set_self hi'] at ej'
      cases ej'
      obtain ⟨a1, a2, a3⟩ := own' b (hasv hb)
      refine ⟨a1, a2, fun o => ?_⟩
      unfold FH.plusS
      rw [if_neg, a3 o]
      rintro ⟨j', hj'⟩
      exact rn b (has_row.1 hb) j' hj'
    · obtain ⟨r0, e0, rfl⟩ := get hj ej
      rw [List.getElem?_set_ne (Ne.symm hj)] at ej'
      have hlj' : r0.live = true := by rw [← mR_live (jsC i)]; exact hlj
      obtain ⟨a1, a2, a3⟩ := ok.own j r0 vj b e0 hlj' ej' hb
      refine ⟨a1, a2, fun o => ?_⟩
      unfold FH.plusS
      rw [if_neg, a3 o]
      exact fun hg => hj (ok.inj j i _ _ _ _ _ e0 hlj' hT hl ej' hu hb (sub hg))
  · intro j k r1 r2 u1 u2 b e1 l1 e2 l2 e3 e4 b1 b2
    have look : ∀ {m : Nat} {rm : Res} {um : RV}, ((T.map (mR (jsC i))).set i (.row t s l))[m]? = some rm → rm.live = true → (β.set i (.row v))[m]? = some um → um.has b → ∃ r0 u0, T[m]? = some r0 ∧ r0.live = true ∧ β[m]? = some u0 ∧ u0.has b := by
      intro m rm um e l e' hb
      by_cases hm : m = i
      · subst hm
        rw [List.getElem?_set_self hi'] at e'
        cases e'
        exact ⟨_, _, hT, hl, hu, hasv hb⟩
      · obtain ⟨r0, e0, rfl⟩ := get hm e
        rw [List.getElem?_set_ne (Ne.symm hm)] at e'
        exact ⟨r0, um, e0, by rw [← mR_live (jsC i)]; exact l, e', hb⟩
    obtain ⟨p1, p2, p3, p4, p5, p6⟩ := look e1 l1 e3 b1
    obtain ⟨q1, q2, q3, q4, q5, q6⟩ := look e2 l2 e4 b2
    exact ok.inj j k p1 q1 p2 q2 b p3 p4 q3 q4 p5 q5 p6 q6
  · intro b o x hb
    unfold FH.plusS at hb
    split at hb
    · exact hb
    · exact ok.hw b o x hb
  · intro b o x hb
    unfold FH.plusS at hb
    split at hb
    · rename_i hbg; exact .inr (own' b (sub hbg)).1
    · exact ok.hg b o x hb
@[reducible] def undS (s : St) (i : Nat) : St := match nthL s.T i with
  | some ([], .deep t sh l _ _ _ _ []) => { s with T := setL (mT (jsC i) s.T) i ([], .row t sh l), env := mEnv (jsC i) s.env }
  | _ => s
theorem Sat.undS (sat : Sat N B h0 s h β w a) (i : Nat) : ∃ h' β', h.le h' ∧ Sat N B h0 (undS s i) h' β' w a := by
  unfold Go.Eng.undS
  split
  · rename_i t sh l t2 e so own hT
    have hT' : (eff s.gl s.T)[i]? = some (.deep t sh l t2 e so own []) := by rw [eff_get, ← nthL_eq, hT]; rfl
    have hlt : i < β.length := by rw [sat.ok.len]; exact (List.getElem?_eq_some_iff.1 hT').1
    have hu := List.getElem?_eq_getElem hlt
    have hold := sat.ok.holds i _ _ hT' hu
    cases hb : β[i] with
    | blk b => rw [hb] at hold; exact hold.elim
    | no => rw [hb] at hold; exact hold.elim
    | row _ => rw [hb] at hold; exact hold.elim
    | deep v us =>
      rw [hb] at hu
      obtain ⟨le, ok'⟩ := sat.ok.undeep hT' hu
      refine ⟨_, _, le, sat.map (f := jsC i) le (fun _ => rfl) (fun x y c => (CnC.us hu c).mono le (Ext.refl _)) ?_ ?_⟩
      · rw [eff_set, eff_m]
        exact ok'
      · intro p hp
        rw [setL_eq] at hp
        rcases List.mem_or_eq_of_mem_set hp with hp | hp
        · obtain ⟨q, h1, h2⟩ := mT_gd hp
          rw [← h2]; exact sat.gT q h1
        · subst hp; rfl
  · exact ⟨h, β, FH.le.refl h, sat⟩
@[reducible] def frzU (s : St) (i : Nat) : St := match Nat.ble 1000 i with
  | true => undS s (i - 1000)
  | false => frzS s i
@[reducible] def frzUs (s : St) : List Nat → St
  | [] => s
  | i :: r => frzUs (frzU s i) r
theorem Sat.frzUs : ∀ {l : List Nat} {s : St} {h : FH} {β : List RV}, Sat N B h0 s h β w a → ∃ h' β', h.le h' ∧ Sat N B h0 (frzUs s l) h' β' w a
  | [], s, h, β, sat => ⟨h, β, FH.le.refl h, sat⟩
  | i :: r, s, h, β, sat => by
    have h1 : ∃ h' β', h.le h' ∧ Sat N B h0 (frzU s i) h' β' w a := by
      unfold frzU
      split
      · exact sat.undS _
      · obtain ⟨h', le, sat'⟩ := sat.frz1 i; exact ⟨h', β, le, sat'⟩
    obtain ⟨h1, β1, le1, sat1⟩ := h1
    obtain ⟨h2, β2, le2, sat2⟩ := Sat.frzUs (l := r) sat1
    exact ⟨h2, β2, le1.trans le2, sat2⟩
@[reducible] def deepAll (s : St) : List (Nat × TypeId × Sh × Nat) → St
  | [] => s
  | (i, tt, e, so) :: l => deepAll (deepS s i tt e so) l
theorem Sat.deepAll : ∀ (l : List (Nat × TypeId × Sh × Nat)) {s : St} {β : List RV}, Sat N B h0 s h β w a → ∃ β', Sat N B h0 (deepAll s l) h β' w a
  | [], s, β, sat => ⟨β, sat⟩
  | (i, tt, e, so) :: l, s, β, sat => by
    obtain ⟨β1, sat1⟩ := sat.deepS i tt e so
    exact Sat.deepAll l sat1
theorem OK.reread {T : List Res} (ok : OK B h0 T h β w) {i : Nat} {r r' : Res} (hT : T[i]? = some r) (hl : r.live = true) (hold : ∀ v, Holds h β w r v → Holds h β w r' v) : OK B h0 (T.set i r') h β w := by
  have hi : i < T.length := (List.getElem?_eq_some_iff.1 hT).1
  have key : ∀ {m : Nat} {rm : Res}, (T.set i r')[m]? = some rm → rm.live = true → ∃ rm', T[m]? = some rm' ∧ rm'.live = true := by
    intro m rm e l
    by_cases hm : m = i
    · subst hm; exact ⟨r, hT, hl⟩
    · rw [List.getElem?_set_ne (Ne.symm hm)] at e; exact ⟨rm, e, l⟩
  exact {
    below := ok.below
    dr := ok.dr
    len := by simp [ok.len]
    holds := by
      intro j rj vj ej ej'
      by_cases hj : j = i
      · subst hj
        rw [List.getElem?_set_self hi] at ej
        cases ej
        exact hold vj (ok.holds j r vj hT ej')
      · rw [List.getElem?_set_ne (Ne.symm hj)] at ej; exact ok.holds j rj vj ej ej'
    own := by
      intro j rj vj b ej l ej' hb
      obtain ⟨rm, e1, e2⟩ := key ej l
      exact ok.own j rm vj b e1 e2 ej' hb
    inj := by
      intro j k r1 r2 u v b e1 l1 e2 l2 e3 e4 b1 b2
      obtain ⟨q1, f1, f2⟩ := key e1 l1
      obtain ⟨q2, g1, g2⟩ := key e2 l2
      exact ok.inj j k q1 q2 u v b f1 f2 g1 g2 e3 e4 b1 b2
    hle := ok.hle
    hw := ok.hw
    hg := ok.hg
    kn := ok.kn }
@[reducible] def nilC1 (s : St) (i c : Nat) (t : TypeId) (sh : Sh) : St := match nthL s.T i with
  | some ([], .blk t' cs) => match nthL cs c with
    | some (.v (.slice none 0 0)) => { s with T := snoc (setL s.T i ([], .blk t' (setL cs c (.row (lenL s.T))))) ([], .row t sh []) }
    | _ => s
  | _ => s
theorem All2.setL {α β : Type} {R : α → β → Prop} {y : α} {z : β} (hR : R y z) : ∀ {l : List α} {m : List β} {c : Nat}, m[c]? = some z → All2 R l m → All2 R (Eng.setL l c y) m
  | [], [], _, h, _ => by simp at h
  | _ :: _, _ :: _, 0, h, ⟨_, b⟩ => by simp at h; subst h; exact ⟨hR, b⟩
  | _ :: _, _ :: _, c + 1, h, ⟨a, b⟩ => ⟨a, All2.setL hR (by simpa using h) b⟩
theorem Sat.nilC1 (sat : Sat N B h0 s h β w a) (i c : Nat) (t : TypeId) (sh : Sh) : ∃ β', Sat N B h0 (nilC1 s i c t sh) h β' w a := by
  unfold Eng.nilC1
  split
  · rename_i t' cs hT
    split
    · rename_i hc
      have hT' := effres hT (show gv s.gl [] = true from rfl)
      have ok1 : OK B h0 (eff s.gl s.T ++ [.row t sh []]) h (β ++ [.row (.slice none 0 0)]) w := sat.ok.add (r := .row t sh []) (v := .row (.slice none 0 0)) (grown_refl w none) (fun b hb => by rw [has_row] at hb; simp [rowBlk] at hb) (.inl ⟨rfl, rfl⟩)
      have hi := (List.getElem?_eq_some_iff.1 hT').1
      have hlen : lenL s.T = β.length := by rw [sat.ok.len, eff_len, lenL_eq]
      have hT1 : (eff s.gl s.T ++ [.row t sh []])[i]? = some (.blk t' cs) := by rw [List.getElem?_append_left hi]; exact hT'
      have ok2 := ok1.reread (r' := .blk t' (Eng.setL cs c (.row (lenL s.T)))) hT1 rfl fun v hv => by
        cases v with
        | blk b =>
          obtain ⟨ys, e1, al⟩ := hv
          refine ⟨ys, e1, ?_⟩
          obtain ⟨y, hy, hcn⟩ := al.get (show cs[c]? = some (.v (.slice none 0 0)) by rw [← nthL_eq]; exact hc)
          obtain rfl : y = .slice none 0 0 := hcn.1.1
          refine All2.setL ?_ hy al
          refine ⟨⟨.row (.slice none 0 0), ?_, rfl⟩, rfl, rfl⟩
          rw [hlen]; simp
        | row _ => exact hv.elim
        | deep _ _ => exact hv.elim
        | no => exact hv.elim
      refine ⟨β ++ [.row (.slice none 0 0)], sat.mem ?_ (FH.le.refl h) (Ext.append _ _) fun p hp => ?_⟩
      · rw [eff_snoc, eff_set]
        have e : ((eff s.gl s.T) ++ [Res.row t sh []]).set i (.blk t' (Eng.setL cs c (.row (lenL s.T)))) = (eff s.gl s.T).set i (.blk t' (Eng.setL cs c (.row (lenL s.T)))) ++ [.row t sh []] := by rw [List.set_append_left _ _ hi]
        rw [e] at ok2
        exact ok2
      · rw [snoc_eq, List.mem_append] at hp
        rcases hp with hp | hp
        · rw [setL_eq] at hp
          rcases List.mem_or_eq_of_mem_set hp with hp | hp
          · exact sat.gT p hp
          · subst hp; rfl
        · simp at hp; subst hp; rfl
    · exact ⟨β, sat⟩
  · exact ⟨β, sat⟩
@[reducible] def nilCs (s : St) : List (Nat × Nat × TypeId × Sh) → St
  | [] => s
  | (i, c, t, sh) :: l => nilCs (nilC1 s i c t sh) l
theorem Sat.nilCs : ∀ (l : List (Nat × Nat × TypeId × Sh)) {s : St} {β : List RV}, Sat N B h0 s h β w a → ∃ β', Sat N B h0 (nilCs s l) h β' w a
  | [], s, β, sat => ⟨β, sat⟩
  | (i, c, t, sh) :: l, s, β, sat => by
    obtain ⟨β1, sat1⟩ := sat.nilC1 i c t sh
    exact Sat.nilCs l sat1
/-! copy, min. -/
theorem run_copy0 {dT sT ty el : TypeId} {i : TI} (k : TIOK P el i) (hu : P.underlying dT = some (.slice el)) {d b : Option Addr} {dLen dCap sLen sCap : Nat} (hn : Nat.min sLen dLen = 0) :
    (Builtin.copy_ #[dT, sT] ty #[.slice d dLen dCap, .slice b sLen sCap]).run P w = .ok (goInt 0) w := by
  have hl : ∀ (x : Addr), (loadCells x 0).run P w = .ok #[] w := fun x => by simpa using run_loadCells_list (P := P) w x [] (by simp)
  cases d <;> cases b <;> simp [Builtin.copy_, run_underlying hu, Builtin.lenOf, Builtin.firstCells, run_sizeOf k, hn, storeCells, hl]
theorem run_copy1 {dT sT ty el : TypeId} {i : TI} (k : TIOK P el i) (hu : P.underlying dT = some (.slice el)) {g dLen dCap : Nat} {b : Addr} {sLen sCap : Nat} {cur : Array Value} {t : TypeId} {cs : List Value}
    (hg : w.heap[g]? = some (.cells cur t (0, 0))) (hn : cs.length = Nat.min sLen dLen * i.size) (hsrc : ∀ j v, cs[j]? = some v → w.cell? (b.add j) = some v) (hfit : cs.length ≤ cur.size) (h1 : ∀ v ∈ cs, v.oneCell' = true) :
    (Builtin.copy_ #[dT, sT] ty #[.slice (some ⟨g, 0, none⟩) dLen dCap, .slice (some b) sLen sCap]).run P w = .ok (goInt (Nat.min sLen dLen)) (w.setRow g (cs ++ cur.toList.drop cs.length).toArray) := by
  have hl := run_loadCells_list (P := P) w b cs hsrc
  have hst := run_storeCells_at P g 0 t cs 0 cur w hg (by simpa using hfit) h1
  simp only [Nat.add_zero, Nat.zero_add, List.take_zero, List.nil_append] at hst
  simp [Builtin.copy_, run_underlying hu, Builtin.lenOf, Builtin.firstCells, run_sizeOf k, ← hn, hl, hst]
@[reducible] def copyK (cx : Cx) (s : St) (d : Option Nat) (t : TypeId) (x y : Operand) (K : St → Prop) : Prop := isOneOf cx t fun el ie sh => match getE cx s [] x with
  | some (.one (.c (.row r))) => match nthL s.T r with
    | some ([], .row tt sh1 l1) => match castD (.sl sh1) l1 (.sl sh) with
      | some l => match getE cx s [] y with
        | some (.one v) => match srcD s sh v with
          | some l2 => K ({ s with T := setL s.T r ([], .row tt sh (l2.take l.length ++ l.drop l2.length)) }.put d [] (vI .i64 (Nat.min l2.length l.length)))
          | none => False
        | _ => False
      | none => False
    | _ => False
  | _ => False
def minI (a b : Int) : Int := if b < a then b else a
@[reducible] def minK (cx : Cx) (s : St) (d : Option Nat) (x y : Operand) (K : St → Prop) : Prop := match getE cx s [] x with
  | some (.one (.c (.v (.int .i64 a)))) => match getE cx s [] y with
    | some (.one (.c (.v (.int .i64 b)))) => K (s.put d [] (vI .i64 (minI a b)))
    | _ => False
  | _ => False
theorem min_step (sat : Sat N B h0 s h β w a) (hg : GlobOK cx.gd h) (hd : dOK N o.dst = true) {x y : Operand} {c : Call} (ho : o.op = .call c) (hcal : c.callee = .builtin .min) (ha : c.args = #[x, y])
    (k : minK cx s o.dst x y K) : OpOK P N B h0 h w a o (gv s.gl []) K := by
  have tr : gv s.gl [] = true := rfl
  unfold minK at k
  split at k
  · rename_i n hx
    have ex : a.eval x = .int .i64 n := (getE_ok sat hg tr hx : CnV h β (.c (.v (.int .i64 n))) (a.eval x)).1.1
    split at k
    · rename_i m hy
      have ey : a.eval y = .int .i64 m := (getE_ok sat hg tr hy : CnV h β (.c (.v (.int .i64 m))) (a.eval y)).1.1
      refine upd_step sat k rfl (by rw [ho]; simp [quietly, hcal]) (.inl ?_) (FH.le.refl h) (sat.put (G := []) (e := vI .i64 (minI n m)) (z := .int .i64 (minI n m)) (dOK_lt hd) rfl (fun _ => ⟨⟨rfl, oneC_int _ _⟩, oneC_int _ _⟩) fun hh => by cases hh)
      simp [execOp, ho, resolve, hcal, ha, invoke, builtin, ex, ey, Builtin.min_, Builtin.min2, minI]
    · exact k.elim
  · exact k.elim
theorem max_stepQ (sat : Sat N B h0 s h β w a) (hg : GlobOK cx.gd h) (hd : dOK N o.dst = true) {x y : Operand} {c : Call} (ho : o.op = .call c) (hcal : c.callee = .builtin .max) (ha : c.args = #[x, y])
    (k : maxK cx s o.dst x y K) : OpOK P N B h0 h w a o (gv s.gl []) K := by
  have tr : gv s.gl [] = true := rfl
  unfold maxK at k
  split at k
  · rename_i n hx
    have ex : a.eval x = .int .i64 n := (getE_ok sat hg tr hx : CnV h β (.c (.v (.int .i64 n))) (a.eval x)).1.1
    split at k
    · rename_i m hy
      have ey : a.eval y = .int .i64 m := (getE_ok sat hg tr hy : CnV h β (.c (.v (.int .i64 m))) (a.eval y)).1.1
      refine upd_step sat k rfl (by rw [ho]; simp [quietly, hcal]) (.inl ?_) (FH.le.refl h) (sat.put (G := []) (e := vI .i64 (maxI n m)) (z := .int .i64 (maxI n m)) (dOK_lt hd) rfl (fun _ => ⟨⟨rfl, oneC_int _ _⟩, oneC_int _ _⟩) fun hh => by cases hh)
      simp [execOp, ho, resolve, hcal, ha, invoke, builtin, ex, ey, Builtin.max_, Builtin.max2, maxI]
    · exact k.elim
  · exact k.elim
set_option maxHeartbeats 1000000 in
theorem copy_step (hc : TisOK P cx.ti) (sat : Sat N B h0 s h β w a) (hg : GlobOK cx.gd h) (hd : dOK N o.dst = true) {t t' : TypeId} {x y : Operand} {c : Call} (ho : o.op = .call c) (hcal : c.callee = .builtin .copy) (ha : c.args = #[x, y]) (hat : c.argTypes = #[t, t'])
    (k : copyK cx s o.dst t x y K) : OpOK P N B h0 h w a o (gv s.gl []) K := by
  have tr : gv s.gl [] = true := rfl
  unfold copyK at k
  unfold isOneOf at k
  split at k
  · rename_i el hde
    have hu := descOf_und hc hde (by simp)
    split at k
    · exact k.elim
    rename_i ie hie
    have tie := hc.get hie
    split at k
    · exact k.elim
    rename_i sh hsh
    split at k
    · rename_i hz
      rw [andB_eq, andB_eq, Bool.and_eq_true, Bool.and_eq_true] at hz
      have hz1 : sh.size = ie.size := Nat.eq_of_beq_eq_true hz.1
      split at k
      · rename_i r hx
        split at k
        · rename_i tt sh1 l1 hT
          split at k
          · rename_i l hl
            obtain ⟨e1, e2⟩ := castSl hl
            subst e1; simp only at e2; subst e2
            split at k
            · rename_i v hv
              split at k
              · rename_i l2 hl2
                have cx' := (getE_ok sat hg tr hx : CnV h β (.c (.row r)) (a.eval x))
                have cv := getE_ok sat hg tr hv
                have hT' := effres hT tr
                have hb := sat.ok.row_of hT' cx'.1
                have hrow : RowH h w tt sh1 l1 (a.eval x) := sat.ok.holds r _ _ hT' hb
                have src := srcD_ok sat hl2 cv
                have exec : ∀ {w' : World}, (Builtin.copy_ #[t, t'] o.type #[a.eval x, a.eval y]).run P w = .ok (goInt (Nat.min l2.length l1.length)) w' → (execOp a.eval o).run P w = .ok (.value (goInt (Nat.min l2.length l1.length))) w' := by
                  intro w' r0
                  simp only [execOp, ho, resolve, hcal, ha, hat, invoke, builtin, Sem.run_bind, Sem.run_pure, Result.andThen_ok]
                  simp [r0]
                have fin : ∀ {w' : World} {row : Option Nat}, Gb w w' row → (∀ k, row = some k → rowBlk (a.eval x) = some k) → (Builtin.copy_ #[t, t'] o.type #[a.eval x, a.eval y]).run P w = .ok (goInt (Nat.min l2.length l1.length)) w' →
                    RowH h w' tt sh1 (l2.take l1.length ++ l1.drop l2.length) (a.eval x) → OpOK P N B h0 h w a o (gv s.gl []) K := by
                  intro w' row hgr hrw r0 hr
                  have ok : OK B h0 (eff s.gl (setL s.T r ([], .row tt sh1 (l2.take l1.length ++ l1.drop l2.length)))) h β w' := by
                    rw [effset]
                    have := sat.ok.upd (r' := .row tt sh1 (l2.take l1.length ++ l1.drop l2.length)) (v := .row (a.eval x)) hT' rfl hb hgr (fun k e => has_row.2 (hrw k e)) (fun b hb => .inl hb) (.inl rfl) hr
                    rwa [set_same hb] at this
                  exact upd_step sat k rfl (by rw [ho]; simp [quietly, hcal]) (.inl (exec r0)) (FH.le.refl h) ((sat.mem ok (FH.le.refl h) (Ext.refl β) (gT_set sat)).put (G := []) (e := vI .i64 (Nat.min l2.length l1.length)) (dOK_lt hd) rfl (fun _ => ⟨⟨rfl, oneC_int _ _⟩, oneC_int _ _⟩) fun hh => by cases hh)
                have zero : ∀ (ad ab : Option Addr) (dC sC : Nat), a.eval x = .slice ad l1.length dC → a.eval y = .slice ab l2.length sC → (l1 = [] ∨ l2 = []) → OpOK P N B h0 h w a o (gv s.gl []) K := by
                  intro ad ab dC sC ex ey h0'
                  have hm : Nat.min l2.length l1.length = 0 := by rcases h0' with rfl | rfl <;> simp
                  refine fin (grown_refl w none) (fun k e => by cases e) ?_ ?_
                  · rw [hm, ex, ey]
                    exact run_copy0 tie hu hm
                  · have : l2.take l1.length ++ l1.drop l2.length = l1 := by rcases h0' with rfl | rfl <;> simp
                    rw [this]; exact hrow
                rcases hrow with ⟨e1, e2⟩ | ⟨ra, e1, e2⟩ | ⟨g, cap, cur, e1, q1, q2, q3, q4, q5⟩
                · rcases src with ⟨s1, s2⟩ | ⟨sa, sc, s1, s2⟩ | ⟨sb, so, sc, cs, s1, s2, s3⟩
                  · exact zero none none 0 0 (by rw [e1, e2]; rfl) (by rw [s1, s2]; rfl) (.inl e2)
                  · exact zero none (some sa) 0 sc (by rw [e1, e2]; rfl) (by rw [s1, s2]; rfl) (.inl e2)
                  · exact zero none _ 0 sc (by rw [e1, e2]; rfl) s1 (.inl e2)
                · rcases src with ⟨s1, s2⟩ | ⟨sa, sc, s1, s2⟩ | ⟨sb, so, sc, cs, s1, s2, s3⟩
                  · exact zero (some ra) none 0 0 (by rw [e1, e2]; rfl) (by rw [s1, s2]; rfl) (.inl e2)
                  · exact zero (some ra) (some sa) 0 sc (by rw [e1, e2]; rfl) (by rw [s1, s2]; rfl) (.inl e2)
                  · exact zero (some ra) _ 0 sc (by rw [e1, e2]; rfl) s1 (.inl e2)
                · rcases src with ⟨s1, s2⟩ | ⟨sa, sc, s1, s2⟩ | ⟨sb, so, sc, cs, s1, s2, s3⟩
                  · exact zero _ none cap 0 e1 (by rw [s1, s2]; rfl) (.inr s2)
                  · exact zero _ (some sa) cap sc e1 (by rw [s1, s2]; rfl) (.inr s2)
                  · have hcs := RdL.size (fun _ _ => Rd.size sh1) s2
                    have lc : cur.toList.length = cap * sh1.size := by simpa using q4
                    have hm1 : l1.length * sh1.size ≤ cap * sh1.size := Nat.mul_le_mul_right _ q2
                    generalize hm : Nat.min l2.length l1.length = m at *
                    have hm2 : m ≤ l2.length := by rw [← hm]; exact Nat.min_le_left _ _
                    have hm3 : m ≤ l1.length := by rw [← hm]; exact Nat.min_le_right _ _
                    have hm4 : m * sh1.size ≤ l2.length * sh1.size := Nat.mul_le_mul_right _ hm2
                    have hm5 : m * sh1.size ≤ l1.length * sh1.size := Nat.mul_le_mul_right _ hm3
                    have ht := RdL.takeDrop (fun _ _ => Rd.size sh1) s2 (a := 0) (b := m) (Nat.zero_le _) hm2
                    simp only [Nat.zero_mul, List.drop_zero] at ht
                    have hlen : (cs.take (m * sh1.size)).length = m * sh1.size := by rw [List.length_take]; omega
                    have r0 := run_copy1 (P := P) (w := w) (dT := t) (sT := t') (ty := o.type) tie hu (g := g) (dLen := l1.length) (dCap := cap) (b := ⟨sb, so, none⟩) (sLen := l2.length) (sCap := sc) (cs := cs.take (m * sh1.size)) q1 (by rw [hlen, hm, hz1]) (fun j v hj => by
                      rw [List.getElem?_take] at hj
                      split at hj
                      · have := s3 j v hj
                        have ea : (⟨sb, so, none⟩ : Addr).add j = ⟨sb, so + j, none⟩ := by unfold Addr.add; split <;> simp_all
                        rw [ea]; exact this
                      · cases hj) (by rw [hlen]; rw [← Array.length_toList, lc]; omega) (fun v hv => (RdL.all (fun _ _ => Rd.one sh1) ht v hv).2)
                    rw [hm] at r0
                    refine fin (row := some g) (grown_setRow w g _) (fun k e => by cases e; rw [e1]; exact rowBlk_own q3.1) (by rw [e1, s1]; exact r0) ?_
                    have el : (l2.take l1.length ++ l1.drop l2.length) = l2.take m ++ l1.drop m := by
                      rcases Nat.le_total l2.length l1.length with hh | hh
                      · have : m = l2.length := by rw [← hm]; exact Nat.min_eq_left hh
                        rw [this, List.take_of_length_le hh, List.take_of_length_le (Nat.le_refl _)]
                      · have : m = l1.length := by rw [← hm]; exact Nat.min_eq_right hh
                        rw [this, List.drop_of_length_le hh, List.drop_of_length_le (Nat.le_refl _)]
                    rw [el]
                    have ll : (l2.take m ++ l1.drop m).length = l1.length := by rw [List.length_append, List.length_take, List.length_drop]; omega
                    refine .inr (.inr ⟨g, cap, _, by rw [ll]; exact e1, setRow_heap w g _ _ tt (0, 0) q1, by rw [ll]; exact q2, q3, ?_, ?_⟩)
                    · simp only [List.size_toArray, List.length_append, List.length_drop, hlen]; omega
                    · rw [ll]
                      have h2 := RdL.split (fun _ _ => Rd.size sh1) (l := l1.take m) (l' := l1.drop m) (by rw [List.take_append_drop]; exact q5)
                      have h3 := ht.append h2.2
                      have e3 : List.take (l1.length * sh1.size) (cs.take (m * sh1.size) ++ List.drop (cs.take (m * sh1.size)).length cur.toList) = cs.take (m * sh1.size) ++ List.drop ((l1.take m).length * sh1.size) (List.take (l1.length * sh1.size) cur.toList) := by
                        rw [hlen, List.length_take, Nat.min_eq_left hm3]
                        apply List.ext_getElem?
                        intro p
                        simp only [List.getElem?_append, List.getElem?_take, List.getElem?_drop, List.length_take, lc]
                        repeat' split
                        all_goals first | rfl | omega | (congr 1; omega) | (exfalso; omega) | skip
                      simp only at e3 ⊢
                      rw [e3]; exact h3
              · exact k.elim
            · exact k.elim
          · exact k.elim
        · exact k.elim
      · exact k.elim
    · exact k.elim
  · exact k.elim
end
end Go.Eng
set_option linter.unusedSimpArgs false
set_option linter.unusedVariables false
namespace Go.Eng
open Go Go.RowKit
@[reducible] def tlS (s : St) (i : Nat) : St := match nthL s.T i with
  | some ([], .row t (.int k) l) => { s with T := setL s.T i ([], .tlr t k l 0) }
  | _ => s
@[reducible] def tlP (cx : Cx) (s : St) (o : Oper) (K : St → Prop) : Option Prop := none
section
variable {cx : Cx} {P : Program} {N : Nat} {B : Base} {h0 : FH} {s : St} {h : FH} {β : List RV} {w : World} {a : Act} {o : Oper} {K : St → Prop}
theorem row_tl {t : TypeId} {k : IntKind} {l : List Int} {v : Value} (x : RowH h w t (.int k) l v) : TlH w t k l 0 v := by
  rcases x with x | x | ⟨g, cap, cur, e0, e1, e2, e3, e4, e5⟩
  · exact .inl x
  · exact .inr (.inl x)
  · refine .inr (.inr ⟨g, cap, cur, e0, e1, e2, e3, by simpa using e4, fun j n hj => ?_⟩)
    have := (e5.get (fun _ _ => Rd.size (.int k)) hj).1
    simp only [Sh.size, Nat.mul_one] at this
    have h2 : ((List.take l.length cur.toList).drop j).take 1 = [.int k n] := this
    have hj' := (List.getElem?_eq_some_iff.1 hj).1
    have h3 : (((List.take l.length cur.toList).drop j).take 1)[0]? = some (.int k n) := by rw [h2]; rfl
    rw [List.getElem?_take, if_pos (by omega), List.getElem?_drop, List.getElem?_take, if_pos (by omega)] at h3
    simpa using h3
theorem Sat.tlS (sat : Sat N B h0 s h β w a) (i : Nat) : Sat N B h0 (tlS s i) h β w a := by
  unfold Go.Eng.tlS
  split
  · rename_i t k l hT
    have hT' := effres hT (show gv s.gl [] = true from rfl)
    refine sat.mem ?_ (FH.le.refl h) (Ext.refl β) fun p hp => ?_
    · rw [eff_set]
      refine sat.ok.reread hT' rfl fun v hv => ?_
      cases v with
      | row v => exact row_tl hv
      | blk _ => exact hv.elim
      | deep _ _ => exact hv.elim
      | no => exact hv.elim
    · rw [setL_eq] at hp
      rcases List.mem_or_eq_of_mem_set hp with hp | hp
      · exact sat.gT p hp
      · subst hp; rfl
  · exact sat
@[reducible] def frzTl (s : St) (i : Nat) : St := match Nat.ble 2000 i with
  | true => tlS s (i - 2000)
  | false => frzU s i
@[reducible] def frzTls (s : St) : List Nat → St
  | [] => s
  | i :: r => frzTls (frzTl s i) r
theorem Sat.frzTls : ∀ {l : List Nat} {s : St} {h : FH} {β : List RV}, Sat N B h0 s h β w a → ∃ h' β', h.le h' ∧ Sat N B h0 (frzTls s l) h' β' w a
  | [], s, h, β, sat => ⟨h, β, FH.le.refl h, sat⟩
  | i :: r, s, h, β, sat => by
    have h1 : ∃ h' β', h.le h' ∧ Sat N B h0 (frzTl s i) h' β' w a := by
      unfold frzTl
      split
      · exact ⟨h, β, FH.le.refl h, sat.tlS _⟩
      · exact Sat.frzUs (l := [i]) sat
    obtain ⟨h1, β1, le1, sat1⟩ := h1
    obtain ⟨h2, β2, le2, sat2⟩ := Sat.frzTls (l := r) sat1
    exact ⟨h2, β2, le1.trans le2, sat2⟩
theorem tlP_ok (hc : TisOK P cx.ti) (sat : Sat N B h0 s h β w a) (hg : GlobOK cx.gd h) (hd : dOK N o.dst = true) {ops : Array Oper} {p : Prop} (e : tlP cx s o K = some p) (k : p) : OpW P N B h0 h w a o (Region.wanted o (yielded ops a.tmps)) K := by
  unfold tlP at e
  cases e
end
end Go.Eng
set_option linter.unusedSimpArgs false
set_option linter.unusedVariables false
namespace Go.Eng
open Go Go.RowKit
@[reducible] def own0 : Nat → Bool := fun j => decide (j = 0)
@[reducible] def joinOwn (n : Nat) (p q : Nat → Bool) : Nat → Bool := fun j => cnd (decide (j < n)) (p j) (q (j - n))
@[reducible] def oneSl (sh : Sh) (eq : Sh) : Bool := match sh with
  | .sl e => decide (e = eq)
  | _ => false
@[reducible] def litDK (cx : Cx) (s : St) (d : Option Nat) (t : TypeId) (q : Nat) (tq : TypeId) (eq : Sh) (l : List eq.den) (parts : List (Nat × Operand)) (K : St → Prop) : Prop := match descOf cx t with
  | .slice el => match lkT cx.ti el with
    | none => False
    | some ie => match ie.shp with
      | none => False
      | some sh => match partsE cx s [] parts with
        | none => False
        | some ps => match andB (oneSl sh eq) (andB (Nat.beq ie.size 1) (Nat.ble 1 ie.bytes)) with
          | false => False
          | true => match fillS (fun j => some (j * ie.size, ie.size)) (repL 1 (mapL SC.v ie.zero)) ps with
            | some [.row q'] => match Nat.beq q q' with
              | true => K ({ s with T := snoc (mT (jkC (lenL s.T)) (setL s.T q ([], .gone))) ([], .deep el (.sl eq) [l] tq eq 0 own0 []), env := mEnv (jkC (lenL s.T)) s.env }.put d [] (.one (.c (.row (lenL s.T)))))
              | false => False
            | _ => False
  | _ => False
@[reducible] def appDK (cx : Cx) (s : St) (d : Option Nat) (t : TypeId) (r : Nat) (tt : TypeId) (sh1 : Sh) (l1 : List sh1.den) (t1 : TypeId) (e1 : Sh) (so1 : Nat) (own1 : Nat → Bool) (r2 : Nat) (tt2 : TypeId) (sh2 : Sh) (l2 : List sh2.den) (t2 : TypeId) (e2 : Sh) (so2 : Nat) (own2 : Nat → Bool) (K : St → Prop) : Prop := isOneOf cx t fun el ie sh =>
  match andB (Nat.beq tt el) (andB (Nat.beq tt2 el) (andB (Nat.beq t1 t2) (andB (decide (e1 = e2)) (andB (Nat.beq so1 so2) (!(Nat.beq r r2)))))) with
  | true => match castD (.sl sh1) l1 (.sl sh) with
    | some l1 => match castD (.sl sh2) l2 (.sl sh) with
      | some l2 => (1 ≤ l2.length ∧ InA (l1.length + l2.length) ie.bytes) ∧ K ({ s with T := setL (mT (jkC r) (setL s.T r2 ([], .gone))) r ([], .deep el sh (l1 ++ l2) t1 e1 so1 (joinOwn l1.length own1 own2) []), env := mEnv (jkC r) s.env }.put d [] (.one (.c (.row r))))
      | none => False
    | none => False
  | false => False
@[reducible] def apP (cx : Cx) (s : St) (o : Oper) (K : St → Prop) : Option Prop := match cx.dm with
  | false => none
  | true => match o.guard with
    | some _ => none
    | none => match o.op with
      | .buildSlice t 1 ps => match tl ps with
        | [(0, x)] => match getE cx s [] x with
          | some (.one (.c (.row q))) => match nthL s.T q with
            | some ([], .row tq eq l) => some (litDK cx s o.dst t q tq eq l (tl ps) K)
            | _ => none
          | _ => none
        | _ => none
      | .call c => match c.callee with
        | .builtin .append => match tl c.args with
          | [x, y] => match getE cx s [] x with
            | some (.one (.c (.row r))) => match nthL s.T r with
              | some ([], .deep tt sh1 l1 t1 e1 so1 own1 []) => match getE cx s [] y with
                | some (.one (.c (.row r2))) => match nthL s.T r2 with
                  | some ([], .deep tt2 sh2 l2 t2 e2 so2 own2 []) => match tl c.argTypes with
                    | [t, t'] => match Nat.beq t t' with
                      | true => some (appDK cx s o.dst t r tt sh1 l1 t1 e1 so1 own1 r2 tt2 sh2 l2 t2 e2 so2 own2 K)
                      | false => none
                    | _ => none
                  | _ => none
                | _ => none
              | _ => none
            | _ => none
          | _ => none
        | _ => none
      | _ => none
section
variable {cx : Cx} {P : Program} {N : Nat} {B : Base} {h0 : FH} {s : St} {h : FH} {β : List RV} {w : World} {a : Act} {o : Oper} {K : St → Prop}
theorem litD_step (hc : TisOK P cx.ti) (sat : Sat N B h0 s h β w a) (hg : GlobOK cx.gd h) (hd : dOK N o.dst = true) {t : TypeId} {parts : Array (Nat × Operand)} (ho : o.op = .buildSlice t 1 parts) {q : Nat} {tq : TypeId} {eq : Sh} {l : List eq.den}
    (hTq : nthL s.T q = some ([], .row tq eq l)) (k : litDK cx s o.dst t q tq eq l (tl parts) K) : OpOK P N B h0 h w a o true K := by
  have tr : gv s.gl [] = true := rfl
  unfold litDK at k
  split at k
  · rename_i el hde
    have hu := descOf_und hc hde (by simp)
    split at k
    · exact k.elim
    rename_i ie hie
    have tie := hc.get hie
    split at k
    · exact k.elim
    rename_i sh hsh
    split at k
    · exact k.elim
    rename_i ps hps
    split at k
    · exact k.elim
    rename_i hz
    rw [andB_eq, andB_eq, Bool.and_eq_true, Bool.and_eq_true] at hz
    have hz1 : ie.size = 1 := Nat.eq_of_beq_eq_true hz.2.1
    split at k
    · rename_i q' hxs
      split at k
      · rename_i hqq
        have hqq := Nat.eq_of_beq_eq_true hqq
        subst hqq
        have htl : (parts.map fun (p : Nat × Operand) => (p.1, a.eval p.2)).toList = (tl parts).map fun p => (p.1, a.eval p.2) := by cases parts; simp
        rw [repL_map] at hxs
        obtain ⟨zs, g1, g2⟩ := fillS_ok (partsE_ok sat hg tr hps) (cells_const fun v hv => tie.zone v (repL_mem hv)) hxs
        obtain ⟨y, rfl, cy⟩ : ∃ y, zs = [y] ∧ CnC h β (.row q) y ∧ oneC y := by
          cases zs with
          | nil => exact g2.elim
          | cons y zs =>
            cases zs with
            | nil => exact ⟨y, rfl, g2.1⟩
            | cons _ _ => exact g2.2.elim
        have hz0 : 0 < ie.zero.length := by rw [tie.zlen]; omega
        obtain ⟨z, hz1', hz2⟩ := run_zero tie w
        have hc1 : ((Array.range (1 * ie.size)).map (fun i => z.cells[i % z.cells.size]!)) = (repL 1 ie.zero).toArray := by
          rw [hz2, ← tie.zlen]; exact zeros_eq hz0
        have run : (execOp a.eval o).run P w = .ok (.value (.slice (some ⟨w.heap.size, 0, none⟩) 1 1)) (w.alloc (.cells #[y] el)) := by
          have hbig : ¬ (1 * ie.size > 2 ^ 24) := by omega
          have h0 : ¬ 1 * ie.size = 0 := by omega
          simp only [execOp, ho, Instr.buildSlice, Sem.run_bind, run_underlying hu, Result.andThen_ok, run_sizeOf tie, hbig, if_false, Sem.run_ite, Sem.run_pure, h0, hz1']
          rw [htl, hc1, g1]
          simp only [Sem.run_bind, newRow, run_newObj, Result.andThen_ok, Sem.run_pure]
          rfl
        have hTq' := effres hTq tr
        have hbq := sat.ok.row_of hTq' cy.1
        have hrow : RowH h w tq eq l y := sat.ok.holds q _ _ hTq' hbq
        have hlen : lenL s.T = β.length := by rw [sat.ok.len, eff_len, lenL_eq]
        have hTl : (eff s.gl s.T).length = β.length := sat.ok.len.symm
        have hql : q < β.length := (List.getElem?_eq_some_iff.1 hbq).1
        have gb := gb_alloc w (.cells #[y] el) none
        have ok1 := sat.ok.forget hTq'
        have ok2 := ok1.add (r := .row el (.sl eq) []) (v := .row (.slice (some ⟨w.heap.size, 0, none⟩) 0 1)) gb
          (fun b hb => by rw [has_row] at hb; simp [rowBlk] at hb; subst hb; simp)
          (.inr (.inr ⟨w.heap.size, 1, #[y], rfl, heap_new _ _, Nat.zero_le _, ⟨Nat.le_refl _, by simp [maxLen]⟩, rfl, rfl⟩))
        have hTn : ((eff s.gl s.T).set q .gone ++ [Res.row el (.sl eq) []])[β.length]? = some (.row el (.sl eq) []) := by
          rw [List.getElem?_append_right (by simp [hTl])]; simp [hTl]
        have hbn : (β ++ [RV.row (.slice (some ⟨w.heap.size, 0, none⟩) 0 1)])[β.length]? = some (.row (.slice (some ⟨w.heap.size, 0, none⟩) 0 1)) := by simp
        have old : ∀ b, rowBlk y = some b → b < w.heap.size := fun b hb => (sat.ok.own q _ _ b hTq' rfl hbq (has_row.2 hb)).2.1
        have fr : ∀ b, b < w.heap.size → (w.alloc (.cells #[y] el)).heap[b]? = w.heap[b]? := fun b hb => gb.block b hb (by simp)
        have hold : DeepH h (w.alloc (.cells #[y] el)) el (.sl eq) [l] tq eq 0 own0 [] (.slice (some ⟨w.heap.size, 0, none⟩) 1 1) (fun j => if j = 0 then y else nilS) := by
          have bn : ∀ b, rowBlk nilS ≠ some b := fun b hh => by simp [nilS, rowBlk] at hh
          have z0 : ∀ {j b}, rowBlk (if j = 0 then y else nilS) = some b → j = 0 ∧ rowBlk y = some b := by
            intro j b hb
            by_cases hj : j = 0
            · rw [if_pos hj] at hb; exact ⟨hj, hb⟩
            · rw [if_neg hj] at hb; exact (bn b hb).elim
          refine ⟨fun j k b h1 h2 => by rw [(z0 h1).1, (z0 h2).1], fun j b hb => ⟨by rw [(z0 hb).1]; simp, ?_⟩, .inr (.inr ⟨w.heap.size, 1, #[y], rfl, heap_new _ _, by simp, ⟨Nat.le_refl _, by simp [maxLen]⟩, rfl, fun j hb => ?_, fun j d hj => ?_⟩)⟩
          · rw [fr b (old b (z0 hb).2)]
            exact (sat.ok.holds q _ _ hTq' hbq).cells rfl (has_row.2 (z0 hb).2)
          · have := old _ (z0 hb).2; omega
          · have hj0 : j = 0 := by
              have := (List.getElem?_eq_some_iff.1 hj).1
              simp at this; exact this
            subst hj0
            simp at hj; subst hj
            show ElH h _ (.sl eq) tq eq 0 true false y ((([y] : List Value).drop (0 * 1)).take 1) l
            exact ⟨[], l, ⟨nilS, rfl, .inl ⟨rfl, rfl⟩⟩, ⟨rfl, rfl, rfl⟩, rfl, hrow.move (FH.le.refl h) fun b hb => fr b (old b hb)⟩
        have ok3 := ok2.upd3 (f := jkC β.length) (r' := .deep el (.sl eq) [l] tq eq 0 own0 []) (v := .deep (.slice (some ⟨w.heap.size, 0, none⟩) 1 1) (fun j => if j = 0 then y else nilS)) (row := none) (X := fun b => rowBlk y = some b) hTn rfl hbn (grown_refl _ none) (fun k e => by cases e)
          (fun b hb => by
            obtain ⟨o1, o2, o3⟩ := sat.ok.own q _ _ b hTq' rfl hbq (has_row.2 hb)
            refine ⟨o1, Nat.lt_of_lt_of_le o2 gb.size, o3, fun j' rj vj hj' ej lj ej' hbj => ?_⟩
            have hjl : j' < β.length := by
              have h1 := (List.getElem?_eq_some_iff.1 ej').1
              simp at h1; omega
            rw [List.getElem?_append_left (by simp [hTl]; exact hjl)] at ej
            rw [List.getElem?_append_left hjl] at ej'
            have hjq : j' ≠ q := by
              rintro rfl
              rw [List.getElem?_set_self (List.getElem?_eq_some_iff.1 hTq').1] at ej
              cases ej; cases lj
            rw [List.getElem?_set_ne (Ne.symm hjq)] at ej
            exact hjq (sat.ok.inj j' q _ _ _ _ b ej lj hTq' rfl ej' hbq hbj (has_row.2 hb)))
          (fun b hb => by
            rw [has_deep] at hb
            rcases hb with hb | ⟨j, hb⟩
            · refine .inl (has_row.2 ?_); simp [rowBlk] at hb ⊢; exact hb
            · by_cases hj : j = 0
              · rw [if_pos hj] at hb; exact .inr (.inl hb)
              · rw [if_neg hj] at hb; simp [nilS, rowBlk] at hb)
          (fun x y c => c.jk _) hold
        intro Nx Q next
        rw [if_pos rfl]
        refine wp_value run (next _ _ _ _ _ k (FH.le.refl h) (fun _ => Gro.of_grown gb) ((sat.map (f := jkC (lenL s.T)) (T' := snoc (mT (jkC (lenL s.T)) (setL s.T q ([], .gone))) ([], .deep el (.sl eq) [l] tq eq 0 own0 [])) (β' := (β ++ [RV.row (.slice (some ⟨w.heap.size, 0, none⟩) 0 1)]).set β.length (.deep (.slice (some ⟨w.heap.size, 0, none⟩) 1 1) (fun j => if j = 0 then y else nilS))) (FH.le.refl h) (fun _ => rfl) (fun x y c => ?_) ?_ ?_).put (dOK_lt hd) rfl (fun _ => ⟨⟨.deep (.slice (some ⟨w.heap.size, 0, none⟩) 1 1) (fun j => if j = 0 then y else nilS), ?_, rfl⟩, rfl, rfl⟩) fun hh => by cases hh))
        · rw [hlen]; exact (c.mono (FH.le.refl h) (Ext.append _ _)).jk _
        · rw [eff_snoc, eff_m, eff_set, hlen]
          have : (((eff s.gl s.T).set q .gone ++ [Res.row el (.sl eq) []]).map (mR (jkC β.length))).set β.length (.deep el (.sl eq) [l] tq eq 0 own0 []) = ((eff s.gl s.T).set q .gone).map (mR (jkC β.length)) ++ [.deep el (.sl eq) [l] tq eq 0 own0 []] := by
            rw [List.map_append, List.set_append_right _ _ (by simp [hTl])]
            simp [hTl]
          rw [← this]
          exact ok3
        · intro p' hp'
          rw [snoc_eq, List.mem_append] at hp'
          rcases hp' with hp' | hp'
          · obtain ⟨p2, h1, h2⟩ := mT_gd hp'
            rw [← h2]
            exact gT_set sat p2 h1
          · simp at hp'; subst hp'; rfl
        · rw [hlen]
          rw [List.getElem?_set_self (by simp)]
      · exact k.elim
    · exact k.elim
  · exact k.elim
theorem run_append_cs {t ty el : TypeId} {i : TI} {v : Value} {n m c b o : Nat} {cs : List Value} (hu : P.underlying t = some (.slice el)) (ki : TIOK P el i) (hs1 : 1 ≤ i.size) (hb1 : 1 ≤ i.bytes) (hm : 1 ≤ m) (room : InA (n + m) i.bytes)
    (hcs : cs.length = m * i.size) (hnews : ∀ j u, cs[j]? = some u → w.cell? ⟨b, o + j, none⟩ = some u) (h1 : ∀ u ∈ cs, u.oneCell' = true) {old : List Value} (hol : old.length = n * i.size)
    (row : (v = .slice none 0 0 ∧ n = 0) ∨ (∃ a, v = .slice (some a) 0 0 ∧ n = 0) ∨ ∃ g cap cur, v = .slice (some ⟨g, 0, none⟩) n cap ∧ w.heap[g]? = some (.cells cur el (0, 0)) ∧ n ≤ cap ∧ (1 ≤ cap ∧ cap ≤ maxLen) ∧ cur.size = cap * i.size ∧ cur.toList.take (n * i.size) = old) :
    ∃ w' g' cap' cur', (Builtin.append_ #[t, t] ty #[v, .slice (some ⟨b, o, none⟩) m c]).run P w = .ok (.slice (some ⟨g', 0, none⟩) (n + m) cap') w' ∧ Gb w w' (rowBlk v) ∧ w'.heap[g']? = some (.cells cur' el (0, 0)) ∧ n + m ≤ cap' ∧ (1 ≤ cap' ∧ cap' ≤ maxLen) ∧
      cur'.size = cap' * i.size ∧ (rowBlk v = some g' ∨ (w.heap.size ≤ g' ∧ g' < w'.heap.size)) ∧ cur'.toList.take ((n + m) * i.size) = old ++ cs := by
  obtain ⟨inf, z, i1, i2, i3, i4, i5⟩ := ki.info
  unfold InA at room
  have hn : n + m ≤ 140737488355328 := Nat.le_trans (Nat.le_mul_of_pos_right _ hb1) room
  have zsz : z.cells.size = i.size := by rw [i5]; simpa using ki.zlen
  have hcs' : cs.length = m * inf.size := by rw [i2]; exact hcs
  have hnews' : ∀ j u, cs[j]? = some u → w.cell? ((⟨b, o, none⟩ : Addr).add j) = some u := fun j u e => by rw [add_lit]; exact hnews j u e
  have grown : ∀ (scap : Nat), ∃ w' g' cap' cur', w' = w.drew.alloc (.cells (old.toArray ++ cs.toArray ++ Builtin.zeroCells z.cells (grownCap w (n + m) scap el - (n + m))) el) ∧ g' = w.heap.size ∧ cap' = grownCap w (n + m) scap el ∧ Gb w w' (rowBlk v) ∧ w'.heap[g']? = some (.cells cur' el (0, 0)) ∧ n + m ≤ cap' ∧ (1 ≤ cap' ∧ cap' ≤ maxLen) ∧
      cur'.size = cap' * i.size ∧ (rowBlk v = some g' ∨ (w.heap.size ≤ g' ∧ g' < w'.heap.size)) ∧ cur'.toList.take ((n + m) * i.size) = old ++ cs := by
    intro scap
    have hge := grownCap_ge w (n + m) scap el
    refine ⟨_, _, _, _, rfl, rfl, rfl, ⟨⟨rfl, rfl, rfl, by simp, fun k hk _ => (World.grownBy_alloc w.drew _ none).block k hk (by simp)⟩, Nat.le_succ _⟩, heap_alloc_new w.drew _, hge, ⟨by omega, grownCap_le_maxLen w _ scap el (by simp only [maxLen]; omega)⟩, ?_, .inr ⟨Nat.le_refl _, by simp⟩, ?_⟩
    · simp only [Array.size_append, List.size_toArray, size_zeroCells, zsz, hcs, hol, ← Nat.add_mul]
      congr 1; omega
    · simp only [Array.toList_append]
      rw [show (n + m) * i.size = (old ++ cs).length by rw [List.length_append, hol, hcs, Nat.add_mul], List.take_left]
  rcases row with ⟨rfl, hn0⟩ | ⟨ra, rfl, hn0⟩ | ⟨g, cap, cur, rfl, q1, q2, q3, q4, q5⟩
  · subst hn0
    have ho0 : old = [] := List.eq_nil_of_length_eq_zero (by simpa using hol)
    subst ho0
    have r := run_append_nil (P := P) w t ty el inf z hu i1 i4 ⟨b, o, none⟩ m c cs hcs' hnews' (by omega) (by omega) (by rw [i3]; simp at room; omega)
    obtain ⟨w', g', cap', cur', rfl, rfl, rfl, rest⟩ := grown 0
    refine ⟨_, _, _, cur', ?_, rest⟩
    simpa using r
  · subst hn0
    have ho0 : old = [] := List.eq_nil_of_length_eq_zero (by simpa using hol)
    subst ho0
    have r := run_append_grow (P := P) w t ty el inf z hu i1 i4 ra 0 0 [] (by simp) (fun j u e => by simp at e) ⟨b, o, none⟩ m c cs hcs' hnews' (by omega) (by omega) (growslice_fits (by omega) (by rw [i3]; simpa using room))
    obtain ⟨w', g', cap', cur', rfl, rfl, rfl, rest⟩ := grown 0
    exact ⟨_, _, _, cur', r, rest⟩
  · by_cases hroom : n + m ≤ cap
    · have hfit : n * inf.size + cs.length ≤ cur.size := by rw [hcs, q4, i2, ← Nat.add_mul]; exact Nat.mul_le_mul_right _ hroom
      have r := run_append_room (P := P) w t ty el inf hu i1 g n cap cur q1 ⟨b, o, none⟩ m c cs hcs' hnews' h1 hroom hfit
      have e1 : (List.take (n * i.size) cur.toList ++ cs).length = (n + m) * i.size := by rw [List.length_append, q5, hol, hcs, Nat.add_mul]
      refine ⟨_, g, cap, _, r, by rw [rowBlk_own q3.1]; exact grown_setRow w g _, setRow_heap w g cur _ el _ q1, hroom, q3, ?_, .inl (rowBlk_own q3.1), ?_⟩
      · have hfit' : n * i.size + cs.length ≤ cur.size := by rw [← i2]; exact hfit
        simp only [i2, List.size_toArray, List.length_append, List.length_take, List.length_drop, Array.length_toList (xs := cur)]
        rw [← q4]; omega
      · show (List.take (n * inf.size) cur.toList ++ cs ++ List.drop (n * inf.size + cs.length) cur.toList).take ((n + m) * i.size) = old ++ cs
        rw [i2, ← e1, List.take_left, q5]
    · have holds : ∀ j u, old[j]? = some u → w.cell? ((⟨g, 0, none⟩ : Addr).add j) = some u := by
        intro j u e
        rw [add_lit, Nat.zero_add, cell_of_row w g j cur el (0, 0) q1]
        rw [← q5, List.getElem?_take] at e
        split at e
        · simpa using e
        · cases e
      have r := run_append_grow (P := P) w t ty el inf z hu i1 i4 ⟨g, 0, none⟩ n cap old (by rw [hol, i2]) holds ⟨b, o, none⟩ m c cs hcs' hnews' (by omega) (by omega) (growslice_fits (by omega) (by rw [i3]; exact room))
      obtain ⟨w', g', cap', cur', rfl, rfl, rfl, rest⟩ := grown cap
      exact ⟨_, _, _, cur', r, rest⟩
theorem joinOwn_lo {n j : Nat} {p q : Nat → Bool} (h : j < n) : joinOwn n p q j = p j := by simp [joinOwn, h, cnd]
theorem joinOwn_hi {n j : Nat} {p q : Nat → Bool} (h : ¬ j < n) : joinOwn n p q j = q (j - n) := by simp [joinOwn, h, cnd]
@[reducible] def joinUs (n : Nat) (p q : Nat → Value) : Nat → Value := fun j => if j < n then p j else q (j - n)
theorem joinUs_lo {n j : Nat} {p q : Nat → Value} (h : j < n) : joinUs n p q j = p j := if_pos h
theorem joinUs_hi {n j : Nat} {p q : Nat → Value} (h : ¬ j < n) : joinUs n p q j = q (j - n) := if_neg h
theorem cut_take {L : List Value} {M a k : Nat} (h : a + k ≤ M) : ((L.take M).drop a).take k = (L.drop a).take k := by
  apply List.ext_getElem?
  intro p
  simp only [List.getElem?_take, List.getElem?_drop]
  by_cases hp : p < k
  · rw [if_pos hp, if_pos hp, if_pos (by omega)]
  · rw [if_neg hp, if_neg hp]
theorem ElH.one {sh : Sh} {tt : TypeId} {e : Sh} {so : Nat} {own : Bool} {u : Value} {cs : List Value} {d : sh.den} (x : ElH h w sh tt e so own false u cs d) : ∀ z ∈ cs, oneC z := by
  intro z hz
  cases own with
  | false => exact Rd.one sh x.1 z hz
  | true =>
    obtain ⟨d0, y, r, _, c, q⟩ := x
    obtain ⟨p, hp⟩ := List.getElem?_of_mem hz
    by_cases hps : p = so
    · subst hps
      rw [hp] at c; cases c
      rcases q with ⟨e, _⟩ | ⟨_, e, _⟩ | ⟨_, _, _, e, _⟩ <;> subst e <;> exact ⟨rfl, rfl⟩
    · refine Rd.one sh r z (List.mem_of_getElem? (i := p) ?_)
      rw [List.getElem?_set_ne (Ne.symm hps)]; exact hp
theorem DeepH.join {w' : World} {t : TypeId} {sh : Sh} {l1 l2 : List sh.den} {tt : TypeId} {e : Sh} {so : Nat} {own1 own2 : Nat → Bool} {v1 v2 : Value} {us1 us2 : Nat → Value} {g' cap' : Nat} {cur' : Array Value} {old cs : List Value}
    (D1 : DeepH h w t sh l1 tt e so own1 [] v1 us1) (D2 : DeepH h w t sh l2 tt e so own2 [] v2 us2) (h2 : 1 ≤ l2.length)
    (dis : ∀ i j b, rowBlk (us1 i) = some b → rowBlk (us2 j) = some b → False)
    (fr : ∀ b, (∃ i, rowBlk (us1 i) = some b) ∨ (∃ j, rowBlk (us2 j) = some b) → w'.heap[b]? = w.heap[b]? ∧ b ≠ g')
    (c1 : w'.heap[g']? = some (.cells cur' t (0, 0))) (c2 : l1.length + l2.length ≤ cap') (c3 : 1 ≤ cap' ∧ cap' ≤ maxLen) (c4 : cur'.size = cap' * sh.size) (hol : old.length = l1.length * sh.size)
    (c5 : cur'.toList.take ((l1.length + l2.length) * sh.size) = old ++ cs)
    (e1 : ∀ j d, l1[j]? = some d → ElH h w sh tt e so (own1 j) false (us1 j) ((old.drop (j * sh.size)).take sh.size) d)
    (e2 : ∀ j d, l2[j]? = some d → ElH h w sh tt e so (own2 j) false (us2 j) ((cs.drop (j * sh.size)).take sh.size) d) :
    DeepH h w' t sh (l1 ++ l2) tt e so (joinOwn l1.length own1 own2) [] (.slice (some ⟨g', 0, none⟩) (l1.length + l2.length) cap') (joinUs l1.length us1 us2) := by
  refine ⟨fun j k b hj hk => ?_, fun j b hj => ?_, .inr (.inr ⟨g', cap', cur', by rw [List.length_append], c1, by rw [List.length_append]; exact c2, c3, c4, fun j hj => ?_, fun j d hj => ?_⟩)⟩
  · by_cases a1 : j < l1.length <;> by_cases a2 : k < l1.length
    · rw [joinUs_lo a1] at hj; rw [joinUs_lo a2] at hk; exact D1.1 j k b hj hk
    · rw [joinUs_lo a1] at hj; rw [joinUs_hi a2] at hk; exact (dis _ _ b hj hk).elim
    · rw [joinUs_hi a1] at hj; rw [joinUs_lo a2] at hk; exact (dis _ _ b hk hj).elim
    · rw [joinUs_hi a1] at hj; rw [joinUs_hi a2] at hk
      have := D2.1 _ _ b hj hk; omega
  · by_cases a1 : j < l1.length
    · rw [joinUs_lo a1] at hj
      rw [(fr b (.inl ⟨j, hj⟩)).1]
      exact ⟨by rw [List.length_append]; omega, (D1.2.1 j b hj).2⟩
    · rw [joinUs_hi a1] at hj
      rw [(fr b (.inr ⟨_, hj⟩)).1]
      have := D2.2.1 _ b hj
      exact ⟨by rw [List.length_append]; omega, this.2⟩
  · by_cases a1 : j < l1.length
    · rw [joinUs_lo a1] at hj; exact (fr g' (.inl ⟨j, hj⟩)).2 rfl
    · rw [joinUs_hi a1] at hj; exact (fr g' (.inr ⟨_, hj⟩)).2 rfl
  · have hjl := (List.getElem?_eq_some_iff.1 hj).1
    rw [List.length_append] at hjl
    have hm : (j + 1) * sh.size ≤ (l1.length + l2.length) * sh.size := Nat.mul_le_mul_right _ hjl
    rw [Nat.succ_mul] at hm
    have cut : (cur'.toList.drop (j * sh.size)).take sh.size = ((old ++ cs).drop (j * sh.size)).take sh.size := by
      rw [← c5, cut_take hm]
    rw [cut, show memH j [] = false from rfl]
    rw [List.getElem?_append] at hj
    split at hj
    · rename_i a1
      rw [joinUs_lo a1, joinOwn_lo a1]
      have hm1 : (j + 1) * sh.size ≤ l1.length * sh.size := Nat.mul_le_mul_right _ a1
      rw [Nat.succ_mul] at hm1
      have : ((old ++ cs).drop (j * sh.size)).take sh.size = (old.drop (j * sh.size)).take sh.size := by
        rw [List.drop_append_of_le_length (by omega), List.take_append_of_le_length (by rw [List.length_drop]; omega)]
      rw [this]
      exact (e1 j d hj).move (FH.le.refl h) fun b hb => (fr b (.inl ⟨j, hb⟩)).1
    · rename_i a1
      rw [joinUs_hi a1, joinOwn_hi a1]
      have hjj : j * sh.size = l1.length * sh.size + (j - l1.length) * sh.size := by rw [← Nat.add_mul]; congr 1; omega
      have : (old ++ cs).drop (j * sh.size) = cs.drop ((j - l1.length) * sh.size) := by
        rw [hjj, ← hol, List.drop_length_add_append]
      rw [this]
      exact (e2 _ d hj).move (FH.le.refl h) fun b hb => (fr b (.inr ⟨_, hb⟩)).1
theorem appD_step (hc : TisOK P cx.ti) (sat : Sat N B h0 s h β w a) (hg : GlobOK cx.gd h) (hd : dOK N o.dst = true) {t : TypeId} {x y : Operand} {c : Call} (ho : o.op = .call c) (hcal : c.callee = .builtin .append) (ha : c.args = #[x, y]) (ht : c.argTypes = #[t, t])
    {r : Nat} (hx : getE cx s [] x = some (.one (.c (.row r)))) {tt : TypeId} {sh1 : Sh} {l1 : List sh1.den} {t1 : TypeId} {e1 : Sh} {so1 : Nat} {own1 : Nat → Bool} (hT : nthL s.T r = some ([], .deep tt sh1 l1 t1 e1 so1 own1 []))
    {r2 : Nat} (hy : getE cx s [] y = some (.one (.c (.row r2)))) {tt2 : TypeId} {sh2 : Sh} {l2 : List sh2.den} {t2 : TypeId} {e2 : Sh} {so2 : Nat} {own2 : Nat → Bool} (hT2 : nthL s.T r2 = some ([], .deep tt2 sh2 l2 t2 e2 so2 own2 []))
    (k : appDK cx s o.dst t r tt sh1 l1 t1 e1 so1 own1 r2 tt2 sh2 l2 t2 e2 so2 own2 K) : OpOK P N B h0 h w a o true K := by
  have tr : gv s.gl [] = true := rfl
  unfold appDK isOneOf at k
  split at k
  · rename_i el hde
    have hu := descOf_und hc hde (by simp)
    split at k
    · exact k.elim
    rename_i ie hie
    have tie := hc.get hie
    split at k
    · exact k.elim
    rename_i sh hsh
    split at k
    · rename_i hz
      rw [andB_eq, andB_eq, Bool.and_eq_true, Bool.and_eq_true] at hz
      have hz1 : sh.size = ie.size := Nat.eq_of_beq_eq_true hz.1
      have hz2 : 1 ≤ ie.bytes := Nat.le_of_ble_eq_true hz.2.1
      have hz3 : 1 ≤ ie.size := Nat.le_of_ble_eq_true hz.2.2
      split at k
      · rename_i hq
        rw [andB_eq, andB_eq, andB_eq, andB_eq, andB_eq, Bool.and_eq_true, Bool.and_eq_true, Bool.and_eq_true, Bool.and_eq_true, Bool.and_eq_true, decide_eq_true_eq] at hq
        obtain ⟨q1, q2, q3, q4, q5, q6⟩ := hq
        have q1 : tt = el := Nat.eq_of_beq_eq_true q1
        have q2 : tt2 = el := Nat.eq_of_beq_eq_true q2
        have q3 : t1 = t2 := Nat.eq_of_beq_eq_true q3
        have q5 : so1 = so2 := Nat.eq_of_beq_eq_true q5
        have hrr : r2 ≠ r := beqT q6
        subst q1; subst q2; subst q3; subst q4; subst q5
        split at k
        · rename_i m1 hm1
          obtain ⟨f1, f2⟩ := castSl hm1
          subst f1; simp only at f2; subst f2
          split at k
          · rename_i m2 hm2
            obtain ⟨f1, f2⟩ := castSl hm2
            subst f1; simp only at f2; subst f2
            obtain ⟨⟨k1, k2⟩, k⟩ := k
            have hT' := effres hT tr
            have hT2' := effres hT2 tr
            have cx1 := (getE_ok sat hg tr hx : CnV h β (.c (.row r)) (a.eval x))
            have cy1 := (getE_ok sat hg tr hy : CnV h β (.c (.row r2)) (a.eval y))
            obtain ⟨us1, hb1, D1⟩ := sat.ok.deep_of hT' cx1.1
            obtain ⟨us2, hb2, D2⟩ := sat.ok.deep_of hT2' cy1.1
            have own1' : ∀ b, (RV.deep (a.eval x) us1).has b → B.al b ∧ b < w.heap.size ∧ ∀ o, h b o = none := fun b hb => sat.ok.own r _ _ b hT' rfl hb1 hb
            have own2' : ∀ b, (RV.deep (a.eval y) us2).has b → B.al b ∧ b < w.heap.size ∧ ∀ o, h b o = none := fun b hb => sat.ok.own r2 _ _ b hT2' rfl hb2 hb
            have apart : ∀ b, (RV.deep (a.eval x) us1).has b → (RV.deep (a.eval y) us2).has b → False := fun b p q => hrr (sat.ok.inj r2 r _ _ _ _ b hT2' rfl hT' rfl hb2 hb1 q p)
            obtain ⟨g2, cap2, cur2, v0, v1, v2, v3, v4, v5, v6⟩ := D2.third (j := 0) (by omega)
            have hsz2 : l2.length * sh2.size ≤ cap2 * sh2.size := Nat.mul_le_mul_right _ v2
            have hcs : (cur2.toList.take (l2.length * sh2.size)).length = l2.length * sh2.size := by rw [List.length_take, Array.length_toList (xs := cur2)]; omega
            have el2 : ∀ j d, l2[j]? = some d → ElH h w sh2 t1 e1 so1 (own2 j) false (us2 j) (((cur2.toList.take (l2.length * sh2.size)).drop (j * sh2.size)).take sh2.size) d := by
              intro j d hj
              have hjl := (List.getElem?_eq_some_iff.1 hj).1
              have hm : (j + 1) * sh2.size ≤ l2.length * sh2.size := Nat.mul_le_mul_right _ hjl
              rw [Nat.succ_mul] at hm
              rw [cut_take hm]
              exact v6 j d hj
            have one2 : ∀ u ∈ cur2.toList.take (l2.length * sh2.size), u.oneCell' = true := by
              intro u hu
              obtain ⟨p, hp⟩ := List.getElem?_of_mem hu
              have hpl := (List.getElem?_eq_some_iff.1 hp).1
              rw [hcs] at hpl
              have hs0 : 0 < sh2.size := by rw [hz1]; exact hz3
              have hjl : p / sh2.size < l2.length := by rw [Nat.div_lt_iff_lt_mul hs0]; exact hpl
              have hdm : p / sh2.size * sh2.size + p % sh2.size = p := by rw [Nat.mul_comm]; exact Nat.div_add_mod p sh2.size
              refine ((el2 _ _ (List.getElem?_eq_getElem hjl)).one u (List.mem_of_getElem? (i := p % sh2.size) ?_)).2
              rw [List.getElem?_take, if_pos (Nat.mod_lt _ hs0), List.getElem?_drop, hdm]
              exact hp
            obtain ⟨old, hol, row, el1, nb1⟩ : ∃ old : List Value, old.length = l1.length * sh2.size ∧ ((a.eval x = .slice none 0 0 ∧ l1.length = 0) ∨ (∃ ad, a.eval x = .slice (some ad) 0 0 ∧ l1.length = 0) ∨ ∃ g cap cur, a.eval x = .slice (some ⟨g, 0, none⟩) l1.length cap ∧ w.heap[g]? = some (.cells cur tt2 (0, 0)) ∧ l1.length ≤ cap ∧ (1 ≤ cap ∧ cap ≤ maxLen) ∧ cur.size = cap * ie.size ∧ cur.toList.take (l1.length * ie.size) = old) ∧
                (∀ j d, l1[j]? = some d → ElH h w sh2 t1 e1 so1 (own1 j) false (us1 j) ((old.drop (j * sh2.size)).take sh2.size) d) ∧ ∀ i b, rowBlk (us1 i) = some b → rowBlk (a.eval x) ≠ some b := by
              rcases D1.2.2 with ⟨e, rfl⟩ | ⟨ad, e, rfl⟩ | ⟨g, cap, cur, u0, u1, u2, u3, u4, u5, u6⟩
              · exact ⟨[], by simp, .inl ⟨e, rfl⟩, fun j d hj => by simp at hj, fun i b _ => by rw [e]; simp [rowBlk]⟩
              · exact ⟨[], by simp, .inr (.inl ⟨ad, e, rfl⟩), fun j d hj => by simp at hj, fun i b _ => by rw [e]; simp [rowBlk]⟩
              · have hsz1 : l1.length * sh2.size ≤ cap * sh2.size := Nat.mul_le_mul_right _ u2
                refine ⟨cur.toList.take (l1.length * sh2.size), by rw [List.length_take, Array.length_toList (xs := cur)]; omega, .inr (.inr ⟨g, cap, cur, u0, u1, u2, u3, by rw [← hz1]; exact u4, by rw [hz1]⟩), fun j d hj => ?_, fun i b hb => by rw [u0, rowBlk_own u3.1]; intro hh; cases hh; exact u5 i hb⟩
                have hjl := (List.getElem?_eq_some_iff.1 hj).1
                have hm : (j + 1) * sh2.size ≤ l1.length * sh2.size := Nat.mul_le_mul_right _ hjl
                rw [Nat.succ_mul] at hm
                rw [cut_take hm]
                exact u6 j d hj
            obtain ⟨w', g', cap', cur', r1, gb, c1, c2, c3, c4, c6, c5⟩ := run_append_cs (ty := o.type) (b := g2) (o := 0) (c := cap2) (m := l2.length) (n := l1.length) (cs := cur2.toList.take (l2.length * sh2.size)) (old := old) hu tie hz3 hz2 k1 k2 (by rw [hcs, hz1]) (fun j u hj => by
                rw [Nat.zero_add, cell_of_row w g2 j cur2 tt2 (0, 0) v1]
                rw [List.getElem?_take] at hj
                split at hj
                · simpa using hj
                · cases hj) one2 (by rw [hol, hz1]) row
            have fr : ∀ b, (∃ i, rowBlk (us1 i) = some b) ∨ (∃ j, rowBlk (us2 j) = some b) → w'.heap[b]? = w.heap[b]? ∧ b ≠ g' := by
              rintro b (⟨i, hb⟩ | ⟨j, hb⟩)
              · have o1 := (own1' b (has_deep.2 (.inr ⟨i, hb⟩))).2.1
                refine ⟨gb.block b o1 fun hh => nb1 i b hb hh.symm, ?_⟩
                rintro rfl
                rcases c6 with c6 | c6
                · exact nb1 i b hb c6
                · omega
              · have o1 := (own2' b (has_deep.2 (.inr ⟨j, hb⟩))).2.1
                refine ⟨gb.block b o1 fun hh => apart b (has_deep.2 (.inl hh.symm)) (has_deep.2 (.inr ⟨j, hb⟩)), ?_⟩
                rintro rfl
                rcases c6 with c6 | c6
                · exact apart b (has_deep.2 (.inl c6)) (has_deep.2 (.inr ⟨j, hb⟩))
                · omega
            have J := DeepH.join (w' := w') (g' := g') (cap' := cap') (cur' := cur') (old := old) (cs := cur2.toList.take (l2.length * sh2.size)) D1 D2 k1 (fun i j b p q => apart b (has_deep.2 (.inr ⟨i, p⟩)) (has_deep.2 (.inr ⟨j, q⟩))) fr c1 c2 c3 (by rw [hz1]; exact c4) hol (by rw [hz1]; rw [hz1] at c5; exact c5) el1 el2
            have run : (execOp a.eval o).run P w = .ok (.value (.slice (some ⟨g', 0, none⟩) (l1.length + l2.length) cap')) w' := by
              rw [← v0] at r1
              simp [execOp, ho, resolve, hcal, ha, ht, invoke, builtin, r1]
            have ok1 := sat.ok.forget hT2'
            have hT1 : ((eff s.gl s.T).set r2 .gone)[r]? = some (.deep tt2 sh2 l1 t1 e1 so1 own1 []) := by rw [List.getElem?_set_ne hrr]; exact hT'
            have hrl : r < β.length := (List.getElem?_eq_some_iff.1 hb1).1
            have ok2 := ok1.upd3 (f := jkC r) (r' := .deep tt2 sh2 (l1 ++ l2) t1 e1 so1 (joinOwn l1.length own1 own2) []) (v := .deep (.slice (some ⟨g', 0, none⟩) (l1.length + l2.length) cap') (joinUs l1.length us1 us2)) (row := rowBlk (a.eval x)) (X := fun b => ∃ j, rowBlk (us2 j) = some b) hT1 rfl hb1 gb (fun k e => has_deep.2 (.inl e))
              (fun b hb => by
                have hb : (RV.deep (a.eval y) us2).has b := has_deep.2 (.inr hb)
                obtain ⟨o1, o2, o3⟩ := own2' b hb
                refine ⟨o1, o2, o3, fun j' rj vj hj' ej lj ej' hbj => ?_⟩
                have hjq : j' ≠ r2 := by
                  rintro rfl
                  rw [List.getElem?_set_self (List.getElem?_eq_some_iff.1 hT2').1] at ej
                  cases ej; cases lj
                rw [List.getElem?_set_ne (Ne.symm hjq)] at ej
                exact hjq (sat.ok.inj j' r2 _ _ _ _ b ej lj hT2' rfl ej' hb2 hbj hb))
              (fun b hb => by
                rw [has_deep] at hb
                rcases hb with hb | ⟨j, hb⟩
                · rw [rowBlk_own c3.1] at hb
                  cases hb
                  exact c6.elim (fun q => .inl (has_deep.2 (.inl q))) fun q => .inr (.inr q)
                · by_cases a1 : j < l1.length
                  · rw [joinUs_lo a1] at hb; exact .inl (has_deep.2 (.inr ⟨j, hb⟩))
                  · rw [joinUs_hi a1] at hb; exact .inr (.inl ⟨_, hb⟩))
              (fun x y c => c.jk _) J
            intro Nx Q next
            rw [if_pos rfl]
            refine wp_value run (next _ _ _ _ _ k (FH.le.refl h) (fun hh => by rw [ho] at hh; simp [quietly, hcal] at hh) ((sat.map (f := jkC r) (T' := setL (mT (jkC r) (setL s.T r2 ([], .gone))) r ([], .deep tt2 sh2 (l1 ++ l2) t1 e1 so1 (joinOwn l1.length own1 own2) [])) (β' := β.set r (.deep (.slice (some ⟨g', 0, none⟩) (l1.length + l2.length) cap') (joinUs l1.length us1 us2))) (FH.le.refl h) (fun _ => rfl) (fun x y c => c.jk _) ?_ ?_).put (dOK_lt hd) rfl (fun _ => ⟨⟨.deep (.slice (some ⟨g', 0, none⟩) (l1.length + l2.length) cap') (joinUs l1.length us1 us2), ?_, rfl⟩, rfl, rfl⟩) fun hh => by cases hh))
            · rw [eff_set, eff_m, eff_set]
              exact ok2
            · intro p' hp'
              rw [setL_eq] at hp'
              rcases List.mem_or_eq_of_mem_set hp' with hp' | hp'
              · obtain ⟨p2, h1, h2⟩ := mT_gd hp'
                rw [← h2]
                exact gT_set sat p2 h1
              · subst hp'; rfl
            · rw [List.getElem?_set_self hrl]
          · exact k.elim
        · exact k.elim
      · exact k.elim
    · exact k.elim
  · exact k.elim
theorem apP_ok (hc : TisOK P cx.ti) (sat : Sat N B h0 s h β w a) (hg : GlobOK cx.gd h) (hd : dOK N o.dst = true) {ops : Array Oper} {p : Prop} (e : apP cx s o K = some p) (k : p) : OpOK P N B h0 h w a o (Region.wanted o (yielded ops a.tmps)) K := by
  unfold apP at e
  split at e
  · cases e
  split at e
  · cases e
  rename_i hgd
  rw [show Region.wanted o (yielded ops a.tmps) = true by simp [Region.wanted, hgd]]
  split at e
  · rename_i t ps ho
    split at e
    · rename_i x hps
      split at e
      · rename_i q hx
        split at e
        · rename_i tq eq l hTq
          cases e
          exact litD_step hc sat hg hd ho hTq k
        · cases e
      · cases e
    · cases e
  · rename_i c ho
    split at e
    · rename_i hcal
      split at e
      · rename_i x y ha
        split at e
        · rename_i r hx
          split at e
          · rename_i tt sh1 l1 t1 e1 so1 own1 hT
            split at e
            · rename_i r2 hy
              split at e
              · rename_i tt2 sh2 l2 t2 e2 so2 own2 hT2
                split at e
                · rename_i t t' ht
                  split at e
                  · rename_i hb
                    have hb : t = t' := Nat.eq_of_beq_eq_true hb
                    subst hb
                    cases e
                    exact appD_step hc sat hg hd ho hcal (tl_eq ha) (tl_eq ht) hx hT hy hT2 k
                  · cases e
                · cases e
              · cases e
            · cases e
          · cases e
        · cases e
      · cases e
    · cases e
  · cases e
theorem apP_none (h1 : ∀ t n ps, o.op ≠ .buildSlice t n ps) (h2 : ∀ c, o.op = .call c → c.callee ≠ .builtin .append) : apP cx s o K = none := by
  cases hp : apP cx s o K with
  | none => rfl
  | some p =>
    exfalso
    unfold apP at hp
    split at hp
    · cases hp
    split at hp
    · cases hp
    split at hp
    · rename_i t ps ho; exact h1 _ _ _ ho
    · rename_i c ho
      split at hp
      · rename_i hcal; exact h2 c ho hcal
      · cases hp
    · cases hp
@[reducible] def extQ (cx : Cx) (s : St) (o : Oper) (K : St → Prop) : Option Prop := match apP cx s o K with
  | some p => some p
  | none => match tlP cx s o K with
    | some p => some p
    | none => extP cx s o K
theorem extQ_ok (hc : TisOK P cx.ti) (sat : Sat N B h0 s h β w a) (hg : GlobOK cx.gd h) (hd : dOK N o.dst = true) {ops : Array Oper} {p : Prop} (e : extQ cx s o K = some p) (k : p) : OpW P N B h0 h w a o (Region.wanted o (yielded ops a.tmps)) K := by
  unfold extQ at e
  split at e
  · rename_i p' hp
    cases e
    exact (apP_ok hc sat hg hd hp k).weak
  · split at e
    · rename_i p' hp
      cases e
      exact tlP_ok hc sat hg hd hp k
    · exact extP_ok hc sat hg hd e k
end
end Go.Eng
set_option linter.unusedSimpArgs false
set_option linter.unusedVariables false
namespace Go.Eng
open Go Go.RowKit
def Wd (F : Fence) : Prop := F = Fence.wide ∨ ∃ l, F = Fence.wide.inRound l
theorem Wd.fn {F : Fence} (h : Wd F) (f : FuncId) : F.fn f := by rcases h with rfl | ⟨l, rfl⟩ <;> trivial
theorem Wd.depth {F : Fence} (h : Wd F) : F.depth = none := by rcases h with rfl | ⟨l, rfl⟩ <;> rfl
theorem Wd.calls {F : Fence} (hF : Wd F) {n : Nat} {P : Program} {f : FuncId} {args : Array Value} {w : World} {R : Ending → World → Prop} (h : Calls P f args w R) : CallsIn F n P f args w R := by
  rcases hF with rfl | ⟨l, rfl⟩
  · exact callsIn_wide.2 h
  · exact (callsIn_wide.2 h : CallsIn Fence.wide n P f args w R).inRound l
@[reducible] def notDef : Op → Bool
  | .defer _ => false
  | _ => true
@[reducible] def ndL : List Oper → Bool
  | [] => true
  | o :: l => andB (notDef o.op) (ndL l)
section
variable {F : Fence} {n : Nat} {P : Program} {ops : Array Oper} {md : Region.Mode}
theorem wp_In (hF : Wd F) {o : Oper} (hd : notDef o.op = true) {a : Act} {w : World} {Nx : Act → World → Prop} {Q Q' : Exit → Act → World → Prop} (h : o.wp P a w Nx noQ) : o.wpIn F n P a w Nx Q' := by
  refine ⟨fun f _ => hF.fn f, ?_⟩
  rw [Oper.semAt_eq _ _ _ (fun c hc => by rw [hc] at hd; cases hd)]
  unfold Oper.wp at h
  generalize (execOp a.eval o).run P w = r at *
  cases r with
  | ok m w' =>
    cases m <;> simp only [Oper.upon] at h <;> simp only [Oper.uponIn]
    case enter f args =>
      refine ⟨fun hh => (by rw [hF.depth] at hh; cases hh), hF.calls (h.mono fun e w'' he => ?_)⟩
      cases e with
      | returned v => exact he
      | panicked c => exact False.elim he
      | outgrown => exact letsOut_no he
    case row row args =>
      refine ⟨fun hh => (by rw [hF.depth] at hh; cases hh), fun c cs _ => ?_⟩
      obtain ⟨v, w'', hr, hs⟩ := h c cs
      refine ⟨v, w'', hr, ?_⟩
      have : StepsIn (Machine.fenced P Fence.wide) P (lone (Frame.ofRow P row args .normal) (c :: cs) w') (lone (c.finish v) cs w'') := stepsIn_wide.2 hs
      rcases hF with rfl | ⟨l, rfl⟩
      · exact this
      · exact this
    all_goals first | exact h | exact h.elim
  | halt x w' => cases x <;> simp only [Oper.upon] at h <;> first | exact h.elim | exact False.elim h
def wpL (P : Program) (ops : Array Oper) (R : Act → World → Prop) : List Oper → Act → World → Prop
  | [], a, w => R a w
  | o :: rest, a, w => if Region.wanted o (yielded ops a.tmps) = true then o.wp P a w (wpL P ops R rest) noQ else wpL P ops R rest (a.put o.dst undef) w
theorem wpL_In (hF : Wd F) {R : Act → World → Prop} {Q : Exit → Act → World → Prop} (hR : ∀ a w, R a w → Q .normal a w) : ∀ (l : List Oper) (k : Nat) (a : Act) (w : World), (∀ j, l[j]? = ops[k + j]?) → ndL l = true → wpL P ops R l a w →
    wpOpsIn F n P ops Q (List.range' k l.length) a w
  | [], k, a, w, _, _, h => hR _ _ h
  | o :: l, k, a, w, hl, hn, h => by
    have h0 : ops[k]? = some o := by simpa using (hl 0).symm
    simp only [ndL, andB_eq, Bool.and_eq_true] at hn
    have ih : ∀ a w, wpL P ops R l a w → wpOpsIn F n P ops Q (List.range' (k + 1) l.length) a w := fun a w => wpL_In hF hR l (k + 1) a w (fun j => by have := hl (j + 1); simpa [Nat.add_assoc, Nat.add_comm 1 j] using this) hn.2
    simp only [List.length_cons, List.range'_succ, wpOpsIn, h0]
    unfold wpL at h
    split
    · rename_i hw; rw [if_pos hw] at h; exact Oper.wpIn_mono ih (wp_In (Q := Q) hF hn.1 h)
    · rename_i hw; rw [if_neg hw] at h; exact ⟨fun f _ => hF.fn f, ih _ _ h⟩
theorem wpL_region (hF : Wd F) {R : Act → World → Prop} {Q : Exit → Act → World → Prop} (hR : ∀ a w, R a w → Q .normal a w) {id : Nat} {a : Act} {w : World} (hn : ndL ops.toList = true) (h : wpL P ops R ops.toList a w) : (Code.region id ops false).wpIn F n P Q a w :=
  wpIn_region (by
    have := wpL_In (n := n) hF hR ops.toList 0 a w (fun j => by simp) hn h
    rw [List.range_eq_range']
    simpa using this)
theorem nd_get (hn : ndL ops.toList = true) {i : Nat} {o : Oper} (h : ops[i]? = some o) : notDef o.op = true := by
  have key : ∀ {l : List Oper}, ndL l = true → o ∈ l → notDef o.op = true := by
    intro l
    induction l with
    | nil => intro _ hm; cases hm
    | cons x l ih =>
      intro hh hm
      simp only [ndL, andB_eq, Bool.and_eq_true] at hh
      rcases List.mem_cons.1 hm with rfl | hm
      · exact hh.1
      · exact ih hh.2 hm
  exact key hn (List.mem_of_getElem? (i := i) (by simpa using h))
theorem wpO_In (hF : Wd F) (hn : ndL ops.toList = true) {i : Nat} {K : Act → World → Prop} {Q : Exit → Act → World → Prop} {a : Act} {w : World} (h : wpO P ops i K a w) : wpOpIn F n P ops Q i K a w := by
  unfold wpO at h
  unfold wpOpIn
  split
  · rename_i ho; simpa [ho] using h
  · rename_i o ho
    simp only [ho] at h
    split
    · rename_i hw; rw [if_pos hw] at h; exact wp_In (Q := Q) hF (nd_get hn ho) h
    · rename_i hw; rw [if_neg hw] at h; exact ⟨fun f _ => hF.fn f, h⟩
theorem anyI_In {sf : Nat → Bool} (hF : Wd F) (hn : ndL ops.toList = true) {R : Act → World → Prop} {Q : Exit → Act → World → Prop} (hR : ∀ a w, R a w → Q .normal a w) : ∀ (fuel : Nat) (listed : Array Bool) (a : Act) (w : World),
    anyI P md ops sf R fuel listed a w → wpAnyIn F n P md ops Q fuel listed a w
  | 0, _, _, _, h => ⟨h.1, hR _ _ h.2⟩
  | fuel + 1, _, _, _, h => ⟨fun e => hR _ _ (h.1 e), fun i hi => wpO_In hF hn (wpO_mono (fun a w hh => anyI_In hF hn hR fuel _ a w hh.2) (h.2 i hi))⟩
theorem stOp_In (hF : Wd F) (hn : ndL ops.toList = true) {i : Nat} {w : World} {K : Act → Prop} {K' : Act → World → Prop} (hK : ∀ a, K a → K' a w) {Q : Exit → Act → World → Prop} {a : Act} (h : stOp P ops w i K a) : wpOpIn F n P ops Q i K' a w := by
  unfold stOp at h
  unfold wpOpIn
  split
  · rename_i ho; simp only [ho] at h; exact hK _ h
  · rename_i o ho
    simp only [ho] at h
    split
    · rename_i hw; rw [if_pos hw] at h; exact wp_In (Q := Q) hF (nd_get hn ho) (Oper.wp_of_still hK h)
    · rename_i hw; rw [if_neg hw] at h; exact ⟨fun f _ => hF.fn f, hK _ h⟩
theorem anyS_In (hF : Wd F) (hn : ndL ops.toList = true) {w : World} {R : Act → Prop} {Q : Exit → Act → World → Prop} (hR : ∀ a, R a → Q .normal a w) : ∀ (fuel : Nat) (listed : Array Bool) (a : Act),
    wpAnyS P md ops w R fuel listed a → wpAnyIn F n P md ops Q fuel listed a w
  | 0, _, _, h => ⟨h.1, hR _ h.2⟩
  | fuel + 1, _, _, h => ⟨fun e => hR _ (h.1 e), fun i hi => stOp_In hF hn (fun a hh => anyS_In hF hn hR fuel _ a hh) (h.2 i hi)⟩
theorem still_region (hF : Wd F) (hn : ndL ops.toList = true) {id : Nat} {Q : Exit → Act → World → Prop} {a : Act} {w : World} (hm : P.follows .mixedOrders = true) (hB : Region.lexB .any ops = true)
    (h : wpStill P ops { w with drawn := w.drawn + 1 } (fun a' => Q .normal a' { w with drawn := w.drawn + 1 }) ops.toList a) : (Code.region id ops true).wpIn F n P Q a w := by
  simp only [Region.lexB, Bool.and_eq_true] at hB
  refine wpIn_region_any hm (anyS_In (R := fun a' => Q .normal a' { w with drawn := w.drawn + 1 }) hF hn (fun _ h => h) _ _ _ ?_)
  have := wpAnyS_lex (md := .any) hB.1 ops.toList 0 (Array.replicate ops.size false) a (by simp) (by simpa using hB.2) h
  simpa using this
theorem wpIn_loop_ghost {Q : Exit → Act → World → Prop} {a : Act} {w : World} {c : Code} (I : Nat → Act → World → Prop) (n₀ : Nat) (h₀ : I n₀ a w)
    (round : ∀ m a w, I m a w → c.wpIn F n P (Exit.then (fun a' w' => ∃ n', n' < m ∧ I n' a' w') Q) a w) : (Code.loop c).wpIn F n P Q a w := by
  refine wpIn_loop (fun a w => ∃ m, I m a w) (fun a w => leastOf (fun m => I m a w)) ⟨n₀, h₀⟩ ?_
  intro a w hI
  refine wpIn_mono (round _ a w (leastOf_spec hI).1) ?_
  intro e a' w' hq
  cases e with
  | normal =>
    obtain ⟨n', hlt, hI'⟩ := hq
    exact show (∃ m, I m a' w') ∧ leastOf (fun m => I m a' w') < leastOf (fun m => I m a w) from ⟨⟨n', hI'⟩, Nat.lt_of_le_of_lt ((leastOf_spec ⟨n', hI'⟩).2 n' hI') hlt⟩
  | exit id => exact hq
  | goto l => exact hq
  | ret => exact hq
  | panic ch => exact hq
  | outgrown => exact hq
end
end Go.Eng
set_option linter.unusedSimpArgs false
set_option linter.unusedVariables false
namespace Go.Eng
open Go Go.RowKit
section
variable {P : Program} {ops : Array Oper} {md : Region.Mode} {n : Nat} {sf : Nat → Bool}
def wpOW (P : Program) (n : Nat) (ops : Array Oper) (i : Nat) (K : Act → World → Prop) (a : Act) (w : World) : Prop :=
  match ops[i]? with
  | none => K a w
  | some o => if Region.wanted o (yielded ops a.tmps) = true then o.uponIn Fence.wide n P a K noQ ((execOp a.eval o).run P w) else K (a.put o.dst undef) w
theorem upon_mono {o : Oper} {a : Act} {K K' : Act → World → Prop} {Q' : Exit → Act → World → Prop} (h : ∀ a w, K a w → K' a w) {r : Result Next} (hh : o.uponIn Fence.wide n P a K noQ r) : o.uponIn Fence.wide n P a K' Q' r := by
  cases r with
  | ok x w' =>
    cases x <;> simp only [Oper.uponIn] at hh ⊢
    case enter f args =>
      refine ⟨hh.1, hh.2.mono fun e w'' he => ?_⟩
      cases e with
      | returned v => exact h _ _ he
      | panicked c => exact False.elim he
      | outgrown => exact letsOut_no he
    case row r args =>
      exact ⟨hh.1, RowsIn.mono hh.2 fun v w'' he => h _ _ he⟩
    case round l f tmps asg body =>
      refine ⟨hh.1, RoundIn.mono hh.2 fun e w'' he => ?_⟩
      cases e with
      | returned v => exact h _ _ he
      | panicked c => exact False.elim he
      | outgrown => exact letsOut_no he
    all_goals first | exact h _ _ hh | exact hh.elim
  | halt x w' => cases x <;> simp only [Oper.uponIn] at hh ⊢ <;> exact False.elim hh
theorem wpOW_mono {i : Nat} {K K' : Act → World → Prop} {a : Act} {w : World} (h : ∀ a w, K a w → K' a w) (hh : wpOW P n ops i K a w) : wpOW P n ops i K' a w := by
  unfold wpOW at *
  split
  · exact h _ _ (by simpa [*] using hh)
  · rename_i o ho
    simp only [ho] at hh
    split
    · rename_i hw; rw [if_pos hw] at hh; exact upon_mono h hh
    · rename_i hw; rw [if_neg hw] at hh; exact h _ _ hh
theorem wpOW_In (hn : ndL ops.toList = true) {i : Nat} {K : Act → World → Prop} {Q : Exit → Act → World → Prop} {a : Act} {w : World} (h : wpOW P n ops i K a w) : wpOpIn Fence.wide n P ops Q i K a w := by
  unfold wpOW at h
  unfold wpOpIn
  split
  · rename_i ho; simpa [ho] using h
  · rename_i o ho
    simp only [ho] at h
    split
    · rename_i hw
      rw [if_pos hw] at h
      refine ⟨fun f _ => trivial, ?_⟩
      rw [Oper.semAt_eq _ _ _ (fun c hc => by have := nd_get hn ho; rw [hc] at this; cases this)]
      exact upon_mono (fun _ _ hh => hh) h
    · rename_i hw; rw [if_neg hw] at h; exact ⟨fun f _ => trivial, h⟩
theorem wpO_W (hn : ndL ops.toList = true) {i : Nat} {K : Act → World → Prop} {a : Act} {w : World} (h : wpO P ops i K a w) : wpOW P n ops i K a w := by
  unfold wpO at h
  unfold wpOW
  split
  · rename_i ho; simpa [ho] using h
  · rename_i o ho
    simp only [ho] at h
    split
    · rename_i hw
      rw [if_pos hw] at h
      have h2 := (wp_In (n := n) (Q := noQ) (Q' := noQ) (.inl rfl : Wd Fence.wide) (nd_get hn ho) h).2
      rwa [Oper.semAt_eq _ _ _ (fun c hc => by have := nd_get hn ho; rw [hc] at this; cases this)] at h2
    · rename_i hw; rw [if_neg hw] at h; exact h
def anyW (P : Program) (n : Nat) (md : Region.Mode) (ops : Array Oper) (sf : Nat → Bool) (R : Act → World → Prop) : Nat → Array Bool → Act → World → Prop
  | 0, listed, a, w => Region.ready md ops listed = [] ∧ R a w
  | fuel + 1, listed, a, w => (Region.ready md ops listed = [] → R a w) ∧
    ∀ i ∈ Region.ready md ops listed, wpOW P n ops i (fun a' w' => (sf i = true → Gro w w') ∧ anyW P n md ops sf R fuel (listed.setIfInBounds i true) a' w') a w
theorem anyW_In (hn : ndL ops.toList = true) {R : Act → World → Prop} {Q : Exit → Act → World → Prop} (hR : ∀ a w, R a w → Q .normal a w) : ∀ (fuel : Nat) (listed : Array Bool) (a : Act) (w : World),
    anyW P n md ops sf R fuel listed a w → wpAnyIn Fence.wide n P md ops Q fuel listed a w
  | 0, _, _, _, h => ⟨h.1, hR _ _ h.2⟩
  | fuel + 1, _, _, _, h => ⟨fun e => hR _ _ (h.1 e), fun i hi => wpOW_In hn (wpOW_mono (fun a w hh => anyW_In hn hR fuel _ a w hh.2) (h.2 i hi))⟩
theorem YI.wpOW {ld : Bool} {w0 : World} {i : Nat} {o : Oper} {v : Value} {a : Act} (hi : ops[i]? = some o) (hy : YI P ops ld w0 o v a) {K : Act → World → Prop} {w : World} (hg : ld = true → Gro w0 w)
    (h : K (a.put o.dst v) w) : wpOW P n ops i K a w := by
  unfold Go.Eng.wpOW
  simp only [hi]
  rcases hy with ⟨hw, hv⟩ | ⟨hw, rfl⟩
  · rw [if_pos hw, hv w hg]; exact h
  · rw [if_neg (by rw [hw]; simp)]; exact h
theorem wpOW_put {ld : Bool} {w0 : World} {j : Nat} {oi oj : Oper} {v : Value} (hj : ops[j]? = some oj) (hap : oi.apart ops oj = true)
    (hsi : ∀ cs b, oi.op ≠ .select cs b) (hsj : ∀ cs b, oj.op ≠ .select cs b) {K : Act → World → Prop} {a : Act} {w : World}
    (hy : YI P ops ld w0 oi v a) (h : wpOW P n ops j K (a.put oi.dst v) w) :
    wpOW P n ops j (fun a' w' => YI P ops ld w0 oi v a' ∧ K (a'.put oi.dst v) w') a w := by
  obtain ⟨h1, h2, h3⟩ := Oper.apart_spec hap
  have keep : ∀ (a : Act), YI P ops ld w0 oi v a → ∀ u, YI P ops ld w0 oi v (a.put oj.dst u) := fun a hy u =>
    hy.of_same (execOp_put oi hsi a oj.dst u h3) (wanted_put oi a oj.dst u h3)
  have keepD : ∀ d, YI P ops ld w0 oi v { a with defers := d :: a.defers } := fun d => hy.of_same rfl rfl
  unfold wpOW at *
  simp only [hj] at *
  rw [wanted_put oj a oi.dst v h1] at h
  split
  · rename_i hw
    rw [if_pos hw] at h
    rw [execOp_put oj hsj a oi.dst v h1] at h
    generalize (execOp a.eval oj).run P w = r at *
    cases r with
    | ok m w' =>
      cases m <;> simp only [Oper.uponIn] at h ⊢
      case value u => exact ⟨keep a hy u, by rw [← Act.put_comm a v u h2]; exact h⟩
      case skip => exact ⟨keep a hy _, by rw [← Act.put_comm a v undef h2]; exact h⟩
      case defer d =>
        refine ⟨(keep _ (keepD d) _), ?_⟩
        rw [← Act.put_comm _ v undef h2, ← Act.put_defers]
        exact h
      case enter f args =>
        refine ⟨h.1, h.2.mono fun e w'' he => ?_⟩
        cases e with
        | returned u => exact ⟨keep a hy u, by rw [← Act.put_comm a v u h2]; exact he⟩
        | panicked c => exact he
        | outgrown => exact he
      case row r args =>
        refine ⟨h.1, RowsIn.mono h.2 fun u w'' he => ?_⟩
        exact ⟨keep a hy u, by rw [← Act.put_comm a v u h2]; exact he⟩
      case round l f tmps asg body =>
        refine ⟨h.1, RoundIn.mono h.2 fun e w'' he => ?_⟩
        cases e with
        | returned u => exact ⟨keep a hy u, by rw [← Act.put_comm a v u h2]; exact he⟩
        | panicked c => exact he
        | outgrown => exact he
      all_goals exact h
    | halt x w' => cases x <;> simp only [Oper.uponIn] at h ⊢ <;> exact h
  · rename_i hw
    rw [if_neg hw] at h
    exact ⟨keep a hy _, by rw [← Act.put_comm a v undef h2]; exact h⟩
theorem anyW_first {R : Act → World → Prop} {ld : Bool} {w0 : World} {i : Nat} {oi : Oper} {v : Value} {bl : List Nat} (hi : ops[i]? = some oi) (hsel : ∀ (j : Nat) (o : Oper) cs b, ops[j]? = some o → o.op ≠ .select cs b)
    (hq : sf i = true) :
    ∀ (fuel : Nat) (listed : Array Bool) (a : Act) (w : World),
      (∀ j oj, ops[j]? = some oj → j ≠ i → listed.getD j true = false → (∀ e ∈ oj.after, Region.binds md e = true → e.on ≠ i) → oi.apart ops oj = true) →
      (ld = true → Waits md ops listed i bl ∧ ∀ j, j ≠ i → listed.getD j true = false → sf j = false → j ∈ bl) →
      i ∈ Region.ready md ops listed → YI P ops ld w0 oi v a → (ld = true → Gro w0 w) →
      anyW P n md ops sf R fuel (listed.setIfInBounds i true) (a.put oi.dst v) w → anyW P n md ops sf R (fuel + 1) listed a w := by
  intro fuel
  induction fuel with
  | zero =>
    intro listed a w _ _ hr hy hg H
    refine ⟨fun h => (by rw [h] at hr; cases hr), fun j hj => ?_⟩
    by_cases hji : j = i
    · subst hji; exact hy.wpOW hi hg ⟨fun _ => Gro.refl w, H⟩
    · have := ready_mono hj hji
      rw [H.1] at this
      cases this
  | succ fuel ih =>
    intro listed a w hfree hbl hr hy hg H
    refine ⟨fun h => (by rw [h] at hr; cases hr), fun j hj => ?_⟩
    by_cases hji : j = i
    · subst hji; exact hy.wpOW hi hg ⟨fun _ => Gro.refl w, H⟩
    · have h1 := H.2 j (ready_mono hj hji)
      obtain ⟨hjun, oj, hoj, hall⟩ := mem_ready.1 hj
      have hiun := (mem_ready.1 hr).1
      have hnot : ∀ e ∈ oj.after, Region.binds md e = true → e.on ≠ i := fun e he hb heq => by
        have h1 := hall e he hb
        rw [heq, getD_dflt hiun] at h1; cases h1
      have h2 := wpOW_put hoj (hfree j oj hoj hji hjun hnot) (fun cs b => hsel i oi cs b hi) (fun cs b => hsel j oj cs b hoj) hy h1
      have hfree' : ∀ k ok, ops[k]? = some ok → k ≠ i → (listed.setIfInBounds j true).getD k true = false →
          (∀ e ∈ ok.after, Region.binds md e = true → e.on ≠ i) → oi.apart ops ok = true := fun k ok hk hki hun hno => by
        refine hfree k ok hk hki ?_ hno
        by_cases hjk : j = k
        · subst hjk; exact hjun
        · rw [getD_set_ne true hjk] at hun; exact hun
      have hjbl : ld = true → j ∉ bl := fun e hm => not_ready hiun (hbl e).1 hm hj
      have hsj : ld = true → sf j = true := fun e => by
        cases hs : sf j with
        | true => rfl
        | false => exact absurd ((hbl e).2 j hji hjun hs) (hjbl e)
      have hbl' : ld = true → Waits md ops (listed.setIfInBounds j true) i bl ∧ ∀ k, k ≠ i → (listed.setIfInBounds j true).getD k true = false → sf k = false → k ∈ bl := fun e => by
        refine ⟨fun k hk => ?_, fun k hki hun hs => ?_⟩
        · obtain ⟨g1, g2⟩ := (hbl e).1 k hk
          refine ⟨?_, g2⟩
          rw [getD_set_ne true (fun hh => hjbl e (by rw [hh]; exact hk))]; exact g1
        · refine (hbl e).2 k hki ?_ hs
          by_cases hjk : j = k
          · subst hjk; exact hjun
          · rw [getD_set_ne true hjk] at hun; exact hun
      refine wpOW_mono (fun a' w' h3 => ⟨h3.2.1, ih (listed.setIfInBounds j true) a' w' hfree' hbl' (ready_mono hr (Ne.symm hji)) h3.1 (fun e => (hg e).trans (h3.2.1 (hsj e))) ?_⟩) h2
      rw [Array.setIfInBounds_comm _ _ hji]
      exact h3.2.2
end
end Go.Eng
set_option linter.unusedSimpArgs false
set_option linter.unusedVariables false
namespace Go.Eng
open Go Go.RowKit
@[reducible] def isMapOf (cx : Cx) (t : TypeId) (K : IntKind → TypeId → TI → Sh → Prop) : Prop := match lkT cx.ti t with
  | some i => match i.desc with
    | .map kt et => match lkT cx.ti kt with
      | some ik => match ik.desc with
        | .int kk => match lkT cx.ti et with
          | some ie => match ie.shp with
            | some sh => K kk et ie sh
            | none => False
          | none => False
        | _ => False
      | none => False
    | _ => False
  | none => False
@[reducible] def isMapT (cx : Cx) (t : TypeId) : Bool := match lkT cx.ti t with
  | some i => match i.desc with
    | .map _ _ => true
    | _ => false
  | none => false
@[reducible] def mapRd (cx : Cx) (s : St) (x : Operand) (kk : IntKind) (sh : Sh) : Option (List (Int × sh.den)) := match getE cx s [] x with
  | some (.one (.c (.one s' d))) => castD s' d (.mp kk sh)
  | some (.one (.c (.row i))) => match nthL s.T i with
    | some ([], .mp kk' sh' l) => castD (.mp kk' sh') l (.mp kk sh)
    | _ => none
  | some (.one (.c (.v (.map none)))) => some []
  | _ => none
@[reducible] def keyRd (cx : Cx) (s : St) (x : Operand) (kk : IntKind) : Option Int := match getE cx s [] x with
  | some (.one (.c (.v (.int k n)))) => match Nat.beq (ikn k) (ikn kk) with
    | true => some n
    | false => none
  | _ => none
def mgetD {α : Type} (l : List (Int × α)) (n : Int) (z : α) : α := (mget l n).getD z
def mhas {α : Type} (l : List (Int × α)) (n : Int) : Bool := (mget l n).isSome
@[reducible] def mapPure (cx : Cx) (s : St) (o : Op) (K : Ent → Prop) : Option Prop := match o with
  | .lookup t m x ok => some (isMapOf cx t fun kk _ _ sh => match mapRd cx s m kk sh with
    | none => False
    | some l => match keyRd cx s x kk with
      | none => False
      | some n => match ok with
        | false => K (.one (ofDat sh (mgetD l n (zdat sh))))
        | true => K (.tup [ofDat sh (mgetD l n (zdat sh)), .c (.v (.bool (mhas l n)))]))
  | .call c => match c.callee with
    | .builtin .len => match tl c.argTypes with
      | [t] => match isMapT cx t with
        | false => none
        | true => some (isMapOf cx t fun kk _ _ sh => match tl c.args with
          | [m] => match mapRd cx s m kk sh with
            | none => False
            | some l => K (.one (.c (.v (.int .i64 l.length))))
          | _ => False)
      | _ => none
    | _ => none
  | _ => none
@[reducible] def mapP (cx : Cx) (s : St) (o : Oper) (K : St → Prop) : Option Prop := none
section
variable {cx : Cx} {P : Program} {N : Nat} {B : Base} {h0 : FH} {s : St} {h : FH} {β : List RV} {w : World} {a : Act} {o : Oper} {K : St → Prop}
structure MapT (P : Program) (t : TypeId) (kk : IntKind) (et : TypeId) (ie : TI) (sh : Sh) : Prop where
  und : ∃ kt, P.underlying t = some (.map kt et) ∧ P.underlying kt = some (.int kk)
  ei : TIOK P et ie
  es : ie.shp = some sh
theorem isMapOf_ok (hc : TisOK P cx.ti) {t : TypeId} {K : IntKind → TypeId → TI → Sh → Prop} (k : isMapOf cx t K) : ∃ kk et ie sh, K kk et ie sh ∧ MapT P t kk et ie sh := by
  unfold isMapOf at k
  split at k
  · rename_i i hi
    split at k
    · rename_i kt et hd
      split at k
      · rename_i ik hik
        split at k
        · rename_i kk hkk
          split at k
          · rename_i ie hie
            split at k
            · rename_i sh hsh
              exact ⟨kk, et, ie, sh, k, ⟨kt, (hc.get hi).und' hd rfl, (hc.get hik).und' hkk rfl⟩, hc.get hie, hsh⟩
            · exact k.elim
          · exact k.elim
        · exact k.elim
      · exact k.elim
    · exact k.elim
  · exact k.elim
theorem zero_DW {et : TypeId} {ie : TI} {sh : Sh} (k : TIOK P et ie) (hs : ie.shp = some sh) (h : FH) (w : World) : ∃ z, (zeroValue et).run P w = .ok z w ∧ DW h sh z (zdat sh) := by
  obtain ⟨inf, z, h1, h2, h3, h4, h5⟩ := k.info
  obtain ⟨r, ha⟩ := k.zshp sh hs
  refine ⟨z, by simp [zeroValue, typeInfo, h1, h4], ie.zero, ?_, Rd_empty r⟩
  have hz := k.zagg inf z h1 h4
  rw [← ha] at hz
  unfold mkV
  cases z with
  | agg cs =>
    have hz : sh.isAgg = true := hz.symm
    rw [hz, if_pos rfl]
    simp [Value.cells] at h5
    rw [h5]
  | _ =>
    have hz : sh.isAgg = false := hz.symm
    rw [hz, if_neg (by simp)]
    have h6 := congrArg Array.toList h5
    simp only [Value.cells] at h6
    rw [show ie.zero = _ from h6.symm]; rfl
theorem DW.cn {sh : Sh} {y : Value} {d : sh.den} (x : DW h sh y d) : CnV h β (ofDat sh d) y := by
  obtain ⟨cs, rfl, r⟩ := x
  exact ofDat_ok sh r
def MapIs (h : FH) (w : World) (kk : IntKind) (sh : Sh) (y : Value) (l : List (Int × sh.den)) : Prop :=
  (y = .map none ∧ l = []) ∨ ∃ b es c, y = .map (some b) ∧ w.heap[b]? = some (.map es c) ∧ MapR kk (DW h sh) es c l
theorem castMp {k1 kk : IntKind} {s1 sh : Sh} {l1 : List (Int × s1.den)} {l : List (Int × sh.den)} (e : castD (.mp k1 s1) l1 (.mp kk sh) = some l) : k1 = kk ∧ ∃ e' : s1 = sh, (e' ▸ l1 : List (Int × sh.den)) = l := by
  obtain ⟨e1, e2⟩ := castD_eq e
  cases e1
  exact ⟨rfl, rfl, e2⟩
theorem mapRd_ok (sat : Sat N B h0 s h β w a) (hg : GlobOK cx.gd h) {x : Operand} {kk : IntKind} {sh : Sh} {l : List (Int × sh.den)} (e : mapRd cx s x kk sh = some l) : MapIs h w kk sh (a.eval x) l := by
  have tr : gv s.gl [] = true := rfl
  unfold mapRd at e
  split at e
  · rename_i s' d hx
    have c : CnV h β (.c (.one s' d)) (a.eval x) := getE_ok sat hg tr hx
    obtain ⟨e1, e2⟩ := castD_eq e
    subst e1; simp only at e2; subst e2
    obtain ⟨v, hv, r⟩ := c.1
    have hv : a.eval x = v := by simpa using hv
    rw [hv]
    rcases r with r | ⟨b, es, cc, r1, r2, r3⟩
    · exact .inl r
    · exact .inr ⟨b, es, cc, r1, vis_map (sat.ok.hw b 0 _ r2), r3⟩
  · rename_i i hx
    have c : CnV h β (.c (.row i)) (a.eval x) := getE_ok sat hg tr hx
    split at e
    · rename_i kk' sh' l' hT
      obtain ⟨e1, e2, e3⟩ := castMp e
      subst e1; subst e2; simp only at e3; subst e3
      exact .inr (sat.ok.mp_of (effres hT tr) c.1)
    · cases e
  · rename_i hx
    have c : CnV h β (.c (.v (.map none))) (a.eval x) := getE_ok sat hg tr hx
    cases e
    exact .inl ⟨c.1.1, rfl⟩
  · cases e
theorem keyRd_ok (sat : Sat N B h0 s h β w a) (hg : GlobOK cx.gd h) {x : Operand} {kk : IntKind} {n : Int} (e : keyRd cx s x kk = some n) : a.eval x = .int kk n := by
  unfold keyRd at e
  split at e
  · rename_i k m hx
    have c : CnV h β (.c (.v (.int k m))) (a.eval x) := getE_ok sat hg (show gv s.gl [] = true from rfl) hx
    split at e
    · rename_i hk
      cases e
      rw [c.1.1, ikn_inj hk]
    · cases e
  · cases e
theorem run_chk {kt : TypeId} {kk : IntKind} {n : Int} (hk : P.underlying kt = some (.int kk)) (b : Bool) (w : World) : (Instr.checkKey b 10000 kt (.int kk n)).run P w = .ok () w :=
  MapKept.run_checkKey (n := 9999) (k := .int kk n) hk (show kk = kk from rfl) b
theorem run_look {t et : TypeId} {kk : IntKind} {ie : TI} {sh : Sh} (mt : MapT P t kk et ie sh) {y : Value} {l : List (Int × sh.den)} (m : MapIs h w kk sh y l) (n : Int) (ok : Bool) :
    ∃ v, DW h sh v (mgetD l n (zdat sh)) ∧ (Instr.lookup t y (.int kk n) ok).run P w = .ok (if ok then .tuple #[v, .bool (mhas l n)] else v) w := by
  obtain ⟨kt, hu, hk⟩ := mt.und
  obtain ⟨z, hz, dz⟩ := zero_DW mt.ei mt.es h w
  rcases m with ⟨rfl, rfl⟩ | ⟨b, es, c, rfl, hb, m⟩
  · refine ⟨z, dz, ?_⟩
    have hf := MapKept.run_findKey (P := P) (w := w) (k := .int kk n) (l := []) hk rfl
    simp [Instr.lookup, run_underlying hu, run_chk hk, hf, hz, mhas, mget, Result.andThen]
  · rcases m.find kk n with ⟨j, e, d, e1, e2, e3, e4, e5⟩ | ⟨e1, e2⟩
    · refine ⟨e.val, by rw [show mgetD l n (zdat sh) = d by simp [mgetD, e2]]; exact e3, ?_⟩
      have hf := MapKept.run_findKey (P := P) (w := w) hk e5
      simp [Instr.lookup, run_underlying hu, run_chk hk, MapKept.run_getObj_map hb, hf, mhas, e2, Result.andThen]
    · refine ⟨z, by rw [show mgetD l n (zdat sh) = zdat sh by simp [mgetD, e1]]; exact dz, ?_⟩
      have hf := MapKept.run_findKey (P := P) (w := w) hk e2
      simp [Instr.lookup, run_underlying hu, run_chk hk, MapKept.run_getObj_map hb, hf, hz, mhas, e1, Result.andThen]
theorem run_mlen {t et : TypeId} {kk : IntKind} {ie : TI} {sh : Sh} (mt : MapT P t kk et ie sh) {y : Value} {l : List (Int × sh.den)} (m : MapIs h w kk sh y l) {ts : Array TypeId} (ht : ts = #[t]) {ty : TypeId} :
    (Builtin.len_ ts ty #[y]).run P w = .ok (.int .i64 l.length) w := by
  obtain ⟨kt, hu, hk⟩ := mt.und
  subst ht
  rcases m with ⟨rfl, rfl⟩ | ⟨b, es, c, rfl, hb, m⟩
  · simp [Builtin.len_, run_underlying hu, goInt]
  · simp [Builtin.len_, run_underlying hu, MapKept.run_getObj_map hb, goInt, m.len]
theorem mapPure_run (hc : TisOK P cx.ti) (sat : Sat N B h0 s h β w a) (hg : GlobOK cx.gd h) {K : Ent → Prop} {p : Prop} (hp : mapPure cx s o.op K = some p) (k : p) :
    ∃ e v, K e ∧ (execOp a.eval o).run P w = .ok (.value v) w ∧ CnE h β e v := by
  unfold mapPure at hp
  split at hp
  · rename_i t m x okb ho
    cases hp
    obtain ⟨kk, et, ie, sh, k, mt⟩ := isMapOf_ok hc k
    split at k
    · exact k.elim
    rename_i l hl
    split at k
    · exact k.elim
    rename_i n hn
    have hm := mapRd_ok sat hg hl
    have hx := keyRd_ok sat hg hn
    obtain ⟨v, dv, run⟩ := run_look mt hm n okb
    have run2 : (execOp a.eval o).run P w = .ok (.value (if okb then .tuple #[v, .bool (mhas l n)] else v)) w := by
      simp only [execOp, ho, hx, Sem.run_bind, run, Result.andThen_ok, Sem.run_pure]
    split at k
    · exact ⟨_, _, k, run2, dv.cn⟩
    · exact ⟨_, _, k, run2, [v, .bool (mhas l n)], rfl, dv.cn, ⟨⟨rfl, rfl, rfl⟩, rfl, rfl⟩, trivial⟩
  · rename_i c ho
    split at hp
    · rename_i hcal
      split at hp
      · rename_i t ht
        split at hp
        · cases hp
        · cases hp
          obtain ⟨kk, et, ie, sh, k, mt⟩ := isMapOf_ok hc k
          split at k
          · rename_i m hm0
            split at k
            · exact k.elim
            rename_i l hl
            have hm := mapRd_ok sat hg hl
            refine ⟨_, _, k, ?_, ⟨⟨rfl, rfl, rfl⟩, rfl, rfl⟩⟩
            simp [execOp, ho, resolve, hcal, invoke, builtin, tl_eq hm0, run_mlen mt hm (tl_eq ht)]
          · exact k.elim
      · cases hp
    · cases hp
  · cases hp
theorem All2.memL {α β : Type} {R : α → β → Prop} : ∀ {l : List α} {m : List β} {a : α}, All2 R l m → a ∈ l → ∃ b ∈ m, R a b
  | [], _, _, _, ha => by cases ha
  | x :: l, y :: m, a, ⟨h1, h2⟩, ha => by
    rcases List.mem_cons.1 ha with rfl | ha
    · exact ⟨y, by simp, h1⟩
    · obtain ⟨b, hb, r⟩ := All2.memL h2 ha; exact ⟨b, by simp [hb], r⟩
theorem mapP_ok (hc : TisOK P cx.ti) (sat : Sat N B h0 s h β w a) (hg : GlobOK cx.gd h) (hd : dOK N o.dst = true) {p : Prop} (hp : mapP cx s o K = some p) (k : p) : o.guard = none ∧ OpW P N B h0 h w a o true K := by
  unfold mapP at hp
  cases hp
end
end Go.Eng
