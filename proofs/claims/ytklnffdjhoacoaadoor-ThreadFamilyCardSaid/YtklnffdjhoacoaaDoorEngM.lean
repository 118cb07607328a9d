/- The engine, part M: append, make. -/
import Derived.Test.YtklnffdjhoacoaaDoorEngL
set_option linter.unusedSimpArgs false
set_option linter.unusedVariables false
namespace Go.Eng
open Go Go.RowKit

/-- Room for n elements of so many bytes. -/
def InA (n bytes : Nat) : Prop := n * bytes ≤ 140737488355328

/-! Nothing is known any more of what speaks of resource i. -/
@[reducible] def jkC (i : Nat) (x : SC) : SC := match SC.free i x with
  | true => x
  | false => .junk
@[reducible] def jkV (i : Nat) : SV → SV
  | .c x => .c (jkC i x)
  | .agg xs => .agg (mapL (jkC i) xs)
  | v => v
@[reducible] def jkE (i : Nat) : Ent → Ent
  | .one v => .one (jkV i v)
  | .tup vs => .tup (mapL (jkV i) vs)
@[reducible] def jkR (i : Nat) : Res → Res
  | .blk t cs => .blk t (mapL (jkC i) cs)
  | r => r
@[reducible] def jkEnv (i : Nat) : List (Nat × Gd × Ent) → List (Nat × Gd × Ent)
  | [] => []
  | (k, g, e) :: l => (k, g, jkE i e) :: jkEnv i l
@[reducible] def jkT (i : Nat) : List (Gd × Res) → List (Gd × Res)
  | [] => []
  | (g, r) :: l => (g, jkR i r) :: jkT i l

theorem CnC.jk {h : FH} {β : List RV} {i : Nat} {x : SC} {y : Value} (v : RV) (c : CnC h β x y) : CnC h (β.set i v) (jkC i x) y := by
  unfold jkC
  split
  · rename_i hf; exact c.set hf
  · trivial
theorem CnC.jk0 {h : FH} {β : List RV} {i : Nat} {x : SC} {y : Value} (c : CnC h β x y) : CnC h β (jkC i x) y := by
  unfold jkC
  split
  · exact c
  · trivial
theorem All2.jk {h : FH} {β : List RV} {i : Nat} (v : RV) : ∀ {xs : List SC} {ys : List Value}, All2 (fun x y => CnC h β x y ∧ oneC y) xs ys → All2 (fun x y => CnC h (β.set i v) x y ∧ oneC y) (mapL (jkC i) xs) ys
  | [], [], _ => trivial
  | _ :: _, _ :: _, ⟨a, b⟩ => ⟨⟨a.1.jk v, a.2⟩, All2.jk v b⟩
theorem All2.jk0 {h : FH} {β : List RV} {i : Nat} : ∀ {xs : List SC} {ys : List Value}, All2 (fun x y => CnC h β x y ∧ oneC y) xs ys → All2 (fun x y => CnC h β x y ∧ oneC y) (mapL (jkC i) xs) ys
  | [], [], _ => trivial
  | _ :: _, _ :: _, ⟨a, b⟩ => ⟨⟨a.1.jk0, a.2⟩, All2.jk0 b⟩
theorem CnV.jk {h : FH} {β : List RV} {i : Nat} (v : RV) : ∀ {x : SV} {y : Value}, CnV h β x y → CnV h (β.set i v) (jkV i x) y
  | .c _, _, c => ⟨c.1.jk v, c.2⟩
  | .agg _, _, ⟨ys, e, a⟩ => ⟨ys, e, a.jk v⟩
  | .dat _ _, _, c => c
  | .und, _, c => c
theorem CnE.jk {h : FH} {β : List RV} {i : Nat} (v : RV) : ∀ {x : Ent} {y : Value}, CnE h β x y → CnE h (β.set i v) (jkE i x) y
  | .one _, _, c => CnV.jk v c
  | .tup _, _, ⟨ys, e, a⟩ => ⟨ys, e, go a⟩
where
  go : ∀ {xs : List SV} {ys : List Value}, All2 (CnV h β) xs ys → All2 (CnV h (β.set i v)) (mapL (jkV i) xs) ys
    | [], [], _ => trivial
    | _ :: _, _ :: _, ⟨a, b⟩ => ⟨a.jk v, go b⟩
theorem Holds.jk0 {h : FH} {β : List RV} {w : World} {i : Nat} : ∀ {r : Res} {v : RV}, Holds h β w r v → Holds h β w (jkR i r) v
  | .blk _ _, .blk _, ⟨ys, e, a⟩ => ⟨ys, e, a.jk0⟩
  | .row _ _ _, .row _, e => e
  | .obj _ _ _, .blk _, e => e
  | .gone, _, _ => trivial
theorem jkC_free (i : Nat) (x : SC) : SC.free i (jkC i x) = true := by
  unfold jkC
  split
  · assumption
  · rfl
theorem jk_allFree (i : Nat) : ∀ xs : List SC, allFree i (mapL (jkC i) xs) = true
  | [] => rfl
  | x :: l => by simp only [mapL, allFree, jkC_free, jk_allFree i l, Bool.and_self]
theorem jkR_free (i : Nat) (r : Res) : Res.free i (jkR i r) = true := by
  cases r with
  | blk t cs => exact jk_allFree i cs
  | _ => rfl
theorem jkR_live (i : Nat) (r : Res) : (jkR i r).live = r.live := by cases r <;> rfl

theorem lkE_jk (i : Nat) : ∀ {l : List (Nat × Gd × Ent)} {t : Nat} {G : Gd} {e : Ent}, lkE (jkEnv i l) t = some (G, e) → ∃ e0, lkE l t = some (G, e0) ∧ e = jkE i e0
  | [], _, _, _, h => by simp [jkEnv, lkE] at h
  | (k, g, e0) :: l, t, G, e, h => by
    simp only [jkEnv] at h
    rw [lkE_cons] at h ⊢
    split at h
    · rename_i hk; cases h; exact ⟨e0, by rw [if_pos hk], rfl⟩
    · rename_i hk; rw [if_neg hk]; exact lkE_jk i h
theorem lkE_jk' (i : Nat) : ∀ {l : List (Nat × Gd × Ent)} {t : Nat} {G : Gd} {e : Ent}, lkE l t = some (G, e) → lkE (jkEnv i l) t = some (G, jkE i e)
  | [], _, _, _, h => by simp [lkE] at h
  | (k, g, e0) :: l, t, G, e, h => by
    simp only [jkEnv]
    rw [lkE_cons] at h ⊢
    split at h
    · rename_i hk; cases h; rw [if_pos hk]
    · rename_i hk; rw [if_neg hk]; exact lkE_jk' i h
theorem eff_jk (gl : List Bool) (i : Nat) : ∀ {T : List (Gd × Res)}, eff gl (jkT i T) = (eff gl T).map (jkR i)
  | [] => rfl
  | (g, r) :: l => by
    simp only [jkT, eff, List.map_cons, eff_jk gl i (T := l)]
    congr 1
    cases gv gl g <;> rfl

section
variable {cx : Cx} {P : Program} {N : Nat} {B : Base} {h0 : FH} {s : St} {h : FH} {β : List RV} {w : World} {a : Act} {o : Oper} {K : St → Prop}

theorem OK.jk {T : List Res} (ok : OK B h0 T h β w) (i : Nat) : OK B h0 (T.map (jkR i)) h β w where
  below := ok.below
  dr := ok.dr
  len := by simp [ok.len]
  holds := by
    intro j r v e e'
    rw [List.getElem?_map] at e
    cases hj : T[j]? with
    | none => rw [hj] at e; cases e
    | some r0 => rw [hj] at e; cases e; exact (ok.holds j r0 v hj e').jk0
  own := by
    intro j r v b e hl e' hb
    rw [List.getElem?_map] at e
    cases hj : T[j]? with
    | none => rw [hj] at e; cases e
    | some r0 => rw [hj] at e; cases e; exact ok.own j r0 v b hj (by rw [← jkR_live i]; exact hl) e' hb
  inj := by
    intro j k r1 r2 u v b e1 l1 e2 l2 e3 e4 b1 b2
    rw [List.getElem?_map] at e1 e2
    cases hj : T[j]? with
    | none => rw [hj] at e1; cases e1
    | some q1 =>
      cases hk : T[k]? with
      | none => rw [hk] at e2; cases e2
      | some q2 =>
        rw [hj] at e1; rw [hk] at e2
        cases e1; cases e2
        exact ok.inj j k q1 q2 u v b hj (by rw [← jkR_live i]; exact l1) hk (by rw [← jkR_live i]; exact l2) e3 e4 b1 b2
  hle := ok.hle
  hw := ok.hw
  hg := ok.hg
  kn := ok.kn

/-- Resource r moves or grows: what spoke of it is forgotten, and the value that the operation gives leads to it. -/
theorem move_step (sat : Sat N B h0 s h β w a) (hq : quietly o.op = false) (hd : dOK N o.dst = true) {r : Nat} {x x' : Res} {u v : RV} (hT : nthL s.T r = some ([], x)) (hl : x.live = true) (hu : β[r]? = some u) {y : Value} {w' : World}
    (hg : Gb w w' u.block) (hv : ∀ b, v.block = some b → u.block = some b ∨ (w.heap.size ≤ b ∧ b < w'.heap.size)) (hold : Holds h (β.set r v) w' x' v)
    (run : (execOp a.eval o).run P w = .ok (.value y) w') {e : Ent} (he : CnE h (β.set r v) e y)
    (k : K ({ s with T := setL (jkT r s.T) r ([], x'), env := jkEnv r s.env }.put o.dst [] e)) :
    OpOK P N B h0 h w a o (gv s.gl []) K := by
  have tr : gv s.gl [] = true := rfl
  have hT' := effres hT tr
  have okj := sat.ok.jk r
  have hTj : ((eff s.gl s.T).map (jkR r))[r]? = some (jkR r x) := by rw [List.getElem?_map, hT']; rfl
  have ok : OK B h0 (eff s.gl (setL (jkT r s.T) r ([], x'))) h (β.set r v) w' := by
    rw [eff_set, eff_jk]
    refine okj.upd hTj (by rw [jkR_live]; exact hl) hu hg hv (.inr fun j rj _ ej => ?_) hold
    rw [List.getElem?_map] at ej
    cases hj : (eff s.gl s.T)[j]? with
    | none => rw [hj] at ej; cases ej
    | some q => rw [hj] at ej; cases ej; exact jkR_free r q
  have sat' : Sat N B h0 { s with T := setL (jkT r s.T) r ([], x'), env := jkEnv r s.env } h (β.set r v) w' a := by
    refine ⟨ok, ?_, ?_, sat.defers, sat.sz, ?_, ?_⟩
    · intro t G e ht
      obtain ⟨e0, h1, rfl⟩ := lkE_jk r ht
      obtain ⟨z, q1, q2, q3⟩ := sat.env t G e0 h1
      exact ⟨z, q1, fun hG => (q2 hG).jk v, q3⟩
    · intro d i hi
      obtain ⟨G, b, q1, q2⟩ := sat.gs d i hi
      exact ⟨G, b, lkE_jk' r q1, q2⟩
    · intro t G e ht
      obtain ⟨e0, h1, rfl⟩ := lkE_jk r ht
      exact sat.gb t G e0 h1
    · intro p hp
      simp only at hp
      rw [setL_eq] at hp
      rcases List.mem_or_eq_of_mem_set hp with hp | hp
      · have : ∀ {l : List (Gd × Res)}, p ∈ jkT r l → ∃ q ∈ l, q.1 = p.1 := by
          intro l
          induction l with
          | nil => intro hh; simp [jkT] at hh
          | cons q l ih =>
            obtain ⟨g, q⟩ := q
            intro hh
            simp only [jkT, List.mem_cons] at hh
            rcases hh with rfl | hh
            · exact ⟨(g, q), by simp, rfl⟩
            · obtain ⟨q', h1, h2⟩ := ih hh; exact ⟨q', by simp [h1], h2⟩
        obtain ⟨q, h1, h2⟩ := this hp
        rw [← h2]; exact sat.gT q h1
      · subst hp; rfl
  exact upd_step sat k tr hq (.inl run) (FH.le.refl h) (sat'.put (dOK_lt hd) rfl (fun _ => he) fun hh => by cases hh)
end

/-! append. -/

/-- What is appended. -/
def SrcIs (h : FH) (w : World) (sh : Sh) (v : Value) (l : List sh.den) : Prop :=
  (v = .slice none 0 0 ∧ l = []) ∨ (∃ a c, v = .slice (some a) 0 c ∧ l = []) ∨ ∃ b o c cs, v = .slice (some ⟨b, o, none⟩) l.length c ∧ RdL (Rd h sh) cs l ∧ ∀ j u, cs[j]? = some u → w.cell? ⟨b, o + j, none⟩ = some u

def RowIs (h : FH) (w : World) (t : TypeId) (sh : Sh) (v : Value) (l : List sh.den) : Prop := Holds h [] w (.row t sh l) (.row v)

theorem run_append_row {P : Program} {t ty el : TypeId} {i : TI} {h : FH} {w : World} {sh : Sh} {v sv : Value} {l l2 : List sh.den} (hu : P.underlying t = some (.slice el)) (k : TIOK P el i) (hs : sh.size = i.size)
    (hb1 : 1 ≤ i.bytes) (hs1 : 1 ≤ i.size) (row : RowIs h w el sh v l) (src : SrcIs h w sh sv l2) (room : InA (l.length + l2.length) i.bytes)
    (hw : ∀ b o u, h b o = some u → w.cell? ⟨b, o, none⟩ = some u) :
    ∃ v' w', (Builtin.append_ #[t, t] ty #[v, sv]).run P w = .ok v' w' ∧ Gb w w' (rowBlk v) ∧ (∀ b, rowBlk v' = some b → rowBlk v = some b ∨ (w.heap.size ≤ b ∧ b < w'.heap.size)) ∧ RowIs h w' el sh v' (l ++ l2) := by
  obtain ⟨inf, z, i1, i2, i3, i4, i5⟩ := k.info
  unfold InA at room
  have hn : l.length + l2.length ≤ 140737488355328 := Nat.le_trans (Nat.le_mul_of_pos_right _ hb1) room
  have zsz : z.cells.size = i.size := by rw [i5]; simpa using k.zlen
  rcases src with ⟨rfl, rfl⟩ | ⟨sa, sc, rfl, rfl⟩ | ⟨b, o, c, cs, rfl, rd, at_⟩
  · refine ⟨v, w, ?_, grown_refl _ _, fun b hb => .inl hb, by rw [List.append_nil]; exact row⟩
    rcases row with ⟨rfl, rfl⟩ | ⟨_, rfl, rfl⟩ | ⟨g, cap, cur, rfl, q1, q2, q3, q4, q5⟩
    · simp [Builtin.append_, run_underlying hu, sizeOf, typeInfo, i1, Builtin.lenOf, Builtin.firstCells]
    · simp [Builtin.append_, run_underlying hu, sizeOf, typeInfo, i1, Builtin.lenOf, Builtin.firstCells, storeCells]
    · simp [Builtin.append_, run_underlying hu, sizeOf, typeInfo, i1, Builtin.lenOf, Builtin.firstCells, q2, storeCells]
  · refine ⟨v, w, ?_, grown_refl _ _, fun b hb => .inl hb, by rw [List.append_nil]; exact row⟩
    rcases row with ⟨rfl, rfl⟩ | ⟨_, rfl, rfl⟩ | ⟨g, cap, cur, rfl, q1, q2, q3, q4, q5⟩
    · simp [Builtin.append_, run_underlying hu, sizeOf, typeInfo, i1, Builtin.lenOf, Builtin.firstCells, loadCells, loadCellsFrom]
    · simp [Builtin.append_, run_underlying hu, sizeOf, typeInfo, i1, Builtin.lenOf, Builtin.firstCells, storeCells, loadCells, loadCellsFrom]
    · simp [Builtin.append_, run_underlying hu, sizeOf, typeInfo, i1, Builtin.lenOf, Builtin.firstCells, q2, storeCells, loadCells, loadCellsFrom]
  · have hcs : cs.length = l2.length * inf.size := by rw [RdL.size (fun _ _ => Rd.size sh) rd, i2, hs]
    have hnews : ∀ j u, cs[j]? = some u → w.cell? ((⟨b, o, none⟩ : Addr).add j) = some u := fun j u e => by rw [add_lit]; exact at_ j u e
    have h1 : ∀ u ∈ cs, u.oneCell' = true := fun u hu' => (RdL.all (fun _ _ r => Rd.one sh r) rd u hu').2
    rcases row with ⟨rfl, rfl⟩ | ⟨ra, rfl, rfl⟩ | ⟨g, cap, cur, rfl, q1, q2, q3, q4, q5⟩
    · by_cases hm : l2.length = 0
      · have : l2 = [] := List.eq_nil_of_length_eq_zero hm
        subst this
        refine ⟨.slice none 0 0, w, ?_, grown_refl _ _, fun b hb => .inl hb, .inl ⟨rfl, rfl⟩⟩
        simp [Builtin.append_, run_underlying hu, sizeOf, typeInfo, i1, Builtin.lenOf, Builtin.firstCells, loadCells, loadCellsFrom]
      · have r := run_append_nil (P := P) w t ty el inf z hu i1 i4 ⟨b, o, none⟩ l2.length c cs hcs hnews (by omega) (by simp at hn; omega) (by rw [i3]; simp at room; omega)
        have hge := grownCap_ge w l2.length 0 el
        refine ⟨_, _, r, ⟨⟨rfl, rfl, rfl, by simp, fun k hk _ => (World.grownBy_alloc w.drew _ none).block k hk (by simp)⟩, Nat.le_succ _⟩, ?_, ?_⟩
        · intro b' hb'; simp [rowBlk] at hb'; obtain ⟨_, rfl⟩ := hb'; right; simp
        · refine .inr (.inr ⟨w.heap.size, _, _, rfl, heap_alloc_new w.drew _, by simpa using hge, ⟨by omega, grownCap_le_maxLen w l2.length 0 el (by simp only [maxLen]; simp at hn; omega)⟩, ?_, ?_⟩)
          · simp only [Array.size_append, List.size_toArray, size_zeroCells, zsz, hcs, i2, hs, ← Nat.add_mul]
            congr 1; omega
          · simp only [Array.toList_append, List.nil_append]
            rw [show l2.length * sh.size = cs.length by rw [hcs, i2, hs], List.take_left]
            exact rd
    · by_cases hm : l2.length = 0
      · have : l2 = [] := List.eq_nil_of_length_eq_zero hm
        subst this
        refine ⟨.slice (some ra) 0 0, w, ?_, grown_refl _ _, fun b hb => .inl hb, .inr (.inl ⟨ra, rfl, rfl⟩)⟩
        simp [Builtin.append_, run_underlying hu, sizeOf, typeInfo, i1, Builtin.lenOf, Builtin.firstCells, storeCells, loadCells, loadCellsFrom]
      · have r := run_append_grow (P := P) w t ty el inf z hu i1 i4 ra 0 0 [] (by simp) (fun j u e => by simp at e) ⟨b, o, none⟩ l2.length c cs hcs hnews (by omega) (by simp at hn; omega) (growslice_fits (by omega) (by rw [i3]; simpa using room))
        rw [Nat.zero_add] at r
        have hge := grownCap_ge w l2.length 0 el
        refine ⟨_, _, r, ⟨⟨rfl, rfl, rfl, by simp, fun k hk _ => (World.grownBy_alloc w.drew _ none).block k hk (by simp)⟩, Nat.le_succ _⟩, ?_, ?_⟩
        · intro b' hb'; simp [rowBlk] at hb'; obtain ⟨_, rfl⟩ := hb'; right; simp
        · refine .inr (.inr ⟨w.heap.size, _, _, rfl, heap_alloc_new w.drew _, by simpa using hge, ⟨by omega, grownCap_le_maxLen w l2.length 0 el (by simp only [maxLen]; simp at hn; omega)⟩, ?_, ?_⟩)
          · simp only [Array.size_append, List.size_toArray, size_zeroCells, zsz, List.nil_append, hcs, i2, hs, Nat.zero_add, List.length_nil, ← Nat.add_mul]
            congr 1; omega
          · simp only [Array.toList_append, List.nil_append]
            rw [show l2.length * sh.size = cs.length by rw [hcs, i2, hs], List.take_left]
            exact rd
    · by_cases hroom : l.length + l2.length ≤ cap
      · have hfit : l.length * inf.size + cs.length ≤ cur.size := by rw [hcs, q4, i2, hs, ← Nat.add_mul]; exact Nat.mul_le_mul_right _ hroom
        have r := run_append_room (P := P) w t ty el inf hu i1 g l.length cap cur q1 ⟨b, o, none⟩ l2.length c cs hcs hnews h1 hroom hfit
        refine ⟨_, _, r, by rw [rowBlk_own q3.1]; exact grown_setRow w g _, fun b' hb' => .inl (by rw [rowBlk_own q3.1] at hb' ⊢; exact hb'), .inr (.inr ⟨g, cap, _, by rw [List.length_append], setRow_heap w g cur _ el _ q1, by rw [List.length_append]; exact hroom, q3, ?_, ?_⟩)⟩
        · simp only [List.size_toArray, List.length_append, List.length_take, List.length_drop, Array.length_toList]; omega
        · have e1 : (List.take (l.length * sh.size) cur.toList ++ cs).length = (l ++ l2).length * sh.size := by
            rw [List.length_append, List.length_append, Nat.add_mul, hcs, i2, RdL.size (fun _ _ => Rd.size sh) q5, hs]
          show RdL (Rd h sh) ((List.take (l.length * inf.size) cur.toList ++ cs ++ List.drop (l.length * inf.size + cs.length) cur.toList).take ((l ++ l2).length * sh.size)) (l ++ l2)
          rw [i2, ← hs, ← e1, List.take_left]
          exact q5.append rd
      · have lsz := RdL.size (fun _ _ => Rd.size sh) q5
        have hol : (cur.toList.take (l.length * sh.size)).length = l.length * inf.size := by rw [lsz, i2, hs]
        have holds : ∀ j u, (cur.toList.take (l.length * sh.size))[j]? = some u → w.cell? ((⟨g, 0, none⟩ : Addr).add j) = some u := by
          intro j u e
          rw [add_lit, Nat.zero_add, cell_of_row w g j cur el (0, 0) q1]
          rw [List.getElem?_take] at e
          split at e
          · simpa using e
          · cases e
        have r := run_append_grow (P := P) w t ty el inf z hu i1 i4 ⟨g, 0, none⟩ l.length cap _ hol holds ⟨b, o, none⟩ l2.length c cs hcs hnews (by omega) (by omega) (growslice_fits (by omega) (by rw [i3]; exact room))
        have hge := grownCap_ge w (l.length + l2.length) cap el
        refine ⟨_, _, r, ⟨⟨rfl, rfl, rfl, by simp, fun k hk _ => (World.grownBy_alloc w.drew _ none).block k hk (by simp)⟩, Nat.le_succ _⟩, ?_, ?_⟩
        · intro b' hb'; simp [rowBlk] at hb'; obtain ⟨_, rfl⟩ := hb'; right; simp
        · refine .inr (.inr ⟨w.heap.size, _, _, by rw [List.length_append], heap_alloc_new w.drew _, by rw [List.length_append]; exact hge, ⟨by omega, grownCap_le_maxLen w _ cap el (by simp only [maxLen]; omega)⟩, ?_, ?_⟩)
          · have lsz2 : (cur.toList.take (l.length * i.size)).length = l.length * i.size := by rw [← hs]; exact lsz
            simp only [Array.size_append, List.size_toArray, size_zeroCells, zsz, hcs, i2, hs, lsz2, ← Nat.add_mul]
            congr 1
            omega
          · simp only [Array.toList_append, List.append_assoc]
            rw [← List.append_assoc, show (l ++ l2).length * sh.size = (List.take (l.length * sh.size) cur.toList ++ cs).length by rw [List.length_append, List.length_append, Nat.add_mul, hcs, lsz, i2, hs], List.take_left]
            exact q5.append rd

@[reducible] def isOneOf (cx : Cx) (t : TypeId) (K : TypeId → TI → Sh → Prop) : Prop := match descOf cx t with
  | .slice el => match lkT cx.ti el with
    | none => False
    | some ie => match ie.shp with
      | none => False
      | some sh => match andB (Nat.beq sh.size ie.size) (andB (Nat.ble 1 ie.bytes) (Nat.ble 1 ie.size)) with
        | true => K el ie sh
        | false => False
  | _ => False

/-- The elements that a value gives to append. -/
@[reducible] def srcD (s : St) (sh : Sh) (v : SV) : Option (List sh.den) := match v with
  | .c (.sl sh2 l2) => castD (.sl sh2) l2 (.sl sh)
  | .c (.v (.slice none 0 0)) => some []
  | .c (.row r) => match nthL s.T r with
    | some ([], .row _ sh2 l2) => castD (.sl sh2) l2 (.sl sh)
    | _ => none
  | _ => none

@[reducible] def appendK (cx : Cx) (s : St) (d : Option Nat) (t : TypeId) (x y : Operand) (K : St → Prop) : Prop := isOneOf cx t fun el ie sh =>
  match getE cx s [] y with
  | some (.one v2) => match srcD s sh v2 with
    | none => False
    | some l2 => match getE cx s [] x with
      | some (.one (.c (.row r))) => match nthL s.T r with
        | some ([], .row tt sh1 l1) => match Nat.beq tt el with
          | true => match castD (.sl sh1) l1 (.sl sh) with
            | some l => InA (l.length + l2.length) ie.bytes ∧ K ({ s with T := setL (jkT r s.T) r ([], .row el sh (l ++ l2)), env := jkEnv r s.env }.put d [] (.one (.c (.row r))))
            | none => False
          | false => False
        | _ => False
      | some (.one (.c (.v (.slice none 0 0)))) => InA l2.length ie.bytes ∧ K ({ s with T := snoc s.T ([], .row el sh l2) }.put d [] (.one (.c (.row (lenL s.T)))))
      | _ => False
  | _ => False

section
variable {cx : Cx} {P : Program} {N : Nat} {B : Base} {h0 : FH} {s : St} {h : FH} {β : List RV} {w : World} {a : Act} {o : Oper} {K : St → Prop}

theorem castSl {sh1 sh : Sh} {l1 : List sh1.den} {l : List sh.den} (e : castD (.sl sh1) l1 (.sl sh) = some l) : ∃ e' : sh1 = sh, (e' ▸ l1 : List sh.den) = l := by
  obtain ⟨e1, e2⟩ := castD_eq e
  cases e1
  exact ⟨rfl, e2⟩

theorem srcD_ok (sat : Sat N B h0 s h β w a) {sh : Sh} {v : SV} {l : List sh.den} {y : Value} (e : srcD s sh v = some l) (c : CnV h β v y) : SrcIs h w sh y l := by
  unfold srcD at e
  split at e
  · rename_i sh2 l2
    obtain ⟨e1, e2⟩ := castSl e
    subst e1; simp only at e2; subst e2
    rcases c.1 with ⟨e1, e2⟩ | ⟨ad, cap, e1, e2, _⟩ | ⟨b, off, cap, e1, q1, q2, cs, rd, at_⟩
    · exact .inl ⟨e1, e2⟩
    · exact .inr (.inl ⟨ad, cap, e1, e2⟩)
    · exact .inr (.inr ⟨b, off, cap, cs, e1, rd, fun j u hj => sat.ok.hw _ _ _ (at_ j u hj)⟩)
  · cases e; exact .inl ⟨c.1.1, rfl⟩
  · rename_i r
    split at e
    · rename_i tt sh2 l2 hT
      obtain ⟨e1, e2⟩ := castSl e
      subst e1; simp only at e2; subst e2
      rcases sat.ok.holds r _ _ (effres hT rfl) c.1 with ⟨e1, e2⟩ | ⟨ra, e1, e2⟩ | ⟨g, cap, cur, e1, q1, q2, q3, q4, rd⟩
      · exact .inl ⟨e1, e2⟩
      · exact .inr (.inl ⟨ra, 0, e1, e2⟩)
      · refine .inr (.inr ⟨g, 0, cap, _, e1, rd, fun j u hj => ?_⟩)
        rw [Nat.zero_add, cell_of_row w g j cur tt (0, 0) q1]
        rw [List.getElem?_take] at hj
        split at hj
        · simpa using hj
        · cases hj
    · cases e
  · cases e

theorem append_step (hc : TisOK P cx.ti) (sat : Sat N B h0 s h β w a) (hg : GlobOK cx.gd h) (hd : dOK N o.dst = true) {t : TypeId} {x y : Operand} {c : Call} (ho : o.op = .call c) (hcal : c.callee = .builtin .append) (ha : c.args = #[x, y]) (ht : c.argTypes = #[t, t])
    (k : appendK cx s o.dst t x y K) : OpOK P N B h0 h w a o (gv s.gl []) K := by
  have tr : gv s.gl [] = true := rfl
  unfold appendK isOneOf at k
  split at k
  · rename_i el hde
    have hu := descOf_und hc hde (by simp)
    split at k
    · exact k.elim
    rename_i ie hie
    have tie := hc.get hie
    split at k
    · exact k.elim
    rename_i sh hsh
    split at k
    · rename_i hz
      rw [andB_eq, andB_eq, Bool.and_eq_true, Bool.and_eq_true] at hz
      have hz1 : sh.size = ie.size := Nat.eq_of_beq_eq_true hz.1
      have hz2 : 1 ≤ ie.bytes := Nat.le_of_ble_eq_true hz.2.1
      have hz3 : 1 ≤ ie.size := Nat.le_of_ble_eq_true hz.2.2
      split at k
      · rename_i v2 hv2
        have c2 := getE_ok sat hg tr hv2
        split at k
        · exact k.elim
        rename_i l2 hl2
        have src := srcD_ok sat hl2 c2
        have exec : ∀ {u u' : Value} {w' : World}, a.eval x = u → (Builtin.append_ #[t, t] o.type #[u, a.eval y]).run P w = .ok u' w' → (execOp a.eval o).run P w = .ok (.value u') w' := by
          intro u u' w' e r
          simp [execOp, ho, resolve, hcal, ha, ht, invoke, builtin, e, r]
        split at k
        · rename_i r hr
          have cr := getE_ok sat hg tr hr
          split at k
          · rename_i tt sh1 l1 hT
            split at k
            · rename_i htt
              have htt : tt = el := Nat.eq_of_beq_eq_true htt
              subst htt
              split at k
              · rename_i l hl
                obtain ⟨e1, e2⟩ := castSl hl
                subst e1; simp only at e2; subst e2
                have row : RowIs h w tt sh1 (a.eval x) l1 := sat.ok.holds r _ _ (effres hT tr) cr.1
                obtain ⟨v', w', r1, r2, r3, r4⟩ := run_append_row (ty := o.type) hu tie hz1 hz2 hz3 row src k.1 sat.ok.hw
                have hlt : r < β.length := (List.getElem?_eq_some_iff.1 cr.1).1
                refine move_step sat (by rw [ho]; simp only [quietly, hcal]) hd (v := .row v') hT rfl cr.1 r2 r3 (show Holds h (β.set r (.row v')) w' (.row tt sh1 (l1 ++ l2)) (.row v') from r4) (exec rfl r1) ?_ k.2
                refine ⟨?_, ?_⟩
                · show (β.set r (.row v'))[r]? = some (.row v')
                  rw [List.getElem?_set_self hlt]
                · rcases r4 with ⟨rfl, _⟩ | ⟨_, rfl, _⟩ | ⟨g, cap, cur, rfl, _⟩ <;> exact ⟨rfl, rfl⟩
              · exact k.elim
            · exact k.elim
          · exact k.elim
        · rename_i hx
          have cx' := getE_ok sat hg tr hx
          obtain ⟨v', w', r1, r2, r3, r4⟩ := run_append_row (ty := o.type) (l := []) hu tie hz1 hz2 hz3 (.inl ⟨cx'.1.1, rfl⟩) src (by simpa using k.1) sat.ok.hw
          refine new_step sat rfl hd k.2 fun _ => ⟨v', w', .row v', exec rfl r1, ?_, ?_, ?_, ?_⟩
          · rw [cx'.1.1] at r2; exact r2
          · intro b hb
            rcases r3 b hb with hh | hh
            · rw [cx'.1.1] at hh; cases hh
            · exact hh
          · exact r4
          · refine ⟨last_ref (sat_len sat) _, ?_⟩
            rcases r4 with ⟨rfl, _⟩ | ⟨_, rfl, _⟩ | ⟨g, cap, cur, rfl, _⟩ <;> exact ⟨rfl, rfl⟩
        · exact k.elim
      · exact k.elim
    · exact k.elim
  · exact k.elim
end

/-! make. -/

@[reducible] def makeK (cx : Cx) (s : St) (G : Gd) (d : Option Nat) (t : TypeId) (ln cp : Operand) (K : St → Prop) : Prop := isOneOf cx t fun el ie sh =>
  match getE cx s G ln with
  | some (.one (.c (.v (.int _ n)))) => match getE cx s G cp with
    | some (.one (.c (.v (.int _ c)))) => side s.gl G (0 ≤ n ∧ n ≤ c ∧ InA c.toNat ie.bytes) ∧ K ({ s with T := snoc s.T (G, .row el sh (List.replicate n.toNat (zdat sh))) }.put d G (.one (.c (.row (lenL s.T)))))
    | _ => False
  | _ => False

theorem RdL_rep {α : Type} {R : List Value → α → Prop} {cs : List Value} {d : α} (r : R cs d) : ∀ n : Nat, RdL R (repL n cs) (List.replicate n d)
  | 0 => rfl
  | n + 1 => ⟨cs, repL n cs, by simp only [repL, catL_eq], r, RdL_rep r n⟩

theorem repL_take {l : List Value} : ∀ {n m : Nat}, n ≤ m → (repL m l).take (n * l.length) = repL n l
  | 0, m, _ => by simp [repL]
  | n + 1, 0, h => by omega
  | n + 1, m + 1, h => by
    simp only [repL, catL_eq]
    rw [Nat.succ_mul, Nat.add_comm, List.take_length_add_append, repL_take (by omega)]

section
variable {cx : Cx} {P : Program} {N : Nat} {B : Base} {h0 : FH} {s : St} {h : FH} {β : List RV} {w : World} {a : Act} {G : Gd} {o : Oper} {K : St → Prop}

theorem make_step (hc : TisOK P cx.ti) (sat : Sat N B h0 s h β w a) (hg : GlobOK cx.gd h) (hG : gbd s.gl.length G = true) (hd : dOK N o.dst = true) {t : TypeId} {x y : Operand} (ho : o.op = .makeSlice t x y)
    (k : makeK cx s G o.dst t x y K) : OpOK P N B h0 h w a o (gv s.gl G) K := by
  unfold makeK isOneOf at k
  split at k
  · rename_i el hde
    have hu := descOf_und hc hde (by simp)
    split at k
    · exact k.elim
    rename_i ie hie
    have tie := hc.get hie
    split at k
    · exact k.elim
    rename_i sh hsh
    split at k
    · rename_i hz
      rw [andB_eq, andB_eq, Bool.and_eq_true, Bool.and_eq_true] at hz
      have hz1 : sh.size = ie.size := Nat.eq_of_beq_eq_true hz.1
      have hz2 : 1 ≤ ie.bytes := Nat.le_of_ble_eq_true hz.2.1
      have hz3 : 1 ≤ ie.size := Nat.le_of_ble_eq_true hz.2.2
      split at k
      · rename_i ik n hn
        split at k
        · rename_i ik' c hcp
          refine new_step sat hG hd k.2 fun hgv => ?_
          obtain ⟨s1, s2, s3⟩ := side_ok k.1 hgv
          have e1 : a.eval x = .int ik n := (getE_ok sat hg hgv hn).1.1
          have e2 : a.eval y = .int ik' c := (getE_ok sat hg hgv hcp).1.1
          obtain ⟨inf, z, i1, i2, i3, i4, i5⟩ := tie.info
          unfold InA at s3
          have hcb : c.toNat ≤ 140737488355328 := Nat.le_trans (Nat.le_mul_of_pos_right _ hz2) s3
          have hb : (inf.bytes : Int) * c ≤ 281474976710656 := by
            rw [i3]
            have : ((c.toNat * ie.bytes : Nat) : Int) ≤ 140737488355328 := by omega
            rw [Int.natCast_mul, Int.toNat_of_nonneg (by omega), Int.mul_comm] at this
            omega
          have r := run_make (P := P) w t el inf z hu i1 i4 ik ik' n c s1 s2 hb (by omega)
          have hmade : madeCells z.cells (c.toNat * inf.size) = (repL c.toNat ie.zero).toArray := by
            unfold madeCells
            rw [i5, i2, ← tie.zlen]
            exact zeros_eq (by rw [tie.zlen]; omega)
          rw [hmade] at r
          refine ⟨.slice (some ⟨w.heap.size, 0, none⟩) n.toNat c.toNat, w.alloc (.cells (repL c.toNat ie.zero).toArray el), .row (.slice (some ⟨w.heap.size, 0, none⟩) n.toNat c.toNat), ?_, gb_alloc _ _ _, ?_, ?_, ?_⟩
          · simp only [execOp, ho, e1, e2, Sem.run_bind, r, Result.andThen_ok, Sem.run_pure]
          · intro b hb'; simp [RV.block, rowBlk] at hb'; obtain ⟨_, rfl⟩ := hb'; simp
          · by_cases hc0 : c.toNat = 0
            · have hn0 : n.toNat = 0 := by omega
              exact .inr (.inl ⟨⟨w.heap.size, 0, none⟩, by rw [hc0, hn0], by rw [hn0]; rfl⟩)
            refine .inr (.inr ⟨w.heap.size, c.toNat, _, by rw [List.length_replicate], heap_new _ _, by rw [List.length_replicate]; omega, ⟨by omega, by simp only [maxLen]; omega⟩, ?_, ?_⟩)
            · simp only [List.size_toArray, repL_len, tie.zlen, hz1]
            · rw [List.length_replicate]
              show RdL (Rd h sh) ((repL c.toNat ie.zero).take (n.toNat * sh.size)) _
              rw [hz1, ← tie.zlen, repL_take (by omega)]
              exact RdL_rep (Rd_empty (tie.zshp sh hsh).1) _
          · exact ⟨last_ref (sat_len sat) _, rfl, rfl⟩
        · exact k.elim
      · exact k.elim
    · exact k.elim
  · exact k.elim
end
end Go.Eng
