/- The engine, part F: loads, addresses, parts. -/
import Derived.Test.YtklnffdjhoacoaaDoorEngE
set_option linter.unusedSimpArgs false
set_option linter.unusedVariables false
namespace Go.Eng
open Go Go.RowKit

theorem add_lit (b o j : Nat) : (⟨b, o, none⟩ : Addr).add j = ⟨b, o + j, none⟩ := by
  unfold Addr.add; split
  · rename_i h; simp [h]
  · rfl

theorem run_isAgg {P : Program} {t : TypeId} {i : TI} (k : TIOK P t i) (w : World) : (isAgg t).run P w = .ok (aggD i.desc) w := by
  unfold isAgg
  obtain ⟨d, h1, h2⟩ := k.und
  rw [Sem.run_bind, run_underlying h1 w, ← h2, nf_agg]
  cases d <;> rfl

theorem run_sizeOf {P : Program} {t : TypeId} {i : TI} (k : TIOK P t i) (w : World) : (sizeOf t).run P w = .ok i.size w := by
  obtain ⟨inf, z, h1, h2, _⟩ := k.info
  simp [sizeOf, typeInfo, h1, h2]

/-- What a variable of the type reads as. -/
theorem run_loadVar_cells {P : Program} {t : TypeId} {i : TI} (k : TIOK P t i) {w : World} {b o : Nat} {cs : List Value} (hl : cs.length = i.size)
    (h1 : aggD i.desc = false → i.size = 1) (hc : ∀ j u, cs[j]? = some u → w.cell? ⟨b, o + j, none⟩ = some u) :
    (loadVar t ⟨b, o, none⟩).run P w = .ok (if aggD i.desc = true then .agg cs.toArray else cs.headD undef) w := by
  unfold loadVar
  rw [Sem.run_bind, run_isAgg k]
  simp only [Result.andThen_ok]
  cases hd : aggD i.desc with
  | true =>
    have := run_loadCells_list (P := P) w ⟨b, o, none⟩ cs (fun j v hj => by rw [add_lit]; exact hc j v hj)
    rw [hl] at this
    simp [run_sizeOf k, this]
  | false =>
    have h := h1 hd
    match cs, hl with
    | [c], _ =>
      have := hc 0 c rfl
      simp at this
      simp [run_load, this]
    | [], hl => simp at hl; omega
    | _ :: _ :: _, hl => simp at hl; omega

@[reducible] def SC.ok : SC → Bool
  | .junk => false
  | _ => true

@[reducible] def loadR (s : St) (G : Gd) (i : TI) (gl : List Bool) (r off : Nat) (K : Ent → Prop) : Prop := match nthL s.T r with
  | some (Gr, .blk _ cs) => match gsub Gr G with
    | true => match aggD i.desc with
      | true => match Nat.ble (off + i.size) (lenL cs) with
        | true => K (.one (.agg (takeL i.size (dropL off cs))))
        | false => False
      | false => match Nat.beq i.size 1 with
        | true => match nthL cs off with
          | some x => K (.one (.c x))
          | none => False
        | false => False
    | false => False
  | some (Gr, .obj _ sh d) => match gsub Gr G with
    | true => match subD sh d off i.size (aggD i.desc) with
      | some q => K (.one (ofDat q.1 q.2))
      | none => False
    | false => False
  | _ => False

@[reducible] def loadRow (s : St) (G : Gd) (i : TI) (gl : List Bool) (r j sz off : Nat) (K : Ent → Prop) : Prop := match nthL s.T r with
  | some (Gr, .row _ sh l) => match andB (gsub Gr G) (Nat.beq sz sh.size) with
    | true => side gl G (j < l.length) ∧ ∀ d : sh.den, side gl G (l[j]? = some d) → match subD sh d off i.size (aggD i.desc) with
      | some q => K (.one (ofDat q.1 q.2))
      | none => False
    | false => False
  | some (Gr, .obj _ sh d0) => match arrAt sh d0 off with
    | some p => match andB (gsub Gr G) (Nat.beq sz p.1.size) with
      | true => side gl G (j < p.2.2.1) ∧ ∀ d : p.1.den, side gl G (p.2.1[j]? = some d) → match subD p.1 d p.2.2.2 i.size (aggD i.desc) with
        | some q => K (.one (ofDat q.1 q.2))
        | none => False
      | false => False
    | none => False
  | _ => False

@[reducible] def loadK (cx : Cx) (s : St) (G : Gd) (t : TypeId) (p : SC) (K : Ent → Prop) : Prop := match lkT cx.ti t with
  | none => False
  | some i => match p with
    | .fp sh d => match subD sh d 0 i.size (aggD i.desc) with
      | some q => K (.one (ofDat q.1 q.2))
      | none => False
    | .own r off => loadR s G i s.gl r off K
    | .rowp r j sz off => loadRow s G i s.gl r j sz off K
    | _ => False

theorem size_one {s : Sh} (h : s.isAgg = false) : s.size = 1 := by cases s <;> first | rfl | simp [Sh.isAgg] at h

theorem All2.take {α β : Type} {R : α → β → Prop} : ∀ {l : List α} {m : List β} (n : Nat), All2 R l m → All2 R (l.take n) (m.take n)
  | [], [], n, _ => by cases n <;> trivial
  | _ :: _, _ :: _, 0, _ => trivial
  | _ :: _, _ :: _, n + 1, ⟨a, b⟩ => ⟨a, All2.take n b⟩
theorem All2.drop {α β : Type} {R : α → β → Prop} : ∀ {l : List α} {m : List β} (n : Nat), All2 R l m → All2 R (l.drop n) (m.drop n)
  | [], [], n, _ => by cases n <;> trivial
  | _ :: _, _ :: _, 0, h => h
  | _ :: _, _ :: _, n + 1, ⟨a, b⟩ => All2.drop n b

theorem take_drop_get {α : Type} {cs : List α} {off k j : Nat} {u : α} (h : ((cs.drop off).take k)[j]? = some u) : cs[off + j]? = some u := by
  rw [List.getElem?_take] at h
  split at h
  · rwa [List.getElem?_drop] at h
  · cases h

theorem effres {s : St} {r : Nat} {Gr : Gd} {x : Res} (h : nthL s.T r = some (Gr, x)) (hG : gv s.gl Gr = true) : (eff s.gl s.T)[r]? = some x := by
  rw [eff_get, ← nthL_eq, h]
  simp [cnd_eq, hG]

/-- A world that has only grown. -/
def Gro (w w' : World) : Prop := w.heap.size ≤ w'.heap.size ∧ ∀ k, k < w.heap.size → w'.heap[k]? = w.heap[k]?
theorem Gro.refl (w : World) : Gro w w := ⟨Nat.le_refl _, fun _ _ => rfl⟩
theorem Gro.trans {a b c : World} (x : Gro a b) (y : Gro b c) : Gro a c := ⟨Nat.le_trans x.1 y.1, fun k h => (y.2 k (Nat.lt_of_lt_of_le h x.1)).trans (x.2 k h)⟩
theorem Gro.cell {w w' : World} (g : Gro w w') {a : Addr} {u : Value} (h : w.cell? a = some u) : w'.cell? a = some u := by
  have hb := World.block_lt_of_cell? _ _ h
  rw [World.cell?_of_block (g.2 _ hb)]; exact h

theorem loadK_ok {cx : Cx} {P : Program} (hc : TisOK P cx.ti) {N : Nat} {B : Base} {h0 : FH} {s : St} {h : FH} {β : List RV} {w : World} {a : Act} (sat : Sat N B h0 s h β w a)
    {G : Gd} {t : TypeId} {p : SC} {K : Ent → Prop} (k : loadK cx s G t p K) :
    ∃ e, K e ∧ (gv s.gl G = true → ∀ pv, CnC h β p pv → ∃ y, (∀ w', Gro w w' → (Instr.loadAt t pv).run P w' = .ok y w') ∧ CnE h β e y) := by
  unfold loadK at k
  split at k
  · exact k.elim
  rename_i i hi
  have ti := hc.get hi
  -- reading typed data out of cells
  have typed : ∀ {b o : Nat} {sh : Sh} {d : sh.den} {cs : List Value} {off : Nat} {q : Sigma Sh.den}, Rd h sh cs d → (∀ j u, cs[j]? = some u → w.cell? ⟨b, o + j, none⟩ = some u) →
      subD sh d off i.size (aggD i.desc) = some q → ∃ y, (∀ w', Gro w w' → (Instr.loadAt t (.pointer (some ⟨b, o + off, none⟩))).run P w' = .ok y w') ∧ CnE h β (.one (ofDat q.1 q.2)) y := by
    intro b o sh d cs off q r at_ e
    obtain ⟨q1, q2, q3, q4⟩ := subD_ok sh e r
    have hs := Rd.size q.1 q1
    refine ⟨mkV q.1 ((cs.drop off).take i.size), fun w' gro => ?_, ofDat_ok q.1 q1⟩
    have := run_loadVar_cells (P := P) ti (w := w') (b := b) (o := o + off) (cs := (cs.drop off).take i.size) (by rw [hs, q2])
      (fun ha => by rw [← q2]; exact size_one (q3.trans ha)) (fun j u hj => by rw [Nat.add_assoc]; exact gro.cell (at_ _ _ (take_drop_get hj)))
    simp only [Instr.loadAt, Instr.sureAddr, Sem.run_bind, Sem.run_pure, Result.andThen_ok, this]
    unfold mkV
    rw [q3]
  split at k
  · rename_i sh d
    split at k
    · rename_i q hq
      refine ⟨_, k, fun hG pv hp => ?_⟩
      obtain ⟨b, o, cs, rfl, r, at_⟩ := hp
      have := typed (b := b) (o := o) (off := 0) r (fun j u hj => sat.ok.hw _ _ _ (at_ j u hj)) hq
      simpa using this
    · exact k.elim
  · rename_i r off
    unfold loadR at k
    split at k
    · rename_i Gr tt cs hT
      split at k
      · rename_i hs
        split at k
        · rename_i ha
          split at k
          · rename_i hle
            refine ⟨_, k, fun hG pv hp => ?_⟩
            obtain ⟨b, hb, rfl⟩ := hp
            obtain ⟨ys, he, hall⟩ := sat.ok.holds r _ _ (effres hT (gsub_gv hs hG)) hb
            have hlen := hall.length
            have hle : off + i.size ≤ cs.length := by have := Nat.le_of_ble_eq_true hle; rwa [lenL_eq] at this
            refine ⟨.agg ((ys.drop off).take i.size).toArray, fun w' gro => ?_, _, rfl, ?_⟩
            · have := run_loadVar_cells (P := P) ti (w := w') (b := b) (o := off) (cs := (ys.drop off).take i.size) (by rw [List.length_take, List.length_drop]; omega) (fun h' => by rw [ha] at h'; cases h')
                (fun j u hj => gro.cell (by rw [cell_of_row w b (off + j) ys.toArray tt (0, 0) he]; simpa using take_drop_get hj))
              simp only [Instr.loadAt, Instr.sureAddr, Sem.run_bind, Sem.run_pure, Result.andThen_ok, this, ha, if_true]
            · rw [takeL_eq, dropL_eq]; exact (hall.drop off).take i.size
          · exact k.elim
        · rename_i ha
          split at k
          · rename_i h1
            split at k
            · rename_i x hx
              refine ⟨_, k, fun hG pv hp => ?_⟩
              obtain ⟨b, hb, rfl⟩ := hp
              obtain ⟨ys, he, hall⟩ := sat.ok.holds r _ _ (effres hT (gsub_gv hs hG)) hb
              obtain ⟨y, hy, hxy⟩ := hall.get (show cs[off]? = some x by rw [← nthL_eq]; exact hx)
              refine ⟨y, fun w' gro => ?_, hxy⟩
              have h1 : i.size = 1 := Nat.eq_of_beq_eq_true h1
              have := run_loadVar_cells (P := P) ti (w := w') (b := b) (o := off) (cs := [y]) (by rw [h1]; rfl) (fun _ => h1)
                (fun j u hj => by
                  refine gro.cell ?_
                  rw [cell_of_row w b (off + j) ys.toArray tt (0, 0) he]
                  match j, hj with
                  | 0, hj => simp at hj; subst hj; simpa using hy)
              simp only [Instr.loadAt, Instr.sureAddr, Sem.run_bind, Sem.run_pure, Result.andThen_ok, this, ha]
              rfl
            · exact k.elim
          · exact k.elim
      · exact k.elim
    · rename_i Gr tt sh d hT
      split at k
      · rename_i hs
        split at k
        · rename_i q hq
          refine ⟨_, k, fun hG pv hp => ?_⟩
          obtain ⟨b, hb, rfl⟩ := hp
          obtain ⟨ys, he, r'⟩ := sat.ok.holds r _ _ (effres hT (gsub_gv hs hG)) hb
          have := typed (b := b) (o := 0) r' (fun j u hj => by rw [cell_of_row w b (0 + j) ys.toArray tt (0, 0) he]; simpa using hj) hq
          simpa using this
        · exact k.elim
      · exact k.elim
    · exact k.elim
  · rename_i r j sz off
    unfold loadRow at k
    split at k
    · rename_i Gr tt sh l hT
      split at k
      · rename_i hs
        rw [andB_eq, Bool.and_eq_true] at hs
        obtain ⟨hs, hz⟩ := hs
        have hz : sz = sh.size := Nat.eq_of_beq_eq_true hz
        obtain ⟨k1, k2⟩ := k
        have hd : ∃ d : sh.den, (gv s.gl G = true → l[j]? = some d) := by
          by_cases hG : gv s.gl G = true
          · have := side_ok k1 hG
            exact ⟨l[j], fun _ => List.getElem?_eq_getElem this⟩
          · exact ⟨dflt sh, fun hh => (hG hh).elim⟩
        obtain ⟨d, hd⟩ := hd
        have k3 := k2 d (by cases G with | nil => exact hd rfl | cons x g => exact hd)
        split at k3
        · rename_i q hq
          refine ⟨_, k3, fun hG pv hp => ?_⟩
          obtain ⟨v, g, hb, hg, rfl⟩ := hp
          have hold := sat.ok.holds r _ _ (effres hT (gsub_gv hs hG)) hb
          match v, hold with
          | .row v, hold =>
            rcases hold with ⟨hv, _⟩ | ⟨_, hv, _⟩ | ⟨g', cap, cur, hv, he, h2, h3, h4, r'⟩
            · subst hv; simp [RV.block, rowBlk] at hg
            · subst hv; simp [RV.block, rowBlk] at hg
            · subst hv
              rw [show RV.block (.row (.slice (some ⟨g', 0, none⟩) l.length cap)) = some g' from block_own h3.1] at hg
              have hg : g' = g := Option.some.inj hg
              subst hg
              obtain ⟨g1, g2⟩ := r'.get (fun _ _ => Rd.size sh) (hd hG)
              have := typed (b := g') (o := j * sz) (cs := (((cur.toList.take (l.length * sh.size)).drop (j * sh.size)).take sh.size)) g1 (fun i u hi => by
                have h5 := take_drop_get hi
                rw [List.getElem?_take] at h5
                split at h5
                · rw [cell_of_row w g' _ cur tt (0, 0) he, hz]; simpa using h5
                · cases h5) hq
              exact this
        · exact k3.elim
      · exact k.elim
    · rename_i Gr tt sh d0 hT
      split at k
      · rename_i p hp0
        split at k
        · rename_i hs
          rw [andB_eq, Bool.and_eq_true] at hs
          obtain ⟨hs, hz⟩ := hs
          have hz : sz = p.1.size := Nat.eq_of_beq_eq_true hz
          obtain ⟨k1, k2⟩ := k
          have hd : ∃ d : p.1.den, (gv s.gl G = true → p.2.1[j]? = some d) := by
            by_cases hG : gv s.gl G = true
            · have := side_ok k1 hG
              have hl : p.2.1.length = p.2.2.1 := by
                have hT' := effres hT (gsub_gv hs hG)
                have hlt : r < β.length := by rw [sat.ok.len]; exact (List.getElem?_eq_some_iff.1 hT').1
                have hold := sat.ok.holds r _ _ hT' (List.getElem?_eq_getElem hlt)
                match β[r], hold with
                | .blk b, ⟨ys, _, r'⟩ =>
                  obtain ⟨base, _, e2, _⟩ := arrAt_ok sh hp0 r'
                  exact e2
              exact ⟨p.2.1[j], fun _ => List.getElem?_eq_getElem (by omega)⟩
            · exact ⟨dflt p.1, fun hh => (hG hh).elim⟩
          obtain ⟨d, hd⟩ := hd
          have k3 := k2 d (by cases G with | nil => exact hd rfl | cons x g => exact hd)
          split at k3
          · rename_i q hq
            refine ⟨_, k3, fun hG pv hp => ?_⟩
            obtain ⟨v, g, hb, hg, rfl⟩ := hp
            have hold := sat.ok.holds r _ _ (effres hT (gsub_gv hs hG)) hb
            match v, hold with
            | .blk b, ⟨ys, he, r'⟩ =>
              simp [RV.block] at hg
              subst hg
              obtain ⟨base, e1, e2, e3, e4⟩ := arrAt_ok sh hp0 r'
              obtain ⟨g1, g2⟩ := e4.get (fun _ _ => Rd.size p.1) (hd hG)
              have := typed (b := b) (o := base + j * sz) (cs := ((((ys.drop base).take (p.2.2.1 * p.1.size)).drop (j * p.1.size)).take p.1.size)) g1 (fun i u hi => by
                have h5 := take_drop_get hi
                rw [List.getElem?_take] at h5
                split at h5
                · rw [List.getElem?_drop] at h5
                  rw [cell_of_row w b _ ys.toArray tt (0, 0) he, hz, Nat.add_assoc]; simpa using h5
                · cases h5) hq
              rw [show j * sz + off = base + j * sz + p.2.2.2 by omega]
              exact this
          · exact k3.elim
        · exact k.elim
      · exact k.elim
    · exact k.elim
  · exact k.elim
end Go.Eng
