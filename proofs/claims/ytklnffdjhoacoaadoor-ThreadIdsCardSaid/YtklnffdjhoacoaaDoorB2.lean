/- Texts of this claim, part 2: EngK, EngL, EngM, EngN, EngW, EngS, EngR, EngT. Conditions: those of the given rows. -/
import Derived.Test.YtklnffdjhoacoaaDoorB1
import Derived.Still
set_option linter.unusedSimpArgs false
set_option linter.unusedVariables false
namespace Go.Eng
open Go Go.RowKit
theorem Gro.of_grown {w w' : World} (h : Gb w w' none) : Gro w w' := ⟨h.size, fun k hk => h.block k hk (by simp)⟩
theorem Gro.of_below {w w' : World} (h : Below w.heap.size w w') : Gro w w' := ⟨h.size, h.block⟩
def quietly : Op → Bool
  | .store .. => false
  | .call c => match c.callee with
    | .builtin .len => true
    | .builtin _ => false
    | .value (.tmp _) => false
    | _ => true
  | _ => true
def OpOK (P : Program) (N : Nat) (B : Base) (h0 : FH) (h : FH) (w : World) (a : Act) (o : Oper) (wanted : Bool) (K : St → Prop) : Prop :=
  ∀ (Nx : Act → World → Prop) (Q : Exit → Act → World → Prop),
    (∀ s' h' β' w' v, K s' → h.le h' → (quietly o.op = true → Gro w w') → Sat N B h0 s' h' β' w' (a.put o.dst v) → Nx (a.put o.dst v) w') →
    if wanted = true then o.wp P a w Nx Q else Nx (a.put o.dst undef) w
theorem wp_value {P : Program} {o : Oper} {a : Act} {w w' : World} {Nx : Act → World → Prop} {Q : Exit → Act → World → Prop} {v : Value} (h : (execOp a.eval o).run P w = .ok (.value v) w') (k : Nx (a.put o.dst v) w') : o.wp P a w Nx Q := by
  unfold Oper.wp; rw [h]; exact k
theorem wp_skip' {P : Program} {o : Oper} {a : Act} {w w' : World} {Nx : Act → World → Prop} {Q : Exit → Act → World → Prop} (h : (execOp a.eval o).run P w = .ok .skip w') (k : Nx (a.put o.dst undef) w') : o.wp P a w Nx Q := by
  unfold Oper.wp; rw [h]; exact k
@[reducible] def dOK (n : Nat) : Option Nat → Bool
  | none => true
  | some d => Nat.ble (d + 1) n
theorem dOK_lt {n : Nat} {d : Option Nat} (h : dOK n d = true) : ∀ k, d = some k → k < n := by
  intro k hk; subst hk
  have := Nat.le_of_ble_eq_true h; omega
section
variable {cx : Cx} {P : Program} {N : Nat} {B : Base} {h0 : FH} {s : St} {h : FH} {β : List RV} {w : World} {a : Act} {G : Gd} {o : Oper} {K : St → Prop}
theorem pure_step (hc : TisOK P cx.ti) (sat : Sat N B h0 s h β w a) (hg : GlobOK cx.gd h) (hG : gbd s.gl.length G = true) (hd : dOK N o.dst = true) (k : pureK cx s G o fun e => K (s.put o.dst G e)) :
    OpOK P N B h0 h w a o (gv s.gl G) K := by
  intro Nx Q next
  obtain ⟨e, k1, k2⟩ := pureK_ok hc sat hg k
  cases hgv : gv s.gl G with
  | true =>
    obtain ⟨v, r, c⟩ := k2 hgv
    rw [if_pos rfl]
    exact wp_value r (next _ _ _ _ _ k1 (FH.le.refl h) (fun _ => Gro.refl w) (sat.put (dOK_lt hd) hG (fun _ => c) fun hh => by rw [hgv] at hh; cases hh))
  | false =>
    rw [if_neg (by simp)]
    exact next _ _ _ _ _ k1 (FH.le.refl h) (fun _ => Gro.refl w) (sat.put (dOK_lt hd) hG (fun hh => by rw [hgv] at hh; cases hh) fun _ => rfl)
theorem grown_refl (w : World) (r : Option Nat) : Gb w w r := ⟨⟨rfl, rfl, rfl, Nat.le_refl _, fun _ _ _ => rfl⟩, Nat.le_refl _⟩
theorem new_step (sat : Sat N B h0 s h β w a) (hG : gbd s.gl.length G = true) (hd : dOK N o.dst = true) {r : Res} {e : Ent} (k : K ({ s with T := snoc s.T (G, r) }.put o.dst G e))
    (run : gv s.gl G = true → ∃ v w' rv, (execOp a.eval o).run P w = .ok (.value v) w' ∧ Gb w w' none ∧ (∀ b, rv.has b → w.heap.size ≤ b ∧ b < w'.heap.size) ∧
      Holds h (β ++ [rv]) w' r rv ∧ CnE h (β ++ [rv]) e v) :
    OpOK P N B h0 h w a o (gv s.gl G) K := by
  intro Nx Q next
  have gT : ∀ p ∈ snoc s.T (G, r), gbd s.gl.length p.1 = true := by
    intro p hp
    rw [snoc_eq, List.mem_append] at hp
    rcases hp with hp | hp
    · exact sat.gT p hp
    · simp at hp; subst hp; exact hG
  cases hgv : gv s.gl G with
  | true =>
    obtain ⟨v, w', rv, h1, h2, h3, h4, h5⟩ := run hgv
    rw [if_pos rfl]
    refine wp_value h1 (next _ h (β ++ [rv]) _ _ k (FH.le.refl h) (fun _ => Gro.of_grown h2) ?_)
    have ok : OK B h0 (eff s.gl (snoc s.T (G, r))) h (β ++ [rv]) w' := by
      rw [eff_snoc, hgv]
      exact sat.ok.add h2 h3 h4
    exact (sat.mem ok (FH.le.refl h) (Ext.append _ _) gT).put (dOK_lt hd) hG (fun _ => h5) fun hh => by simp only at hh; rw [hgv] at hh; cases hh
  | false =>
    rw [if_neg (by simp)]
    refine next _ h (β ++ [.no]) _ _ k (FH.le.refl h) (fun _ => Gro.refl w) ?_
    have ok : OK B h0 (eff s.gl (snoc s.T (G, r))) h (β ++ [.no]) w := by
      rw [eff_snoc, hgv]
      exact sat.ok.add (grown_refl w none) (fun b hb => (has_no hb).elim) trivial
    exact (sat.mem ok (FH.le.refl h) (Ext.append _ _) gT).put (dOK_lt hd) hG (fun hh => by simp only at hh; rw [hgv] at hh; cases hh) fun _ => rfl
theorem upd_step (sat : Sat N B h0 s h β w a) {s' : St} (k : K s') {h' : FH} {β' : List RV} {w' : World} {v : Value} (hgv : gv s.gl G = true) (hq : quietly o.op = false)
    (run : (execOp a.eval o).run P w = .ok (.value v) w' ∨ ((execOp a.eval o).run P w = .ok .skip w' ∧ v = undef)) (le : h.le h') (sat' : Sat N B h0 s' h' β' w' (a.put o.dst v)) :
    OpOK P N B h0 h w a o (gv s.gl G) K := by
  intro Nx Q next
  rw [if_pos hgv]
  rcases run with run | ⟨run, rfl⟩
  · exact wp_value run (next _ _ _ _ _ k le (fun hh => by rw [hq] at hh; cases hh) sat')
  · exact wp_skip' run (next _ _ _ _ _ k le (fun hh => by rw [hq] at hh; cases hh) sat')
end
/-! alloc, box. -/
@[reducible] def hasArr : Sh → Bool
  | .arr _ _ => true
  | .pair a b => match hasArr a with
    | true => true
    | false => hasArr b
  | _ => false
@[reducible] def zeroRes (t : TypeId) (i : TI) : Res := match i.shp with
  | some s => match hasArr s with
    | true => .obj t s (zdat s)
    | false => .blk t (mapL SC.v i.zero)
  | none => .blk t (mapL SC.v i.zero)
@[reducible] def allocK (cx : Cx) (s : St) (G : Gd) (d : Option Nat) (t : TypeId) (K : St → Prop) : Prop := match lkT cx.ti t with
  | none => False
  | some i => K ({ s with T := snoc s.T (G, zeroRes t i) }.put d G (.one (.c (.own (lenL s.T) 0))))
@[reducible] def boxRes (t : TypeId) (v : SV) : Option Res := match v with
  | .dat sh d => some (.obj t sh d)
  | v => match svCells v with
    | some xs => some (.blk t xs)
    | none => none
@[reducible] def boxK (cx : Cx) (s : St) (G : Gd) (d : Option Nat) (t : TypeId) (x : Operand) (K : St → Prop) : Prop := match getE cx s G x with
  | some (.one v) => match boxRes t v with
    | some r => K ({ s with T := snoc s.T (G, r) }.put d G (.one (.c (.own (lenL s.T) 0))))
    | none => False
  | _ => False
theorem heap_new (w : World) (o : Obj) : (w.alloc o).heap[w.heap.size]? = some o := heap_alloc_new w o
theorem boxRes_ok {h : FH} {β : List RV} {t : TypeId} {v : SV} {r : Res} {y : Value} {w : World} {b : Nat} (e : boxRes t v = some r) (c : CnV h β v y) {β' : List RV} (eb : Ext β β')
    (hw : w.heap[b]? = some (.cells y.cells t (0, 0))) : Holds h β' w r (.blk b) := by
  unfold boxRes at e
  split at e
  · cases e
    obtain ⟨_, cs, rfl, rd⟩ := c
    exact ⟨cs, hw, rd⟩
  · split at e
    · rename_i xs hx
      cases e
      refine ⟨y.cells.toList, by simpa using hw, (svCells_ok hx c).mono fun _ _ ⟨p, q⟩ => ⟨p.mono (FH.le.refl h) eb, q⟩⟩
    · cases e
section
variable {cx : Cx} {P : Program} {N : Nat} {B : Base} {h0 : FH} {s : St} {h : FH} {β : List RV} {w : World} {a : Act} {G : Gd} {o : Oper} {K : St → Prop}
theorem last_ref {β : List RV} {n : Nat} (hn : β.length = n) (v : RV) : (β ++ [v])[n]? = some v := by
  subst hn; simp
theorem sat_len (sat : Sat N B h0 s h β w a) : β.length = lenL s.T := by
  rw [sat.ok.len, eff_len, lenL_eq]
theorem Rd_empty {h : FH} {s : Sh} {cs : List Value} {d : s.den} (r : Rd (fun _ _ => none) s cs d) : Rd h s cs d := r.mono (fun _ _ _ e => by cases e) s
theorem alloc_step (hc : TisOK P cx.ti) (sat : Sat N B h0 s h β w a) (hG : gbd s.gl.length G = true) (hd : dOK N o.dst = true) {t : TypeId} (ho : o.op = .alloc t) (k : allocK cx s G o.dst t K) :
    OpOK P N B h0 h w a o (gv s.gl G) K := by
  unfold allocK at k
  split at k
  · exact k.elim
  rename_i i hi
  have ti := hc.get hi
  refine new_step sat hG hd k fun hgv => ?_
  obtain ⟨z, hz1, hz2⟩ := run_zero ti w
  refine ⟨.pointer (some ⟨w.heap.size, 0, none⟩), w.alloc (.cells z.cells t), .blk w.heap.size, ?_, gb_alloc _ _ _, ?_, ?_, ?_⟩
  · simp only [execOp, ho, Instr.alloc, newVar, newRow, Sem.run_bind, hz1, Result.andThen_ok, run_newObj, Sem.run_pure]
    rfl
  · intro b hb; rw [has_blk] at hb; subst hb; simp
  · have hn := heap_new w (.cells z.cells t)
    unfold zeroRes
    split
    · rename_i sh hs
      split
      · exact ⟨i.zero, by rw [hn, hz2], Rd_empty (ti.zshp _ hs).1⟩
      · exact ⟨i.zero, by rw [hn, hz2], cells_const ti.zone⟩
    · exact ⟨i.zero, by rw [hn, hz2], cells_const ti.zone⟩
  · exact ⟨⟨_, last_ref (sat_len sat) _, rfl⟩, oneC_ptr _⟩
theorem box_step (hc : TisOK P cx.ti) (sat : Sat N B h0 s h β w a) (hg : GlobOK cx.gd h) (hG : gbd s.gl.length G = true) (hd : dOK N o.dst = true) {t : TypeId} {x : Operand} (ho : o.op = .box t x) (k : boxK cx s G o.dst t x K) :
    OpOK P N B h0 h w a o (gv s.gl G) K := by
  unfold boxK at k
  split at k
  · rename_i v hv
    split at k
    · rename_i r hr
      refine new_step sat hG hd k fun hgv => ?_
      have hx := getE_ok sat hg hgv hv
      refine ⟨.pointer (some ⟨w.heap.size, 0, none⟩), w.alloc (.cells (a.eval x).cells t), .blk w.heap.size, ?_, gb_alloc _ _ _, ?_, ?_, ?_⟩
      · simp only [execOp, ho, Instr.box, newVar, newRow, Sem.run_bind, Result.andThen_ok, run_newObj, Sem.run_pure]
        rfl
      · intro b hb; rw [has_blk] at hb; subst hb; simp
      · exact boxRes_ok hr hx (Ext.append _ _) (heap_new _ _)
      · exact ⟨⟨_, last_ref (sat_len sat) _, rfl⟩, oneC_ptr _⟩
    · exact k.elim
  · exact k.elim
end
/-! Slice literals. -/
@[reducible] def repL {α : Type} : Nat → List α → List α
  | 0, _ => []
  | n + 1, l => catL l (repL n l)
@[reducible] def buildSliceK (cx : Cx) (s : St) (G : Gd) (d : Option Nat) (t : TypeId) (n : Nat) (parts : List (Nat × Operand)) (K : St → Prop) : Prop := match descOf cx t with
  | .slice el => match lkT cx.ti el with
    | none => False
    | some ie => match ie.shp with
      | none => False
      | some sh => match partsE cx s G parts with
        | none => False
        | some ps => match andB (Nat.ble (n * ie.size) 16777216) (Nat.ble 1 ie.size) with
          | false => False
          | true => match fillS (fun j => some (j * ie.size, ie.size)) (repL n (mapL SC.v ie.zero)) ps with
            | none => False
            | some xs => match andB (Nat.beq sh.size ie.size) (Nat.beq (lenL xs) (n * ie.size)) with
              | false => False
              | true => match takeN sh n xs with
                | some (l, []) => K ({ s with T := snoc s.T (G, .row el sh l) }.put d G (.one (.c (.row (lenL s.T)))))
                | _ => False
  | _ => False
theorem repL_map {α β : Type} (f : α → β) : ∀ (n : Nat) (l : List α), repL n (mapL f l) = mapL f (repL n l)
  | 0, _ => rfl
  | n + 1, l => by
    simp only [repL]
    rw [repL_map f n l]
    simp [catL_eq, mapL_eq]
theorem repL_mem {α : Type} {x : α} {l : List α} : ∀ {n : Nat}, x ∈ repL n l → x ∈ l
  | 0, h => by simp [repL] at h
  | n + 1, h => by
    simp only [repL, catL_eq, List.mem_append] at h
    exact h.elim id repL_mem
theorem repL_len {α : Type} {l : List α} : ∀ {n : Nat}, (repL n l).length = n * l.length
  | 0 => by simp [repL]
  | n + 1 => by simp only [repL, catL_eq, List.length_append, repL_len, Nat.succ_mul]; omega
theorem repL_get {l : List Value} : ∀ {n j : Nat}, j < n * l.length → (repL n l)[j]? = l[j % l.length]?
  | 0, j, h => by omega
  | n + 1, j, h => by
    simp only [repL, catL_eq]
    rw [Nat.succ_mul] at h
    by_cases hj : j < l.length
    · rw [List.getElem?_append_left hj, Nat.mod_eq_of_lt hj]
    · rw [List.getElem?_append_right (by omega), repL_get (by omega)]
      congr 1
      exact (Nat.mod_eq_sub_mod (by omega)).symm
theorem zeros_eq {zero : List Value} {n : Nat} (hz : 0 < zero.length) : ((Array.range (n * zero.length)).map (fun i => zero.toArray[i % zero.toArray.size]!)) = (repL n zero).toArray := by
  apply Array.ext'
  apply List.ext_getElem?
  intro j
  simp only [Array.toList_map, Array.toList_range, List.size_toArray]
  by_cases hj : j < n * zero.length
  · rw [List.getElem?_map, List.getElem?_range hj, repL_get hj]
    have hm : j % zero.length < zero.length := Nat.mod_lt _ hz
    simp [hm]
  · rw [List.getElem?_eq_none (by simp; omega), List.getElem?_eq_none (by simp [repL_len]; omega)]
section
variable {cx : Cx} {P : Program} {N : Nat} {B : Base} {h0 : FH} {s : St} {h : FH} {β : List RV} {w : World} {a : Act} {G : Gd} {o : Oper} {K : St → Prop}
theorem buildSlice_step (hc : TisOK P cx.ti) (sat : Sat N B h0 s h β w a) (hg : GlobOK cx.gd h) (hG : gbd s.gl.length G = true) (hd : dOK N o.dst = true) {t : TypeId} {n : Nat} {parts : Array (Nat × Operand)} (ho : o.op = .buildSlice t n parts)
    (k : buildSliceK cx s G o.dst t n (tl parts) K) : OpOK P N B h0 h w a o (gv s.gl G) K := by
  unfold buildSliceK at k
  split at k
  · rename_i el hde
    have hu := descOf_und hc hde (by simp)
    split at k
    · exact k.elim
    rename_i ie hie
    have tie := hc.get hie
    split at k
    · exact k.elim
    rename_i sh hsh
    split at k
    · exact k.elim
    rename_i ps hps
    split at k
    · exact k.elim
    rename_i hsz
    rw [andB_eq, Bool.and_eq_true] at hsz
    have hsz1 : n * ie.size ≤ 16777216 := Nat.le_of_ble_eq_true hsz.1
    have hsz2 : 1 ≤ ie.size := Nat.le_of_ble_eq_true hsz.2
    split at k
    · exact k.elim
    rename_i xs hxs
    split at k
    · exact k.elim
    rename_i hlen
    rw [andB_eq, Bool.and_eq_true] at hlen
    have hl1 : sh.size = ie.size := Nat.eq_of_beq_eq_true hlen.1
    have hl2 : xs.length = n * ie.size := by have := Nat.eq_of_beq_eq_true hlen.2; rwa [lenL_eq] at this
    split at k
    · rename_i l hl
      refine new_step sat hG hd k fun hgv => ?_
      have htl : (parts.map fun (p : Nat × Operand) => (p.1, a.eval p.2)).toList = (tl parts).map fun p => (p.1, a.eval p.2) := by cases parts; simp
      rw [repL_map] at hxs
      obtain ⟨zs, g1, g2⟩ := fillS_ok (partsE_ok sat hg hgv hps) (cells_const fun v hv => tie.zone v (repL_mem hv)) hxs
      obtain ⟨c1, c2, rfl, q1, q2, q3⟩ := takeN_ok hl g2
      have hc2 : c2 = [] := by cases c2 with | nil => rfl | cons _ _ => exact q3.elim
      subst hc2
      rw [List.append_nil] at g1 g2
      have hz0 : 0 < ie.zero.length := by rw [tie.zlen]; omega
      obtain ⟨z, hz1, hz2⟩ := run_zero tie w
      have hc0 : n * ie.size = 0 → (repL n ie.zero).toArray = #[] := by
        intro h0
        have : n = 0 := by rcases Nat.mul_eq_zero.1 h0 with h0 | h0 <;> omega
        subst this
        simp [repL]
      have hc1 : ((Array.range (n * ie.size)).map (fun i => z.cells[i % z.cells.size]!)) = (repL n ie.zero).toArray := by
        rw [hz2, ← tie.zlen]; exact zeros_eq hz0
      refine ⟨.slice (some ⟨w.heap.size, 0, none⟩) n n, w.alloc (.cells c1.toArray el), .row (.slice (some ⟨w.heap.size, 0, none⟩) n n), ?_, gb_alloc _ _ _, ?_, ?_, ?_⟩
      · have hbig : ¬ (n * ie.size > 2 ^ 24) := by omega
        by_cases h0 : n * ie.size = 0
        · have e0 := hc0 h0
          rw [e0] at g1
          simp only [execOp, ho, Instr.buildSlice, Sem.run_bind, run_underlying hu, Result.andThen_ok, run_sizeOf tie, hbig, if_false, Sem.run_ite, Sem.run_pure, h0, if_true]
          rw [htl]
          rw [show (Array.map (fun x => (#[] : Array Value)[x % (#[] : Array Value).size]!) (Array.range 0)) = #[] from by simp]
          rw [g1]
          simp only [Sem.run_bind, newRow, run_newObj, Result.andThen_ok, Sem.run_pure]
          rfl
        · simp only [execOp, ho, Instr.buildSlice, Sem.run_bind, run_underlying hu, Result.andThen_ok, run_sizeOf tie, hbig, if_false, Sem.run_ite, Sem.run_pure, h0, hz1]
          rw [htl, hc1, g1]
          simp only [Sem.run_bind, newRow, run_newObj, Result.andThen_ok, Sem.run_pure]
          rfl
      · intro b hb; rw [has_row] at hb; simp [rowBlk] at hb; obtain ⟨_, rfl⟩ := hb; simp
      · by_cases hn0 : n = 0
        · exact .inr (.inl ⟨⟨w.heap.size, 0, none⟩, by rw [hn0], List.eq_nil_of_length_eq_zero (by rw [q1, hn0])⟩)
        refine .inr (.inr ⟨w.heap.size, n, c1.toArray, by rw [q1], heap_new _ _, by omega, ⟨by omega, ?_⟩, ?_, ?_⟩)
        · have : n ≤ n * ie.size := Nat.le_mul_of_pos_right n (by omega)
          simp only [maxLen]; omega
        · have e := g2.length
          rw [hl2] at e
          simp only [List.size_toArray]; rw [hl1]; omega
        · have e := g2.length
          rw [hl2] at e
          rw [q1, hl1, List.take_of_length_le (by simp; omega)]; exact q2
      · exact ⟨⟨_, last_ref (sat_len sat) _, rfl⟩, rfl, rfl⟩
    · exact k.elim
  · exact k.elim
end
end Go.Eng
set_option linter.unusedSimpArgs false
set_option linter.unusedVariables false
namespace Go.Eng
open Go Go.RowKit
theorem grown_setRow (w : World) (g : Nat) (cs : Array Value) : Gb w (w.setRow g cs) (some g) :=
  ⟨⟨rfl, rfl, rfl, by simp, fun k _ hk => setRow_other w g k cs fun e => hk (by rw [e])⟩, Nat.le_refl _⟩
theorem run_storeVar_at {P : Program} {t : TypeId} {i : TI} (k : TIOK P t i) {w : World} {g o : Nat} {tt : TypeId} {cur : Array Value} {v : Value} (hg : w.heap[g]? = some (.cells cur tt (0, 0)))
    (hs : v.cells.size = i.size) (hfit : o + i.size ≤ cur.size) (h1 : ∀ u ∈ v.cells.toList, oneC u) :
    (Instr.storeAt t (.pointer (some ⟨g, o, none⟩)) v).run P w = .ok () (w.setRow g (cur.toList.take o ++ v.cells.toList ++ cur.toList.drop (o + i.size)).toArray) := by
  have := run_storeCells_at P g o tt v.cells.toList 0 cur w hg (by simp; omega) (fun u hu => (h1 u hu).2)
  simp only [Nat.add_zero, Array.length_toList] at this
  simp only [Instr.storeAt, Instr.sureAddr, Sem.run_bind, Sem.run_pure, Result.andThen_ok, storeVar, run_sizeOf k, hs, ne_eq, not_true_eq_false, if_false, Sem.run_ite]
  rw [← hs]
  exact this
theorem All2.one {h : FH} {β : List RV} {xs : List SC} {ys : List Value} (a : All2 (fun x y => CnC h β x y ∧ oneC y) xs ys) : ∀ u ∈ ys, oneC u := by
  induction xs generalizing ys with
  | nil => cases ys with
    | nil => intro u hu; simp at hu
    | cons _ _ => exact a.elim
  | cons x xs ih => cases ys with
    | nil => exact a.elim
    | cons y ys =>
      intro u hu
      rcases List.mem_cons.1 hu with rfl | hu
      · exact a.1.2
      · exact ih a.2 u hu
@[reducible] def storeK (cx : Cx) (s : St) (d : Option Nat) (t : TypeId) (p x : Operand) (K : St → Prop) : Prop := match lkT cx.ti t with
  | none => False
  | some i => match getE cx s [] p with
    | some (.one (.c (.own r off))) => match getE cx s [] x with
      | some (.one v) => match nthL s.T r with
        | some ([], .blk tt cs) => match v with
          | .dat sh dd => match andB (Nat.beq off 0) (andB (Nat.beq (lenL cs) i.size) (Nat.beq sh.size i.size)) with
            | true => K ({ s with T := setL s.T r ([], .obj tt sh dd) }.put d [] (.one .und))
            | false => False
          | v => match svCells v with
            | some xs => match andB (Nat.beq (lenL xs) i.size) (Nat.ble (off + i.size) (lenL cs)) with
              | true => K ({ s with T := setL s.T r ([], .blk tt (putS off xs cs)) }.put d [] (.one .und))
              | false => False
            | none => False
        | some ([], .obj tt sh d0) => match updD sh d0 off i.size v with
          | some dd => K ({ s with T := setL s.T r ([], .obj tt sh dd) }.put d [] (.one .und))
          | none => False
        | _ => False
      | _ => False
    | some (.one (.c (.rowp r j sz off))) => match getE cx s [] x with
      | some (.one v) => match nthL s.T r with
        | some ([], .row tt sh l) => match andB (Nat.beq sz sh.size) (andB (Nat.beq off 0) (Nat.beq sh.size i.size)) with
          | true => match toDat sh v with
            | some dd => (j < l.length) ∧ K ({ s with T := setL s.T r ([], .row tt sh (l.set j dd)) }.put d [] (.one .und))
            | none => False
          | false => match Nat.beq sz sh.size with
            | true => (j < l.length) ∧ ∀ e : sh.den, l[j]? = some e → match updD sh e off i.size v with
              | some dd => K ({ s with T := setL s.T r ([], .row tt sh (l.set j dd)) }.put d [] (.one .und))
              | none => False
            | false => False
        | some ([], .obj tt sh d0) => match setA sh d0 off j sz i.size v with
          | some p => (j < p.1) ∧ K ({ s with T := setL s.T r ([], .obj tt sh p.2) }.put d [] (.one .und))
          | none => False
        | _ => False
      | _ => False
    | _ => False
section
variable {cx : Cx} {P : Program} {N : Nat} {B : Base} {h0 : FH} {s : St} {h : FH} {β : List RV} {w : World} {a : Act} {o : Oper} {K : St → Prop}
theorem effset {s : St} {r : Nat} {x : Res} : eff s.gl (setL s.T r ([], x)) = (eff s.gl s.T).set r x := by rw [eff_set]
theorem gT_set (sat : Sat N B h0 s h β w a) {r : Nat} {x : Res} : ∀ p ∈ setL s.T r ([], x), gbd s.gl.length p.1 = true := by
  intro p hp
  rw [setL_eq] at hp
  rcases List.mem_or_eq_of_mem_set hp with hp | hp
  · exact sat.gT p hp
  · subst hp; rfl
theorem store_in (sat : Sat N B h0 s h β w a) (hq : quietly o.op = false) (hd : dOK N o.dst = true) {r g : Nat} {x x' : Res} {u : RV} (hT : nthL s.T r = some ([], x)) (hl : x.live = true) (hu : β[r]? = some u) (hub : u.block = some g) {cs : Array Value}
    (hold : Holds h β (w.setRow g cs) x' u) (run : (execOp a.eval o).run P w = .ok .skip (w.setRow g cs)) (k : K ({ s with T := setL s.T r ([], x') }.put o.dst [] (.one .und))) :
    OpOK P N B h0 h w a o (gv s.gl []) K := by
  have hT' := effres hT (show gv s.gl [] = true from rfl)
  have ok : OK B h0 (eff s.gl (setL s.T r ([], x'))) h β (w.setRow g cs) := by
    rw [effset]
    have := sat.ok.upd (r' := x') (v := u) hT' hl hu (row := some g) (grown_setRow w g cs) (fun k e => by cases e; exact .inl hub) (fun b hb => .inl hb) (.inl rfl) (by rw [set_same hu]; exact hold)
    rwa [set_same hu] at this
  refine upd_step sat k rfl hq (.inr ⟨run, rfl⟩) (FH.le.refl h) ((sat.mem ok (FH.le.refl h) (Ext.refl β) (gT_set sat)).put (dOK_lt hd) rfl (fun _ => rfl) fun hh => by cases hh)
set_option maxHeartbeats 4000000 in
theorem store_step (hc : TisOK P cx.ti) (sat : Sat N B h0 s h β w a) (hg : GlobOK cx.gd h) (hd : dOK N o.dst = true) {t : TypeId} {p x : Operand} (ho : o.op = .store t p x) (k : storeK cx s o.dst t p x K) :
    OpOK P N B h0 h w a o (gv s.gl []) K := by
  have tr : gv s.gl [] = true := rfl
  unfold storeK at k
  split at k
  · exact k.elim
  rename_i i hi
  have ti := hc.get hi
  have exec : ∀ {w' : World} {v pv : Value}, a.eval x = v → a.eval p = pv → (Instr.storeAt t pv v).run P w = .ok () w' → (execOp a.eval o).run P w = .ok .skip w' := by
    intro w' v pv e1 e2 r
    simp only [execOp, ho, e1, e2, Sem.run_bind, r, Result.andThen_ok, Sem.run_pure]
  split at k
  · rename_i r off hp
    obtain ⟨⟨b, hb, ep⟩, _⟩ := getE_ok sat hg tr hp
    split at k
    · rename_i v hv
      have cv := getE_ok sat hg tr hv
      split at k
      · rename_i tt cs hT
        obtain ⟨ys, he, hall⟩ := sat.ok.holds r _ _ (effres hT tr) hb
        have hlen := hall.length
        split at k
        · rename_i sh dd
          split at k
          · rename_i hz
            rw [andB_eq, andB_eq, Bool.and_eq_true, Bool.and_eq_true] at hz
            have hz1 : off = 0 := Nat.eq_of_beq_eq_true hz.1
            have hz2 : cs.length = i.size := by have := Nat.eq_of_beq_eq_true hz.2.1; rwa [lenL_eq] at this
            have hz3 : sh.size = i.size := Nat.eq_of_beq_eq_true hz.2.2
            subst hz1
            obtain ⟨_, cs', ev, rd⟩ := cv
            have hsz := Rd.size sh rd
            have r1 := run_storeVar_at (o := 0) (v := a.eval x) ti he (by rw [ev]; simp [Value.cells]; omega) (by simp; omega) (by rw [ev]; intro u hu; exact Rd.one sh rd u (by simpa [Value.cells] using hu))
            refine store_in sat (by rw [ho]; rfl) hd hT rfl hb rfl ?_ (exec rfl ep r1) k
            refine ⟨_, setRow_heap w b _ _ tt (0, 0) he, ?_⟩
            simp only [List.take_zero, List.nil_append, Nat.zero_add]
            rw [List.drop_of_length_le (by first | omega | (simp; omega)), List.append_nil, ev]
            exact rd
          · exact k.elim
        · split at k
          · rename_i xs hxs
            split at k
            · rename_i hz
              rw [andB_eq, Bool.and_eq_true] at hz
              have hz1 : xs.length = i.size := by have := Nat.eq_of_beq_eq_true hz.1; rwa [lenL_eq] at this
              have hz2 : off + i.size ≤ cs.length := by have := Nat.le_of_ble_eq_true hz.2; rwa [lenL_eq] at this
              have hall' := svCells_ok hxs cv
              have hl' := hall'.length
              simp only [Array.length_toList] at hl'
              have r1 := run_storeVar_at (o := off) (v := a.eval x) ti he (by omega) (by simp; omega) hall'.one
              refine store_in sat (by rw [ho]; rfl) hd hT rfl hb rfl ?_ (exec rfl ep r1) k
              refine ⟨_, setRow_heap w b _ _ tt (0, 0) he, ?_⟩
              unfold putS
              rw [catL_eq, catL_eq, takeL_eq, dropL_eq, lenL_eq, hz1]
              simp only []
              rw [List.append_assoc]
              exact (hall.take off).cat (hall'.cat (hall.drop _))
            · exact k.elim
          · exact k.elim
      · rename_i tt sh d0 hT
        obtain ⟨ys, he, rd0⟩ := sat.ok.holds r _ _ (effres hT tr) hb
        split at k
        · rename_i dd hdd
          obtain ⟨cs', ec, e2, e3, e4, e5⟩ := updD_ok sh hdd rd0 cv
          have r1 := run_storeVar_at (o := off) (v := a.eval x) ti he (by rw [ec]; simp; omega) (by simp; omega) (by rw [ec]; intro u hu; exact e3 u (by simpa using hu))
          refine store_in sat (by rw [ho]; rfl) hd hT rfl hb rfl ?_ (exec rfl ep r1) k
          refine ⟨_, setRow_heap w b _ _ tt (0, 0) he, ?_⟩
          rw [ec]
          exact e5
        · exact k.elim
      · exact k.elim
    · exact k.elim
  · rename_i r j sz off hp
    obtain ⟨⟨v0, g, hb, hgb, ep⟩, _⟩ := getE_ok sat hg tr hp
    split at k
    · rename_i v hv
      have cv := getE_ok sat hg tr hv
      split at k
      · rename_i tt sh l hT
        -- a store of k cells at a place of the j-th element
        have part : ∀ {e dd : sh.den}, sz = sh.size → l[j]? = some e → (∀ {cs : List Value}, Rd h sh cs e → Upd h sh cs off i.size (a.eval x) dd) →
            K ({ s with T := setL s.T r ([], .row tt sh (l.set j dd)) }.put o.dst [] (.one .und)) → OpOK P N B h0 h w a o (gv s.gl []) K := by
          intro e dd hz1 hej hu k
          have hj := (List.getElem?_eq_some_iff.1 hej).1
          have hold := sat.ok.holds r _ _ (effres hT tr) hb
          match v0, hold with
          | .row vv, hold =>
            rcases hold with ⟨hv0, _⟩ | ⟨_, hv0, _⟩ | ⟨g', cap, cur, hv0, he, q2, q3, q4, q5⟩
            · subst hv0; simp [RV.block, rowBlk] at hgb
            · subst hv0; simp [RV.block, rowBlk] at hgb
            · have hgg : g' = g := by rw [hv0] at hgb; exact Option.some.inj ((block_own q3.1).symm.trans hgb)
              subst hgg
              have hm : (j + 1) * sh.size ≤ l.length * sh.size := Nat.mul_le_mul_right _ hj
              have hm2 : l.length * sh.size ≤ cap * sh.size := Nat.mul_le_mul_right _ q2
              rw [Nat.succ_mul] at hm
              obtain ⟨g1, g2⟩ := q5.get (fun _ _ => Rd.size sh) hej
              have gl := Rd.size sh g1
              obtain ⟨cs', ec, e2, e3, e4, e5⟩ := hu g1
              rw [gl] at e4
              have r1 := run_storeVar_at (o := j * sz + off) (v := a.eval x) ti he (by rw [ec]; simp; omega) (by rw [hz1]; omega) (by rw [ec]; intro u hu; exact e3 u (by simpa using hu))
              refine store_in sat (by rw [ho]; rfl) hd hT rfl hb hgb ?_ (exec rfl ep r1) k
              rw [ec, hz1]
              refine .inr (.inr ⟨g', cap, _, by rw [hv0, List.length_set], setRow_heap w g' _ _ tt (0, 0) he, by rw [List.length_set]; exact q2, q3, ?_, ?_⟩)
              · simp only [List.size_toArray, List.length_append, List.length_take, List.length_drop, Array.length_toList]; omega
              · rw [List.length_set]
                show RdL (Rd h sh) ((List.take (j * sh.size + off) cur.toList ++ cs' ++ List.drop (j * sh.size + off + i.size) cur.toList).take (l.length * sh.size)) (l.set j dd)
                have e := RdL.set (fun _ _ => Rd.size sh) q5 hj e5
                have lc : cur.toList.length = cap * sh.size := by simpa using q4
                have key : (List.take (j * sh.size + off) cur.toList ++ cs' ++ List.drop (j * sh.size + off + i.size) cur.toList).take (l.length * sh.size) =
                    List.take (j * sh.size) (List.take (l.length * sh.size) cur.toList) ++ (List.take off (List.take sh.size (List.drop (j * sh.size) (List.take (l.length * sh.size) cur.toList))) ++ cs' ++ List.drop (off + i.size) (List.take sh.size (List.drop (j * sh.size) (List.take (l.length * sh.size) cur.toList)))) ++ List.drop (j * sh.size + sh.size) (List.take (l.length * sh.size) cur.toList) := by
                  apply List.ext_getElem?
                  intro p
                  simp only [List.getElem?_append, List.getElem?_take, List.getElem?_drop, List.length_append, List.length_take, List.length_drop, lc, e2]
                  repeat' split
                  all_goals first | rfl | omega | (congr 1; omega) | (rw [List.getElem?_eq_none (by omega)]) | (exfalso; omega) | skip
                rw [key]; exact e
        split at k
        · rename_i hz
          rw [andB_eq, andB_eq, Bool.and_eq_true, Bool.and_eq_true] at hz
          have hz1 : sz = sh.size := Nat.eq_of_beq_eq_true hz.1
          have hz2 : off = 0 := Nat.eq_of_beq_eq_true hz.2.1
          have hz3 : sh.size = i.size := Nat.eq_of_beq_eq_true hz.2.2
          split at k
          · rename_i dd hdd
            obtain ⟨hj, k⟩ := k
            refine part hz1 (List.getElem?_eq_getElem hj) (fun hr => ?_) k
            subst hz2
            exact upd_whole hz3 hdd hr cv
          · exact k.elim
        · split at k
          · rename_i hz
            have hz1 : sz = sh.size := Nat.eq_of_beq_eq_true hz
            obtain ⟨hj, k⟩ := k
            have k := k _ (List.getElem?_eq_getElem hj)
            split at k
            · rename_i dd hdd
              exact part hz1 (List.getElem?_eq_getElem hj) (fun hr => updD_ok sh hdd hr cv) k
            · exact k.elim
          · exact k.elim
      · rename_i tt sh d0 hT
        split at k
        · rename_i p hp0
          obtain ⟨hj, k⟩ := k
          have hold := sat.ok.holds r _ _ (effres hT tr) hb
          match v0, hold with
          | .blk b, ⟨ys, he, rd0⟩ =>
            have hgg : b = g := by simpa [RV.block] using hgb
            subst hgg
            obtain ⟨cs', ec, e2, e3, e4, e5⟩ := setA_ok sh hp0 rd0 cv hj
            have r1 := run_storeVar_at (o := j * sz + off) (v := a.eval x) ti he (by rw [ec]; simp; omega) (by simp; omega) (by rw [ec]; intro u hu; exact e3 u (by simpa using hu))
            refine store_in sat (by rw [ho]; rfl) hd hT rfl hb hgb ?_ (exec rfl ep r1) k
            refine ⟨_, setRow_heap w b _ _ tt (0, 0) he, ?_⟩
            rw [ec]
            exact e5
        · exact k.elim
      · exact k.elim
    · exact k.elim
  · exact k.elim
end
end Go.Eng
set_option linter.unusedSimpArgs false
set_option linter.unusedVariables false
namespace Go.Eng
open Go Go.RowKit
def InA (n bytes : Nat) : Prop := n * bytes ≤ 140737488355328
/-! Nothing is known any more of what speaks of resource i. -/
@[reducible] def jkC (i : Nat) (x : SC) : SC := match SC.free i x with
  | true => x
  | false => .junk
@[reducible] def jkV (i : Nat) : SV → SV
  | .c x => .c (jkC i x)
  | .agg xs => .agg (mapL (jkC i) xs)
  | v => v
@[reducible] def jkE (i : Nat) : Ent → Ent
  | .one v => .one (jkV i v)
  | .tup vs => .tup (mapL (jkV i) vs)
@[reducible] def jkR (i : Nat) : Res → Res
  | .blk t cs => .blk t (mapL (jkC i) cs)
  | r => r
@[reducible] def jkEnv (i : Nat) : List (Nat × Gd × Ent) → List (Nat × Gd × Ent)
  | [] => []
  | (k, g, e) :: l => (k, g, jkE i e) :: jkEnv i l
@[reducible] def jkT (i : Nat) : List (Gd × Res) → List (Gd × Res)
  | [] => []
  | (g, r) :: l => (g, jkR i r) :: jkT i l
theorem CnC.jk {h : FH} {β : List RV} {i : Nat} {x : SC} {y : Value} (v : RV) (c : CnC h β x y) : CnC h (β.set i v) (jkC i x) y := by
  unfold jkC
  split
  · rename_i hf; exact c.set hf
  · trivial
theorem CnC.jk0 {h : FH} {β : List RV} {i : Nat} {x : SC} {y : Value} (c : CnC h β x y) : CnC h β (jkC i x) y := by
  unfold jkC
  split
  · exact c
  · trivial
theorem All2.jk {h : FH} {β : List RV} {i : Nat} (v : RV) : ∀ {xs : List SC} {ys : List Value}, All2 (fun x y => CnC h β x y ∧ oneC y) xs ys → All2 (fun x y => CnC h (β.set i v) x y ∧ oneC y) (mapL (jkC i) xs) ys
  | [], [], _ => trivial
  | _ :: _, _ :: _, ⟨a, b⟩ => ⟨⟨a.1.jk v, a.2⟩, All2.jk v b⟩
theorem All2.jk0 {h : FH} {β : List RV} {i : Nat} : ∀ {xs : List SC} {ys : List Value}, All2 (fun x y => CnC h β x y ∧ oneC y) xs ys → All2 (fun x y => CnC h β x y ∧ oneC y) (mapL (jkC i) xs) ys
  | [], [], _ => trivial
  | _ :: _, _ :: _, ⟨a, b⟩ => ⟨⟨a.1.jk0, a.2⟩, All2.jk0 b⟩
theorem CnV.jk {h : FH} {β : List RV} {i : Nat} (v : RV) : ∀ {x : SV} {y : Value}, CnV h β x y → CnV h (β.set i v) (jkV i x) y
  | .c _, _, c => ⟨c.1.jk v, c.2⟩
  | .agg _, _, ⟨ys, e, a⟩ => ⟨ys, e, a.jk v⟩
  | .dat _ _, _, c => c
  | .und, _, c => c
theorem CnE.jk {h : FH} {β : List RV} {i : Nat} (v : RV) : ∀ {x : Ent} {y : Value}, CnE h β x y → CnE h (β.set i v) (jkE i x) y
  | .one _, _, c => CnV.jk v c
  | .tup _, _, ⟨ys, e, a⟩ => ⟨ys, e, go a⟩
where
  go : ∀ {xs : List SV} {ys : List Value}, All2 (CnV h β) xs ys → All2 (CnV h (β.set i v)) (mapL (jkV i) xs) ys
    | [], [], _ => trivial
    | _ :: _, _ :: _, ⟨a, b⟩ => ⟨a.jk v, go b⟩
theorem Holds.jk0 {h : FH} {β : List RV} {w : World} {i : Nat} : ∀ {r : Res} {v : RV}, Holds h β w r v → Holds h β w (jkR i r) v
  | .blk _ _, .blk _, ⟨ys, e, a⟩ => ⟨ys, e, a.jk0⟩
  | .row _ _ _, .row _, e => e
  | .obj _ _ _, .blk _, e => e
  | .deep _ _ _ _ _ _ _ _, .deep _ _, e => e
  | .mp _ _ _, .row _, e => e
  | .mpo _ _ _ _, .deep _ _, e => e
  | .it _ _ _ _, .blk _, e => e
  | .tlr _ _ _ _, .row _, e => e
  | .gone, _, _ => trivial
theorem jkC_free (i : Nat) (x : SC) : SC.free i (jkC i x) = true := by
  unfold jkC
  split
  · assumption
  · rfl
theorem jk_allFree (i : Nat) : ∀ xs : List SC, allFree i (mapL (jkC i) xs) = true
  | [] => rfl
  | x :: l => by simp only [mapL, allFree, jkC_free, jk_allFree i l, Bool.and_self]
theorem jkR_free (i : Nat) (r : Res) : Res.free i (jkR i r) = true := by
  cases r with
  | blk t cs => exact jk_allFree i cs
  | _ => rfl
theorem jkR_live (i : Nat) (r : Res) : (jkR i r).live = r.live := by cases r <;> rfl
theorem lkE_jk (i : Nat) : ∀ {l : List (Nat × Gd × Ent)} {t : Nat} {G : Gd} {e : Ent}, lkE (jkEnv i l) t = some (G, e) → ∃ e0, lkE l t = some (G, e0) ∧ e = jkE i e0
  | [], _, _, _, h => by simp [jkEnv, lkE] at h
  | (k, g, e0) :: l, t, G, e, h => by
    simp only [jkEnv] at h
    rw [lkE_cons] at h ⊢
    split at h
    · rename_i hk; cases h; exact ⟨e0, by rw [if_pos hk], rfl⟩
    · rename_i hk; rw [if_neg hk]; exact lkE_jk i h
theorem lkE_jk' (i : Nat) : ∀ {l : List (Nat × Gd × Ent)} {t : Nat} {G : Gd} {e : Ent}, lkE l t = some (G, e) → lkE (jkEnv i l) t = some (G, jkE i e)
  | [], _, _, _, h => by simp [lkE] at h
  | (k, g, e0) :: l, t, G, e, h => by
    simp only [jkEnv]
    rw [lkE_cons] at h ⊢
    split at h
    · rename_i hk; cases h; rw [if_pos hk]
    · rename_i hk; rw [if_neg hk]; exact lkE_jk' i h
theorem eff_jk (gl : List Bool) (i : Nat) : ∀ {T : List (Gd × Res)}, eff gl (jkT i T) = (eff gl T).map (jkR i)
  | [] => rfl
  | (g, r) :: l => by
    simp only [jkT, eff, List.map_cons, eff_jk gl i (T := l)]
    congr 1
    cases gv gl g <;> rfl
section
variable {cx : Cx} {P : Program} {N : Nat} {B : Base} {h0 : FH} {s : St} {h : FH} {β : List RV} {w : World} {a : Act} {o : Oper} {K : St → Prop}
theorem OK.jk {T : List Res} (ok : OK B h0 T h β w) (i : Nat) : OK B h0 (T.map (jkR i)) h β w where
  below := ok.below
  dr := ok.dr
  len := by simp [ok.len]
  holds := by
    intro j r v e e'
    rw [List.getElem?_map] at e
    cases hj : T[j]? with
    | none => rw [hj] at e; cases e
    | some r0 => rw [hj] at e; cases e; exact (ok.holds j r0 v hj e').jk0
  own := by
    intro j r v b e hl e' hb
    rw [List.getElem?_map] at e
    cases hj : T[j]? with
    | none => rw [hj] at e; cases e
    | some r0 => rw [hj] at e; cases e; exact ok.own j r0 v b hj (by rw [← jkR_live i]; exact hl) e' hb
  inj := by
    intro j k r1 r2 u v b e1 l1 e2 l2 e3 e4 b1 b2
    rw [List.getElem?_map] at e1 e2
    cases hj : T[j]? with
    | none => rw [hj] at e1; cases e1
    | some q1 =>
      cases hk : T[k]? with
      | none => rw [hk] at e2; cases e2
      | some q2 =>
        rw [hj] at e1; rw [hk] at e2
        cases e1; cases e2
        exact ok.inj j k q1 q2 u v b hj (by rw [← jkR_live i]; exact l1) hk (by rw [← jkR_live i]; exact l2) e3 e4 b1 b2
  hle := ok.hle
  hw := ok.hw
  hg := ok.hg
  kn := ok.kn
theorem move_step (sat : Sat N B h0 s h β w a) (hq : quietly o.op = false) (hd : dOK N o.dst = true) {r : Nat} {x x' : Res} {u v : RV} (hT : nthL s.T r = some ([], x)) (hl : x.live = true) (hu : β[r]? = some u) {y : Value} {w' : World}
    (hg : Gb w w' u.block) (hv : ∀ b, v.block = some b → u.block = some b ∨ (w.heap.size ≤ b ∧ b < w'.heap.size)) (hvs : ∀ b, ¬ v.sub b := by exact fun _ h => h) (hold : Holds h (β.set r v) w' x' v)
    (run : (execOp a.eval o).run P w = .ok (.value y) w') {e : Ent} (he : CnE h (β.set r v) e y)
    (k : K ({ s with T := setL (jkT r s.T) r ([], x'), env := jkEnv r s.env }.put o.dst [] e)) :
    OpOK P N B h0 h w a o (gv s.gl []) K := by
  have tr : gv s.gl [] = true := rfl
  have hT' := effres hT tr
  have okj := sat.ok.jk r
  have hTj : ((eff s.gl s.T).map (jkR r))[r]? = some (jkR r x) := by rw [List.getElem?_map, hT']; rfl
  have ok : OK B h0 (eff s.gl (setL (jkT r s.T) r ([], x'))) h (β.set r v) w' := by
    rw [eff_set, eff_jk]
    refine okj.upd hTj (by rw [jkR_live]; exact hl) hu hg (fun k e => .inl e) (fun b hb => hb.elim (fun q => (hv b q).imp .inl id) fun q => (hvs b q).elim) (.inr fun j rj _ ej => ?_) hold
    rw [List.getElem?_map] at ej
    cases hj : (eff s.gl s.T)[j]? with
    | none => rw [hj] at ej; cases ej
    | some q => rw [hj] at ej; cases ej; exact jkR_free r q
  have sat' : Sat N B h0 { s with T := setL (jkT r s.T) r ([], x'), env := jkEnv r s.env } h (β.set r v) w' a := by
    refine ⟨ok, ?_, ?_, sat.defers, sat.sz, ?_, ?_⟩
    · intro t G e ht
      obtain ⟨e0, h1, rfl⟩ := lkE_jk r ht
      obtain ⟨z, q1, q2, q3⟩ := sat.env t G e0 h1
      exact ⟨z, q1, fun hG => (q2 hG).jk v, q3⟩
    · intro d i hi
      obtain ⟨G, b, q1, q2⟩ := sat.gs d i hi
      exact ⟨G, b, lkE_jk' r q1, q2⟩
    · intro t G e ht
      obtain ⟨e0, h1, rfl⟩ := lkE_jk r ht
      exact sat.gb t G e0 h1
    · intro p hp
      simp only at hp
      rw [setL_eq] at hp
      rcases List.mem_or_eq_of_mem_set hp with hp | hp
      · have : ∀ {l : List (Gd × Res)}, p ∈ jkT r l → ∃ q ∈ l, q.1 = p.1 := by
          intro l
          induction l with
          | nil => intro hh; simp [jkT] at hh
          | cons q l ih =>
            obtain ⟨g, q⟩ := q
            intro hh
            simp only [jkT, List.mem_cons] at hh
            rcases hh with rfl | hh
            · exact ⟨(g, q), by simp, rfl⟩
            · obtain ⟨q', h1, h2⟩ := ih hh; exact ⟨q', by simp [h1], h2⟩
        obtain ⟨q, h1, h2⟩ := this hp
        rw [← h2]; exact sat.gT q h1
      · subst hp; rfl
  exact upd_step sat k tr hq (.inl run) (FH.le.refl h) (sat'.put (dOK_lt hd) rfl (fun _ => he) fun hh => by cases hh)
end
/-! append. -/
def SrcIs (h : FH) (w : World) (sh : Sh) (v : Value) (l : List sh.den) : Prop :=
  (v = .slice none 0 0 ∧ l = []) ∨ (∃ a c, v = .slice (some a) 0 c ∧ l = []) ∨ ∃ b o c cs, v = .slice (some ⟨b, o, none⟩) l.length c ∧ RdL (Rd h sh) cs l ∧ ∀ j u, cs[j]? = some u → w.cell? ⟨b, o + j, none⟩ = some u
def RowIs (h : FH) (w : World) (t : TypeId) (sh : Sh) (v : Value) (l : List sh.den) : Prop := Holds h [] w (.row t sh l) (.row v)
theorem run_append_row {P : Program} {t ty el : TypeId} {i : TI} {h : FH} {w : World} {sh : Sh} {v sv : Value} {l l2 : List sh.den} (hu : P.underlying t = some (.slice el)) (k : TIOK P el i) (hs : sh.size = i.size)
    (hb1 : 1 ≤ i.bytes) (hs1 : 1 ≤ i.size) (row : RowIs h w el sh v l) (src : SrcIs h w sh sv l2) (room : InA (l.length + l2.length) i.bytes)
    (hw : ∀ b o u, h b o = some u → vis w b o = some u) :
    ∃ v' w', (Builtin.append_ #[t, t] ty #[v, sv]).run P w = .ok v' w' ∧ Gb w w' (rowBlk v) ∧ (∀ b, rowBlk v' = some b → rowBlk v = some b ∨ (w.heap.size ≤ b ∧ b < w'.heap.size)) ∧ RowIs h w' el sh v' (l ++ l2) := by
  obtain ⟨inf, z, i1, i2, i3, i4, i5⟩ := k.info
  unfold InA at room
  have hn : l.length + l2.length ≤ 140737488355328 := Nat.le_trans (Nat.le_mul_of_pos_right _ hb1) room
  have zsz : z.cells.size = i.size := by rw [i5]; simpa using k.zlen
  rcases src with ⟨rfl, rfl⟩ | ⟨sa, sc, rfl, rfl⟩ | ⟨b, o, c, cs, rfl, rd, at_⟩
  · refine ⟨v, w, ?_, grown_refl _ _, fun b hb => .inl hb, by rw [List.append_nil]; exact row⟩
    rcases row with ⟨rfl, rfl⟩ | ⟨_, rfl, rfl⟩ | ⟨g, cap, cur, rfl, q1, q2, q3, q4, q5⟩
    · simp [Builtin.append_, run_underlying hu, sizeOf, typeInfo, i1, Builtin.lenOf, Builtin.firstCells]
    · simp [Builtin.append_, run_underlying hu, sizeOf, typeInfo, i1, Builtin.lenOf, Builtin.firstCells, storeCells]
    · simp [Builtin.append_, run_underlying hu, sizeOf, typeInfo, i1, Builtin.lenOf, Builtin.firstCells, q2, storeCells]
  · refine ⟨v, w, ?_, grown_refl _ _, fun b hb => .inl hb, by rw [List.append_nil]; exact row⟩
    rcases row with ⟨rfl, rfl⟩ | ⟨_, rfl, rfl⟩ | ⟨g, cap, cur, rfl, q1, q2, q3, q4, q5⟩
    · simp [Builtin.append_, run_underlying hu, sizeOf, typeInfo, i1, Builtin.lenOf, Builtin.firstCells, loadCells, loadCellsFrom]
    · simp [Builtin.append_, run_underlying hu, sizeOf, typeInfo, i1, Builtin.lenOf, Builtin.firstCells, storeCells, loadCells, loadCellsFrom]
    · simp [Builtin.append_, run_underlying hu, sizeOf, typeInfo, i1, Builtin.lenOf, Builtin.firstCells, q2, storeCells, loadCells, loadCellsFrom]
  · have hcs : cs.length = l2.length * inf.size := by rw [RdL.size (fun _ _ => Rd.size sh) rd, i2, hs]
    have hnews : ∀ j u, cs[j]? = some u → w.cell? ((⟨b, o, none⟩ : Addr).add j) = some u := fun j u e => by rw [add_lit]; exact at_ j u e
    have h1 : ∀ u ∈ cs, u.oneCell' = true := fun u hu' => (RdL.all (fun _ _ r => Rd.one sh r) rd u hu').2
    rcases row with ⟨rfl, rfl⟩ | ⟨ra, rfl, rfl⟩ | ⟨g, cap, cur, rfl, q1, q2, q3, q4, q5⟩
    · by_cases hm : l2.length = 0
      · have : l2 = [] := List.eq_nil_of_length_eq_zero hm
        subst this
        refine ⟨.slice none 0 0, w, ?_, grown_refl _ _, fun b hb => .inl hb, .inl ⟨rfl, rfl⟩⟩
        simp [Builtin.append_, run_underlying hu, sizeOf, typeInfo, i1, Builtin.lenOf, Builtin.firstCells, loadCells, loadCellsFrom]
      · have r := run_append_nil (P := P) w t ty el inf z hu i1 i4 ⟨b, o, none⟩ l2.length c cs hcs hnews (by omega) (by simp at hn; omega) (by rw [i3]; simp at room; omega)
        have hge := grownCap_ge w l2.length 0 el
        refine ⟨_, _, r, ⟨⟨rfl, rfl, rfl, by simp, fun k hk _ => (World.grownBy_alloc w.drew _ none).block k hk (by simp)⟩, Nat.le_succ _⟩, ?_, ?_⟩
        · intro b' hb'; simp [rowBlk] at hb'; obtain ⟨_, rfl⟩ := hb'; right; simp
        · refine .inr (.inr ⟨w.heap.size, _, _, rfl, heap_alloc_new w.drew _, by simpa using hge, ⟨by omega, grownCap_le_maxLen w l2.length 0 el (by simp only [maxLen]; simp at hn; omega)⟩, ?_, ?_⟩)
          · simp only [Array.size_append, List.size_toArray, size_zeroCells, zsz, hcs, i2, hs, ← Nat.add_mul]
            congr 1; omega
          · simp only [Array.toList_append, List.nil_append]
            rw [show l2.length * sh.size = cs.length by rw [hcs, i2, hs], List.take_left]
            exact rd
    · by_cases hm : l2.length = 0
      · have : l2 = [] := List.eq_nil_of_length_eq_zero hm
        subst this
        refine ⟨.slice (some ra) 0 0, w, ?_, grown_refl _ _, fun b hb => .inl hb, .inr (.inl ⟨ra, rfl, rfl⟩)⟩
        simp [Builtin.append_, run_underlying hu, sizeOf, typeInfo, i1, Builtin.lenOf, Builtin.firstCells, storeCells, loadCells, loadCellsFrom]
      · have r := run_append_grow (P := P) w t ty el inf z hu i1 i4 ra 0 0 [] (by simp) (fun j u e => by simp at e) ⟨b, o, none⟩ l2.length c cs hcs hnews (by omega) (by simp at hn; omega) (growslice_fits (by omega) (by rw [i3]; simpa using room))
        rw [Nat.zero_add] at r
        have hge := grownCap_ge w l2.length 0 el
        refine ⟨_, _, r, ⟨⟨rfl, rfl, rfl, by simp, fun k hk _ => (World.grownBy_alloc w.drew _ none).block k hk (by simp)⟩, Nat.le_succ _⟩, ?_, ?_⟩
        · intro b' hb'; simp [rowBlk] at hb'; obtain ⟨_, rfl⟩ := hb'; right; simp
        · refine .inr (.inr ⟨w.heap.size, _, _, rfl, heap_alloc_new w.drew _, by simpa using hge, ⟨by omega, grownCap_le_maxLen w l2.length 0 el (by simp only [maxLen]; simp at hn; omega)⟩, ?_, ?_⟩)
          · simp only [Array.size_append, List.size_toArray, size_zeroCells, zsz, List.nil_append, hcs, i2, hs, Nat.zero_add, List.length_nil, ← Nat.add_mul]
            congr 1; omega
          · simp only [Array.toList_append, List.nil_append]
            rw [show l2.length * sh.size = cs.length by rw [hcs, i2, hs], List.take_left]
            exact rd
    · by_cases hroom : l.length + l2.length ≤ cap
      · have hfit : l.length * inf.size + cs.length ≤ cur.size := by rw [hcs, q4, i2, hs, ← Nat.add_mul]; exact Nat.mul_le_mul_right _ hroom
        have r := run_append_room (P := P) w t ty el inf hu i1 g l.length cap cur q1 ⟨b, o, none⟩ l2.length c cs hcs hnews h1 hroom hfit
        refine ⟨_, _, r, by rw [rowBlk_own q3.1]; exact grown_setRow w g _, fun b' hb' => .inl (by rw [rowBlk_own q3.1] at hb' ⊢; exact hb'), .inr (.inr ⟨g, cap, _, by rw [List.length_append], setRow_heap w g cur _ el _ q1, by rw [List.length_append]; exact hroom, q3, ?_, ?_⟩)⟩
        · simp only [List.size_toArray, List.length_append, List.length_take, List.length_drop, Array.length_toList]; omega
        · have e1 : (List.take (l.length * sh.size) cur.toList ++ cs).length = (l ++ l2).length * sh.size := by
            rw [List.length_append, List.length_append, Nat.add_mul, hcs, i2, RdL.size (fun _ _ => Rd.size sh) q5, hs]
          show RdL (Rd h sh) ((List.take (l.length * inf.size) cur.toList ++ cs ++ List.drop (l.length * inf.size + cs.length) cur.toList).take ((l ++ l2).length * sh.size)) (l ++ l2)
          rw [i2, ← hs, ← e1, List.take_left]
          exact q5.append rd
      · have lsz := RdL.size (fun _ _ => Rd.size sh) q5
        have hol : (cur.toList.take (l.length * sh.size)).length = l.length * inf.size := by rw [lsz, i2, hs]
        have holds : ∀ j u, (cur.toList.take (l.length * sh.size))[j]? = some u → w.cell? ((⟨g, 0, none⟩ : Addr).add j) = some u := by
          intro j u e
          rw [add_lit, Nat.zero_add, cell_of_row w g j cur el (0, 0) q1]
          rw [List.getElem?_take] at e
          split at e
          · simpa using e
          · cases e
        have r := run_append_grow (P := P) w t ty el inf z hu i1 i4 ⟨g, 0, none⟩ l.length cap _ hol holds ⟨b, o, none⟩ l2.length c cs hcs hnews (by omega) (by omega) (growslice_fits (by omega) (by rw [i3]; exact room))
        have hge := grownCap_ge w (l.length + l2.length) cap el
        refine ⟨_, _, r, ⟨⟨rfl, rfl, rfl, by simp, fun k hk _ => (World.grownBy_alloc w.drew _ none).block k hk (by simp)⟩, Nat.le_succ _⟩, ?_, ?_⟩
        · intro b' hb'; simp [rowBlk] at hb'; obtain ⟨_, rfl⟩ := hb'; right; simp
        · refine .inr (.inr ⟨w.heap.size, _, _, by rw [List.length_append], heap_alloc_new w.drew _, by rw [List.length_append]; exact hge, ⟨by omega, grownCap_le_maxLen w _ cap el (by simp only [maxLen]; omega)⟩, ?_, ?_⟩)
          · have lsz2 : (cur.toList.take (l.length * i.size)).length = l.length * i.size := by rw [← hs]; exact lsz
            simp only [Array.size_append, List.size_toArray, size_zeroCells, zsz, hcs, i2, hs, lsz2, ← Nat.add_mul]
            congr 1
            omega
          · simp only [Array.toList_append, List.append_assoc]
            rw [← List.append_assoc, show (l ++ l2).length * sh.size = (List.take (l.length * sh.size) cur.toList ++ cs).length by rw [List.length_append, List.length_append, Nat.add_mul, hcs, lsz, i2, hs], List.take_left]
            exact q5.append rd
@[reducible] def isOneOf (cx : Cx) (t : TypeId) (K : TypeId → TI → Sh → Prop) : Prop := match descOf cx t with
  | .slice el => match lkT cx.ti el with
    | none => False
    | some ie => match ie.shp with
      | none => False
      | some sh => match andB (Nat.beq sh.size ie.size) (andB (Nat.ble 1 ie.bytes) (Nat.ble 1 ie.size)) with
        | true => K el ie sh
        | false => False
  | _ => False
@[reducible] def srcD (s : St) (sh : Sh) (v : SV) : Option (List sh.den) := match v with
  | .c (.sl sh2 l2) => castD (.sl sh2) l2 (.sl sh)
  | .c (.v (.slice none 0 0)) => some []
  | .c (.row r) => match nthL s.T r with
    | some ([], .row _ sh2 l2) => castD (.sl sh2) l2 (.sl sh)
    | _ => none
  | _ => none
@[reducible] def appendK (cx : Cx) (s : St) (d : Option Nat) (t : TypeId) (x y : Operand) (K : St → Prop) : Prop := isOneOf cx t fun el ie sh =>
  match getE cx s [] y with
  | some (.one v2) => match srcD s sh v2 with
    | none => False
    | some l2 => match getE cx s [] x with
      | some (.one (.c (.row r))) => match nthL s.T r with
        | some ([], .row tt sh1 l1) => match Nat.beq tt el with
          | true => match castD (.sl sh1) l1 (.sl sh) with
            | some l => InA (l.length + l2.length) ie.bytes ∧ K ({ s with T := setL (jkT r s.T) r ([], .row el sh (l ++ l2)), env := jkEnv r s.env }.put d [] (.one (.c (.row r))))
            | none => False
          | false => False
        | _ => False
      | some (.one (.c (.v (.slice none 0 0)))) => InA l2.length ie.bytes ∧ K ({ s with T := snoc s.T ([], .row el sh l2) }.put d [] (.one (.c (.row (lenL s.T)))))
      | _ => False
  | _ => False
section
variable {cx : Cx} {P : Program} {N : Nat} {B : Base} {h0 : FH} {s : St} {h : FH} {β : List RV} {w : World} {a : Act} {o : Oper} {K : St → Prop}
theorem castSl {sh1 sh : Sh} {l1 : List sh1.den} {l : List sh.den} (e : castD (.sl sh1) l1 (.sl sh) = some l) : ∃ e' : sh1 = sh, (e' ▸ l1 : List sh.den) = l := by
  obtain ⟨e1, e2⟩ := castD_eq e
  cases e1
  exact ⟨rfl, e2⟩
theorem srcD_ok (sat : Sat N B h0 s h β w a) {sh : Sh} {v : SV} {l : List sh.den} {y : Value} (e : srcD s sh v = some l) (c : CnV h β v y) : SrcIs h w sh y l := by
  unfold srcD at e
  split at e
  · rename_i sh2 l2
    obtain ⟨e1, e2⟩ := castSl e
    subst e1; simp only at e2; subst e2
    rcases c.1 with ⟨e1, e2⟩ | ⟨ad, cap, e1, e2, _⟩ | ⟨b, off, cap, e1, q1, q2, cs, rd, at_⟩
    · exact .inl ⟨e1, e2⟩
    · exact .inr (.inl ⟨ad, cap, e1, e2⟩)
    · exact .inr (.inr ⟨b, off, cap, cs, e1, rd, fun j u hj => vis_cell (sat.ok.hw _ _ _ (at_ j u hj)) (RdL.all (fun _ _ => Rd.one _) rd u (List.mem_of_getElem? hj)).2⟩)
  · cases e; exact .inl ⟨c.1.1, rfl⟩
  · rename_i r
    split at e
    · rename_i tt sh2 l2 hT
      obtain ⟨e1, e2⟩ := castSl e
      subst e1; simp only at e2; subst e2
      rcases sat.ok.holds r _ _ (effres hT rfl) (sat.ok.row_of (effres hT rfl) c.1) with ⟨e1, e2⟩ | ⟨ra, e1, e2⟩ | ⟨g, cap, cur, e1, q1, q2, q3, q4, rd⟩
      · exact .inl ⟨e1, e2⟩
      · exact .inr (.inl ⟨ra, 0, e1, e2⟩)
      · refine .inr (.inr ⟨g, 0, cap, _, e1, rd, fun j u hj => ?_⟩)
        rw [Nat.zero_add, cell_of_row w g j cur tt (0, 0) q1]
        rw [List.getElem?_take] at hj
        split at hj
        · simpa using hj
        · cases hj
    · cases e
  · cases e
theorem append_step (hc : TisOK P cx.ti) (sat : Sat N B h0 s h β w a) (hg : GlobOK cx.gd h) (hd : dOK N o.dst = true) {t : TypeId} {x y : Operand} {c : Call} (ho : o.op = .call c) (hcal : c.callee = .builtin .append) (ha : c.args = #[x, y]) (ht : c.argTypes = #[t, t])
    (k : appendK cx s o.dst t x y K) : OpOK P N B h0 h w a o (gv s.gl []) K := by
  have tr : gv s.gl [] = true := rfl
  unfold appendK isOneOf at k
  split at k
  · rename_i el hde
    have hu := descOf_und hc hde (by simp)
    split at k
    · exact k.elim
    rename_i ie hie
    have tie := hc.get hie
    split at k
    · exact k.elim
    rename_i sh hsh
    split at k
    · rename_i hz
      rw [andB_eq, andB_eq, Bool.and_eq_true, Bool.and_eq_true] at hz
      have hz1 : sh.size = ie.size := Nat.eq_of_beq_eq_true hz.1
      have hz2 : 1 ≤ ie.bytes := Nat.le_of_ble_eq_true hz.2.1
      have hz3 : 1 ≤ ie.size := Nat.le_of_ble_eq_true hz.2.2
      split at k
      · rename_i v2 hv2
        have c2 := getE_ok sat hg tr hv2
        split at k
        · exact k.elim
        rename_i l2 hl2
        have src := srcD_ok sat hl2 c2
        have exec : ∀ {u u' : Value} {w' : World}, a.eval x = u → (Builtin.append_ #[t, t] o.type #[u, a.eval y]).run P w = .ok u' w' → (execOp a.eval o).run P w = .ok (.value u') w' := by
          intro u u' w' e r
          simp [execOp, ho, resolve, hcal, ha, ht, invoke, builtin, e, r]
        split at k
        · rename_i r hr
          have cr := getE_ok sat hg tr hr
          split at k
          · rename_i tt sh1 l1 hT
            split at k
            · rename_i htt
              have htt : tt = el := Nat.eq_of_beq_eq_true htt
              subst htt
              split at k
              · rename_i l hl
                obtain ⟨e1, e2⟩ := castSl hl
                subst e1; simp only at e2; subst e2
                have cr1 := sat.ok.row_of (effres hT tr) cr.1
                have row : RowIs h w tt sh1 (a.eval x) l1 := sat.ok.holds r _ _ (effres hT tr) cr1
                obtain ⟨v', w', r1, r2, r3, r4⟩ := run_append_row (ty := o.type) hu tie hz1 hz2 hz3 row src k.1 sat.ok.hw
                have hlt : r < β.length := (List.getElem?_eq_some_iff.1 cr1).1
                refine move_step sat (by rw [ho]; simp only [quietly, hcal]) hd (v := .row v') hT rfl cr1 r2 r3 (hold := show Holds h (β.set r (.row v')) w' (.row tt sh1 (l1 ++ l2)) (.row v') from r4) (run := exec rfl r1) (he := ?_) (k := k.2)
                refine ⟨?_, ?_⟩
                · refine ⟨.row v', ?_, rfl⟩
                  rw [List.getElem?_set_self hlt]
                · rcases r4 with ⟨rfl, _⟩ | ⟨_, rfl, _⟩ | ⟨g, cap, cur, rfl, _⟩ <;> exact ⟨rfl, rfl⟩
              · exact k.elim
            · exact k.elim
          · exact k.elim
        · rename_i hx
          have cx' := getE_ok sat hg tr hx
          obtain ⟨v', w', r1, r2, r3, r4⟩ := run_append_row (ty := o.type) (l := []) hu tie hz1 hz2 hz3 (.inl ⟨cx'.1.1, rfl⟩) src (by simpa using k.1) sat.ok.hw
          refine new_step sat rfl hd k.2 fun _ => ⟨v', w', .row v', exec rfl r1, ?_, ?_, ?_, ?_⟩
          · rw [cx'.1.1] at r2; exact r2
          · intro b hb
            rcases r3 b (has_row.1 hb) with hh | hh
            · rw [cx'.1.1] at hh; cases hh
            · exact hh
          · exact r4
          · refine ⟨⟨_, last_ref (sat_len sat) _, rfl⟩, ?_⟩
            rcases r4 with ⟨rfl, _⟩ | ⟨_, rfl, _⟩ | ⟨g, cap, cur, rfl, _⟩ <;> exact ⟨rfl, rfl⟩
        · exact k.elim
      · exact k.elim
    · exact k.elim
  · exact k.elim
end
/-! make. -/
@[reducible] def makeK (cx : Cx) (s : St) (G : Gd) (d : Option Nat) (t : TypeId) (ln cp : Operand) (K : St → Prop) : Prop := isOneOf cx t fun el ie sh =>
  match getE cx s G ln with
  | some (.one (.c (.v (.int _ n)))) => match getE cx s G cp with
    | some (.one (.c (.v (.int _ c)))) => side s.gl G (0 ≤ n ∧ n ≤ c ∧ InA c.toNat ie.bytes) ∧ K ({ s with T := snoc s.T (G, .row el sh (List.replicate n.toNat (zdat sh))) }.put d G (.one (.c (.row (lenL s.T)))))
    | _ => False
  | _ => False
theorem RdL_rep {α : Type} {R : List Value → α → Prop} {cs : List Value} {d : α} (r : R cs d) : ∀ n : Nat, RdL R (repL n cs) (List.replicate n d)
  | 0 => rfl
  | n + 1 => ⟨cs, repL n cs, by simp only [repL, catL_eq], r, RdL_rep r n⟩
theorem repL_take {l : List Value} : ∀ {n m : Nat}, n ≤ m → (repL m l).take (n * l.length) = repL n l
  | 0, m, _ => by simp [repL]
  | n + 1, 0, h => by omega
  | n + 1, m + 1, h => by
    simp only [repL, catL_eq]
    rw [Nat.succ_mul, Nat.add_comm, List.take_length_add_append, repL_take (by omega)]
section
variable {cx : Cx} {P : Program} {N : Nat} {B : Base} {h0 : FH} {s : St} {h : FH} {β : List RV} {w : World} {a : Act} {G : Gd} {o : Oper} {K : St → Prop}
theorem make_step (hc : TisOK P cx.ti) (sat : Sat N B h0 s h β w a) (hg : GlobOK cx.gd h) (hG : gbd s.gl.length G = true) (hd : dOK N o.dst = true) {t : TypeId} {x y : Operand} (ho : o.op = .makeSlice t x y)
    (k : makeK cx s G o.dst t x y K) : OpOK P N B h0 h w a o (gv s.gl G) K := by
  unfold makeK isOneOf at k
  split at k
  · rename_i el hde
    have hu := descOf_und hc hde (by simp)
    split at k
    · exact k.elim
    rename_i ie hie
    have tie := hc.get hie
    split at k
    · exact k.elim
    rename_i sh hsh
    split at k
    · rename_i hz
      rw [andB_eq, andB_eq, Bool.and_eq_true, Bool.and_eq_true] at hz
      have hz1 : sh.size = ie.size := Nat.eq_of_beq_eq_true hz.1
      have hz2 : 1 ≤ ie.bytes := Nat.le_of_ble_eq_true hz.2.1
      have hz3 : 1 ≤ ie.size := Nat.le_of_ble_eq_true hz.2.2
      split at k
      · rename_i ik n hn
        split at k
        · rename_i ik' c hcp
          refine new_step sat hG hd k.2 fun hgv => ?_
          obtain ⟨s1, s2, s3⟩ := side_ok k.1 hgv
          have e1 : a.eval x = .int ik n := (getE_ok sat hg hgv hn).1.1
          have e2 : a.eval y = .int ik' c := (getE_ok sat hg hgv hcp).1.1
          obtain ⟨inf, z, i1, i2, i3, i4, i5⟩ := tie.info
          unfold InA at s3
          have hcb : c.toNat ≤ 140737488355328 := Nat.le_trans (Nat.le_mul_of_pos_right _ hz2) s3
          have hb : (inf.bytes : Int) * c ≤ 281474976710656 := by
            rw [i3]
            have : ((c.toNat * ie.bytes : Nat) : Int) ≤ 140737488355328 := by omega
            rw [Int.natCast_mul, Int.toNat_of_nonneg (by omega), Int.mul_comm] at this
            omega
          have r := run_make (P := P) w t el inf z hu i1 i4 ik ik' n c s1 s2 hb (by omega)
          have hmade : madeCells z.cells (c.toNat * inf.size) = (repL c.toNat ie.zero).toArray := by
            unfold madeCells
            rw [i5, i2, ← tie.zlen]
            exact zeros_eq (by rw [tie.zlen]; omega)
          rw [hmade] at r
          refine ⟨.slice (some ⟨w.heap.size, 0, none⟩) n.toNat c.toNat, w.alloc (.cells (repL c.toNat ie.zero).toArray el), .row (.slice (some ⟨w.heap.size, 0, none⟩) n.toNat c.toNat), ?_, gb_alloc _ _ _, ?_, ?_, ?_⟩
          · simp only [execOp, ho, e1, e2, Sem.run_bind, r, Result.andThen_ok, Sem.run_pure]
          · intro b hb'; rw [has_row] at hb'; simp [rowBlk] at hb'; obtain ⟨_, rfl⟩ := hb'; simp
          · by_cases hc0 : c.toNat = 0
            · have hn0 : n.toNat = 0 := by omega
              exact .inr (.inl ⟨⟨w.heap.size, 0, none⟩, by rw [hc0, hn0], by rw [hn0]; rfl⟩)
            refine .inr (.inr ⟨w.heap.size, c.toNat, _, by rw [List.length_replicate], heap_new _ _, by rw [List.length_replicate]; omega, ⟨by omega, by simp only [maxLen]; omega⟩, ?_, ?_⟩)
            · simp only [List.size_toArray, repL_len, tie.zlen, hz1]
            · rw [List.length_replicate]
              show RdL (Rd h sh) ((repL c.toNat ie.zero).take (n.toNat * sh.size)) _
              rw [hz1, ← tie.zlen, repL_take (by omega)]
              exact RdL_rep (Rd_empty (tie.zshp sh hsh).1) _
          · exact ⟨⟨_, last_ref (sat_len sat) _, rfl⟩, rfl, rfl⟩
        · exact k.elim
      · exact k.elim
    · exact k.elim
  · exact k.elim
end
end Go.Eng
set_option linter.unusedSimpArgs false
set_option linter.unusedVariables false
namespace Go.Eng
open Go Go.RowKit
@[reducible] def ofDats : (ss : List Sh) → dens ss → List SV
  | [], _ => []
  | s :: l, d => ofDat s d.1 :: ofDats l d.2
@[reducible] def datA : (ss : List Sh) → List SV → Option (dens ss)
  | [], vs => match vs with
    | [] => some ()
    | _ => none
  | s :: l, vs => match vs with
    | v :: r => match toDat s v with
      | some d => match datA l r with
        | some e => some (d, e)
        | none => none
      | none => none
    | _ => none
theorem datA_ok {h : FH} {β : List RV} : ∀ {ss : List Sh} {vs : List SV} {ys : List Value} {d : dens ss}, datA ss vs = some d → All2 (CnV h β) vs ys → All2 (CnV h β) (ofDats ss d) ys
  | [], vs, ys, d, e, a => by
    unfold datA at e
    split at e
    · cases ys with
      | nil => trivial
      | cons _ _ => exact a.elim
    · cases e
  | s :: l, vs, ys, d, e, a => by
    unfold datA at e
    split at e
    · rename_i v r
      cases ys with
      | nil => exact a.elim
      | cons y ys =>
        split at e
        · rename_i d1 hd
          split at e
          · rename_i d2 hr
            cases e
            obtain ⟨cs, e1, rd⟩ := toDat_ok hd a.1
            rw [e1]
            exact ⟨ofDat_ok s rd, datA_ok hr a.2⟩
          · cases e
        · cases e
    · cases e
structure CT where
  ps : List Sh
  pre : dens ps → Prop
  res : dens ps → List Res × Ent
def CTOK (P : Program) (gd : Nat → Option (Sigma Sh.den)) (f : FuncId) (ct : CT) : Prop :=
  ∀ (d : dens ct.ps) (vs : List Value) (h : FH) (B : World), (∀ b o v, h b o = some v → vis B b o = some v) → GlobOK gd h → All2 (CnV h []) (ofDats ct.ps d) vs → ct.pre d →
    Calls P f vs.toArray B (fun en w' => ∃ h' β y, en = .returned y ∧ OK (Base.of B) h (ct.res d).1 h' β w' ∧ CnE h' β (ct.res d).2 y)
def CTX (P : Program) (gd : Nat → Option (Sigma Sh.den)) (f : FuncId) (suf : List Value) (ct : CT) : Prop :=
  ∀ (d : dens ct.ps) (vs : List Value) (h : FH) (B : World), (∀ b o v, h b o = some v → vis B b o = some v) → GlobOK gd h → All2 (CnV h []) (ofDats ct.ps d) vs → ct.pre d →
    Calls P f (vs ++ suf).toArray B (fun en w' => ∃ h' β y, en = .returned y ∧ OK (Base.of B) h (ct.res d).1 h' β w' ∧ CnE h' β (ct.res d).2 y)
def CTS (P : Program) (gd : Nat → Option (Sigma Sh.den)) (f : FuncId) (sv : List SV) (ct : CT) : Prop :=
  ∀ (d : dens ct.ps) (vs ys : List Value) (h : FH) (B : World), (∀ b o v, h b o = some v → vis B b o = some v) → GlobOK gd h → All2 (CnV h []) (ofDats ct.ps d) vs → All2 (CnV h []) sv ys → ct.pre d →
    Calls P f (vs ++ ys).toArray B (fun en w' => ∃ h' β y, en = .returned y ∧ OK (Base.of B) h (ct.res d).1 h' β w' ∧ CnE h' β (ct.res d).2 y)
theorem CTOK.x {P : Program} {gd : Nat → Option (Sigma Sh.den)} {f : FuncId} {ct : CT} (h : CTOK P gd f ct) : CTX P gd f [] ct := by
  intro d vs h' B; simpa using h d vs h' B
theorem CTX.ok {P : Program} {gd : Nat → Option (Sigma Sh.den)} {f : FuncId} {ct : CT} (h : CTX P gd f [] ct) : CTOK P gd f ct := by
  intro d vs h' B; simpa using h d vs h' B
@[reducible] def SC.sh (n : Nat) : SC → SC
  | .own i off => .own (n + i) off
  | .row i => .row (n + i)
  | .rowp i j sz off => .rowp (n + i) j sz off
  | .sub i j => .sub (n + i) j
  | .subp i j k sz off => .subp (n + i) j k sz off
  | x => x
@[reducible] def SV.sh (n : Nat) : SV → SV
  | .c x => .c (x.sh n)
  | .agg xs => .agg (mapL (SC.sh n) xs)
  | v => v
@[reducible] def Ent.sh (n : Nat) : Ent → Ent
  | .one v => .one (v.sh n)
  | .tup vs => .tup (mapL (SV.sh n) vs)
@[reducible] def Res.sh (n : Nat) : Res → Res
  | .blk t cs => .blk t (mapL (SC.sh n) cs)
  | r => r
@[reducible] def shFlat : Sh → Bool
  | .int _ => true
  | .bool => true
  | .str => true
  | .unit => true
  | .pair a b => andB (shFlat a) (shFlat b)
  | .arr _ s => shFlat s
  | _ => false
@[reducible] def scFlat : SC → Bool
  | .v _ => true
  | .own _ _ => true
  | .row _ => true
  | _ => false
@[reducible] def allL {α : Type} (p : α → Bool) : List α → Bool
  | [] => true
  | x :: l => andB (p x) (allL p l)
@[reducible] def svFlat : SV → Bool
  | .c x => scFlat x
  | .agg xs => allL scFlat xs
  | .dat s _ => shFlat s
  | .und => true
@[reducible] def entFlat : Ent → Bool
  | .one v => svFlat v
  | .tup vs => allL svFlat vs
@[reducible] def resFlat : Res → Bool
  | .blk _ cs => allL scFlat cs
  | .row _ s _ => shFlat s
  | .obj _ s _ => shFlat s
  | .deep _ _ _ _ _ _ _ _ => false
  | .mp _ s _ => shFlat s
  | .mpo _ _ _ _ => false
  | .it _ _ _ _ => false
  | .tlr _ _ _ _ => true
  | .gone => true
theorem Rd.flat {h h' : FH} : ∀ (s : Sh) {cs : List Value} {d : s.den}, shFlat s = true → Rd h s cs d → Rd h' s cs d
  | .int _, _, _, _, r => r
  | .bool, _, _, _, r => r
  | .str, _, _, _, r => r
  | .unit, _, _, _, r => r
  | .any, _, _, f, _ => by simp [shFlat] at f
  | .sl _, _, _, f, _ => by simp [shFlat] at f
  | .pair a b, _, (_, _), f, ⟨c1, c2, e, r1, r2⟩ => by
    simp only [shFlat, andB_eq, Bool.and_eq_true] at f
    exact ⟨c1, c2, e, r1.flat a f.1, r2.flat b f.2⟩
  | .arr _ s, _, _, f, ⟨e, r⟩ => ⟨e, r.mono fun _ _ => Rd.flat s f⟩
theorem last_shift {β β' : List RV} {i : Nat} {v : RV} (e : β'[i]? = some v) : (β ++ β')[β.length + i]? = some v := by
  rw [List.getElem?_append_right (by omega)]; simpa using e
theorem CnC.shift {h : FH} {β β' : List RV} : ∀ {x : SC} {y : Value}, CnC h β' x y → CnC h (β ++ β') (x.sh β.length) y
  | .v _, _, c => c
  | .sl _ _, _, c => c
  | .fp _ _, _, c => c
  | .one _ _, _, c => c
  | .own _ _, _, ⟨b, e, e'⟩ => ⟨b, last_shift e, e'⟩
  | .row _, _, ⟨v, e, e'⟩ => ⟨v, last_shift e, e'⟩
  | .rowp _ _ _ _, _, ⟨v, g, e, e'⟩ => ⟨v, g, last_shift e, e'⟩
  | .sub _ _, _, ⟨v, us, e, e'⟩ => ⟨v, us, last_shift e, e'⟩
  | .subp _ _ _ _ _, _, ⟨v, us, g, e, e'⟩ => ⟨v, us, g, last_shift e, e'⟩
  | .abs _, _, c => c
  | .junk, _, _ => trivial
theorem CnC.flat {h h' : FH} {β : List RV} : ∀ {x : SC} {y : Value}, scFlat x = true → CnC h β x y → CnC h' β x y
  | .v _, _, _, c => c
  | .own _ _, _, _, c => c
  | .row _, _, _, c => c
  | .sl _ _, _, f, _ => by simp [scFlat] at f
  | .fp _ _, _, f, _ => by simp [scFlat] at f
  | .one _ _, _, f, _ => by simp [scFlat] at f
  | .rowp _ _ _ _, _, f, _ => by simp [scFlat] at f
  | .sub _ _, _, f, _ => by simp [scFlat] at f
  | .subp _ _ _ _ _, _, f, _ => by simp [scFlat] at f
  | .abs _, _, f, _ => by simp [scFlat] at f
  | .junk, _, f, _ => by simp [scFlat] at f
theorem All2.mapL {α β : Type} {R R' : α → β → Prop} {f : α → α} (hR : ∀ a b, R a b → R' (f a) b) : ∀ {l : List α} {m : List β}, All2 R l m → All2 R' (mapL f l) m
  | [], [], _ => trivial
  | _ :: _, _ :: _, ⟨a, b⟩ => ⟨hR _ _ a, All2.mapL hR b⟩
theorem All2.allL {α β : Type} {R R' : α → β → Prop} {p : α → Bool} (hR : ∀ a b, p a = true → R a b → R' a b) : ∀ {l : List α} {m : List β}, allL p l = true → All2 R l m → All2 R' l m
  | [], [], _, _ => trivial
  | _ :: _, _ :: _, f, ⟨a, b⟩ => by
    simp only [Eng.allL, andB_eq, Bool.and_eq_true] at f
    exact ⟨hR _ _ f.1 a, All2.allL hR f.2 b⟩
theorem CnV.shift {h : FH} {β β' : List RV} : ∀ {x : SV} {y : Value}, CnV h β' x y → CnV h (β ++ β') (x.sh β.length) y
  | .c _, _, c => ⟨c.1.shift, c.2⟩
  | .agg _, _, ⟨ys, e, a⟩ => ⟨ys, e, a.mapL fun _ _ ⟨p, q⟩ => ⟨p.shift, q⟩⟩
  | .dat _ _, _, c => c
  | .und, _, c => c
theorem CnV.flat {h h' : FH} {β : List RV} : ∀ {x : SV} {y : Value}, svFlat x = true → CnV h β x y → CnV h' β x y
  | .c _, _, f, c => ⟨c.1.flat f, c.2⟩
  | .agg _, _, f, ⟨ys, e, a⟩ => ⟨ys, e, a.allL (fun _ _ f ⟨p, q⟩ => ⟨p.flat f, q⟩) f⟩
  | .dat s _, _, f, ⟨g, cs, e, r⟩ => ⟨g, cs, e, r.flat s f⟩
  | .und, _, _, c => c
theorem CnE.shift {h : FH} {β β' : List RV} : ∀ {x : Ent} {y : Value}, CnE h β' x y → CnE h (β ++ β') (x.sh β.length) y
  | .one _, _, c => CnV.shift c
  | .tup _, _, ⟨ys, e, a⟩ => ⟨ys, e, a.mapL (f := SV.sh β.length) fun _ _ c => CnV.shift c⟩
theorem CnE.flat {h h' : FH} {β : List RV} : ∀ {x : Ent} {y : Value}, entFlat x = true → CnE h β x y → CnE h' β x y
  | .one _, _, f, c => CnV.flat f c
  | .tup _, _, f, ⟨ys, e, a⟩ => ⟨ys, e, a.allL (fun _ _ => CnV.flat) f⟩
theorem Holds.shift {h : FH} {β β' : List RV} {w : World} : ∀ {r : Res} {v : RV}, Holds h β' w r v → Holds h (β ++ β') w (r.sh β.length) v
  | .blk _ _, .blk _, ⟨ys, e, a⟩ => ⟨ys, e, a.mapL fun _ _ ⟨p, q⟩ => ⟨p.shift, q⟩⟩
  | .row _ _ _, .row _, c => c
  | .obj _ _ _, .blk _, c => c
  | .deep _ _ _ _ _ _ _ _, .deep _ _, c => c
  | .mp _ _ _, .row _, c => c
  | .mpo _ _ _ _, .deep _ _, c => c
  | .it _ _ _ _, .blk _, c => c
  | .tlr _ _ _ _, .row _, c => c
  | .gone, _, _ => trivial
theorem Holds.flat {h h' : FH} {β : List RV} {w : World} : ∀ {r : Res} {v : RV}, resFlat r = true → Holds h β w r v → Holds h' β w r v
  | .blk _ _, .blk _, f, ⟨ys, e, a⟩ => ⟨ys, e, a.allL (fun _ _ f ⟨p, q⟩ => ⟨p.flat f, q⟩) f⟩
  | .row _ s _, .row _, f, c => c.elim .inl fun c => c.elim (fun c => .inr (.inl c)) fun ⟨g, cap, cur, e, q1, q2, q3, q4, q5⟩ => .inr (.inr ⟨g, cap, cur, e, q1, q2, q3, q4, q5.mono fun _ _ => Rd.flat s f⟩)
  | .obj _ s _, .blk _, f, ⟨ys, e, r⟩ => ⟨ys, e, r.flat s f⟩
  | .deep _ _ _ _ _ _ _ _, .deep _ _, f, _ => by cases f
  | .mp _ s _, .row _, f, ⟨b, es, c, e, e1, m⟩ => ⟨b, es, c, e, e1, m.mono fun _ _ ⟨cs, q, r⟩ => ⟨cs, q, r.flat s f⟩⟩
  | .mpo _ _ _ _, .deep _ _, f, _ => by cases f
  | .it _ _ _ _, .blk _, f, _ => by cases f
  | .tlr _ _ _ _, .row _, _, c => c
  | .gone, _, _, _ => trivial
theorem Res.sh_live (n : Nat) (r : Res) : (r.sh n).live = r.live := by cases r <;> rfl
theorem OK.call {B : Base} {h0 : FH} {T : List Res} {h : FH} {β : List RV} {w : World} (ok : OK B h0 T h β w) {hb : FH} {T' : List Res} {h' : FH} {β' : List RV} {w' : World} (ok' : OK (Base.of w) hb T' h' β' w') {hn : FH} (le : h.le hn)
    (conv : ∀ (j : Nat) r v, T'[j]? = some r → Holds h' β' w' r v → Holds hn (β ++ β') w' (r.sh β.length) v)
    (hnw : ∀ b o v, hn b o = some v → vis w' b o = some v) (hng : ∀ b o v, hn b o = some v → h b o = some v ∨ (w.heap.size ≤ b ∧ h' b o = some v)) :
    OK B h0 (T ++ T'.map (Res.sh β.length)) hn (β ++ β') w' := by
  have L := ok.len
  have L' := ok'.len
  have own' : ∀ (i : Nat) r v b, T'[i]? = some r → r.live = true → β'[i]? = some v → v.has b → w.heap.size ≤ b ∧ b < w'.heap.size ∧ ∀ o, h' b o = none := ok'.own
  have below' : Below w.heap.size w w' := Bw.bel ok'.below
  have dr' : w.drawn ≤ w'.drawn := ok'.dr
  have split : ∀ {i : Nat} {r : Res} {v : RV}, (T ++ T'.map (Res.sh β.length))[i]? = some r → (β ++ β')[i]? = some v →
      (T[i]? = some r ∧ β[i]? = some v) ∨ ∃ j r', i = β.length + j ∧ T'[j]? = some r' ∧ r = r'.sh β.length ∧ β'[j]? = some v := by
    intro i r v e e'
    by_cases hi : i < T.length
    · rw [List.getElem?_append_left hi] at e
      rw [List.getElem?_append_left (by omega)] at e'
      exact .inl ⟨e, e'⟩
    · rw [List.getElem?_append_right (by omega), List.getElem?_map] at e
      rw [List.getElem?_append_right (by omega)] at e'
      cases hj : T'[i - T.length]? with
      | none => rw [hj] at e; cases e
      | some r' => rw [hj] at e; cases e; exact .inr ⟨i - T.length, r', by omega, hj, rfl, by rw [show i - T.length = i - β.length by omega]; exact e'⟩
  have oldnone : ∀ {i : Nat} {r : Res} {v : RV} {b : Nat}, T[i]? = some r → r.live = true → β[i]? = some v → v.has b → ∀ o, hn b o = none := by
    intro i r v b e1 e2 e3 e4 o
    obtain ⟨a1, a2, a3⟩ := ok.own i r v b e1 e2 e3 e4
    cases hh : hn b o with
    | none => rfl
    | some u =>
      rcases hng b o u hh with h1 | h1
      · rw [a3 o] at h1; cases h1
      · omega
  have newnone : ∀ {i : Nat} {r : Res} {v : RV} {b : Nat}, T'[i]? = some r → r.live = true → β'[i]? = some v → v.has b → ∀ o, hn b o = none := by
    intro i r v b e1 e2 e3 e4 o
    obtain ⟨a1, a2, a3⟩ := own' i r v b e1 e2 e3 e4
    cases hh : hn b o with
    | none => rfl
    | some u =>
      rcases hng b o u hh with h1 | h1
      · have := vis_lt (ok.hw b o u h1); omega
      · rw [a3 o] at h1; cases h1.2
  exact {
    below := ok.below.below below'
    dr := Nat.le_trans ok.dr dr'
    len := by simp [L, L']
    holds := by
      intro i r v e e'
      rcases split e e' with ⟨f1, f2⟩ | ⟨j, r', hi, f1, hr, f2⟩
      · exact (ok.holds i r v f1 f2).move le (Ext.append _ _) fun hl b hb => below'.block b (ok.own i r v b f1 hl f2 hb).2.1
      · rw [hr]; exact conv j r' v f1 (ok'.holds j r' v f1 f2)
    own := by
      intro i r v b e hl e' hb'
      rcases split e e' with ⟨f1, f2⟩ | ⟨j, r', hi, f1, hr, f2⟩
      · obtain ⟨a1, a2, a3⟩ := ok.own i r v b f1 hl f2 hb'
        exact ⟨a1, Nat.lt_of_lt_of_le a2 below'.size, oldnone f1 hl f2 hb'⟩
      · rw [hr, Res.sh_live] at hl
        obtain ⟨a1, a2, a3⟩ := own' j r' v b f1 hl f2 hb'
        exact ⟨B.up _ (Nat.le_trans ok.below.size a1), a2, newnone f1 hl f2 hb'⟩
    inj := by
      intro i j r1 r2 u v b e1 l1 e2 l2 e3 e4 b1 b2
      rcases split e1 e3 with ⟨f1, f3⟩ | ⟨i', r1', hi, f1, hr1, f3⟩ <;> rcases split e2 e4 with ⟨f2, f4⟩ | ⟨j', r2', hj, f2, hr2, f4⟩
      · exact ok.inj i j r1 r2 u v b f1 l1 f2 l2 f3 f4 b1 b2
      · rw [hr2, Res.sh_live] at l2
        have a1 := ok.own i r1 u b f1 l1 f3 b1
        have a2 := own' j' r2' v b f2 l2 f4 b2
        omega
      · rw [hr1, Res.sh_live] at l1
        have a1 := ok.own j r2 v b f2 l2 f4 b2
        have a2 := own' i' r1' u b f1 l1 f3 b1
        omega
      · rw [hr1, Res.sh_live] at l1
        rw [hr2, Res.sh_live] at l2
        rw [hi, hj, ok'.inj i' j' r1' r2' u v b f1 l1 f2 l2 f3 f4 b1 b2]
    hle := ok.hle.trans le
    hw := hnw
    hg := by
      intro b o v hh
      rcases hng b o v hh with h1 | h1
      · exact ok.hg b o v h1
      · exact .inr (B.up _ (Nat.le_trans ok.below.size h1.1))
    kn := fun k o hk => by
      have h1 := ok.kn k o hk
      exact (below'.block k (Array.getElem?_eq_some_iff.1 h1).1).trans h1 }
theorem OK.addGone {B : Base} {h0 : FH} {h : FH} {w : World} : ∀ (m : Nat) {T : List Res} {β : List RV}, OK B h0 T h β w → OK B h0 (T ++ List.replicate m .gone) h (β ++ List.replicate m .no) w
  | 0, T, β, ok => by simpa using ok
  | m + 1, T, β, ok => by
    have := OK.addGone m (ok.add (r := .gone) (v := .no) (grown_refl w none) (fun b hb => (has_no hb).elim) trivial)
    simpa [List.replicate_succ] using this
@[reducible] def catT (G : Gd) (n : Nat) : List (Gd × Res) → List Res → List (Gd × Res)
  | T, [] => T
  | T, r :: l => catT G n (snoc T (G, r.sh n)) l
theorem catT_eq (G : Gd) (n : Nat) : ∀ (l : List Res) (T : List (Gd × Res)), catT G n T l = T ++ l.map fun r => (G, r.sh n)
  | [], T => by simp [catT]
  | r :: l, T => by simp [catT, catT_eq G n l, snoc_eq]
theorem eff_append (gl : List Bool) : ∀ (T U : List (Gd × Res)), eff gl (T ++ U) = eff gl T ++ eff gl U
  | [], _ => rfl
  | (g, r) :: l, U => by simp [eff, eff_append gl l U]
theorem eff_new_true {gl : List Bool} {G : Gd} {n : Nat} (hG : gv gl G = true) : ∀ (l : List Res), eff gl (l.map fun r => (G, r.sh n)) = l.map (Res.sh n)
  | [] => rfl
  | r :: l => by simp [eff, hG, cnd_eq, eff_new_true hG l]
theorem eff_new_false {gl : List Bool} {G : Gd} {n : Nat} (hG : gv gl G = false) : ∀ (l : List Res), eff gl (l.map fun r => (G, r.sh n)) = List.replicate l.length .gone
  | [] => rfl
  | r :: l => by simp [eff, hG, cnd_eq, eff_new_false hG l, List.replicate_succ]
/-! Rows with rows in their elements, read as data. -/
theorem RdL.of_get {α : Type} {R : List Value → α → Prop} {k : Nat} : ∀ {l : List α} {cs : List Value}, cs.length = l.length * k → (∀ j d, l[j]? = some d → R ((cs.drop (j * k)).take k) d) → RdL R cs l
  | [], cs, h, _ => List.eq_nil_of_length_eq_zero (by simpa using h)
  | d :: l, cs, h, hR => by
    rw [List.length_cons, Nat.succ_mul] at h
    refine ⟨cs.take k, cs.drop k, (List.take_append_drop k cs).symm, ?_, RdL.of_get (k := k) (by rw [List.length_drop]; omega) fun j d' hd => ?_⟩
    · have := hR 0 d rfl
      simpa using this
    · have := hR (j + 1) d' (by simpa using hd)
      rw [List.drop_drop]
      rwa [show k + j * k = (j + 1) * k by rw [Nat.succ_mul]; omega]
theorem RowH.sl {h h' : FH} {w : World} {t : TypeId} {s : Sh} {l : List s.den} {v : Value} (x : RowH h w t s l v) (le : h.le h') (hb : ∀ b, rowBlk v = some b → ∀ o u, vis w b o = some u → h' b o = some u) : SlAt h' (Rd h' s) v l := by
  rcases x with ⟨e1, e2⟩ | ⟨ra, e1, e2⟩ | ⟨g, cap, cur, e1, q1, q2, q3, q4, q5⟩
  · exact .inl ⟨e1, e2⟩
  · exact .inr (.inl ⟨ra, 0, e1, e2, Nat.zero_le _⟩)
  · refine .inr (.inr ⟨g, 0, cap, e1, q2, q3.2, _, q5.mono fun _ _ => Rd.mono le s, fun j u hj => ?_⟩)
    refine hb g (by rw [e1]; exact rowBlk_own q3.1) _ _ ?_
    rw [Nat.zero_add]
    have h1 := RdL.all (fun _ _ => Rd.one s) q5 u (List.mem_of_getElem? hj)
    rw [List.getElem?_take] at hj
    split at hj
    · exact vis_cells q1 (by simpa using hj) h1.2
    · cases hj
theorem set_back {cs : List Value} {o : Nat} {u : Value} (h : cs[o]? = some u) (x : Value) : (cs.set o x).set o u = cs := by
  rw [List.set_set]
  exact set_same h
theorem ElH.rd {h h' : FH} {w : World} {s : Sh} {tt : TypeId} {e : Sh} {so : Nat} {own : Bool} {u : Value} {cs : List Value} {d : s.den} (x : ElH h w s tt e so own false u cs d) (le : h.le h') (hb : ∀ b, rowBlk u = some b → ∀ o z, vis w b o = some z → h' b o = some z) : Rd h' s cs d := by
  unfold ElH at x
  cases own with
  | false => exact x.1.mono le s
  | true =>
    obtain ⟨d0, y, r, p, c, q⟩ := x
    have := p.rd (r.mono le s) (q.sl le hb)
    rwa [set_back c] at this
theorem DeepH.data {h h' : FH} {w : World} {t : TypeId} {s : Sh} {l : List s.den} {tt : TypeId} {e : Sh} {so : Nat} {own : Nat → Bool} {v : Value} {us : Nat → Value} (x : DeepH h w t s l tt e so own [] v us) (le : h.le h')
    (hb : ∀ b, (RV.deep v us).has b → ∀ o z, vis w b o = some z → h' b o = some z) : SlAt h' (Rd h' s) v l := by
  obtain ⟨_, _, x⟩ := x
  rcases x with ⟨e1, e2⟩ | ⟨ra, e1, e2⟩ | ⟨g, cap, cur, e1, q1, q2, q3, q4, q5, q6⟩
  · exact .inl ⟨e1, e2⟩
  · exact .inr (.inl ⟨ra, 0, e1, e2, Nat.zero_le _⟩)
  · have hm : l.length * s.size ≤ cap * s.size := Nat.mul_le_mul_right _ q2
    have lc : cur.toList.length = cap * s.size := by simpa using q4
    have rdl : RdL (Rd h' s) (cur.toList.take (l.length * s.size)) l := by
      refine RdL.of_get (k := s.size) (by rw [List.length_take]; omega) fun j d hd => ?_
      have hj := (List.getElem?_eq_some_iff.1 hd).1
      have hm : (j + 1) * s.size ≤ l.length * s.size := Nat.mul_le_mul_right _ hj
      rw [Nat.succ_mul] at hm
      have e5 : List.take s.size (List.drop (j * s.size) (List.take (l.length * s.size) cur.toList)) = List.take s.size (List.drop (j * s.size) cur.toList) := by
        apply List.ext_getElem?
        intro p
        simp only [List.getElem?_take, List.getElem?_drop]
        split
        · rw [if_pos (by omega)]
        · rfl
      rw [e5]
      exact (q6 j d hd).rd le fun b hu => hb b (has_deep.2 (.inr ⟨j, hu⟩))
    refine .inr (.inr ⟨g, 0, cap, e1, q2, q3.2, cur.toList.take (l.length * s.size), rdl, fun j u hj => ?_⟩)
    · refine hb g (has_deep.2 (.inl (by rw [e1]; exact rowBlk_own (n := l.length) q3.1))) _ _ ?_
      rw [Nat.zero_add]
      have h1 := RdL.all (fun _ _ => Rd.one s) rdl u (List.mem_of_getElem? hj)
      rw [List.getElem?_take] at hj
      split at hj
      · exact vis_cells q1 (by simpa using hj) h1.2
      · cases hj
/-! Arguments. -/
@[reducible] def borC (s : St) (G : Gd) (x : SC) : Option SC := match x with
  | .v u => some (.v u)
  | .sl sh l => some (.sl sh l)
  | .fp sh d => some (.fp sh d)
  | .one sh d => some (.one sh d)
  | .row r => match nthL s.T r with
    | some (Gr, .row _ sh l) => match gsub Gr G with
      | true => some (.sl sh l)
      | false => none
    | some (Gr, .deep _ sh l _ _ _ _ []) => match gsub Gr G with
      | true => some (.sl sh l)
      | false => none
    | some (Gr, .mp k sh l) => match gsub Gr G with
      | true => some (.one (.mp k sh) l)
      | false => none
    | _ => none
  | _ => none
@[reducible] def borL (s : St) (G : Gd) : List SC → Option (List SC)
  | [] => some []
  | x :: l => match borC s G x with
    | some y => match borL s G l with
      | some m => some (y :: m)
      | none => none
    | none => none
@[reducible] def borV (s : St) (G : Gd) (v : SV) : Option SV := match v with
  | .c x => match borC s G x with
    | some y => some (.c y)
    | none => none
  | .agg xs => match borL s G xs with
    | some ys => some (.agg ys)
    | none => none
  | .dat sh d => some (.dat sh d)
  | .und => none
@[reducible] def isRow : SC → Bool
  | .row _ => true
  | _ => false
@[reducible] def noRow : SV → Bool
  | .c x => !(isRow x)
  | .agg xs => allL (fun x => !(isRow x)) xs
  | _ => true
@[reducible] def argsV (cx : Cx) (s : St) (G : Gd) : List Operand → Option (List SV)
  | [] => some []
  | x :: l => match getE cx s G x with
    | some (.one v) => match argsV cx s G l with
      | some r => some (v :: r)
      | none => none
    | _ => none
@[reducible] def borA (s : St) (G : Gd) : List SV → Option (List SV)
  | [] => some []
  | x :: l => match borV s G x with
    | some v => match borA s G l with
      | some r => some (v :: r)
      | none => none
    | none => none
@[reducible] def orB : Bool → Bool → Bool
  | true, _ => true
  | false, b => b
@[reducible] def callK (cx : Cx) (ct : Nat → Option CT) (s : St) (G : Gd) (d : Option Nat) (f : Nat) (args : List Operand) (K : St → Prop) : Prop := match ct f with
  | none => False
  | some c => match argsV cx s G args with
    | none => False
    | some vs => match borA s G vs with
      | none => False
      | some bs => match datA c.ps bs with
        | none => False
        | some dd => match orB (allL noRow vs) (andB (entFlat (c.res dd).2) (allL resFlat (c.res dd).1)) with
          | true => side s.gl G (c.pre dd) ∧ K ({ s with T := catT G (lenL s.T) s.T (c.res dd).1 }.put d G ((c.res dd).2.sh (lenL s.T)))
          | false => False
theorem All2.uncat {α β : Type} {R : α → β → Prop} : ∀ {a c : List α} {l : List β}, All2 R (a ++ c) l → ∃ b d, l = b ++ d ∧ All2 R a b ∧ All2 R c d
  | [], c, l, h => ⟨[], l, rfl, trivial, h⟩
  | x :: a, c, [], h => h.elim
  | x :: a, c, y :: l, ⟨h1, h2⟩ => by
    obtain ⟨b, d, e, p, q⟩ := All2.uncat (a := a) h2
    exact ⟨y :: b, d, by rw [e]; rfl, ⟨h1, p⟩, q⟩
theorem All2.one_inv {α β : Type} {R : α → β → Prop} {x : α} : ∀ {l : List β}, All2 R [x] l → ∃ y, l = [y] ∧ R x y
  | [], h => h.elim
  | [y], h => ⟨y, rfl, h.1⟩
  | _ :: _ :: _, h => h.2.elim
theorem flat_inv {h : FH} {β : List RV} : ∀ (s : Sh) {d : s.den} {xs : List SC} {ys : List Value}, flat s d = some xs → All2 (fun x y => CnC h β x y ∧ oneC y) xs ys → Rd h s ys d
  | .int k, n, xs, ys, e, a => by simp [flat] at e; subst e; obtain ⟨y, rfl, r⟩ := a.one_inv; rw [r.1.1]; rfl
  | .bool, n, xs, ys, e, a => by simp [flat] at e; subst e; obtain ⟨y, rfl, r⟩ := a.one_inv; rw [r.1.1]; rfl
  | .str, n, xs, ys, e, a => by simp [flat] at e; subst e; obtain ⟨y, rfl, r⟩ := a.one_inv; rw [r.1.1]; rfl
  | .any, n, xs, ys, e, a => by simp [flat] at e
  | .sl s, l, xs, ys, e, a => by simp [flat] at e; subst e; obtain ⟨y, rfl, r⟩ := a.one_inv; exact ⟨y, rfl, r.1⟩
  | .unit, n, xs, ys, e, a => by
    simp [flat] at e; subst e
    cases ys with
    | nil => rfl
    | cons _ _ => exact a.elim
  | .arr _ _, n, xs, ys, e, a => by simp [flat] at e
  | .mp k s, l, xs, ys, e, a => by simp [flat] at e; subst e; obtain ⟨y, rfl, r⟩ := a.one_inv; exact r.1
  | .pair a b, (x, y), xs, ys, e, al => by
    unfold flat at e
    split at e
    · rename_i p hp
      split at e
      · rename_i q hq
        cases e
        rw [catL_eq] at al
        obtain ⟨c1, c2, rfl, r1, r2⟩ := al.uncat
        exact ⟨c1, c2, rfl, flat_inv a hp r1, flat_inv b hq r2⟩
      · cases e
    · cases e
theorem ofDat_inv {h : FH} {β : List RV} : ∀ (s : Sh) {d : s.den} {y : Value}, CnV h β (ofDat s d) y → DV h s d y
  | .int k, n, y, c => ⟨[y], rfl, by rw [c.1.1]; rfl⟩
  | .bool, n, y, c => ⟨[y], rfl, by rw [c.1.1]; rfl⟩
  | .str, n, y, c => ⟨[y], rfl, by rw [c.1.1]; rfl⟩
  | .any, n, y, c => ⟨[y], rfl, by rw [c.1.1]; exact ⟨rfl, c.1.2⟩⟩
  | .sl s, l, y, c => ⟨[y], rfl, y, rfl, c.1⟩
  | .unit, n, y, ⟨ys, e, a⟩ => by
    cases ys with
    | nil => exact ⟨[], e, rfl⟩
    | cons _ _ => exact a.elim
  | .arr n s, l, y, ⟨_, cs, e, r⟩ => ⟨cs, e, r⟩
  | .mp k s, l, y, c => ⟨[y], rfl, c.1⟩
  | .pair a b, d, y, c => by
    have e : ofDat (.pair a b) d = match flat (.pair a b) d with
      | some xs => .agg xs
      | none => .dat (.pair a b) d := rfl
    rw [e] at c
    cases hx : flat (.pair a b) d with
    | some xs =>
      rw [hx] at c
      obtain ⟨ys, e, al⟩ := c
      exact ⟨ys, e, flat_inv (.pair a b) hx al⟩
    | none =>
      rw [hx] at c
      obtain ⟨_, cs, e, r⟩ := c
      exact ⟨cs, e, r⟩
theorem ofDats_inv {h : FH} : ∀ {ss : List Sh} {d : dens ss} {ys : List Value}, All2 (CnV h []) (ofDats ss d) ys → DVs h ss d ys
  | [], _, [], _ => trivial
  | [], _, _ :: _, x => x.elim
  | _ :: _, _, [], x => x.elim
  | s :: l, d, y :: ys, ⟨a, b⟩ => ⟨ofDat_inv s a, ofDats_inv b⟩
section
variable {cx : Cx} {P : Program} {N : Nat} {B : Base} {h0 : FH} {s : St} {h : FH} {β : List RV} {w : World} {a : Act} {G : Gd} {o : Oper} {K : St → Prop}
theorem argsV_ok (sat : Sat N B h0 s h β w a) (hg : GlobOK cx.gd h) (hG : gv s.gl G = true) : ∀ {l : List Operand} {vs : List SV}, argsV cx s G l = some vs → All2 (CnV h β) vs (l.map a.eval)
  | [], vs, e => by simp [argsV] at e; subst e; trivial
  | x :: l, vs, e => by
    unfold argsV at e
    split at e
    · rename_i v hv
      split at e
      · rename_i r hr
        cases e
        exact ⟨getE_ok sat hg hG hv, argsV_ok sat hg hG hr⟩
      · cases e
    · cases e
def FH.all (w : World) : FH := fun b o => vis w b o
theorem OK.mp_rv {B : Base} {h0 : FH} {T : List Res} {h : FH} {β : List RV} {w : World} (ok : OK B h0 T h β w) {i : Nat} {k : IntKind} {s : Sh} {l : List (Int × s.den)} {y : Value} (hT : T[i]? = some (.mp k s l)) (hx : CnC h β (.row i) y) : β[i]? = some (.row y) := by
  obtain ⟨v, e, es⟩ := hx
  have hold := ok.holds i _ _ hT e
  match v, hold, es with
  | .row v, _, es => cases es; exact e
theorem OK.mp_of {B : Base} {h0 : FH} {T : List Res} {h : FH} {β : List RV} {w : World} (ok : OK B h0 T h β w) {i : Nat} {k : IntKind} {s : Sh} {l : List (Int × s.den)} {y : Value} (hT : T[i]? = some (.mp k s l)) (hx : CnC h β (.row i) y) :
    ∃ b es c, y = .map (some b) ∧ w.heap[b]? = some (.map es c) ∧ MapR k (DW h s) es c l := ok.holds i _ _ hT (ok.mp_rv hT hx)
theorem borC_ok (sat : Sat N B h0 s h β w a) (hG : gv s.gl G = true) {x y : SC} {v : Value} (e : borC s G x = some y) (c : CnC h β x v) :
    CnC (FH.all w) [] y v ∧ (isRow x = false → CnC h [] y v) := by
  have le : h.le (FH.all w) := sat.ok.hw
  unfold borC at e
  split at e
  · cases e; exact ⟨c, fun _ => c⟩
  · cases e; exact ⟨SlAt.mono le (fun _ _ => Rd.mono le _) c, fun _ => c⟩
  · cases e
    obtain ⟨b, o, cs, e, r, at_⟩ := c
    exact ⟨⟨b, o, cs, e, r.mono le _, at_.mono le⟩, fun _ => ⟨b, o, cs, e, r, at_⟩⟩
  · cases e; exact ⟨Rd.mono le _ c, fun _ => c⟩
  · rename_i r
    split at e
    · rename_i Gr tt sh l hT
      split at e
      · rename_i hs
        cases e
        refine ⟨?_, fun hh => by cases hh⟩
        rcases sat.ok.holds r _ _ (effres hT (gsub_gv hs hG)) (sat.ok.row_of (effres hT (gsub_gv hs hG)) c) with ⟨e1, e2⟩ | ⟨ra, e1, e2⟩ | ⟨g, cap, cur, e1, q1, q2, q3, q4, q5⟩
        · exact .inl ⟨e1, e2⟩
        · exact .inr (.inl ⟨ra, 0, e1, e2, Nat.zero_le _⟩)
        · refine .inr (.inr ⟨g, 0, cap, e1, q2, q3.2, _, q5.mono fun _ _ => Rd.mono le sh, fun j u hj => ?_⟩)
          show vis w g (0 + j) = some u
          rw [Nat.zero_add]
          have h1 := RdL.all (fun _ _ => Rd.one sh) q5 u (List.mem_of_getElem? hj)
          rw [List.getElem?_take] at hj
          split at hj
          · exact vis_cells q1 (by simpa using hj) h1.2
          · cases hj
      · cases e
    · rename_i Gr tt sh l t2 e2 so own hT
      split at e
      · rename_i hs
        cases e
        refine ⟨?_, fun hh => by cases hh⟩
        obtain ⟨us, _, hd⟩ := sat.ok.deep_of (effres hT (gsub_gv hs hG)) c
        exact hd.data le fun b _ o z hz => hz
      · cases e
    · rename_i Gr k sh l hT
      split at e
      · rename_i hs
        cases e
        refine ⟨?_, fun hh => by cases hh⟩
        obtain ⟨b, es, cl, hb, hw, m⟩ := sat.ok.mp_of (effres hT (gsub_gv hs hG)) c
        exact ⟨_, rfl, .inr ⟨b, es, cl, hb, map_vis hw, m.mono fun _ _ => DW.mono le⟩⟩
      · cases e
    · cases e
  · cases e
theorem borL_ok (sat : Sat N B h0 s h β w a) (hG : gv s.gl G = true) : ∀ {xs ys : List SC} {vs : List Value}, borL s G xs = some ys → All2 (fun x y => CnC h β x y ∧ oneC y) xs vs →
    All2 (fun x y => CnC (FH.all w) [] x y ∧ oneC y) ys vs ∧ (allL (fun x => !(isRow x)) xs = true → All2 (fun x y => CnC h [] x y ∧ oneC y) ys vs)
  | [], ys, [], e, _ => by simp [borL] at e; subst e; exact ⟨trivial, fun _ => trivial⟩
  | x :: l, ys, v :: vs, e, ⟨c, r⟩ => by
    unfold borL at e
    split at e
    · rename_i y hy
      split at e
      · rename_i m hm
        cases e
        obtain ⟨h1, h2⟩ := borC_ok sat hG hy c.1
        obtain ⟨h3, h4⟩ := borL_ok sat hG hm r
        refine ⟨⟨⟨h1, c.2⟩, h3⟩, fun hh => ?_⟩
        simp only [allL, andB_eq, Bool.and_eq_true] at hh
        exact ⟨⟨h2 (by simpa using hh.1), c.2⟩, h4 hh.2⟩
      · cases e
    · cases e
theorem borV_ok (sat : Sat N B h0 s h β w a) (hG : gv s.gl G = true) {x y : SV} {v : Value} (e : borV s G x = some y) (c : CnV h β x v) :
    CnV (FH.all w) [] y v ∧ (noRow x = true → CnV h [] y v) := by
  have le : h.le (FH.all w) := sat.ok.hw
  unfold borV at e
  split at e
  · split at e
    · rename_i y hy
      cases e
      obtain ⟨h1, h2⟩ := borC_ok sat hG hy c.1
      exact ⟨⟨h1, c.2⟩, fun hh => ⟨h2 (by simpa [noRow] using hh), c.2⟩⟩
    · cases e
  · split at e
    · rename_i ys hy
      cases e
      obtain ⟨vs, e1, e2⟩ := c
      obtain ⟨h1, h2⟩ := borL_ok sat hG hy e2
      exact ⟨⟨vs, e1, h1⟩, fun hh => ⟨vs, e1, h2 hh⟩⟩
    · cases e
  · cases e
    obtain ⟨g, cs, e1, r⟩ := c
    exact ⟨⟨g, cs, e1, r.mono le _⟩, fun _ => ⟨g, cs, e1, r⟩⟩
  · cases e
theorem borA_ok (sat : Sat N B h0 s h β w a) (hG : gv s.gl G = true) : ∀ {xs ys : List SV} {vs : List Value}, borA s G xs = some ys → All2 (CnV h β) xs vs →
    All2 (CnV (FH.all w) []) ys vs ∧ (allL noRow xs = true → All2 (CnV h []) ys vs)
  | [], ys, [], e, _ => by simp [borA] at e; subst e; exact ⟨trivial, fun _ => trivial⟩
  | x :: l, ys, v :: vs, e, ⟨c, r⟩ => by
    unfold borA at e
    split at e
    · rename_i y hy
      split at e
      · rename_i m hm
        cases e
        obtain ⟨h1, h2⟩ := borV_ok sat hG hy c
        obtain ⟨h3, h4⟩ := borA_ok sat hG hm r
        refine ⟨⟨h1, h3⟩, fun hh => ?_⟩
        simp only [allL, andB_eq, Bool.and_eq_true] at hh
        exact ⟨h2 hh.1, h4 hh.2⟩
      · cases e
    · cases e
theorem call_stepZ {lb : Array Value} {ct : Nat → Option CT} {suf : List Value} {f : FuncId} (hct : ∀ c, ct f = some c → ∀ (d : dens c.ps) (vs : List Value) (h' : FH), h.le h' → (∀ b o v, h' b o = some v → vis w b o = some v) → GlobOK cx.gd h' → All2 (CnV h' []) (ofDats c.ps d) vs → c.pre d → Calls P f (vs ++ suf).toArray w (fun en w' => ∃ h'' β y, en = .returned y ∧ OK (Base.of w) h' (c.res d).1 h'' β w' ∧ CnE h'' β (c.res d).2 y)) (sat : Sat N B h0 s h β w a) (hg : GlobOK cx.gd h) (hG : gbd s.gl.length G = true) (hd : dOK N o.dst = true) {c : Call} (ho : o.op = .call c)
    {x : Operand} {xs : List Operand} (hcal : c.callee = .value x) (hx : gv s.gl G = true → a.eval x = .func (.func f) #[] lb) (hxs : c.args.map a.eval ++ lb = (xs.map a.eval ++ suf).toArray)
    (hf : ∃ fn, P.funcs[f]? = some fn ∧ fn.body.isSome = true ∧ (fn.name == "runtime.NumGoroutine") = false)
    (k : callK cx ct s G o.dst f xs K) : OpOK P N B h0 h w a o (gv s.gl G) K := by
  unfold callK at k
  split at k
  · exact k.elim
  rename_i cc hcc
  split at k
  · exact k.elim
  rename_i vs hvs
  split at k
  · exact k.elim
  rename_i bs hbs
  split at k
  · exact k.elim
  rename_i dd hdd
  split at k
  · rename_i hflat
    obtain ⟨T', hT'⟩ : ∃ T', T' = (cc.res dd).1 := ⟨_, rfl⟩
    obtain ⟨e, he0⟩ : ∃ e, e = (cc.res dd).2 := ⟨_, rfl⟩
    rw [← hT', ← he0] at k hflat
    have gT : ∀ p ∈ catT G (lenL s.T) s.T T', gbd s.gl.length p.1 = true := by
      intro p hp
      rw [catT_eq, List.mem_append] at hp
      rcases hp with hp | hp
      · exact sat.gT p hp
      · simp only [List.mem_map] at hp
        obtain ⟨r, _, rfl⟩ := hp
        exact hG
    have hlen := sat_len sat
    intro Nx Q next
    cases hgv : gv s.gl G with
    | false =>
      rw [if_neg (by simp)]
      refine next _ h (β ++ List.replicate T'.length .no) _ _ k.2 (FH.le.refl h) (fun _ => Gro.refl w) ?_
      have ok : OK B h0 (eff s.gl (catT G (lenL s.T) s.T T')) h (β ++ List.replicate T'.length .no) w := by
        rw [catT_eq, eff_append, eff_new_false hgv]
        exact sat.ok.addGone _
      exact (sat.mem ok (FH.le.refl h) (Ext.append _ _) gT).put (dOK_lt hd) hG (fun hh => by simp only at hh; rw [hgv] at hh; cases hh) fun _ => rfl
    | true =>
      rw [if_pos rfl]
      obtain ⟨fn, hfn, hbody, hname⟩ := hf
      have hav := argsV_ok sat hg hgv hvs
      have hpre := side_ok k.1 hgv
      have exec : (execOp a.eval o).run P w = .ok (.enter f (c.args.map a.eval ++ lb)) w := by
        simp only [execOp, ho, resolve, hcal, hx hgv, Deferred.ofValue, invoke, Sem.run_bind, Sem.run_pure, Result.andThen_ok, callFunc, run_program, Array.empty_append, Array.append_empty, hfn, hname]
        simp [hbody]
        cases hb : fn.body with
        | none => rw [hb] at hbody; cases hbody
        | some _ => simp
      have hargs := hxs
      unfold Oper.wp
      rw [exec]
      simp only [Oper.upon]
      rw [hargs]
      obtain ⟨b1, b2⟩ := borA_ok sat hgv hbs hav
      have fin : ∀ {hb : FH} {h' : FH} {β' : List RV} {w' : World} {y : Value} {hn : FH}, OK (Base.of w) hb T' h' β' w' → h.le hn →
          (∀ (j : Nat) r v, T'[j]? = some r → Holds h' β' w' r v → Holds hn (β ++ β') w' (r.sh β.length) v) → (∀ b o v, hn b o = some v → vis w' b o = some v) →
          (∀ b o v, hn b o = some v → h b o = some v ∨ (w.heap.size ≤ b ∧ h' b o = some v)) → CnE hn (β ++ β') (e.sh β.length) y → Nx (a.put o.dst y) w' := by
        intro hb h' β' w' y hn ok' le conv hnw hng he
        have ok := sat.ok.call ok' le conv hnw hng
        refine next _ hn (β ++ β') _ _ k.2 le (fun _ => Gro.of_below (Bw.bel ok'.below)) ?_
        have okT : OK B h0 (eff s.gl (catT G (lenL s.T) s.T T')) hn (β ++ β') w' := by
          rw [catT_eq, eff_append, eff_new_true hgv, ← hlen]; exact ok
        rw [hlen] at he
        exact (sat.mem okT le (Ext.append _ _) gT).put (dOK_lt hd) hG (fun _ => he) fun hh => by simp only at hh; rw [hgv] at hh; cases hh
      have keep : ∀ {hb h' : FH} {β' : List RV} {w' : World}, OK (Base.of w) hb T' h' β' w' → ∀ b o v, h b o = some v → vis w' b o = some v := by
        intro hb h' β' w' ok' b o v hh
        have h1 := sat.ok.hw b o v hh
        exact (vis_of_block ((Bw.bel ok'.below).block b (vis_lt h1))).trans h1
      cases hnr : allL noRow vs with
      | true =>
        refine (hct cc hcc dd _ h (FH.le.refl h) sat.ok.hw hg (datA_ok hdd (b2 hnr)) hpre).mono ?_
        rintro en w' ⟨h', β', y, rfl, ok', he⟩
        rw [← hT'] at ok'
        rw [← he0] at he
        refine fin ok' ok'.hle (fun j r v _ hh => hh.shift) ok'.hw (fun b o v hh => ?_) he.shift
        rcases ok'.hg b o v hh with h1 | h1
        · exact .inl h1
        · exact .inr ⟨h1, hh⟩
      | false =>
        rw [hnr] at hflat
        simp only [orB, andB_eq, Bool.and_eq_true] at hflat
        refine (hct cc hcc dd _ (FH.all w) sat.ok.hw (fun _ _ _ hh => hh) (hg.mono sat.ok.hw) (datA_ok hdd b1) hpre).mono ?_
        rintro en w' ⟨h', β', y, rfl, ok', he⟩
        rw [← hT'] at ok'
        rw [← he0] at he
        refine fin ok' (FH.le.refl h) (fun j r v hj hh => (hh.flat ?_).shift) (keep ok') (fun b o v hh => .inl hh) (he.flat hflat.1).shift
        have : ∀ {l : List Res} {j : Nat} {r : Res}, allL resFlat l = true → l[j]? = some r → resFlat r = true := by
          intro l
          induction l with
          | nil => intro j r _ e; simp at e
          | cons x l ih =>
            intro j r hh e
            simp only [allL, andB_eq, Bool.and_eq_true] at hh
            cases j with
            | zero => simp at e; subst e; exact hh.1
            | succ j => exact ih hh.2 (by simpa using e)
        exact this hflat.2 hj
  · exact k.elim
theorem call_stepY {ct : Nat → Option CT} {suf : List Value} {f : FuncId} (hct : ∀ c, ct f = some c → ∀ (d : dens c.ps) (vs : List Value) (h' : FH), h.le h' → (∀ b o v, h' b o = some v → vis w b o = some v) → GlobOK cx.gd h' → All2 (CnV h' []) (ofDats c.ps d) vs → c.pre d → Calls P f (vs ++ suf).toArray w (fun en w' => ∃ h'' β y, en = .returned y ∧ OK (Base.of w) h' (c.res d).1 h'' β w' ∧ CnE h'' β (c.res d).2 y)) (sat : Sat N B h0 s h β w a) (hg : GlobOK cx.gd h) (hG : gbd s.gl.length G = true) (hd : dOK N o.dst = true) {c : Call} (ho : o.op = .call c)
    {x : Operand} {xs : List Operand} (hcal : c.callee = .value x) (hx : gv s.gl G = true → a.eval x = .func (.func f) #[] #[]) (hxs : c.args.map a.eval = (xs.map a.eval ++ suf).toArray)
    (hf : ∃ fn, P.funcs[f]? = some fn ∧ fn.body.isSome = true ∧ (fn.name == "runtime.NumGoroutine") = false)
    (k : callK cx ct s G o.dst f xs K) : OpOK P N B h0 h w a o (gv s.gl G) K :=
  call_stepZ hct sat hg hG hd ho hcal hx (by rw [Array.append_empty]; exact hxs) hf k
theorem call_stepX {ct : Nat → Option CT} {suf : List Value} (hct : ∀ f c, ct f = some c → CTX P cx.gd f suf c) (sat : Sat N B h0 s h β w a) (hg : GlobOK cx.gd h) (hG : gbd s.gl.length G = true) (hd : dOK N o.dst = true) {c : Call} {f : FuncId} (ho : o.op = .call c)
    {x : Operand} {xs : List Operand} (hcal : c.callee = .value x) (hx : gv s.gl G = true → a.eval x = .func (.func f) #[] #[]) (hxs : c.args.map a.eval = (xs.map a.eval ++ suf).toArray)
    (hf : ∃ fn, P.funcs[f]? = some fn ∧ fn.body.isSome = true ∧ (fn.name == "runtime.NumGoroutine") = false)
    (k : callK cx ct s G o.dst f xs K) : OpOK P N B h0 h w a o (gv s.gl G) K :=
  call_stepY (fun c e d vs h' _ hw hg' ha hp => hct f c e d vs h' w hw hg' ha hp) sat hg hG hd ho hcal hx hxs hf k
theorem call_step {ct : Nat → Option CT} (hct : ∀ f c, ct f = some c → CTOK P cx.gd f c) (sat : Sat N B h0 s h β w a) (hg : GlobOK cx.gd h) (hG : gbd s.gl.length G = true) (hd : dOK N o.dst = true) {c : Call} {f : FuncId} (ho : o.op = .call c) (hcal : c.callee = .value (.func f))
    (hf : ∃ fn, P.funcs[f]? = some fn ∧ fn.body.isSome = true ∧ (fn.name == "runtime.NumGoroutine") = false)
    (k : callK cx ct s G o.dst f (tl c.args) K) : OpOK P N B h0 h w a o (gv s.gl G) K :=
  call_stepX (suf := []) (fun f c e => (hct f c e).x) sat hg hG hd ho hcal (fun _ => rfl) (by cases c.args; simp) hf k
end
end Go.Eng
set_option linter.unusedSimpArgs false
set_option linter.unusedVariables false
namespace Go.Eng
open Go Go.RowKit
section
variable {P : Program} {ops : Array Oper} {md : Region.Mode} {sf : Nat → Bool}
@[reducible] def noQ : Exit → Act → World → Prop := fun _ _ _ => False
def wpO (P : Program) (ops : Array Oper) (i : Nat) (K : Act → World → Prop) (a : Act) (w : World) : Prop :=
  match ops[i]? with
  | none => K a w
  | some o => if Region.wanted o (yielded ops a.tmps) = true then o.wp P a w K noQ else K (a.put o.dst undef) w
theorem letsOut_no {Q : Exit → Act → World → Prop} (h : LetsOut noQ) : LetsOut Q := by
  unfold LetsOut at *
  obtain ⟨_, _, hh⟩ := h
  exact False.elim hh
theorem wpO_mono {i : Nat} {K K' : Act → World → Prop} {a : Act} {w : World} (h : ∀ a w, K a w → K' a w) (hh : wpO P ops i K a w) : wpO P ops i K' a w := by
  unfold wpO at *
  split
  · exact h _ _ (by simpa [*] using hh)
  · rename_i o ho
    simp only [ho] at hh
    split
    · rename_i hw; rw [if_pos hw] at hh; exact Oper.wp_mono h hh
    · rename_i hw; rw [if_neg hw] at hh; exact h _ _ hh
@[reducible] def sfe (ops : Array Oper) (i : Nat) : Bool := match ops[i]? with
  | some o => quietly o.op
  | none => true
def anyI (P : Program) (md : Region.Mode) (ops : Array Oper) (sf : Nat → Bool) (R : Act → World → Prop) : Nat → Array Bool → Act → World → Prop
  | 0, listed, a, w => Region.ready md ops listed = [] ∧ R a w
  | fuel + 1, listed, a, w => (Region.ready md ops listed = [] → R a w) ∧
    ∀ i ∈ Region.ready md ops listed, wpO P ops i (fun a' w' => (sf i = true → Gro w w') ∧ anyI P md ops sf R fuel (listed.setIfInBounds i true) a' w') a w
def YI (P : Program) (ops : Array Oper) (ld : Bool) (w0 : World) (o : Oper) (v : Value) (a : Act) : Prop :=
  (Region.wanted o (yielded ops a.tmps) = true ∧ ∀ w, (ld = true → Gro w0 w) → (execOp a.eval o).run P w = .ok (.value v) w) ∨
  (Region.wanted o (yielded ops a.tmps) = false ∧ v = undef)
theorem YI.of_same {ld : Bool} {w0 : World} {o : Oper} {v : Value} {a a' : Act} (hy : YI P ops ld w0 o v a) (he : execOp a'.eval o = execOp a.eval o)
    (hw : Region.wanted o (yielded ops a'.tmps) = Region.wanted o (yielded ops a.tmps)) : YI P ops ld w0 o v a' := by
  unfold YI at *
  rw [he, hw]
  exact hy
theorem YI.wpO {ld : Bool} {w0 : World} {i : Nat} {o : Oper} {v : Value} {a : Act} (hi : ops[i]? = some o) (hy : YI P ops ld w0 o v a) {K : Act → World → Prop} {w : World} (hg : ld = true → Gro w0 w)
    (h : K (a.put o.dst v) w) : wpO P ops i K a w := by
  unfold Go.Eng.wpO
  simp only [hi]
  rcases hy with ⟨hw, hv⟩ | ⟨hw, rfl⟩
  · rw [if_pos hw]; unfold Oper.wp; rw [hv w hg]; exact h
  · rw [if_neg (by rw [hw]; simp)]; exact h
theorem wpO_put {ld : Bool} {w0 : World} {j : Nat} {oi oj : Oper} {v : Value} (hj : ops[j]? = some oj) (hap : oi.apart ops oj = true)
    (hsi : ∀ cs b, oi.op ≠ .select cs b) (hsj : ∀ cs b, oj.op ≠ .select cs b) {K : Act → World → Prop} {a : Act} {w : World}
    (hy : YI P ops ld w0 oi v a) (h : wpO P ops j K (a.put oi.dst v) w) :
    wpO P ops j (fun a' w' => YI P ops ld w0 oi v a' ∧ K (a'.put oi.dst v) w') a w := by
  obtain ⟨h1, h2, h3⟩ := Oper.apart_spec hap
  have keep : ∀ (a : Act), YI P ops ld w0 oi v a → ∀ u, YI P ops ld w0 oi v (a.put oj.dst u) := fun a hy u =>
    hy.of_same (execOp_put oi hsi a oj.dst u h3) (wanted_put oi a oj.dst u h3)
  have keepD : ∀ d, YI P ops ld w0 oi v { a with defers := d :: a.defers } := fun d => hy.of_same rfl rfl
  unfold wpO at *
  simp only [hj] at *
  rw [wanted_put oj a oi.dst v h1] at h
  split
  · rename_i hw
    rw [if_pos hw] at h
    unfold Oper.wp at *
    rw [execOp_put oj hsj a oi.dst v h1] at h
    generalize (execOp a.eval oj).run P w = r at *
    cases r with
    | ok n w' =>
      cases n <;> simp only [Oper.upon] at h ⊢
      case value u => exact ⟨keep a hy u, by rw [← Act.put_comm a v u h2]; exact h⟩
      case skip => exact ⟨keep a hy _, by rw [← Act.put_comm a v undef h2]; exact h⟩
      case defer d =>
        refine ⟨(keep _ (keepD d) _), ?_⟩
        rw [← Act.put_comm _ v undef h2, ← Act.put_defers]
        exact h
      case enter f args =>
        refine h.mono fun e w'' he => ?_
        cases e with
        | returned u => exact ⟨keep a hy u, by rw [← Act.put_comm a v u h2]; exact he⟩
        | panicked c => exact he
        | outgrown => exact he
      case row r args =>
        refine Rows.mono h fun u w'' he => ?_
        exact ⟨keep a hy u, by rw [← Act.put_comm a v u h2]; exact he⟩
      all_goals exact h
    | halt x w' => cases x <;> simp only [Oper.upon] at h ⊢ <;> exact h
  · rename_i hw
    rw [if_neg hw] at h
    exact ⟨keep a hy _, by rw [← Act.put_comm a v undef h2]; exact h⟩
def Waits (md : Region.Mode) (ops : Array Oper) (listed : Array Bool) (i : Nat) (bl : List Nat) : Prop :=
  ∀ j ∈ bl, listed.getD j true = false ∧ ∃ o, ops[j]? = some o ∧ ∃ e ∈ o.after, Region.binds md e = true ∧ (e.on = i ∨ e.on ∈ bl)
theorem getD_dflt {listed : Array Bool} {i : Nat} (h : listed.getD i true = false) : listed.getD i false = false := by
  rcases Nat.lt_or_ge i listed.size with h' | h'
  · simp [h'] at h ⊢; exact h
  · simp [Array.getElem?_eq_none h'] at h
theorem not_ready {listed : Array Bool} {i j : Nat} {bl : List Nat} (hi : listed.getD i true = false) (hw : Waits md ops listed i bl) (hj : j ∈ bl) : j ∉ Region.ready md ops listed := by
  intro hr
  obtain ⟨_, oj, hoj, hall⟩ := mem_ready.1 hr
  obtain ⟨_, o, ho, e, he, hb, hh⟩ := hw j hj
  rw [hoj] at ho; cases ho
  have h1 := hall e he hb
  rcases hh with hh | hh
  · rw [hh, getD_dflt hi] at h1; cases h1
  · rw [getD_dflt (hw _ hh).1] at h1; cases h1
theorem anyI_first {R : Act → World → Prop} {ld : Bool} {w0 : World} {i : Nat} {oi : Oper} {v : Value} {bl : List Nat} (hi : ops[i]? = some oi) (hsel : ∀ (j : Nat) (o : Oper) cs b, ops[j]? = some o → o.op ≠ .select cs b)
    (hq : sf i = true) :
    ∀ (fuel : Nat) (listed : Array Bool) (a : Act) (w : World),
      (∀ j oj, ops[j]? = some oj → j ≠ i → listed.getD j true = false → (∀ e ∈ oj.after, Region.binds md e = true → e.on ≠ i) → oi.apart ops oj = true) →
      (ld = true → Waits md ops listed i bl ∧ ∀ j, j ≠ i → listed.getD j true = false → sf j = false → j ∈ bl) →
      i ∈ Region.ready md ops listed → YI P ops ld w0 oi v a → (ld = true → Gro w0 w) →
      anyI P md ops sf R fuel (listed.setIfInBounds i true) (a.put oi.dst v) w → anyI P md ops sf R (fuel + 1) listed a w := by
  intro fuel
  induction fuel with
  | zero =>
    intro listed a w _ _ hr hy hg H
    refine ⟨fun h => (by rw [h] at hr; cases hr), fun j hj => ?_⟩
    by_cases hji : j = i
    · subst hji; exact hy.wpO hi hg ⟨fun _ => Gro.refl w, H⟩
    · have := ready_mono hj hji
      rw [H.1] at this
      cases this
  | succ fuel ih =>
    intro listed a w hfree hbl hr hy hg H
    refine ⟨fun h => (by rw [h] at hr; cases hr), fun j hj => ?_⟩
    by_cases hji : j = i
    · subst hji; exact hy.wpO hi hg ⟨fun _ => Gro.refl w, H⟩
    · have h1 := H.2 j (ready_mono hj hji)
      obtain ⟨hjun, oj, hoj, hall⟩ := mem_ready.1 hj
      have hiun := (mem_ready.1 hr).1
      have hnot : ∀ e ∈ oj.after, Region.binds md e = true → e.on ≠ i := fun e he hb heq => by
        have h1 := hall e he hb
        rw [heq, getD_dflt hiun] at h1; cases h1
      have h2 := wpO_put hoj (hfree j oj hoj hji hjun hnot) (fun cs b => hsel i oi cs b hi) (fun cs b => hsel j oj cs b hoj) hy h1
      have hfree' : ∀ k ok, ops[k]? = some ok → k ≠ i → (listed.setIfInBounds j true).getD k true = false →
          (∀ e ∈ ok.after, Region.binds md e = true → e.on ≠ i) → oi.apart ops ok = true := fun k ok hk hki hun hno => by
        refine hfree k ok hk hki ?_ hno
        by_cases hjk : j = k
        · subst hjk; exact hjun
        · rw [getD_set_ne true hjk] at hun; exact hun
      have hjbl : ld = true → j ∉ bl := fun e hm => not_ready hiun (hbl e).1 hm hj
      have hsj : ld = true → sf j = true := fun e => by
        cases hs : sf j with
        | true => rfl
        | false => exact absurd ((hbl e).2 j hji hjun hs) (hjbl e)
      have hbl' : ld = true → Waits md ops (listed.setIfInBounds j true) i bl ∧ ∀ k, k ≠ i → (listed.setIfInBounds j true).getD k true = false → sf k = false → k ∈ bl := fun e => by
        refine ⟨fun k hk => ?_, fun k hki hun hs => ?_⟩
        · obtain ⟨g1, g2⟩ := (hbl e).1 k hk
          refine ⟨?_, g2⟩
          rw [getD_set_ne true (fun hh => hjbl e (by rw [hh]; exact hk))]; exact g1
        · refine (hbl e).2 k hki ?_ hs
          by_cases hjk : j = k
          · subst hjk; exact hjun
          · rw [getD_set_ne true hjk] at hun; exact hun
      refine wpO_mono (fun a' w' h3 => ⟨h3.2.1, ih (listed.setIfInBounds j true) a' w' hfree' hbl' (ready_mono hr (Ne.symm hji)) h3.1 (fun e => (hg e).trans (h3.2.1 (hsj e))) ?_⟩) h2
      rw [Array.setIfInBounds_comm _ _ hji]
      exact h3.2.2
end
end Go.Eng
set_option linter.unusedSimpArgs false
set_option linter.unusedVariables false
namespace Go.Eng
open Go Go.RowKit
@[reducible] def swN (i k n : Nat) : Nat := match Nat.beq n i with
  | true => k
  | false => match Nat.beq n k with
    | true => i
    | false => n
theorem beq_ne {n i : Nat} (h : ¬ n = i) : Nat.beq n i = false := by
  cases hb : Nat.beq n i with
  | true => exact absurd (Nat.eq_of_beq_eq_true hb) h
  | false => rfl
theorem swN_eq (i k n : Nat) : swN i k n = if n = i then k else if n = k then i else n := by
  unfold swN
  by_cases h : n = i
  · subst h; simp
  · rw [if_neg h, beq_ne h]
    by_cases h2 : n = k
    · subst h2; simp
    · rw [if_neg h2, beq_ne h2]
theorem swN_swN (i k n : Nat) : swN i k (swN i k n) = n := by
  simp only [swN_eq]; split <;> split <;> simp_all <;> omega
@[reducible] def SC.sw (i k : Nat) : SC → SC
  | .own a o => .own (swN i k a) o
  | .row a => .row (swN i k a)
  | .rowp a j sz o => .rowp (swN i k a) j sz o
  | .sub a j => .sub (swN i k a) j
  | .subp a j m sz o => .subp (swN i k a) j m sz o
  | x => x
@[reducible] def SV.sw (i k : Nat) : SV → SV
  | .c x => .c (x.sw i k)
  | .agg xs => .agg (mapL (SC.sw i k) xs)
  | v => v
@[reducible] def Ent.sw (i k : Nat) : Ent → Ent
  | .one x => .one (x.sw i k)
  | .tup xs => .tup (mapL (SV.sw i k) xs)
@[reducible] def Res.sw (i k : Nat) : Res → Res
  | .blk t cs => .blk t (mapL (SC.sw i k) cs)
  | r => r
def Swapped (i k : Nat) (β β' : List RV) : Prop := ∀ j, β'[swN i k j]? = β[j]?
theorem CnC.sw {h : FH} {β β' : List RV} {i k : Nat} (sb : Swapped i k β β') : ∀ {x : SC} {y : Value}, CnC h β x y → CnC h β' (x.sw i k) y
  | .v _, _, e => e
  | .sl _ _, _, e => e
  | .fp _ _, _, e => e
  | .one _ _, _, e => e
  | .own a o, _, ⟨b, e, e'⟩ => ⟨b, by rw [sb]; exact e, e'⟩
  | .row a, y, ⟨v, e, e'⟩ => ⟨v, by rw [sb]; exact e, e'⟩
  | .sub _ _, _, ⟨v, us, e, e'⟩ => ⟨v, us, by rw [sb]; exact e, e'⟩
  | .subp _ _ _ _ _, _, ⟨v, us, g, e, e'⟩ => ⟨v, us, g, by rw [sb]; exact e, e'⟩
  | .rowp _ _ _ _, _, ⟨v, g, e, e'⟩ => ⟨v, g, by rw [sb]; exact e, e'⟩
  | .abs _, _, e => e
  | .junk, _, _ => trivial
theorem all2_mapL {α β : Type} {R R' : α → β → Prop} {f : α → α} (hR : ∀ a b, R a b → R' (f a) b) : ∀ {l : List α} {m : List β}, All2 R l m → All2 R' (mapL f l) m
  | [], [], _ => trivial
  | _ :: _, _ :: _, ⟨a, b⟩ => ⟨hR _ _ a, all2_mapL hR b⟩
theorem CnV.sw {h : FH} {β β' : List RV} {i k : Nat} (sb : Swapped i k β β') : ∀ {x : SV} {y : Value}, CnV h β x y → CnV h β' (x.sw i k) y
  | .c _, _, ⟨e, o⟩ => ⟨e.sw sb, o⟩
  | .agg _, _, ⟨ys, e, a⟩ => ⟨ys, e, all2_mapL (fun _ _ ⟨p, q⟩ => ⟨p.sw sb, q⟩) a⟩
  | .dat _ _, _, e => e
  | .und, _, e => e
theorem CnE.sw {h : FH} {β β' : List RV} {i k : Nat} (sb : Swapped i k β β') : ∀ {x : Ent} {y : Value}, CnE h β x y → CnE h β' (x.sw i k) y
  | .one _, _, e => CnV.sw sb e
  | .tup _, _, ⟨ys, e, a⟩ => ⟨ys, e, all2_mapL (fun _ _ p => CnV.sw sb p) a⟩
theorem Holds.sw {h : FH} {β β' : List RV} {w : World} {i k : Nat} (sb : Swapped i k β β') : ∀ {r : Res} {v : RV}, Holds h β w r v → Holds h β' w (r.sw i k) v
  | .blk _ _, .blk _, ⟨ys, e, a⟩ => ⟨ys, e, all2_mapL (fun _ _ ⟨p, q⟩ => ⟨p.sw sb, q⟩) a⟩
  | .row _ _ _, .row _, e => e
  | .obj _ _ _, .blk _, e => e
  | .deep _ _ _ _ _ _ _ _, .deep _ _, e => e
  | .mp _ _ _, .row _, e => e
  | .mpo _ _ _ _, .deep _ _, e => e
  | .it _ _ _ _, .blk _, e => e
  | .tlr _ _ _ _, .row _, e => e
  | .gone, _, _ => trivial
theorem Res.sw_live {i k : Nat} (r : Res) : (r.sw i k).live = r.live := by cases r <;> rfl
theorem OK.sw {B : Base} {h0 : FH} {T T' : List Res} {h : FH} {β β' : List RV} {w : World} {i k : Nat} (ok : OK B h0 T h β w) (sb : Swapped i k β β') (hl : β'.length = T'.length)
    (sT : ∀ j, T'[swN i k j]? = (T[j]?).map (Res.sw i k)) : OK B h0 T' h β' w := by
  have gT : ∀ {j : Nat} {r : Res}, T'[j]? = some r → ∃ r0, T[swN i k j]? = some r0 ∧ r = r0.sw i k := by
    intro j r e
    have := sT (swN i k j)
    rw [swN_swN, e] at this
    cases hT : T[swN i k j]? with
    | none => rw [hT] at this; cases this
    | some r0 => rw [hT] at this; exact ⟨r0, rfl, by simpa using this⟩
  have gB : ∀ {j : Nat} {v : RV}, β'[j]? = some v → β[swN i k j]? = some v := by
    intro j v e
    have := sb (swN i k j)
    rw [swN_swN, e] at this
    exact this.symm
  refine ⟨ok.below, ok.dr, hl, fun j r v e1 e2 => ?_, fun j r v b e1 l1 e2 e3 => ?_, fun j j' r r' u v b e1 l1 e2 l2 e3 e4 e5 e6 => ?_, ok.hle, ok.hw, ok.hg, ok.kn⟩
  · obtain ⟨r0, f1, rfl⟩ := gT e1
    exact (ok.holds _ _ _ f1 (gB e2)).sw sb
  · obtain ⟨r0, f1, rfl⟩ := gT e1
    exact ok.own _ _ _ _ f1 (by rw [← Res.sw_live]; exact l1) (gB e2) e3
  · obtain ⟨r0, f1, rfl⟩ := gT e1
    obtain ⟨r1, f2, rfl⟩ := gT e2
    have := ok.inj _ _ _ _ _ _ _ f1 (by rw [← Res.sw_live]; exact l1) f2 (by rw [← Res.sw_live]; exact l2) (gB e3) (gB e4) e5 e6
    have h2 := congrArg (swN i k) this
    rwa [swN_swN, swN_swN] at h2
@[reducible] def swE (i k : Nat) : List (Nat × Gd × Ent) → List (Nat × Gd × Ent)
  | [] => []
  | (t, g, e) :: l => (t, g, e.sw i k) :: swE i k l
@[reducible] def swT (i k : Nat) (T : List (Gd × Res)) : List (Gd × Res) := match nthL T i with
  | some a => match nthL T k with
    | some b => mapL (fun p => (p.1, p.2.sw i k)) (setL (setL T i b) k a)
    | none => T
  | none => T
@[reducible] def swS (i k : Nat) (s : St) : St := { s with T := swT i k s.T, env := swE i k s.env }
theorem lkE_sw {i k : Nat} : ∀ {l : List (Nat × Gd × Ent)} {t : Nat}, lkE (swE i k l) t = (lkE l t).map fun p => (p.1, p.2.sw i k)
  | [], _ => rfl
  | (u, g, e) :: l, t => by
    rw [show swE i k ((u, g, e) :: l) = (u, g, e.sw i k) :: swE i k l from rfl, lkE_cons, lkE_cons]
    split
    · rfl
    · exact lkE_sw
theorem mapL_map {α β : Type} (f : α → β) : ∀ l : List α, mapL f l = l.map f
  | [] => rfl
  | _ :: l => by simp [mapL, mapL_map f l]
theorem swT_get {i k : Nat} {T : List (Gd × Res)} (hi : i < T.length) (hk : k < T.length) (j : Nat) : (swT i k T)[swN i k j]? = (T[j]?).map fun p => (p.1, p.2.sw i k) := by
  unfold swT
  rw [nthL_eq, List.getElem?_eq_getElem hi]
  simp only
  rw [nthL_eq, List.getElem?_eq_getElem hk]
  simp only
  rw [mapL_map, List.getElem?_map, setL_eq, setL_eq]
  congr 1
  rw [swN_eq]
  by_cases h1 : j = i
  · subst h1; rw [if_pos rfl, List.getElem?_set_self (by simpa using hk), List.getElem?_eq_getElem hi]
  · rw [if_neg h1]
    by_cases h2 : j = k
    · subst h2
      rw [if_pos rfl, List.getElem?_set_ne (by omega), List.getElem?_set_self hi, List.getElem?_eq_getElem hk]
    · rw [if_neg h2, List.getElem?_set_ne (by omega), List.getElem?_set_ne (by omega)]
theorem swT_len {i k : Nat} {T : List (Gd × Res)} : (swT i k T).length = T.length := by
  unfold swT
  split
  · split
    · rw [mapL_map, setL_eq, setL_eq]; simp
    · rfl
  · rfl
theorem swapped_ex {β : List RV} {i k : Nat} (hi : i < β.length) (hk : k < β.length) : ∃ β', β'.length = β.length ∧ Swapped i k β β' := by
  refine ⟨(β.set i β[k]).set k β[i], by simp, fun j => ?_⟩
  rw [swN_eq]
  by_cases h1 : j = i
  · subst h1; rw [if_pos rfl, List.getElem?_set_self (by simpa using hk), List.getElem?_eq_getElem hi]
  · rw [if_neg h1]
    by_cases h2 : j = k
    · subst h2
      rw [if_pos rfl, List.getElem?_set_ne (by omega), List.getElem?_set_self hi, List.getElem?_eq_getElem hk]
    · rw [if_neg h2, List.getElem?_set_ne (by omega), List.getElem?_set_ne (by omega)]
theorem Sat.sw {N : Nat} {B : Base} {h0 : FH} {s : St} {h : FH} {β : List RV} {w : World} {a : Act} (sat : Sat N B h0 s h β w a) {i k : Nat} (hi : i < s.T.length) (hk : k < s.T.length) :
    ∃ β', Sat N B h0 (swS i k s) h β' w a := by
  have hlen : β.length = s.T.length := by rw [sat.ok.len, eff_len]
  obtain ⟨β', hl, sb⟩ := swapped_ex (β := β) (i := i) (k := k) (by omega) (by omega)
  refine ⟨β', ?_, ?_, ?_, sat.defers, sat.sz, ?_, ?_⟩
  · refine sat.ok.sw sb (by rw [hl, eff_len, swT_len, hlen]) fun j => ?_
    rw [eff_get, eff_get, swT_get hi hk]
    cases s.T[j]? with
    | none => rfl
    | some p =>
      simp only [Option.map_some]
      cases gv s.gl p.1 <;> rfl
  · intro t G e ht
    rw [show (swS i k s).env = swE i k s.env from rfl, lkE_sw] at ht
    cases hl : lkE s.env t with
    | none => rw [hl] at ht; cases ht
    | some p =>
      rw [hl] at ht
      cases ht
      obtain ⟨z, q1, q2, q3⟩ := sat.env t p.1 p.2 hl
      exact ⟨z, q1, fun hh => (q2 hh).sw sb, q3⟩
  · intro d j hd
    obtain ⟨G, b, q1, q2⟩ := sat.gs d j hd
    exact ⟨G, b, by rw [show (swS i k s).env = swE i k s.env from rfl, lkE_sw, q1]; rfl, q2⟩
  · intro t G e ht
    rw [show (swS i k s).env = swE i k s.env from rfl, lkE_sw] at ht
    cases hl : lkE s.env t with
    | none => rw [hl] at ht; cases ht
    | some p =>
      rw [hl] at ht
      cases ht
      exact sat.gb t p.1 p.2 hl
  · intro p hp
    obtain ⟨j, hj⟩ := List.getElem?_of_mem hp
    have h1 := swT_get hi hk (swN i k j)
    rw [swN_swN] at h1
    rw [show (swS i k s).T = swT i k s.T from rfl, h1] at hj
    cases hT : s.T[swN i k j]? with
    | none => rw [hT] at hj; cases hj
    | some q =>
      rw [hT] at hj
      cases hj
      exact sat.gT q (List.mem_of_getElem? hT)
@[reducible] def swAll : List (Nat × Nat) → St → St
  | [], s => s
  | (i, k) :: l, s => match andB (Nat.ble (i + 1) (lenL s.T)) (Nat.ble (k + 1) (lenL s.T)) with
    | true => swAll l (swS i k s)
    | false => s
theorem Sat.swAll {N : Nat} {B : Base} {h0 : FH} {h : FH} {w : World} {a : Act} : ∀ (l : List (Nat × Nat)) {s : St} {β : List RV}, Sat N B h0 s h β w a → ∃ β', Sat N B h0 (swAll l s) h β' w a
  | [], s, β, sat => ⟨β, sat⟩
  | (i, k) :: l, s, β, sat => by
    unfold Go.Eng.swAll
    split
    · rename_i hc
      rw [andB_eq, Bool.and_eq_true, lenL_eq] at hc
      have h1 := Nat.le_of_ble_eq_true hc.1
      have h2 := Nat.le_of_ble_eq_true hc.2
      obtain ⟨β', sat'⟩ := sat.sw (i := i) (k := k) (by omega) (by omega)
      exact Sat.swAll l sat'
    · exact ⟨β, sat⟩
inductive Loc where
  | slot (t : Nat)
  | cell (i c : Nat)
@[reducible] def refOf : SC → Option Nat
  | .own i _ => some i
  | .row i => some i
  | _ => none
@[reducible] def locR (s : St) : Loc → Option Nat
  | .slot t => match lkE s.env t with
    | some ([], .one (.c x)) => refOf x
    | _ => none
  | .cell i c => match nthL s.T i with
    | some ([], .blk _ cs) => match nthL cs c with
      | some x => refOf x
      | none => none
    | _ => none
@[reducible] def canS : List (Nat × Loc) → St → St
  | [], s => s
  | (k, loc) :: l, s => match locR s loc with
    | none => canS l s
    | some i => match andB (Nat.ble (i + 1) (lenL s.T)) (Nat.ble (k + 1) (lenL s.T)) with
      | true => canS l (swS i k s)
      | false => s
theorem Sat.canS {N : Nat} {B : Base} {h0 : FH} {h : FH} {w : World} {a : Act} : ∀ (l : List (Nat × Loc)) {s : St} {β : List RV}, Sat N B h0 s h β w a → ∃ β', Sat N B h0 (canS l s) h β' w a
  | [], s, β, sat => ⟨β, sat⟩
  | (k, loc) :: l, s, β, sat => by
    unfold Go.Eng.canS
    split
    · exact Sat.canS l sat
    · rename_i i _
      split
      · rename_i hc
        rw [andB_eq, Bool.and_eq_true, lenL_eq] at hc
        have h1 := Nat.le_of_ble_eq_true hc.1
        have h2 := Nat.le_of_ble_eq_true hc.2
        obtain ⟨β', sat'⟩ := sat.sw (i := i) (k := k) (by omega) (by omega)
        exact Sat.canS l sat'
      · exact ⟨β, sat⟩
end Go.Eng
set_option linter.unusedSimpArgs false
set_option linter.unusedVariables false
namespace Go.Eng
open Go Go.RowKit
structure IP where
  sh : Sh
  ps : List Sh
  pre : List sh.den → dens ps → Prop
  res : List sh.den → dens ps → List sh.den
  back : Bool
def IPOK (P : Program) (gd : Nat → Option (Sigma Sh.den)) (f : FuncId) (ip : IP) : Prop :=
  ∀ (t : TypeId) (l : List ip.sh.den) (d : dens ip.ps) (v : Value) (vs : List Value) (h : FH) (w : World), (∀ b o u, h b o = some u → vis w b o = some u) → GlobOK gd h →
    Holds h [] w (.row t ip.sh l) (.row v) → (∀ b, rowBlk v = some b → ∀ o, h b o = none) → All2 (CnV h []) (ofDats ip.ps d) vs → ip.pre l d →
    Calls P f (v :: vs).toArray w (fun en w' => ∃ v' y, en = .returned y ∧ Gb w w' (rowBlk v) ∧ (∀ b, rowBlk v' = some b → rowBlk v = some b ∨ (w.heap.size ≤ b ∧ b < w'.heap.size)) ∧
      Holds h [] w' (.row t ip.sh (ip.res l d)) (.row v') ∧ (ip.back = true → y = v') ∧ (ip.back = false → y = .tuple #[] ∧ v' = v))
@[reducible] def ipK (cx : Cx) (ip : IP) (s : St) (d : Option Nat) (args : List Operand) (K : St → Prop) : Prop := match args with
  | [] => False
  | x :: r => match getE cx s [] x with
    | some (.one (.c (.row i))) => match nthL s.T i with
      | some ([], .row t sh l) => match castD (.sl sh) l (.sl ip.sh) with
        | none => False
        | some l => match argsV cx s [] r with
          | none => False
          | some vs => match allL noRow vs with
            | false => False
            | true => match borA s [] vs with
              | none => False
              | some bs => match datA ip.ps bs with
                | none => False
                | some dd => ip.pre l dd ∧ (match ip.back with
                  | false => K ({ s with T := setL s.T i ([], .row t ip.sh (ip.res l dd)) }.put d [] (.tup []))
                  | true => K ({ s with T := setL (jkT i s.T) i ([], .row t ip.sh (ip.res l dd)), env := jkEnv i s.env }.put d [] (.one (.c (.row i)))))
      | _ => False
    | _ => False
def OpW (P : Program) (N : Nat) (B : Base) (h0 : FH) (h : FH) (w : World) (a : Act) (o : Oper) (wanted : Bool) (K : St → Prop) : Prop :=
  ∀ (Nx : Act → World → Prop) (Q : Exit → Act → World → Prop),
    (∀ s' h' β' w' v, K s' → h.le h' → Sat N B h0 s' h' β' w' (a.put o.dst v) → Nx (a.put o.dst v) w') →
    if wanted = true then o.wp P a w Nx Q else Nx (a.put o.dst undef) w
theorem OpOK.weak {P : Program} {N : Nat} {B : Base} {h0 h : FH} {w : World} {a : Act} {o : Oper} {b : Bool} {K : St → Prop} (k : OpOK P N B h0 h w a o b K) : OpW P N B h0 h w a o b K :=
  fun Nx Q next => k Nx Q fun s' h' β' w' v k' le _ sat => next s' h' β' w' v k' le sat
section
variable {cx : Cx} {P : Program} {N : Nat} {B : Base} {h0 : FH} {s : St} {h : FH} {β : List RV} {w : World} {a : Act} {o : Oper} {K : St → Prop}
theorem jk_sat (sat : Sat N B h0 s h β w a) {r : Nat} {x x' : Res} {u v : RV} {w' : World} (hT : nthL s.T r = some ([], x)) (hl : x.live = true) (hu : β[r]? = some u)
    (hg : Gb w w' u.block) (hv : ∀ b, v.block = some b → u.block = some b ∨ (w.heap.size ≤ b ∧ b < w'.heap.size)) (hvs : ∀ b, ¬ v.sub b := by exact fun _ h => h) (hold : Holds h (β.set r v) w' x' v) :
    Sat N B h0 { s with T := setL (jkT r s.T) r ([], x'), env := jkEnv r s.env } h (β.set r v) w' a := by
  have tr : gv s.gl [] = true := rfl
  have hT' := effres hT tr
  have okj := sat.ok.jk r
  have hTj : ((eff s.gl s.T).map (jkR r))[r]? = some (jkR r x) := by rw [List.getElem?_map, hT']; rfl
  have ok : OK B h0 (eff s.gl (setL (jkT r s.T) r ([], x'))) h (β.set r v) w' := by
    rw [eff_set, eff_jk]
    refine okj.upd hTj (by rw [jkR_live]; exact hl) hu hg (fun k e => .inl e) (fun b hb => hb.elim (fun q => (hv b q).imp .inl id) fun q => (hvs b q).elim) (.inr fun j rj _ ej => ?_) hold
    rw [List.getElem?_map] at ej
    cases hj : (eff s.gl s.T)[j]? with
    | none => rw [hj] at ej; cases ej
    | some q => rw [hj] at ej; cases ej; exact jkR_free r q
  refine ⟨ok, ?_, ?_, sat.defers, sat.sz, ?_, ?_⟩
  · intro t G e ht
    obtain ⟨e0, h1, rfl⟩ := lkE_jk r ht
    obtain ⟨z, q1, q2, q3⟩ := sat.env t G e0 h1
    exact ⟨z, q1, fun hG => (q2 hG).jk v, q3⟩
  · intro d i hi
    obtain ⟨G, b, q1, q2⟩ := sat.gs d i hi
    exact ⟨G, b, lkE_jk' r q1, q2⟩
  · intro t G e ht
    obtain ⟨e0, h1, rfl⟩ := lkE_jk r ht
    exact sat.gb t G e0 h1
  · intro p hp
    simp only at hp
    rw [setL_eq] at hp
    rcases List.mem_or_eq_of_mem_set hp with hp | hp
    · have : ∀ {l : List (Gd × Res)}, p ∈ jkT r l → ∃ q ∈ l, q.1 = p.1 := by
        intro l
        induction l with
        | nil => intro hh; simp [jkT] at hh
        | cons q l ih =>
          obtain ⟨g, q⟩ := q
          intro hh
          simp only [jkT, List.mem_cons] at hh
          rcases hh with rfl | hh
          · exact ⟨(g, q), by simp, rfl⟩
          · obtain ⟨q', h1, h2⟩ := ih hh; exact ⟨q', by simp [h1], h2⟩
      obtain ⟨q, h1, h2⟩ := this hp
      rw [← h2]; exact sat.gT q h1
    · subst hp; rfl
theorem Holds.anyβ {h : FH} {β β' : List RV} {w : World} {t : TypeId} {s : Sh} {l : List s.den} {v : RV} (x : Holds h β w (.row t s l) v) : Holds h β' w (.row t s l) v := by
  cases v <;> exact x
theorem ip_step {f : FuncId} {ip : IP} (hip : IPOK P cx.gd f ip) (hf : ∃ fn, P.funcs[f]? = some fn ∧ fn.body.isSome = true ∧ (fn.name == "runtime.NumGoroutine") = false)
    (sat : Sat N B h0 s h β w a) (hg : GlobOK cx.gd h) (hd : dOK N o.dst = true) {c : Call} (ho : o.op = .call c) (hcal : c.callee = .value (.func f))
    (k : ipK cx ip s o.dst (tl c.args) K) : OpW P N B h0 h w a o true K := by
  have tr : gv s.gl [] = true := rfl
  unfold ipK at k
  split at k
  · exact k.elim
  rename_i x r hargs0
  split at k
  · rename_i i hx
    split at k
    · rename_i t sh l0 hT
      split at k
      · exact k.elim
      rename_i l hl
      split at k
      · exact k.elim
      rename_i vs hvs
      split at k
      · exact k.elim
      rename_i hnr
      split at k
      · exact k.elim
      rename_i bs hbs
      split at k
      · exact k.elim
      rename_i dd hdd
      obtain ⟨hpre, k⟩ := k
      obtain ⟨e1, e2⟩ := castSl hl
      subst e1; simp only at e2; subst e2
      have cr : CnV h β (.c (.row i)) (a.eval x) := getE_ok sat hg tr hx
      have hu : β[i]? = some (.row (a.eval x)) := sat.ok.row_of (effres hT tr) cr.1
      have hold := sat.ok.holds i _ _ (effres hT tr) hu
      have hav := argsV_ok sat hg tr hvs
      obtain ⟨_, b2⟩ := borA_ok sat tr hbs hav
      intro Nx Q next
      rw [if_pos rfl]
      obtain ⟨fn, hfn, hbody, hname⟩ := hf
      have exec : (execOp a.eval o).run P w = .ok (.enter f (c.args.map a.eval)) w := by
        simp only [execOp, ho, resolve, hcal, Act.eval, Deferred.ofValue, invoke, Sem.run_bind, Sem.run_pure, Result.andThen_ok, callFunc, run_program, hfn, hname]
        simp [hbody]
        cases hb : fn.body with
        | none => rw [hb] at hbody; cases hbody
        | some _ => simp
      have hargs : (c.args.map a.eval) = (a.eval x :: r.map a.eval).toArray := by
        have : c.args = (x :: r).toArray := by
          cases hc : c.args with
          | mk q => rw [hc] at hargs0; simp only [tl] at hargs0; rw [hargs0]
        rw [this]; simp
      unfold Oper.wp
      rw [exec]
      simp only [Oper.upon]
      rw [hargs]
      refine (hip t l0 dd (a.eval x) _ h w sat.ok.hw hg hold.anyβ (fun b hb => (sat.ok.own i _ _ b (effres hT tr) rfl hu (has_row.2 hb)).2.2) (datA_ok hdd (b2 hnr)) hpre).mono ?_
      rintro en w' ⟨v', y, rfl, hgr, hv, hold', hb1, hb2⟩
      have hi : i < β.length := (List.getElem?_eq_some_iff.1 hu).1
      cases hb : ip.back with
      | false =>
        rw [hb] at k
        obtain ⟨rfl, rfl⟩ := hb2 hb
        have hT' := effres hT tr
        have ok : OK B h0 (eff s.gl (setL s.T i ([], .row t ip.sh (ip.res l0 dd)))) h β w' := by
          rw [effset]
          have := sat.ok.upd (r' := .row t ip.sh (ip.res l0 dd)) (v := .row (a.eval x)) hT' rfl hu hgr (fun k e => has_row.2 e) (fun b hb => .inl hb) (.inl rfl) hold'.anyβ
          rwa [set_same hu] at this
        exact next _ _ _ _ _ k (FH.le.refl h) ((sat.mem ok (FH.le.refl h) (Ext.refl β) (gT_set sat)).put (dOK_lt hd) rfl (fun _ => ⟨[], rfl, trivial⟩) fun hh => by cases hh)
      | true =>
        rw [hb] at k
        obtain rfl := hb1 hb
        refine next _ _ _ _ _ k (FH.le.refl h) ((jk_sat sat hT rfl hu hgr hv (x' := .row t ip.sh (ip.res l0 dd)) (v := .row y) (hold := hold'.anyβ)).put (dOK_lt hd) rfl (fun _ => ?_) fun hh => by cases hh)
        refine ⟨?_, ?_⟩
        · refine ⟨.row y, ?_, rfl⟩
          rw [List.getElem?_set_self hi]
        · rcases hold' with ⟨rfl, _⟩ | ⟨_, rfl, _⟩ | ⟨g, cap, cur, rfl, _⟩ <;> exact ⟨rfl, rfl⟩
    · exact k.elim
  · exact k.elim
end
end Go.Eng
set_option linter.unusedSimpArgs false
set_option linter.unusedVariables false
namespace Go.Eng
open Go Go.RowKit
def isZI : Int → Bool
  | .ofNat 0 => true
  | _ => false
theorem isZI_eq {n : Int} (h : isZI n = true) : n = 0 := by
  unfold isZI at h
  split at h
  · rfl
  · cases h
@[reducible] def isZ0 : Operand → Bool
  | .const v => match v with
    | .int _ n => isZI n
    | _ => false
  | _ => false
theorem isZ0_eq {x : Operand} (h : isZ0 x = true) : ∃ k, x = .const (.int k 0) := by
  unfold isZ0 at h
  split at h
  · split at h
    · rename_i k n; rw [isZI_eq h]; exact ⟨k, rfl⟩
    · cases h
  · cases h
@[reducible] def isZO : Option Operand → Bool
  | none => true
  | some x => isZ0 x
@[reducible] def isZS : Option Operand → Bool
  | none => false
  | some x => isZ0 x
@[reducible] def isSlC : SC → Bool
  | .sl _ _ => true
  | .v v => match v with
    | .slice none 0 0 => true
    | _ => false
  | _ => false
@[reducible] def empK (cx : Cx) (s : St) (d : Option Nat) (t : TypeId) (x : Operand) (lo hi : Option Operand) (K : St → Prop) : Prop := match descOf cx t with
  | .slice el => match lkT cx.ti el with
    | none => False
    | some ie => match ie.shp with
      | none => False
      | some sh => match getE cx s [] x with
        | some (.one (.c y)) => match andB (isSlC y) (andB (isZO lo) (isZS hi)) with
          | true => K ({ s with T := snoc s.T ([], .row el sh []) }.put d [] (.one (.c (.row (lenL s.T)))))
          | false => False
        | _ => False
  | _ => False
@[reducible] def truncK (cx : Cx) (s : St) (d : Option Nat) (t : TypeId) (i : Nat) (lo hi : Option Operand) (K : St → Prop) : Prop := match descOf cx t with
  | .slice el => match lkT cx.ti el with
    | none => False
    | some _ => match isZO lo with
      | false => False
      | true => match hi with
        | none => False
        | some h => match getE cx s [] h with
          | some (.one (.c (.v (.int _ n)))) => match nthL s.T i with
            | some ([], .row el' sh l) => (0 ≤ n ∧ n ≤ l.length) ∧ K ({ s with T := setL (jkT i s.T) i ([], .row el' sh (l.take n.toNat)), env := jkEnv i s.env }.put d [] (.one (.c (.row i))))
            | _ => False
          | _ => False
  | _ => False
@[reducible] def nilK (cx : Cx) (s : St) (d : Option Nat) (t : TypeId) (lo hi : Option Operand) (K : St → Prop) : Prop := match descOf cx t with
  | .slice el => match lkT cx.ti el with
    | none => False
    | some _ => match bndE cx s [] lo 0 with
      | none => False
      | some a => match bndE cx s [] hi 0 with
        | none => False
        | some b => (0 ≤ a ∧ a ≤ b ∧ b ≤ 0) ∧ K (s.put d [] (.one (.c (.v (.slice none 0 0)))))
  | _ => False
def maxI (a b : Int) : Int := if b > a then b else a
@[reducible] def maxK (cx : Cx) (s : St) (d : Option Nat) (x y : Operand) (K : St → Prop) : Prop := match getE cx s [] x with
  | some (.one (.c (.v (.int .i64 a)))) => match getE cx s [] y with
    | some (.one (.c (.v (.int .i64 b)))) => K (s.put d [] (vI .i64 (maxI a b)))
    | _ => False
  | _ => False
@[reducible] def capK (cx : Cx) (s : St) (d : Option Nat) (t : TypeId) (x : Operand) (K : St → Prop) : Prop := match descOf cx t with
  | .slice _ => match getE cx s [] x with
    | some (.one (.c (.v (.slice none 0 0)))) => K (s.put d [] (vI .i64 0))
    | _ => False
  | _ => False
@[reducible] def fulK (cx : Cx) (s : St) (d : Option Nat) (t : TypeId) (x : Operand) (lo hi : Option Operand) (m : Operand) (K : St → Prop) : Prop := match descOf cx t with
  | .slice el => match lkT cx.ti el with
    | none => False
    | some ie => match isZO lo with
      | false => False
      | true => match hi with
        | none => False
        | some h => match getE cx s [] h with
          | some (.one (.c (.v (.int _ n)))) => match getE cx s [] m with
            | some (.one (.c (.v (.int _ n')))) => match getE cx s [] x with
              | some (.one (.c (.sl sh l))) => match Nat.beq ie.size sh.size with
                | true => (0 ≤ n ∧ n ≤ l.length ∧ n = n') ∧ K (s.put d [] (.one (.c (.abs (.ful sh (l.take n.toNat))))))
                | false => False
              | _ => False
            | _ => False
          | _ => False
  | _ => False
@[reducible] def nilEqK (s : St) (d : Option Nat) (eq : Bool) (x : SC) (K : St → Prop) : Prop := match x with
  | .v _ => K (s.put d [] (vB eq))
  | .sl _ l => ∀ b : Bool, (b = true → l = []) → K (s.put d [] (vB (cnd eq b (!b))))
  | .row i => match nthL s.T i with
    | some ([], .row _ _ l) => ∀ b : Bool, (b = true → l = []) → K (s.put d [] (vB (cnd eq b (!b))))
    | _ => False
  | _ => False
@[reducible] def isEqOp : BinOp → Option Bool
  | .eql => some true
  | .neq => some false
  | _ => none
@[reducible] def isSlD (cx : Cx) (t : TypeId) : Bool := match descOf cx t with
  | .slice _ => true
  | _ => false
@[reducible] def slLike : SC → Bool
  | .sl _ _ => true
  | .row _ => true
  | .v v => match v with
    | .slice none 0 0 => true
    | _ => false
  | _ => false
@[reducible] def appZK (cx : Cx) (s : St) (d : Option Nat) (t t' : TypeId) (y : Operand) (K : St → Prop) : Prop := match descOf cx t' with
  | .int .i64 => match descOf cx t with
    | .slice el => match lkT cx.ti el with
      | none => False
      | some ie => match ie.shp with
        | none => False
        | some sh => match andB (Nat.beq sh.size ie.size) (andB (Nat.ble 1 ie.bytes) (Nat.ble 1 ie.size)) with
          | true => match getE cx s [] y with
            | some (.one (.c (.v (.int .i64 n)))) => (0 ≤ n ∧ InA n.toNat ie.bytes) ∧ K ({ s with T := snoc s.T ([], .row el sh (List.replicate n.toNat (zdat sh))) }.put d [] (.one (.c (.row (lenL s.T)))))
            | _ => False
          | false => False
    | _ => False
  | _ => False
/-! Freezing a row: what led to it holds its data. -/
@[reducible] def frzC (i : Nat) (z : SC) (x : SC) : SC := match x with
  | .row j => match Nat.beq i j with
    | true => z
    | false => .row j
  | .rowp j k sz off => match Nat.beq i j with
    | true => .junk
    | false => .rowp j k sz off
  | .own j off => match Nat.beq i j with
    | true => .junk
    | false => .own j off
  | .sub j k => match Nat.beq i j with
    | true => .junk
    | false => .sub j k
  | .subp j k m sz off => match Nat.beq i j with
    | true => .junk
    | false => .subp j k m sz off
  | x => x
@[reducible] def frzV (i : Nat) (z : SC) : SV → SV
  | .c x => .c (frzC i z x)
  | .agg xs => .agg (mapL (frzC i z) xs)
  | v => v
@[reducible] def frzE (i : Nat) (z : SC) : Ent → Ent
  | .one v => .one (frzV i z v)
  | .tup vs => .tup (mapL (frzV i z) vs)
@[reducible] def frzR (i : Nat) (z : SC) : Res → Res
  | .blk t cs => .blk t (mapL (frzC i z) cs)
  | r => r
@[reducible] def frzEnv (i : Nat) (z : SC) : List (Nat × Gd × Ent) → List (Nat × Gd × Ent)
  | [] => []
  | (k, g, e) :: r => (k, g, frzE i z e) :: frzEnv i z r
@[reducible] def frzT (i : Nat) (z : SC) : List (Gd × Res) → List (Gd × Res)
  | [] => []
  | (g, r) :: t => (g, frzR i z r) :: frzT i z t
@[reducible] def frzS (s : St) (i : Nat) : St := match nthL s.T i with
  | some ([], .row _ sh l) => { s with T := setL (frzT i (.sl sh l) s.T) i ([], .gone), env := frzEnv i (.sl sh l) s.env }
  | some ([], .deep _ sh l _ _ _ _ []) => { s with T := setL (frzT i (.sl sh l) s.T) i ([], .gone), env := frzEnv i (.sl sh l) s.env }
  | some ([], .mp k sh l) => { s with T := setL (frzT i (.one (.mp k sh) l) s.T) i ([], .gone), env := frzEnv i (.one (.mp k sh) l) s.env }
  | _ => s
@[reducible] def frzAll (s : St) : List Nat → St
  | [] => s
  | i :: r => frzAll (frzS s i) r
@[reducible] def rowsC : List SC → List Nat → List Nat
  | [], r => r
  | x :: xs, r => match x with
    | .row i => i :: rowsC xs r
    | _ => rowsC xs r
@[reducible] def rowsOf (cx : Cx) (s : St) : List (Nat × Operand) → List Nat
  | [] => []
  | (_, x) :: r => match getE cx s [] x with
    | some (.one (.c (.row i))) => i :: rowsOf cx s r
    | some (.one (.agg xs)) => rowsC xs (rowsOf cx s r)
    | _ => rowsOf cx s r
@[reducible] def appFulK (cx : Cx) (s : St) (d : Option Nat) (t : TypeId) (x y : Operand) (K : St → Prop) : Prop := isOneOf cx t fun el ie sh =>
  match getE cx s [] x with
  | some (.one (.c (.abs (.ful sh1 l1)))) => match castD (.sl sh1) l1 (.sl sh) with
    | some l => match getE cx s [] y with
      | some (.one v2) => match srcD s sh v2 with
        | some l2 => InA (l.length + l2.length) ie.bytes ∧ K ({ s with T := snoc (frzT (lenL s.T) (.sl sh (l ++ l2)) s.T) ([], .gone), env := frzEnv (lenL s.T) (.sl sh (l ++ l2)) s.env }.put d [] (.one (.c (.sl sh (l ++ l2)))))
        | none => False
      | _ => False
    | none => False
  | _ => False
@[reducible] def isNilZ : List Value → Bool
  | [] => false
  | v :: l => match l with
    | [] => match v with
      | .slice none 0 0 => true
      | _ => false
    | _ :: _ => false
theorem isNilZ_eq {l : List Value} (h : isNilZ l = true) : l = [nilS] := by
  unfold isNilZ at h
  split at h
  · cases h
  · split at h
    · split at h
      · rfl
      · cases h
    · cases h
@[reducible] def allOwn : Nat → Bool := fun _ => true
@[reducible] def makeDP (cx : Cx) (s : St) (d : Option Nat) (t : TypeId) (ln cp : Operand) (K : St → Prop) : Option Prop := match descOf cx t with
  | .slice el => match lkT cx.ti el with
    | none => none
    | some ie => match ie.shp with
      | some (.sl e) => match descOf cx el with
        | .slice tt => match andB (Nat.beq 1 ie.size) (andB (Nat.ble 1 ie.bytes) (isNilZ ie.zero)) with
          | true => match getE cx s [] ln with
            | some (.one (.c (.v (.int _ n)))) => match getE cx s [] cp with
              | some (.one (.c (.v (.int _ c)))) => some ((0 ≤ n ∧ n ≤ c ∧ InA c.toNat ie.bytes) ∧ K ({ s with T := snoc s.T ([], .deep el (.sl e) (List.replicate n.toNat []) tt e 0 allOwn []) }.put d [] (.one (.c (.row (lenL s.T))))))
              | _ => none
            | _ => none
          | false => none
        | _ => none
      | _ => none
  | _ => none
@[reducible] def extP (cx : Cx) (s : St) (o : Oper) (K : St → Prop) : Option Prop := match o.guard with
  | some _ => none
  | none => match o.op with
    | .slice t x lo hi mx => match mx with
      | some m => match isZ0 m with
        | true => some (empK cx s o.dst t x lo hi K)
        | false => some (fulK cx s o.dst t x lo hi m K)
      | none => match getE cx s [] x with
        | some (.one (.c (.row i))) => some (truncK cx s o.dst t i lo hi K)
        | some (.one (.c (.v (.slice none 0 0)))) => some (nilK cx s o.dst t lo hi K)
        | _ => none
    | .binOp op t x y t' => match isEqOp op with
      | none => none
      | some eq => match getE cx s [] y with
        | some (.one (.c (.v (.slice none 0 0)))) => match getE cx s [] x with
          | some (.one (.c z)) => match andB (slLike z) (isSlD cx t) with
            | true => some (nilEqK s o.dst eq z K)
            | false => none
          | _ => none
        | _ => none
    | .call c => match c.callee with
      | .builtin .append => match tl c.args with
        | [x, y] => match tl c.argTypes with
          | [t, t'] => match Nat.beq t t' with
            | true => match getE cx s [] x with
              | some (.one (.c (.abs (.ful _ _)))) => some (appFulK cx s o.dst t x y K)
              | _ => none
            | false => match getE cx s [] x with
              | some (.one (.c (.v (.slice none 0 0)))) => some (appZK cx s o.dst t t' y K)
              | _ => none
          | _ => none
        | _ => none
      | .builtin .cap => match tl c.args with
        | [x] => match tl c.argTypes with
          | [t] => some (capK cx s o.dst t x K)
          | _ => none
        | _ => none
      | .builtin .max => match tl c.args with
        | [x, y] => some (maxK cx s o.dst x y K)
        | _ => none
      | _ => none
    | .makeSlice t ln cp => match cx.dm with
      | true => makeDP cx s o.dst t ln cp K
      | false => none
    | .buildSlice t n ps => match rowsOf cx s (tl ps) with
      | [] => none
      | i :: r => some (buildSliceK cx (frzAll s (i :: r)) [] o.dst t n (tl ps) K)
    | _ => none
section
variable {cx : Cx} {P : Program} {N : Nat} {B : Base} {h0 : FH} {s : St} {h : FH} {β : List RV} {w : World} {a : Act} {o : Oper} {K : St → Prop}
theorem frz_one {h h' : FH} {β : List RV} {i : Nat} {z : SC} {v : Value} (le : h.le h') (hu : ∃ u, β[i]? = some u ∧ u.sl = some v) (sl : CnC h' β z v) {x : SC} {y : Value} (c : CnC h β x y) : CnC h' β (frzC i z x) y := by
  unfold frzC
  split
  · rename_i j
    split
    · rename_i hj
      have := Nat.eq_of_beq_eq_true hj; subst this
      obtain ⟨u, e, es⟩ := c
      obtain ⟨u', e', es'⟩ := hu
      rw [e'] at e; cases e; rw [es'] at es; cases es; exact sl
    · exact CnC.mono (x := .row j) le (Ext.refl β) c
  · split
    · trivial
    · exact c.mono le (Ext.refl β)
  · split
    · trivial
    · exact c.mono le (Ext.refl β)
  · split
    · trivial
    · exact c.mono le (Ext.refl β)
  · split
    · trivial
    · exact c.mono le (Ext.refl β)
  · exact c.mono le (Ext.refl β)
theorem frz_all {h h' : FH} {β : List RV} {i : Nat} {z : SC} {v : Value} (le : h.le h') (hu : ∃ u, β[i]? = some u ∧ u.sl = some v) (sl : CnC h' β z v) : ∀ {xs : List SC} {ys : List Value},
    All2 (fun x y => CnC h β x y ∧ oneC y) xs ys → All2 (fun x y => CnC h' β x y ∧ oneC y) (mapL (frzC i z) xs) ys
  | [], [], _ => trivial
  | _ :: _, _ :: _, ⟨a, b⟩ => ⟨⟨frz_one le hu sl a.1, a.2⟩, frz_all le hu sl b⟩
theorem frz_v {h h' : FH} {β : List RV} {i : Nat} {z : SC} {v : Value} (le : h.le h') (hu : ∃ u, β[i]? = some u ∧ u.sl = some v) (sl : CnC h' β z v) : ∀ {x : SV} {y : Value}, CnV h β x y → CnV h' β (frzV i z x) y
  | .c _, _, c => ⟨frz_one le hu sl c.1, c.2⟩
  | .agg _, _, ⟨ys, e, a⟩ => ⟨ys, e, frz_all le hu sl a⟩
  | .dat s _, _, ⟨g, cs, e, r⟩ => ⟨g, cs, e, r.mono le s⟩
  | .und, _, c => c
theorem frz_e {h h' : FH} {β : List RV} {i : Nat} {z : SC} {v : Value} (le : h.le h') (hu : ∃ u, β[i]? = some u ∧ u.sl = some v) (sl : CnC h' β z v) : ∀ {x : Ent} {y : Value}, CnE h β x y → CnE h' β (frzE i z x) y
  | .one _, _, c => frz_v le hu sl c
  | .tup _, _, ⟨ys, e, a⟩ => ⟨ys, e, go a⟩
where
  go : ∀ {xs : List SV} {ys : List Value}, All2 (CnV h β) xs ys → All2 (CnV h' β) (mapL (frzV i z) xs) ys
    | [], [], _ => trivial
    | _ :: _, _ :: _, ⟨a, b⟩ => ⟨frz_v le hu sl a, go b⟩
theorem frz_holds {h h' : FH} {β : List RV} {w : World} {i : Nat} {z : SC} {v : Value} (le : h.le h') (hu : ∃ u, β[i]? = some u ∧ u.sl = some v) (sl : CnC h' β z v) : ∀ {r : Res} {u : RV}, Holds h β w r u → Holds h' β w (frzR i z r) u
  | .blk _ _, .blk _, ⟨ys, e, a⟩ => ⟨ys, e, frz_all le hu sl a⟩
  | .row _ s _, .row _, x => RowH.move le x fun _ _ => rfl
  | .deep _ _ _ _ _ _ _ _, .deep _ _, x => DeepH.move le x fun _ _ => rfl
  | .mp k s l, .row v, x => Holds.move (r := .mp k s l) (v := .row v) le (Ext.refl β) x fun _ _ _ => rfl
  | .mpo k s l n, .deep v us, x => Holds.move (r := .mpo k s l n) (v := .deep v us) le (Ext.refl β) x fun _ _ _ => rfl
  | .tlr _ _ _ _, .row _, x => x
  | .it k s l dn, .blk v, x => Holds.move (r := .it k s l dn) (v := .blk v) le (Ext.refl β) x fun _ _ _ => rfl
  | .obj _ s _, .blk _, ⟨ys, e, r⟩ => ⟨ys, e, r.mono le s⟩
  | .gone, _, _ => trivial
theorem frzR_live (i : Nat) (z : SC) (r : Res) : (frzR i z r).live = r.live := by cases r <;> rfl
theorem lkE_frz {i : Nat} {z : SC} : ∀ {env : List (Nat × Gd × Ent)} {t : Nat} {G : Gd} {e : Ent}, lkE (frzEnv i z env) t = some (G, e) → ∃ e0, lkE env t = some (G, e0) ∧ e = frzE i z e0
  | [], _, _, _, h => by simp [frzEnv, lkE] at h
  | (k, g, e0) :: r, t, G, e, h => by
    simp only [frzEnv] at h
    rw [lkE_cons] at h ⊢
    split at h
    · rename_i hk; cases h; exact ⟨e0, by rw [if_pos hk], rfl⟩
    · rename_i hk; rw [if_neg hk]; exact lkE_frz h
theorem lkE_frz' {i : Nat} {z : SC} : ∀ {env : List (Nat × Gd × Ent)} {t : Nat} {G : Gd} {e : Ent}, lkE env t = some (G, e) → lkE (frzEnv i z env) t = some (G, frzE i z e)
  | [], _, _, _, h => by simp [lkE] at h
  | (k, g, e0) :: r, t, G, e, h => by
    simp only [frzEnv]
    rw [lkE_cons] at h ⊢
    split at h
    · rename_i hk; cases h; rw [if_pos hk]
    · rename_i hk; rw [if_neg hk]; exact lkE_frz' h
theorem eff_frz (gl : List Bool) (i : Nat) (z : SC) : ∀ {T : List (Gd × Res)}, eff gl (frzT i z T) = (eff gl T).map (frzR i z)
  | [] => rfl
  | (g, r) :: t => by
    simp only [frzT, eff, List.map_cons, eff_frz gl i z (T := t)]
    congr 1
    cases gv gl g <;> rfl
theorem frzT_gd {i : Nat} {z : SC} {p : Gd × Res} : ∀ {T : List (Gd × Res)}, p ∈ frzT i z T → ∃ q ∈ T, q.1 = p.1
  | [], h => by simp [frzT] at h
  | (g, r) :: t, h => by
    simp only [frzT, List.mem_cons] at h
    rcases h with rfl | h
    · exact ⟨(g, r), by simp, rfl⟩
    · obtain ⟨q, h1, h2⟩ := frzT_gd h; exact ⟨q, by simp [h1], h2⟩
theorem Sat.frzAny (sat : Sat N B h0 s h β w a) {i : Nat} {r : Res} {z : SC} {u : RV} {v : Value} (hT' : (eff s.gl s.T)[i]? = some r) (hu : β[i]? = some u) (hus : u.sl = some v) {h' : FH} (le : h.le h') (ok' : OK B h0 ((eff s.gl s.T).set i .gone) h' β w) (sl : CnC h' β z v) :
    Sat N B h0 { s with T := setL (frzT i z s.T) i ([], .gone), env := frzEnv i z s.env } h' β w a := by
  have hu : ∃ u, β[i]? = some u ∧ u.sl = some v := ⟨u, hu, hus⟩
  refine ⟨?_, ?_, ?_, sat.defers, sat.sz, ?_, ?_⟩
  · show OK B h0 (eff s.gl (setL (frzT i z s.T) i ([], .gone))) h' β w
    rw [eff_set, eff_frz]
    have key : ∀ {j : Nat} {r : Res}, (((eff s.gl s.T).map (frzR i z)).set i .gone)[j]? = some r → ∃ r0, ((eff s.gl s.T).set i .gone)[j]? = some r0 ∧ r = frzR i z r0 := by
      intro j r e
      by_cases hj : j = i
      · subst hj
        have hlt : j < (eff s.gl s.T).length := (List.getElem?_eq_some_iff.1 hT').1
        rw [List.getElem?_set_self (by simpa using hlt)] at e
        cases e
        exact ⟨.gone, by rw [List.getElem?_set_self hlt], rfl⟩
      · rw [List.getElem?_set_ne (Ne.symm hj), List.getElem?_map] at e
        cases hj' : (eff s.gl s.T)[j]? with
        | none => rw [hj'] at e; cases e
        | some r0 => rw [hj'] at e; cases e; exact ⟨r0, by rw [List.getElem?_set_ne (Ne.symm hj)]; exact hj', rfl⟩
    exact {
      below := ok'.below
      dr := ok'.dr
      len := by have := ok'.len; simpa using this
      holds := fun j r v' e e' => by
        obtain ⟨r0, e0, rfl⟩ := key e
        by_cases hj : j = i
        · subst hj
          have hlt : j < (eff s.gl s.T).length := (List.getElem?_eq_some_iff.1 hT').1
          rw [List.getElem?_set_self hlt] at e0
          cases e0; cases v' <;> trivial
        · rw [List.getElem?_set_ne (Ne.symm hj)] at e0
          exact frz_holds le hu sl (sat.ok.holds j r0 v' e0 e')
      own := fun j r v' b e hl e' hb => by
        obtain ⟨r0, e0, rfl⟩ := key e
        exact ok'.own j r0 v' b e0 (by rw [← frzR_live i z]; exact hl) e' hb
      inj := fun j k r1 r2 u v' b e1 l1 e2 l2 e3 e4 b1 b2 => by
        obtain ⟨r0, f1, rfl⟩ := key e1
        obtain ⟨r0', f2, rfl⟩ := key e2
        exact ok'.inj j k r0 r0' u v' b f1 (by rw [← frzR_live i z]; exact l1) f2 (by rw [← frzR_live i z]; exact l2) e3 e4 b1 b2
      hle := ok'.hle
      hw := ok'.hw
      hg := ok'.hg
      kn := ok'.kn }
  · intro t' G e ht
    obtain ⟨e0, h1, rfl⟩ := lkE_frz ht
    obtain ⟨z, q1, q2, q3⟩ := sat.env t' G e0 h1
    exact ⟨z, q1, fun hG => frz_e le hu sl (q2 hG), q3⟩
  · intro d j hj
    obtain ⟨G, b, q1, q2⟩ := sat.gs d j hj
    exact ⟨G, b, lkE_frz' q1, q2⟩
  · intro t' G e ht
    obtain ⟨e0, h1, rfl⟩ := lkE_frz ht
    exact sat.gb t' G e0 h1
  · intro p hp
    simp only at hp
    rw [setL_eq] at hp
    rcases List.mem_or_eq_of_mem_set hp with hp | hp
    · obtain ⟨q, h1, h2⟩ := frzT_gd hp
      rw [← h2]; exact sat.gT q h1
    · subst hp; rfl
theorem mp_data {h h' : FH} {β : List RV} {w : World} {k : IntKind} {sh : Sh} {l : List (Int × sh.den)} {v : Value} (x : Holds h β w (.mp k sh l) (.row v)) (le : h.le h') (hb : ∀ b, (RV.row v).has b → ∀ o z, vis w b o = some z → h' b o = some z) : Rd h' (.mp k sh) [v] l := by
  obtain ⟨b, es, c, e, e1, m⟩ := x
  exact ⟨v, rfl, .inr ⟨b, es, c, e, hb b (has_row.2 (by rw [e]; rfl)) _ _ (map_vis e1), m.mono fun _ _ => DW.mono le⟩⟩
theorem Sat.frz1 (sat : Sat N B h0 s h β w a) (i : Nat) : ∃ h', h.le h' ∧ Sat N B h0 (frzS s i) h' β w a := by
  unfold frzS
  split
  · rename_i t sh l hT
    have hT' : (eff s.gl s.T)[i]? = some (.row t sh l) := by rw [eff_get, ← nthL_eq, hT]; rfl
    have hlt : i < β.length := by rw [sat.ok.len]; exact (List.getElem?_eq_some_iff.1 hT').1
    have hu := List.getElem?_eq_getElem hlt
    have hold := sat.ok.holds i _ _ hT' hu
    cases hb : β[i] with
    | blk b => rw [hb] at hold; exact hold.elim
    | no => rw [hb] at hold; exact hold.elim
    | deep _ _ => rw [hb] at hold; exact hold.elim
    | row v =>
      rw [hb] at hold hu
      obtain ⟨h', le, ok', sl⟩ := sat.ok.freeze hT' hu
      exact ⟨h', le, sat.frzAny (z := .sl sh l) hT' hu rfl le ok' sl⟩
  · rename_i t sh l t2 e so own hT
    have hT' : (eff s.gl s.T)[i]? = some (.deep t sh l t2 e so own []) := by rw [eff_get, ← nthL_eq, hT]; rfl
    have hlt : i < β.length := by rw [sat.ok.len]; exact (List.getElem?_eq_some_iff.1 hT').1
    have hu := List.getElem?_eq_getElem hlt
    have hold := sat.ok.holds i _ _ hT' hu
    cases hb : β[i] with
    | blk b => rw [hb] at hold; exact hold.elim
    | no => rw [hb] at hold; exact hold.elim
    | row _ => rw [hb] at hold; exact hold.elim
    | deep v us =>
      rw [hb] at hold hu
      obtain ⟨le, ok', vis⟩ := sat.ok.freezeHas hT' rfl hu
      exact ⟨_, le, sat.frzAny (z := .sl sh l) hT' hu rfl le ok' (DeepH.data hold le fun b hb o z hz => vis b hb o z hz)⟩
  · rename_i k sh l hT
    have hT' : (eff s.gl s.T)[i]? = some (.mp k sh l) := by rw [eff_get, ← nthL_eq, hT]; rfl
    have hlt : i < β.length := by rw [sat.ok.len]; exact (List.getElem?_eq_some_iff.1 hT').1
    have hu := List.getElem?_eq_getElem hlt
    have hold := sat.ok.holds i _ _ hT' hu
    cases hb : β[i] with
    | blk b => rw [hb] at hold; exact hold.elim
    | no => rw [hb] at hold; exact hold.elim
    | deep _ _ => rw [hb] at hold; exact hold.elim
    | row v =>
      rw [hb] at hold hu
      obtain ⟨le, ok', vs⟩ := sat.ok.freezeHas hT' rfl hu
      exact ⟨_, le, sat.frzAny (z := .one (.mp k sh) l) hT' hu rfl le ok' (mp_data hold le fun b hb o z hz => vs b hb o z hz)⟩
  · exact ⟨h, FH.le.refl h, sat⟩
theorem Sat.frz : ∀ {l : List Nat} {s : St} {h : FH}, Sat N B h0 s h β w a → ∃ h', h.le h' ∧ Sat N B h0 (frzAll s l) h' β w a
  | [], s, h, sat => ⟨h, FH.le.refl h, sat⟩
  | i :: r, s, h, sat => by
    obtain ⟨h1, le1, sat1⟩ := sat.frz1 i
    obtain ⟨h2, le2, sat2⟩ := Sat.frz (l := r) sat1
    exact ⟨h2, le1.trans le2, sat2⟩
theorem OpW.le {h h' : FH} {b : Bool} (le : h.le h') (k : OpW P N B h0 h' w a o b K) : OpW P N B h0 h w a o b K := fun Nx Q next => k Nx Q fun s' h2 β' w' v k' le' sat => next s' h2 β' w' v k' (le.trans le') sat
theorem slc_form {h : FH} {β : List RV} {y : SC} {v : Value} (hy : isSlC y = true) (c : CnC h β y v) : ∃ ad len cap, v = .slice ad len cap ∧ len ≤ cap ∧ (ad = none → len = 0 ∧ cap = 0) := by
  unfold isSlC at hy
  split at hy
  · rcases c with ⟨rfl, _⟩ | ⟨ad, cap, rfl, _⟩ | ⟨b, off, cap, rfl, h1, _⟩
    · exact ⟨none, 0, 0, rfl, Nat.le_refl _, fun _ => ⟨rfl, rfl⟩⟩
    · exact ⟨some ad, 0, cap, rfl, Nat.zero_le _, fun h => by cases h⟩
    · exact ⟨_, _, cap, rfl, h1, fun h => by cases h⟩
  · split at hy
    · obtain ⟨rfl, _⟩ := c; exact ⟨none, 0, 0, rfl, Nat.le_refl _, fun _ => ⟨rfl, rfl⟩⟩
    · cases hy
  · cases hy
theorem emp_step (hc : TisOK P cx.ti) (sat : Sat N B h0 s h β w a) (hg : GlobOK cx.gd h) (hd : dOK N o.dst = true) {t : TypeId} {x m : Operand} {lo hi : Option Operand} (ho : o.op = .slice t x lo hi (some m)) (hm : isZ0 m = true)
    (k : empK cx s o.dst t x lo hi K) : OpW P N B h0 h w a o true K := by
  have tr : gv s.gl [] = true := rfl
  unfold empK at k
  split at k
  · rename_i el hde
    have hu := descOf_und hc hde (by simp)
    split at k
    · exact k.elim
    rename_i ie hie
    have tie := hc.get hie
    split at k
    · exact k.elim
    rename_i sh hsh
    split at k
    · rename_i y hy
      split at k
      · rename_i hz
        rw [andB_eq, andB_eq, Bool.and_eq_true, Bool.and_eq_true] at hz
        obtain ⟨hz1, hz2, hz3⟩ := hz
        have cy := (getE_ok sat hg tr hy : CnV h β (.c y) (a.eval x))
        obtain ⟨ad, len, cap, ev, hle, hnil⟩ := slc_form hz1 cy.1
        obtain ⟨km, rfl⟩ := isZ0_eq hm
        obtain ⟨hx, rfl⟩ : ∃ x, hi = some x := by cases hi with | none => simp [isZS] at hz3 | some x => exact ⟨x, rfl⟩
        obtain ⟨kh, rfl⟩ := isZ0_eq (show isZ0 hx = true from hz3)
        have run : (Instr.sliceAt t (a.eval x) (lo.map a.eval) ((some (Operand.const (.int kh 0))).map a.eval) ((some (Operand.const (.int km 0))).map a.eval)).run P w = .ok (.slice ad 0 0) w := by
          rw [ev]
          have e1 : (Instr.sliceBounds true len cap (lo.map a.eval) (some (.int kh 0)) (some (.int km 0))).run P w = .ok (0, 0, 0) w := by
            cases lo with
            | none => simp [Instr.sliceBounds, Instr.sliceBound, asIntOf]
            | some z =>
              obtain ⟨kz, rfl⟩ := isZ0_eq (show isZ0 z = true from hz2)
              simp [Instr.sliceBounds, Instr.sliceBound, asIntOf, Act.eval]
          simp only [Instr.sliceAt, Instr.slice, Sem.run_bind, run_underlying hu, Result.andThen_ok, Option.map_some, Act.eval, e1, run_sizeOf tie, Sem.run_pure]
          simp
        have nw := new_step (P := P) sat (o := o) (G := []) rfl hd (r := .row el sh []) (e := .one (.c (.row (lenL s.T)))) (K := K) k fun _ =>
          ⟨.slice ad 0 0, w, .row (.slice ad 0 0), by simp only [execOp, ho, Sem.run_bind]; rw [run]; rfl, grown_refl _ _, fun b hb => by rw [has_row] at hb; cases ad <;> simp [rowBlk] at hb, by
            cases ad with
            | none => exact .inl ⟨rfl, rfl⟩
            | some ad => exact .inr (.inl ⟨ad, rfl, rfl⟩), by
            refine ⟨⟨_, last_ref (sat_len sat) _, rfl⟩, rfl, rfl⟩⟩
        exact nw.weak
      · exact k.elim
    · exact k.elim
  · exact k.elim
theorem val_step (sat : Sat N B h0 s h β w a) (hd : dOK N o.dst = true) {v : Value} {e : Ent} (run : (execOp a.eval o).run P w = .ok (.value v) w) (c : CnE h β e v) (k : K (s.put o.dst [] e)) : OpW P N B h0 h w a o true K := by
  intro Nx Q next
  rw [if_pos rfl]
  exact wp_value run (next _ _ _ _ _ k (FH.le.refl h) (sat.put (dOK_lt hd) rfl (fun _ => c) fun hh => by cases hh))
theorem trunc_step (hc : TisOK P cx.ti) (sat : Sat N B h0 s h β w a) (hg : GlobOK cx.gd h) (hd : dOK N o.dst = true) {t : TypeId} {x : Operand} {lo hi : Option Operand} {i : Nat} (ho : o.op = .slice t x lo hi none)
    (hx : getE cx s [] x = some (.one (.c (.row i)))) (k : truncK cx s o.dst t i lo hi K) : OpW P N B h0 h w a o true K := by
  have tr : gv s.gl [] = true := rfl
  unfold truncK at k
  split at k
  · rename_i el hde
    have hu := descOf_und hc hde (by simp)
    split at k
    · exact k.elim
    rename_i ie hie
    have tie := hc.get hie
    split at k
    · exact k.elim
    rename_i hlo
    split at k
    · exact k.elim
    rename_i hh
    split at k
    · rename_i ik n hn
      split at k
      · rename_i el' sh l hT
        obtain ⟨hb, k⟩ := k
        have ch := (getE_ok sat hg tr hn : CnV h β (.c (.v (.int ik n))) (a.eval hh))
        have eh : a.eval hh = .int ik n := ch.1.1
        have cr := (getE_ok sat hg tr hx : CnV h β (.c (.row i)) (a.eval x))
        have hβ : β[i]? = some (.row (a.eval x)) := sat.ok.row_of (effres hT tr) cr.1
        have hold := sat.ok.holds i _ _ (effres hT tr) hβ
        have hi' : i < β.length := (List.getElem?_eq_some_iff.1 hβ).1
        have hlo' : (lo.map a.eval = none ∧ (0 : Int) = 0) ∨ ∃ k, lo.map a.eval = some (.int k 0) := by
          cases lo with
          | none => exact .inl ⟨rfl, rfl⟩
          | some z =>
            obtain ⟨kz, rfl⟩ := isZ0_eq (show isZ0 z = true from hlo)
            exact .inr ⟨kz, rfl⟩
        have run : ∀ (ad : Option Addr) (cap : Nat), a.eval x = .slice ad l.length cap → l.length ≤ cap → (execOp a.eval o).run P w = .ok (.value (.slice ad n.toNat cap)) w := by
          intro ad cap ev hle
          have := run_bounds (P := P) (w := w) (isS := true) (len := l.length) (cap := cap) (lo := lo.map a.eval) (hi := some (.int ik n)) (a := 0) (b := n) hlo' (.inr ⟨ik, rfl⟩) (by omega) hle
          have r2 : (Instr.sliceAt t (a.eval x) (lo.map a.eval) ((some hh).map a.eval) none).run P w = .ok (.slice ad n.toNat cap) w := by
            rw [ev]
            simp only [Instr.sliceAt, Instr.slice, Sem.run_bind, run_underlying hu, Result.andThen_ok, Option.map_some, eh, this, run_sizeOf tie, Sem.run_pure]
            cases ad <;> simp [Addr.add]
          simp only [execOp, ho, Sem.run_bind, Option.map_none]
          rw [r2]; rfl
        have fin : ∀ (v' : Value), (execOp a.eval o).run P w = .ok (.value v') w → (∀ b, rowBlk v' = some b → rowBlk (a.eval x) = some b) → Holds h (β.set i (.row v')) w (.row el' sh (l.take n.toNat)) (.row v') → oneC v' → OpW P N B h0 h w a o true K := by
          intro v' r hv hold' h1
          intro Nx Q next
          rw [if_pos rfl]
          refine wp_value r (next _ _ _ _ _ k (FH.le.refl h) ((jk_sat sat hT rfl hβ (grown_refl _ _) (v := .row v') (fun b hb => .inl (hv b hb)) (hold := hold')).put (dOK_lt hd) rfl (fun _ => ⟨?_, h1⟩) fun hh => by cases hh))
          refine ⟨.row v', ?_, rfl⟩
          rw [List.getElem?_set_self hi']
        rcases hold with ⟨ev, hl⟩ | ⟨ra, ev, hl⟩ | ⟨g, cap, cur, ev, q1, q2, q3, q4, q5⟩
        · have hn0 : n.toNat = 0 := by rw [hl] at hb; simp at hb; omega
          refine fin _ (run none 0 (by rw [ev, hl]; rfl) (by rw [hl]; exact Nat.le_refl _)) (fun b hb => by simp [rowBlk] at hb) (.inl ⟨by rw [hn0], by rw [hl]; simp⟩) ⟨rfl, rfl⟩
        · have hn0 : n.toNat = 0 := by rw [hl] at hb; simp at hb; omega
          refine fin _ (run (some ra) 0 (by rw [ev, hl]; rfl) (by rw [hl]; exact Nat.le_refl _)) (fun b hb => by simp [rowBlk] at hb) (.inr (.inl ⟨ra, by rw [hn0], by rw [hl]; simp⟩)) ⟨rfl, rfl⟩
        · have hlen : (l.take n.toNat).length = n.toNat := by rw [List.length_take]; omega
          refine fin _ (run (some ⟨g, 0, none⟩) cap ev q2) (fun b hb => by rw [ev, rowBlk_own q3.1]; rw [rowBlk_own q3.1] at hb; exact hb) (.inr (.inr ⟨g, cap, cur, by rw [hlen], q1, by rw [hlen]; omega, q3, q4, ?_⟩)) ⟨rfl, rfl⟩
          have := RdL.takeDrop (fun _ _ => Rd.size sh) q5 (a := 0) (b := n.toNat) (Nat.zero_le _) (by omega)
          simp only [Nat.zero_mul, List.drop_zero] at this
          rw [hlen]
          rw [List.take_take, Nat.min_eq_left (Nat.mul_le_mul_right _ (by omega))] at this
          exact this
      · exact k.elim
    · exact k.elim
  · exact k.elim
theorem nil_step (hc : TisOK P cx.ti) (sat : Sat N B h0 s h β w a) (hg : GlobOK cx.gd h) (hd : dOK N o.dst = true) {t : TypeId} {x : Operand} {lo hi : Option Operand} (ho : o.op = .slice t x lo hi none)
    (hx : getE cx s [] x = some (.one (.c (.v (.slice none 0 0))))) (k : nilK cx s o.dst t lo hi K) : OpW P N B h0 h w a o true K := by
  have tr : gv s.gl [] = true := rfl
  unfold nilK at k
  split at k
  · rename_i el hde
    have hu := descOf_und hc hde (by simp)
    split at k
    · exact k.elim
    rename_i ie hie
    have tie := hc.get hie
    split at k
    · exact k.elim
    rename_i p hp
    split at k
    · exact k.elim
    rename_i q hq
    obtain ⟨hb, k⟩ := k
    have cx' := (getE_ok sat hg tr hx : CnV h β (.c (.v (.slice none 0 0))) (a.eval x))
    have ev : a.eval x = .slice none 0 0 := cx'.1.1
    have bnd : ∀ {o : Option Operand} {n : Int}, bndE cx s [] o 0 = some n → (o.map a.eval = none ∧ n = 0) ∨ ∃ k, o.map a.eval = some (.int k n) := by
      intro o n e
      rcases bndE_ok sat hg tr e with ⟨rfl, rfl⟩ | ⟨x, ik, rfl, e'⟩
      · exact .inl ⟨rfl, rfl⟩
      · exact .inr ⟨ik, by simp [e']⟩
    have := run_bounds (P := P) (w := w) (isS := true) (len := 0) (cap := 0) (bnd hp) (bnd hq) (by simpa using hb) (Nat.le_refl _)
    refine val_step sat hd (v := .slice none 0 0) (e := .one (.c (.v (.slice none 0 0)))) ?_ ⟨⟨rfl, rfl, rfl⟩, rfl, rfl⟩ k
    have h1 : p.toNat = 0 := by omega
    have h2 : q.toNat = 0 := by omega
    have r2 : (Instr.sliceAt t (a.eval x) (lo.map a.eval) (hi.map a.eval) none).run P w = .ok (.slice none 0 0) w := by
      rw [ev]
      simp only [Instr.sliceAt, Instr.slice, Sem.run_bind, run_underlying hu, Result.andThen_ok, this, run_sizeOf tie, Sem.run_pure, h1, h2]
      simp
    simp only [execOp, ho, Sem.run_bind, Option.map_none]
    rw [r2]; rfl
  · exact k.elim
theorem cap_step (hc : TisOK P cx.ti) (sat : Sat N B h0 s h β w a) (hg : GlobOK cx.gd h) (hd : dOK N o.dst = true) {t : TypeId} {x : Operand} {c : Call} (ho : o.op = .call c) (hcal : c.callee = .builtin .cap) (ha : c.args = #[x]) (ht : c.argTypes = #[t])
    (k : capK cx s o.dst t x K) : OpW P N B h0 h w a o true K := by
  have tr : gv s.gl [] = true := rfl
  unfold capK at k
  split at k
  · rename_i el hde
    have hu := descOf_und hc hde (by simp)
    split at k
    · rename_i hx
      have cx' := (getE_ok sat hg tr hx : CnV h β (.c (.v (.slice none 0 0))) (a.eval x))
      have ev : a.eval x = .slice none 0 0 := cx'.1.1
      refine val_step sat hd (v := goInt 0) (e := vI .i64 0) ?_ ⟨⟨rfl, oneC_int _ _⟩, oneC_int _ _⟩ k
      simp [execOp, ho, resolve, hcal, ha, ht, invoke, builtin, ev, Builtin.cap_, run_underlying hu]
    · exact k.elim
  · exact k.elim
theorem max_step (sat : Sat N B h0 s h β w a) (hg : GlobOK cx.gd h) (hd : dOK N o.dst = true) {x y : Operand} {c : Call} (ho : o.op = .call c) (hcal : c.callee = .builtin .max) (ha : c.args = #[x, y])
    (k : maxK cx s o.dst x y K) : OpW P N B h0 h w a o true K := by
  have tr : gv s.gl [] = true := rfl
  unfold maxK at k
  split at k
  · rename_i n hx
    have ex : a.eval x = .int .i64 n := (getE_ok sat hg tr hx : CnV h β (.c (.v (.int .i64 n))) (a.eval x)).1.1
    split at k
    · rename_i m hy
      have ey : a.eval y = .int .i64 m := (getE_ok sat hg tr hy : CnV h β (.c (.v (.int .i64 m))) (a.eval y)).1.1
      refine val_step sat hd (v := .int .i64 (maxI n m)) (e := vI .i64 (maxI n m)) ?_ ⟨⟨rfl, oneC_int _ _⟩, oneC_int _ _⟩ k
      simp [execOp, ho, resolve, hcal, ha, invoke, builtin, ex, ey, Builtin.max_, Builtin.max2, maxI]
    · exact k.elim
  · exact k.elim
theorem run_nilEq {P : Program} {w : World} {t : TypeId} {el : TypeId} (hu : P.underlying t = some (.slice el)) (ad : Option Addr) (n c : Nat) (op : BinOp) (eq : Bool) (he : isEqOp op = some eq) (x y : Operand) :
    (eqGuard op t x y (.slice ad n c) (.slice none 0 0)).run P w = .ok () w ∧ (binOp op t (.slice ad n c) (.slice none 0 0)).run P w = .ok (.bool (cnd eq ad.isNone (!ad.isNone))) w := by
  refine ⟨eqGuard_free P op t x y (by rfl) w, ?_⟩
  have key : ∀ d, (Op.equalIn (d + 1) t (.slice ad n c) (.slice none 0 0)).run P w = .ok ad.isNone w := by
    intro d
    cases ad <;> simp [Op.equalIn, run_underlying hu]
  have k2 := key 9999
  have hq2 : Op.equal t (.slice ad n c) (.slice none 0 0) = Op.equalIn (9999 + 1) t (.slice ad n c) (.slice none 0 0) := rfl
  unfold isEqOp at he
  split at he
  · cases he
    have e : (binOp .eql t (.slice ad n c) (.slice none 0 0)).run P w = ((Op.equal t (.slice ad n c) (.slice none 0 0)).run P w).andThen fun b w => .ok (.bool b) w := by
      simp only [binOp]
      generalize Op.equal t (.slice ad n c) (.slice none 0 0) = q
      simp
    rw [e, hq2, k2]; rfl
  · cases he
    have e : (binOp .neq t (.slice ad n c) (.slice none 0 0)).run P w = ((Op.equal t (.slice ad n c) (.slice none 0 0)).run P w).andThen fun b w => .ok (.bool (!b)) w := by
      simp only [binOp]
      generalize Op.equal t (.slice ad n c) (.slice none 0 0) = q
      simp
    rw [e, hq2, k2]; rfl
  · cases he
theorem nilEq_step (hc : TisOK P cx.ti) (sat : Sat N B h0 s h β w a) (hg : GlobOK cx.gd h) (hd : dOK N o.dst = true) {t t' : TypeId} {x y : Operand} {op : BinOp} {eq : Bool} (ho : o.op = .binOp op t x y t') (he : isEqOp op = some eq)
    (hy : getE cx s [] y = some (.one (.c (.v (.slice none 0 0))))) {z : SC} (hx : getE cx s [] x = some (.one (.c z))) (hz : slLike z = true) (ht : isSlD cx t = true) (k : nilEqK s o.dst eq z K) : OpW P N B h0 h w a o true K := by
  have tr : gv s.gl [] = true := rfl
  obtain ⟨el, hu⟩ : ∃ el, P.underlying t = some (.slice el) := by
    unfold isSlD at ht
    split at ht
    · rename_i el hde; exact ⟨el, descOf_und hc hde (by simp)⟩
    · cases ht
  have cy := (getE_ok sat hg tr hy : CnV h β (.c (.v (.slice none 0 0))) (a.eval y))
  have ey : a.eval y = .slice none 0 0 := cy.1.1
  have cz := (getE_ok sat hg tr hx : CnV h β (.c z) (a.eval x))
  have exec : ∀ ad n c, a.eval x = .slice ad n c → (execOp a.eval o).run P w = .ok (.value (.bool (cnd eq ad.isNone (!ad.isNone)))) w := by
    intro ad n c e
    obtain ⟨g1, g2⟩ := run_nilEq (P := P) (w := w) hu ad n c op eq he x y
    simp only [execOp, ho, Sem.run_bind, e, ey, g1, g2, Result.andThen_ok, Sem.run_pure]
  have fin : ∀ ad n c (b : Bool), a.eval x = .slice ad n c → K (s.put o.dst [] (vB (cnd eq ad.isNone (!ad.isNone)))) → OpW P N B h0 h w a o true K := fun ad n c b e k =>
    val_step sat hd (e := vB (cnd eq ad.isNone (!ad.isNone))) (exec ad n c e) ⟨⟨rfl, oneC_bool _⟩, oneC_bool _⟩ k
  unfold nilEqK at k
  split at k
  · rename_i v
    unfold slLike at hz
    have ev : a.eval x = .slice none 0 0 := by
      simp only at hz
      split at hz
      · exact cz.1.1
      · cases hz
    refine fin none 0 0 true ev ?_
    cases eq <;> exact k
  · rename_i sh l
    rcases cz.1 with ⟨e, hl⟩ | ⟨ad, cap, e, hl, _⟩ | ⟨b, off, cap, e, _⟩
    · exact fin _ _ _ true e (k true fun _ => hl)
    · exact fin _ _ _ true e (k false fun hh => by cases hh)
    · exact fin _ _ _ true e (k false fun hh => by cases hh)
  · rename_i i
    split at k
    · rename_i t2 sh l hT
      have hβ : β[i]? = some (.row (a.eval x)) := sat.ok.row_of (effres hT tr) cz.1
      rcases sat.ok.holds i _ _ (effres hT tr) hβ with ⟨e, hl⟩ | ⟨ra, e, hl⟩ | ⟨g, cap, cur, e, _⟩
      · exact fin _ _ _ true e (k true fun _ => hl)
      · exact fin _ _ _ true e (k false fun hh => by cases hh)
      · exact fin _ _ _ true e (k false fun hh => by cases hh)
    · exact k.elim
  · exact k.elim
theorem run_appZ {P : Program} {w : World} {t t' ty el : TypeId} {i : TypeInfo} {z : Value} (ht : P.underlying t = some (.slice el)) (ht' : P.underlying t' = some (.int .i64)) (hi : P.info? el = some i) (hz : i.zero = some z) (hs : 1 ≤ i.size) (n : Nat) (h0 : 0 < n) (h48 : n * i.bytes ≤ 140737488355328) (hb : 1 ≤ i.bytes) :
    (Builtin.append_ #[t, t'] ty #[.slice none 0 0, .int .i64 n]).run P w =
      .ok (.slice (some ⟨w.heap.size, 0, none⟩) n (grownCap w n 0 el)) (w.drew.alloc (.cells (Builtin.zeroCells z.cells n ++ Builtin.zeroCells z.cells (grownCap w n 0 el - n)) el)) := by
  have hn63 : n ≤ 140737488355328 := Nat.le_trans (Nat.le_mul_of_pos_right _ hb) h48
  have hn : n ≠ 0 := by omega
  have hw : IntKind.i64.wrap (n : Int) = n := by simp [IntKind.wrap, IntKind.bits, IntKind.signed]; omega
  have hneg : ¬ ((n : Int) < 0) := by omega
  have h48i : ¬ ((281474976710656 : Int) < (n : Int) * (i.bytes : Int)) := by
    have : ((n * i.bytes : Nat) : Int) ≤ 140737488355328 := by omega
    rw [Int.natCast_mul] at this; omega
  have h63' : ¬ (9223372036854775807 < (n : Int)) := by omega
  have h48' : ¬ (281474976710656 < Builtin.nextslicecap n 0 * i.bytes) := by rw [nextslicecap_zero h0]; omega
  have hns : ¬ (n * i.size = 0) := by
    intro hh
    rcases Nat.mul_eq_zero.1 hh with h | h <;> omega
  have hns2 : ¬ (i.size = 0) := by omega
  simp [Builtin.append_, run_underlying ht, run_underlying ht', sizeOf, typeInfo, zeroValue, hi, hz, Builtin.lenOf, hn, hw, hneg, h48i, h63', h48', Question.forced, run_firstCells_none, newRow, grownCap, asInt, asIntOf, hns, hns2]
theorem appZ_step (hc : TisOK P cx.ti) (sat : Sat N B h0 s h β w a) (hg : GlobOK cx.gd h) (hd : dOK N o.dst = true) {t t' : TypeId} {x y : Operand} {c : Call} (ho : o.op = .call c) (hcal : c.callee = .builtin .append) (ha : c.args = #[x, y]) (ht : c.argTypes = #[t, t'])
    (hx : getE cx s [] x = some (.one (.c (.v (.slice none 0 0))))) (k : appZK cx s o.dst t t' y K) : OpW P N B h0 h w a o true K := by
  have tr : gv s.gl [] = true := rfl
  unfold appZK at k
  split at k
  · rename_i hdi
    have hui := descOf_und hc hdi (by simp)
    split at k
    · rename_i el hde
      have hu := descOf_und hc hde (by simp)
      split at k
      · exact k.elim
      rename_i ie hie
      have tie := hc.get hie
      split at k
      · exact k.elim
      rename_i sh hsh
      split at k
      · rename_i hz
        rw [andB_eq, andB_eq, Bool.and_eq_true, Bool.and_eq_true] at hz
        have hz1 : sh.size = ie.size := Nat.eq_of_beq_eq_true hz.1
        have hz2 : 1 ≤ ie.bytes := Nat.le_of_ble_eq_true hz.2.1
        have hz3 : 1 ≤ ie.size := Nat.le_of_ble_eq_true hz.2.2
        split at k
        · rename_i n hn
          obtain ⟨⟨hn0, hroom⟩, k⟩ := k
          have ex : a.eval x = .slice none 0 0 := (getE_ok sat hg tr hx : CnV h β (.c (.v (.slice none 0 0))) (a.eval x)).1.1
          have ey : a.eval y = .int .i64 n := (getE_ok sat hg tr hn : CnV h β (.c (.v (.int .i64 n))) (a.eval y)).1.1
          obtain ⟨inf, z, i1, i2, i3, i4, i5⟩ := tie.info
          obtain ⟨m, rfl⟩ : ∃ m : Nat, n = m := ⟨n.toNat, by omega⟩
          rw [Int.toNat_natCast] at hroom k
          unfold InA at hroom
          refine OpOK.weak (new_step (P := P) sat (o := o) (G := []) rfl hd (r := .row el sh (List.replicate m (zdat sh))) (e := .one (.c (.row (lenL s.T)))) (K := K) k fun _ => ?_)
          by_cases hm : m = 0
          · subst hm
            refine ⟨.slice none 0 0, w, .row (.slice none 0 0), ?_, grown_refl _ _, fun b hb => by rw [has_row] at hb; simp [rowBlk] at hb, .inl ⟨rfl, rfl⟩, ⟨_, last_ref (sat_len sat) _, rfl⟩, rfl, rfl⟩
            simp [execOp, ho, resolve, hcal, ha, ht, invoke, builtin, ex, ey, Builtin.append_, run_underlying hu, run_underlying hui, sizeOf, typeInfo, i1, asInt, asIntOf, IntKind.wrap, IntKind.bits, IntKind.signed]
          · have r := run_appZ (P := P) (w := w) (ty := o.type) hu hui i1 i4 (by omega) m (by omega) (by rw [i3]; exact hroom) (by omega)
            have hge := grownCap_ge w m 0 el
            have hle : m ≤ 140737488355328 := Nat.le_trans (Nat.le_mul_of_pos_right _ hz2) hroom
            refine ⟨.slice (some ⟨w.heap.size, 0, none⟩) m (grownCap w m 0 el), w.drew.alloc (.cells (Builtin.zeroCells z.cells m ++ Builtin.zeroCells z.cells (grownCap w m 0 el - m)) el), .row (.slice (some ⟨w.heap.size, 0, none⟩) m (grownCap w m 0 el)), ?_, ⟨⟨rfl, rfl, rfl, by simp, fun k hk _ => (World.grownBy_alloc w.drew _ none).block k hk (by simp)⟩, Nat.le_succ _⟩, ?_, ?_, ⟨_, last_ref (sat_len sat) _, rfl⟩, rfl, rfl⟩
            · simp only [execOp, ho, resolve, hcal, ha, ht, invoke, builtin, Sem.run_bind, Sem.run_pure, Result.andThen_ok]
              simp [ex, ey, r]
            · intro b hb; rw [has_row] at hb; simp [rowBlk] at hb; obtain ⟨_, rfl⟩ := hb; simp
            · have zsz : z.cells.size = ie.size := by rw [i5]; simpa using tie.zlen
              have hzz : ∀ q, Builtin.zeroCells z.cells q = (repL q ie.zero).toArray := by
                intro q
                unfold Builtin.zeroCells
                rw [i5]
                have := zeros_eq (zero := ie.zero) (n := q) (by rw [tie.zlen]; omega)
                simpa using this
              refine .inr (.inr ⟨w.heap.size, _, _, by rw [List.length_replicate], heap_alloc_new w.drew _, by rw [List.length_replicate]; omega, ⟨by omega, grownCap_le_maxLen w m 0 el (by simp only [maxLen]; omega)⟩, ?_, ?_⟩)
              · simp only [Array.size_append, size_zeroCells, zsz, hz1, ← Nat.add_mul]; congr 1; omega
              · rw [List.length_replicate, hzz, hzz]
                simp only [Array.toList_append, List.toList_toArray]
                rw [List.take_append_of_le_length (by rw [repL_len, tie.zlen, hz1]; exact Nat.le_refl _), hz1, ← tie.zlen, repL_take (Nat.le_refl _)]
                exact RdL_rep (Rd_empty (tie.zshp sh hsh).1) _
        · exact k.elim
      · exact k.elim
    · exact k.elim
  · exact k.elim
theorem repL_at {l : List Value} : ∀ {m j : Nat}, j < m → ((repL m l).drop (j * l.length)).take l.length = l
  | m + 1, 0, _ => by simp [repL, catL_eq]
  | m + 1, j + 1, h => by
    simp only [repL, catL_eq]
    rw [Nat.succ_mul, Nat.add_comm, List.drop_length_add_append]
    exact repL_at (by omega)
theorem makeD_step (hc : TisOK P cx.ti) (sat : Sat N B h0 s h β w a) (hg : GlobOK cx.gd h) (hd : dOK N o.dst = true) {t : TypeId} {x y : Operand} (ho : o.op = .makeSlice t x y) {p : Prop}
    (hp : makeDP cx s o.dst t x y K = some p) (k : p) : OpW P N B h0 h w a o true K := by
  have tr : gv s.gl [] = true := rfl
  unfold makeDP at hp
  split at hp
  · rename_i el hde
    have hu := descOf_und hc hde (by simp)
    split at hp
    · cases hp
    rename_i ie hie
    have tie := hc.get hie
    split at hp
    · rename_i e hsh
      split at hp
      · rename_i tt hte
        split at hp
        · rename_i hz
          rw [andB_eq, andB_eq, Bool.and_eq_true, Bool.and_eq_true] at hz
          have hz1 : 1 = ie.size := Nat.eq_of_beq_eq_true hz.1
          have hz2 : 1 ≤ ie.bytes := Nat.le_of_ble_eq_true hz.2.1
          have hz3 : ie.zero = [nilS] := isNilZ_eq hz.2.2
          split at hp
          · rename_i ik n hn
            split at hp
            · rename_i ik' c hcp
              cases hp
              refine (new_step (G := []) sat rfl hd k.2 fun hgv => ?_).weak
              obtain ⟨s1, s2, s3⟩ := k.1
              have e1 : a.eval x = .int ik n := (getE_ok sat hg hgv hn).1.1
              have e2 : a.eval y = .int ik' c := (getE_ok sat hg hgv hcp).1.1
              obtain ⟨inf, z, i1, i2, i3, i4, i5⟩ := tie.info
              unfold InA at s3
              have hcb : c.toNat ≤ 140737488355328 := Nat.le_trans (Nat.le_mul_of_pos_right _ hz2) s3
              have hb : (inf.bytes : Int) * c ≤ 281474976710656 := by
                rw [i3]
                have : ((c.toNat * ie.bytes : Nat) : Int) ≤ 140737488355328 := by omega
                rw [Int.natCast_mul, Int.toNat_of_nonneg (by omega), Int.mul_comm] at this
                omega
              have r := run_make (P := P) w t el inf z hu i1 i4 ik ik' n c s1 s2 hb (by omega)
              have hmade : madeCells z.cells (c.toNat * inf.size) = (repL c.toNat ie.zero).toArray := by
                unfold madeCells
                rw [i5, i2, ← tie.zlen]
                exact zeros_eq (by rw [tie.zlen]; omega)
              rw [hmade] at r
              have hbn : ∀ {b : Nat}, ¬ rowBlk nilS = some b := by intro b hb'; simp [nilS, rowBlk] at hb'
              refine ⟨.slice (some ⟨w.heap.size, 0, none⟩) n.toNat c.toNat, w.alloc (.cells (repL c.toNat ie.zero).toArray el), .deep (.slice (some ⟨w.heap.size, 0, none⟩) n.toNat c.toNat) (fun _ => nilS), ?_, gb_alloc _ _ _, ?_, ?_, ?_⟩
              · simp only [execOp, ho, e1, e2, Sem.run_bind, r, Result.andThen_ok, Sem.run_pure]
              · intro b hb'
                rw [has_deep] at hb'
                rcases hb' with hb' | ⟨j, hb'⟩
                · simp [rowBlk] at hb'; obtain ⟨_, rfl⟩ := hb'; simp
                · exact absurd hb' hbn
              · refine ⟨fun j k b hb' => absurd hb' hbn, fun j b hb' => absurd hb' hbn, ?_⟩
                by_cases hc0 : c.toNat = 0
                · have hn0 : n.toNat = 0 := by omega
                  exact .inr (.inl ⟨⟨w.heap.size, 0, none⟩, by rw [hc0, hn0], by rw [hn0]; rfl⟩)
                refine .inr (.inr ⟨w.heap.size, c.toNat, _, by rw [List.length_replicate], heap_new _ _, by rw [List.length_replicate]; omega, ⟨by omega, by simp only [maxLen]; omega⟩, ?_, fun j => hbn, fun j dd hj => ?_⟩)
                · simp only [List.size_toArray, repL_len, hz3]; rfl
                · have hj' := (List.getElem?_eq_some_iff.1 hj).1
                  rw [List.length_replicate] at hj'
                  have ed : dd = [] := by
                    have := List.mem_of_getElem? hj
                    exact List.eq_of_mem_replicate this
                  subst ed
                  have ecs : ((repL c.toNat ie.zero).drop (j * 1)).take 1 = [nilS] := by
                    have := repL_at (l := ie.zero) (m := c.toNat) (j := j) (by omega)
                    rw [hz3] at this ⊢
                    exact this
                  show ElH h _ (.sl e) tt e 0 true false nilS (((repL c.toNat ie.zero).drop (j * 1)).take 1) []
                  rw [ecs]
                  exact ⟨[], [], ⟨nilS, rfl, .inl ⟨rfl, rfl⟩⟩, ⟨rfl, rfl, rfl⟩, rfl, .inl ⟨rfl, rfl⟩⟩
              · exact ⟨⟨_, last_ref (sat_len sat) _, rfl⟩, rfl, rfl⟩
            · cases hp
          · cases hp
        · cases hp
      · cases hp
    · cases hp
  · cases hp
/-! Slices whose room ends where they end. -/
theorem OK.addGoneV {T : List Res} (ok : OK B h0 T h β w) (v : RV) : OK B h0 (T ++ [.gone]) h (β ++ [v]) w where
  below := ok.below
  dr := ok.dr
  len := by simp [ok.len]
  holds := by
    intro i r' v' e e'
    rcases getElem?_append_some e with ⟨hi, e⟩ | ⟨hi, rfl⟩
    · rcases getElem?_append_some e' with ⟨_, e'⟩ | ⟨hj, _⟩
      · exact (ok.holds i r' v' e e').move (FH.le.refl h) (Ext.append _ _) fun hl b hb => rfl
      · have := ok.len; omega
    · cases v' <;> trivial
  own := by
    intro i r' v' b e hl e' hb
    rcases getElem?_append_some e with ⟨hi, e⟩ | ⟨hi, rfl⟩
    · rcases getElem?_append_some e' with ⟨_, e'⟩ | ⟨hj, _⟩
      · exact ok.own i r' v' b e hl e' hb
      · have := ok.len; omega
    · cases hl
  inj := by
    intro i j r1 r2 u v' b ei hl1 ej hl2 eu ev hu hv'
    have L := ok.len
    rcases getElem?_append_some ei with ⟨hi, ei⟩ | ⟨hi, rfl⟩
    · rcases getElem?_append_some ej with ⟨hj, ej⟩ | ⟨hj, rfl⟩
      · rcases getElem?_append_some eu with ⟨_, eu⟩ | ⟨hi', _⟩
        · rcases getElem?_append_some ev with ⟨_, ev⟩ | ⟨hj', _⟩
          · exact ok.inj i j r1 r2 u v' b ei hl1 ej hl2 eu ev hu hv'
          · omega
        · omega
      · cases hl2
    · cases hl1
  hle := ok.hle
  hw := ok.hw
  hg := ok.hg
  kn := ok.kn
theorem setL_frz_snoc {i : Nat} {z : SC} {g g' : Gd × Res} : ∀ {T : List (Gd × Res)}, setL (frzT i z (snoc T g)) (lenL T) g' = snoc (frzT i z T) g'
  | [] => rfl
  | x :: T => by
    show setL (_ :: frzT i z (snoc T g)) (lenL T + 1) g' = _ :: snoc (frzT i z T) g'
    show _ :: setL (frzT i z (snoc T g)) (lenL T) g' = _
    rw [setL_frz_snoc]
theorem ful_step (hc : TisOK P cx.ti) (sat : Sat N B h0 s h β w a) (hg : GlobOK cx.gd h) (hd : dOK N o.dst = true) {t : TypeId} {x m : Operand} {lo hi : Option Operand} (ho : o.op = .slice t x lo hi (some m))
    (k : fulK cx s o.dst t x lo hi m K) : OpW P N B h0 h w a o true K := by
  have tr : gv s.gl [] = true := rfl
  unfold fulK at k
  split at k
  · rename_i el hde
    have hu := descOf_und hc hde (by simp)
    split at k
    · exact k.elim
    rename_i ie hie
    have tie := hc.get hie
    split at k
    · exact k.elim
    rename_i hlo
    split at k
    · exact k.elim
    rename_i hh
    split at k
    · rename_i ik n hn
      split at k
      · rename_i ik' n' hn'
        split at k
        · rename_i sh l hx
          split at k
          · rename_i hz
            have hz : ie.size = sh.size := Nat.eq_of_beq_eq_true hz
            obtain ⟨⟨b1, b2, b3⟩, k⟩ := k
            subst b3
            have eh : a.eval hh = .int ik n := (getE_ok sat hg tr hn : CnV h β (.c (.v (.int ik n))) (a.eval hh)).1.1
            have em : a.eval m = .int ik' n := (getE_ok sat hg tr hn' : CnV h β (.c (.v (.int ik' n))) (a.eval m)).1.1
            have cx' := (getE_ok sat hg tr hx : CnV h β (.c (.sl sh l)) (a.eval x))
            have hlo' : lo.map a.eval = none ∨ ∃ k, lo.map a.eval = some (.int k 0) := by
              cases lo with
              | none => exact .inl rfl
              | some z =>
                obtain ⟨kz, rfl⟩ := isZ0_eq (show isZ0 z = true from hlo)
                exact .inr ⟨kz, rfl⟩
            have run : ∀ (ad : Option Addr) (len cap : Nat), a.eval x = .slice ad len cap → n ≤ len → len ≤ cap → (execOp a.eval o).run P w = .ok (.value (.slice ad n.toNat n.toNat)) w := by
              intro ad len cap ev h1 h2
              have hb : (0 : Int) ≤ n ∧ n ≤ cap := by omega
              have bnds : (Instr.sliceBounds true len cap (lo.map a.eval) (some (.int ik n)) (some (.int ik' n))).run P w = .ok (0, n.toNat, n.toNat) w := by
                unfold Instr.sliceBounds
                rcases hlo' with e | ⟨k, e⟩
                · rw [e]
                  simp [Instr.sliceBound, asIntOf, hb]
                  omega
                · rw [e]
                  simp [Instr.sliceBound, asIntOf, hb]
                  omega
              have r2 : (Instr.sliceAt t (a.eval x) (lo.map a.eval) ((some hh).map a.eval) ((some m).map a.eval)).run P w = .ok (.slice ad n.toNat n.toNat) w := by
                rw [ev]
                simp only [Instr.sliceAt, Instr.slice, Sem.run_bind, run_underlying hu, Result.andThen_ok, Option.map_some, eh, em, bnds, run_sizeOf tie, Sem.run_pure]
                cases ad <;> simp [Addr.add]
              simp only [execOp, ho, Sem.run_bind]
              rw [r2]; rfl
            rcases cx'.1 with ⟨ev, hl⟩ | ⟨ra, cap, ev, hl, hc'⟩ | ⟨b, off, cap, ev, q1, q2, cs, rd, at_⟩
            · have hn0 : n.toNat = 0 := by rw [hl] at b2; simp at b2; omega
              refine val_step sat hd (e := .one (.c (.abs (.ful sh (l.take n.toNat))))) (run none 0 0 ev (by rw [hl] at b2; simpa using b2) (Nat.le_refl _)) ⟨⟨?_, none, _, rfl⟩, rfl, rfl⟩ k
              rw [hn0, hl]; exact .inl ⟨rfl, rfl⟩
            · have hn0 : n.toNat = 0 := by rw [hl] at b2; simp at b2; omega
              refine val_step sat hd (e := .one (.c (.abs (.ful sh (l.take n.toNat))))) (run (some ra) 0 cap ev (by rw [hl] at b2; simpa using b2) (Nat.zero_le _)) ⟨⟨?_, some ra, _, rfl⟩, rfl, rfl⟩ k
              rw [hn0, hl]; exact .inr (.inl ⟨ra, 0, rfl, rfl, Nat.zero_le _⟩)
            · have hlen : (l.take n.toNat).length = n.toNat := by rw [List.length_take]; omega
              refine val_step sat hd (e := .one (.c (.abs (.ful sh (l.take n.toNat))))) (run (some ⟨b, off, none⟩) l.length cap ev b2 q1) ⟨⟨.inr (.inr ⟨b, off, n.toNat, by rw [hlen], by rw [hlen]; exact Nat.le_refl _, by omega, cs.take (n.toNat * sh.size), ?_, ?_⟩), _, _, rfl⟩, rfl, rfl⟩ k
              · have := RdL.takeDrop (fun _ _ => Rd.size sh) rd (a := 0) (b := n.toNat) (Nat.zero_le _) (by omega)
                simpa using this
              · have := at_.shift (n.toNat * sh.size) 0
                simpa using this
          · exact k.elim
        · exact k.elim
      · exact k.elim
    · exact k.elim
  · exact k.elim
theorem run_append_ful {t ty el : TypeId} {i : TI} {sh : Sh} {v sv : Value} {l l2 : List sh.den} (hu : P.underlying t = some (.slice el)) (k : TIOK P el i) (hs : sh.size = i.size)
    (hb1 : 1 ≤ i.bytes) (hs1 : 1 ≤ i.size) (row : SlAt h (Rd h sh) v l ∧ ∃ a n, v = .slice a n n) (src : SrcIs h w sh sv l2) (room : InA (l.length + l2.length) i.bytes)
    (hw : ∀ b o u, h b o = some u → vis w b o = some u) :
    ∃ v' w', (Builtin.append_ #[t, t] ty #[v, sv]).run P w = .ok v' w' ∧ ((l2 = [] ∧ v' = v ∧ w' = w) ∨ (Gb w w' none ∧ (∀ b, rowBlk v' = some b → w.heap.size ≤ b ∧ b < w'.heap.size) ∧ RowIs h w' el sh v' (l ++ l2))) := by
  obtain ⟨inf, z, i1, i2, i3, i4, i5⟩ := k.info
  unfold InA at room
  obtain ⟨row, va, vn, ve⟩ := row
  have hn : l.length + l2.length ≤ 140737488355328 := Nat.le_trans (Nat.le_mul_of_pos_right _ hb1) room
  have zsz : z.cells.size = i.size := by rw [i5]; simpa using k.zlen
  rcases src with ⟨rfl, rfl⟩ | ⟨sa, sc, rfl, rfl⟩ | ⟨b, o, c, cs, rfl, rd, at_⟩
  · refine ⟨v, w, ?_, .inl ⟨rfl, rfl, rfl⟩⟩
    rcases row with ⟨rfl, rfl⟩ | ⟨_, cp, rfl, rfl, _⟩ | ⟨g, off, cap, rfl, q1, q2, q3⟩
    · simp [Builtin.append_, run_underlying hu, sizeOf, typeInfo, i1, Builtin.lenOf, Builtin.firstCells]
    · simp [Builtin.append_, run_underlying hu, sizeOf, typeInfo, i1, Builtin.lenOf, Builtin.firstCells, storeCells]
    · simp [Builtin.append_, run_underlying hu, sizeOf, typeInfo, i1, Builtin.lenOf, Builtin.firstCells, q1, storeCells]
  · refine ⟨v, w, ?_, .inl ⟨rfl, rfl, rfl⟩⟩
    rcases row with ⟨rfl, rfl⟩ | ⟨_, cp, rfl, rfl, _⟩ | ⟨g, off, cap, rfl, q1, q2, q3⟩
    · simp [Builtin.append_, run_underlying hu, sizeOf, typeInfo, i1, Builtin.lenOf, Builtin.firstCells, loadCells, loadCellsFrom]
    · simp [Builtin.append_, run_underlying hu, sizeOf, typeInfo, i1, Builtin.lenOf, Builtin.firstCells, storeCells, loadCells, loadCellsFrom]
    · simp [Builtin.append_, run_underlying hu, sizeOf, typeInfo, i1, Builtin.lenOf, Builtin.firstCells, q1, storeCells, loadCells, loadCellsFrom]
  · have hcs : cs.length = l2.length * inf.size := by rw [RdL.size (fun _ _ => Rd.size sh) rd, i2, hs]
    have hnews : ∀ j u, cs[j]? = some u → w.cell? ((⟨b, o, none⟩ : Addr).add j) = some u := fun j u e => by rw [add_lit]; exact at_ j u e
    by_cases hm : l2.length = 0
    · have : l2 = [] := List.eq_nil_of_length_eq_zero hm
      subst this
      refine ⟨v, w, ?_, .inl ⟨rfl, rfl, rfl⟩⟩
      rcases row with ⟨rfl, rfl⟩ | ⟨_, cp, rfl, rfl, _⟩ | ⟨g, off, cap, rfl, q1, q2, q3⟩
      · simp [Builtin.append_, run_underlying hu, sizeOf, typeInfo, i1, Builtin.lenOf, Builtin.firstCells, loadCells, loadCellsFrom]
      · simp [Builtin.append_, run_underlying hu, sizeOf, typeInfo, i1, Builtin.lenOf, Builtin.firstCells, storeCells, loadCells, loadCellsFrom]
      · simp [Builtin.append_, run_underlying hu, sizeOf, typeInfo, i1, Builtin.lenOf, Builtin.firstCells, q1, storeCells, loadCells, loadCellsFrom]
    · rcases row with ⟨rfl, rfl⟩ | ⟨ra, cp, rfl, rfl, hcp⟩ | ⟨g, off, cap, rfl, q1, q2, c0, q3, q4⟩
      · have r := run_append_nil (P := P) w t ty el inf z hu i1 i4 ⟨b, o, none⟩ l2.length c cs hcs hnews (by omega) (by simp at hn; omega) (by rw [i3]; simp at room; omega)
        have hge := grownCap_ge w l2.length 0 el
        refine ⟨_, _, r, .inr ⟨⟨⟨rfl, rfl, rfl, by simp, fun k hk _ => (World.grownBy_alloc w.drew _ none).block k hk (by simp)⟩, Nat.le_succ _⟩, ?_, ?_⟩⟩
        · intro b' hb'; simp [rowBlk] at hb'; obtain ⟨_, rfl⟩ := hb'; simp
        · refine .inr (.inr ⟨w.heap.size, _, _, rfl, heap_alloc_new w.drew _, by simpa using hge, ⟨by omega, grownCap_le_maxLen w l2.length 0 el (by simp only [maxLen]; simp at hn; omega)⟩, ?_, ?_⟩)
          · simp only [Array.size_append, List.size_toArray, size_zeroCells, zsz, hcs, i2, hs, ← Nat.add_mul]
            congr 1; omega
          · simp only [Array.toList_append, List.nil_append]
            rw [show l2.length * sh.size = cs.length by rw [hcs, i2, hs], List.take_left]
            exact rd
      · have hcp0 : cp = 0 := by cases ve; rfl
        subst hcp0
        have r := run_append_grow (P := P) w t ty el inf z hu i1 i4 ra 0 0 [] (by simp) (fun j u e => by simp at e) ⟨b, o, none⟩ l2.length c cs hcs hnews (by omega) (by simp at hn; omega) (growslice_fits (by omega) (by rw [i3]; simpa using room))
        rw [Nat.zero_add] at r
        have hge := grownCap_ge w l2.length 0 el
        refine ⟨_, _, r, .inr ⟨⟨⟨rfl, rfl, rfl, by simp, fun k hk _ => (World.grownBy_alloc w.drew _ none).block k hk (by simp)⟩, Nat.le_succ _⟩, ?_, ?_⟩⟩
        · intro b' hb'; simp [rowBlk] at hb'; obtain ⟨_, rfl⟩ := hb'; simp
        · refine .inr (.inr ⟨w.heap.size, _, _, rfl, heap_alloc_new w.drew _, by simpa using hge, ⟨by omega, grownCap_le_maxLen w l2.length 0 el (by simp only [maxLen]; simp at hn; omega)⟩, ?_, ?_⟩)
          · simp only [Array.size_append, List.size_toArray, size_zeroCells, zsz, List.nil_append, hcs, i2, hs, Nat.zero_add, List.length_nil, ← Nat.add_mul]
            congr 1; omega
          · simp only [Array.toList_append, List.nil_append]
            rw [show l2.length * sh.size = cs.length by rw [hcs, i2, hs], List.take_left]
            exact rd
      · have hcap : cap = l.length := by injection ve with e1 e2 e3; omega
        subst hcap
        have lsz := RdL.size (fun _ _ => Rd.size sh) q3
        have hol : c0.length = l.length * inf.size := by rw [lsz, i2, hs]
        have holds : ∀ j u, c0[j]? = some u → w.cell? ((⟨g, off, none⟩ : Addr).add j) = some u := by
          intro j u e
          rw [add_lit]
          exact vis_cell (hw _ _ _ (q4 j u e)) (RdL.all (fun _ _ => Rd.one _) q3 u (List.mem_of_getElem? e)).2
        have r := run_append_grow (P := P) w t ty el inf z hu i1 i4 ⟨g, off, none⟩ l.length l.length _ hol holds ⟨b, o, none⟩ l2.length c cs hcs hnews (by omega) (by omega) (growslice_fits (by omega) (by rw [i3]; exact room))
        have hge := grownCap_ge w (l.length + l2.length) l.length el
        refine ⟨_, _, r, .inr ⟨⟨⟨rfl, rfl, rfl, by simp, fun k hk _ => (World.grownBy_alloc w.drew _ none).block k hk (by simp)⟩, Nat.le_succ _⟩, ?_, ?_⟩⟩
        · intro b' hb'; simp [rowBlk] at hb'; obtain ⟨_, rfl⟩ := hb'; simp
        · refine .inr (.inr ⟨w.heap.size, _, _, by rw [List.length_append], heap_alloc_new w.drew _, by rw [List.length_append]; exact hge, ⟨by omega, grownCap_le_maxLen w _ l.length el (by simp only [maxLen]; omega)⟩, ?_, ?_⟩)
          · have lsz2 : c0.length = l.length * i.size := by rw [← hs]; exact lsz
            simp only [Array.size_append, List.size_toArray, size_zeroCells, zsz, hcs, i2, hs, lsz2, ← Nat.add_mul]
            congr 1
            omega
          · simp only [Array.toList_append, List.append_assoc]
            rw [← List.append_assoc, show (l ++ l2).length * sh.size = (c0 ++ cs).length by rw [List.length_append, List.length_append, Nat.add_mul, hcs, lsz, i2, hs], List.take_left]
            exact q3.append rd
theorem appFul_step (hc : TisOK P cx.ti) (sat : Sat N B h0 s h β w a) (hg : GlobOK cx.gd h) (hd : dOK N o.dst = true) {t : TypeId} {x y : Operand} {c : Call} (ho : o.op = .call c) (hcal : c.callee = .builtin .append) (ha : c.args = #[x, y]) (ht : c.argTypes = #[t, t])
    (k : appFulK cx s o.dst t x y K) : OpW P N B h0 h w a o true K := by
  have tr : gv s.gl [] = true := rfl
  unfold appFulK isOneOf at k
  split at k
  · rename_i el hde
    have hu := descOf_und hc hde (by simp)
    split at k
    · exact k.elim
    rename_i ie hie
    have tie := hc.get hie
    split at k
    · exact k.elim
    rename_i sh hsh
    split at k
    · rename_i hz
      rw [andB_eq, andB_eq, Bool.and_eq_true, Bool.and_eq_true] at hz
      have hz1 : sh.size = ie.size := Nat.eq_of_beq_eq_true hz.1
      have hz2 : 1 ≤ ie.bytes := Nat.le_of_ble_eq_true hz.2.1
      have hz3 : 1 ≤ ie.size := Nat.le_of_ble_eq_true hz.2.2
      split at k
      · rename_i sh1 l1 hx
        split at k
        · rename_i l hl
          obtain ⟨e1, e2⟩ := castSl hl
          subst e1; simp only at e2; subst e2
          split at k
          · rename_i v2 hv2
            have c2 := getE_ok sat hg tr hv2
            split at k
            · rename_i l2 hl2
              obtain ⟨k1, k⟩ := k
              have src := srcD_ok sat hl2 c2
              have cx' := (getE_ok sat hg tr hx : CnV h β (.c (.abs (.ful sh1 l1))) (a.eval x))
              obtain ⟨v', w', r1, r2⟩ := run_append_ful (P := P) (ty := o.type) hu tie hz1 hz2 hz3 cx'.1 src k1 sat.ok.hw
              have exec : (execOp a.eval o).run P w = .ok (.value v') w' := by
                have r1' := r1
                simp [execOp, ho, resolve, hcal, ha, ht, invoke, builtin, r1']
              have hlen : lenL s.T = β.length := by rw [sat.ok.len, eff_len, lenL_eq]
              have gT : ∀ (r : Res), ∀ p ∈ snoc s.T (([] : Gd), r), gbd s.gl.length p.1 = true := by
                intro r p hp
                rw [snoc_eq, List.mem_append] at hp
                rcases hp with hp | hp
                · exact sat.gT p hp
                · simp at hp; subst hp; rfl
              have fin : ∀ (r : Res) (h' : FH) (s1 : Sat N B h0 { s with T := snoc s.T ([], r) } h (β ++ [.row v']) w' a), h.le h' → OK B h0 ((eff s.gl (snoc s.T ([], r))).set (lenL s.T) .gone) h' (β ++ [.row v']) w' → SlAt h' (Rd h' sh1) v' (l1 ++ l2) → OpW P N B h0 h w a o true K := by
                intro r h' s1 le ok' sl
                have hT' : (eff s.gl (snoc s.T (([] : Gd), r)))[lenL s.T]? = some r := by
                  rw [eff_snoc, hlen, sat.ok.len, List.getElem?_append_right (Nat.le_refl _), Nat.sub_self]; rfl
                have sat2 := s1.frzAny (z := .sl sh1 (l1 ++ l2)) (i := lenL s.T) (u := .row v') (v := v') hT' (by rw [hlen]; simp) rfl le ok' sl
                rw [show setL (frzT (lenL s.T) (.sl sh1 (l1 ++ l2)) (snoc s.T (([] : Gd), r))) (lenL s.T) (([] : Gd), Res.gone) = snoc (frzT (lenL s.T) (.sl sh1 (l1 ++ l2)) s.T) (([] : Gd), Res.gone) from setL_frz_snoc] at sat2
                intro Nx Q next
                rw [if_pos rfl]
                exact wp_value exec (next _ _ _ _ _ k le (sat2.put (dOK_lt hd) rfl (fun _ => ⟨sl, sl.oneC⟩) fun hh => by cases hh))
              rcases r2 with ⟨e1, e2, e3⟩ | ⟨r2, r3, r4⟩
              · have hw' : w = w' := e3.symm
                subst hw'; subst e2; subst e1
                have ok : OK B h0 (eff s.gl (snoc s.T (([] : Gd), Res.gone))) h (β ++ [.row (a.eval x)]) w := by rw [eff_snoc]; exact sat.ok.addGoneV _
                have s1 := sat.mem ok (FH.le.refl h) (Ext.append _ _) (gT .gone)
                refine fin .gone h s1 (FH.le.refl h) ?_ (by rw [List.append_nil]; exact cx'.1.1)
                rw [set_same]
                · exact ok
                · rw [eff_snoc, hlen, sat.ok.len, List.getElem?_append_right (Nat.le_refl _), Nat.sub_self]; rfl
              · have ok : OK B h0 (eff s.gl (snoc s.T (([] : Gd), Res.row el sh1 (l1 ++ l2)))) h (β ++ [.row v']) w' := by
                  rw [eff_snoc]
                  exact sat.ok.add r2 (fun b hb => r3 b (has_row.1 hb)) r4
                have s1 := sat.mem ok (FH.le.refl h) (Ext.append _ _) (gT _)
                have hT' : (eff s.gl (snoc s.T (([] : Gd), Res.row el sh1 (l1 ++ l2))))[lenL s.T]? = some (.row el sh1 (l1 ++ l2)) := by
                  rw [eff_snoc, hlen, sat.ok.len, List.getElem?_append_right (Nat.le_refl _), Nat.sub_self]; rfl
                obtain ⟨h', le, ok', sl⟩ := ok.freeze hT' (show (β ++ [.row v'])[lenL s.T]? = some (.row v') by rw [hlen]; simp)
                exact fin _ h' s1 le ok' sl
            · exact k.elim
          · exact k.elim
        · exact k.elim
      · exact k.elim
    · exact k.elim
  · exact k.elim
theorem extP_ok (hc : TisOK P cx.ti) (sat : Sat N B h0 s h β w a) (hg : GlobOK cx.gd h) (hd : dOK N o.dst = true) {ops : Array Oper} {p : Prop} (e : extP cx s o K = some p) (k : p) : OpW P N B h0 h w a o (Region.wanted o (yielded ops a.tmps)) K := by
  unfold extP at e
  split at e
  · cases e
  rename_i hgd
  rw [show Region.wanted o (yielded ops a.tmps) = true by simp [Region.wanted, hgd]]
  split at e
  · rename_i t x lo hi mx ho
    split at e
    · rename_i m
      split at e
      · rename_i hm
        cases e
        exact emp_step hc sat hg hd ho hm k
      · cases e
        exact ful_step hc sat hg hd ho k
    · split at e
      · rename_i i hx
        cases e
        exact trunc_step hc sat hg hd ho hx k
      · rename_i hx
        cases e
        exact nil_step hc sat hg hd ho hx k
      · cases e
  · rename_i op t x y t' ho
    split at e
    · cases e
    · rename_i eq he
      split at e
      · rename_i hy
        split at e
        · rename_i z hx
          split at e
          · rename_i hz
            rw [andB_eq, Bool.and_eq_true] at hz
            cases e
            exact nilEq_step hc sat hg hd ho he hy hx hz.1 hz.2 k
          · cases e
        · cases e
      · cases e
  · rename_i c ho
    split at e
    · rename_i hcal
      split at e
      · rename_i x y ha
        split at e
        · rename_i t t' ht
          split at e
          · rename_i hb
            have hb : t = t' := Nat.eq_of_beq_eq_true hb
            subst hb
            split at e
            · cases e
              exact appFul_step hc sat hg hd ho hcal (tl_eq ha) (tl_eq ht) k
            · cases e
          · split at e
            · rename_i hx
              cases e
              exact appZ_step hc sat hg hd ho hcal (tl_eq ha) (tl_eq ht) hx k
            · cases e
        · cases e
      · cases e
    · rename_i hcal
      split at e
      · rename_i x ha
        split at e
        · rename_i t ht
          cases e
          exact cap_step hc sat hg hd ho hcal (tl_eq ha) (tl_eq ht) k
        · cases e
      · cases e
    · rename_i hcal
      split at e
      · rename_i x y ha
        cases e
        exact max_step sat hg hd ho hcal (tl_eq ha) k
      · cases e
    · cases e
  · rename_i t ln cp ho
    split at e
    · exact makeD_step hc sat hg hd ho e k
    · cases e
  · rename_i t n ps ho
    split at e
    · cases e
    · rename_i i r hr
      cases e
      obtain ⟨h', le, sat'⟩ := sat.frz (l := i :: r)
      have := buildSlice_step hc sat' (hg.mono le) (G := []) rfl hd ho k
      exact OpW.le le this.weak
  · cases e
end
end Go.Eng
