/- The engine, part K: operations that make or write memory. -/
import Derived.Test.YtklnffdjhoacoaaDoorEngJ
set_option linter.unusedSimpArgs false
set_option linter.unusedVariables false
namespace Go.Eng
open Go Go.RowKit

theorem Gro.of_grown {w w' : World} (h : Gb w w' none) : Gro w w' := ⟨h.size, fun k hk => h.block k hk (by simp)⟩
theorem Gro.of_below {w w' : World} (h : Below w.heap.size w w') : Gro w w' := ⟨h.size, h.block⟩
/-- Operations that change no block that stands. -/
def quietly : Op → Bool
  | .store .. => false
  | .call c => match c.callee with
    | .builtin .len => true
    | .builtin _ => false
    | _ => true
  | _ => true

/-- One operation is met: whatever follows holds where its continuation does. -/
def OpOK (P : Program) (N : Nat) (B : Base) (h0 : FH) (h : FH) (w : World) (a : Act) (o : Oper) (wanted : Bool) (K : St → Prop) : Prop :=
  ∀ (Nx : Act → World → Prop) (Q : Exit → Act → World → Prop),
    (∀ s' h' β' w' v, K s' → h.le h' → (quietly o.op = true → Gro w w') → Sat N B h0 s' h' β' w' (a.put o.dst v) → Nx (a.put o.dst v) w') →
    if wanted = true then o.wp P a w Nx Q else Nx (a.put o.dst undef) w

theorem wp_value {P : Program} {o : Oper} {a : Act} {w w' : World} {Nx : Act → World → Prop} {Q : Exit → Act → World → Prop} {v : Value} (h : (execOp a.eval o).run P w = .ok (.value v) w') (k : Nx (a.put o.dst v) w') : o.wp P a w Nx Q := by
  unfold Oper.wp; rw [h]; exact k
theorem wp_skip' {P : Program} {o : Oper} {a : Act} {w w' : World} {Nx : Act → World → Prop} {Q : Exit → Act → World → Prop} (h : (execOp a.eval o).run P w = .ok .skip w') (k : Nx (a.put o.dst undef) w') : o.wp P a w Nx Q := by
  unfold Oper.wp; rw [h]; exact k

@[reducible] def dOK (n : Nat) : Option Nat → Bool
  | none => true
  | some d => Nat.ble (d + 1) n
theorem dOK_lt {n : Nat} {d : Option Nat} (h : dOK n d = true) : ∀ k, d = some k → k < n := by
  intro k hk; subst hk
  have := Nat.le_of_ble_eq_true h; omega

section
variable {cx : Cx} {P : Program} {N : Nat} {B : Base} {h0 : FH} {s : St} {h : FH} {β : List RV} {w : World} {a : Act} {G : Gd} {o : Oper} {K : St → Prop}

theorem pure_step (hc : TisOK P cx.ti) (sat : Sat N B h0 s h β w a) (hg : GlobOK cx.gd h) (hG : gbd s.gl.length G = true) (hd : dOK N o.dst = true) (k : pureK cx s G o fun e => K (s.put o.dst G e)) :
    OpOK P N B h0 h w a o (gv s.gl G) K := by
  intro Nx Q next
  obtain ⟨e, k1, k2⟩ := pureK_ok hc sat hg k
  cases hgv : gv s.gl G with
  | true =>
    obtain ⟨v, r, c⟩ := k2 hgv
    rw [if_pos rfl]
    exact wp_value r (next _ _ _ _ _ k1 (FH.le.refl h) (fun _ => Gro.refl w) (sat.put (dOK_lt hd) hG (fun _ => c) fun hh => by rw [hgv] at hh; cases hh))
  | false =>
    rw [if_neg (by simp)]
    exact next _ _ _ _ _ k1 (FH.le.refl h) (fun _ => Gro.refl w) (sat.put (dOK_lt hd) hG (fun hh => by rw [hgv] at hh; cases hh) fun _ => rfl)

theorem grown_refl (w : World) (r : Option Nat) : Gb w w r := ⟨⟨rfl, rfl, rfl, Nat.le_refl _, fun _ _ _ => rfl⟩, Nat.le_refl _⟩

/-- A new resource, and a value that leads to it; where the operation is not wanted, nothing. -/
theorem new_step (sat : Sat N B h0 s h β w a) (hG : gbd s.gl.length G = true) (hd : dOK N o.dst = true) {r : Res} {e : Ent} (k : K ({ s with T := snoc s.T (G, r) }.put o.dst G e))
    (run : gv s.gl G = true → ∃ v w' rv, (execOp a.eval o).run P w = .ok (.value v) w' ∧ Gb w w' none ∧ (∀ b, rv.block = some b → w.heap.size ≤ b ∧ b < w'.heap.size) ∧
      Holds h (β ++ [rv]) w' r rv ∧ CnE h (β ++ [rv]) e v) :
    OpOK P N B h0 h w a o (gv s.gl G) K := by
  intro Nx Q next
  have gT : ∀ p ∈ snoc s.T (G, r), gbd s.gl.length p.1 = true := by
    intro p hp
    rw [snoc_eq, List.mem_append] at hp
    rcases hp with hp | hp
    · exact sat.gT p hp
    · simp at hp; subst hp; exact hG
  cases hgv : gv s.gl G with
  | true =>
    obtain ⟨v, w', rv, h1, h2, h3, h4, h5⟩ := run hgv
    rw [if_pos rfl]
    refine wp_value h1 (next _ h (β ++ [rv]) _ _ k (FH.le.refl h) (fun _ => Gro.of_grown h2) ?_)
    have ok : OK B h0 (eff s.gl (snoc s.T (G, r))) h (β ++ [rv]) w' := by
      rw [eff_snoc, hgv]
      exact sat.ok.add h2 h3 h4
    exact (sat.mem ok (FH.le.refl h) (Ext.append _ _) gT).put (dOK_lt hd) hG (fun _ => h5) fun hh => by simp only at hh; rw [hgv] at hh; cases hh
  | false =>
    rw [if_neg (by simp)]
    refine next _ h (β ++ [.no]) _ _ k (FH.le.refl h) (fun _ => Gro.refl w) ?_
    have ok : OK B h0 (eff s.gl (snoc s.T (G, r))) h (β ++ [.no]) w := by
      rw [eff_snoc, hgv]
      exact sat.ok.add (grown_refl w none) (fun b hb => by cases hb) trivial
    exact (sat.mem ok (FH.le.refl h) (Ext.append _ _) gT).put (dOK_lt hd) hG (fun hh => by simp only at hh; rw [hgv] at hh; cases hh) fun _ => rfl

/-- A resource is changed in place, or moves; only where no guard stands. -/
theorem upd_step (sat : Sat N B h0 s h β w a) {s' : St} (k : K s') {h' : FH} {β' : List RV} {w' : World} {v : Value} (hgv : gv s.gl G = true) (hq : quietly o.op = false)
    (run : (execOp a.eval o).run P w = .ok (.value v) w' ∨ ((execOp a.eval o).run P w = .ok .skip w' ∧ v = undef)) (le : h.le h') (sat' : Sat N B h0 s' h' β' w' (a.put o.dst v)) :
    OpOK P N B h0 h w a o (gv s.gl G) K := by
  intro Nx Q next
  rw [if_pos hgv]
  rcases run with run | ⟨run, rfl⟩
  · exact wp_value run (next _ _ _ _ _ k le (fun hh => by rw [hq] at hh; cases hh) sat')
  · exact wp_skip' run (next _ _ _ _ _ k le (fun hh => by rw [hq] at hh; cases hh) sat')
end

/-! alloc, box. -/

@[reducible] def hasArr : Sh → Bool
  | .arr _ _ => true
  | .pair a b => match hasArr a with
    | true => true
    | false => hasArr b
  | _ => false
@[reducible] def zeroRes (t : TypeId) (i : TI) : Res := match i.shp with
  | some s => match hasArr s with
    | true => .obj t s (zdat s)
    | false => .blk t (mapL SC.v i.zero)
  | none => .blk t (mapL SC.v i.zero)

@[reducible] def allocK (cx : Cx) (s : St) (G : Gd) (d : Option Nat) (t : TypeId) (K : St → Prop) : Prop := match lkT cx.ti t with
  | none => False
  | some i => K ({ s with T := snoc s.T (G, zeroRes t i) }.put d G (.one (.c (.own (lenL s.T) 0))))

@[reducible] def boxRes (t : TypeId) (v : SV) : Option Res := match v with
  | .dat sh d => some (.obj t sh d)
  | v => match svCells v with
    | some xs => some (.blk t xs)
    | none => none

@[reducible] def boxK (cx : Cx) (s : St) (G : Gd) (d : Option Nat) (t : TypeId) (x : Operand) (K : St → Prop) : Prop := match getE cx s G x with
  | some (.one v) => match boxRes t v with
    | some r => K ({ s with T := snoc s.T (G, r) }.put d G (.one (.c (.own (lenL s.T) 0))))
    | none => False
  | _ => False

theorem heap_new (w : World) (o : Obj) : (w.alloc o).heap[w.heap.size]? = some o := heap_alloc_new w o

theorem boxRes_ok {h : FH} {β : List RV} {t : TypeId} {v : SV} {r : Res} {y : Value} {w : World} {b : Nat} (e : boxRes t v = some r) (c : CnV h β v y) {β' : List RV} (eb : Ext β β')
    (hw : w.heap[b]? = some (.cells y.cells t (0, 0))) : Holds h β' w r (.blk b) := by
  unfold boxRes at e
  split at e
  · cases e
    obtain ⟨_, cs, rfl, rd⟩ := c
    exact ⟨cs, hw, rd⟩
  · split at e
    · rename_i xs hx
      cases e
      refine ⟨y.cells.toList, by simpa using hw, (svCells_ok hx c).mono fun _ _ ⟨p, q⟩ => ⟨p.mono (FH.le.refl h) eb, q⟩⟩
    · cases e

section
variable {cx : Cx} {P : Program} {N : Nat} {B : Base} {h0 : FH} {s : St} {h : FH} {β : List RV} {w : World} {a : Act} {G : Gd} {o : Oper} {K : St → Prop}

theorem last_ref {β : List RV} {n : Nat} (hn : β.length = n) (v : RV) : (β ++ [v])[n]? = some v := by
  subst hn; simp

theorem sat_len (sat : Sat N B h0 s h β w a) : β.length = lenL s.T := by
  rw [sat.ok.len, eff_len, lenL_eq]

theorem Rd_empty {h : FH} {s : Sh} {cs : List Value} {d : s.den} (r : Rd (fun _ _ => none) s cs d) : Rd h s cs d := r.mono (fun _ _ _ e => by cases e) s

theorem alloc_step (hc : TisOK P cx.ti) (sat : Sat N B h0 s h β w a) (hG : gbd s.gl.length G = true) (hd : dOK N o.dst = true) {t : TypeId} (ho : o.op = .alloc t) (k : allocK cx s G o.dst t K) :
    OpOK P N B h0 h w a o (gv s.gl G) K := by
  unfold allocK at k
  split at k
  · exact k.elim
  rename_i i hi
  have ti := hc.get hi
  refine new_step sat hG hd k fun hgv => ?_
  obtain ⟨z, hz1, hz2⟩ := run_zero ti w
  refine ⟨.pointer (some ⟨w.heap.size, 0, none⟩), w.alloc (.cells z.cells t), .blk w.heap.size, ?_, gb_alloc _ _ _, ?_, ?_, ?_⟩
  · simp only [execOp, ho, Instr.alloc, newVar, newRow, Sem.run_bind, hz1, Result.andThen_ok, run_newObj, Sem.run_pure]
    rfl
  · intro b hb; simp [RV.block] at hb; subst hb; simp
  · have hn := heap_new w (.cells z.cells t)
    unfold zeroRes
    split
    · rename_i sh hs
      split
      · exact ⟨i.zero, by rw [hn, hz2], Rd_empty (ti.zshp _ hs).1⟩
      · exact ⟨i.zero, by rw [hn, hz2], cells_const ti.zone⟩
    · exact ⟨i.zero, by rw [hn, hz2], cells_const ti.zone⟩
  · exact ⟨⟨_, last_ref (sat_len sat) _, rfl⟩, oneC_ptr _⟩

theorem box_step (hc : TisOK P cx.ti) (sat : Sat N B h0 s h β w a) (hg : GlobOK cx.gd h) (hG : gbd s.gl.length G = true) (hd : dOK N o.dst = true) {t : TypeId} {x : Operand} (ho : o.op = .box t x) (k : boxK cx s G o.dst t x K) :
    OpOK P N B h0 h w a o (gv s.gl G) K := by
  unfold boxK at k
  split at k
  · rename_i v hv
    split at k
    · rename_i r hr
      refine new_step sat hG hd k fun hgv => ?_
      have hx := getE_ok sat hg hgv hv
      refine ⟨.pointer (some ⟨w.heap.size, 0, none⟩), w.alloc (.cells (a.eval x).cells t), .blk w.heap.size, ?_, gb_alloc _ _ _, ?_, ?_, ?_⟩
      · simp only [execOp, ho, Instr.box, newVar, newRow, Sem.run_bind, Result.andThen_ok, run_newObj, Sem.run_pure]
        rfl
      · intro b hb; simp [RV.block] at hb; subst hb; simp
      · exact boxRes_ok hr hx (Ext.append _ _) (heap_new _ _)
      · exact ⟨⟨_, last_ref (sat_len sat) _, rfl⟩, oneC_ptr _⟩
    · exact k.elim
  · exact k.elim
end

/-! Slice literals. -/

@[reducible] def repL {α : Type} : Nat → List α → List α
  | 0, _ => []
  | n + 1, l => catL l (repL n l)

@[reducible] def buildSliceK (cx : Cx) (s : St) (G : Gd) (d : Option Nat) (t : TypeId) (n : Nat) (parts : List (Nat × Operand)) (K : St → Prop) : Prop := match descOf cx t with
  | .slice el => match lkT cx.ti el with
    | none => False
    | some ie => match ie.shp with
      | none => False
      | some sh => match partsE cx s G parts with
        | none => False
        | some ps => match andB (Nat.ble (n * ie.size) 16777216) (Nat.ble 1 ie.size) with
          | false => False
          | true => match fillS (fun j => some (j * ie.size, ie.size)) (repL n (mapL SC.v ie.zero)) ps with
            | none => False
            | some xs => match andB (Nat.beq sh.size ie.size) (Nat.beq (lenL xs) (n * ie.size)) with
              | false => False
              | true => match takeN sh n xs with
                | some (l, []) => K ({ s with T := snoc s.T (G, .row el sh l) }.put d G (.one (.c (.row (lenL s.T)))))
                | _ => False
  | _ => False

theorem repL_map {α β : Type} (f : α → β) : ∀ (n : Nat) (l : List α), repL n (mapL f l) = mapL f (repL n l)
  | 0, _ => rfl
  | n + 1, l => by
    simp only [repL]
    rw [repL_map f n l]
    simp [catL_eq, mapL_eq]
theorem repL_mem {α : Type} {x : α} {l : List α} : ∀ {n : Nat}, x ∈ repL n l → x ∈ l
  | 0, h => by simp [repL] at h
  | n + 1, h => by
    simp only [repL, catL_eq, List.mem_append] at h
    exact h.elim id repL_mem
theorem repL_len {α : Type} {l : List α} : ∀ {n : Nat}, (repL n l).length = n * l.length
  | 0 => by simp [repL]
  | n + 1 => by simp only [repL, catL_eq, List.length_append, repL_len, Nat.succ_mul]; omega
theorem repL_get {l : List Value} : ∀ {n j : Nat}, j < n * l.length → (repL n l)[j]? = l[j % l.length]?
  | 0, j, h => by omega
  | n + 1, j, h => by
    simp only [repL, catL_eq]
    rw [Nat.succ_mul] at h
    by_cases hj : j < l.length
    · rw [List.getElem?_append_left hj, Nat.mod_eq_of_lt hj]
    · rw [List.getElem?_append_right (by omega), repL_get (by omega)]
      congr 1
      exact (Nat.mod_eq_sub_mod (by omega)).symm

theorem zeros_eq {zero : List Value} {n : Nat} (hz : 0 < zero.length) : ((Array.range (n * zero.length)).map (fun i => zero.toArray[i % zero.toArray.size]!)) = (repL n zero).toArray := by
  apply Array.ext'
  apply List.ext_getElem?
  intro j
  simp only [Array.toList_map, Array.toList_range, List.size_toArray]
  by_cases hj : j < n * zero.length
  · rw [List.getElem?_map, List.getElem?_range hj, repL_get hj]
    have hm : j % zero.length < zero.length := Nat.mod_lt _ hz
    simp [hm]
  · rw [List.getElem?_eq_none (by simp; omega), List.getElem?_eq_none (by simp [repL_len]; omega)]

section
variable {cx : Cx} {P : Program} {N : Nat} {B : Base} {h0 : FH} {s : St} {h : FH} {β : List RV} {w : World} {a : Act} {G : Gd} {o : Oper} {K : St → Prop}

theorem buildSlice_step (hc : TisOK P cx.ti) (sat : Sat N B h0 s h β w a) (hg : GlobOK cx.gd h) (hG : gbd s.gl.length G = true) (hd : dOK N o.dst = true) {t : TypeId} {n : Nat} {parts : Array (Nat × Operand)} (ho : o.op = .buildSlice t n parts)
    (k : buildSliceK cx s G o.dst t n (tl parts) K) : OpOK P N B h0 h w a o (gv s.gl G) K := by
  unfold buildSliceK at k
  split at k
  · rename_i el hde
    have hu := descOf_und hc hde (by simp)
    split at k
    · exact k.elim
    rename_i ie hie
    have tie := hc.get hie
    split at k
    · exact k.elim
    rename_i sh hsh
    split at k
    · exact k.elim
    rename_i ps hps
    split at k
    · exact k.elim
    rename_i hsz
    rw [andB_eq, Bool.and_eq_true] at hsz
    have hsz1 : n * ie.size ≤ 16777216 := Nat.le_of_ble_eq_true hsz.1
    have hsz2 : 1 ≤ ie.size := Nat.le_of_ble_eq_true hsz.2
    split at k
    · exact k.elim
    rename_i xs hxs
    split at k
    · exact k.elim
    rename_i hlen
    rw [andB_eq, Bool.and_eq_true] at hlen
    have hl1 : sh.size = ie.size := Nat.eq_of_beq_eq_true hlen.1
    have hl2 : xs.length = n * ie.size := by have := Nat.eq_of_beq_eq_true hlen.2; rwa [lenL_eq] at this
    split at k
    · rename_i l hl
      refine new_step sat hG hd k fun hgv => ?_
      have htl : (parts.map fun (p : Nat × Operand) => (p.1, a.eval p.2)).toList = (tl parts).map fun p => (p.1, a.eval p.2) := by cases parts; simp
      rw [repL_map] at hxs
      obtain ⟨zs, g1, g2⟩ := fillS_ok (partsE_ok sat hg hgv hps) (cells_const fun v hv => tie.zone v (repL_mem hv)) hxs
      obtain ⟨c1, c2, rfl, q1, q2, q3⟩ := takeN_ok hl g2
      have hc2 : c2 = [] := by cases c2 with | nil => rfl | cons _ _ => exact q3.elim
      subst hc2
      rw [List.append_nil] at g1 g2
      have hz0 : 0 < ie.zero.length := by rw [tie.zlen]; omega
      obtain ⟨z, hz1, hz2⟩ := run_zero tie w
      have hc0 : n * ie.size = 0 → (repL n ie.zero).toArray = #[] := by
        intro h0
        have : n = 0 := by rcases Nat.mul_eq_zero.1 h0 with h0 | h0 <;> omega
        subst this
        simp [repL]
      have hc1 : ((Array.range (n * ie.size)).map (fun i => z.cells[i % z.cells.size]!)) = (repL n ie.zero).toArray := by
        rw [hz2, ← tie.zlen]; exact zeros_eq hz0
      refine ⟨.slice (some ⟨w.heap.size, 0, none⟩) n n, w.alloc (.cells c1.toArray el), .row (.slice (some ⟨w.heap.size, 0, none⟩) n n), ?_, gb_alloc _ _ _, ?_, ?_, ?_⟩
      · have hbig : ¬ (n * ie.size > 2 ^ 24) := by omega
        by_cases h0 : n * ie.size = 0
        · have e0 := hc0 h0
          rw [e0] at g1
          simp only [execOp, ho, Instr.buildSlice, Sem.run_bind, run_underlying hu, Result.andThen_ok, run_sizeOf tie, hbig, if_false, Sem.run_ite, Sem.run_pure, h0, if_true]
          rw [htl]
          rw [show (Array.map (fun x => (#[] : Array Value)[x % (#[] : Array Value).size]!) (Array.range 0)) = #[] from by simp]
          rw [g1]
          simp only [Sem.run_bind, newRow, run_newObj, Result.andThen_ok, Sem.run_pure]
          rfl
        · simp only [execOp, ho, Instr.buildSlice, Sem.run_bind, run_underlying hu, Result.andThen_ok, run_sizeOf tie, hbig, if_false, Sem.run_ite, Sem.run_pure, h0, hz1]
          rw [htl, hc1, g1]
          simp only [Sem.run_bind, newRow, run_newObj, Result.andThen_ok, Sem.run_pure]
          rfl
      · intro b hb; simp [RV.block, rowBlk] at hb; obtain ⟨_, rfl⟩ := hb; simp
      · by_cases hn0 : n = 0
        · exact .inr (.inl ⟨⟨w.heap.size, 0, none⟩, by rw [hn0], List.eq_nil_of_length_eq_zero (by rw [q1, hn0])⟩)
        refine .inr (.inr ⟨w.heap.size, n, c1.toArray, by rw [q1], heap_new _ _, by omega, ⟨by omega, ?_⟩, ?_, ?_⟩)
        · have : n ≤ n * ie.size := Nat.le_mul_of_pos_right n (by omega)
          simp only [maxLen]; omega
        · have e := g2.length
          rw [hl2] at e
          simp only [List.size_toArray]; rw [hl1]; omega
        · have e := g2.length
          rw [hl2] at e
          rw [q1, hl1, List.take_of_length_le (by simp; omega)]; exact q2
      · exact ⟨last_ref (sat_len sat) _, rfl, rfl⟩
    · exact k.elim
  · exact k.elim
end
end Go.Eng
