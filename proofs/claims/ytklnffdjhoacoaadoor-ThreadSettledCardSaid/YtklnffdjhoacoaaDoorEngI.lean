/- The engine, part I: struct and array literals; all value operations together. -/
import Derived.Test.YtklnffdjhoacoaaDoorEngH
set_option linter.unusedSimpArgs false
set_option linter.unusedVariables false
namespace Go.Eng
open Go Go.RowKit

theorem foldl_set : ∀ (xs : List Value) (off k : Nat) (A : Array Value), off + k + xs.length ≤ A.size →
    (xs.zipIdx k).foldl (fun cs (p : Value × Nat) => cs.setIfInBounds (off + p.2) p.1) A = (A.toList.take (off + k) ++ xs ++ A.toList.drop (off + k + xs.length)).toArray
  | [], off, k, A, _ => by simp
  | x :: xs, off, k, A, h => by
    simp only [List.zipIdx_cons, List.foldl_cons]
    simp only [List.length_cons] at h
    rw [foldl_set xs off (k + 1) _ (by simp; omega)]
    congr 1
    have e := list_seg_step A.toList (off + k) x xs (by simp; omega)
    simpa [Array.toList_setIfInBounds, Nat.add_assoc] using e

@[reducible] def putS (off : Nat) (xs : List SC) (cells : List SC) : List SC := catL (takeL off cells) (catL xs (dropL (off + lenL xs) cells))

@[reducible] def fillS (place : Nat → Option (Nat × Nat)) (cells : List SC) : List (Nat × SV) → Option (List SC)
  | [] => some cells
  | (i, v) :: rest => match place i with
    | none => none
    | some (off, size) => match svCells v with
      | none => none
      | some xs => match andB (Nat.beq (lenL xs) size) (Nat.ble (off + size) (lenL cells)) with
        | true => fillS place (putS off xs cells) rest
        | false => none

theorem svCells_ok {h : FH} {β : List RV} {v : SV} {xs : List SC} {y : Value} (e : svCells v = some xs) (c : CnV h β v y) : All2 (fun x y => CnC h β x y ∧ oneC y) xs y.cells.toList := by
  cases v with
  | c x => simp [svCells] at e; subst e; rw [c.2.1]; exact ⟨c, trivial⟩
  | agg xs' => simp [svCells] at e; subst e; obtain ⟨ys, rfl, a⟩ := c; exact a
  | dat s d => simp [svCells] at e
  | und => simp [svCells] at e

theorem fillS_ok {h : FH} {β : List RV} {place : Nat → Option (Nat × Nat)} : ∀ {parts : List (Nat × SV)} {vals : List (Nat × Value)} {cells : List SC} {ys : List Value} {r : List SC},
    All2 (fun (p : Nat × SV) (q : Nat × Value) => p.1 = q.1 ∧ CnV h β p.2 q.2) parts vals → All2 (fun x y => CnC h β x y ∧ oneC y) cells ys → fillS place cells parts = some r →
    ∃ zs : List Value, Instr.fill place ys.toArray vals = some zs.toArray ∧ All2 (fun x y => CnC h β x y ∧ oneC y) r zs
  | [], [], cells, ys, r, _, a, e => by simp [fillS] at e; subst e; exact ⟨ys, rfl, a⟩
  | (i, v) :: parts, (j, y) :: vals, cells, ys, r, ⟨⟨hij, hv⟩, hp⟩, a, e => by
    simp only at hij; subst hij
    unfold fillS at e
    split at e
    · cases e
    rename_i off size hpl
    split at e
    · cases e
    rename_i xs hxs
    split at e
    · rename_i hc
      rw [andB_eq, Bool.and_eq_true] at hc
      have h1 : xs.length = size := by have := Nat.eq_of_beq_eq_true hc.1; rwa [lenL_eq] at this
      have h2 : off + size ≤ cells.length := by have := Nat.le_of_ble_eq_true hc.2; rwa [lenL_eq] at this
      have hall := svCells_ok hxs hv
      have l1 := hall.length
      have l2 := a.length
      simp only [Array.length_toList] at l1
      have a' : All2 (fun x y => CnC h β x y ∧ oneC y) (putS off xs cells) (ys.take off ++ y.cells.toList ++ ys.drop (off + y.cells.size)) := by
        unfold putS
        rw [catL_eq, catL_eq, takeL_eq, dropL_eq, lenL_eq, List.append_assoc, ← l1]
        exact (a.take off).cat (hall.cat (a.drop _))
      obtain ⟨zs, g1, g2⟩ := fillS_ok hp a' e
      refine ⟨zs, ?_, g2⟩
      unfold Instr.fill
      rw [hpl]
      simp only
      rw [if_neg (by simp; omega)]
      rw [← g1]
      congr 1
      have := foldl_set y.cells.toList off 0 ys.toArray (by simp; omega)
      simp only [Nat.add_zero] at this
      rw [← Array.foldl_toList, Array.toList_zipIdx]
      simpa using this
    · cases e

@[reducible] def takeN (s : Sh) : Nat → List SC → Option (List s.den × List SC)
  | 0, xs => some ([], xs)
  | n + 1, xs => match takeD s xs with
    | some (d, r) => match takeN s n r with
      | some (l, r') => some (d :: l, r')
      | none => none
    | none => none

theorem takeN_ok {h : FH} {β : List RV} {s : Sh} : ∀ {n : Nat} {xs : List SC} {ys : List Value} {l : List s.den} {r : List SC}, takeN s n xs = some (l, r) → All2 (fun x y => CnC h β x y ∧ oneC y) xs ys →
    ∃ c1 c2, ys = c1 ++ c2 ∧ l.length = n ∧ RdL (Rd h s) c1 l ∧ All2 (fun x y => CnC h β x y ∧ oneC y) r c2
  | 0, xs, ys, l, r, e, a => by simp [takeN] at e; obtain ⟨rfl, rfl⟩ := e; exact ⟨[], ys, rfl, rfl, rfl, a⟩
  | n + 1, xs, ys, l, r, e, a => by
    unfold takeN at e
    split at e
    · rename_i d r1 hd
      split at e
      · rename_i l' r' hl
        cases e
        obtain ⟨c1, c2, rfl, q1, q2⟩ := takeD_ok s hd a
        obtain ⟨c3, c4, rfl, q3, q4, q5⟩ := takeN_ok hl q2
        exact ⟨c1 ++ c3, c4, by rw [List.append_assoc], by simp [q3], ⟨c1, c3, rfl, q1, q4⟩, q5⟩
      · cases e
    · cases e

/-- The value whose cells are given. -/
@[reducible] def aggOf (i : TI) (xs : List SC) : SV := match i.shp with
  | some (.arr n s) => match takeN s n xs with
    | some (l, []) => .dat (.arr n s) l
    | _ => .agg xs
  | _ => .agg xs

theorem aggOf_ok {h : FH} {β : List RV} {i : TI} {xs : List SC} {ys : List Value} (a : All2 (fun x y => CnC h β x y ∧ oneC y) xs ys) : CnV h β (aggOf i xs) (.agg ys.toArray) := by
  unfold aggOf
  split
  · split
    · rename_i hl
      obtain ⟨c1, c2, rfl, q1, q2, q3⟩ := takeN_ok hl a
      have : c2 = [] := by cases c2 with | nil => rfl | cons _ _ => exact q3.elim
      subst this
      exact ⟨rfl, c1, by simp, q1, q2⟩
    · exact ⟨ys, rfl, a⟩
  · exact ⟨ys, rfl, a⟩

@[reducible] def partsE (cx : Cx) (s : St) (G : Gd) : List (Nat × Operand) → Option (List (Nat × SV))
  | [] => some []
  | (i, x) :: l => match getE cx s G x with
    | some (.one v) => match partsE cx s G l with
      | some r => some ((i, v) :: r)
      | none => none
    | _ => none

theorem partsE_ok {cx : Cx} {N : Nat} {B : Base} {h0 : FH} {s : St} {h : FH} {β : List RV} {w : World} {a : Act} (sat : Sat N B h0 s h β w a) (hg : GlobOK cx.gd h) {G : Gd} (hG : gv s.gl G = true) :
    ∀ {l : List (Nat × Operand)} {r : List (Nat × SV)}, partsE cx s G l = some r → All2 (fun (p : Nat × SV) (q : Nat × Value) => p.1 = q.1 ∧ CnV h β p.2 q.2) r (l.map fun p => (p.1, a.eval p.2))
  | [], r, e => by simp [partsE] at e; subst e; trivial
  | (i, x) :: l, r, e => by
    unfold partsE at e
    split at e
    · rename_i v hv
      split at e
      · rename_i r' hr
        cases e
        exact ⟨⟨rfl, getE_ok sat hg hG hv⟩, partsE_ok sat hg hG hr⟩
      · cases e
    · cases e

@[reducible] def placeF (cx : Cx) (i : TI) (f : Nat) : Option (Nat × Nat) := match fieldOf i f with
  | some fd => match lkT cx.ti fd.type with
    | some fi => some (fd.offset, fi.size)
    | none => none
  | none => none

@[reducible] def allTi (cx : Cx) : List Field → Bool
  | [] => true
  | f :: l => match lkT cx.ti f.type with
    | some _ => allTi cx l
    | none => false

@[reducible] def buildK (cx : Cx) (s : St) (G : Gd) (t : TypeId) (parts : List (Nat × Operand)) (K : Ent → Prop) : Prop := match lkT cx.ti t with
  | none => False
  | some i => match partsE cx s G parts with
    | none => False
    | some ps => match i.desc with
      | .struct fs => match allTi cx (tl fs) with
        | true => match fillS (placeF cx i) (mapL SC.v i.zero) ps with
          | some xs => K (.one (aggOf i xs))
          | none => False
        | false => False
      | .array n el => match lkT cx.ti el with
        | none => False
        | some ie => match fillS (fun j => some (j * ie.size, ie.size)) (mapL SC.v i.zero) ps with
          | some xs => K (.one (aggOf i xs))
          | none => False
      | _ => False

theorem run_zero {P : Program} {t : TypeId} {i : TI} (k : TIOK P t i) (w : World) : ∃ z, (zeroValue t).run P w = .ok z w ∧ z.cells = i.zero.toArray := by
  obtain ⟨inf, z, h1, h2, h3, h4, h5⟩ := k.info
  exact ⟨z, by simp [zeroValue, typeInfo, h1, h4], h5⟩

theorem mapM_places {P : Program} {cx : Cx} (hc : TisOK P cx.ti) (w : World) : ∀ {l : List Field}, allTi cx l = true →
    (l.mapM (fun f => (do pure (f.offset, ← sizeOf f.type) : Sem (Nat × Nat)))).run P w = .ok (l.map fun f => (f.offset, match lkT cx.ti f.type with | some fi => fi.size | none => 0)) w
  | [], _ => rfl
  | f :: l, h => by
    unfold allTi at h
    split at h
    · rename_i fi hf
      have := mapM_places hc w h
      simp only [List.mapM_cons, Sem.run_bind, run_sizeOf (hc.get hf), Result.andThen_ok, Sem.run_pure, this, List.map_cons, hf]
    · cases h

theorem buildK_ok {cx : Cx} {P : Program} (hc : TisOK P cx.ti) {N : Nat} {B : Base} {h0 : FH} {s : St} {h : FH} {β : List RV} {w : World} {a : Act} (sat : Sat N B h0 s h β w a) (hg : GlobOK cx.gd h)
    {G : Gd} {t : TypeId} {parts : Array (Nat × Operand)} {K : Ent → Prop} (k : buildK cx s G t (tl parts) K) :
    ∃ e, K e ∧ (gv s.gl G = true → ∃ y, (Instr.build t (parts.map fun (i, x) => (i, a.eval x))).run P w = .ok y w ∧ CnE h β e y) := by
  unfold buildK at k
  split at k
  · exact k.elim
  rename_i i hi
  have ti := hc.get hi
  split at k
  · exact k.elim
  rename_i ps hps
  have htl : (parts.map fun (p : Nat × Operand) => (p.1, a.eval p.2)).toList = (tl parts).map fun p => (p.1, a.eval p.2) := by cases parts; simp
  obtain ⟨z, hz1, hz2⟩ := run_zero ti w
  split at k
  · rename_i fs' hd
    obtain ⟨fs, hu, hfe⟩ := ti.undS hd
    split at k
    · rename_i hall
      split at k
      · rename_i xs hf
        refine ⟨_, k, fun hG => ?_⟩
        obtain ⟨zs, g1, g2⟩ := fillS_ok (partsE_ok sat hg hG hps) (cells_const ti.zone) hf
        refine ⟨_, ?_, aggOf_ok g2⟩
        have hm : (fs.mapM (fun f => (do pure (f.offset, ← sizeOf f.type) : Sem (Nat × Nat)))).run P w = .ok (fs.map fun f => (f.offset, match lkT cx.ti f.type with | some fi => fi.size | none => 0)) w := by
          have hall' : allTi cx (tl fs) = true := by
            have : ∀ {l : List Field}, allTi cx (l.map eraseF) = true → allTi cx l = true := by
              intro l
              induction l with
              | nil => intro _; rfl
              | cons f l ih =>
                intro hh
                simp only [List.map_cons, allTi, eraseF] at hh ⊢
                split at hh
                · exact ih hh
                · cases hh
            apply this
            rw [← hfe] at hall
            cases fs; simpa using hall
          have := mapM_places hc w hall'
          cases fs with
          | mk l =>
            have e2 := List.mapM_toArray (m := Sem) (f := fun (f : Field) => (do pure (f.offset, ← sizeOf f.type) : Sem (Nat × Nat))) (l := l)
            refine (congrArg (fun x => Sem.run P x w) e2).trans ?_
            simp only [Sem.run_map]
            rw [show Sem.run P (List.mapM _ l) w = _ from this]; simp
        have hplace : (fun j => (fs.map fun f => (f.offset, match lkT cx.ti f.type with | some fi => fi.size | none => 0))[j]?) = placeF cx i := by
          funext j
          unfold placeF fieldOf
          rw [hd]
          simp only [nthL_eq]
          have e1 : (tl fs')[j]? = (fs[j]?).map eraseF := by rw [← hfe]; cases fs; simp
          rw [e1, Array.getElem?_map]
          cases hj : fs[j]? with
          | none => rfl
          | some fd =>
            simp only [Option.map_some, eraseF]
            cases hl : lkT cx.ti fd.type with
            | some fi => rfl
            | none =>
              exfalso
              have : ∀ {l : List Field}, allTi cx l = true → ∀ f ∈ l, lkT cx.ti f.type ≠ none := by
                intro l
                induction l with
                | nil => intro _ f hf; simp at hf
                | cons x l ih =>
                  intro hh f hf
                  unfold allTi at hh
                  split at hh
                  · rename_i q hq
                    rcases List.mem_cons.1 hf with rfl | hf
                    · rw [hq]; simp
                    · exact ih hh f hf
                  · cases hh
              refine this hall (eraseF fd) ?_ hl
              rw [hj] at e1
              exact List.mem_of_getElem? e1
        simp only [Instr.build, Sem.run_bind, hz1, Result.andThen_ok, run_underlying hu, hm, hz2]
        rw [htl, hplace, g1]
        rfl
      · exact k.elim
    · exact k.elim
  · rename_i n el hd
    have hu := ti.und' hd rfl
    split at k
    · exact k.elim
    rename_i ie hie
    split at k
    · rename_i xs hf
      refine ⟨_, k, fun hG => ?_⟩
      obtain ⟨zs, g1, g2⟩ := fillS_ok (partsE_ok sat hg hG hps) (cells_const ti.zone) hf
      refine ⟨_, ?_, aggOf_ok g2⟩
      simp only [Instr.build, Sem.run_bind, hz1, Result.andThen_ok, run_underlying hu, run_sizeOf (hc.get hie), hz2]
      rw [htl, g1]
      rfl
    · exact k.elim
  · exact k.elim
end Go.Eng
