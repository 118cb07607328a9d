/- The engine, part L: stores, append, make. -/
import Derived.Test.YtklnffdjhoacoaaDoorEngK
set_option linter.unusedSimpArgs false
set_option linter.unusedVariables false
namespace Go.Eng
open Go Go.RowKit

theorem grown_setRow (w : World) (g : Nat) (cs : Array Value) : Gb w (w.setRow g cs) (some g) :=
  ⟨⟨rfl, rfl, rfl, by simp, fun k _ hk => setRow_other w g k cs fun e => hk (by rw [e])⟩, Nat.le_refl _⟩

theorem run_storeVar_at {P : Program} {t : TypeId} {i : TI} (k : TIOK P t i) {w : World} {g o : Nat} {tt : TypeId} {cur : Array Value} {v : Value} (hg : w.heap[g]? = some (.cells cur tt (0, 0)))
    (hs : v.cells.size = i.size) (hfit : o + i.size ≤ cur.size) (h1 : ∀ u ∈ v.cells.toList, oneC u) :
    (Instr.storeAt t (.pointer (some ⟨g, o, none⟩)) v).run P w = .ok () (w.setRow g (cur.toList.take o ++ v.cells.toList ++ cur.toList.drop (o + i.size)).toArray) := by
  have := run_storeCells_at P g o tt v.cells.toList 0 cur w hg (by simp; omega) (fun u hu => (h1 u hu).2)
  simp only [Nat.add_zero, Array.length_toList] at this
  simp only [Instr.storeAt, Instr.sureAddr, Sem.run_bind, Sem.run_pure, Result.andThen_ok, storeVar, run_sizeOf k, hs, ne_eq, not_true_eq_false, if_false, Sem.run_ite]
  rw [← hs]
  exact this

theorem All2.one {h : FH} {β : List RV} {xs : List SC} {ys : List Value} (a : All2 (fun x y => CnC h β x y ∧ oneC y) xs ys) : ∀ u ∈ ys, oneC u := by
  induction xs generalizing ys with
  | nil => cases ys with
    | nil => intro u hu; simp at hu
    | cons _ _ => exact a.elim
  | cons x xs ih => cases ys with
    | nil => exact a.elim
    | cons y ys =>
      intro u hu
      rcases List.mem_cons.1 hu with rfl | hu
      · exact a.1.2
      · exact ih a.2 u hu

@[reducible] def storeK (cx : Cx) (s : St) (d : Option Nat) (t : TypeId) (p x : Operand) (K : St → Prop) : Prop := match lkT cx.ti t with
  | none => False
  | some i => match getE cx s [] p with
    | some (.one (.c (.own r off))) => match getE cx s [] x with
      | some (.one v) => match nthL s.T r with
        | some ([], .blk tt cs) => match v with
          | .dat sh dd => match andB (Nat.beq off 0) (andB (Nat.beq (lenL cs) i.size) (Nat.beq sh.size i.size)) with
            | true => K ({ s with T := setL s.T r ([], .obj tt sh dd) }.put d [] (.one .und))
            | false => False
          | v => match svCells v with
            | some xs => match andB (Nat.beq (lenL xs) i.size) (Nat.ble (off + i.size) (lenL cs)) with
              | true => K ({ s with T := setL s.T r ([], .blk tt (putS off xs cs)) }.put d [] (.one .und))
              | false => False
            | none => False
        | some ([], .obj tt sh d0) => match updD sh d0 off i.size v with
          | some dd => K ({ s with T := setL s.T r ([], .obj tt sh dd) }.put d [] (.one .und))
          | none => False
        | _ => False
      | _ => False
    | some (.one (.c (.rowp r j sz off))) => match getE cx s [] x with
      | some (.one v) => match nthL s.T r with
        | some ([], .row tt sh l) => match andB (Nat.beq sz sh.size) (andB (Nat.beq off 0) (Nat.beq sh.size i.size)) with
          | true => match toDat sh v with
            | some dd => (j < l.length) ∧ K ({ s with T := setL s.T r ([], .row tt sh (l.set j dd)) }.put d [] (.one .und))
            | none => False
          | false => match Nat.beq sz sh.size with
            | true => (j < l.length) ∧ ∀ e : sh.den, l[j]? = some e → match updD sh e off i.size v with
              | some dd => K ({ s with T := setL s.T r ([], .row tt sh (l.set j dd)) }.put d [] (.one .und))
              | none => False
            | false => False
        | some ([], .obj tt sh d0) => match setA sh d0 off j sz i.size v with
          | some p => (j < p.1) ∧ K ({ s with T := setL s.T r ([], .obj tt sh p.2) }.put d [] (.one .und))
          | none => False
        | _ => False
      | _ => False
    | _ => False

section
variable {cx : Cx} {P : Program} {N : Nat} {B : Base} {h0 : FH} {s : St} {h : FH} {β : List RV} {w : World} {a : Act} {o : Oper} {K : St → Prop}

theorem effset {s : St} {r : Nat} {x : Res} : eff s.gl (setL s.T r ([], x)) = (eff s.gl s.T).set r x := by rw [eff_set]

theorem gT_set (sat : Sat N B h0 s h β w a) {r : Nat} {x : Res} : ∀ p ∈ setL s.T r ([], x), gbd s.gl.length p.1 = true := by
  intro p hp
  rw [setL_eq] at hp
  rcases List.mem_or_eq_of_mem_set hp with hp | hp
  · exact sat.gT p hp
  · subst hp; rfl

/-- A store into resource r. -/
theorem store_in (sat : Sat N B h0 s h β w a) (hq : quietly o.op = false) (hd : dOK N o.dst = true) {r g : Nat} {x x' : Res} {u : RV} (hT : nthL s.T r = some ([], x)) (hl : x.live = true) (hu : β[r]? = some u) (hub : u.block = some g) {cs : Array Value}
    (hold : Holds h β (w.setRow g cs) x' u) (run : (execOp a.eval o).run P w = .ok .skip (w.setRow g cs)) (k : K ({ s with T := setL s.T r ([], x') }.put o.dst [] (.one .und))) :
    OpOK P N B h0 h w a o (gv s.gl []) K := by
  have hT' := effres hT (show gv s.gl [] = true from rfl)
  have ok : OK B h0 (eff s.gl (setL s.T r ([], x'))) h β (w.setRow g cs) := by
    rw [effset]
    have := sat.ok.upd (r' := x') (v := u) hT' hl hu (by rw [hub]; exact grown_setRow w g cs) (fun b hb => .inl hb) (.inl rfl) (by rw [set_same hu]; exact hold)
    rwa [set_same hu] at this
  refine upd_step sat k rfl hq (.inr ⟨run, rfl⟩) (FH.le.refl h) ((sat.mem ok (FH.le.refl h) (Ext.refl β) (gT_set sat)).put (dOK_lt hd) rfl (fun _ => rfl) fun hh => by cases hh)

set_option maxHeartbeats 4000000 in
theorem store_step (hc : TisOK P cx.ti) (sat : Sat N B h0 s h β w a) (hg : GlobOK cx.gd h) (hd : dOK N o.dst = true) {t : TypeId} {p x : Operand} (ho : o.op = .store t p x) (k : storeK cx s o.dst t p x K) :
    OpOK P N B h0 h w a o (gv s.gl []) K := by
  have tr : gv s.gl [] = true := rfl
  unfold storeK at k
  split at k
  · exact k.elim
  rename_i i hi
  have ti := hc.get hi
  have exec : ∀ {w' : World} {v pv : Value}, a.eval x = v → a.eval p = pv → (Instr.storeAt t pv v).run P w = .ok () w' → (execOp a.eval o).run P w = .ok .skip w' := by
    intro w' v pv e1 e2 r
    simp only [execOp, ho, e1, e2, Sem.run_bind, r, Result.andThen_ok, Sem.run_pure]
  split at k
  · rename_i r off hp
    obtain ⟨⟨b, hb, ep⟩, _⟩ := getE_ok sat hg tr hp
    split at k
    · rename_i v hv
      have cv := getE_ok sat hg tr hv
      split at k
      · rename_i tt cs hT
        obtain ⟨ys, he, hall⟩ := sat.ok.holds r _ _ (effres hT tr) hb
        have hlen := hall.length
        split at k
        · rename_i sh dd
          split at k
          · rename_i hz
            rw [andB_eq, andB_eq, Bool.and_eq_true, Bool.and_eq_true] at hz
            have hz1 : off = 0 := Nat.eq_of_beq_eq_true hz.1
            have hz2 : cs.length = i.size := by have := Nat.eq_of_beq_eq_true hz.2.1; rwa [lenL_eq] at this
            have hz3 : sh.size = i.size := Nat.eq_of_beq_eq_true hz.2.2
            subst hz1
            obtain ⟨_, cs', ev, rd⟩ := cv
            have hsz := Rd.size sh rd
            have r1 := run_storeVar_at (o := 0) (v := a.eval x) ti he (by rw [ev]; simp [Value.cells]; omega) (by simp; omega) (by rw [ev]; intro u hu; exact Rd.one sh rd u (by simpa [Value.cells] using hu))
            refine store_in sat (by rw [ho]; rfl) hd hT rfl hb rfl ?_ (exec rfl ep r1) k
            refine ⟨_, setRow_heap w b _ _ tt (0, 0) he, ?_⟩
            simp only [List.take_zero, List.nil_append, Nat.zero_add]
            rw [List.drop_of_length_le (by first | omega | (simp; omega)), List.append_nil, ev]
            exact rd
          · exact k.elim
        · split at k
          · rename_i xs hxs
            split at k
            · rename_i hz
              rw [andB_eq, Bool.and_eq_true] at hz
              have hz1 : xs.length = i.size := by have := Nat.eq_of_beq_eq_true hz.1; rwa [lenL_eq] at this
              have hz2 : off + i.size ≤ cs.length := by have := Nat.le_of_ble_eq_true hz.2; rwa [lenL_eq] at this
              have hall' := svCells_ok hxs cv
              have hl' := hall'.length
              simp only [Array.length_toList] at hl'
              have r1 := run_storeVar_at (o := off) (v := a.eval x) ti he (by omega) (by simp; omega) hall'.one
              refine store_in sat (by rw [ho]; rfl) hd hT rfl hb rfl ?_ (exec rfl ep r1) k
              refine ⟨_, setRow_heap w b _ _ tt (0, 0) he, ?_⟩
              unfold putS
              rw [catL_eq, catL_eq, takeL_eq, dropL_eq, lenL_eq, hz1]
              simp only []
              rw [List.append_assoc]
              exact (hall.take off).cat (hall'.cat (hall.drop _))
            · exact k.elim
          · exact k.elim
      · rename_i tt sh d0 hT
        obtain ⟨ys, he, rd0⟩ := sat.ok.holds r _ _ (effres hT tr) hb
        split at k
        · rename_i dd hdd
          obtain ⟨cs', ec, e2, e3, e4, e5⟩ := updD_ok sh hdd rd0 cv
          have r1 := run_storeVar_at (o := off) (v := a.eval x) ti he (by rw [ec]; simp; omega) (by simp; omega) (by rw [ec]; intro u hu; exact e3 u (by simpa using hu))
          refine store_in sat (by rw [ho]; rfl) hd hT rfl hb rfl ?_ (exec rfl ep r1) k
          refine ⟨_, setRow_heap w b _ _ tt (0, 0) he, ?_⟩
          rw [ec]
          exact e5
        · exact k.elim
      · exact k.elim
    · exact k.elim
  · rename_i r j sz off hp
    obtain ⟨⟨v0, g, hb, hgb, ep⟩, _⟩ := getE_ok sat hg tr hp
    split at k
    · rename_i v hv
      have cv := getE_ok sat hg tr hv
      split at k
      · rename_i tt sh l hT
        -- a store of k cells at a place of the j-th element
        have part : ∀ {e dd : sh.den}, sz = sh.size → l[j]? = some e → (∀ {cs : List Value}, Rd h sh cs e → Upd h sh cs off i.size (a.eval x) dd) →
            K ({ s with T := setL s.T r ([], .row tt sh (l.set j dd)) }.put o.dst [] (.one .und)) → OpOK P N B h0 h w a o (gv s.gl []) K := by
          intro e dd hz1 hej hu k
          have hj := (List.getElem?_eq_some_iff.1 hej).1
          have hold := sat.ok.holds r _ _ (effres hT tr) hb
          match v0, hold with
          | .row vv, hold =>
            rcases hold with ⟨hv0, _⟩ | ⟨_, hv0, _⟩ | ⟨g', cap, cur, hv0, he, q2, q3, q4, q5⟩
            · subst hv0; simp [RV.block, rowBlk] at hgb
            · subst hv0; simp [RV.block, rowBlk] at hgb
            · have hgg : g' = g := by rw [hv0] at hgb; exact Option.some.inj ((block_own q3.1).symm.trans hgb)
              subst hgg
              have hm : (j + 1) * sh.size ≤ l.length * sh.size := Nat.mul_le_mul_right _ hj
              have hm2 : l.length * sh.size ≤ cap * sh.size := Nat.mul_le_mul_right _ q2
              rw [Nat.succ_mul] at hm
              obtain ⟨g1, g2⟩ := q5.get (fun _ _ => Rd.size sh) hej
              have gl := Rd.size sh g1
              obtain ⟨cs', ec, e2, e3, e4, e5⟩ := hu g1
              rw [gl] at e4
              have r1 := run_storeVar_at (o := j * sz + off) (v := a.eval x) ti he (by rw [ec]; simp; omega) (by rw [hz1]; omega) (by rw [ec]; intro u hu; exact e3 u (by simpa using hu))
              refine store_in sat (by rw [ho]; rfl) hd hT rfl hb hgb ?_ (exec rfl ep r1) k
              rw [ec, hz1]
              refine .inr (.inr ⟨g', cap, _, by rw [hv0, List.length_set], setRow_heap w g' _ _ tt (0, 0) he, by rw [List.length_set]; exact q2, q3, ?_, ?_⟩)
              · simp only [List.size_toArray, List.length_append, List.length_take, List.length_drop, Array.length_toList]; omega
              · rw [List.length_set]
                show RdL (Rd h sh) ((List.take (j * sh.size + off) cur.toList ++ cs' ++ List.drop (j * sh.size + off + i.size) cur.toList).take (l.length * sh.size)) (l.set j dd)
                have e := RdL.set (fun _ _ => Rd.size sh) q5 hj e5
                have lc : cur.toList.length = cap * sh.size := by simpa using q4
                have key : (List.take (j * sh.size + off) cur.toList ++ cs' ++ List.drop (j * sh.size + off + i.size) cur.toList).take (l.length * sh.size) =
                    List.take (j * sh.size) (List.take (l.length * sh.size) cur.toList) ++ (List.take off (List.take sh.size (List.drop (j * sh.size) (List.take (l.length * sh.size) cur.toList))) ++ cs' ++ List.drop (off + i.size) (List.take sh.size (List.drop (j * sh.size) (List.take (l.length * sh.size) cur.toList)))) ++ List.drop (j * sh.size + sh.size) (List.take (l.length * sh.size) cur.toList) := by
                  apply List.ext_getElem?
                  intro p
                  simp only [List.getElem?_append, List.getElem?_take, List.getElem?_drop, List.length_append, List.length_take, List.length_drop, lc, e2]
                  repeat' split
                  all_goals first | rfl | omega | (congr 1; omega) | (rw [List.getElem?_eq_none (by omega)]) | (exfalso; omega) | skip
                rw [key]; exact e
        split at k
        · rename_i hz
          rw [andB_eq, andB_eq, Bool.and_eq_true, Bool.and_eq_true] at hz
          have hz1 : sz = sh.size := Nat.eq_of_beq_eq_true hz.1
          have hz2 : off = 0 := Nat.eq_of_beq_eq_true hz.2.1
          have hz3 : sh.size = i.size := Nat.eq_of_beq_eq_true hz.2.2
          split at k
          · rename_i dd hdd
            obtain ⟨hj, k⟩ := k
            refine part hz1 (List.getElem?_eq_getElem hj) (fun hr => ?_) k
            subst hz2
            exact upd_whole hz3 hdd hr cv
          · exact k.elim
        · split at k
          · rename_i hz
            have hz1 : sz = sh.size := Nat.eq_of_beq_eq_true hz
            obtain ⟨hj, k⟩ := k
            have k := k _ (List.getElem?_eq_getElem hj)
            split at k
            · rename_i dd hdd
              exact part hz1 (List.getElem?_eq_getElem hj) (fun hr => updD_ok sh hdd hr cv) k
            · exact k.elim
          · exact k.elim
      · rename_i tt sh d0 hT
        split at k
        · rename_i p hp0
          obtain ⟨hj, k⟩ := k
          have hold := sat.ok.holds r _ _ (effres hT tr) hb
          match v0, hold with
          | .blk b, ⟨ys, he, rd0⟩ =>
            have hgg : b = g := by simpa [RV.block] using hgb
            subst hgg
            obtain ⟨cs', ec, e2, e3, e4, e5⟩ := setA_ok sh hp0 rd0 cv hj
            have r1 := run_storeVar_at (o := j * sz + off) (v := a.eval x) ti he (by rw [ec]; simp; omega) (by simp; omega) (by rw [ec]; intro u hu; exact e3 u (by simpa using hu))
            refine store_in sat (by rw [ho]; rfl) hd hT rfl hb hgb ?_ (exec rfl ep r1) k
            refine ⟨_, setRow_heap w b _ _ tt (0, 0) he, ?_⟩
            rw [ec]
            exact e5
        · exact k.elim
      · exact k.elim
    · exact k.elim
  · exact k.elim
end
end Go.Eng
