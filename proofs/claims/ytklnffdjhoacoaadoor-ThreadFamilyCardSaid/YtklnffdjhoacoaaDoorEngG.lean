/- The engine, part G: addresses of elements and fields, parts of values, lengths, conversions, slices. -/
import Derived.Test.YtklnffdjhoacoaaDoorEngF
set_option linter.unusedSimpArgs false
set_option linter.unusedVariables false
namespace Go.Eng
open Go Go.RowKit

@[reducible] def idxSl (gl : List Bool) (G : Gd) (sh : Sh) (l : List sh.den) (n : Int) (len : Nat) (K : sh.den → Prop) : Prop :=
  side gl G (0 ≤ n ∧ n < len) ∧ ∀ d : sh.den, side gl G (l[n.toNat]? = some d) → K d

theorem idxSl_ok {gl : List Bool} {G : Gd} {sh : Sh} {l : List sh.den} {n : Int} {len : Nat} {K : sh.den → Prop} (k : idxSl gl G sh l n len K) (hl : gv gl G = true → l.length = len) :
    ∃ d, K d ∧ (gv gl G = true → (0 ≤ n ∧ n < len) ∧ l[n.toNat]? = some d) := by
  obtain ⟨k1, k2⟩ := k
  by_cases hG : gv gl G = true
  · have h1 := side_ok k1 hG
    have h2 := hl hG
    have h3 : n.toNat < l.length := by omega
    refine ⟨l[n.toNat], k2 _ ?_, fun _ => ⟨h1, List.getElem?_eq_getElem h3⟩⟩
    cases G with
    | nil => exact List.getElem?_eq_getElem h3
    | cons x g => exact fun _ => List.getElem?_eq_getElem h3
  · refine ⟨dflt sh, k2 _ ?_, fun hh => (hG hh).elim⟩
    cases G with
    | nil => exact (hG rfl).elim
    | cons x g => exact fun hh => (hG hh).elim

@[reducible] def indexAddrK (cx : Cx) (s : St) (G : Gd) (t : TypeId) (x : SC) (n : Int) (K : Ent → Prop) : Prop := match lkT cx.ti t with
  | none => False
  | some i => match i.desc with
    | .slice el => match lkT cx.ti el with
      | none => False
      | some ie => match x with
        | .sl sh l => match Nat.beq ie.size sh.size with
          | true => idxSl s.gl G sh l n l.length fun d => K (.one (.c (.fp sh d)))
          | false => False
        | .row r => match nthL s.T r with
          | some (Gr, .row _ sh l) => match andB (gsub Gr G) (Nat.beq ie.size sh.size) with
            | true => side s.gl G (0 ≤ n ∧ n < l.length) ∧ K (.one (.c (.rowp r n.toNat sh.size 0)))
            | false => False
          | _ => False
        | _ => False
    | .array m el => match lkT cx.ti el with
      | none => False
      | some ie => match x with
        | .fp (.arr m' sh) l => match andB (Nat.beq m m') (Nat.beq ie.size sh.size) with
          | true => idxSl s.gl G sh l n l.length fun d => K (.one (.c (.fp sh d)))
          | false => False
        | .own r off => match nthL s.T r with
          | some (Gr, .obj _ sh d) => match arrAt sh d off with
            | some p => match andB (gsub Gr G) (andB (Nat.beq m p.2.2.1) (Nat.beq ie.size p.1.size)) with
              | true => side s.gl G (0 ≤ n ∧ n < m) ∧ K (.one (.c (.rowp r n.toNat p.1.size off)))
              | false => False
            | none => False
          | _ => False
        | _ => False
    | _ => False

theorem run_indexAt_sl {P : Program} {t el : TypeId} {i ie : TI} (k : TIOK P t i) (hd : i.desc = .slice el) (ke : TIOK P el ie) {w : World} {b o len cap : Nat} {ik : IntKind} {n : Int} (h0 : 0 ≤ n) (h1 : n < len) :
    (Instr.indexAt t (.slice (some ⟨b, o, none⟩) len cap) (.int ik n)).run P w = .ok (.pointer (some ⟨b, o + n.toNat * ie.size, none⟩)) w := by
  have hu := k.und' hd rfl
  simp [Instr.indexAt, asIntOf, run_underlying hu, h0, h1, run_sizeOf ke, add_lit]

theorem run_indexAt_arr {P : Program} {t el : TypeId} {i ie : TI} {m : Nat} (k : TIOK P t i) (hd : i.desc = .array m el) (ke : TIOK P el ie) {w : World} {b o : Nat} {ik : IntKind} {n : Int} (h0 : 0 ≤ n) (h1 : n < m) :
    (Instr.indexAt t (.pointer (some ⟨b, o, none⟩)) (.int ik n)).run P w = .ok (.pointer (some ⟨b, o + n.toNat * ie.size, none⟩)) w := by
  have hu := k.und' hd rfl
  simp [Instr.indexAt, asIntOf, run_underlying hu, Instr.sureAddr, h0, h1, run_sizeOf ke, add_lit]

theorem oneC_ptr (a : Option Addr) : oneC (.pointer a) := ⟨rfl, rfl⟩

theorem At.get {α : Type} {h : FH} {b o : Nat} {cs : List Value} {l : List α} {R : List Value → α → Prop} {k j : Nat} {d : α} (hR : ∀ c d, R c d → c.length = k) (r : RdL R cs l) (at_ : At h b o cs) (e : l[j]? = some d) :
    ∃ c, R c d ∧ At h b (o + j * k) c := by
  obtain ⟨g1, g2⟩ := r.get hR e
  exact ⟨_, g1, at_.sub _ _⟩

theorem indexAddrK_ok {cx : Cx} {P : Program} (hc : TisOK P cx.ti) {N : Nat} {B : Base} {h0 : FH} {s : St} {h : FH} {β : List RV} {w : World} {a : Act} (sat : Sat N B h0 s h β w a)
    {G : Gd} {t : TypeId} {x : SC} {ik : IntKind} {n : Int} {K : Ent → Prop} (k : indexAddrK cx s G t x n K) :
    ∃ e, K e ∧ (gv s.gl G = true → ∀ xv, CnC h β x xv → ∃ y, (∀ w, (Instr.indexAt t xv (.int ik n)).run P w = .ok y w) ∧ CnE h β e y) := by
  unfold indexAddrK at k
  split at k
  · exact k.elim
  rename_i i hi
  have ti := hc.get hi
  split at k
  · rename_i el hd
    split at k
    · exact k.elim
    rename_i ie hie
    have tie := hc.get hie
    split at k
    · rename_i sh l
      split at k
      · rename_i hz
        have hz : ie.size = sh.size := Nat.eq_of_beq_eq_true hz
        obtain ⟨d, k1, k2⟩ := idxSl_ok k fun _ => rfl
        refine ⟨_, k1, fun hG xv hx => ?_⟩
        obtain ⟨⟨h1, h2⟩, h3⟩ := k2 hG
        rcases hx with ⟨rfl, rfl⟩ | ⟨_, _, rfl, rfl, _⟩ | ⟨b, off, cap, rfl, q1, q2, cs, r, at_⟩
        · simp at h3
        · simp at h3
        · obtain ⟨c, g1, g2⟩ := at_.get (fun _ _ => Rd.size sh) r h3
          refine ⟨_, fun _ => run_indexAt_sl ti hd tie h1 h2, ⟨b, _, c, rfl, g1, ?_⟩, oneC_ptr _⟩
          rw [hz]; exact g2
      · exact k.elim
    · rename_i r
      split at k
      · rename_i Gr tt sh l hT
        split at k
        · rename_i hs
          rw [andB_eq, Bool.and_eq_true] at hs
          obtain ⟨hs, hz⟩ := hs
          have hz : ie.size = sh.size := Nat.eq_of_beq_eq_true hz
          refine ⟨_, k.2, fun hG xv hx => ?_⟩
          obtain ⟨h1, h2⟩ := side_ok k.1 hG
          rcases sat.ok.holds r _ _ (effres hT (gsub_gv hs hG)) hx with ⟨rfl, rfl⟩ | ⟨_, rfl, rfl⟩ | ⟨g, cap, cur, rfl, _, _, hcp, _⟩
          · simp at h2; omega
          · simp at h2; omega
          · refine ⟨_, fun _ => run_indexAt_sl ti hd tie h1 h2, ⟨_, g, hx, block_own hcp.1, ?_⟩, oneC_ptr _⟩
            simp [hz]
        · exact k.elim
      · exact k.elim
    · exact k.elim
  · rename_i m el hd
    split at k
    · exact k.elim
    rename_i ie hie
    have tie := hc.get hie
    split at k
    · rename_i m' sh l
      split at k
      · rename_i hz
        rw [andB_eq, Bool.and_eq_true] at hz
        have hm : m = m' := Nat.eq_of_beq_eq_true hz.1
        have hz' : ie.size = sh.size := Nat.eq_of_beq_eq_true hz.2
        subst hm
        obtain ⟨d, k1, k2⟩ := idxSl_ok k fun _ => rfl
        refine ⟨_, k1, fun hG xv hx => ?_⟩
        obtain ⟨⟨h1, h2⟩, h3⟩ := k2 hG
        obtain ⟨b, o, cs, rfl, ⟨hl, r⟩, at_⟩ := hx
        obtain ⟨c, g1, g2⟩ := at_.get (fun _ _ => Rd.size sh) r h3
        refine ⟨_, fun _ => run_indexAt_arr ti hd tie h1 (by omega), ⟨b, _, c, rfl, g1, ?_⟩, oneC_ptr _⟩
        rw [hz']; exact g2
      · exact k.elim
    · rename_i r off
      split at k
      · rename_i Gr tt sh d hT
        split at k
        · rename_i p hp
          split at k
          · rename_i hs
            rw [andB_eq, andB_eq, Bool.and_eq_true, Bool.and_eq_true] at hs
            obtain ⟨hs, hm, hz⟩ := hs
            have hm : m = p.2.2.1 := Nat.eq_of_beq_eq_true hm
            have hz : ie.size = p.1.size := Nat.eq_of_beq_eq_true hz
            refine ⟨_, k.2, fun hG xv hx => ?_⟩
            obtain ⟨h1, h2⟩ := side_ok k.1 hG
            obtain ⟨b, hb, rfl⟩ := hx
            refine ⟨_, fun _ => run_indexAt_arr ti hd tie h1 h2, ⟨_, b, hb, rfl, ?_⟩, oneC_ptr _⟩
            rw [hz, Nat.add_comm]
          · exact k.elim
        · exact k.elim
      · exact k.elim
    · exact k.elim
  · exact k.elim

/-! Element of a string or of an array's value. -/

@[reducible] def indexK (cx : Cx) (s : St) (G : Gd) (t : TypeId) (x : SV) (n : Int) (K : Ent → Prop) : Prop := match lkT cx.ti t with
  | none => False
  | some i => match i.desc with
    | .string => match x with
      | .c (.v (.string b)) => side s.gl G (0 ≤ n ∧ n < b.size) ∧ ∀ u : UInt8, side s.gl G (b[n.toNat]? = some u) → K (vI .u8 u.toNat)
      | _ => False
    | .array m el => match lkT cx.ti el with
      | none => False
      | some ie => match x with
        | .dat (.arr m' sh) l => match andB (Nat.beq m m') (andB (Nat.beq ie.size sh.size) (beqB (aggD ie.desc) sh.isAgg)) with
          | true => idxSl s.gl G sh l n l.length fun d => K (.one (ofDat sh d))
          | false => False
        | _ => False
    | _ => False

theorem run_part {P : Program} {t : TypeId} {i : TI} (k : TIOK P t i) {w : World} {cs c : List Value} {o : Nat} (hc : c.length = i.size) (h1 : aggD i.desc = false → i.size = 1) (he : (cs.drop o).take i.size = c) :
    (part t cs.toArray o).run P w = .ok (if aggD i.desc = true then .agg c.toArray else c.headD undef) w := by
  unfold part
  rw [Sem.run_bind, run_isAgg k]
  simp only [Result.andThen_ok]
  cases hd : aggD i.desc with
  | true =>
    simp only [if_true, Sem.run_bind, run_sizeOf k, Result.andThen_ok, Sem.run_pure]
    congr 2
    simp only [List.extract_toArray, List.extract_eq_take_drop, Nat.add_sub_cancel_left]
    rw [he]
  | false =>
    have h := h1 hd
    match c, hc, he with
    | [u], _, he =>
      have : cs[o]? = some u := by
        have e1 : ((cs.drop o).take i.size)[0]? = some u := by rw [he]; rfl
        exact take_drop_get e1
      simp [this]
    | [], hc, _ => simp at hc; omega
    | _ :: _ :: _, hc, _ => simp at hc; omega

theorem indexK_ok {cx : Cx} {P : Program} (hc : TisOK P cx.ti) {s : St} {h : FH} {β : List RV}
    {G : Gd} {t : TypeId} {x : SV} {ik : IntKind} {n : Int} {K : Ent → Prop} (k : indexK cx s G t x n K) :
    ∃ e, K e ∧ (gv s.gl G = true → ∀ w xv, CnV h β x xv → ∃ y, (Instr.index t xv (.int ik n)).run P w = .ok y w ∧ CnE h β e y) := by
  unfold indexK at k
  split at k
  · exact k.elim
  rename_i i hi
  have ti := hc.get hi
  split at k
  · rename_i hd
    split at k
    · rename_i b
      obtain ⟨k1, k2⟩ := k
      have hu : ∃ u : UInt8, (gv s.gl G = true → (0 ≤ n ∧ n < b.size) ∧ b[n.toNat]? = some u) := by
        by_cases hG : gv s.gl G = true
        · have h1 := side_ok k1 hG
          have h2 : n.toNat < b.size := by omega
          exact ⟨b[n.toNat], fun _ => ⟨h1, by simp [h2]⟩⟩
        · exact ⟨0, fun hh => (hG hh).elim⟩
      obtain ⟨u, hu⟩ := hu
      refine ⟨_, k2 u (by cases G with | nil => exact (hu rfl).2 | cons x g => exact fun hh => (hu hh).2), fun hG w xv hx => ?_⟩
      obtain ⟨⟨h1, h2⟩, h3⟩ := hu hG
      obtain ⟨⟨rfl, _⟩, _⟩ := hx
      refine ⟨_, ?_, ⟨rfl, oneC_int _ _⟩, oneC_int _ _⟩
      have hu := ti.und' hd rfl
      simp [Instr.index, asIntOf, run_underlying hu, h1, h3]
    · exact k.elim
  · rename_i m el hd
    split at k
    · exact k.elim
    rename_i ie hie
    have tie := hc.get hie
    split at k
    · rename_i m' sh l
      split at k
      · rename_i hz
        rw [andB_eq, andB_eq, Bool.and_eq_true, Bool.and_eq_true] at hz
        have hm : m = m' := Nat.eq_of_beq_eq_true hz.1
        have hs : ie.size = sh.size := Nat.eq_of_beq_eq_true hz.2.1
        have ha := beqB_eq hz.2.2
        subst hm
        obtain ⟨d, k1, k2⟩ := idxSl_ok k fun _ => rfl
        refine ⟨_, k1, fun hG w xv hx => ?_⟩
        obtain ⟨⟨h1, h2⟩, h3⟩ := k2 hG
        obtain ⟨_, cs, rfl, hl, r⟩ := hx
        obtain ⟨g1, g2⟩ := r.get (fun _ _ => Rd.size sh) h3
        have hu := ti.und' hd rfl
        have hp := run_part (P := P) tie (w := w) (cs := cs) (o := n.toNat * ie.size) (c := (cs.drop (n.toNat * sh.size)).take sh.size) (by rw [Rd.size sh g1, hs]) (fun hh => by rw [hs]; exact size_one (by rw [← ha]; exact hh)) (by rw [hs])
        refine ⟨mkV sh ((cs.drop (n.toNat * sh.size)).take sh.size), ?_, ofDat_ok sh g1⟩
        have h4 : n < m := by omega
        simp only [Instr.index, asIntOf, Sem.run_bind, Sem.run_pure, Result.andThen_ok, run_underlying hu, h1, h4, and_self, if_true, run_sizeOf tie, hp]
        unfold mkV
        rw [ha]
      · exact k.elim
    · exact k.elim
  · exact k.elim

/-! Fields. -/

@[reducible] def fieldOf (i : TI) (f : Nat) : Option Field := match i.desc with
  | .struct fs => nthL (tl fs) f
  | _ => none

@[reducible] def fieldAddrK (cx : Cx) (s : St) (G : Gd) (t : TypeId) (x : SC) (f : Nat) (K : Ent → Prop) : Prop := match lkT cx.ti t with
  | none => False
  | some i => match fieldOf i f with
    | none => False
    | some fd => match lkT cx.ti fd.type with
      | none => False
      | some fi => match Nat.beq fi.size 0 with
        | true => False
        | false => match x with
          | .own r off => K (.one (.c (.own r (off + fd.offset))))
          | .rowp r j sz off => K (.one (.c (.rowp r j sz (off + fd.offset))))
          | .fp sh d => match subD sh d fd.offset fi.size (aggD fi.desc) with
            | some q => K (.one (.c (.fp q.1 q.2)))
            | none => False
          | _ => False

theorem fieldOf_eq0 {i : TI} {f : Nat} {fd : Field} (h : fieldOf i f = some fd) : ∃ fs, i.desc = .struct fs ∧ fs[f]? = some fd := by
  unfold fieldOf at h
  split at h
  · rename_i fs hd
    refine ⟨fs, hd, ?_⟩
    rw [nthL_eq] at h
    cases fs with | mk l => simpa using h
  · cases h

theorem fieldOf_eq {P : Program} {t : TypeId} {i : TI} (k : TIOK P t i) {f : Nat} {fd : Field} (h : fieldOf i f = some fd) : ∃ fs fd0, P.underlying t = some (.struct fs) ∧ fs[f]? = some fd0 ∧ fd0.type = fd.type ∧ fd0.offset = fd.offset := by
  obtain ⟨fs, hd, hfs⟩ := fieldOf_eq0 h
  obtain ⟨fs0, h1, rfl⟩ := k.undS hd
  rw [Array.getElem?_map] at hfs
  cases h0 : fs0[f]? with
  | none => rw [h0] at hfs; cases hfs
  | some fd0 => rw [h0] at hfs; cases hfs; exact ⟨fs0, fd0, h1, h0, rfl, rfl⟩

theorem run_fieldAt {P : Program} {t : TypeId} {i fi : TI} {f : Nat} {fd : Field} (k : TIOK P t i) (hf : fieldOf i f = some fd) (kf : TIOK P fd.type fi) (hz : Nat.beq fi.size 0 = false) {w : World} {b o : Nat} :
    (Instr.fieldAt t (.pointer (some ⟨b, o, none⟩)) f).run P w = .ok (.pointer (some ⟨b, o + fd.offset, none⟩)) w := by
  obtain ⟨fs, fd0, hu, hfs, e1, e2⟩ := fieldOf_eq k hf
  have hz : ¬ fi.size = 0 := fun h => by rw [h] at hz; cases hz
  simp [Instr.fieldAt, run_underlying hu, hfs, Instr.sureAddr, fieldPlace, e1, e2, run_sizeOf kf, hz, add_lit]

theorem fieldAddrK_ok {cx : Cx} {P : Program} (hc : TisOK P cx.ti) {s : St} {h : FH} {β : List RV}
    {G : Gd} {t : TypeId} {x : SC} {f : Nat} {K : Ent → Prop} (k : fieldAddrK cx s G t x f K) :
    ∃ e, K e ∧ (gv s.gl G = true → ∀ xv, CnC h β x xv → ∃ y, (∀ w, (Instr.fieldAt t xv f).run P w = .ok y w) ∧ CnE h β e y) := by
  unfold fieldAddrK at k
  split at k
  · exact k.elim
  rename_i i hi
  split at k
  · exact k.elim
  rename_i fd hf
  split at k
  · exact k.elim
  rename_i fi hfi
  split at k
  · exact k.elim
  rename_i hz
  have ti := hc.get hi
  have tfi := hc.get hfi
  split at k
  · refine ⟨_, k, fun hG xv hx => ?_⟩
    obtain ⟨b, hb, rfl⟩ := hx
    exact ⟨_, fun _ => run_fieldAt ti hf tfi hz, ⟨b, hb, rfl⟩, oneC_ptr _⟩
  · refine ⟨_, k, fun hG xv hx => ?_⟩
    obtain ⟨v, g, hb, hg, rfl⟩ := hx
    exact ⟨_, fun _ => run_fieldAt ti hf tfi hz, ⟨v, g, hb, hg, by rw [Nat.add_assoc]⟩, oneC_ptr _⟩
  · rename_i sh d
    split at k
    · rename_i q hq
      refine ⟨_, k, fun hG xv hx => ?_⟩
      obtain ⟨b, o, cs, rfl, r, at_⟩ := hx
      obtain ⟨q1, q2, q3, q4⟩ := subD_ok sh hq r
      exact ⟨_, fun _ => run_fieldAt ti hf tfi hz, ⟨b, _, _, rfl, q1, at_.sub _ _⟩, oneC_ptr _⟩
    · exact k.elim
  · exact k.elim

@[reducible] def fieldK (cx : Cx) (t : TypeId) (x : SV) (f : Nat) (K : Ent → Prop) : Prop := match lkT cx.ti t with
  | none => False
  | some i => match fieldOf i f with
    | none => False
    | some fd => match lkT cx.ti fd.type with
      | none => False
      | some fi => match x with
        | .agg xs => match Nat.ble (fd.offset + fi.size) (lenL xs) with
          | true => match aggD fi.desc with
            | true => K (.one (.agg (takeL fi.size (dropL fd.offset xs))))
            | false => match Nat.beq fi.size 1 with
              | true => match nthL xs fd.offset with
                | some c => K (.one (.c c))
                | none => False
              | false => False
          | false => False
        | .dat sh d => match subD sh d fd.offset fi.size (aggD fi.desc) with
          | some q => K (.one (ofDat q.1 q.2))
          | none => False
        | _ => False

theorem fieldK_ok {cx : Cx} {P : Program} (hc : TisOK P cx.ti) {s : St} {h : FH} {β : List RV}
    {G : Gd} {t : TypeId} {x : SV} {f : Nat} {K : Ent → Prop} (k : fieldK cx t x f K) :
    ∃ e, K e ∧ (gv s.gl G = true → ∀ w xv, CnV h β x xv → ∃ y, (Instr.field t xv f).run P w = .ok y w ∧ CnE h β e y) := by
  unfold fieldK at k
  split at k
  · exact k.elim
  rename_i i hi
  split at k
  · exact k.elim
  rename_i fd hf
  split at k
  · exact k.elim
  rename_i fi hfi
  have ti := hc.get hi
  have tfi := hc.get hfi
  obtain ⟨fs, fd0, hu, hfs, e1, e2⟩ := fieldOf_eq ti hf
  have run : ∀ (w : World) (cs : List Value), (Instr.field t (.agg cs.toArray) f).run P w = (part fd.type cs.toArray fd.offset).run P w := by
    intro w cs
    simp [Instr.field, run_underlying hu, hfs, asAgg, e1, e2]
  split at k
  · rename_i xs
    split at k
    · rename_i hle
      split at k
      · rename_i ha
        refine ⟨_, k, fun hG w xv hx => ?_⟩
        obtain ⟨ys, rfl, hall⟩ := hx
        have hlen := hall.length
        have hle : fd.offset + fi.size ≤ xs.length := by have := Nat.le_of_ble_eq_true hle; rwa [lenL_eq] at this
        refine ⟨.agg ((ys.drop fd.offset).take fi.size).toArray, ?_, _, rfl, ?_⟩
        · rw [run, run_part tfi (by rw [List.length_take, List.length_drop]; omega) (fun hh => by rw [ha] at hh; cases hh) rfl, ha]; rfl
        · rw [takeL_eq, dropL_eq]; exact (hall.drop _).take _
      · rename_i ha
        split at k
        · rename_i h1
          have h1 : fi.size = 1 := Nat.eq_of_beq_eq_true h1
          split at k
          · rename_i c hcx
            refine ⟨_, k, fun hG w xv hx => ?_⟩
            obtain ⟨ys, rfl, hall⟩ := hx
            obtain ⟨y, hy, hxy⟩ := hall.get (show xs[fd.offset]? = some c by rw [← nthL_eq]; exact hcx)
            have he : (ys.drop fd.offset).take fi.size = [y] := by
              rw [h1]
              obtain ⟨hlt, hyy⟩ := List.getElem?_eq_some_iff.1 hy
              rw [List.drop_eq_getElem_cons hlt, List.take_succ_cons, List.take_zero, hyy]
            refine ⟨y, ?_, hxy⟩
            rw [run, run_part tfi (c := [y]) (by rw [h1]; rfl) (fun _ => h1) he, ha]; rfl
          · exact k.elim
        · exact k.elim
    · exact k.elim
  · rename_i sh d
    split at k
    · rename_i q hq
      refine ⟨_, k, fun hG w xv hx => ?_⟩
      obtain ⟨_, cs, rfl, r⟩ := hx
      obtain ⟨q1, q2, q3, q4⟩ := subD_ok sh hq r
      refine ⟨mkV q.1 ((cs.drop fd.offset).take fi.size), ?_, ofDat_ok q.1 q1⟩
      rw [run, run_part tfi (c := (cs.drop fd.offset).take fi.size) (by rw [Rd.size q.1 q1, q2]) (fun hh => by rw [← q2]; exact size_one (q3.trans hh)) rfl]
      unfold mkV; rw [q3]
    · exact k.elim
  · exact k.elim
end Go.Eng
