/- The engine, part X: the library's Sort and Compact of integers, in place. -/
import Derived.Test.YtklnffdjhoacoaaDoorEngQ
import Derived.Sort.OwnSortedInts
import Derived.Lib.SlicesCompact
set_option linter.unusedSimpArgs false
set_option linter.unusedVariables false
namespace Go.Eng
open Go Go.RowKit

theorem RdL_int {h : FH} {k : IntKind} : ∀ {l : List Int} {cs : List Value}, RdL (Rd h (.int k)) cs l ↔ cs = l.map (Value.int k)
  | [], cs => by simp [RdL]
  | x :: l, cs => by
    simp only [RdL, Rd, List.map_cons]
    constructor
    · rintro ⟨c, r, rfl, rfl, hr⟩; rw [(RdL_int (h := h)).1 hr]; rfl
    · rintro rfl; exact ⟨[.int k x], l.map (Value.int k), rfl, rfl, (RdL_int (h := h)).2 rfl⟩

def sortI (l : List Int) : List Int := l.mergeSort fun x y => decide (x ≤ y)
@[reducible] def ipSort : IP := { sh := .int .i64, ps := [], pre := fun l _ => l.length < 4611686018427387904, res := fun l _ => sortI l, back := false }
@[reducible] def ipCompact : IP := { sh := .int .i64, ps := [], pre := fun l _ => l.length < 4611686018427387904, res := fun l _ => Lib.compact l, back := true }

theorem compact_len (l : List Int) : (Lib.compact l).length ≤ l.length := by
  unfold Lib.compact Lib.compactUpTo
  rw [List.length_map]
  refine Nat.le_trans (List.length_filter_le _ _) (by simp)

theorem gb_sorted {w : World} {g n : Nat} {os : Array Obj} (d : Array Int) : Gb w (Sort.grow (Sort.putRow (Value.int .i64) (Sort.ahead w n) g 0 d) os) (some g) :=
  ⟨grownBy_sortedI d, by simp [Sort.grow, Sort.putRow, Sort.mapBlock, Sort.ahead]⟩
theorem row_int {h : FH} {w : World} {t : TypeId} {l : List Int} {g cap : Nat} {cur : Array Value} (hb : w.heap[g]? = some (.cells cur t (0, 0))) (hc : l.length ≤ cap) (hcap : 1 ≤ cap ∧ cap ≤ maxLen) (hsz : cur.size = cap * 1) {ts : List Int} (hts : ts.length = l.length) {k : Nat} (hk : k ≤ ts.length) {n : Nat} {os : Array Obj} :
    Holds h [] (Sort.grow (Sort.putRow (Value.int .i64) (Sort.ahead w n) g 0 ts.toArray) os) (.row t (.int .i64) (ts.take k)) (.row (.slice (some ⟨g, 0, none⟩) (ts.take k).length cap)) := by
  refine .inr (.inr ⟨g, cap, _, rfl, heap_sortedI _ hb, by rw [List.length_take]; omega, hcap, by simp [Sort.putCells, hsz, Sh.size], RdL_int.2 ?_⟩)
  have e := take_putCellsI cur ts (by omega)
  rw [Nat.mul_one, List.length_take, show min k ts.length = k by omega]
  have : (Sort.putCells (Value.int .i64) 0 ts.toArray cur).toList.take k = ((Sort.putCells (Value.int .i64) 0 ts.toArray cur).toList.take ts.length).take k := by rw [List.take_take, show min k ts.length = k by omega]
  rw [this, e, List.map_take]

theorem ipok_sort {P : Program} {gd : Nat → Option (Sigma Sh.den)} {f : FuncId} {cz : CT} (hz : CTOK P gd f cz) (ez : cz = { ps := [.sl (.int .i64)], pre := fun d => d.1 = [], res := fun d => ([], .tup []) })
    (hs : ∀ (blk cap : Nat) (zs : List Int) (w : World), Sort.Holds (Value.int .i64) w blk 0 zs.toArray → blk < w.heap.size → zs.length < 4611686018427387904 →
      Calls P f #[.slice (some ⟨blk, 0, none⟩) zs.length cap] w fun e w' => e = .returned (.tuple #[]) ∧ ∃ n os, w' = Sort.grow (Sort.putRow (Value.int .i64) (Sort.ahead w n) blk 0 (sortI zs).toArray) os) :
    IPOK P gd f ipSort := by
  intro t l d v vs h w hw hg hold hfr hvs hpre
  subst ez
  cases vs with
  | cons _ _ => exact hvs.elim
  | nil =>
    have zero : ∀ v : Value, SlAt h (Rd h (.int .i64)) v [] → (Holds h [] w (.row t (.int .i64) []) (.row v)) → Calls P f #[v] w (fun en w' => ∃ v' y, en = .returned y ∧ Gb w w' (rowBlk v) ∧ (∀ b, rowBlk v' = some b → rowBlk v = some b ∨ (w.heap.size ≤ b ∧ b < w'.heap.size)) ∧
        Holds h [] w' (.row t (.int .i64) (sortI [])) (.row v') ∧ (ipSort.back = true → y = v') ∧ (ipSort.back = false → y = .tuple #[] ∧ v' = v)) := by
      intro v hv hold
      refine (hz ([], ()) [v] h w hw hg ⟨⟨hv, hv.oneC⟩, trivial⟩ rfl).mono ?_
      rintro en w' ⟨h', β', y, rfl, ok, he⟩
      obtain ⟨ys, rfl, ha⟩ := he
      cases ys with
      | cons _ _ => exact ha.elim
      | nil =>
        refine ⟨v, _, rfl, ?_, fun b hb => .inl hb, ?_, fun hh => (by cases hh), fun _ => ⟨rfl, rfl⟩⟩
        · exact ⟨⟨ok.below.os, ok.below.tape, ok.below.output, ok.below.size, fun k hk _ => (Bw.bel ok.below).block k hk⟩, ok.dr⟩
        · rw [show sortI [] = [] by simp [sortI]]
          rcases hold with e | e | ⟨g, cap, cur, rfl, e1, e2, e3, e4, r⟩
          · exact .inl e
          · exact .inr (.inl e)
          · refine .inr (.inr ⟨g, cap, cur, rfl, ?_, e2, e3, e4, r⟩)
            rw [(Bw.bel ok.below).block g (Array.getElem?_eq_some_iff.1 e1).1]; exact e1
    rcases hold with ⟨rfl, rfl⟩ | ⟨ra, rfl, rfl⟩ | ⟨g, cap, cur, rfl, e1, e2, e3, e4, r⟩
    · exact zero _ (.inl ⟨rfl, rfl⟩) (.inl ⟨rfl, rfl⟩)
    · exact zero _ (.inr (.inl ⟨ra, 0, rfl, rfl, Nat.zero_le _⟩)) (.inr (.inl ⟨ra, rfl, rfl⟩))
    · have hr := RdL_int.1 r
      rw [Nat.mul_one] at hr
      have hgs : g < w.heap.size := (Array.getElem?_eq_some_iff.1 e1).1
      refine (hs g cap l w (holds_of_blockI e1 hr) hgs hpre).mono ?_
      rintro en w' ⟨rfl, n, os, rfl⟩
      have hl : (sortI l).length = l.length := by simp [sortI]
      refine ⟨.slice (some ⟨g, 0, none⟩) l.length cap, _, rfl, by rw [rowBlk_own e3.1]; exact gb_sorted _, fun b hb => .inl hb, ?_, fun hh => (by cases hh), fun _ => ⟨rfl, rfl⟩⟩
      have := row_int (h := h) (n := n) (os := os) e1 e2 e3 e4 hl (Nat.le_refl _)
      rw [List.take_length, hl] at this
      exact this

theorem ipok_compact {P : Program} {gd : Nat → Option (Sigma Sh.den)} {f : FuncId}
    (hz : ∀ (a : Option Addr) (cap : Nat) w, Calls P f #[.slice a 0 cap] w fun e w' => e = .returned (.slice a 0 cap) ∧ w' = w)
    (hs : ∀ (blk cap : Nat) (zs : List Int) (w : World), Sort.Holds (Value.int .i64) w blk 0 zs.toArray → zs.length ≤ 9223372036854775807 → zs.length ≤ cap →
      Calls P f #[.slice (some ⟨blk, 0, none⟩) zs.length cap] w fun e w' => e = .returned (.slice (some ⟨blk, 0, none⟩) (Lib.compact zs).length cap) ∧
        ∃ q, w' = Sort.putRow (Value.int .i64) (Sort.ahead w q) blk 0 (Lib.compact zs ++ List.replicate (zs.length - (Lib.compact zs).length) 0).toArray) :
    IPOK P gd f ipCompact := by
  intro t l d v vs h w hw hg hold hfr hvs hpre
  cases vs with
  | cons _ _ => exact hvs.elim
  | nil =>
    rcases hold with ⟨rfl, rfl⟩ | ⟨ra, rfl, rfl⟩ | ⟨g, cap, cur, rfl, e1, e2, e3, e4, r⟩
    · refine (hz none 0 w).mono ?_
      rintro en w' ⟨rfl, rfl⟩
      exact ⟨.slice none 0 0, _, rfl, grown_refl _ _, fun b hb => .inl hb, .inl ⟨rfl, rfl⟩, fun _ => rfl, fun hh => (by cases hh)⟩
    · refine (hz (some ra) 0 w).mono ?_
      rintro en w' ⟨rfl, rfl⟩
      exact ⟨.slice (some ra) 0 0, _, rfl, grown_refl _ _, fun b hb => .inl hb, .inr (.inl ⟨ra, rfl, rfl⟩), fun _ => rfl, fun hh => (by cases hh)⟩
    · have hr := RdL_int.1 r
      rw [Nat.mul_one] at hr
      have hpre : l.length < 4611686018427387904 := hpre
      refine (hs g cap l w (holds_of_blockI e1 hr) (by omega) e2).mono ?_
      rintro en w' ⟨rfl, q, rfl⟩
      have hc := compact_len l
      have hl : (Lib.compact l ++ List.replicate (l.length - (Lib.compact l).length) 0).length = l.length := by simp; omega
      have := row_int (h := h) (n := q) (os := #[]) e1 e2 e3 e4 hl (k := (Lib.compact l).length) (by omega)
      rw [List.take_left, Sort.grow_empty] at this
      refine ⟨.slice (some ⟨g, 0, none⟩) (Lib.compact l).length cap, _, rfl, ?_, fun b hb => .inl (by rw [rowBlk_own e3.1] at hb ⊢; exact hb), this, fun _ => rfl, fun hh => by cases hh⟩
      have := gb_sorted (w := w) (g := g) (n := q) (os := #[]) (Lib.compact l ++ List.replicate (l.length - (Lib.compact l).length) 0).toArray
      rw [rowBlk_own e3.1]
      rwa [Sort.grow_empty] at this
end Go.Eng
