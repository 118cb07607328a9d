/- The engine, part U: the library's SortFunc at slices of integers, in place. -/
import Derived.Test.YtkndekaioeifdaaEngX
import Derived.Shelf.SlSortCmp.Whole1
set_option linter.unusedSimpArgs false
set_option linter.unusedVariables false
namespace Go.Eng
open Go Go.RowKit

/-- A comparison of lists that orders them. -/
structure CO (c : List Int → List Int → Int) : Prop where
  irr : ∀ x, ¬ c x x < 0
  trans : ∀ x y z, c x y < 0 → c y z < 0 → c x z < 0
  ntrans : ∀ x y z, ¬ c x y < 0 → ¬ c y z < 0 → ¬ c x z < 0
  tri : ∀ x y, ¬ c x y < 0 → ¬ c y x < 0 → x = y

def sortLL (c : List Int → List Int → Int) (l : List (List Int)) : List (List Int) := l.mergeSort fun x y => !decide (c y x < 0)

@[reducible] def ctCmpL (c : List Int → List Int → Int) : CT := { ps := [.sl (.int .i64), .sl (.int .i64)], pre := fun d => d.1.length ≤ 1000000 ∧ d.2.1.length ≤ 1000000, res := fun d => ([], .one (.c (.v (.int .i64 (c d.1 d.2.1))))) }
@[reducible] def ipSortF (g : FuncId) (c : List Int → List Int → Int) : IP :=
  { sh := .sl (.int .i64), ps := [.any], pre := fun l d => d.1 = .func (.func g) #[] #[] ∧ l.length ≤ 1000000 ∧ ∀ x ∈ l, x.length ≤ 1000000, res := fun l _ => sortLL c l, back := false }

/-- A slice's value and what it holds. -/
abbrev SlV (h : FH) := { p : Value × List Int // SlAt h (Rd h (.int .i64)) p.1 p.2 ∧ p.2.length ≤ 1000000 }
instance (h : FH) : Inhabited (SlV h) := ⟨⟨(.slice none 0 0, []), .inl ⟨rfl, rfl⟩, Nat.zero_le _⟩⟩
def encV {h : FH} (x : SlV h) : Value := x.1.1
theorem encV_one {h : FH} : Proofs.OneCell (encV (h := h)) := fun x => x.2.1.oneC.2

theorem rows_of {h : FH} : ∀ {l : List (List Int)} {cs : List Value}, RdL (Rd h (.sl (.int .i64))) cs l → (∀ x ∈ l, x.length ≤ 1000000) → ∃ d : List (SlV h), d.map encV = cs ∧ d.map (fun x => x.1.2) = l
  | [], cs, r, _ => ⟨[], by simpa [RdL] using r.symm, rfl⟩
  | x :: l, cs, ⟨c, r, e, ⟨v, ec, hv⟩, hr⟩, hb => by
    obtain ⟨d, d1, d2⟩ := rows_of hr (fun y hy => hb y (by simp [hy]))
    exact ⟨⟨(v, x), hv, hb x (by simp)⟩ :: d, by rw [e, ec, ← d1]; rfl, by simp [← d2]⟩
theorem of_rows {h : FH} : ∀ (d : List (SlV h)), RdL (Rd h (.sl (.int .i64))) (d.map encV) (d.map fun x => x.1.2)
  | [] => rfl
  | x :: d => ⟨[encV x], d.map encV, rfl, ⟨encV x, rfl, x.2.1⟩, of_rows d⟩

theorem holds_row {α : Type} [Inhabited α] {enc : α → Value} {w : World} {g : Nat} {cur : Array Value} {e : TypeId} {d : List α} (hb : w.heap[g]? = some (.cells cur e (0, 0))) (ht : cur.toList.take d.length = d.map enc) : Sort.Holds enc w g 0 d.toArray := by
  intro j hj
  have hj' : j < d.length := by simpa using hj
  refine ⟨?_, by simp [World.frozen?, hb]⟩
  have h1 : (cur.toList.take d.length)[j]? = (d.map enc)[j]? := by rw [ht]
  rw [List.getElem?_take_of_lt hj'] at h1
  simp only [World.cell?, hb, Nat.zero_add]
  simp only [Option.isSome_none, Bool.false_eq_true, if_false]
  rw [← Array.getElem?_toList, h1]
  simp [hj', getElem!_pos]

theorem heap_put {α : Type} [Inhabited α] {enc : α → Value} {w : World} {g n : Nat} {os : Array Obj} {cur : Array Value} {e : TypeId} {fr : Nat × Nat} (d : Array α) (hb : w.heap[g]? = some (.cells cur e fr)) :
    (Proofs.sortWorld enc w g 0 n d os).heap[g]? = some (.cells (Sort.putCells enc 0 d cur) e fr) := by
  have hg : g < w.heap.size := (Array.getElem?_eq_some_iff.1 hb).1
  unfold Proofs.sortWorld
  rw [Sort.heap_grow_old _ _ (by simpa using hg)]
  simp [Sort.putRow, Sort.mapBlock, Sort.ahead, Array.getElem?_modify, hb, Sort.onCells]
theorem heap_oth {α : Type} [Inhabited α] {enc : α → Value} {w : World} {g n : Nat} {os : Array Obj} (d : Array α) {k : Nat} (hk : k < w.heap.size) (hne : k ≠ g) :
    (Proofs.sortWorld enc w g 0 n d os).heap[k]? = w.heap[k]? := by
  unfold Proofs.sortWorld
  rw [Sort.heap_grow_old _ _ (by simpa using hk)]
  have : g ≠ k := fun e => hne e.symm
  simp [Sort.putRow, Sort.mapBlock, Sort.ahead, Array.getElem?_modify, this]
theorem gb_sortw {α : Type} [Inhabited α] {enc : α → Value} {w : World} {g n : Nat} {os : Array Obj} (d : Array α) : Gb w (Proofs.sortWorld enc w g 0 n d os) (some g) := by
  refine ⟨⟨rfl, rfl, rfl, ?_, fun k hk hne => heap_oth d hk fun e => hne (by rw [e])⟩, ?_⟩
  · unfold Proofs.sortWorld; simp [Sort.grow]
  · unfold Proofs.sortWorld; simp [Sort.grow, Sort.putRow, Sort.mapBlock, Sort.ahead]
theorem take_put {α : Type} [Inhabited α] {enc : α → Value} (cur : Array Value) (ts : List α) (h : ts.length ≤ cur.size) : (Sort.putCells enc 0 ts.toArray cur).toList.take ts.length = ts.map enc := by
  apply List.ext_getElem?
  intro j
  by_cases hj : j < ts.length
  · rw [List.getElem?_take_of_lt hj, Array.getElem?_toList]
    simp [Sort.putCells, hj, show j < cur.size by omega]
  · rw [List.getElem?_take_eq_none (by omega), List.getElem?_eq_none (by simp; omega)]

theorem grow_of {W w' : World} (hos : w'.os = W.os) (ht : w'.tape = W.tape) (ho : w'.output = W.output) (hs : W.heap.size ≤ w'.heap.size) (hb : ∀ k, k < W.heap.size → w'.heap[k]? = W.heap[k]?) (hd : W.drawn ≤ w'.drawn) :
    ∃ q os', w' = Sort.grow (W.drewN q) os' := by
  refine ⟨w'.drawn - W.drawn, w'.heap.extract W.heap.size w'.heap.size, ?_⟩
  have e1 : w'.heap = W.heap ++ w'.heap.extract W.heap.size w'.heap.size := by
    apply Array.ext_getElem?
    intro k
    by_cases hk : k < W.heap.size
    · rw [Array.getElem?_append_left hk]; exact hb k hk
    · rw [Array.getElem?_append_right (by omega), Array.getElem?_extract]
      by_cases hk2 : k < w'.heap.size
      · rw [if_pos (by omega)]; congr 1; omega
      · rw [if_neg (by omega)]; exact Array.getElem?_eq_none (by omega)
  cases w' with
  | mk hp tp dr os ou =>
    cases W with
    | mk hp2 tp2 dr2 os2 ou2 =>
      simp only at *
      subst hos; subst ht; subst ho
      simp only [Sort.grow, World.drewN]
      congr 1
      omega

theorem FnIs.enters {P : Program} {f : FuncId} (h : FnIs P f) : ∀ args w, (callFunc f args).run P w = .ok (.enter f args) w := by
  obtain ⟨fn, hf, hb, hn⟩ := h
  obtain ⟨c, hc⟩ := Option.isSome_iff_exists.1 hb
  exact Go.Proofs.enters_of hf hn hc

theorem ipok_sortf {P : Program} {gd : Nat → Option (Sigma Sh.den)} {ρ : Shelf.Ren} (L : Proofs.SlLaysF.n6 P ρ) {g : FuncId} {c : List Int → List Int → Int} (co : CO c) (hc : CTOK P gd g (ctCmpL c)) (eg : ∀ args w, (callFunc g args).run P w = .ok (.enter g args) w)
    (hz : ∀ (a : Option Addr) (cap : Nat) w, Calls P (ρ.f 6) #[.slice a 0 cap, .func (.func g) #[] #[]] w fun e w' => e = .returned (.tuple #[]) ∧ w' = w) : IPOK P gd (ρ.f 6) (ipSortF g c) := by
  intro t l d v vs h w hw hg hold hfr hvs hpre
  obtain ⟨d0, d1⟩ := d
  obtain ⟨hd0, hl, hb⟩ := hpre
  simp only at hd0
  subst hd0
  match vs, hvs with
  | [u], ⟨⟨⟨hu, _⟩, _⟩, _⟩ =>
    subst hu
    rcases hold with ⟨rfl, rfl⟩ | ⟨ra, rfl, rfl⟩ | ⟨gb, cap, cur, rfl, e1, e2, e3, e4, r⟩
    · refine (hz none 0 w).mono ?_
      rintro en w' ⟨rfl, rfl⟩
      exact ⟨.slice none 0 0, _, rfl, grown_refl _ _, fun b hb => .inl hb, .inl ⟨rfl, by simp [sortLL]⟩, fun hh => (by cases hh), fun _ => ⟨rfl, rfl⟩⟩
    · refine (hz (some ra) 0 w).mono ?_
      rintro en w' ⟨rfl, rfl⟩
      exact ⟨.slice (some ra) 0 0, _, rfl, grown_refl _ _, fun b hb => .inl hb, .inr (.inl ⟨ra, rfl, by simp [sortLL]⟩), fun hh => (by cases hh), fun _ => ⟨rfl, rfl⟩⟩
    · obtain ⟨dv, dv1, dv2⟩ := rows_of r hb
      have hlen : dv.length = l.length := by rw [← dv2, List.length_map]
      have hgs : gb < w.heap.size := (Array.getElem?_eq_some_iff.1 e1).1
      have hH : Sort.Holds (encV (h := h)) w gb 0 dv.toArray := holds_row e1 (by rw [hlen, dv1]; simp)
      have hO : Sort.SWO (Proofs.ltOf fun x y : SlV h => c x.1.2 y.1.2) := {
        irrefl := fun x => by simp [Proofs.ltOf]; have := co.irr x.1.2; omega
        trans := fun x y z h1 h2 => by simp [Proofs.ltOf] at *; exact co.trans _ _ _ h1 h2
        ntrans := fun x y z h1 h2 => by
          simp [Proofs.ltOf] at *
          have := co.ntrans x.1.2 y.1.2 z.1.2 (by omega) (by omega)
          omega }
      have hfree := hfr gb (rowBlk_own e3.1)
      have hcmp : Proofs.CmpLays1 P g #[] (encV (h := h)) (fun x y => c x.1.2 y.1.2) gb 0 dv.toArray.size w := by
        intro m os dk hdk x y
        have hW : ∀ b o u, h b o = some u → (Proofs.sortWorld (encV (h := h)) w gb 0 m dk os).cell? ⟨b, o, none⟩ = some u := by
          intro b o u hh
          have h1 := hw b o u hh
          have hlt := World.block_lt_of_cell? _ _ h1
          have hne : b ≠ gb := fun e => by subst e; rw [hfree o] at hh; cases hh
          have := heap_oth (enc := encV (h := h)) (n := m) (os := os) dk hlt hne
          simp only [World.cell?, this] at h1 ⊢
          exact h1
        have := hc (x.1.2, y.1.2, ()) [encV x, encV y] h _ hW hg ⟨⟨x.2.1, x.2.1.oneC⟩, ⟨y.2.1, y.2.1.oneC⟩, trivial⟩ ⟨x.2.2, y.2.2⟩
        refine Calls.mono (by simpa using this) ?_
        rintro en w' ⟨h', β, yv, rfl, ok, he⟩
        obtain ⟨⟨rfl, _⟩, _⟩ := he
        exact ⟨rfl, grow_of ok.below.os ok.below.tape ok.below.output ok.below.size ok.below.block ok.dr⟩
      have hs := Proofs.Any.slices_SortFunc L (encV (h := h)) encV_one (fun x y : SlV h => c x.1.2 y.1.2) hO g #[] gb 0 cap dv.toArray w eg hcmp hH hgs (by simp; omega)
      have hs : Calls P (ρ.f 6) #[.slice (some ⟨gb, 0, none⟩) l.length cap, .func (.func g) #[] #[]] w fun e w' => e = .returned (.tuple #[]) ∧ ∃ d' n os, Sort.PermIn 0 dv.toArray.size dv.toArray d' ∧ Sort.SortedIn (Proofs.ltOf fun x y : SlV h => c x.1.2 y.1.2) 0 dv.toArray.size d' ∧ w' = Proofs.sortWorld (encV (h := h)) w gb 0 n d' os := by
        simpa [hlen] using hs
      refine Calls.mono hs ?_
      rintro en w' ⟨rfl, d', n, os, hp, hsrt, rfl⟩
      have hdsz : d'.toList.length = l.length := by have := hp.1; simp at this; simp; omega
      have hperm : d'.toList.Perm dv := by
        have := hp.2.2
        have h1 : d'.extract 0 dv.toArray.size = d' := by rw [← hp.1]; simp
        have h2 : dv.toArray.extract 0 dv.toArray.size = dv.toArray := by simp
        rw [h1, h2] at this
        simpa using this
      have hres : d'.toList.map (fun x => x.1.2) = sortLL c l := by
        have p1 : (d'.toList.map (fun x => x.1.2)).Perm l := by rw [← dv2]; exact hperm.map _
        have p2 : (sortLL c l).Perm l := List.mergeSort_perm l _
        refine List.Perm.eq_of_pairwise (le := fun x y => ¬ c y x < 0) (fun a b _ _ h1 h2 => co.tri _ _ h2 h1) ?_ ?_ (p1.trans p2.symm)
        · rw [List.pairwise_map, List.pairwise_iff_getElem]
          intro i j hi hj hij
          have := hsrt i j (Nat.zero_le _) hij (by simp at hj; have := hp.1; omega)
          rw [getElem!_pos d' i (by simpa using hi), getElem!_pos d' j (by simpa using hj)] at this
          simpa [Proofs.ltOf] using this
        · have := List.pairwise_mergeSort (le := fun x y => !decide (c y x < 0)) (fun a b q h1 h2 => by
            simp at *
            have := co.ntrans q b a (by omega) (by omega)
            omega) (fun a b => by
            simp
            by_cases hab : c b a < 0
            · right
              have := co.trans a b a
              have := co.irr a
              omega
            · left; omega) l
          exact this.imp fun h => by simp at h; omega
      refine ⟨.slice (some ⟨gb, 0, none⟩) l.length cap, _, rfl, by rw [rowBlk_own e3.1]; exact gb_sortw _, fun b hb => .inl hb, ?_, fun hh => (by cases hh), fun _ => ⟨rfl, rfl⟩⟩
      have hsl : (sortLL c l).length = l.length := by rw [← hres, List.length_map, hdsz]
      refine .inr (.inr ⟨gb, cap, _, by rw [hsl], heap_put d' e1, by rw [hsl]; exact e2, e3, by simp [Sort.putCells, e4], ?_⟩)
      have hsz1 : (Sh.sl (.int .i64)).size = 1 := rfl
      have hput := take_put (enc := encV (h := h)) cur d'.toList (by rw [hdsz, e4, hsz1]; omega)
      rw [hsl, hsz1, Nat.mul_one, ← hdsz]
      simp only [Array.toArray_toList] at hput
      rw [hput]
      show RdL (Rd h (.sl (.int .i64))) _ (sortLL c l)
      rw [← hres]
      exact of_rows _
end Go.Eng
