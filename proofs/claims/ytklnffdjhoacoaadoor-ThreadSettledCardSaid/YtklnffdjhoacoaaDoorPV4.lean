/- The Program chapter, part 4: the instructions, one after the other. -/
import Derived.Test.YtklnffdjhoacoaaDoorPV2
set_option linter.unusedSimpArgs false
set_option linter.unusedVariables false
set_option maxRecDepth 100000
namespace Go.Proofs.YtklnffdjhoacoaaDoor
open Go Go.Eng

@[reducible] def shV : Sh := .pair .str (.pair (.int .i64) .unit)
@[reducible] def shF : Sh := .pair .str (.pair (.sl shI) .unit)
@[reducible] def shS : Sh := .pair (.int .i64) (.pair (.int .i64) .unit)
@[reducible] def shP : Sh := .pair (.sl shV) (.pair (.sl .str) (.pair (.sl .str) (.pair (.sl shF) (.pair (.sl shS) .unit))))
abbrev ID := Int × Int × Int × Int × Int × Int × Int × Int × Unit
abbrev VD := ByteArray × Int × Unit
abbrev FD := ByteArray × List ID × Unit
abbrev SD := Int × Int × Unit
abbrev PD := List VD × List ByteArray × List ByteArray × List FD × List SD × Unit
/-- The instructions of functions, with their places. -/
def instF (f : Nat) (x : FD) : List (dens [shS, shI]) := x.2.1.zipIdx.map fun p => (((f : Int), (p.2 : Int), ()), p.1, ())
def instG : Nat → List FD → List (dens [shS, shI])
  | _, [] => []
  | n, x :: l => instF n x ++ instG (n + 1) l
def instL (fs : List FD) : List (dens [shS, shI]) := instG 0 fs
theorem instF_len (f : Nat) (x : FD) : (instF f x).length = x.2.1.length := by simp [instF]
theorem instF_get {f : Nat} {x : FD} {j : Nat} {e : ID} (h : x.2.1[j]? = some e) : (instF f x)[j]? = some (((f : Int), (j : Int), ()), e, ()) := by
  unfold instF
  rw [List.getElem?_map, List.getElem?_zipIdx, h]
  simp
theorem instG_append : ∀ (l m : List FD) (n : Nat), instG n (l ++ m) = instG n l ++ instG (n + l.length) m
  | [], m, n => by simp [instG]
  | x :: l, m, n => by
    simp only [List.cons_append, instG, instG_append l m, List.append_assoc, List.length_cons]
    rw [show n + 1 + l.length = n + (l.length + 1) by omega]
theorem instL_cut {fs : List FD} {k : Nat} {d : FD} (h : fs[k]? = some d) : instL fs = instL (fs.take k) ++ (instF k d ++ instG (k + 1) (fs.drop (k + 1))) := by
  have hk : k < fs.length := (List.getElem?_eq_some_iff.1 h).1
  have e : fs = fs.take k ++ (d :: fs.drop (k + 1)) := by
    have h2 := List.drop_eq_getElem_cons hk
    rw [(List.getElem?_eq_some_iff.1 h).2] at h2
    rw [← h2, List.take_append_drop]
  unfold instL
  conv => lhs; rw [e]
  rw [instG_append]
  rw [show 0 + (fs.take k).length = k by simp; omega]
  rfl
theorem instL_step {fs : List FD} {k : Nat} {d : FD} (h : fs[k]? = some d) : instL (fs.take (k + 1)) = instL (fs.take k) ++ instF k d := by
  have hk : k < fs.length := (List.getElem?_eq_some_iff.1 h).1
  rw [List.take_add_one, h]
  unfold instL
  rw [instG_append]
  rw [show 0 + (fs.take k).length = k by simp; omega]
  simp [instG]
theorem instL_get {fs : List FD} {k j : Nat} {d : FD} {e : ID} (h : fs[k]? = some d) (h2 : d.2.1[j]? = some e) : (instL fs)[(instL (fs.take k)).length + j]? = some (((k : Int), (j : Int), ()), e, ()) := by
  have hj : j < d.2.1.length := (List.getElem?_eq_some_iff.1 h2).1
  rw [instL_cut h, List.getElem?_append_right (by omega), List.getElem?_append_left (by rw [instF_len]; omega)]
  rw [show (instL (fs.take k)).length + j - (instL (fs.take k)).length = j by omega]
  exact instF_get h2
@[reducible] noncomputable def mk70 : MK := { ss := [shP], f := fun d => .seq Tryd.prog [shS, shI] (instL d.1.2.2.2.1), pre := fun d => d.1.2.2.2.1.length ≤ 1000000 ∧ ∀ x ∈ d.1.2.2.2.1, x.2.1.length ≤ 1000000 }

@[reducible] def cl75 : List (Nat × CT) := []
@[reducible] def ann75 (vs : List VD) (ms : List ByteArray) (cs : List ByteArray) (fs : List FD) (ts : List SD) : Nat → Option (St → Ann) := fun k => match k with
  | 1 => some fun _ => .gen { α := Nat, slots := fun k => [(10, .c (.v (.int .i64 k)))], res := fun _ => [], inv := fun k => k ≤ fs.length, meas := fun k => fs.length - k } fun k => (instL (fs.take k)).length
  | 4 => some fun s => .gen { α := Nat, slots := fun k => [(18, .c (.v (.int .i64 k)))], res := fun _ => [], inv := fun k => k ≤ (slotL shI s 16).length, meas := fun k => (slotL shI s 16).length - k } fun k => (instL (fs.take (slotI s 10).toNat)).length + k
  | _ => none
@[reducible] def il75 : List (Nat × IP) := []
@[reducible] def hl75 : List (Nat × Nat × CT) := []
@[reducible] def ml75 : List (Nat × MK) := []
set_option maxRecDepth 100000 in
theorem f75_vc (vs : List VD) (ms : List ByteArray) (cs : List ByteArray) (fs : List FD) (ts : List SD) (l : Nat) (hpre : mk70.pre ((vs, ms, cs, fs, ts, ()), ())) :
    (∃ x, x ≤ fs.length ∧ (instL (List.take x fs)).length = (0 : Nat) ∧ (SV.c (SC.v (Value.int IntKind.i64 (0 : Int))) = SV.c (SC.v (Value.int IntKind.i64 (↑x : Int))) ∧ True) ∧ ([] : List (Go.Eng.Gd × Go.Eng.Res)) = []) ∧ ∀ (x : Nat), x ≤ fs.length → br (decide ((↑x : Int) < (↑fs.length : Int))) (((0 : Int) ≤ (↑x : Int) ∧ (↑x : Int) < (↑fs.length : Int)) ∧ ∀ (d : Sh.str.den × (((Sh.int IntKind.i64).pair ((Sh.int IntKind.i64).pair ((Sh.int IntKind.i64).pair ((Sh.int IntKind.i64).pair ((Sh.int IntKind.i64).pair ((Sh.int IntKind.i64).pair ((Sh.int IntKind.i64).pair ((Sh.int IntKind.i64).pair Sh.unit)))))))).sl.pair Sh.unit).den), fs[(↑x : Int).toNat]? = some d → (∃ x_1, x_1 ≤ List.length (d.snd.fst) ∧ (instL (List.take (↑x : Int).toNat fs)).length + x_1 = (instL (List.take x fs)).length ∧ (SV.c (SC.v (Value.int IntKind.i64 (0 : Int))) = SV.c (SC.v (Value.int IntKind.i64 (↑x_1 : Int))) ∧ True) ∧ [(([] : Go.Eng.Gd), Res.blk (60 : Nat) [SC.v (Value.string d.fst), SC.sl ((Sh.int IntKind.i64).pair ((Sh.int IntKind.i64).pair ((Sh.int IntKind.i64).pair ((Sh.int IntKind.i64).pair ((Sh.int IntKind.i64).pair ((Sh.int IntKind.i64).pair ((Sh.int IntKind.i64).pair ((Sh.int IntKind.i64).pair Sh.unit)))))))) d.snd.fst])] = [(([] : Go.Eng.Gd), Res.blk (60 : Nat) [SC.v (Value.string d.fst), SC.sl ((Sh.int IntKind.i64).pair ((Sh.int IntKind.i64).pair ((Sh.int IntKind.i64).pair ((Sh.int IntKind.i64).pair ((Sh.int IntKind.i64).pair ((Sh.int IntKind.i64).pair ((Sh.int IntKind.i64).pair ((Sh.int IntKind.i64).pair Sh.unit)))))))) d.snd.fst])]) ∧ ∀ (x_1 : Nat), x_1 ≤ List.length (d.snd.fst) → br (decide ((↑x_1 : Int) < (↑(List.length d.snd.fst) : Int))) (((0 : Int) ≤ (↑x_1 : Int) ∧ (↑x_1 : Int) < (↑(List.length d.snd.fst) : Int)) ∧ ∀ (d_1 : (Sh.int IntKind.i64).den × ((Sh.int IntKind.i64).pair ((Sh.int IntKind.i64).pair ((Sh.int IntKind.i64).pair ((Sh.int IntKind.i64).pair ((Sh.int IntKind.i64).pair ((Sh.int IntKind.i64).pair ((Sh.int IntKind.i64).pair Sh.unit))))))).den), d.snd.fst[(↑x_1 : Int).toNat]? = some d_1 → l = l ∧ (instL fs)[(instL (List.take (↑x : Int).toNat fs)).length + x_1]? = some (((↑x : Int), (↑x_1 : Int), ()), d_1, ()) ∧ (InR IntKind.i64 ((↑x_1 : Int) + (1 : Int)) ∧ ∃ x', x' ≤ List.length (d.snd.fst) ∧ (instL (List.take (↑x : Int).toNat fs)).length + x' = (instL (List.take (↑x : Int).toNat fs)).length + x_1 + (1 : Nat) ∧ (SV.c (SC.v (Value.int IntKind.i64 ((↑x_1 : Int) + (1 : Int)))) = SV.c (SC.v (Value.int IntKind.i64 (↑x' : Int))) ∧ True) ∧ [(([] : Go.Eng.Gd), Res.blk (60 : Nat) [SC.v (Value.string d.fst), SC.sl ((Sh.int IntKind.i64).pair ((Sh.int IntKind.i64).pair ((Sh.int IntKind.i64).pair ((Sh.int IntKind.i64).pair ((Sh.int IntKind.i64).pair ((Sh.int IntKind.i64).pair ((Sh.int IntKind.i64).pair ((Sh.int IntKind.i64).pair Sh.unit)))))))) d.snd.fst])] = [(([] : Go.Eng.Gd), Res.blk (60 : Nat) [SC.v (Value.string d.fst), SC.sl ((Sh.int IntKind.i64).pair ((Sh.int IntKind.i64).pair ((Sh.int IntKind.i64).pair ((Sh.int IntKind.i64).pair ((Sh.int IntKind.i64).pair ((Sh.int IntKind.i64).pair ((Sh.int IntKind.i64).pair ((Sh.int IntKind.i64).pair Sh.unit)))))))) d.snd.fst])] ∧ List.length (d.snd.fst) - x' < List.length (d.snd.fst) - x_1) ∧ True) (InR IntKind.i64 ((↑x : Int) + (1 : Int)) ∧ ∃ x', x' ≤ fs.length ∧ (instL (List.take x' fs)).length = (instL (List.take (↑x : Int).toNat fs)).length + x_1 ∧ (SV.c (SC.v (Value.int IntKind.i64 ((↑x : Int) + (1 : Int)))) = SV.c (SC.v (Value.int IntKind.i64 (↑x' : Int))) ∧ True) ∧ ([] : List (Go.Eng.Gd × Go.Eng.Res)) = [] ∧ fs.length - x' < fs.length - x)) ((instL (List.take x fs)).length = lenL (instL fs)) := by
  have hp1 : fs.length ≤ 1000000 := hpre.1
  have hp2 : ∀ x ∈ fs, x.2.1.length ≤ 1000000 := hpre.2
  refine ⟨⟨0, by omega, by simp [instL, instG], ⟨rfl, trivial⟩, rfl⟩, fun x hx => br_iff.2 ⟨fun h => ?_, fun h => ?_⟩⟩
  · simp only [decide_eq_true_eq] at h
    have hN : (↑x : Int).toNat = x := by omega
    rw [hN]
    refine ⟨by omega, fun d hd => ?_⟩
    have hd : fs[x]? = some d := by simpa using hd
    have hst := instL_step hd
    refine ⟨⟨0, Nat.zero_le _, by omega, ⟨rfl, trivial⟩, rfl⟩, fun y hy => br_iff.2 ⟨fun h2 => ?_, fun h2 => ?_⟩⟩
    · simp only [decide_eq_true_eq] at h2
      refine ⟨by omega, fun e he => ?_⟩
      have he : d.2.1[y]? = some e := by simpa using he
      refine ⟨rfl, instL_get hd he, ⟨?_, y + 1, ?_, ?_, ⟨rfl, trivial⟩, rfl, ?_⟩, trivial⟩
      · have := hp2 d (List.mem_of_getElem? hd)
        exact InR_i64.2 (by omega)
      · omega
      · omega
      · omega
    · simp only [decide_eq_false_iff_not] at h2
      refine ⟨InR_i64.2 (by omega), x + 1, by omega, ?_, ⟨rfl, trivial⟩, rfl, by omega⟩
      have hq := hp2 d (List.mem_of_getElem? hd)
      have hy : y = d.2.1.length := by omega
      rw [hst, List.length_append, instF_len, hy]
  · simp only [decide_eq_false_iff_not] at h
    rw [List.take_of_length_le (by omega), lenL_eq]
set_option maxRecDepth 100000 in
theorem f75_gv : MkOK Tryd.prog cx0.gd 75 mk70 := by
  intro d h lb hd hg cap
  obtain ⟨⟨vs, ms, cs, fs, ts, ⟨⟩⟩, ⟨⟩⟩ := d
  exact gives_of (E := envA Tryd.prog cx0 32 cl75 il75 hl75 ml75 [] [] fun _ => none) (envA_ok (by kernel_rfl) tis_ok trivial trivial trivial trivial) rfl Tryd.func75 (body := bodyOf Tryd.f75) (by kernel_rfl) (by kernel_rfl) rfl rfl rfl rfl ⟨ann75 vs ms cs fs ts, fun l => cast (by kernel_rfl) (f75_vc vs ms cs fs ts l hd)⟩ hg cap
@[reducible] noncomputable def ctInsts : CT := { ps := [shP], pre := fun d => d.1.2.2.2.1.length ≤ 1000000 ∧ ∀ x ∈ d.1.2.2.2.1, x.2.1.length ≤ 1000000, res := fun d => ([], .one (.c (.abs (.seq Tryd.prog [shS, shI] (instL d.1.2.2.2.1))))) }
@[reducible] noncomputable def cl67 : List (Nat × CT) := []
@[reducible] def ann67 (vs : List VD) (ms : List ByteArray) (cs : List ByteArray) (fs : List FD) (ts : List SD) : Nat → Option (St → Ann) := fun _ => none
@[reducible] def il67 : List (Nat × IP) := []
@[reducible] def hl67 : List (Nat × Nat × CT) := []
@[reducible] noncomputable def ml67 : List (Nat × MK) := [(75, mk70)]
set_option maxRecDepth 100000 in
theorem f67_vc (vs : List VD) (ms : List ByteArray) (cs : List ByteArray) (fs : List FD) (ts : List SD) (hpre : ctInsts.pre ((vs, ms, cs, fs, ts, ()), ())) :
    (fs.length ≤ (1000000 : Nat) ∧ ∀ (x : Sh.str.den × (((Sh.int IntKind.i64).pair ((Sh.int IntKind.i64).pair ((Sh.int IntKind.i64).pair ((Sh.int IntKind.i64).pair ((Sh.int IntKind.i64).pair ((Sh.int IntKind.i64).pair ((Sh.int IntKind.i64).pair ((Sh.int IntKind.i64).pair Sh.unit)))))))).sl.pair Sh.unit).den), x ∈ fs → List.length x.snd.fst ≤ (1000000 : Nat)) ∧ ([] : List Go.Eng.Res) = [] ∧ Ent.one (SV.c (SC.abs (Abs.seq Tryd.prog [(Sh.int IntKind.i64).pair ((Sh.int IntKind.i64).pair Sh.unit), (Sh.int IntKind.i64).pair ((Sh.int IntKind.i64).pair ((Sh.int IntKind.i64).pair ((Sh.int IntKind.i64).pair ((Sh.int IntKind.i64).pair ((Sh.int IntKind.i64).pair ((Sh.int IntKind.i64).pair ((Sh.int IntKind.i64).pair Sh.unit)))))))] (instL fs)))) = Ent.one (SV.c (SC.abs (Abs.seq Tryd.prog [(Sh.int IntKind.i64).pair ((Sh.int IntKind.i64).pair Sh.unit), (Sh.int IntKind.i64).pair ((Sh.int IntKind.i64).pair ((Sh.int IntKind.i64).pair ((Sh.int IntKind.i64).pair ((Sh.int IntKind.i64).pair ((Sh.int IntKind.i64).pair ((Sh.int IntKind.i64).pair ((Sh.int IntKind.i64).pair Sh.unit)))))))] (instL fs)))) := by
  exact ⟨hpre, rfl, rfl⟩
set_option maxRecDepth 100000 in
theorem f67_met : Go.Eng.Met Tryd.prog cx0.gd 67 ctInsts :=
  (met_all (cx := cx0) (n := 4) (cl := cl67) (il := il67) (hl := hl67) (ml := ml67) (rc := []) (lits := []) (suf := []) (by kernel_rfl) tis_ok trivial trivial trivial ⟨f75_gv, trivial⟩ Tryd.func67 (by kernel_rfl) (by kernel_rfl) rfl (by kernel_rfl) (by kernel_rfl) (by simp) fun d hd => by
    obtain ⟨⟨vs, ms, cs, fs, ts, ⟨⟩⟩, ⟨⟩⟩ := d
    exact ⟨ann67 vs ms cs fs ts, cast (by kernel_rfl) (f67_vc vs ms cs fs ts hd)⟩).met
@[reducible] def ctSize : CT := { ps := [shP], pre := fun d => (instL d.1.2.2.2.1).length ≤ 1000000 ∧ d.1.2.2.2.1.length ≤ 1000000 ∧ ∀ x ∈ d.1.2.2.2.1, x.2.1.length ≤ 1000000, res := fun d => ([], .one (.c (.v (.int .i64 (((instL d.1.2.2.2.1).length : Int)))))) }
end Go.Proofs.YtklnffdjhoacoaaDoor
