/- The Program chapter, part 11: names of functions. -/
import Derived.Test.YtiikkjlghfhgcaaDoorPV10
set_option linter.unusedSimpArgs false
set_option linter.unusedVariables false
set_option maxRecDepth 100000
namespace Go.Proofs.YtiikkjlghfhgcaaDoor
open Go Go.Eng

theorem fn_idx (fs : List FD) (s : ByteArray) : fnS fs s = (maxI (idxS (nmsF fs) s) 0, decide (0 ≤ idxS (nmsF fs) s)) := by
  have e : (nmsF fs).findIdx? (fun y => decide (y = s)) = fs.findIdx? (fun f => decide (f.1 = s)) := by
    unfold nmsF
    rw [List.findIdx?_map]; rfl
  unfold fnS idxS
  rw [e]
  cases fs.findIdx? (fun f => decide (f.1 = s)) with
  | none => rfl
  | some k =>
    show ((k : Int), true) = (maxI (k : Int) 0, decide ((0 : Int) ≤ (k : Int)))
    rw [decide_eq_true (by omega)]
    unfold maxI
    rw [if_neg (by omega)]
theorem fn_self {fs : List FD} {k : Nat} {d : FD} (hd : fs[k]? = some d) : ∃ (m : Nat) (e : FD), m ≤ k ∧ fs[m]? = some e ∧ e.1 = d.1 ∧ fnS fs d.1 = ((m : Int), true) := by
  have hk := (List.getElem?_eq_some_iff.1 hd)
  cases hf : fs.findIdx? (fun f => decide (f.1 = d.1)) with
  | none =>
    rw [List.findIdx?_eq_none_iff] at hf
    have := hf d (List.mem_of_getElem? hd)
    simp at this
  | some m =>
    have hf' := hf
    rw [List.findIdx?_eq_some_iff_getElem] at hf'
    obtain ⟨hm, h1, h2⟩ := hf'
    refine ⟨m, fs[m], ?_, List.getElem?_eq_getElem hm, by simpa using h1, by unfold fnS; rw [hf]⟩
    apply Classical.byContradiction
    intro hlt
    have := h2 k (by omega)
    rw [hk.2] at this
    simp at this
@[reducible] def ctFn : CT := { ps := [shP, .str], pre := fun d => d.1.2.2.2.1.length ≤ 1000000, res := fun d => ([], .tup [.c (.v (.int .i64 (fnS d.1.2.2.2.1 d.2.1).1)), .c (.v (.bool (fnS d.1.2.2.2.1 d.2.1).2))]) }
@[reducible] def cl21 : List (Nat × CT) := [(45, ctFunN), (44, ctIdxS)]
@[reducible] def ann21 (vs : List VD) (ms : List ByteArray) (cs : List ByteArray) (fs : List FD) (ts : List SD) (s : ByteArray) : Nat → Option (St → Ann) := fun _ => none
set_option maxRecDepth 100000 in
theorem f21_vc (vs : List VD) (ms : List ByteArray) (cs : List ByteArray) (fs : List FD) (ts : List SD) (s : ByteArray) (hpre : ctFn.pre ((vs, ms, cs, fs, ts, ()), s, ())) :
    fs.length ≤ (1000000 : Nat) ∧ (nmsF fs).length ≤ (1000000 : Nat) ∧ ([] : List Go.Eng.Res) = [] ∧ Ent.tup [SV.c (SC.v (Value.int IntKind.i64 (fnS fs s).fst)), SV.c (SC.v (Value.bool (fnS fs s).snd))] = Ent.tup [SV.c (SC.v (Value.int IntKind.i64 (maxI (idxS (nmsF fs) s) (0 : Int)))), SV.c (SC.v (Value.bool (decide ((0 : Int) ≤ idxS (nmsF fs) s))))] := by
  have hp : fs.length ≤ 1000000 := hpre
  exact ⟨hp, by simpa [nmsF] using hp, rfl, by rw [fn_idx]⟩
set_option maxHeartbeats 2000000 in
set_option maxRecDepth 100000 in
theorem f21_met : Go.Eng.Met Tryd.prog cx0.gd 21 ctFn :=
  met_of (cx := cx0) (n := 15) (cl := cl21) (by kernel_rfl) tis_ok ⟨f45_met, f44_met, trivial⟩ Tryd.func21 (by kernel_rfl) (by kernel_rfl) rfl (by kernel_rfl) (by kernel_rfl) fun d hd => by
    obtain ⟨⟨vs, ms, cs, fs, ts, ⟨⟩⟩, s, ⟨⟩⟩ := d
    exact ex_of (ann21 vs ms cs fs ts s) (f21_vc vs ms cs fs ts s hd) (by kernel_rfl)
@[reducible] def ctL7 : CT := { ps := [shP, .str], pre := fun d => True, res := fun d => ([], vB (true)) }
@[reducible] noncomputable def cl7 : List (Nat × CT) := [(9, ctSm), (10, ctLiv), (21, ctFn), (22, ctrFn), (23, ctVN), (24, ctrVN)]
@[reducible] def ann7 (vs : List VD) (ms : List ByteArray) (cs : List ByteArray) (fs : List FD) (ts : List SD) (s : ByteArray) : Nat → Option (St → Ann) := fun k => match k with
  | 4 => some fun _ => .inv { α := Nat, slots := fun k => [(5, .c (.v (.int .i64 k)))], res := fun k => [], inv := fun k => k ≤ (fs).length, meas := fun k => (fs).length - k }
  | _ => none
set_option maxRecDepth 100000 in
theorem f7_vc (vs : List VD) (ms : List ByteArray) (cs : List ByteArray) (fs : List FD) (ts : List SD) (s : ByteArray) :
    True ∧ br (!smS vs ms cs fs ts || decide ((100 : Int) < (↑s.size : Int))) (True ∧ ([] : List Go.Eng.Res) = [] ∧ Ent.one (SV.c (SC.v (Value.bool true))) = Ent.one (SV.c (SC.v (Value.bool true)))) ((∃ x, x ≤ fs.length ∧ (SV.c (SC.v (Value.int IntKind.i64 (0 : Int))) = SV.c (SC.v (Value.int IntKind.i64 (↑x : Int))) ∧ True) ∧ [(([] : Go.Eng.Gd), Res.blk (27 : Nat) [SC.sl (Sh.str.pair ((Sh.int IntKind.i64).pair Sh.unit)) vs, SC.sl Sh.str ms, SC.sl Sh.str cs, SC.sl (Sh.str.pair (((Sh.int IntKind.i64).pair ((Sh.int IntKind.i64).pair ((Sh.int IntKind.i64).pair ((Sh.int IntKind.i64).pair ((Sh.int IntKind.i64).pair ((Sh.int IntKind.i64).pair ((Sh.int IntKind.i64).pair ((Sh.int IntKind.i64).pair Sh.unit)))))))).sl.pair Sh.unit)) fs, SC.sl ((Sh.int IntKind.i64).pair ((Sh.int IntKind.i64).pair Sh.unit)) ts])] = [(([] : Go.Eng.Gd), Res.blk (27 : Nat) [SC.sl (Sh.str.pair ((Sh.int IntKind.i64).pair Sh.unit)) vs, SC.sl Sh.str ms, SC.sl Sh.str cs, SC.sl (Sh.str.pair (((Sh.int IntKind.i64).pair ((Sh.int IntKind.i64).pair ((Sh.int IntKind.i64).pair ((Sh.int IntKind.i64).pair ((Sh.int IntKind.i64).pair ((Sh.int IntKind.i64).pair ((Sh.int IntKind.i64).pair ((Sh.int IntKind.i64).pair Sh.unit)))))))).sl.pair Sh.unit)) fs, SC.sl ((Sh.int IntKind.i64).pair ((Sh.int IntKind.i64).pair Sh.unit)) ts])]) ∧ ∀ (x : Nat), x ≤ fs.length → br (decide ((↑x : Int) < (↑fs.length : Int))) (((0 : Int) ≤ (↑x : Int) ∧ (↑x : Int) < (↑fs.length : Int)) ∧ ∀ (d : Sh.str.den × (((Sh.int IntKind.i64).pair ((Sh.int IntKind.i64).pair ((Sh.int IntKind.i64).pair ((Sh.int IntKind.i64).pair ((Sh.int IntKind.i64).pair ((Sh.int IntKind.i64).pair ((Sh.int IntKind.i64).pair ((Sh.int IntKind.i64).pair Sh.unit)))))))).sl.pair Sh.unit).den), fs[(↑x : Int).toNat]? = some d → fs.length ≤ (1000000 : Nat) ∧ ((!(!(fnS fs (d.fst, ()).fst).snd || decide ((fnS fs (d.fst, ()).fst).fst < (0 : Int)) || decide ((↑x : Int) < (fnS fs (d.fst, ()).fst).fst))) = true → (0 : Int) ≤ (fnS fs (d.fst, ()).fst).fst ∧ (fnS fs (d.fst, ()).fst).fst < (↑fs.length : Int)) ∧ ∀ (d_1 : Sh.str.den × (((Sh.int IntKind.i64).pair ((Sh.int IntKind.i64).pair ((Sh.int IntKind.i64).pair ((Sh.int IntKind.i64).pair ((Sh.int IntKind.i64).pair ((Sh.int IntKind.i64).pair ((Sh.int IntKind.i64).pair ((Sh.int IntKind.i64).pair Sh.unit)))))))).sl.pair Sh.unit).den), ((!(!(fnS fs (d.fst, ()).fst).snd || decide ((fnS fs (d.fst, ()).fst).fst < (0 : Int)) || decide ((↑x : Int) < (fnS fs (d.fst, ()).fst).fst))) = true → fs[(fnS fs (d.fst, ()).fst).fst.toNat]? = some d_1) → ((!(!(fnS fs (d.fst, ()).fst).snd || decide ((fnS fs (d.fst, ()).fst).fst < (0 : Int)) || decide ((↑x : Int) < (fnS fs (d.fst, ()).fst).fst))) = true → (0 : Int) ≤ (↑x : Int) ∧ (↑x : Int) < (↑fs.length : Int)) ∧ ∀ (d_2 : Sh.str.den × (((Sh.int IntKind.i64).pair ((Sh.int IntKind.i64).pair ((Sh.int IntKind.i64).pair ((Sh.int IntKind.i64).pair ((Sh.int IntKind.i64).pair ((Sh.int IntKind.i64).pair ((Sh.int IntKind.i64).pair ((Sh.int IntKind.i64).pair Sh.unit)))))))).sl.pair Sh.unit).den), ((!(!(fnS fs (d.fst, ()).fst).snd || decide ((fnS fs (d.fst, ()).fst).fst < (0 : Int)) || decide ((↑x : Int) < (fnS fs (d.fst, ()).fst).fst))) = true → fs[(↑x : Int).toNat]? = some d_2) → br (!(fnS fs (d.fst, ()).fst).snd || decide ((fnS fs (d.fst, ()).fst).fst < (0 : Int)) || decide ((↑x : Int) < (fnS fs (d.fst, ()).fst).fst) || !decide (d_1.fst = d_2.fst)) (([] : List Go.Eng.Res) = [] ∧ Ent.one (SV.c (SC.v (Value.bool true))) = Ent.one (SV.c (SC.v (Value.bool false)))) (InR IntKind.i64 ((↑x : Int) + (1 : Int)) ∧ ∃ x', x' ≤ fs.length ∧ (SV.c (SC.v (Value.int IntKind.i64 ((↑x : Int) + (1 : Int)))) = SV.c (SC.v (Value.int IntKind.i64 (↑x' : Int))) ∧ True) ∧ [(([] : Go.Eng.Gd), Res.blk (27 : Nat) [SC.sl (Sh.str.pair ((Sh.int IntKind.i64).pair Sh.unit)) vs, SC.sl Sh.str ms, SC.sl Sh.str cs, SC.sl (Sh.str.pair (((Sh.int IntKind.i64).pair ((Sh.int IntKind.i64).pair ((Sh.int IntKind.i64).pair ((Sh.int IntKind.i64).pair ((Sh.int IntKind.i64).pair ((Sh.int IntKind.i64).pair ((Sh.int IntKind.i64).pair ((Sh.int IntKind.i64).pair Sh.unit)))))))).sl.pair Sh.unit)) fs, SC.sl ((Sh.int IntKind.i64).pair ((Sh.int IntKind.i64).pair Sh.unit)) ts])] = [(([] : Go.Eng.Gd), Res.blk (27 : Nat) [SC.sl (Sh.str.pair ((Sh.int IntKind.i64).pair Sh.unit)) vs, SC.sl Sh.str ms, SC.sl Sh.str cs, SC.sl (Sh.str.pair (((Sh.int IntKind.i64).pair ((Sh.int IntKind.i64).pair ((Sh.int IntKind.i64).pair ((Sh.int IntKind.i64).pair ((Sh.int IntKind.i64).pair ((Sh.int IntKind.i64).pair ((Sh.int IntKind.i64).pair ((Sh.int IntKind.i64).pair Sh.unit)))))))).sl.pair Sh.unit)) fs, SC.sl ((Sh.int IntKind.i64).pair ((Sh.int IntKind.i64).pair Sh.unit)) ts])] ∧ fs.length - x' < fs.length - x)) (fs.length ≤ (1000000 : Nat) ∧ fs.length ≤ (1000000 : Nat) ∧ ((decide ((fnS fs s).fst = (fnS fs s).fst) && (fnS fs s).snd == (fnS fs s).snd) = true → True) ∧ ((decide ((fnS fs s).fst = (fnS fs s).fst) && (fnS fs s).snd == (fnS fs s).snd) = true → True) ∧ ((decide ((fnS fs s).fst = (fnS fs s).fst) && (fnS fs s).snd == (fnS fs s).snd && validN s == validN s) = true → True) ∧ ([] : List Go.Eng.Res) = [] ∧ Ent.one (SV.c (SC.v (Value.bool true))) = Ent.one (SV.c (SC.v (Value.bool (decide ((fnS fs s).fst = (fnS fs s).fst) && (fnS fs s).snd == (fnS fs s).snd && validN s == validN s && true)))))) := by
  refine ⟨trivial, br_iff.2 ⟨fun _ => ⟨trivial, rfl, rfl⟩, fun h => ?_⟩⟩
  have hs : smS vs ms cs fs ts = true := by
    rw [Bool.or_eq_false_iff] at h
    simpa using h.1
  have hf : fs.length ≤ 1000000 := (small_bnd hs).2.2.2.1
  refine ⟨⟨0, by omega, ⟨rfl, trivial⟩, rfl⟩, fun k hk => br_iff.2 ⟨fun h => ?_, fun h => ⟨hf, hf, fun _ => trivial, fun _ => trivial, fun _ => trivial, rfl, by simp⟩⟩⟩
  simp only [decide_eq_true_eq] at h
  have hN : (↑k : Int).toNat = k := by omega
  rw [hN]
  refine ⟨by omega, fun d hd => ⟨hf, ?_⟩⟩
  obtain ⟨m, e, hm, he, hn, hfn⟩ := fn_self hd
  have hml := (List.getElem?_eq_some_iff.1 he).1
  rw [show fnS fs (d.1, ()).1 = ((m : Int), true) from hfn]
  refine ⟨fun _ => ?_, fun d1 hd1 => ⟨fun _ => by omega, fun d2 hd2 => ?_⟩⟩
  · show 0 ≤ (m : Int) ∧ (m : Int) < _
    omega
  have g : (!(!true || decide ((m : Int) < 0) || decide ((k : Int) < (m : Int)))) = true := by simp; omega
  have hd1 : fs[m]? = some d1 := hd1 g
  have hd2 := hd2 g
  rw [he] at hd1; cases hd1
  rw [hd] at hd2; cases hd2
  refine br_iff.2 ⟨fun q => ?_, fun _ => ⟨InR_i64.2 (by omega), k + 1, by omega, ⟨rfl, trivial⟩, rfl, by omega⟩⟩
  exfalso
  simp [hn] at q
  omega
set_option maxHeartbeats 2000000 in
set_option maxRecDepth 100000 in
theorem f7_met : Go.Eng.Met Tryd.prog cx0.gd 7 ctL7 :=
  met_of (cx := cx0) (n := 95) (cl := cl7) (by kernel_rfl) tis_ok ⟨f9_met, f10_met, f21_met, f22_met, f23_met, f24_met, trivial⟩ Tryd.func7 (by kernel_rfl) (by kernel_rfl) rfl (by kernel_rfl) (by kernel_rfl) fun d hd => by
    obtain ⟨⟨vs, ms, cs, fs, ts, ⟨⟩⟩, s, ⟨⟩⟩ := d
    exact ex_of (ann7 vs ms cs fs ts s) (f7_vc vs ms cs fs ts s) (by kernel_rfl)
end Go.Proofs.YtiikkjlghfhgcaaDoor
