/- The Program chapter, part 5: the checks. -/
import Derived.Test.YtklnffdjhoacoaaDoorPV3
set_option linter.unusedSimpArgs false
set_option linter.unusedVariables false
set_option maxRecDepth 100000
namespace Go.Proofs.YtklnffdjhoacoaaDoor
open Go Go.Eng

def byt (s : ByteArray) (i : Nat) : Int := match s[i]? with | some u => (u.toNat : Int) | none => 0
theorem byt_of {s : ByteArray} {i : Nat} {u : UInt8} (h : s[i]? = some u) : byt s i = u.toNat := by simp [byt, h]
def okB (c : Int) : Bool := letS c || decide (c = 95) || decide (48 ≤ c ∧ c ≤ 57)
def validN (s : ByteArray) : Bool := decide (1 ≤ s.size ∧ s.size ≤ 16) && letS (byt s 0) && (List.range s.size).all fun i => okB (byt s i)
@[reducible] def ctVN : CT := { ps := [.str], pre := fun d => True, res := fun d => ([], vB (validN d.1)) }
@[reducible] def cl73 : List (Nat × CT) := [(88, ctLet)]
@[reducible] def ann73 (s : ByteArray) : Nat → Option (St → Ann) := fun k => match k with
  | 4 => some fun _ => .inv { α := Nat, slots := fun k => [(20, .c (.v (.int .i64 k)))], res := fun k => [], inv := fun k => k ≤ ((List.range s.size)).length ∧ ∀ j < k, okB (byt s j) = true, meas := fun k => ((List.range s.size)).length - k }
  | _ => none
set_option maxRecDepth 100000 in
theorem f73_vc (s : ByteArray) :
    ((!(decide ((↑s.size : Int) < (1 : Int)) || decide ((16 : Int) < (↑s.size : Int)))) = true → (0 : Int) ≤ (0 : Int) ∧ (0 : Int) < (↑s.size : Int)) ∧ ∀ (u : UInt8), ((!(decide ((↑s.size : Int) < (1 : Int)) || decide ((16 : Int) < (↑s.size : Int)))) = true → s[(0 : Nat)]? = some u) → ((!(decide ((↑s.size : Int) < (1 : Int)) || decide ((16 : Int) < (↑s.size : Int)))) = true → True) ∧ br (decide ((↑s.size : Int) < (1 : Int)) || decide ((16 : Int) < (↑s.size : Int)) || !letS (↑u.toNat : Int)) (([] : List Go.Eng.Res) = [] ∧ Ent.one (SV.c (SC.v (Value.bool (validN s)))) = Ent.one (SV.c (SC.v (Value.bool false)))) ((∃ x, (x ≤ (List.range s.size).length ∧ ∀ (j : Nat), j < x → okB (byt s j) = true) ∧ (SV.c (SC.v (Value.int IntKind.i64 (0 : Int))) = SV.c (SC.v (Value.int IntKind.i64 (↑x : Int))) ∧ True) ∧ ([] : List (Go.Eng.Gd × Go.Eng.Res)) = []) ∧ ∀ (x : Nat), (x ≤ (List.range s.size).length ∧ ∀ (j : Nat), j < x → okB (byt s j) = true) → br (decide ((↑x : Int) < (↑s.size : Int))) (((0 : Int) ≤ (↑x : Int) ∧ (↑x : Int) < (↑s.size : Int)) ∧ ∀ (u : UInt8), s[(↑x : Int).toNat]? = some u → True ∧ ((!letS (↑u.toNat : Int)) = true → (0 : Int) ≤ (↑x : Int) ∧ (↑x : Int) < (↑s.size : Int)) ∧ ∀ (u_1 : UInt8), ((!letS (↑u.toNat : Int)) = true → s[(↑x : Int).toNat]? = some u_1) → ((!letS (↑u.toNat : Int) && !decide ((↑u_1.toNat : Int) = (95 : Int))) = true → (0 : Int) ≤ (↑x : Int) ∧ (↑x : Int) < (↑s.size : Int)) ∧ ∀ (u_2 : UInt8), ((!letS (↑u.toNat : Int) && !decide ((↑u_1.toNat : Int) = (95 : Int))) = true → s[(↑x : Int).toNat]? = some u_2) → ((!decide ((↑u_2.toNat : Int) < (48 : Int)) && (!letS (↑u.toNat : Int) && !decide ((↑u_1.toNat : Int) = (95 : Int)))) = true → (0 : Int) ≤ (↑x : Int) ∧ (↑x : Int) < (↑s.size : Int)) ∧ ∀ (u_3 : UInt8), ((!decide ((↑u_2.toNat : Int) < (48 : Int)) && (!letS (↑u.toNat : Int) && !decide ((↑u_1.toNat : Int) = (95 : Int)))) = true → s[(↑x : Int).toNat]? = some u_3) → br (!letS (↑u.toNat : Int) && !decide ((↑u_1.toNat : Int) = (95 : Int)) && (decide ((↑u_2.toNat : Int) < (48 : Int)) || decide ((57 : Int) < (↑u_3.toNat : Int)))) (([] : List Go.Eng.Res) = [] ∧ Ent.one (SV.c (SC.v (Value.bool (validN s)))) = Ent.one (SV.c (SC.v (Value.bool false)))) (InR IntKind.i64 ((↑x : Int) + (1 : Int)) ∧ ∃ x', (x' ≤ (List.range s.size).length ∧ ∀ (j : Nat), j < x' → okB (byt s j) = true) ∧ (SV.c (SC.v (Value.int IntKind.i64 ((↑x : Int) + (1 : Int)))) = SV.c (SC.v (Value.int IntKind.i64 (↑x' : Int))) ∧ True) ∧ ([] : List (Go.Eng.Gd × Go.Eng.Res)) = [] ∧ (List.range s.size).length - x' < (List.range s.size).length - x)) (([] : List Go.Eng.Res) = [] ∧ Ent.one (SV.c (SC.v (Value.bool (validN s)))) = Ent.one (SV.c (SC.v (Value.bool true))))) := by
  have hs2 : (!(decide ((↑s.size : Int) < (1 : Int)) || decide ((16 : Int) < (↑s.size : Int)))) = true ↔ (1 ≤ s.size ∧ s.size ≤ 16) := by
    simp only [Bool.not_eq_true', Bool.or_eq_false_iff, decide_eq_false_iff_not]; omega
  refine ⟨fun h => by have := hs2.1 h; omega, fun u hu => ⟨fun _ => trivial, br_iff.2 ⟨fun h => ⟨rfl, ?_⟩, fun h => ?_⟩⟩⟩
  · have : validN s = false := by
      unfold validN
      by_cases hs : 1 ≤ s.size ∧ s.size ≤ 16
      · have e := byt_of (hu (hs2.2 hs))
        simp only [Bool.or_eq_true, decide_eq_true_eq, Bool.not_eq_true'] at h
        have h0 : letS (byt s 0) = false := by
          rw [e]
          rcases h with (h | h) | h
          · omega
          · omega
          · exact h
        rw [h0]; simp
      · rw [decide_eq_false hs]; rfl
    rw [this]
  · simp only [Bool.or_eq_false_iff, decide_eq_false_iff_not, Bool.not_eq_false'] at h
    obtain ⟨⟨h1, h2⟩, h3⟩ := h
    have hs : 1 ≤ s.size ∧ s.size ≤ 16 := by omega
    have e := byt_of (hu (hs2.2 hs))
    have hl : (List.range s.size).length = s.size := List.length_range
    rw [hl]
    refine ⟨⟨0, ⟨by omega, fun j hj => by omega⟩, ⟨rfl, trivial⟩, rfl⟩, fun k hk => br_iff.2 ⟨fun h => ?_, fun h => ?_⟩⟩
    · simp only [decide_eq_true_eq] at h
      have hN : (↑k : Int).toNat = k := by omega
      rw [hN]
      refine ⟨by omega, fun v hv => ⟨trivial, fun _ => by omega, fun v1 hv1 => ⟨fun _ => by omega, fun v2 hv2 => ⟨fun _ => by omega, fun v3 hv3 => ?_⟩⟩⟩⟩
      have ev := byt_of hv
      have bad : okB (byt s k) = false → validN s = false := by
        intro hb
        unfold validN
        have : ((List.range s.size).all fun i => okB (byt s i)) = false := by
          rw [List.all_eq_false]
          exact ⟨k, by simp; omega, by rw [hb]; simp⟩
        rw [this]; simp
      have fin : okB (byt s k) = true → (InR IntKind.i64 ((↑k : Int) + 1) ∧ ∃ x', (x' ≤ s.size ∧ ∀ (j : Nat), j < x' → okB (byt s j) = true) ∧ (SV.c (SC.v (Value.int IntKind.i64 ((↑k : Int) + 1))) = SV.c (SC.v (Value.int IntKind.i64 (↑x' : Int))) ∧ True) ∧ ([] : List (Go.Eng.Gd × Go.Eng.Res)) = [] ∧ s.size - x' < s.size - k) := fun ho =>
        ⟨InR_i64.2 (by omega), k + 1, ⟨by omega, fun j hj => by
          by_cases hjk : j = k
          · rw [hjk]; exact ho
          · exact hk.2 j (by omega)⟩, ⟨rfl, trivial⟩, rfl, by omega⟩
      cases hA : letS (↑v.toNat : Int) with
      | true =>
        refine br_iff.2 ⟨fun h => by simp at h, fun _ => fin ?_⟩
        rw [ev]; unfold okB; rw [hA]; rfl
      | false =>
        have hv1 := hv1 (by rw [hA]; rfl)
        rw [hv] at hv1; cases hv1
        by_cases h95 : (↑v.toNat : Int) = 95
        · refine br_iff.2 ⟨fun h => by simp [h95] at h, fun _ => fin ?_⟩
          rw [ev]; unfold okB; simp [h95]
        · have hd95 : decide ((↑v.toNat : Int) = 95) = false := decide_eq_false h95
          have hv2 := hv2 (by rw [hA, hd95]; rfl)
          rw [hv] at hv2; cases hv2
          by_cases h48 : (↑v.toNat : Int) < 48
          · refine br_iff.2 ⟨fun _ => ⟨rfl, ?_⟩, fun h => by simp [h95, h48] at h⟩
            rw [bad (by rw [ev]; unfold okB; rw [hA, hd95]; simp; omega)]
          · have hd48 : decide ((↑v.toNat : Int) < 48) = false := decide_eq_false h48
            have hv3 := hv3 (by rw [hA, hd95, hd48]; rfl)
            rw [hv] at hv3; cases hv3
            by_cases h57 : 57 < (↑v.toNat : Int)
            · refine br_iff.2 ⟨fun _ => ⟨rfl, ?_⟩, fun h => by simp [h95, h57] at h⟩
              rw [bad (by rw [ev]; unfold okB; rw [hA, hd95]; simp; omega)]
            · refine br_iff.2 ⟨fun h => by simp [h95, h48, h57] at h, fun _ => fin ?_⟩
              rw [ev]; unfold okB; rw [hA, hd95]; simp; omega
    · simp only [decide_eq_false_iff_not] at h
      have : validN s = true := by
        unfold validN
        rw [decide_eq_true hs, e, h3]
        simp only [Bool.true_and]
        rw [List.all_eq_true]
        intro i hi
        simp at hi
        exact hk.2 i (by omega)
      rw [this]; exact ⟨rfl, rfl⟩
set_option maxHeartbeats 2000000 in
set_option maxRecDepth 100000 in
theorem f73_met : Go.Eng.Met Tryd.prog cx0.gd 73 ctVN :=
  met_of (cx := cx0) (n := 47) (cl := cl73) (by kernel_rfl) tis_ok ⟨f88_met, trivial⟩ Tryd.func73 (by kernel_rfl) (by kernel_rfl) rfl (by kernel_rfl) (by kernel_rfl) fun d hd => by
    obtain ⟨s, ⟨⟩⟩ := d
    exact ⟨ann73 s, cast (by kernel_rfl) (f73_vc s)⟩
/-- The first fault of a list of names, and its place. -/
def nmsE (l : List ByteArray) : Int × Int := match (List.range l.length).find? (fun i => !validN (l.getD i ⟨#[]⟩) || hasS (l.take i) (l.getD i ⟨#[]⟩)) with
  | some i => (if validN (l.getD i ⟨#[]⟩) then 7 else 6, i)
  | none => (0, -1)
theorem nms_found {l : List ByteArray} {k : Nat} (hk : k < l.length) (h : ∀ j < k, validN (l.getD j ⟨#[]⟩) = true ∧ hasS (l.take j) (l.getD j ⟨#[]⟩) = false) (hf : validN (l.getD k ⟨#[]⟩) = false ∨ hasS (l.take k) (l.getD k ⟨#[]⟩) = true) :
    nmsE l = (if validN (l.getD k ⟨#[]⟩) then 7 else 6, (k : Int)) := by
  unfold nmsE
  rw [show (List.range l.length).find? (fun i => !validN (l.getD i ⟨#[]⟩) || hasS (l.take i) (l.getD i ⟨#[]⟩)) = some k from List.find?_range_eq_some.2 ⟨by rcases hf with hf | hf <;> rw [hf] <;> simp, by simpa using hk, fun j hj => by obtain ⟨a, b⟩ := h j hj; rw [a, b]; rfl⟩]
theorem nms_none {l : List ByteArray} (h : ∀ j < l.length, validN (l.getD j ⟨#[]⟩) = true ∧ hasS (l.take j) (l.getD j ⟨#[]⟩) = false) : nmsE l = (0, -1) := by
  unfold nmsE
  rw [show (List.range l.length).find? (fun i => !validN (l.getD i ⟨#[]⟩) || hasS (l.take i) (l.getD i ⟨#[]⟩)) = none from List.find?_eq_none.2 fun i hi => by
    obtain ⟨a, b⟩ := h i (by simpa using hi)
    rw [a, b]; simp]
@[reducible] def ctNms : CT := { ps := [.sl .str], pre := fun d => d.1.length ≤ 1000000, res := fun d => ([], .tup [.c (.v (.int .i64 (nmsE d.1).1)), .c (.v (.int .i64 (nmsE d.1).2))]) }
@[reducible] def cl62 : List (Nat × CT) := [(73, ctVN), (74, ctConS)]
@[reducible] def ann62 (l : List ByteArray) : Nat → Option (St → Ann) := fun k => match k with
  | 2 => some fun _ => .inv { α := Nat, slots := fun k => [(8, .c (.v (.int .i64 k)))], res := fun k => [], inv := fun k => k ≤ (l).length ∧ ∀ j < k, validN (l.getD j ⟨#[]⟩) = true ∧ hasS (l.take j) (l.getD j ⟨#[]⟩) = false, meas := fun k => (l).length - k }
  | _ => none
set_option maxRecDepth 100000 in
theorem f62_vc (l : List ByteArray) (hpre : ctNms.pre (l, ())) :
    (∃ x, (x ≤ l.length ∧ ∀ (j : Nat), j < x → validN (l.getD j { data := #[] : ByteArray }) = true ∧ hasS (List.take j l) (l.getD j { data := #[] : ByteArray }) = false) ∧ (SV.c (SC.v (Value.int IntKind.i64 (0 : Int))) = SV.c (SC.v (Value.int IntKind.i64 (↑x : Int))) ∧ True) ∧ ([] : List (Go.Eng.Gd × Go.Eng.Res)) = []) ∧ ∀ (x : Nat), (x ≤ l.length ∧ ∀ (j : Nat), j < x → validN (l.getD j { data := #[] : ByteArray }) = true ∧ hasS (List.take j l) (l.getD j { data := #[] : ByteArray }) = false) → br (decide ((↑x : Int) < (↑l.length : Int))) (((0 : Int) ≤ (↑x : Int) ∧ (↑x : Int) < (↑l.length : Int)) ∧ ∀ (d : ByteArray), l[(↑x : Int).toNat]? = some d → True ∧ br (!validN d) (([] : List Go.Eng.Res) = [] ∧ Ent.tup [SV.c (SC.v (Value.int IntKind.i64 (nmsE l).fst)), SV.c (SC.v (Value.int IntKind.i64 (nmsE l).snd))] = Ent.tup [SV.c (SC.v (Value.int IntKind.i64 (6 : Int))), SV.c (SC.v (Value.int IntKind.i64 (↑x : Int)))]) (((0 : Int) ≤ (0 : Int) ∧ (0 : Int) ≤ (↑x : Int) ∧ (↑x : Int) ≤ (↑l.length : Int)) ∧ (List.drop (0 : Nat) (List.take (↑x : Int).toNat l)).length ≤ (1000000 : Nat) ∧ br (hasS (List.drop (0 : Nat) (List.take (↑x : Int).toNat l)) d) (([] : List Go.Eng.Res) = [] ∧ Ent.tup [SV.c (SC.v (Value.int IntKind.i64 (nmsE l).fst)), SV.c (SC.v (Value.int IntKind.i64 (nmsE l).snd))] = Ent.tup [SV.c (SC.v (Value.int IntKind.i64 (7 : Int))), SV.c (SC.v (Value.int IntKind.i64 (↑x : Int)))]) (InR IntKind.i64 ((↑x : Int) + (1 : Int)) ∧ ∃ x', (x' ≤ l.length ∧ ∀ (j : Nat), j < x' → validN (l.getD j { data := #[] : ByteArray }) = true ∧ hasS (List.take j l) (l.getD j { data := #[] : ByteArray }) = false) ∧ (SV.c (SC.v (Value.int IntKind.i64 ((↑x : Int) + (1 : Int)))) = SV.c (SC.v (Value.int IntKind.i64 (↑x' : Int))) ∧ True) ∧ ([] : List (Go.Eng.Gd × Go.Eng.Res)) = [] ∧ l.length - x' < l.length - x))) (([] : List Go.Eng.Res) = [] ∧ Ent.tup [SV.c (SC.v (Value.int IntKind.i64 (nmsE l).fst)), SV.c (SC.v (Value.int IntKind.i64 (nmsE l).snd))] = Ent.tup [SV.c (SC.v (Value.int IntKind.i64 (0 : Int))), SV.c (SC.v (Value.int IntKind.i64 (-1 : Int)))]) := by
  have hp : l.length ≤ 1000000 := hpre
  refine ⟨⟨0, ⟨by omega, fun j hj => by omega⟩, ⟨rfl, trivial⟩, rfl⟩, fun k hk => br_iff.2 ⟨fun h => ?_, fun h => ?_⟩⟩
  · simp only [decide_eq_true_eq] at h
    have hN : (↑k : Int).toNat = k := by omega
    rw [hN]
    refine ⟨by omega, fun d hd => ?_⟩
    have hg : l.getD k ⟨#[]⟩ = d := by rw [List.getD_eq_getElem?_getD, hd]; rfl
    refine ⟨trivial, br_iff.2 ⟨fun h2 => ⟨rfl, ?_⟩, fun h2 => ⟨⟨by omega, by omega, by omega⟩, by simp; omega, br_iff.2 ⟨fun h3 => ⟨rfl, ?_⟩, fun h3 => ⟨InR_i64.2 (by omega), k + 1, ⟨by omega, fun j hj => ?_⟩, ⟨rfl, trivial⟩, rfl, by omega⟩⟩⟩⟩⟩
    · have h2 : validN d = false := by simpa using h2
      rw [nms_found (by omega) hk.2 (.inl (by rw [hg]; exact h2)), hg, h2]; rfl
    · have h2 : validN d = true := by simpa using h2
      have h3 : hasS (l.take k) d = true := by simpa using h3
      rw [nms_found (by omega) hk.2 (.inr (by rw [hg]; exact h3)), hg, h2]; rfl
    · by_cases hjk : j = k
      · subst hjk
        rw [hg]
        exact ⟨by simpa using h2, by simpa using h3⟩
      · exact hk.2 j (by omega)
  · simp only [decide_eq_false_iff_not] at h
    rw [nms_none fun j hj => hk.2 j (by omega)]; exact ⟨rfl, rfl⟩
set_option maxHeartbeats 2000000 in
set_option maxRecDepth 100000 in
theorem f62_met : Go.Eng.Met Tryd.prog cx0.gd 62 ctNms :=
  met_of (cx := cx0) (n := 24) (cl := cl62) (by kernel_rfl) tis_ok ⟨f73_met, f74_met, trivial⟩ Tryd.func62 (by kernel_rfl) (by kernel_rfl) rfl (by kernel_rfl) (by kernel_rfl) fun d hd => by
    obtain ⟨l, ⟨⟩⟩ := d
    exact ⟨ann62 l, cast (by kernel_rfl) (f62_vc l hd)⟩
def ciS (vs : List VD) (ms cs : List ByteArray) (fs : List FD) (e op obj n m : Int) : Int := if e ≠ 0 then e else if 0 ≤ objS vs ms cs fs op ∧ (obj < 0 ∨ objS vs ms cs fs op ≤ obj) then 11 else if op = 18 ∧ (n < 0 ∨ (ms.length : Int) ≤ n) then 11 else if (op = 4 ∨ op = 5) ∧ (n < 0 ∨ m < n) then 12 else 0
@[reducible] def chkI (i : ID) : Int := chkS i.1 i.2.1 i.2.2.1 i.2.2.2.1 i.2.2.2.2.1 i.2.2.2.2.2.1 i.2.2.2.2.2.2.1 i.2.2.2.2.2.2.2.1
@[reducible] def ciI (vs : List VD) (ms cs : List ByteArray) (fs : List FD) (i : ID) (m : Int) : Int := ciS vs ms cs fs (chkI i) i.1 i.2.2.2.2.1 i.2.2.2.2.2.1 m
@[reducible] def ctCI : CT := { ps := [shP, shI, .int .i64], pre := fun d => True, res := fun d => ([], .one (.c (.v (.int .i64 (ciI d.1.1 d.1.2.1 d.1.2.2.1 d.1.2.2.2.1 d.2.1 d.2.2.1))))) }
@[reducible] def cl68 : List (Nat × CT) := [(47, ct11), (76, ctObj)]
@[reducible] def ann68 (vs : List VD) (ms : List ByteArray) (cs : List ByteArray) (fs : List FD) (ts : List SD) (op : Int) (a : Int) (b : Int) (c : Int) (obj : Int) (n : Int) (fn : Int) (ord : Int) (m : Int) : Nat → Option (St → Ann) := fun _ => none
set_option maxRecDepth 100000 in
theorem f68_vc (vs : List VD) (ms : List ByteArray) (cs : List ByteArray) (fs : List FD) (ts : List SD) (op : Int) (a : Int) (b : Int) (c : Int) (obj : Int) (n : Int) (fn : Int) (ord : Int) (m : Int) :
    True ∧ br (!decide (chkS op a b c obj n fn ord = (0 : Int))) (([] : List Go.Eng.Res) = [] ∧ Ent.one (SV.c (SC.v (Value.int IntKind.i64 (ciS vs ms cs fs (chkS op a b c obj n fn ord) op obj n m)))) = Ent.one (SV.c (SC.v (Value.int IntKind.i64 (chkS op a b c obj n fn ord))))) (True ∧ br (decide ((0 : Int) ≤ objS vs ms cs fs op) && (decide (obj < (0 : Int)) || decide (objS vs ms cs fs op ≤ obj))) (([] : List Go.Eng.Res) = [] ∧ Ent.one (SV.c (SC.v (Value.int IntKind.i64 (ciS vs ms cs fs (chkS op a b c obj n fn ord) op obj n m)))) = Ent.one (SV.c (SC.v (Value.int IntKind.i64 (11 : Int))))) (br (decide (op = (18 : Int)) && (decide (n < (0 : Int)) || decide ((↑ms.length : Int) ≤ n))) (([] : List Go.Eng.Res) = [] ∧ Ent.one (SV.c (SC.v (Value.int IntKind.i64 (ciS vs ms cs fs (chkS op a b c obj n fn ord) op obj n m)))) = Ent.one (SV.c (SC.v (Value.int IntKind.i64 (11 : Int))))) (br ((decide (op = (4 : Int)) || decide (op = (5 : Int))) && (decide (n < (0 : Int)) || decide (m < n))) (([] : List Go.Eng.Res) = [] ∧ Ent.one (SV.c (SC.v (Value.int IntKind.i64 (ciS vs ms cs fs (chkS op a b c obj n fn ord) op obj n m)))) = Ent.one (SV.c (SC.v (Value.int IntKind.i64 (12 : Int))))) (([] : List Go.Eng.Res) = [] ∧ Ent.one (SV.c (SC.v (Value.int IntKind.i64 (ciS vs ms cs fs (chkS op a b c obj n fn ord) op obj n m)))) = Ent.one (SV.c (SC.v (Value.int IntKind.i64 (0 : Int)))))))) := by
  generalize chkS op a b c obj n fn ord = e
  unfold ciS
  generalize objS vs ms cs fs op = o
  refine ⟨trivial, br_iff.2 ⟨fun h => ⟨rfl, ?_⟩, fun h => ⟨trivial, br_iff.2 ⟨fun h2 => ⟨rfl, ?_⟩, fun h2 => br_iff.2 ⟨fun h3 => ⟨rfl, ?_⟩, fun h3 => br_iff.2 ⟨fun h4 => ⟨rfl, ?_⟩, fun h4 => ⟨rfl, ?_⟩⟩⟩⟩⟩⟩⟩
  all_goals simp only [Bool.not_eq_true', Bool.not_eq_false', Bool.and_eq_true, Bool.or_eq_true, Bool.and_eq_false_iff, Bool.or_eq_false_iff, decide_eq_true_eq, decide_eq_false_iff_not] at *
  all_goals (congr 4; (repeat' split) <;> first | rfl | omega | (exfalso; omega))
set_option maxHeartbeats 2000000 in
set_option maxRecDepth 100000 in
theorem f68_met : Go.Eng.Met Tryd.prog cx0.gd 68 ctCI :=
  met_of (cx := cx0) (n := 66) (cl := cl68) (by kernel_rfl) tis_ok ⟨f47_met, f76_met, trivial⟩ Tryd.func68 (by kernel_rfl) (by kernel_rfl) rfl (by kernel_rfl) (by kernel_rfl) fun d hd => by
    obtain ⟨⟨vs, ms, cs, fs, ts, ⟨⟩⟩, ⟨op, a, b, c, obj, n, fn, ord, ⟨⟩⟩, m, ⟨⟩⟩ := d
    exact ⟨ann68 vs ms cs fs ts op a b c obj n fn ord m, cast (by kernel_rfl) (f68_vc vs ms cs fs ts op a b c obj n fn ord m)⟩
def cnS (vs : List VD) (ms cs : List ByteArray) (fs : List FD) : Int × Int × Int :=
  if (nmsE (nmsV vs)).1 ≠ 0 then ((nmsE (nmsV vs)).1, -1, -1) else if (nmsE ms).1 ≠ 0 then ((nmsE ms).1, -1, -1) else if (nmsE cs).1 ≠ 0 then ((nmsE cs).1, -1, -1) else ((nmsE (nmsF fs)).1, (nmsE (nmsF fs)).2, -1)
theorem cn_bad {vs : List VD} {ms cs : List ByteArray} {fs : List FD} {k : Nat} {d : List ByteArray} (hd : [nmsV vs, ms, cs][k]? = some d) (h : (nmsE d).1 ≠ 0) (hn : ∀ j < k, ∀ x, [nmsV vs, ms, cs][j]? = some x → (nmsE x).1 = 0) :
    cnS vs ms cs fs = ((nmsE d).1, -1, -1) := by
  unfold cnS
  match k, hd, hn with
  | 0, hd, hn => simp at hd; subst hd; rw [if_pos h]
  | 1, hd, hn =>
    simp at hd; subst hd
    have h0 := hn 0 (by omega) (nmsV vs) rfl
    rw [if_neg (by rw [h0]; simp), if_pos h]
  | 2, hd, hn =>
    simp at hd; subst hd
    have h0 := hn 0 (by omega) (nmsV vs) rfl
    have h1 := hn 1 (by omega) ms rfl
    rw [if_neg (by rw [h0]; simp), if_neg (by rw [h1]; simp), if_pos h]
  | k + 3, hd, hn => simp at hd
theorem cn_ok {vs : List VD} {ms cs : List ByteArray} {fs : List FD} (hn : ∀ (j : Nat) x, [nmsV vs, ms, cs][j]? = some x → (nmsE x).1 = 0) : cnS vs ms cs fs = ((nmsE (nmsF fs)).1, (nmsE (nmsF fs)).2, -1) := by
  unfold cnS
  have h0 := hn 0 (nmsV vs) rfl
  have h1 := hn 1 ms rfl
  have h2 := hn 2 cs rfl
  rw [if_neg (by rw [h0]; simp), if_neg (by rw [h1]; simp), if_neg (by rw [h2]; simp)]
@[reducible] def ctCN : CT := { ps := [shP], pre := fun d => d.1.1.length ≤ 1000000 ∧ d.1.2.1.length ≤ 1000000 ∧ d.1.2.2.1.length ≤ 1000000 ∧ d.1.2.2.2.1.length ≤ 1000000, res := fun d => ([], .tup [.c (.v (.int .i64 ((cnS d.1.1 d.1.2.1 d.1.2.2.1 d.1.2.2.2.1).1))), .agg [.v (.int .i64 ((cnS d.1.1 d.1.2.1 d.1.2.2.1 d.1.2.2.2.1).2.1)), .v (.int .i64 ((cnS d.1.1 d.1.2.1 d.1.2.2.1 d.1.2.2.2.1).2.2))]]) }
@[reducible] def cl50 : List (Nat × CT) := [(61, ctVarN), (62, ctNms), (63, ctFunN)]
@[reducible] def ann50 (vs : List VD) (ms : List ByteArray) (cs : List ByteArray) (fs : List FD) (ts : List SD) : Nat → Option (St → Ann) := fun k => match k with
  | 2 => some fun _ => .inv { α := Nat, slots := fun k => [(18, .c (.v (.int .i64 k)))], res := fun k => [], inv := fun k => k ≤ ([nmsV vs, ms, cs]).length ∧ ∀ j < k, ∀ x, [nmsV vs, ms, cs][j]? = some x → (nmsE x).1 = 0, meas := fun k => ([nmsV vs, ms, cs]).length - k }
  | _ => none
set_option maxRecDepth 100000 in
theorem f50_vc (vs : List VD) (ms : List ByteArray) (cs : List ByteArray) (fs : List FD) (ts : List SD) (hpre : ctCN.pre ((vs, ms, cs, fs, ts, ()), ())) :
    vs.length ≤ (1000000 : Nat) ∧ (∃ x, (x ≤ [nmsV vs, ms, cs].length ∧ ∀ (j : Nat), j < x → ∀ (x : List ByteArray), [nmsV vs, ms, cs][j]? = some x → (nmsE x).fst = (0 : Int)) ∧ (SV.c (SC.v (Value.int IntKind.i64 (0 : Int))) = SV.c (SC.v (Value.int IntKind.i64 (↑x : Int))) ∧ True) ∧ [(([] : Go.Eng.Gd), Res.blk (43 : Nat) [SC.sl (Sh.str.pair ((Sh.int IntKind.i64).pair Sh.unit)) vs, SC.sl Sh.str ms, SC.sl Sh.str cs, SC.sl (Sh.str.pair (((Sh.int IntKind.i64).pair ((Sh.int IntKind.i64).pair ((Sh.int IntKind.i64).pair ((Sh.int IntKind.i64).pair ((Sh.int IntKind.i64).pair ((Sh.int IntKind.i64).pair ((Sh.int IntKind.i64).pair ((Sh.int IntKind.i64).pair Sh.unit)))))))).sl.pair Sh.unit)) fs, SC.sl ((Sh.int IntKind.i64).pair ((Sh.int IntKind.i64).pair Sh.unit)) ts]), (([] : Go.Eng.Gd), Res.blk (97 : Nat) [SC.v (Value.int IntKind.i64 (0 : Int)), SC.v (Value.int IntKind.i64 (0 : Int))]), (([] : Go.Eng.Gd), Res.gone), (([] : Go.Eng.Gd), Res.row (39 : TypeId) Sh.str.sl [nmsV vs, ms, cs])] = [(([] : Go.Eng.Gd), Res.blk (43 : Nat) [SC.sl (Sh.str.pair ((Sh.int IntKind.i64).pair Sh.unit)) vs, SC.sl Sh.str ms, SC.sl Sh.str cs, SC.sl (Sh.str.pair (((Sh.int IntKind.i64).pair ((Sh.int IntKind.i64).pair ((Sh.int IntKind.i64).pair ((Sh.int IntKind.i64).pair ((Sh.int IntKind.i64).pair ((Sh.int IntKind.i64).pair ((Sh.int IntKind.i64).pair ((Sh.int IntKind.i64).pair Sh.unit)))))))).sl.pair Sh.unit)) fs, SC.sl ((Sh.int IntKind.i64).pair ((Sh.int IntKind.i64).pair Sh.unit)) ts]), (([] : Go.Eng.Gd), Res.blk (97 : Nat) [SC.v (Value.int IntKind.i64 (0 : Int)), SC.v (Value.int IntKind.i64 (0 : Int))]), (([] : Go.Eng.Gd), Res.gone), (([] : Go.Eng.Gd), Res.row (39 : TypeId) Sh.str.sl [nmsV vs, ms, cs])]) ∧ ∀ (x : Nat), (x ≤ [nmsV vs, ms, cs].length ∧ ∀ (j : Nat), j < x → ∀ (x : List ByteArray), [nmsV vs, ms, cs][j]? = some x → (nmsE x).fst = (0 : Int)) → br (decide ((↑x : Int) < (↑[nmsV vs, ms, cs].length : Int))) (((0 : Int) ≤ (↑x : Int) ∧ (↑x : Int) < (↑[nmsV vs, ms, cs].length : Int)) ∧ (↑x : Int).toNat < [nmsV vs, ms, cs].length ∧ ∀ (d : List Sh.str.den), [nmsV vs, ms, cs][(↑x : Int).toNat]? = some d → d.length ≤ (1000000 : Nat) ∧ br (!decide ((nmsE d).fst = (0 : Int))) (([] : List Go.Eng.Res) = [] ∧ Ent.tup [SV.c (SC.v (Value.int IntKind.i64 (cnS vs ms cs fs).fst)), SV.agg [SC.v (Value.int IntKind.i64 (cnS vs ms cs fs).snd.fst), SC.v (Value.int IntKind.i64 (cnS vs ms cs fs).snd.snd)]] = Ent.tup [SV.c (SC.v (Value.int IntKind.i64 (nmsE d).fst)), SV.agg [SC.v (Value.int IntKind.i64 (-1 : Int)), SC.v (Value.int IntKind.i64 (-1 : Int))]]) (InR IntKind.i64 ((↑x : Int) + (1 : Int)) ∧ ∃ x', (x' ≤ [nmsV vs, ms, cs].length ∧ ∀ (j : Nat), j < x' → ∀ (x : List ByteArray), [nmsV vs, ms, cs][j]? = some x → (nmsE x).fst = (0 : Int)) ∧ (SV.c (SC.v (Value.int IntKind.i64 ((↑x : Int) + (1 : Int)))) = SV.c (SC.v (Value.int IntKind.i64 (↑x' : Int))) ∧ True) ∧ [(([] : Go.Eng.Gd), Res.blk (43 : Nat) [SC.sl (Sh.str.pair ((Sh.int IntKind.i64).pair Sh.unit)) vs, SC.sl Sh.str ms, SC.sl Sh.str cs, SC.sl (Sh.str.pair (((Sh.int IntKind.i64).pair ((Sh.int IntKind.i64).pair ((Sh.int IntKind.i64).pair ((Sh.int IntKind.i64).pair ((Sh.int IntKind.i64).pair ((Sh.int IntKind.i64).pair ((Sh.int IntKind.i64).pair ((Sh.int IntKind.i64).pair Sh.unit)))))))).sl.pair Sh.unit)) fs, SC.sl ((Sh.int IntKind.i64).pair ((Sh.int IntKind.i64).pair Sh.unit)) ts]), (([] : Go.Eng.Gd), Res.blk (97 : Nat) [SC.v (Value.int IntKind.i64 (0 : Int)), SC.v (Value.int IntKind.i64 (0 : Int))]), (([] : Go.Eng.Gd), Res.gone), (([] : Go.Eng.Gd), Res.row (39 : TypeId) Sh.str.sl [nmsV vs, ms, cs])] = [(([] : Go.Eng.Gd), Res.blk (43 : Nat) [SC.sl (Sh.str.pair ((Sh.int IntKind.i64).pair Sh.unit)) vs, SC.sl Sh.str ms, SC.sl Sh.str cs, SC.sl (Sh.str.pair (((Sh.int IntKind.i64).pair ((Sh.int IntKind.i64).pair ((Sh.int IntKind.i64).pair ((Sh.int IntKind.i64).pair ((Sh.int IntKind.i64).pair ((Sh.int IntKind.i64).pair ((Sh.int IntKind.i64).pair ((Sh.int IntKind.i64).pair Sh.unit)))))))).sl.pair Sh.unit)) fs, SC.sl ((Sh.int IntKind.i64).pair ((Sh.int IntKind.i64).pair Sh.unit)) ts]), (([] : Go.Eng.Gd), Res.blk (97 : Nat) [SC.v (Value.int IntKind.i64 (0 : Int)), SC.v (Value.int IntKind.i64 (0 : Int))]), (([] : Go.Eng.Gd), Res.gone), (([] : Go.Eng.Gd), Res.row (39 : TypeId) Sh.str.sl [nmsV vs, ms, cs])] ∧ [nmsV vs, ms, cs].length - x' < [nmsV vs, ms, cs].length - x)) (fs.length ≤ (1000000 : Nat) ∧ (nmsF fs).length ≤ (1000000 : Nat) ∧ ([] : List Go.Eng.Res) = [] ∧ Ent.tup [SV.c (SC.v (Value.int IntKind.i64 (cnS vs ms cs fs).fst)), SV.agg [SC.v (Value.int IntKind.i64 (cnS vs ms cs fs).snd.fst), SC.v (Value.int IntKind.i64 (cnS vs ms cs fs).snd.snd)]] = Ent.tup [SV.c (SC.v (Value.int IntKind.i64 (nmsE (nmsF fs)).fst)), SV.agg [SC.v (Value.int IntKind.i64 (nmsE (nmsF fs)).snd), SC.v (Value.int IntKind.i64 (-1 : Int))]]) := by
  obtain ⟨hp1, hp2, hp3, hp4⟩ : vs.length ≤ 1000000 ∧ ms.length ≤ 1000000 ∧ cs.length ≤ 1000000 ∧ fs.length ≤ 1000000 := hpre
  refine ⟨hp1, ?_⟩
  refine ⟨⟨0, ⟨by omega, fun j hj => by omega⟩, ⟨rfl, trivial⟩, rfl⟩, fun k hk => br_iff.2 ⟨fun h => ?_, fun h => ?_⟩⟩
  · have h3 : k < 3 := by simp at h; omega
    have h : k < [nmsV vs, ms, cs].length := h3
    have hN : (↑k : Int).toNat = k := by omega
    rw [hN]
    refine ⟨⟨by omega, by omega⟩, h, fun d hd => ⟨?_, br_iff.2 ⟨fun h2 => ⟨rfl, ?_⟩, fun h2 => ⟨InR_i64.2 (by omega), k + 1, ⟨by omega, fun j hj x hx => ?_⟩, ⟨rfl, trivial⟩, rfl, by omega⟩⟩⟩⟩
    · have : d ∈ [nmsV vs, ms, cs] := List.mem_of_getElem? hd
      simp only [List.mem_cons, List.not_mem_nil, or_false] at this
      rcases this with rfl | rfl | rfl
      · simpa [nmsV] using hp1
      · exact hp2
      · exact hp3
    · rw [cn_bad hd (by simpa using h2) hk.2]
    · by_cases hjk : j = k
      · subst hjk
        rw [hd] at hx; cases hx; simpa using h2
      · exact hk.2 j (by omega) x hx
  · have h : ¬ k < [nmsV vs, ms, cs].length := by
      have : ¬ k < 3 := by simp at h; omega
      exact this
    refine ⟨hp4, by simpa [nmsF] using hp4, rfl, ?_⟩
    rw [cn_ok fun j x hx => hk.2 j (by have := (List.getElem?_eq_some_iff.1 hx).1; omega) x hx]
set_option maxHeartbeats 2000000 in
set_option maxRecDepth 100000 in
theorem f50_met : Go.Eng.Met Tryd.prog cx0.gd 50 ctCN :=
  met_of (cx := cx0) (n := 41) (cl := cl50) (by kernel_rfl) tis_ok ⟨f61_met, f62_met, f63_met, trivial⟩ Tryd.func50 (by kernel_rfl) (by kernel_rfl) rfl (by kernel_rfl) (by kernel_rfl) fun d hd => by
    obtain ⟨⟨vs, ms, cs, fs, ts, ⟨⟩⟩, ⟨⟩⟩ := d
    exact ⟨ann50 vs ms cs fs ts, cast (by kernel_rfl) (f50_vc vs ms cs fs ts hd)⟩
def coS (vs : List VD) (ms cs : List ByteArray) (fs : List FD) : Int := if 8 < vs.length ∨ 4 < ms.length ∨ 4 < cs.length ∨ 8 < fs.length then 4 else if vs.all fun v => valS v.2.1 then 0 else 2
@[reducible] def ctCO : CT := { ps := [shP], pre := fun d => True, res := fun d => ([], .tup [.c (.v (.int .i64 (coS d.1.1 d.1.2.1 d.1.2.2.1 d.1.2.2.2.1))), .agg [.v (.int .i64 (-1)), .v (.int .i64 (-1))]]) }
@[reducible] def cl51 : List (Nat × CT) := [(64, ctVal)]
@[reducible] def ann51 (vs : List VD) (ms : List ByteArray) (cs : List ByteArray) (fs : List FD) (ts : List SD) : Nat → Option (St → Ann) := fun k => match k with
  | 5 => some fun _ => .inv { α := Nat, slots := fun k => [(34, .c (.v (.int .i64 k)))], res := fun k => [], inv := fun k => k ≤ (vs).length ∧ ∀ j < k, ∀ v, vs[j]? = some v → valS v.2.1 = true, meas := fun k => (vs).length - k }
  | _ => none
set_option maxRecDepth 100000 in
theorem f51_vc (vs : List VD) (ms : List ByteArray) (cs : List ByteArray) (fs : List FD) (ts : List SD) :
    br (decide ((8 : Int) < (↑vs.length : Int)) || decide ((4 : Int) < (↑ms.length : Int)) || decide ((4 : Int) < (↑cs.length : Int)) || decide ((8 : Int) < (↑fs.length : Int))) (([] : List Go.Eng.Res) = [] ∧ Ent.tup [SV.c (SC.v (Value.int IntKind.i64 (coS vs ms cs fs))), SV.agg [SC.v (Value.int IntKind.i64 (-1 : Int)), SC.v (Value.int IntKind.i64 (-1 : Int))]] = Ent.tup [SV.c (SC.v (Value.int IntKind.i64 (4 : Int))), SV.agg [SC.v (Value.int IntKind.i64 (-1 : Int)), SC.v (Value.int IntKind.i64 (-1 : Int))]]) ((∃ x, (x ≤ vs.length ∧ ∀ (j : Nat), j < x → ∀ (v : ByteArray × Int × Unit), vs[j]? = some v → valS v.snd.fst = true) ∧ (SV.c (SC.v (Value.int IntKind.i64 (0 : Int))) = SV.c (SC.v (Value.int IntKind.i64 (↑x : Int))) ∧ True) ∧ [(([] : Go.Eng.Gd), Res.blk (43 : Nat) [SC.sl (Sh.str.pair ((Sh.int IntKind.i64).pair Sh.unit)) vs, SC.sl Sh.str ms, SC.sl Sh.str cs, SC.sl (Sh.str.pair (((Sh.int IntKind.i64).pair ((Sh.int IntKind.i64).pair ((Sh.int IntKind.i64).pair ((Sh.int IntKind.i64).pair ((Sh.int IntKind.i64).pair ((Sh.int IntKind.i64).pair ((Sh.int IntKind.i64).pair ((Sh.int IntKind.i64).pair Sh.unit)))))))).sl.pair Sh.unit)) fs, SC.sl ((Sh.int IntKind.i64).pair ((Sh.int IntKind.i64).pair Sh.unit)) ts]), (([] : Go.Eng.Gd), Res.blk (97 : Nat) [SC.v (Value.int IntKind.i64 (0 : Int)), SC.v (Value.int IntKind.i64 (0 : Int))]), (([] : Go.Eng.Gd), Res.blk (97 : Nat) [SC.v (Value.int IntKind.i64 (-1 : Int)), SC.v (Value.int IntKind.i64 (-1 : Int))])] = [(([] : Go.Eng.Gd), Res.blk (43 : Nat) [SC.sl (Sh.str.pair ((Sh.int IntKind.i64).pair Sh.unit)) vs, SC.sl Sh.str ms, SC.sl Sh.str cs, SC.sl (Sh.str.pair (((Sh.int IntKind.i64).pair ((Sh.int IntKind.i64).pair ((Sh.int IntKind.i64).pair ((Sh.int IntKind.i64).pair ((Sh.int IntKind.i64).pair ((Sh.int IntKind.i64).pair ((Sh.int IntKind.i64).pair ((Sh.int IntKind.i64).pair Sh.unit)))))))).sl.pair Sh.unit)) fs, SC.sl ((Sh.int IntKind.i64).pair ((Sh.int IntKind.i64).pair Sh.unit)) ts]), (([] : Go.Eng.Gd), Res.blk (97 : Nat) [SC.v (Value.int IntKind.i64 (0 : Int)), SC.v (Value.int IntKind.i64 (0 : Int))]), (([] : Go.Eng.Gd), Res.blk (97 : Nat) [SC.v (Value.int IntKind.i64 (-1 : Int)), SC.v (Value.int IntKind.i64 (-1 : Int))])]) ∧ ∀ (x : Nat), (x ≤ vs.length ∧ ∀ (j : Nat), j < x → ∀ (v : ByteArray × Int × Unit), vs[j]? = some v → valS v.snd.fst = true) → br (decide ((↑x : Int) < (↑vs.length : Int))) (((0 : Int) ≤ (↑x : Int) ∧ (↑x : Int) < (↑vs.length : Int)) ∧ ∀ (d : Sh.str.den × ((Sh.int IntKind.i64).pair Sh.unit).den), vs[(↑x : Int).toNat]? = some d → True ∧ br (!valS (d.snd.fst, ()).fst) (([] : List Go.Eng.Res) = [] ∧ Ent.tup [SV.c (SC.v (Value.int IntKind.i64 (coS vs ms cs fs))), SV.agg [SC.v (Value.int IntKind.i64 (-1 : Int)), SC.v (Value.int IntKind.i64 (-1 : Int))]] = Ent.tup [SV.c (SC.v (Value.int IntKind.i64 (2 : Int))), SV.agg [SC.v (Value.int IntKind.i64 (-1 : Int)), SC.v (Value.int IntKind.i64 (-1 : Int))]]) (InR IntKind.i64 ((↑x : Int) + (1 : Int)) ∧ ∃ x', (x' ≤ vs.length ∧ ∀ (j : Nat), j < x' → ∀ (v : ByteArray × Int × Unit), vs[j]? = some v → valS v.snd.fst = true) ∧ (SV.c (SC.v (Value.int IntKind.i64 ((↑x : Int) + (1 : Int)))) = SV.c (SC.v (Value.int IntKind.i64 (↑x' : Int))) ∧ True) ∧ [(([] : Go.Eng.Gd), Res.blk (43 : Nat) [SC.sl (Sh.str.pair ((Sh.int IntKind.i64).pair Sh.unit)) vs, SC.sl Sh.str ms, SC.sl Sh.str cs, SC.sl (Sh.str.pair (((Sh.int IntKind.i64).pair ((Sh.int IntKind.i64).pair ((Sh.int IntKind.i64).pair ((Sh.int IntKind.i64).pair ((Sh.int IntKind.i64).pair ((Sh.int IntKind.i64).pair ((Sh.int IntKind.i64).pair ((Sh.int IntKind.i64).pair Sh.unit)))))))).sl.pair Sh.unit)) fs, SC.sl ((Sh.int IntKind.i64).pair ((Sh.int IntKind.i64).pair Sh.unit)) ts]), (([] : Go.Eng.Gd), Res.blk (97 : Nat) [SC.v (Value.int IntKind.i64 (0 : Int)), SC.v (Value.int IntKind.i64 (0 : Int))]), (([] : Go.Eng.Gd), Res.blk (97 : Nat) [SC.v (Value.int IntKind.i64 (-1 : Int)), SC.v (Value.int IntKind.i64 (-1 : Int))])] = [(([] : Go.Eng.Gd), Res.blk (43 : Nat) [SC.sl (Sh.str.pair ((Sh.int IntKind.i64).pair Sh.unit)) vs, SC.sl Sh.str ms, SC.sl Sh.str cs, SC.sl (Sh.str.pair (((Sh.int IntKind.i64).pair ((Sh.int IntKind.i64).pair ((Sh.int IntKind.i64).pair ((Sh.int IntKind.i64).pair ((Sh.int IntKind.i64).pair ((Sh.int IntKind.i64).pair ((Sh.int IntKind.i64).pair ((Sh.int IntKind.i64).pair Sh.unit)))))))).sl.pair Sh.unit)) fs, SC.sl ((Sh.int IntKind.i64).pair ((Sh.int IntKind.i64).pair Sh.unit)) ts]), (([] : Go.Eng.Gd), Res.blk (97 : Nat) [SC.v (Value.int IntKind.i64 (0 : Int)), SC.v (Value.int IntKind.i64 (0 : Int))]), (([] : Go.Eng.Gd), Res.blk (97 : Nat) [SC.v (Value.int IntKind.i64 (-1 : Int)), SC.v (Value.int IntKind.i64 (-1 : Int))])] ∧ vs.length - x' < vs.length - x)) (([] : List Go.Eng.Res) = [] ∧ Ent.tup [SV.c (SC.v (Value.int IntKind.i64 (coS vs ms cs fs))), SV.agg [SC.v (Value.int IntKind.i64 (-1 : Int)), SC.v (Value.int IntKind.i64 (-1 : Int))]] = Ent.tup [SV.c (SC.v (Value.int IntKind.i64 (0 : Int))), SV.agg [SC.v (Value.int IntKind.i64 (-1 : Int)), SC.v (Value.int IntKind.i64 (-1 : Int))]])) := by
  by_cases hc : 8 < vs.length ∨ 4 < ms.length ∨ 4 < cs.length ∨ 8 < fs.length
  · have e : coS vs ms cs fs = 4 := by unfold coS; rw [if_pos hc]
    rw [e]
    refine br_iff.2 ⟨fun _ => ⟨rfl, rfl⟩, fun h => ?_⟩
    simp only [Bool.or_eq_false_iff, decide_eq_false_iff_not] at h
    omega
  refine br_iff.2 ⟨fun h => ?_, fun h => ⟨⟨0, ⟨by omega, fun j hj => by omega⟩, ⟨rfl, trivial⟩, rfl⟩, fun k hk => br_iff.2 ⟨fun h2 => ?_, fun h2 => ?_⟩⟩⟩
  · simp only [Bool.or_eq_true, decide_eq_true_eq] at h
    omega
  · simp only [decide_eq_true_eq] at h2
    have hN : (↑k : Int).toNat = k := by omega
    rw [hN]
    refine ⟨by omega, fun d hd => ⟨trivial, br_iff.2 ⟨fun h3 => ⟨rfl, ?_⟩, fun h3 => ⟨InR_i64.2 (by omega), k + 1, ⟨by omega, fun j hj v hv => ?_⟩, ⟨rfl, trivial⟩, rfl, by omega⟩⟩⟩⟩
    · have h3 : valS d.2.1 = false := by simpa using h3
      have e : coS vs ms cs fs = 2 := by
        unfold coS
        rw [if_neg hc, if_neg]
        intro hh
        rw [List.all_eq_true] at hh
        have := hh d (List.mem_of_getElem? hd)
        rw [h3] at this; cases this
      rw [e]
    · have h3 : valS d.2.1 = true := by simpa using h3
      by_cases hjk : j = k
      · subst hjk
        rw [hd] at hv; cases hv; exact h3
      · exact hk.2 j (by omega) v hv
  · simp only [decide_eq_false_iff_not] at h2
    have e : coS vs ms cs fs = 0 := by
      unfold coS
      rw [if_neg hc, if_pos]
      rw [List.all_eq_true]
      intro v hv
      obtain ⟨j, hj⟩ := List.getElem?_of_mem hv
      exact hk.2 j (by have := (List.getElem?_eq_some_iff.1 hj).1; omega) v hj
    rw [e]; exact ⟨rfl, rfl⟩
set_option maxHeartbeats 2000000 in
set_option maxRecDepth 100000 in
theorem f51_met : Go.Eng.Met Tryd.prog cx0.gd 51 ctCO :=
  met_of (cx := cx0) (n := 45) (cl := cl51) (by kernel_rfl) tis_ok ⟨f64_met, trivial⟩ Tryd.func51 (by kernel_rfl) (by kernel_rfl) rfl (by kernel_rfl) (by kernel_rfl) fun d hd => by
    obtain ⟨⟨vs, ms, cs, fs, ts, ⟨⟩⟩, ⟨⟩⟩ := d
    exact ⟨ann51 vs ms cs fs ts, cast (by kernel_rfl) (f51_vc vs ms cs fs ts)⟩
def thE (n : Nat) (t : SD) : Int := if t.1 < 0 ∨ (n : Int) ≤ t.1 then 11 else if valS t.2.1 then 0 else 2
def thS (fs : List FD) (ts : List SD) : Int := if ts.length < 1 ∨ 8 < ts.length then 4 else match ts.find? (fun t => decide (thE fs.length t ≠ 0)) with | some t => thE fs.length t | none => 0
theorem find_first {α : Type} {l : List α} {p : α → Bool} {k : Nat} {d : α} (hd : l[k]? = some d) (hp : p d = true) (hn : ∀ j < k, ∀ t, l[j]? = some t → p t = false) : l.find? p = some d := by
  induction l generalizing k with
  | nil => simp at hd
  | cons x l ih =>
    cases k with
    | zero => simp at hd; subst hd; simp [hp]
    | succ k =>
      have h0 := hn 0 (by omega) x (by simp)
      rw [List.find?_cons, h0]
      exact ih (by simpa using hd) fun j hj t ht => hn (j + 1) (by omega) t (by simpa using ht)
theorem find_no {α : Type} {l : List α} {p : α → Bool} (hn : ∀ (j : Nat) t, l[j]? = some t → p t = false) : l.find? p = none := by
  rw [List.find?_eq_none]
  intro x hx
  obtain ⟨j, hj⟩ := List.getElem?_of_mem hx
  rw [hn j x hj]; simp
theorem th_found {fs : List FD} {ts : List SD} {k : Nat} {d : SD} (hc : ¬ (ts.length < 1 ∨ 8 < ts.length)) (hd : ts[k]? = some d) (h : thE fs.length d ≠ 0) (hn : ∀ j < k, ∀ t, ts[j]? = some t → thE fs.length t = 0) : thS fs ts = thE fs.length d := by
  unfold thS
  rw [if_neg hc, find_first hd (by simpa using h) fun j hj t ht => by simpa using hn j hj t ht]
theorem th_none {fs : List FD} {ts : List SD} (hc : ¬ (ts.length < 1 ∨ 8 < ts.length)) (hn : ∀ (j : Nat) t, ts[j]? = some t → thE fs.length t = 0) : thS fs ts = 0 := by
  unfold thS
  rw [if_neg hc, find_no fun j t ht => by simpa using hn j t ht]
@[reducible] def ctCT : CT := { ps := [shP], pre := fun d => True, res := fun d => ([], .tup [.c (.v (.int .i64 (thS d.1.2.2.2.1 d.1.2.2.2.2.1))), .agg [.v (.int .i64 (-1)), .v (.int .i64 (-1))]]) }
@[reducible] def cl53 : List (Nat × CT) := [(64, ctVal)]
@[reducible] def ann53 (vs : List VD) (ms : List ByteArray) (cs : List ByteArray) (fs : List FD) (ts : List SD) : Nat → Option (St → Ann) := fun k => match k with
  | 5 => some fun _ => .inv { α := Nat, slots := fun k => [(22, .c (.v (.int .i64 k)))], res := fun k => [], inv := fun k => k ≤ (ts).length ∧ ∀ j < k, ∀ t, ts[j]? = some t → thE fs.length t = 0, meas := fun k => (ts).length - k }
  | _ => none
set_option maxRecDepth 100000 in
theorem f53_vc (vs : List VD) (ms : List ByteArray) (cs : List ByteArray) (fs : List FD) (ts : List SD) :
    br (decide ((↑ts.length : Int) < (1 : Int)) || decide ((8 : Int) < (↑ts.length : Int))) (([] : List Go.Eng.Res) = [] ∧ Ent.tup [SV.c (SC.v (Value.int IntKind.i64 (thS fs ts))), SV.agg [SC.v (Value.int IntKind.i64 (-1 : Int)), SC.v (Value.int IntKind.i64 (-1 : Int))]] = Ent.tup [SV.c (SC.v (Value.int IntKind.i64 (4 : Int))), SV.agg [SC.v (Value.int IntKind.i64 (-1 : Int)), SC.v (Value.int IntKind.i64 (-1 : Int))]]) ((∃ x, (x ≤ ts.length ∧ ∀ (j : Nat), j < x → ∀ (t : Int × Int × Unit), ts[j]? = some t → thE fs.length t = (0 : Int)) ∧ (SV.c (SC.v (Value.int IntKind.i64 (0 : Int))) = SV.c (SC.v (Value.int IntKind.i64 (↑x : Int))) ∧ True) ∧ [(([] : Go.Eng.Gd), Res.blk (43 : Nat) [SC.sl (Sh.str.pair ((Sh.int IntKind.i64).pair Sh.unit)) vs, SC.sl Sh.str ms, SC.sl Sh.str cs, SC.sl (Sh.str.pair (((Sh.int IntKind.i64).pair ((Sh.int IntKind.i64).pair ((Sh.int IntKind.i64).pair ((Sh.int IntKind.i64).pair ((Sh.int IntKind.i64).pair ((Sh.int IntKind.i64).pair ((Sh.int IntKind.i64).pair ((Sh.int IntKind.i64).pair Sh.unit)))))))).sl.pair Sh.unit)) fs, SC.sl ((Sh.int IntKind.i64).pair ((Sh.int IntKind.i64).pair Sh.unit)) ts]), (([] : Go.Eng.Gd), Res.blk (97 : Nat) [SC.v (Value.int IntKind.i64 (0 : Int)), SC.v (Value.int IntKind.i64 (0 : Int))]), (([] : Go.Eng.Gd), Res.blk (97 : Nat) [SC.v (Value.int IntKind.i64 (-1 : Int)), SC.v (Value.int IntKind.i64 (-1 : Int))])] = [(([] : Go.Eng.Gd), Res.blk (43 : Nat) [SC.sl (Sh.str.pair ((Sh.int IntKind.i64).pair Sh.unit)) vs, SC.sl Sh.str ms, SC.sl Sh.str cs, SC.sl (Sh.str.pair (((Sh.int IntKind.i64).pair ((Sh.int IntKind.i64).pair ((Sh.int IntKind.i64).pair ((Sh.int IntKind.i64).pair ((Sh.int IntKind.i64).pair ((Sh.int IntKind.i64).pair ((Sh.int IntKind.i64).pair ((Sh.int IntKind.i64).pair Sh.unit)))))))).sl.pair Sh.unit)) fs, SC.sl ((Sh.int IntKind.i64).pair ((Sh.int IntKind.i64).pair Sh.unit)) ts]), (([] : Go.Eng.Gd), Res.blk (97 : Nat) [SC.v (Value.int IntKind.i64 (0 : Int)), SC.v (Value.int IntKind.i64 (0 : Int))]), (([] : Go.Eng.Gd), Res.blk (97 : Nat) [SC.v (Value.int IntKind.i64 (-1 : Int)), SC.v (Value.int IntKind.i64 (-1 : Int))])]) ∧ ∀ (x : Nat), (x ≤ ts.length ∧ ∀ (j : Nat), j < x → ∀ (t : Int × Int × Unit), ts[j]? = some t → thE fs.length t = (0 : Int)) → br (decide ((↑x : Int) < (↑ts.length : Int))) (((0 : Int) ≤ (↑x : Int) ∧ (↑x : Int) < (↑ts.length : Int)) ∧ ∀ (d : (Sh.int IntKind.i64).den × ((Sh.int IntKind.i64).pair Sh.unit).den), ts[(↑x : Int).toNat]? = some d → br (decide (d.fst < (0 : Int)) || decide ((↑fs.length : Int) ≤ d.fst)) (([] : List Go.Eng.Res) = [] ∧ Ent.tup [SV.c (SC.v (Value.int IntKind.i64 (thS fs ts))), SV.agg [SC.v (Value.int IntKind.i64 (-1 : Int)), SC.v (Value.int IntKind.i64 (-1 : Int))]] = Ent.tup [SV.c (SC.v (Value.int IntKind.i64 (11 : Int))), SV.agg [SC.v (Value.int IntKind.i64 (-1 : Int)), SC.v (Value.int IntKind.i64 (-1 : Int))]]) (True ∧ br (!valS (d.snd.fst, ()).fst) (([] : List Go.Eng.Res) = [] ∧ Ent.tup [SV.c (SC.v (Value.int IntKind.i64 (thS fs ts))), SV.agg [SC.v (Value.int IntKind.i64 (-1 : Int)), SC.v (Value.int IntKind.i64 (-1 : Int))]] = Ent.tup [SV.c (SC.v (Value.int IntKind.i64 (2 : Int))), SV.agg [SC.v (Value.int IntKind.i64 (-1 : Int)), SC.v (Value.int IntKind.i64 (-1 : Int))]]) (InR IntKind.i64 ((↑x : Int) + (1 : Int)) ∧ ∃ x', (x' ≤ ts.length ∧ ∀ (j : Nat), j < x' → ∀ (t : Int × Int × Unit), ts[j]? = some t → thE fs.length t = (0 : Int)) ∧ (SV.c (SC.v (Value.int IntKind.i64 ((↑x : Int) + (1 : Int)))) = SV.c (SC.v (Value.int IntKind.i64 (↑x' : Int))) ∧ True) ∧ [(([] : Go.Eng.Gd), Res.blk (43 : Nat) [SC.sl (Sh.str.pair ((Sh.int IntKind.i64).pair Sh.unit)) vs, SC.sl Sh.str ms, SC.sl Sh.str cs, SC.sl (Sh.str.pair (((Sh.int IntKind.i64).pair ((Sh.int IntKind.i64).pair ((Sh.int IntKind.i64).pair ((Sh.int IntKind.i64).pair ((Sh.int IntKind.i64).pair ((Sh.int IntKind.i64).pair ((Sh.int IntKind.i64).pair ((Sh.int IntKind.i64).pair Sh.unit)))))))).sl.pair Sh.unit)) fs, SC.sl ((Sh.int IntKind.i64).pair ((Sh.int IntKind.i64).pair Sh.unit)) ts]), (([] : Go.Eng.Gd), Res.blk (97 : Nat) [SC.v (Value.int IntKind.i64 (0 : Int)), SC.v (Value.int IntKind.i64 (0 : Int))]), (([] : Go.Eng.Gd), Res.blk (97 : Nat) [SC.v (Value.int IntKind.i64 (-1 : Int)), SC.v (Value.int IntKind.i64 (-1 : Int))])] = [(([] : Go.Eng.Gd), Res.blk (43 : Nat) [SC.sl (Sh.str.pair ((Sh.int IntKind.i64).pair Sh.unit)) vs, SC.sl Sh.str ms, SC.sl Sh.str cs, SC.sl (Sh.str.pair (((Sh.int IntKind.i64).pair ((Sh.int IntKind.i64).pair ((Sh.int IntKind.i64).pair ((Sh.int IntKind.i64).pair ((Sh.int IntKind.i64).pair ((Sh.int IntKind.i64).pair ((Sh.int IntKind.i64).pair ((Sh.int IntKind.i64).pair Sh.unit)))))))).sl.pair Sh.unit)) fs, SC.sl ((Sh.int IntKind.i64).pair ((Sh.int IntKind.i64).pair Sh.unit)) ts]), (([] : Go.Eng.Gd), Res.blk (97 : Nat) [SC.v (Value.int IntKind.i64 (0 : Int)), SC.v (Value.int IntKind.i64 (0 : Int))]), (([] : Go.Eng.Gd), Res.blk (97 : Nat) [SC.v (Value.int IntKind.i64 (-1 : Int)), SC.v (Value.int IntKind.i64 (-1 : Int))])] ∧ ts.length - x' < ts.length - x))) (([] : List Go.Eng.Res) = [] ∧ Ent.tup [SV.c (SC.v (Value.int IntKind.i64 (thS fs ts))), SV.agg [SC.v (Value.int IntKind.i64 (-1 : Int)), SC.v (Value.int IntKind.i64 (-1 : Int))]] = Ent.tup [SV.c (SC.v (Value.int IntKind.i64 (0 : Int))), SV.agg [SC.v (Value.int IntKind.i64 (-1 : Int)), SC.v (Value.int IntKind.i64 (-1 : Int))]])) := by
  by_cases hc : ts.length < 1 ∨ 8 < ts.length
  · have e : thS fs ts = 4 := by unfold thS; rw [if_pos hc]
    rw [e]
    refine br_iff.2 ⟨fun _ => ⟨rfl, rfl⟩, fun h => ?_⟩
    simp only [Bool.or_eq_false_iff, decide_eq_false_iff_not] at h
    omega
  refine br_iff.2 ⟨fun h => ?_, fun h => ⟨⟨0, ⟨by omega, fun j hj => by omega⟩, ⟨rfl, trivial⟩, rfl⟩, fun k hk => br_iff.2 ⟨fun h2 => ?_, fun h2 => ?_⟩⟩⟩
  · simp only [Bool.or_eq_true, decide_eq_true_eq] at h
    omega
  · simp only [decide_eq_true_eq] at h2
    have hN : (↑k : Int).toNat = k := by omega
    rw [hN]
    refine ⟨by omega, fun d hd => br_iff.2 ⟨fun h3 => ⟨rfl, ?_⟩, fun h3 => ⟨trivial, br_iff.2 ⟨fun h4 => ⟨rfl, ?_⟩, fun h4 => ⟨InR_i64.2 (by omega), k + 1, ⟨by omega, fun j hj v hv => ?_⟩, ⟨rfl, trivial⟩, rfl, by omega⟩⟩⟩⟩⟩
    · have h3 : d.1 < 0 ∨ (fs.length : Int) ≤ d.1 := by simpa using h3
      have e : thE fs.length d = 11 := by unfold thE; rw [if_pos h3]
      rw [th_found hc hd (by rw [e]; simp) hk.2, e]
    · have h3 : ¬ (d.1 < 0 ∨ (fs.length : Int) ≤ d.1) := by simpa using h3
      have h4 : valS d.2.1 = false := by simpa using h4
      have e : thE fs.length d = 2 := by unfold thE; rw [if_neg h3, if_neg (by rw [h4]; simp)]
      rw [th_found hc hd (by rw [e]; simp) hk.2, e]
    · have h3 : ¬ (d.1 < 0 ∨ (fs.length : Int) ≤ d.1) := by simpa using h3
      have h4 : valS d.2.1 = true := by simpa using h4
      by_cases hjk : j = k
      · subst hjk
        rw [hd] at hv; cases hv
        unfold thE; rw [if_neg h3, if_pos h4]
      · exact hk.2 j (by omega) v hv
  · simp only [decide_eq_false_iff_not] at h2
    rw [th_none hc fun j t hj => hk.2 j (by have := (List.getElem?_eq_some_iff.1 hj).1; omega) t hj]; exact ⟨rfl, rfl⟩
set_option maxHeartbeats 2000000 in
set_option maxRecDepth 100000 in
theorem f53_met : Go.Eng.Met Tryd.prog cx0.gd 53 ctCT :=
  met_of (cx := cx0) (n := 45) (cl := cl53) (by kernel_rfl) tis_ok ⟨f64_met, trivial⟩ Tryd.func53 (by kernel_rfl) (by kernel_rfl) rfl (by kernel_rfl) (by kernel_rfl) fun d hd => by
    obtain ⟨⟨vs, ms, cs, fs, ts, ⟨⟩⟩, ⟨⟩⟩ := d
    exact ⟨ann53 vs ms cs fs ts, cast (by kernel_rfl) (f53_vc vs ms cs fs ts)⟩
@[reducible] def ctLong : CT := { ps := [shF], pre := fun d => True, res := fun d => ([], vB (decide (64 < d.1.2.1.length))) }
@[reducible] def cl66 : List (Nat × CT) := []
@[reducible] def ann66 (nm : ByteArray) (l : List ID) : Nat → Option (St → Ann) := fun _ => none
set_option maxRecDepth 100000 in
theorem f66_vc (nm : ByteArray) (l : List ID) :
    ([] : List Go.Eng.Res) = [] ∧ Ent.one (SV.c (SC.v (Value.bool (decide ((64 : Nat) < l.length))))) = Ent.one (SV.c (SC.v (Value.bool (decide ((64 : Int) < (↑l.length : Int)))))) := by
  refine ⟨rfl, ?_⟩
  congr 4
  rw [Bool.eq_iff_iff]; simp only [decide_eq_true_eq]; omega
set_option maxHeartbeats 2000000 in
set_option maxRecDepth 100000 in
theorem f66_met : Go.Eng.Met Tryd.prog cx0.gd 66 ctLong :=
  met_of (cx := cx0) (n := 7) (cl := cl66) (by kernel_rfl) tis_ok trivial Tryd.func66 (by kernel_rfl) (by kernel_rfl) rfl (by kernel_rfl) (by kernel_rfl) fun d hd => by
    obtain ⟨⟨nm, l, ⟨⟩⟩, ⟨⟩⟩ := d
    exact ⟨ann66 nm l, cast (by kernel_rfl) (f66_vc nm l)⟩
def longS (fs : List FD) : Int := match fs.findIdx? (fun f => decide (64 < f.2.1.length)) with | some k => (k : Int) | none => -1
theorem long_found {fs : List FD} {k : Nat} {d : FD} (hd : fs[k]? = some d) (h2 : 64 < d.2.1.length) (hn : ∀ j < k, ∀ f, fs[j]? = some f → f.2.1.length ≤ 64) : longS fs = k := by
  have hlt : k < fs.length := (List.getElem?_eq_some_iff.1 hd).1
  have : fs.findIdx? (fun f => decide (64 < f.2.1.length)) = some k := by
    rw [List.findIdx?_eq_some_iff_getElem]
    refine ⟨hlt, by rw [(List.getElem?_eq_some_iff.1 hd).2]; simpa using h2, fun j hj => ?_⟩
    have := hn j hj fs[j] (List.getElem?_eq_getElem (by omega))
    simpa using this
  simp [longS, this]
theorem long_none {fs : List FD} (hn : ∀ (j : Nat) f, fs[j]? = some f → f.2.1.length ≤ 64) : longS fs = -1 := by
  have : fs.findIdx? (fun f => decide (64 < f.2.1.length)) = none := by
    rw [List.findIdx?_eq_none_iff]
    intro y hy
    obtain ⟨j, hj⟩ := List.getElem?_of_mem hy
    simpa using hn j y hj
  simp [longS, this]
@[reducible] def ctLongs : CT := { ps := [.sl shF], pre := fun d => d.1.length ≤ 1000000, res := fun d => ([], .one (.c (.v (.int .i64 (longS d.1))))) }
@[reducible] def cl65 : List (Nat × CT) := [(66, ctLong)]
@[reducible] def ann65 (fs : List FD) : Nat → Option (St → Ann) := fun k => match k with
  | 2 => some fun _ => .inv { α := Nat, slots := fun k => [(8, .c (.v (.int .i64 k)))], res := fun k => [], inv := fun k => k ≤ (fs).length ∧ ∀ j < k, ∀ f, fs[j]? = some f → f.2.1.length ≤ 64, meas := fun k => (fs).length - k }
  | _ => none
@[reducible] def il65 : List (Nat × IP) := []
@[reducible] def hl65 : List (Nat × Nat × CT) := []
@[reducible] def ml65 : List (Nat × MK) := []
set_option maxRecDepth 100000 in
theorem f65_vc (fs : List FD) (hpre : ctLongs.pre (fs, ())) :
    (∃ x, (x ≤ fs.length ∧ ∀ (j : Nat), j < x → ∀ (f : ByteArray × List ID × Unit), fs[j]? = some f → f.snd.fst.length ≤ (64 : Nat)) ∧ (SV.c (SC.v (Value.int IntKind.i64 (0 : Int))) = SV.c (SC.v (Value.int IntKind.i64 (↑x : Int))) ∧ True) ∧ ([] : List (Go.Eng.Gd × Go.Eng.Res)) = []) ∧ ∀ (x : Nat), (x ≤ fs.length ∧ ∀ (j : Nat), j < x → ∀ (f : ByteArray × List ID × Unit), fs[j]? = some f → f.snd.fst.length ≤ (64 : Nat)) → br (decide ((↑x : Int) < (↑fs.length : Int))) (((0 : Int) ≤ (↑x : Int) ∧ (↑x : Int) < (↑fs.length : Int)) ∧ ∀ (d : Sh.str.den × (((Sh.int IntKind.i64).pair ((Sh.int IntKind.i64).pair ((Sh.int IntKind.i64).pair ((Sh.int IntKind.i64).pair ((Sh.int IntKind.i64).pair ((Sh.int IntKind.i64).pair ((Sh.int IntKind.i64).pair ((Sh.int IntKind.i64).pair Sh.unit)))))))).sl.pair Sh.unit).den), fs[(↑x : Int).toNat]? = some d → True ∧ br (decide ((64 : Nat) < List.length (d.snd.fst, ()).fst)) (([] : List Go.Eng.Res) = [] ∧ Ent.one (SV.c (SC.v (Value.int IntKind.i64 (longS fs)))) = Ent.one (SV.c (SC.v (Value.int IntKind.i64 (↑x : Int))))) (InR IntKind.i64 ((↑x : Int) + (1 : Int)) ∧ ∃ x', (x' ≤ fs.length ∧ ∀ (j : Nat), j < x' → ∀ (f : ByteArray × List ID × Unit), fs[j]? = some f → f.snd.fst.length ≤ (64 : Nat)) ∧ (SV.c (SC.v (Value.int IntKind.i64 ((↑x : Int) + (1 : Int)))) = SV.c (SC.v (Value.int IntKind.i64 (↑x' : Int))) ∧ True) ∧ ([] : List (Go.Eng.Gd × Go.Eng.Res)) = [] ∧ fs.length - x' < fs.length - x)) (([] : List Go.Eng.Res) = [] ∧ Ent.one (SV.c (SC.v (Value.int IntKind.i64 (longS fs)))) = Ent.one (SV.c (SC.v (Value.int IntKind.i64 (-1 : Int))))) := by
  have hp : fs.length ≤ 1000000 := hpre
  refine ⟨⟨0, ⟨by omega, fun j hj => by omega⟩, ⟨rfl, trivial⟩, rfl⟩, fun k hk => br_iff.2 ⟨fun h => ?_, fun h => ?_⟩⟩
  · simp only [decide_eq_true_eq] at h
    have hN : (↑k : Int).toNat = k := by omega
    rw [hN]
    refine ⟨by omega, fun d hd => ⟨trivial, br_iff.2 ⟨fun h2 => ⟨rfl, ?_⟩, fun h2 => ⟨InR_i64.2 (by omega), k + 1, ⟨by omega, fun j hj f hf => ?_⟩, ⟨rfl, trivial⟩, rfl, by omega⟩⟩⟩⟩
    · have h2 : 64 < d.2.1.length := by simpa using h2
      rw [long_found hd h2 hk.2]
    · have h2 : ¬ 64 < d.2.1.length := by simpa using h2
      by_cases hjk : j = k
      · subst hjk
        rw [hd] at hf; cases hf; omega
      · exact hk.2 j (by omega) f hf
  · simp only [decide_eq_false_iff_not] at h
    rw [long_none fun j f hf => hk.2 j (by have := (List.getElem?_eq_some_iff.1 hf).1; omega) f hf]; exact ⟨rfl, rfl⟩
set_option maxHeartbeats 2000000 in
set_option maxRecDepth 100000 in
theorem f65_metx : MetX Tryd.prog cx0.gd 65 [.func (.func 66) #[] #[]] ctLongs :=
  (met_all (cx := cx0) (n := 19) (cl := cl65) (il := il65) (hl := hl65) (ml := ml65) (rc := []) (lits := []) (suf := [.func (.func 66) #[] #[]]) (by kernel_rfl) tis_ok ⟨f66_met, trivial⟩ trivial trivial trivial Tryd.func65 (by kernel_rfl) (by kernel_rfl) rfl (by kernel_rfl) (by kernel_rfl) (by simp) fun d hd => by
    obtain ⟨fs, ⟨⟩⟩ := d
    exact ⟨ann65 fs, cast (by kernel_rfl) (f65_vc fs hd)⟩)
/-- The error of an instruction at its place. -/
def ceI (vs : List VD) (ms cs : List ByteArray) (fs : List FD) (d : dens [shS, shI]) : Int := ciI vs ms cs fs d.2.1 (((fs.getD d.1.1.toNat (⟨#[]⟩, [], ())).2.1.length : Nat) : Int)
def ccS (vs : List VD) (ms cs : List ByteArray) (fs : List FD) : Int × Int × Int := match (instL fs).find? (fun d => decide (d.1.1 = longS fs) || decide (ceI vs ms cs fs d ≠ 0)) with
  | some d => if d.1.1 = longS fs then (4, longS fs, -1) else (ceI vs ms cs fs d, d.1.1, d.1.2.1)
  | none => if 0 ≤ longS fs then (4, longS fs, -1) else (0, -1, -1)
theorem ce_of {vs : List VD} {ms cs : List ByteArray} {fs : List FD} {d : dens [shS, shI]} {e : FD} (he : fs[d.1.1.toNat]? = some e) : ceI vs ms cs fs d = ciI vs ms cs fs d.2.1 (e.2.1.length : Int) := by
  unfold ceI
  rw [List.getD_eq_getElem?_getD, he]; rfl
theorem instG_mem : ∀ (l : List FD) (n : Nat) {d : dens [shS, shI]}, d ∈ instG n l → ∃ (k : Nat) (x : FD) (j : Nat) (e : ID), l[k]? = some x ∧ x.2.1[j]? = some e ∧ d = ((((n + k : Nat) : Int), (j : Int), ()), e, ())
  | [], n, d, h => by simp [instG] at h
  | x :: l, n, d, h => by
    simp only [instG, List.mem_append] at h
    rcases h with h | h
    · unfold instF at h
      obtain ⟨p, hp, rfl⟩ := List.mem_map.1 h
      have := List.mk_mem_zipIdx_iff_getElem?.1 (show (p.1, p.2) ∈ x.2.1.zipIdx from hp)
      exact ⟨0, x, p.2, p.1, rfl, this, rfl⟩
    · obtain ⟨k, y, j, e, h1, h2, rfl⟩ := instG_mem l (n + 1) h
      exact ⟨k + 1, y, j, e, by simpa using h1, h2, by rw [show n + 1 + k = n + (k + 1) by omega]⟩
theorem inst_bnd {fs : List FD} {i : Nat} {d : dens [shS, shI]} (hd : (instL fs)[i]? = some d) : 0 ≤ d.1.1 ∧ d.1.1 < fs.length := by
  obtain ⟨k, x, j, e, h1, h2, rfl⟩ := instG_mem fs 0 (List.mem_of_getElem? hd)
  have := (List.getElem?_eq_some_iff.1 h1).1
  show 0 ≤ ((0 + k : Nat) : Int) ∧ ((0 + k : Nat) : Int) < _
  omega
theorem cc_find {vs : List VD} {ms cs : List ByteArray} {fs : List FD} {i : Nat} {d : dens [shS, shI]} (hd : (instL fs)[i]? = some d) (hb : d.1.1 = longS fs ∨ ceI vs ms cs fs d ≠ 0)
    (hn : ∀ j < i, ∀ d, (instL fs)[j]? = some d → d.1.1 ≠ longS fs ∧ ceI vs ms cs fs d = 0) : ccS vs ms cs fs = if d.1.1 = longS fs then (4, longS fs, -1) else (ceI vs ms cs fs d, d.1.1, d.1.2.1) := by
  unfold ccS
  rw [find_first hd (by simpa using hb) fun j hj t ht => by obtain ⟨a, b⟩ := hn j hj t ht; simp [a, b]]
theorem cc_end {vs : List VD} {ms cs : List ByteArray} {fs : List FD} (hn : ∀ (j : Nat) d, (instL fs)[j]? = some d → d.1.1 ≠ longS fs ∧ ceI vs ms cs fs d = 0) : ccS vs ms cs fs = if 0 ≤ longS fs then (4, longS fs, -1) else (0, -1, -1) := by
  unfold ccS
  rw [find_no fun j t ht => by obtain ⟨a, b⟩ := hn j t ht; simp [a, b]]
@[reducible] def ctCC : CT := { ps := [shP], pre := fun d => d.1.2.2.2.1.length ≤ 1000000 ∧ ∀ x ∈ d.1.2.2.2.1, x.2.1.length ≤ 1000000, res := fun d => ([], .tup [.c (.v (.int .i64 ((ccS d.1.1 d.1.2.1 d.1.2.2.1 d.1.2.2.2.1).1))), .agg [.v (.int .i64 ((ccS d.1.1 d.1.2.1 d.1.2.2.1 d.1.2.2.2.1).2.1)), .v (.int .i64 ((ccS d.1.1 d.1.2.1 d.1.2.2.1 d.1.2.2.2.1).2.2))]]) }
@[reducible] noncomputable def cl52 : List (Nat × CT) := [(67, ctInsts), (68, ctCI)]
@[reducible] def ann52 (vs : List VD) (ms : List ByteArray) (cs : List ByteArray) (fs : List FD) (ts : List SD) : Nat → Option (St → Ann) := fun k => match k with
  | 5 => some fun _ => .rng { α := Nat, res := fun _ => [], inv := fun i n => n = i ∧ ∀ j < n, ∀ d, (instL fs)[j]? = some d → d.1.1 ≠ longS fs ∧ ceI vs ms cs fs d = 0 }
  | _ => none
@[reducible] def il52 : List (Nat × IP) := []
@[reducible] def hl52 : List (Nat × Nat × CT) := [(65, 66, ctLongs)]
@[reducible] noncomputable def ml52 : List (Nat × MK) := []
set_option maxRecDepth 100000 in
theorem f52_vc (vs : List VD) (ms : List ByteArray) (cs : List ByteArray) (fs : List FD) (ts : List SD) (hpre : ctCC.pre ((vs, ms, cs, fs, ts, ()), ())) :
    fs.length ≤ (1000000 : Nat) ∧ (fs.length ≤ (1000000 : Nat) ∧ ∀ (x : Sh.str.den × (((Sh.int IntKind.i64).pair ((Sh.int IntKind.i64).pair ((Sh.int IntKind.i64).pair ((Sh.int IntKind.i64).pair ((Sh.int IntKind.i64).pair ((Sh.int IntKind.i64).pair ((Sh.int IntKind.i64).pair ((Sh.int IntKind.i64).pair Sh.unit)))))))).sl.pair Sh.unit).den), x ∈ fs → List.length x.snd.fst ≤ (1000000 : Nat)) ∧ some Tryd.prog = some Tryd.prog ∧ (∃ x, (x = (0 : Nat) ∧ ∀ (j : Nat), j < x → ∀ (d : ((Sh.int IntKind.i64).pair ((Sh.int IntKind.i64).pair Sh.unit)).den × dens [(Sh.int IntKind.i64).pair ((Sh.int IntKind.i64).pair ((Sh.int IntKind.i64).pair ((Sh.int IntKind.i64).pair ((Sh.int IntKind.i64).pair ((Sh.int IntKind.i64).pair ((Sh.int IntKind.i64).pair ((Sh.int IntKind.i64).pair Sh.unit)))))))]), (instL fs)[j]? = some d → d.fst.fst ≠ longS fs ∧ ceI vs ms cs fs d = (0 : Int)) ∧ [(([] : Go.Eng.Gd), Res.blk (43 : Nat) [SC.sl (Sh.str.pair ((Sh.int IntKind.i64).pair Sh.unit)) vs, SC.sl Sh.str ms, SC.sl Sh.str cs, SC.sl (Sh.str.pair (((Sh.int IntKind.i64).pair ((Sh.int IntKind.i64).pair ((Sh.int IntKind.i64).pair ((Sh.int IntKind.i64).pair ((Sh.int IntKind.i64).pair ((Sh.int IntKind.i64).pair ((Sh.int IntKind.i64).pair ((Sh.int IntKind.i64).pair Sh.unit)))))))).sl.pair Sh.unit)) fs, SC.sl ((Sh.int IntKind.i64).pair ((Sh.int IntKind.i64).pair Sh.unit)) ts]), (([] : Go.Eng.Gd), Res.blk (25 : Nat) [SC.v (Value.int IntKind.i64 (0 : Int))]), (([] : Go.Eng.Gd), Res.blk (97 : Nat) [SC.v (Value.int IntKind.i64 (0 : Int)), SC.v (Value.int IntKind.i64 (0 : Int))]), (([] : Go.Eng.Gd), Res.blk (3 : Nat) [SC.v (Value.int IntKind.i64 (longS fs))])] = [(([] : Go.Eng.Gd), Res.blk (43 : Nat) [SC.sl (Sh.str.pair ((Sh.int IntKind.i64).pair Sh.unit)) vs, SC.sl Sh.str ms, SC.sl Sh.str cs, SC.sl (Sh.str.pair (((Sh.int IntKind.i64).pair ((Sh.int IntKind.i64).pair ((Sh.int IntKind.i64).pair ((Sh.int IntKind.i64).pair ((Sh.int IntKind.i64).pair ((Sh.int IntKind.i64).pair ((Sh.int IntKind.i64).pair ((Sh.int IntKind.i64).pair Sh.unit)))))))).sl.pair Sh.unit)) fs, SC.sl ((Sh.int IntKind.i64).pair ((Sh.int IntKind.i64).pair Sh.unit)) ts]), (([] : Go.Eng.Gd), Res.blk (25 : Nat) [SC.v (Value.int IntKind.i64 (0 : Int))]), (([] : Go.Eng.Gd), Res.blk (97 : Nat) [SC.v (Value.int IntKind.i64 (0 : Int)), SC.v (Value.int IntKind.i64 (0 : Int))]), (([] : Go.Eng.Gd), Res.blk (3 : Nat) [SC.v (Value.int IntKind.i64 (longS fs))])]) ∧ (∀ (i x : Nat) (d : ((Sh.int IntKind.i64).pair ((Sh.int IntKind.i64).pair Sh.unit)).den × dens [(Sh.int IntKind.i64).pair ((Sh.int IntKind.i64).pair ((Sh.int IntKind.i64).pair ((Sh.int IntKind.i64).pair ((Sh.int IntKind.i64).pair ((Sh.int IntKind.i64).pair ((Sh.int IntKind.i64).pair ((Sh.int IntKind.i64).pair Sh.unit)))))))]), (x = i ∧ ∀ (j : Nat), j < x → ∀ (d : ((Sh.int IntKind.i64).pair ((Sh.int IntKind.i64).pair Sh.unit)).den × dens [(Sh.int IntKind.i64).pair ((Sh.int IntKind.i64).pair ((Sh.int IntKind.i64).pair ((Sh.int IntKind.i64).pair ((Sh.int IntKind.i64).pair ((Sh.int IntKind.i64).pair ((Sh.int IntKind.i64).pair ((Sh.int IntKind.i64).pair Sh.unit)))))))]), (instL fs)[j]? = some d → d.fst.fst ≠ longS fs ∧ ceI vs ms cs fs d = (0 : Int)) → (instL fs)[i]? = some d → br (decide (d.fst.fst = longS fs)) (br (decide ((0 : Int) ≤ longS fs)) (((([] : List Go.Eng.Res) = [] ∧ Ent.tup [SV.c (SC.v (Value.int IntKind.i64 (ccS vs ms cs fs).fst)), SV.agg [SC.v (Value.int IntKind.i64 (ccS vs ms cs fs).snd.fst), SC.v (Value.int IntKind.i64 (ccS vs ms cs fs).snd.snd)]] = Ent.tup [SV.c (SC.v (Value.int IntKind.i64 (4 : Int))), SV.agg [SC.v (Value.int IntKind.i64 (longS fs)), SC.v (Value.int IntKind.i64 (-1 : Int))]]) ∧ ([] : List Go.Eng.Res) = [] ∧ Ent.tup [SV.c (SC.v (Value.int IntKind.i64 (ccS vs ms cs fs).fst)), SV.agg [SC.v (Value.int IntKind.i64 (ccS vs ms cs fs).snd.fst), SC.v (Value.int IntKind.i64 (ccS vs ms cs fs).snd.snd)]] = Ent.tup [SV.c (SC.v (Value.int IntKind.i64 (4 : Int))), SV.agg [SC.v (Value.int IntKind.i64 (longS fs)), SC.v (Value.int IntKind.i64 (-1 : Int))]]) ∧ ([] : List Go.Eng.Res) = [] ∧ Ent.tup [SV.c (SC.v (Value.int IntKind.i64 (ccS vs ms cs fs).fst)), SV.agg [SC.v (Value.int IntKind.i64 (ccS vs ms cs fs).snd.fst), SC.v (Value.int IntKind.i64 (ccS vs ms cs fs).snd.snd)]] = Ent.tup [SV.c (SC.v (Value.int IntKind.i64 (4 : Int))), SV.agg [SC.v (Value.int IntKind.i64 (longS fs)), SC.v (Value.int IntKind.i64 (-1 : Int))]]) (([] : List Go.Eng.Res) = [] ∧ Ent.tup [SV.c (SC.v (Value.int IntKind.i64 (ccS vs ms cs fs).fst)), SV.agg [SC.v (Value.int IntKind.i64 (ccS vs ms cs fs).snd.fst), SC.v (Value.int IntKind.i64 (ccS vs ms cs fs).snd.snd)]] = Ent.tup [SV.c (SC.v (Value.int IntKind.i64 (0 : Int))), SV.agg [SC.v (Value.int IntKind.i64 (-1 : Int)), SC.v (Value.int IntKind.i64 (-1 : Int))]])) (((0 : Int) ≤ d.fst.fst ∧ d.fst.fst < (↑fs.length : Int)) ∧ ∀ (d_1 : Sh.str.den × (((Sh.int IntKind.i64).pair ((Sh.int IntKind.i64).pair ((Sh.int IntKind.i64).pair ((Sh.int IntKind.i64).pair ((Sh.int IntKind.i64).pair ((Sh.int IntKind.i64).pair ((Sh.int IntKind.i64).pair ((Sh.int IntKind.i64).pair Sh.unit)))))))).sl.pair Sh.unit).den), fs[Int.toNat d.fst.fst]? = some d_1 → True ∧ br (!decide (ciS vs ms cs fs (chkS (d.snd.fst.fst, d.snd.fst.snd.fst, d.snd.fst.snd.snd.fst, d.snd.fst.snd.snd.snd.fst, d.snd.fst.snd.snd.snd.snd.fst, d.snd.fst.snd.snd.snd.snd.snd.fst, d.snd.fst.snd.snd.snd.snd.snd.snd.fst, d.snd.fst.snd.snd.snd.snd.snd.snd.snd.fst, ()).fst (d.snd.fst.snd.fst, d.snd.fst.snd.snd.fst, d.snd.fst.snd.snd.snd.fst, d.snd.fst.snd.snd.snd.snd.fst, d.snd.fst.snd.snd.snd.snd.snd.fst, d.snd.fst.snd.snd.snd.snd.snd.snd.fst, d.snd.fst.snd.snd.snd.snd.snd.snd.snd.fst, ()).fst (d.snd.fst.snd.snd.fst, d.snd.fst.snd.snd.snd.fst, d.snd.fst.snd.snd.snd.snd.fst, d.snd.fst.snd.snd.snd.snd.snd.fst, d.snd.fst.snd.snd.snd.snd.snd.snd.fst, d.snd.fst.snd.snd.snd.snd.snd.snd.snd.fst, ()).fst (d.snd.fst.snd.snd.snd.fst, d.snd.fst.snd.snd.snd.snd.fst, d.snd.fst.snd.snd.snd.snd.snd.fst, d.snd.fst.snd.snd.snd.snd.snd.snd.fst, d.snd.fst.snd.snd.snd.snd.snd.snd.snd.fst, ()).fst (d.snd.fst.snd.snd.snd.snd.fst, d.snd.fst.snd.snd.snd.snd.snd.fst, d.snd.fst.snd.snd.snd.snd.snd.snd.fst, d.snd.fst.snd.snd.snd.snd.snd.snd.snd.fst, ()).fst (d.snd.fst.snd.snd.snd.snd.snd.fst, d.snd.fst.snd.snd.snd.snd.snd.snd.fst, d.snd.fst.snd.snd.snd.snd.snd.snd.snd.fst, ()).fst (d.snd.fst.snd.snd.snd.snd.snd.snd.fst, d.snd.fst.snd.snd.snd.snd.snd.snd.snd.fst, ()).fst (d.snd.fst.snd.snd.snd.snd.snd.snd.snd.fst, ()).fst) (d.snd.fst.fst, d.snd.fst.snd.fst, d.snd.fst.snd.snd.fst, d.snd.fst.snd.snd.snd.fst, d.snd.fst.snd.snd.snd.snd.fst, d.snd.fst.snd.snd.snd.snd.snd.fst, d.snd.fst.snd.snd.snd.snd.snd.snd.fst, d.snd.fst.snd.snd.snd.snd.snd.snd.snd.fst, ()).fst (d.snd.fst.snd.snd.snd.snd.fst, d.snd.fst.snd.snd.snd.snd.snd.fst, d.snd.fst.snd.snd.snd.snd.snd.snd.fst, d.snd.fst.snd.snd.snd.snd.snd.snd.snd.fst, ()).fst (d.snd.fst.snd.snd.snd.snd.snd.fst, d.snd.fst.snd.snd.snd.snd.snd.snd.fst, d.snd.fst.snd.snd.snd.snd.snd.snd.snd.fst, ()).fst (↑(List.length d_1.snd.fst) : Int) = (0 : Int))) ((([] : List Go.Eng.Res) = [] ∧ Ent.tup [SV.c (SC.v (Value.int IntKind.i64 (ccS vs ms cs fs).fst)), SV.agg [SC.v (Value.int IntKind.i64 (ccS vs ms cs fs).snd.fst), SC.v (Value.int IntKind.i64 (ccS vs ms cs fs).snd.snd)]] = Ent.tup [SV.c (SC.v (Value.int IntKind.i64 (ciS vs ms cs fs (chkS (d.snd.fst.fst, d.snd.fst.snd.fst, d.snd.fst.snd.snd.fst, d.snd.fst.snd.snd.snd.fst, d.snd.fst.snd.snd.snd.snd.fst, d.snd.fst.snd.snd.snd.snd.snd.fst, d.snd.fst.snd.snd.snd.snd.snd.snd.fst, d.snd.fst.snd.snd.snd.snd.snd.snd.snd.fst, ()).fst (d.snd.fst.snd.fst, d.snd.fst.snd.snd.fst, d.snd.fst.snd.snd.snd.fst, d.snd.fst.snd.snd.snd.snd.fst, d.snd.fst.snd.snd.snd.snd.snd.fst, d.snd.fst.snd.snd.snd.snd.snd.snd.fst, d.snd.fst.snd.snd.snd.snd.snd.snd.snd.fst, ()).fst (d.snd.fst.snd.snd.fst, d.snd.fst.snd.snd.snd.fst, d.snd.fst.snd.snd.snd.snd.fst, d.snd.fst.snd.snd.snd.snd.snd.fst, d.snd.fst.snd.snd.snd.snd.snd.snd.fst, d.snd.fst.snd.snd.snd.snd.snd.snd.snd.fst, ()).fst (d.snd.fst.snd.snd.snd.fst, d.snd.fst.snd.snd.snd.snd.fst, d.snd.fst.snd.snd.snd.snd.snd.fst, d.snd.fst.snd.snd.snd.snd.snd.snd.fst, d.snd.fst.snd.snd.snd.snd.snd.snd.snd.fst, ()).fst (d.snd.fst.snd.snd.snd.snd.fst, d.snd.fst.snd.snd.snd.snd.snd.fst, d.snd.fst.snd.snd.snd.snd.snd.snd.fst, d.snd.fst.snd.snd.snd.snd.snd.snd.snd.fst, ()).fst (d.snd.fst.snd.snd.snd.snd.snd.fst, d.snd.fst.snd.snd.snd.snd.snd.snd.fst, d.snd.fst.snd.snd.snd.snd.snd.snd.snd.fst, ()).fst (d.snd.fst.snd.snd.snd.snd.snd.snd.fst, d.snd.fst.snd.snd.snd.snd.snd.snd.snd.fst, ()).fst (d.snd.fst.snd.snd.snd.snd.snd.snd.snd.fst, ()).fst) (d.snd.fst.fst, d.snd.fst.snd.fst, d.snd.fst.snd.snd.fst, d.snd.fst.snd.snd.snd.fst, d.snd.fst.snd.snd.snd.snd.fst, d.snd.fst.snd.snd.snd.snd.snd.fst, d.snd.fst.snd.snd.snd.snd.snd.snd.fst, d.snd.fst.snd.snd.snd.snd.snd.snd.snd.fst, ()).fst (d.snd.fst.snd.snd.snd.snd.fst, d.snd.fst.snd.snd.snd.snd.snd.fst, d.snd.fst.snd.snd.snd.snd.snd.snd.fst, d.snd.fst.snd.snd.snd.snd.snd.snd.snd.fst, ()).fst (d.snd.fst.snd.snd.snd.snd.snd.fst, d.snd.fst.snd.snd.snd.snd.snd.snd.fst, d.snd.fst.snd.snd.snd.snd.snd.snd.snd.fst, ()).fst (↑(List.length d_1.snd.fst) : Int)))), SV.agg [SC.v (Value.int IntKind.i64 d.fst.fst), SC.v (Value.int IntKind.i64 d.fst.snd.fst)]]) ∧ ([] : List Go.Eng.Res) = [] ∧ Ent.tup [SV.c (SC.v (Value.int IntKind.i64 (ccS vs ms cs fs).fst)), SV.agg [SC.v (Value.int IntKind.i64 (ccS vs ms cs fs).snd.fst), SC.v (Value.int IntKind.i64 (ccS vs ms cs fs).snd.snd)]] = Ent.tup [SV.c (SC.v (Value.int IntKind.i64 (ciS vs ms cs fs (chkS (d.snd.fst.fst, d.snd.fst.snd.fst, d.snd.fst.snd.snd.fst, d.snd.fst.snd.snd.snd.fst, d.snd.fst.snd.snd.snd.snd.fst, d.snd.fst.snd.snd.snd.snd.snd.fst, d.snd.fst.snd.snd.snd.snd.snd.snd.fst, d.snd.fst.snd.snd.snd.snd.snd.snd.snd.fst, ()).fst (d.snd.fst.snd.fst, d.snd.fst.snd.snd.fst, d.snd.fst.snd.snd.snd.fst, d.snd.fst.snd.snd.snd.snd.fst, d.snd.fst.snd.snd.snd.snd.snd.fst, d.snd.fst.snd.snd.snd.snd.snd.snd.fst, d.snd.fst.snd.snd.snd.snd.snd.snd.snd.fst, ()).fst (d.snd.fst.snd.snd.fst, d.snd.fst.snd.snd.snd.fst, d.snd.fst.snd.snd.snd.snd.fst, d.snd.fst.snd.snd.snd.snd.snd.fst, d.snd.fst.snd.snd.snd.snd.snd.snd.fst, d.snd.fst.snd.snd.snd.snd.snd.snd.snd.fst, ()).fst (d.snd.fst.snd.snd.snd.fst, d.snd.fst.snd.snd.snd.snd.fst, d.snd.fst.snd.snd.snd.snd.snd.fst, d.snd.fst.snd.snd.snd.snd.snd.snd.fst, d.snd.fst.snd.snd.snd.snd.snd.snd.snd.fst, ()).fst (d.snd.fst.snd.snd.snd.snd.fst, d.snd.fst.snd.snd.snd.snd.snd.fst, d.snd.fst.snd.snd.snd.snd.snd.snd.fst, d.snd.fst.snd.snd.snd.snd.snd.snd.snd.fst, ()).fst (d.snd.fst.snd.snd.snd.snd.snd.fst, d.snd.fst.snd.snd.snd.snd.snd.snd.fst, d.snd.fst.snd.snd.snd.snd.snd.snd.snd.fst, ()).fst (d.snd.fst.snd.snd.snd.snd.snd.snd.fst, d.snd.fst.snd.snd.snd.snd.snd.snd.snd.fst, ()).fst (d.snd.fst.snd.snd.snd.snd.snd.snd.snd.fst, ()).fst) (d.snd.fst.fst, d.snd.fst.snd.fst, d.snd.fst.snd.snd.fst, d.snd.fst.snd.snd.snd.fst, d.snd.fst.snd.snd.snd.snd.fst, d.snd.fst.snd.snd.snd.snd.snd.fst, d.snd.fst.snd.snd.snd.snd.snd.snd.fst, d.snd.fst.snd.snd.snd.snd.snd.snd.snd.fst, ()).fst (d.snd.fst.snd.snd.snd.snd.fst, d.snd.fst.snd.snd.snd.snd.snd.fst, d.snd.fst.snd.snd.snd.snd.snd.snd.fst, d.snd.fst.snd.snd.snd.snd.snd.snd.snd.fst, ()).fst (d.snd.fst.snd.snd.snd.snd.snd.fst, d.snd.fst.snd.snd.snd.snd.snd.snd.fst, d.snd.fst.snd.snd.snd.snd.snd.snd.snd.fst, ()).fst (↑(List.length d_1.snd.fst) : Int)))), SV.agg [SC.v (Value.int IntKind.i64 d.fst.fst), SC.v (Value.int IntKind.i64 d.fst.snd.fst)]]) (∃ x', (x' = i + (1 : Nat) ∧ ∀ (j : Nat), j < x' → ∀ (d : ((Sh.int IntKind.i64).pair ((Sh.int IntKind.i64).pair Sh.unit)).den × dens [(Sh.int IntKind.i64).pair ((Sh.int IntKind.i64).pair ((Sh.int IntKind.i64).pair ((Sh.int IntKind.i64).pair ((Sh.int IntKind.i64).pair ((Sh.int IntKind.i64).pair ((Sh.int IntKind.i64).pair ((Sh.int IntKind.i64).pair Sh.unit)))))))]), (instL fs)[j]? = some d → d.fst.fst ≠ longS fs ∧ ceI vs ms cs fs d = (0 : Int)) ∧ [(([] : Go.Eng.Gd), Res.blk (43 : Nat) [SC.sl (Sh.str.pair ((Sh.int IntKind.i64).pair Sh.unit)) vs, SC.sl Sh.str ms, SC.sl Sh.str cs, SC.sl (Sh.str.pair (((Sh.int IntKind.i64).pair ((Sh.int IntKind.i64).pair ((Sh.int IntKind.i64).pair ((Sh.int IntKind.i64).pair ((Sh.int IntKind.i64).pair ((Sh.int IntKind.i64).pair ((Sh.int IntKind.i64).pair ((Sh.int IntKind.i64).pair Sh.unit)))))))).sl.pair Sh.unit)) fs, SC.sl ((Sh.int IntKind.i64).pair ((Sh.int IntKind.i64).pair Sh.unit)) ts]), (([] : Go.Eng.Gd), Res.blk (25 : Nat) [SC.v (Value.int IntKind.i64 (0 : Int))]), (([] : Go.Eng.Gd), Res.blk (97 : Nat) [SC.v (Value.int IntKind.i64 (0 : Int)), SC.v (Value.int IntKind.i64 (0 : Int))]), (([] : Go.Eng.Gd), Res.blk (3 : Nat) [SC.v (Value.int IntKind.i64 (longS fs))])] = [(([] : Go.Eng.Gd), Res.blk (43 : Nat) [SC.sl (Sh.str.pair ((Sh.int IntKind.i64).pair Sh.unit)) vs, SC.sl Sh.str ms, SC.sl Sh.str cs, SC.sl (Sh.str.pair (((Sh.int IntKind.i64).pair ((Sh.int IntKind.i64).pair ((Sh.int IntKind.i64).pair ((Sh.int IntKind.i64).pair ((Sh.int IntKind.i64).pair ((Sh.int IntKind.i64).pair ((Sh.int IntKind.i64).pair ((Sh.int IntKind.i64).pair Sh.unit)))))))).sl.pair Sh.unit)) fs, SC.sl ((Sh.int IntKind.i64).pair ((Sh.int IntKind.i64).pair Sh.unit)) ts]), (([] : Go.Eng.Gd), Res.blk (25 : Nat) [SC.v (Value.int IntKind.i64 (0 : Int))]), (([] : Go.Eng.Gd), Res.blk (97 : Nat) [SC.v (Value.int IntKind.i64 (0 : Int)), SC.v (Value.int IntKind.i64 (0 : Int))]), (([] : Go.Eng.Gd), Res.blk (3 : Nat) [SC.v (Value.int IntKind.i64 (longS fs))])]))) ∧ ∀ (x : Nat), (x = lenL (instL fs) ∧ ∀ (j : Nat), j < x → ∀ (d : ((Sh.int IntKind.i64).pair ((Sh.int IntKind.i64).pair Sh.unit)).den × dens [(Sh.int IntKind.i64).pair ((Sh.int IntKind.i64).pair ((Sh.int IntKind.i64).pair ((Sh.int IntKind.i64).pair ((Sh.int IntKind.i64).pair ((Sh.int IntKind.i64).pair ((Sh.int IntKind.i64).pair ((Sh.int IntKind.i64).pair Sh.unit)))))))]), (instL fs)[j]? = some d → d.fst.fst ≠ longS fs ∧ ceI vs ms cs fs d = (0 : Int)) → br (decide ((0 : Int) ≤ longS fs)) (((([] : List Go.Eng.Res) = [] ∧ Ent.tup [SV.c (SC.v (Value.int IntKind.i64 (ccS vs ms cs fs).fst)), SV.agg [SC.v (Value.int IntKind.i64 (ccS vs ms cs fs).snd.fst), SC.v (Value.int IntKind.i64 (ccS vs ms cs fs).snd.snd)]] = Ent.tup [SV.c (SC.v (Value.int IntKind.i64 (4 : Int))), SV.agg [SC.v (Value.int IntKind.i64 (longS fs)), SC.v (Value.int IntKind.i64 (-1 : Int))]]) ∧ ([] : List Go.Eng.Res) = [] ∧ Ent.tup [SV.c (SC.v (Value.int IntKind.i64 (ccS vs ms cs fs).fst)), SV.agg [SC.v (Value.int IntKind.i64 (ccS vs ms cs fs).snd.fst), SC.v (Value.int IntKind.i64 (ccS vs ms cs fs).snd.snd)]] = Ent.tup [SV.c (SC.v (Value.int IntKind.i64 (4 : Int))), SV.agg [SC.v (Value.int IntKind.i64 (longS fs)), SC.v (Value.int IntKind.i64 (-1 : Int))]]) ∧ ([] : List Go.Eng.Res) = [] ∧ Ent.tup [SV.c (SC.v (Value.int IntKind.i64 (ccS vs ms cs fs).fst)), SV.agg [SC.v (Value.int IntKind.i64 (ccS vs ms cs fs).snd.fst), SC.v (Value.int IntKind.i64 (ccS vs ms cs fs).snd.snd)]] = Ent.tup [SV.c (SC.v (Value.int IntKind.i64 (4 : Int))), SV.agg [SC.v (Value.int IntKind.i64 (longS fs)), SC.v (Value.int IntKind.i64 (-1 : Int))]]) (([] : List Go.Eng.Res) = [] ∧ Ent.tup [SV.c (SC.v (Value.int IntKind.i64 (ccS vs ms cs fs).fst)), SV.agg [SC.v (Value.int IntKind.i64 (ccS vs ms cs fs).snd.fst), SC.v (Value.int IntKind.i64 (ccS vs ms cs fs).snd.snd)]] = Ent.tup [SV.c (SC.v (Value.int IntKind.i64 (0 : Int))), SV.agg [SC.v (Value.int IntKind.i64 (-1 : Int)), SC.v (Value.int IntKind.i64 (-1 : Int))]]) := by
  refine ⟨hpre.1, hpre, rfl, ⟨0, ⟨rfl, fun j hj => by omega⟩, rfl⟩, fun i x d hi hd => ?_, fun x hx => ?_⟩
  · obtain ⟨rfl, hi⟩ := hi
    refine br_iff.2 ⟨fun h => ?_, fun h => ?_⟩
    · have h : d.1.1 = longS fs := by simpa using h
      obtain ⟨hb1, hb2⟩ := inst_bnd hd
      have hl : (0 : Int) ≤ longS fs := by rw [← h]; exact hb1
      rw [cc_find hd (.inl h) hi, if_pos h]
      exact br_iff.2 ⟨fun _ => ⟨⟨⟨rfl, rfl⟩, rfl, rfl⟩, rfl, rfl⟩, fun hh => absurd hl (of_decide_eq_false hh)⟩
    · have h : ¬ d.1.1 = longS fs := by simpa using h
      obtain ⟨hb1, hb2⟩ := inst_bnd hd
      refine ⟨⟨hb1, hb2⟩, fun e he => ⟨trivial, br_iff.2 ⟨fun h2 => ?_, fun h2 => ⟨x + 1, ⟨rfl, fun j hj d' hd' => ?_⟩, rfl⟩⟩⟩⟩
      · have h2 : ceI vs ms cs fs d ≠ 0 := by rw [ce_of he]; simpa using h2
        rw [cc_find hd (.inr h2) hi, if_neg h, ce_of he]
        exact ⟨⟨rfl, rfl⟩, rfl, rfl⟩
      · by_cases hji : j = x
        · subst hji
          rw [hd] at hd'; cases hd'
          exact ⟨h, by rw [ce_of he]; simpa using h2⟩
        · exact hi j (by omega) d' hd'
  · obtain ⟨rfl, hx⟩ := hx
    refine br_iff.2 ⟨fun h => ?_, fun h => ?_⟩
    · have h : (0 : Int) ≤ longS fs := by simpa using h
      rw [cc_end fun j d hd => hx j (by rw [lenL_eq]; exact (List.getElem?_eq_some_iff.1 hd).1) d hd, if_pos h]
      exact ⟨⟨⟨rfl, rfl⟩, rfl, rfl⟩, rfl, rfl⟩
    · have h : ¬ (0 : Int) ≤ longS fs := by simpa using h
      rw [cc_end fun j d hd => hx j (by rw [lenL_eq]; exact (List.getElem?_eq_some_iff.1 hd).1) d hd, if_neg h]
      exact ⟨rfl, rfl⟩
set_option maxHeartbeats 2000000 in
set_option maxRecDepth 100000 in
theorem f52_met : Go.Eng.Met Tryd.prog cx0.gd 52 ctCC :=
  (met_all (cx := cx0) (n := 39) (cl := cl52) (il := il52) (hl := hl52) (ml := ml52) (rc := []) (lits := []) (suf := []) (by kernel_rfl) tis_ok ⟨f67_met, f68_met, trivial⟩ trivial ⟨f65_metx, trivial⟩ trivial Tryd.func52 (by kernel_rfl) (by kernel_rfl) rfl (by kernel_rfl) (by kernel_rfl) (by simp) fun d hd => by
    obtain ⟨⟨vs, ms, cs, fs, ts, ⟨⟩⟩, ⟨⟩⟩ := d
    exact ⟨ann52 vs ms cs fs ts, cast (by kernel_rfl) (f52_vc vs ms cs fs ts hd)⟩).met
end Go.Proofs.YtklnffdjhoacoaaDoor
