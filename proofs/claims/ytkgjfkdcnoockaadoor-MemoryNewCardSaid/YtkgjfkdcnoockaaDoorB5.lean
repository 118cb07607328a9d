/- Texts of this claim, part 5: V6, V7, V8, V9, K2, V10, R1, K3, R2, M0, M1, M2. Conditions: those of the given rows. -/
import Derived.Test.YtkgjfkdcnoockaaDoorB4
set_option linter.unusedSimpArgs false
set_option linter.unusedVariables false
set_option maxRecDepth 100000
namespace Go.Proofs.YtkgjfkdcnoockaaDoor
open Go Go.Eng

@[reducible] def bnd (d : dens [shP]) : Prop := d.1.1.length ≤ 1000000 ∧ d.1.2.1.length ≤ 1000000 ∧ d.1.2.2.1.length ≤ 1000000 ∧ d.1.2.2.2.1.length ≤ 1000000 ∧ d.1.2.2.2.2.1.length ≤ 1000000 ∧ (∀ x ∈ d.1.2.2.2.1, x.2.1.length ≤ 1000000) ∧ (instL d.1.2.2.2.1).length ≤ 1000000
def chkP (vs : List VD) (ms cs : List ByteArray) (fs : List FD) (ts : List SD) : Int × Int × Int :=
  if (cnS vs ms cs fs).1 ≠ 0 then cnS vs ms cs fs else if coS vs ms cs fs ≠ 0 then (coS vs ms cs fs, -1, -1) else if (ccS vs ms cs fs).1 ≠ 0 then ccS vs ms cs fs else if thS fs ts ≠ 0 then (thS fs ts, -1, -1) else (0, -1, -1)
@[reducible] def ctChk : CT := { ps := [shP], pre := fun d => bnd d, res := fun d => ([], .tup [.c (.v (.int .i64 (chkP d.1.1 d.1.2.1 d.1.2.2.1 d.1.2.2.2.1 d.1.2.2.2.2.1).1)), .c (.v (.int .i64 (chkP d.1.1 d.1.2.1 d.1.2.2.1 d.1.2.2.2.1 d.1.2.2.2.2.1).2.1)), .c (.v (.int .i64 (chkP d.1.1 d.1.2.1 d.1.2.2.1 d.1.2.2.2.1 d.1.2.2.2.2.1).2.2))]) }
@[reducible] noncomputable def cl44 : List (Nat × CT) := [(67, ctCN), (68, ctCO), (69, ctCC), (70, ctCT)]
@[reducible] def ann44 (vs : List VD) (ms : List ByteArray) (cs : List ByteArray) (fs : List FD) (ts : List SD) : Nat → Option (St → Ann) := fun _ => none
set_option maxRecDepth 100000 in
theorem f44_vc (vs : List VD) (ms : List ByteArray) (cs : List ByteArray) (fs : List FD) (ts : List SD) (hpre : ctChk.pre ((vs, ms, cs, fs, ts, ()), ())) :
    (vs.length ≤ (1000000 : Nat) ∧ ms.length ≤ (1000000 : Nat) ∧ cs.length ≤ (1000000 : Nat) ∧ fs.length ≤ (1000000 : Nat)) ∧ br (decide ((cnS vs ms cs fs).fst = (0 : Int))) (True ∧ br (decide (coS vs ms cs fs = (0 : Int))) ((fs.length ≤ (1000000 : Nat) ∧ ∀ (x : Sh.str.den × (shI.sl.pair Sh.unit).den), x ∈ fs → List.length x.snd.fst ≤ (1000000 : Nat)) ∧ br (decide ((ccS vs ms cs fs).fst = (0 : Int))) (True ∧ br (!decide (thS fs ts = (0 : Int))) (([] : List Go.Eng.Res) = [] ∧ Ent.tup [SV.c (SC.v (Value.int IntKind.i64 (chkP vs ms cs fs ts).fst)), SV.c (SC.v (Value.int IntKind.i64 (chkP vs ms cs fs ts).snd.fst)), SV.c (SC.v (Value.int IntKind.i64 (chkP vs ms cs fs ts).snd.snd))] = Ent.tup [SV.c (SC.v (Value.int IntKind.i64 (thS fs ts))), SV.c (SC.v (Value.int IntKind.i64 (-1 : Int))), SV.c (SC.v (Value.int IntKind.i64 (-1 : Int)))]) (([] : List Go.Eng.Res) = [] ∧ Ent.tup [SV.c (SC.v (Value.int IntKind.i64 (chkP vs ms cs fs ts).fst)), SV.c (SC.v (Value.int IntKind.i64 (chkP vs ms cs fs ts).snd.fst)), SV.c (SC.v (Value.int IntKind.i64 (chkP vs ms cs fs ts).snd.snd))] = Ent.tup [SV.c (SC.v (Value.int IntKind.i64 (0 : Int))), SV.c (SC.v (Value.int IntKind.i64 (-1 : Int))), SV.c (SC.v (Value.int IntKind.i64 (-1 : Int)))])) (br (!decide ((ccS vs ms cs fs).fst = (0 : Int))) (([] : List Go.Eng.Res) = [] ∧ Ent.tup [SV.c (SC.v (Value.int IntKind.i64 (chkP vs ms cs fs ts).fst)), SV.c (SC.v (Value.int IntKind.i64 (chkP vs ms cs fs ts).snd.fst)), SV.c (SC.v (Value.int IntKind.i64 (chkP vs ms cs fs ts).snd.snd))] = Ent.tup [SV.c (SC.v (Value.int IntKind.i64 (ccS vs ms cs fs).fst)), SV.c (SC.v (Value.int IntKind.i64 (ccS vs ms cs fs).snd.fst)), SV.c (SC.v (Value.int IntKind.i64 (ccS vs ms cs fs).snd.snd))]) (([] : List Go.Eng.Res) = [] ∧ Ent.tup [SV.c (SC.v (Value.int IntKind.i64 (chkP vs ms cs fs ts).fst)), SV.c (SC.v (Value.int IntKind.i64 (chkP vs ms cs fs ts).snd.fst)), SV.c (SC.v (Value.int IntKind.i64 (chkP vs ms cs fs ts).snd.snd))] = Ent.tup [SV.c (SC.v (Value.int IntKind.i64 (0 : Int))), SV.c (SC.v (Value.int IntKind.i64 (-1 : Int))), SV.c (SC.v (Value.int IntKind.i64 (-1 : Int)))]))) (br (decide (coS vs ms cs fs = (0 : Int))) (True ∧ br (!decide (thS fs ts = (0 : Int))) (([] : List Go.Eng.Res) = [] ∧ Ent.tup [SV.c (SC.v (Value.int IntKind.i64 (chkP vs ms cs fs ts).fst)), SV.c (SC.v (Value.int IntKind.i64 (chkP vs ms cs fs ts).snd.fst)), SV.c (SC.v (Value.int IntKind.i64 (chkP vs ms cs fs ts).snd.snd))] = Ent.tup [SV.c (SC.v (Value.int IntKind.i64 (thS fs ts))), SV.c (SC.v (Value.int IntKind.i64 (-1 : Int))), SV.c (SC.v (Value.int IntKind.i64 (-1 : Int)))]) (([] : List Go.Eng.Res) = [] ∧ Ent.tup [SV.c (SC.v (Value.int IntKind.i64 (chkP vs ms cs fs ts).fst)), SV.c (SC.v (Value.int IntKind.i64 (chkP vs ms cs fs ts).snd.fst)), SV.c (SC.v (Value.int IntKind.i64 (chkP vs ms cs fs ts).snd.snd))] = Ent.tup [SV.c (SC.v (Value.int IntKind.i64 (0 : Int))), SV.c (SC.v (Value.int IntKind.i64 (-1 : Int))), SV.c (SC.v (Value.int IntKind.i64 (-1 : Int)))])) (br (!decide (coS vs ms cs fs = (0 : Int))) (([] : List Go.Eng.Res) = [] ∧ Ent.tup [SV.c (SC.v (Value.int IntKind.i64 (chkP vs ms cs fs ts).fst)), SV.c (SC.v (Value.int IntKind.i64 (chkP vs ms cs fs ts).snd.fst)), SV.c (SC.v (Value.int IntKind.i64 (chkP vs ms cs fs ts).snd.snd))] = Ent.tup [SV.c (SC.v (Value.int IntKind.i64 (coS vs ms cs fs))), SV.c (SC.v (Value.int IntKind.i64 (-1 : Int))), SV.c (SC.v (Value.int IntKind.i64 (-1 : Int)))]) (([] : List Go.Eng.Res) = [] ∧ Ent.tup [SV.c (SC.v (Value.int IntKind.i64 (chkP vs ms cs fs ts).fst)), SV.c (SC.v (Value.int IntKind.i64 (chkP vs ms cs fs ts).snd.fst)), SV.c (SC.v (Value.int IntKind.i64 (chkP vs ms cs fs ts).snd.snd))] = Ent.tup [SV.c (SC.v (Value.int IntKind.i64 (0 : Int))), SV.c (SC.v (Value.int IntKind.i64 (-1 : Int))), SV.c (SC.v (Value.int IntKind.i64 (-1 : Int)))])))) (br (decide ((cnS vs ms cs fs).fst = (0 : Int))) ((fs.length ≤ (1000000 : Nat) ∧ ∀ (x : Sh.str.den × (shI.sl.pair Sh.unit).den), x ∈ fs → List.length x.snd.fst ≤ (1000000 : Nat)) ∧ br (decide ((ccS vs ms cs fs).fst = (0 : Int))) (True ∧ br (!decide (thS fs ts = (0 : Int))) (([] : List Go.Eng.Res) = [] ∧ Ent.tup [SV.c (SC.v (Value.int IntKind.i64 (chkP vs ms cs fs ts).fst)), SV.c (SC.v (Value.int IntKind.i64 (chkP vs ms cs fs ts).snd.fst)), SV.c (SC.v (Value.int IntKind.i64 (chkP vs ms cs fs ts).snd.snd))] = Ent.tup [SV.c (SC.v (Value.int IntKind.i64 (thS fs ts))), SV.c (SC.v (Value.int IntKind.i64 (-1 : Int))), SV.c (SC.v (Value.int IntKind.i64 (-1 : Int)))]) (([] : List Go.Eng.Res) = [] ∧ Ent.tup [SV.c (SC.v (Value.int IntKind.i64 (chkP vs ms cs fs ts).fst)), SV.c (SC.v (Value.int IntKind.i64 (chkP vs ms cs fs ts).snd.fst)), SV.c (SC.v (Value.int IntKind.i64 (chkP vs ms cs fs ts).snd.snd))] = Ent.tup [SV.c (SC.v (Value.int IntKind.i64 (0 : Int))), SV.c (SC.v (Value.int IntKind.i64 (-1 : Int))), SV.c (SC.v (Value.int IntKind.i64 (-1 : Int)))])) (br (!decide ((ccS vs ms cs fs).fst = (0 : Int))) (([] : List Go.Eng.Res) = [] ∧ Ent.tup [SV.c (SC.v (Value.int IntKind.i64 (chkP vs ms cs fs ts).fst)), SV.c (SC.v (Value.int IntKind.i64 (chkP vs ms cs fs ts).snd.fst)), SV.c (SC.v (Value.int IntKind.i64 (chkP vs ms cs fs ts).snd.snd))] = Ent.tup [SV.c (SC.v (Value.int IntKind.i64 (ccS vs ms cs fs).fst)), SV.c (SC.v (Value.int IntKind.i64 (ccS vs ms cs fs).snd.fst)), SV.c (SC.v (Value.int IntKind.i64 (ccS vs ms cs fs).snd.snd))]) (([] : List Go.Eng.Res) = [] ∧ Ent.tup [SV.c (SC.v (Value.int IntKind.i64 (chkP vs ms cs fs ts).fst)), SV.c (SC.v (Value.int IntKind.i64 (chkP vs ms cs fs ts).snd.fst)), SV.c (SC.v (Value.int IntKind.i64 (chkP vs ms cs fs ts).snd.snd))] = Ent.tup [SV.c (SC.v (Value.int IntKind.i64 (0 : Int))), SV.c (SC.v (Value.int IntKind.i64 (-1 : Int))), SV.c (SC.v (Value.int IntKind.i64 (-1 : Int)))]))) (br (decide ((cnS vs ms cs fs).fst = (0 : Int))) (True ∧ br (!decide (thS fs ts = (0 : Int))) (([] : List Go.Eng.Res) = [] ∧ Ent.tup [SV.c (SC.v (Value.int IntKind.i64 (chkP vs ms cs fs ts).fst)), SV.c (SC.v (Value.int IntKind.i64 (chkP vs ms cs fs ts).snd.fst)), SV.c (SC.v (Value.int IntKind.i64 (chkP vs ms cs fs ts).snd.snd))] = Ent.tup [SV.c (SC.v (Value.int IntKind.i64 (thS fs ts))), SV.c (SC.v (Value.int IntKind.i64 (-1 : Int))), SV.c (SC.v (Value.int IntKind.i64 (-1 : Int)))]) (([] : List Go.Eng.Res) = [] ∧ Ent.tup [SV.c (SC.v (Value.int IntKind.i64 (chkP vs ms cs fs ts).fst)), SV.c (SC.v (Value.int IntKind.i64 (chkP vs ms cs fs ts).snd.fst)), SV.c (SC.v (Value.int IntKind.i64 (chkP vs ms cs fs ts).snd.snd))] = Ent.tup [SV.c (SC.v (Value.int IntKind.i64 (0 : Int))), SV.c (SC.v (Value.int IntKind.i64 (-1 : Int))), SV.c (SC.v (Value.int IntKind.i64 (-1 : Int)))])) (br (!decide ((cnS vs ms cs fs).fst = (0 : Int))) (([] : List Go.Eng.Res) = [] ∧ Ent.tup [SV.c (SC.v (Value.int IntKind.i64 (chkP vs ms cs fs ts).fst)), SV.c (SC.v (Value.int IntKind.i64 (chkP vs ms cs fs ts).snd.fst)), SV.c (SC.v (Value.int IntKind.i64 (chkP vs ms cs fs ts).snd.snd))] = Ent.tup [SV.c (SC.v (Value.int IntKind.i64 (cnS vs ms cs fs).fst)), SV.c (SC.v (Value.int IntKind.i64 (cnS vs ms cs fs).snd.fst)), SV.c (SC.v (Value.int IntKind.i64 (cnS vs ms cs fs).snd.snd))]) (([] : List Go.Eng.Res) = [] ∧ Ent.tup [SV.c (SC.v (Value.int IntKind.i64 (chkP vs ms cs fs ts).fst)), SV.c (SC.v (Value.int IntKind.i64 (chkP vs ms cs fs ts).snd.fst)), SV.c (SC.v (Value.int IntKind.i64 (chkP vs ms cs fs ts).snd.snd))] = Ent.tup [SV.c (SC.v (Value.int IntKind.i64 (0 : Int))), SV.c (SC.v (Value.int IntKind.i64 (-1 : Int))), SV.c (SC.v (Value.int IntKind.i64 (-1 : Int)))])))) := by
  obtain ⟨h1, h2, h3, h4, h5, h6, h7⟩ : bnd ((vs, ms, cs, fs, ts, ()), ()) := hpre
  have hA : ∀ x ∈ fs, x.2.1.length ≤ 1000000 := h6
  have hB : fs.length ≤ 1000000 ∧ ∀ x ∈ fs, x.2.1.length ≤ 1000000 := ⟨h4, h6⟩
  have hC : vs.length ≤ 1000000 ∧ ms.length ≤ 1000000 ∧ cs.length ≤ 1000000 ∧ fs.length ≤ 1000000 := ⟨h1, h2, h3, h4⟩
  clear h1 h2 h3 h4 h5 h6 h7 hA
  unfold chkP
  simp only [br_iff]
  repeat' (first | exact hB | exact hC | (refine And.intro ?_ ?_) | (intro _))
  all_goals first | trivial | rfl | (clear hB hC; simp_all; done)
set_option maxHeartbeats 2000000 in
set_option maxRecDepth 100000 in
theorem f44_met : Go.Eng.Met Tryd.prog cx0.gd 44 ctChk :=
  met_of (cx := cx0) (n := 40) (cl := cl44) (by kernel_rfl) tis_ok ⟨f67_met, f68_met, f69_met, f70_met, trivial⟩ Tryd.func44 (by kernel_rfl) (by kernel_rfl) rfl (by kernel_rfl) (by kernel_rfl) fun d hd => by
    obtain ⟨⟨vs, ms, cs, fs, ts, ⟨⟩⟩, ⟨⟩⟩ := d
    exact ⟨ann44 vs ms cs fs ts, cast (by kernel_rfl) (f44_vc vs ms cs fs ts hd)⟩
@[reducible] def ctVld : CT := { ps := [shP], pre := fun d => bnd d, res := fun d => ([], vB (decide ((chkP d.1.1 d.1.2.1 d.1.2.2.1 d.1.2.2.2.1 d.1.2.2.2.2.1).1 = 0))) }
theorem ss_sub : ∀ {m x : List Int}, SS m → SS x → (∀ y ∈ x, y ∈ m) → x.Sublist m
  | [], [], _, _, _ => .slnil
  | [], y :: x, _, _, h => by have := h y (by simp); simp at this
  | b :: m, [], _, _, _ => List.nil_sublist _
  | b :: m, a :: x, hm, hx, h => by
    obtain ⟨m1, m2⟩ := List.pairwise_cons.1 hm
    obtain ⟨x1, x2⟩ := List.pairwise_cons.1 hx
    rcases List.mem_cons.1 (h a (by simp)) with rfl | ha
    · refine List.cons_sublist_cons.2 (ss_sub m2 x2 fun y hy => ?_)
      rcases List.mem_cons.1 (h y (by simp [hy])) with rfl | h2
      · have := x1 _ hy; omega
      · exact h2
    · refine List.Sublist.cons _ (ss_sub m2 hx fun y hy => ?_)
      rcases List.mem_cons.1 (h y hy) with rfl | h2
      · have := m1 a ha
        rcases List.mem_cons.1 hy with rfl | hy
        · omega
        · have := x1 _ hy; omega
      · exact h2
theorem ss_len {hi : Int} : ∀ (l : List Int) (lo : Int), SS l → (∀ x ∈ l, lo ≤ x ∧ x < hi) → lo ≤ hi → (l.length : Int) ≤ hi - lo
  | [], lo, _, _, h => by simp; omega
  | x :: l, lo, hs, hb, h => by
    obtain ⟨h1, h2⟩ := List.pairwise_cons.1 hs
    obtain ⟨b1, b2⟩ := hb x (by simp)
    have := ss_len l (x + 1) h2 (fun y hy => ⟨by have := h1 y hy; omega, (hb y (by simp [hy])).2⟩) (by omega)
    simp only [List.length_cons]; omega
theorem ss_short {l : List Int} {n : Nat} (hs : SS l) (hb : ∀ x ∈ l, 0 ≤ x ∧ x < (n : Int)) : l.length ≤ n := by
  have := ss_len l 0 hs hb (by omega)
  omega
theorem add_inv {l : List Int} {x : Int} {n : Nat} (hs : SS l) (hb : ∀ y ∈ l, 0 ≤ y ∧ y < (n : Int)) (hx : 0 ≤ x ∧ x < (n : Int)) : SS (makeI (l ++ [x])) ∧ (∀ y ∈ makeI (l ++ [x]), 0 ≤ y ∧ y < (n : Int)) ∧ l.length ≤ (makeI (l ++ [x])).length := by
  refine ⟨make_ss _, fun y hy => ?_, (ss_sub (make_ss _) hs fun y hy => make_mem.2 (by simp [hy])).length_le⟩
  have := make_mem.1 hy
  simp at this
  rcases this with h | h
  · exact hb y h
  · subst h; exact hx
/-- A result's row, frozen. -/
theorem met_frz {P : Program} {gd : Nat → Option (Sigma Sh.den)} {f : Nat} {ps : List Sh} {pre : dens ps → Prop} {t : TypeId} {s : Sh} {L : dens ps → List s.den} (m : Go.Eng.Met P gd f { ps := ps, pre := pre, res := fun d => ([.row t s (L d)], .one (.c (.row 0))) }) :
    Go.Eng.Met P gd f { ps := ps, pre := pre, res := fun d => ([], .one (.c (.sl s (L d)))) } := by
  refine ⟨fun d vs h B hw hg ha hp => (m.1 d vs h B hw hg ha hp).mono ?_, m.2⟩
  rintro en w' ⟨h', β, y, rfl, ok, c⟩
  obtain ⟨h2, le, ok2, sl⟩ := ok.freeze (i := 0) rfl (ok.row_of rfl c.1)
  exact ⟨h2, [], y, rfl, by simpa using ok2.take (n := 0) (Nat.zero_le _) (fun r hr => by simp at hr), ⟨sl, c.2⟩⟩
@[reducible] def ctAddF : CT := { ps := [.sl (.int .i64), .int .i64], pre := fun d => d.1.length ≤ 999999, res := fun d => ([], .one (.c (.sl (.int .i64) (makeI (d.1 ++ [d.2.1]))))) }
theorem fAddF_met : Go.Eng.Met Tryd.prog cx0.gd 78 ctAddF := met_frz f78_met
def initR (ts : List SD) : List Int := ts.foldl (fun o t => makeI (o ++ [t.1])) []
def stepR (found : List Int) (ds : List (dens [shS, shI])) : List Int := ds.foldl (fun nx d => if d.2.1.1 = 21 ∧ hasI found d.1.1 = true then makeI (nx ++ [d.2.1.2.2.2.2.1]) else nx) found
def reachF : Nat → List FD → List Int → List Int
  | 0, _, l => l
  | n + 1, fs, l => if (stepR l (instL fs)).length = l.length then l else reachF n fs (stepR l (instL fs))
def reachS (vs : List VD) (ms cs : List ByteArray) (fs : List FD) (ts : List SD) : List Int × Int := if (chkP vs ms cs fs ts).1 ≠ 0 then ([], (chkP vs ms cs fs ts).1) else (reachF (fs.length + 1) fs (initR ts), 0)
theorem init_step {ts : List SD} {k : Nat} {d : SD} (h : ts[k]? = some d) : initR (ts.take (k + 1)) = makeI (initR (ts.take k) ++ [d.1]) := by
  unfold initR
  rw [List.take_add_one, h, Option.toList_some, List.foldl_append]; rfl
theorem init_inv {n : Nat} : ∀ (ts : List SD) (o : List Int), SS o → (∀ y ∈ o, 0 ≤ y ∧ y < (n : Int)) → (∀ t ∈ ts, 0 ≤ t.1 ∧ t.1 < (n : Int)) → SS (ts.foldl (fun o t => makeI (o ++ [t.1])) o) ∧ ∀ y ∈ ts.foldl (fun o t => makeI (o ++ [t.1])) o, 0 ≤ y ∧ y < (n : Int)
  | [], o, hs, hb, _ => ⟨hs, hb⟩
  | t :: ts, o, hs, hb, ht => by
    obtain ⟨a1, a2, _⟩ := add_inv hs hb (ht t (by simp))
    exact init_inv ts _ a1 a2 fun u hu => ht u (by simp [hu])
theorem step_step {l : List Int} {L : List (dens [shS, shI])} {k : Nat} {d : dens [shS, shI]} (h : L[k]? = some d) : stepR l (L.take (k + 1)) = if d.2.1.1 = 21 ∧ hasI l d.1.1 = true then makeI (stepR l (L.take k) ++ [d.2.1.2.2.2.2.1]) else stepR l (L.take k) := by
  unfold stepR
  rw [List.take_add_one, h, Option.toList_some, List.foldl_append]; rfl
theorem step_inv {l : List Int} {n : Nat} : ∀ (ds : List (dens [shS, shI])) (o : List Int), SS o → (∀ y ∈ o, 0 ≤ y ∧ y < (n : Int)) → (∀ d ∈ ds, d.2.1.1 = 21 → 0 ≤ d.2.1.2.2.2.2.1 ∧ d.2.1.2.2.2.2.1 < (n : Int)) →
    SS (ds.foldl (fun nx d => if d.2.1.1 = 21 ∧ hasI l d.1.1 = true then makeI (nx ++ [d.2.1.2.2.2.2.1]) else nx) o) ∧ (∀ y ∈ ds.foldl (fun nx d => if d.2.1.1 = 21 ∧ hasI l d.1.1 = true then makeI (nx ++ [d.2.1.2.2.2.2.1]) else nx) o, 0 ≤ y ∧ y < (n : Int)) ∧
      o.length ≤ (ds.foldl (fun nx d => if d.2.1.1 = 21 ∧ hasI l d.1.1 = true then makeI (nx ++ [d.2.1.2.2.2.2.1]) else nx) o).length
  | [], o, hs, hb, _ => ⟨hs, hb, Nat.le_refl _⟩
  | d :: ds, o, hs, hb, hd => by
    simp only [List.foldl_cons]
    by_cases hc : d.2.1.1 = 21 ∧ hasI l d.1.1 = true
    · rw [if_pos hc]
      obtain ⟨a1, a2, a3⟩ := add_inv hs hb (hd d (by simp) hc.1)
      obtain ⟨b1, b2, b3⟩ := step_inv (l := l) ds _ a1 a2 fun e he => hd e (by simp [he])
      exact ⟨b1, b2, Nat.le_trans a3 b3⟩
    · rw [if_neg hc]
      exact step_inv (l := l) ds o hs hb fun e he => hd e (by simp [he])
theorem chk_zero {vs : List VD} {ms cs : List ByteArray} {fs : List FD} {ts : List SD} (h : (chkP vs ms cs fs ts).1 = 0) : coS vs ms cs fs = 0 ∧ (ccS vs ms cs fs).1 = 0 ∧ thS fs ts = 0 := by
  unfold chkP at h
  split at h
  · rename_i h1; exact absurd h h1
  · split at h
    · rename_i h1; exact absurd h h1
    · split at h
      · rename_i h1; exact absurd h h1
      · split at h
        · rename_i h1; exact absurd h h1
        · rename_i h1 h2 h3 h4
          exact ⟨by omega, by omega, by omega⟩
theorem cc_all {vs : List VD} {ms cs : List ByteArray} {fs : List FD} (h : (ccS vs ms cs fs).1 = 0) : ∀ d ∈ instL fs, ceI vs ms cs fs d = 0 := by
  unfold ccS at h
  split at h
  · rename_i d hd
    have hp := List.find?_some hd
    split at h
    · cases h
    · rename_i h1
      simp only [Bool.or_eq_true, decide_eq_true_eq] at hp
      rcases hp with hp | hp
      · exact absurd hp h1
      · exact absurd h hp
  · rename_i hd
    intro d hm
    have := List.find?_eq_none.1 hd d hm
    simp only [Bool.or_eq_true, decide_eq_true_eq, not_or] at this
    omega
theorem co_len {vs : List VD} {ms cs : List ByteArray} {fs : List FD} (h : coS vs ms cs fs = 0) : fs.length ≤ 8 := by
  unfold coS at h
  split at h
  · cases h
  · omega
theorem ci_obj {vs : List VD} {ms cs : List ByteArray} {fs : List FD} {e op obj n m : Int} (h : ciS vs ms cs fs e op obj n m = 0) (h2 : op = 21) : 0 ≤ obj ∧ obj < (fs.length : Int) := by
  subst h2
  unfold ciS at h
  have e' : objS vs ms cs fs 21 = fs.length := by simp [objS]
  rw [e'] at h
  split at h
  · rename_i h3; exact absurd h h3
  · split at h
    · cases h
    · rename_i h3 h4
      omega
theorem ce_obj {vs : List VD} {ms cs : List ByteArray} {fs : List FD} {d : dens [shS, shI]} (h : ceI vs ms cs fs d = 0) (h2 : d.2.1.1 = 21) : 0 ≤ d.2.1.2.2.2.2.1 ∧ d.2.1.2.2.2.2.1 < (fs.length : Int) := ci_obj h h2
theorem th_all {fs : List FD} {ts : List SD} (h : thS fs ts = 0) : ∀ t ∈ ts, 0 ≤ t.1 ∧ t.1 < (fs.length : Int) := by
  unfold thS at h
  split at h
  · cases h
  · split at h
    · rename_i t ht
      have hp := List.find?_some ht
      simp only [decide_eq_true_eq] at hp
      exact absurd h hp
    · rename_i ht
      intro t hm
      have := List.find?_eq_none.1 ht t hm
      simp only [decide_eq_true_eq, Decidable.not_not] at this
      unfold thE at this
      split at this
      · cases this
      · omega
@[reducible] def ctRch : CT := { ps := [shP], pre := fun d => bnd d, res := fun d => ([], .tup [.c (.sl (.int .i64) (reachS d.1.1 d.1.2.1 d.1.2.2.1 d.1.2.2.2.1 d.1.2.2.2.2.1).1), .c (.v (.int .i64 (reachS d.1.1 d.1.2.1 d.1.2.2.1 d.1.2.2.2.1 d.1.2.2.2.2.1).2))]) }
end Go.Proofs.YtkgjfkdcnoockaaDoor
namespace Go.Proofs.YtkgjfkdcnoockaaDoor
open Go Go.Eng
theorem ex_of {α : Type 1} {Q : α → Prop} {V : Prop} (a : α) (v : V) (h : V = Q a) : ∃ a, Q a := ⟨a, cast h v⟩
end Go.Proofs.YtkgjfkdcnoockaaDoor
set_option linter.unusedSimpArgs false
set_option linter.unusedVariables false
set_option maxRecDepth 100000
namespace Go.Proofs.YtkgjfkdcnoockaaDoor
open Go Go.Eng

def smS (vs : List VD) (ms cs : List ByteArray) (fs : List FD) (ts : List SD) : Bool := decide (vs.length ≤ 20 ∧ ms.length ≤ 20 ∧ cs.length ≤ 20 ∧ fs.length ≤ 20 ∧ ts.length ≤ 20) && fs.all fun f => decide (f.2.1.length ≤ 100)
@[reducible] def ctSm : CT := { ps := [shP], pre := fun d => True, res := fun d => ([], vB (smS d.1.1 d.1.2.1 d.1.2.2.1 d.1.2.2.2.1 d.1.2.2.2.2.1)) }
@[reducible] def cl10 : List (Nat × CT) := []
@[reducible] def ann10 (vs : List VD) (ms : List ByteArray) (cs : List ByteArray) (fs : List FD) (ts : List SD) : Nat → Option (St → Ann) := fun k => match k with
  | 4 => some fun _ => .inv { α := Nat, slots := fun k => [(3, .c (.v (.int .i64 k)))], res := fun k => [], inv := fun k => k ≤ (fs).length ∧ ∀ j < k, ∀ f, fs[j]? = some f → f.2.1.length ≤ 100, meas := fun k => (fs).length - k }
  | _ => none
set_option maxRecDepth 100000 in
theorem f10_vc (vs : List VD) (ms : List ByteArray) (cs : List ByteArray) (fs : List FD) (ts : List SD) :
    br (decide ((20 : Int) < (↑vs.length : Int)) || decide ((20 : Int) < (↑ms.length : Int)) || decide ((20 : Int) < (↑cs.length : Int)) || decide ((20 : Int) < (↑fs.length : Int)) || decide ((20 : Int) < (↑ts.length : Int))) (([] : List Go.Eng.Res) = [] ∧ Ent.one (SV.c (SC.v (Value.bool (smS vs ms cs fs ts)))) = Ent.one (SV.c (SC.v (Value.bool false)))) ((∃ x, (x ≤ fs.length ∧ ∀ (j : Nat), j < x → ∀ (f : ByteArray × List ID × Unit), fs[j]? = some f → f.snd.fst.length ≤ (100 : Nat)) ∧ (SV.c (SC.v (Value.int IntKind.i64 (0 : Int))) = SV.c (SC.v (Value.int IntKind.i64 (↑x : Int))) ∧ True) ∧ [(([] : Go.Eng.Gd), Res.blk (27 : Nat) [SC.sl (Sh.str.pair (I6.pair Sh.unit)) vs, SC.sl Sh.str ms, SC.sl Sh.str cs, SC.sl (Sh.str.pair (shI.sl.pair Sh.unit)) fs, SC.sl (I6.pair (I6.pair Sh.unit)) ts])] = [(([] : Go.Eng.Gd), Res.blk (27 : Nat) [SC.sl (Sh.str.pair (I6.pair Sh.unit)) vs, SC.sl Sh.str ms, SC.sl Sh.str cs, SC.sl (Sh.str.pair (shI.sl.pair Sh.unit)) fs, SC.sl (I6.pair (I6.pair Sh.unit)) ts])]) ∧ ∀ (x : Nat), (x ≤ fs.length ∧ ∀ (j : Nat), j < x → ∀ (f : ByteArray × List ID × Unit), fs[j]? = some f → f.snd.fst.length ≤ (100 : Nat)) → br (decide ((↑x : Int) < (↑fs.length : Int))) (((0 : Int) ≤ (↑x : Int) ∧ (↑x : Int) < (↑fs.length : Int)) ∧ ∀ (d : Sh.str.den × (shI.sl.pair Sh.unit).den), fs[(↑x : Int).toNat]? = some d → br (decide ((100 : Int) < (↑(List.length d.snd.fst) : Int))) (([] : List Go.Eng.Res) = [] ∧ Ent.one (SV.c (SC.v (Value.bool (smS vs ms cs fs ts)))) = Ent.one (SV.c (SC.v (Value.bool false)))) (InR IntKind.i64 ((↑x : Int) + (1 : Int)) ∧ ∃ x', (x' ≤ fs.length ∧ ∀ (j : Nat), j < x' → ∀ (f : ByteArray × List ID × Unit), fs[j]? = some f → f.snd.fst.length ≤ (100 : Nat)) ∧ (SV.c (SC.v (Value.int IntKind.i64 ((↑x : Int) + (1 : Int)))) = SV.c (SC.v (Value.int IntKind.i64 (↑x' : Int))) ∧ True) ∧ [(([] : Go.Eng.Gd), Res.blk (27 : Nat) [SC.sl (Sh.str.pair (I6.pair Sh.unit)) vs, SC.sl Sh.str ms, SC.sl Sh.str cs, SC.sl (Sh.str.pair (shI.sl.pair Sh.unit)) fs, SC.sl (I6.pair (I6.pair Sh.unit)) ts])] = [(([] : Go.Eng.Gd), Res.blk (27 : Nat) [SC.sl (Sh.str.pair (I6.pair Sh.unit)) vs, SC.sl Sh.str ms, SC.sl Sh.str cs, SC.sl (Sh.str.pair (shI.sl.pair Sh.unit)) fs, SC.sl (I6.pair (I6.pair Sh.unit)) ts])] ∧ fs.length - x' < fs.length - x)) (([] : List Go.Eng.Res) = [] ∧ Ent.one (SV.c (SC.v (Value.bool (smS vs ms cs fs ts)))) = Ent.one (SV.c (SC.v (Value.bool true))))) := by
  by_cases hc : ¬ (vs.length ≤ 20 ∧ ms.length ≤ 20 ∧ cs.length ≤ 20 ∧ fs.length ≤ 20 ∧ ts.length ≤ 20)
  · have e : smS vs ms cs fs ts = false := by unfold smS; rw [decide_eq_false hc]; rfl
    rw [e]
    refine br_iff.2 ⟨fun _ => ⟨rfl, rfl⟩, fun h => ?_⟩
    simp only [Bool.or_eq_false_iff, decide_eq_false_iff_not] at h
    omega
  have hc := Classical.not_not.1 hc
  refine br_iff.2 ⟨fun h => ?_, fun _ => ?_⟩
  · simp only [Bool.or_eq_true, decide_eq_true_eq] at h
    omega
  refine ⟨⟨0, ⟨by omega, fun j hj => by omega⟩, ⟨rfl, trivial⟩, rfl⟩, fun k hk => br_iff.2 ⟨fun h => ?_, fun h => ?_⟩⟩
  · simp only [decide_eq_true_eq] at h
    have hN : (↑k : Int).toNat = k := by omega
    rw [hN]
    refine ⟨by omega, fun d hd => br_iff.2 ⟨fun h2 => ⟨rfl, ?_⟩, fun h2 => ⟨InR_i64.2 (by omega), k + 1, ⟨by omega, fun j hj f hf => ?_⟩, ⟨rfl, trivial⟩, rfl, by omega⟩⟩⟩
    · have h2 : ¬ d.2.1.length ≤ 100 := by simp only [decide_eq_true_eq] at h2; omega
      have e : smS vs ms cs fs ts = false := by
        unfold smS
        rw [show (fs.all fun f => decide (f.2.1.length ≤ 100)) = false from List.all_eq_false.2 ⟨d, List.mem_of_getElem? hd, by simpa using h2⟩, Bool.and_false]
      rw [e]
    · by_cases hjk : j = k
      · subst hjk
        rw [hd] at hf; cases hf
        simp only [decide_eq_false_iff_not] at h2; omega
      · exact hk.2 j (by omega) f hf
  · simp only [decide_eq_false_iff_not] at h
    have e : smS vs ms cs fs ts = true := by
      unfold smS
      rw [decide_eq_true hc, Bool.true_and, List.all_eq_true]
      intro f hf
      obtain ⟨j, hj⟩ := List.getElem?_of_mem hf
      simpa using hk.2 j (by have := (List.getElem?_eq_some_iff.1 hj).1; omega) f hj
    rw [e]; exact ⟨rfl, rfl⟩
set_option maxHeartbeats 2000000 in
set_option maxRecDepth 100000 in
theorem f10_met : Go.Eng.Met Tryd.prog cx0.gd 10 ctSm :=
  met_of (cx := cx0) (n := 47) (cl := cl10) (by kernel_rfl) tis_ok trivial Tryd.func10 (by kernel_rfl) (by kernel_rfl) rfl (by kernel_rfl) (by kernel_rfl) fun d hd => by
    obtain ⟨⟨vs, ms, cs, fs, ts, ⟨⟩⟩, ⟨⟩⟩ := d
    exact ex_of (ann10 vs ms cs fs ts) (f10_vc vs ms cs fs ts) (by kernel_rfl)
def spwS (l : List ID) (g : Int) : Bool := l.any fun i => decide (i.1 = 21 ∧ i.2.2.2.2.1 = g)
@[reducible] def ctSpw : CT := { ps := [shF, .int .i64], pre := fun d => d.1.2.1.length ≤ 1000000, res := fun d => ([], vB (spwS d.1.2.1 d.2.1)) }
@[reducible] def ctHasL : CT := { ps := [.sl (.int .i64), .int .i64], pre := fun d => d.1.length ≤ 1000000, res := fun d => ([], vB (hasI d.1 d.2.1)) }
def fnS (fs : List FD) (s : ByteArray) : Int × Bool := match fs.findIdx? (fun f => decide (f.1 = s)) with | some k => ((k : Int), true) | none => (0, false)
theorem fn_found {fs : List FD} {s : ByteArray} {k : Nat} {d : FD} (hd : fs[k]? = some d) (h2 : d.1 = s) (hn : ∀ j < k, ∀ f, fs[j]? = some f → ¬ f.1 = s) : fnS fs s = ((k : Int), true) := by
  have hlt : k < fs.length := (List.getElem?_eq_some_iff.1 hd).1
  have : fs.findIdx? (fun f => decide (f.1 = s)) = some k := by
    rw [List.findIdx?_eq_some_iff_getElem]
    refine ⟨hlt, by rw [(List.getElem?_eq_some_iff.1 hd).2]; simpa using h2, fun j hj => ?_⟩
    have := hn j hj fs[j] (List.getElem?_eq_getElem (by omega))
    simpa using this
  simp [fnS, this]
theorem fn_none {fs : List FD} {s : ByteArray} (hn : ∀ (j : Nat) f, fs[j]? = some f → ¬ f.1 = s) : fnS fs s = (0, false) := by
  have : fs.findIdx? (fun f => decide (f.1 = s)) = none := by
    rw [List.findIdx?_eq_none_iff]
    intro y hy
    obtain ⟨j, hj⟩ := List.getElem?_of_mem hy
    simpa using hn j y hj
  simp [fnS, this]
@[reducible] def ctrFn : CT := { ps := [shP, .str], pre := fun d => d.1.2.2.2.1.length ≤ 1000000, res := fun d => ([], .tup [.c (.v (.int .i64 (fnS d.1.2.2.2.1 d.2.1).1)), .c (.v (.bool (fnS d.1.2.2.2.1 d.2.1).2))]) }
@[reducible] def ctrTh : CT := { ps := [shP], pre := fun d => True, res := fun d => ([], .one (.c (.v (.int .i64 (thS d.1.2.2.2.1 d.1.2.2.2.2.1))))) }
@[reducible] def cl75 : List (Nat × CT) := [(73, ctrVal)]
@[reducible] def ann75 (vs : List VD) (ms : List ByteArray) (cs : List ByteArray) (fs : List FD) (ts : List SD) : Nat → Option (St → Ann) := fun k => match k with
  | 4 => some fun _ => .inv { α := Nat, slots := fun k => [(3, .c (.v (.int .i64 k)))], res := fun k => [], inv := fun k => k ≤ (ts).length ∧ ∀ j < k, ∀ t, ts[j]? = some t → thE fs.length t = 0, meas := fun k => (ts).length - k }
  | _ => none
set_option maxRecDepth 100000 in
theorem f75_vc (vs : List VD) (ms : List ByteArray) (cs : List ByteArray) (fs : List FD) (ts : List SD) :
    br (decide ((↑ts.length : Int) < (1 : Int)) || decide ((8 : Int) < (↑ts.length : Int))) (([] : List Go.Eng.Res) = [] ∧ Ent.one (SV.c (SC.v (Value.int IntKind.i64 (thS fs ts)))) = Ent.one (SV.c (SC.v (Value.int IntKind.i64 (4 : Int))))) ((∃ x, (x ≤ ts.length ∧ ∀ (j : Nat), j < x → ∀ (t : Int × Int × Unit), ts[j]? = some t → thE fs.length t = (0 : Int)) ∧ (SV.c (SC.v (Value.int IntKind.i64 (0 : Int))) = SV.c (SC.v (Value.int IntKind.i64 (↑x : Int))) ∧ True) ∧ [(([] : Go.Eng.Gd), Res.blk (27 : Nat) [SC.sl (Sh.str.pair (I6.pair Sh.unit)) vs, SC.sl Sh.str ms, SC.sl Sh.str cs, SC.sl (Sh.str.pair (shI.sl.pair Sh.unit)) fs, SC.sl (I6.pair (I6.pair Sh.unit)) ts])] = [(([] : Go.Eng.Gd), Res.blk (27 : Nat) [SC.sl (Sh.str.pair (I6.pair Sh.unit)) vs, SC.sl Sh.str ms, SC.sl Sh.str cs, SC.sl (Sh.str.pair (shI.sl.pair Sh.unit)) fs, SC.sl (I6.pair (I6.pair Sh.unit)) ts])]) ∧ ∀ (x : Nat), (x ≤ ts.length ∧ ∀ (j : Nat), j < x → ∀ (t : Int × Int × Unit), ts[j]? = some t → thE fs.length t = (0 : Int)) → br (decide ((↑x : Int) < (↑ts.length : Int))) (((0 : Int) ≤ (↑x : Int) ∧ (↑x : Int) < (↑ts.length : Int)) ∧ ∀ (d : I6.den × (I6.pair Sh.unit).den), ts[(↑x : Int).toNat]? = some d → ((!decide (d.fst < (0 : Int))) = true → (0 : Int) ≤ (↑x : Int) ∧ (↑x : Int) < (↑ts.length : Int)) ∧ ∀ (d_1 : I6.den × (I6.pair Sh.unit).den), ((!decide (d.fst < (0 : Int))) = true → ts[(↑x : Int).toNat]? = some d_1) → br (decide (d.fst < (0 : Int)) || decide ((↑fs.length : Int) ≤ d_1.fst)) (([] : List Go.Eng.Res) = [] ∧ Ent.one (SV.c (SC.v (Value.int IntKind.i64 (thS fs ts)))) = Ent.one (SV.c (SC.v (Value.int IntKind.i64 (11 : Int))))) (((0 : Int) ≤ (↑x : Int) ∧ (↑x : Int) < (↑ts.length : Int)) ∧ ∀ (d : I6.den × (I6.pair Sh.unit).den), ts[(↑x : Int).toNat]? = some d → True ∧ br (!valS (d.snd.fst, ()).fst) (([] : List Go.Eng.Res) = [] ∧ Ent.one (SV.c (SC.v (Value.int IntKind.i64 (thS fs ts)))) = Ent.one (SV.c (SC.v (Value.int IntKind.i64 (2 : Int))))) (InR IntKind.i64 ((↑x : Int) + (1 : Int)) ∧ ∃ x', (x' ≤ ts.length ∧ ∀ (j : Nat), j < x' → ∀ (t : Int × Int × Unit), ts[j]? = some t → thE fs.length t = (0 : Int)) ∧ (SV.c (SC.v (Value.int IntKind.i64 ((↑x : Int) + (1 : Int)))) = SV.c (SC.v (Value.int IntKind.i64 (↑x' : Int))) ∧ True) ∧ [(([] : Go.Eng.Gd), Res.blk (27 : Nat) [SC.sl (Sh.str.pair (I6.pair Sh.unit)) vs, SC.sl Sh.str ms, SC.sl Sh.str cs, SC.sl (Sh.str.pair (shI.sl.pair Sh.unit)) fs, SC.sl (I6.pair (I6.pair Sh.unit)) ts])] = [(([] : Go.Eng.Gd), Res.blk (27 : Nat) [SC.sl (Sh.str.pair (I6.pair Sh.unit)) vs, SC.sl Sh.str ms, SC.sl Sh.str cs, SC.sl (Sh.str.pair (shI.sl.pair Sh.unit)) fs, SC.sl (I6.pair (I6.pair Sh.unit)) ts])] ∧ ts.length - x' < ts.length - x))) (([] : List Go.Eng.Res) = [] ∧ Ent.one (SV.c (SC.v (Value.int IntKind.i64 (thS fs ts)))) = Ent.one (SV.c (SC.v (Value.int IntKind.i64 (0 : Int)))))) := by
  by_cases hc : ts.length < 1 ∨ 8 < ts.length
  · have e : thS fs ts = 4 := by unfold thS; rw [if_pos hc]
    rw [e]
    refine br_iff.2 ⟨fun _ => ⟨rfl, rfl⟩, fun h => ?_⟩
    simp only [Bool.or_eq_false_iff, decide_eq_false_iff_not] at h
    omega
  refine br_iff.2 ⟨fun h => ?_, fun h => ⟨⟨0, ⟨by omega, fun j hj => by omega⟩, ⟨rfl, trivial⟩, rfl⟩, fun k hk => br_iff.2 ⟨fun h2 => ?_, fun h2 => ?_⟩⟩⟩
  · simp only [Bool.or_eq_true, decide_eq_true_eq] at h
    omega
  · simp only [decide_eq_true_eq] at h2
    have hN : (↑k : Int).toNat = k := by omega
    rw [hN]
    refine ⟨by omega, fun d hd => ⟨fun _ => by omega, fun d1 hd1 => br_iff.2 ⟨fun h3 => ⟨rfl, ?_⟩, fun h3 => ⟨by omega, fun d2 hd2 => ⟨trivial, br_iff.2 ⟨fun h4 => ⟨rfl, ?_⟩, fun h4 => ⟨InR_i64.2 (by omega), k + 1, ⟨by omega, fun j hj v hv => ?_⟩, ⟨rfl, trivial⟩, rfl, by omega⟩⟩⟩⟩⟩⟩⟩
    · have h3 : d.1 < 0 ∨ (fs.length : Int) ≤ d.1 := by
        by_cases hn : d.1 < 0
        · exact .inl hn
        · have := hd1 (by simp [hn])
          rw [hd] at this; cases this
          exact by simpa using h3
      have e : thE fs.length d = 11 := by unfold thE; rw [if_pos h3]
      rw [th_found hc hd (by rw [e]; simp) hk.2, e]
    all_goals
      rw [hd] at hd2; cases hd2
      have h3 : ¬ (d.1 < 0 ∨ (fs.length : Int) ≤ d.1) := by
        simp only [Bool.or_eq_false_iff, decide_eq_false_iff_not] at h3
        have := hd1 (by rw [decide_eq_false h3.1]; rfl)
        rw [hd] at this; cases this
        exact fun q => q.elim (fun q => h3.1 q) (fun q => h3.2 q)
    · have h4 : valS d.2.1 = false := by simpa using h4
      have e : thE fs.length d = 2 := by unfold thE; rw [if_neg h3, if_neg (by rw [h4]; simp)]
      rw [th_found hc hd (by rw [e]; simp) hk.2, e]
    · have h4 : valS d.2.1 = true := by simpa using h4
      by_cases hjk : j = k
      · subst hjk
        rw [hd] at hv; cases hv
        unfold thE; rw [if_neg h3, if_pos h4]
      · exact hk.2 j (by omega) v hv
  · simp only [decide_eq_false_iff_not] at h2
    rw [th_none hc fun j t hj => hk.2 j (by have := (List.getElem?_eq_some_iff.1 hj).1; omega) t hj]; exact ⟨rfl, rfl⟩
set_option maxHeartbeats 2000000 in
set_option maxRecDepth 100000 in
theorem f75_met : Go.Eng.Met Tryd.prog cx0.gd 75 ctrTh :=
  met_of (cx := cx0) (n := 48) (cl := cl75) (by kernel_rfl) tis_ok ⟨f73_met, trivial⟩ Tryd.func75 (by kernel_rfl) (by kernel_rfl) rfl (by kernel_rfl) (by kernel_rfl) fun d hd => by
    obtain ⟨⟨vs, ms, cs, fs, ts, ⟨⟩⟩, ⟨⟩⟩ := d
    exact ex_of (ann75 vs ms cs fs ts) (f75_vc vs ms cs fs ts) (by kernel_rfl)
def exS (vs : List VD) (ms cs : List ByteArray) (fs : List FD) (op obj n : Int) : Bool := !decide (0 ≤ objS vs ms cs fs op ∧ (obj < 0 ∨ objS vs ms cs fs op ≤ obj)) && !decide (op = 18 ∧ (n < 0 ∨ (ms.length : Int) ≤ n))
@[reducible] def ctrEx : CT := { ps := [shP, shI], pre := fun d => True, res := fun d => ([], vB (exS d.1.1 d.1.2.1 d.1.2.2.1 d.1.2.2.2.1 d.2.1.1 d.2.1.2.2.2.2.1 d.2.1.2.2.2.2.2.1)) }
@[reducible] def cl93 : List (Nat × CT) := []
@[reducible] def ann93 (vs : List VD) (ms : List ByteArray) (cs : List ByteArray) (fs : List FD) (ts : List SD) (op : Int) (a : Int) (b : Int) (c : Int) (obj : Int) (n : Int) (fn : Int) (ord : Int) : Nat → Option (St → Ann) := fun _ => none
set_option maxRecDepth 100000 in
theorem f93_vc (vs : List VD) (ms : List ByteArray) (cs : List ByteArray) (fs : List FD) (ts : List SD) (op : Int) (a : Int) (b : Int) (c : Int) (obj : Int) (n : Int) (fn : Int) (ord : Int) :
    br (decide (op = (8 : Int))) (br (decide (op = (8 : Int))) (([] : List Go.Eng.Res) = [] ∧ Ent.one (SV.c (SC.v (Value.bool (exS vs ms cs fs op obj n)))) = Ent.one (SV.c (SC.v (Value.bool (decide ((0 : Int) ≤ obj) && decide (obj < (↑vs.length : Int))))))) (br (decide (op = (15 : Int))) (br (decide (op = (15 : Int))) (([] : List Go.Eng.Res) = [] ∧ Ent.one (SV.c (SC.v (Value.bool (exS vs ms cs fs op obj n)))) = Ent.one (SV.c (SC.v (Value.bool (decide ((0 : Int) ≤ obj) && decide (obj < (↑ms.length : Int))))))) (br (decide (op = (18 : Int))) (br (decide (n < (0 : Int)) || decide ((↑ms.length : Int) ≤ n)) (([] : List Go.Eng.Res) = [] ∧ Ent.one (SV.c (SC.v (Value.bool (exS vs ms cs fs op obj n)))) = Ent.one (SV.c (SC.v (Value.bool false)))) (([] : List Go.Eng.Res) = [] ∧ Ent.one (SV.c (SC.v (Value.bool (exS vs ms cs fs op obj n)))) = Ent.one (SV.c (SC.v (Value.bool (decide ((0 : Int) ≤ obj) && decide (obj < (↑cs.length : Int)))))))) (br (decide (op = (19 : Int))) (br (decide (op = (19 : Int))) (([] : List Go.Eng.Res) = [] ∧ Ent.one (SV.c (SC.v (Value.bool (exS vs ms cs fs op obj n)))) = Ent.one (SV.c (SC.v (Value.bool (decide ((0 : Int) ≤ obj) && decide (obj < (↑cs.length : Int))))))) (br (decide (op = (21 : Int))) (([] : List Go.Eng.Res) = [] ∧ Ent.one (SV.c (SC.v (Value.bool (exS vs ms cs fs op obj n)))) = Ent.one (SV.c (SC.v (Value.bool (decide ((0 : Int) ≤ obj) && decide (obj < (↑fs.length : Int))))))) (([] : List Go.Eng.Res) = [] ∧ Ent.one (SV.c (SC.v (Value.bool (exS vs ms cs fs op obj n)))) = Ent.one (SV.c (SC.v (Value.bool true)))))) (br (decide (op = (20 : Int))) (([] : List Go.Eng.Res) = [] ∧ Ent.one (SV.c (SC.v (Value.bool (exS vs ms cs fs op obj n)))) = Ent.one (SV.c (SC.v (Value.bool (decide ((0 : Int) ≤ obj) && decide (obj < (↑cs.length : Int))))))) (br (decide (op = (21 : Int))) (([] : List Go.Eng.Res) = [] ∧ Ent.one (SV.c (SC.v (Value.bool (exS vs ms cs fs op obj n)))) = Ent.one (SV.c (SC.v (Value.bool (decide ((0 : Int) ≤ obj) && decide (obj < (↑fs.length : Int))))))) (([] : List Go.Eng.Res) = [] ∧ Ent.one (SV.c (SC.v (Value.bool (exS vs ms cs fs op obj n)))) = Ent.one (SV.c (SC.v (Value.bool true))))))))) (br (decide (op = (16 : Int))) (br (decide (op = (16 : Int))) (([] : List Go.Eng.Res) = [] ∧ Ent.one (SV.c (SC.v (Value.bool (exS vs ms cs fs op obj n)))) = Ent.one (SV.c (SC.v (Value.bool (decide ((0 : Int) ≤ obj) && decide (obj < (↑ms.length : Int))))))) (br (decide (op = (18 : Int))) (br (decide (n < (0 : Int)) || decide ((↑ms.length : Int) ≤ n)) (([] : List Go.Eng.Res) = [] ∧ Ent.one (SV.c (SC.v (Value.bool (exS vs ms cs fs op obj n)))) = Ent.one (SV.c (SC.v (Value.bool false)))) (([] : List Go.Eng.Res) = [] ∧ Ent.one (SV.c (SC.v (Value.bool (exS vs ms cs fs op obj n)))) = Ent.one (SV.c (SC.v (Value.bool (decide ((0 : Int) ≤ obj) && decide (obj < (↑cs.length : Int)))))))) (br (decide (op = (19 : Int))) (br (decide (op = (19 : Int))) (([] : List Go.Eng.Res) = [] ∧ Ent.one (SV.c (SC.v (Value.bool (exS vs ms cs fs op obj n)))) = Ent.one (SV.c (SC.v (Value.bool (decide ((0 : Int) ≤ obj) && decide (obj < (↑cs.length : Int))))))) (br (decide (op = (21 : Int))) (([] : List Go.Eng.Res) = [] ∧ Ent.one (SV.c (SC.v (Value.bool (exS vs ms cs fs op obj n)))) = Ent.one (SV.c (SC.v (Value.bool (decide ((0 : Int) ≤ obj) && decide (obj < (↑fs.length : Int))))))) (([] : List Go.Eng.Res) = [] ∧ Ent.one (SV.c (SC.v (Value.bool (exS vs ms cs fs op obj n)))) = Ent.one (SV.c (SC.v (Value.bool true)))))) (br (decide (op = (20 : Int))) (([] : List Go.Eng.Res) = [] ∧ Ent.one (SV.c (SC.v (Value.bool (exS vs ms cs fs op obj n)))) = Ent.one (SV.c (SC.v (Value.bool (decide ((0 : Int) ≤ obj) && decide (obj < (↑cs.length : Int))))))) (br (decide (op = (21 : Int))) (([] : List Go.Eng.Res) = [] ∧ Ent.one (SV.c (SC.v (Value.bool (exS vs ms cs fs op obj n)))) = Ent.one (SV.c (SC.v (Value.bool (decide ((0 : Int) ≤ obj) && decide (obj < (↑fs.length : Int))))))) (([] : List Go.Eng.Res) = [] ∧ Ent.one (SV.c (SC.v (Value.bool (exS vs ms cs fs op obj n)))) = Ent.one (SV.c (SC.v (Value.bool true))))))))) (br (decide (op = (17 : Int))) (([] : List Go.Eng.Res) = [] ∧ Ent.one (SV.c (SC.v (Value.bool (exS vs ms cs fs op obj n)))) = Ent.one (SV.c (SC.v (Value.bool (decide ((0 : Int) ≤ obj) && decide (obj < (↑ms.length : Int))))))) (br (decide (op = (18 : Int))) (br (decide (n < (0 : Int)) || decide ((↑ms.length : Int) ≤ n)) (([] : List Go.Eng.Res) = [] ∧ Ent.one (SV.c (SC.v (Value.bool (exS vs ms cs fs op obj n)))) = Ent.one (SV.c (SC.v (Value.bool false)))) (([] : List Go.Eng.Res) = [] ∧ Ent.one (SV.c (SC.v (Value.bool (exS vs ms cs fs op obj n)))) = Ent.one (SV.c (SC.v (Value.bool (decide ((0 : Int) ≤ obj) && decide (obj < (↑cs.length : Int)))))))) (br (decide (op = (19 : Int))) (br (decide (op = (19 : Int))) (([] : List Go.Eng.Res) = [] ∧ Ent.one (SV.c (SC.v (Value.bool (exS vs ms cs fs op obj n)))) = Ent.one (SV.c (SC.v (Value.bool (decide ((0 : Int) ≤ obj) && decide (obj < (↑cs.length : Int))))))) (br (decide (op = (21 : Int))) (([] : List Go.Eng.Res) = [] ∧ Ent.one (SV.c (SC.v (Value.bool (exS vs ms cs fs op obj n)))) = Ent.one (SV.c (SC.v (Value.bool (decide ((0 : Int) ≤ obj) && decide (obj < (↑fs.length : Int))))))) (([] : List Go.Eng.Res) = [] ∧ Ent.one (SV.c (SC.v (Value.bool (exS vs ms cs fs op obj n)))) = Ent.one (SV.c (SC.v (Value.bool true)))))) (br (decide (op = (20 : Int))) (([] : List Go.Eng.Res) = [] ∧ Ent.one (SV.c (SC.v (Value.bool (exS vs ms cs fs op obj n)))) = Ent.one (SV.c (SC.v (Value.bool (decide ((0 : Int) ≤ obj) && decide (obj < (↑cs.length : Int))))))) (br (decide (op = (21 : Int))) (([] : List Go.Eng.Res) = [] ∧ Ent.one (SV.c (SC.v (Value.bool (exS vs ms cs fs op obj n)))) = Ent.one (SV.c (SC.v (Value.bool (decide ((0 : Int) ≤ obj) && decide (obj < (↑fs.length : Int))))))) (([] : List Go.Eng.Res) = [] ∧ Ent.one (SV.c (SC.v (Value.bool (exS vs ms cs fs op obj n)))) = Ent.one (SV.c (SC.v (Value.bool true)))))))))))) (br (decide (op = (9 : Int))) (br (decide (op = (9 : Int))) (([] : List Go.Eng.Res) = [] ∧ Ent.one (SV.c (SC.v (Value.bool (exS vs ms cs fs op obj n)))) = Ent.one (SV.c (SC.v (Value.bool (decide ((0 : Int) ≤ obj) && decide (obj < (↑vs.length : Int))))))) (br (decide (op = (15 : Int))) (br (decide (op = (15 : Int))) (([] : List Go.Eng.Res) = [] ∧ Ent.one (SV.c (SC.v (Value.bool (exS vs ms cs fs op obj n)))) = Ent.one (SV.c (SC.v (Value.bool (decide ((0 : Int) ≤ obj) && decide (obj < (↑ms.length : Int))))))) (br (decide (op = (18 : Int))) (br (decide (n < (0 : Int)) || decide ((↑ms.length : Int) ≤ n)) (([] : List Go.Eng.Res) = [] ∧ Ent.one (SV.c (SC.v (Value.bool (exS vs ms cs fs op obj n)))) = Ent.one (SV.c (SC.v (Value.bool false)))) (([] : List Go.Eng.Res) = [] ∧ Ent.one (SV.c (SC.v (Value.bool (exS vs ms cs fs op obj n)))) = Ent.one (SV.c (SC.v (Value.bool (decide ((0 : Int) ≤ obj) && decide (obj < (↑cs.length : Int)))))))) (br (decide (op = (19 : Int))) (br (decide (op = (19 : Int))) (([] : List Go.Eng.Res) = [] ∧ Ent.one (SV.c (SC.v (Value.bool (exS vs ms cs fs op obj n)))) = Ent.one (SV.c (SC.v (Value.bool (decide ((0 : Int) ≤ obj) && decide (obj < (↑cs.length : Int))))))) (br (decide (op = (21 : Int))) (([] : List Go.Eng.Res) = [] ∧ Ent.one (SV.c (SC.v (Value.bool (exS vs ms cs fs op obj n)))) = Ent.one (SV.c (SC.v (Value.bool (decide ((0 : Int) ≤ obj) && decide (obj < (↑fs.length : Int))))))) (([] : List Go.Eng.Res) = [] ∧ Ent.one (SV.c (SC.v (Value.bool (exS vs ms cs fs op obj n)))) = Ent.one (SV.c (SC.v (Value.bool true)))))) (br (decide (op = (20 : Int))) (([] : List Go.Eng.Res) = [] ∧ Ent.one (SV.c (SC.v (Value.bool (exS vs ms cs fs op obj n)))) = Ent.one (SV.c (SC.v (Value.bool (decide ((0 : Int) ≤ obj) && decide (obj < (↑cs.length : Int))))))) (br (decide (op = (21 : Int))) (([] : List Go.Eng.Res) = [] ∧ Ent.one (SV.c (SC.v (Value.bool (exS vs ms cs fs op obj n)))) = Ent.one (SV.c (SC.v (Value.bool (decide ((0 : Int) ≤ obj) && decide (obj < (↑fs.length : Int))))))) (([] : List Go.Eng.Res) = [] ∧ Ent.one (SV.c (SC.v (Value.bool (exS vs ms cs fs op obj n)))) = Ent.one (SV.c (SC.v (Value.bool true))))))))) (br (decide (op = (16 : Int))) (br (decide (op = (16 : Int))) (([] : List Go.Eng.Res) = [] ∧ Ent.one (SV.c (SC.v (Value.bool (exS vs ms cs fs op obj n)))) = Ent.one (SV.c (SC.v (Value.bool (decide ((0 : Int) ≤ obj) && decide (obj < (↑ms.length : Int))))))) (br (decide (op = (18 : Int))) (br (decide (n < (0 : Int)) || decide ((↑ms.length : Int) ≤ n)) (([] : List Go.Eng.Res) = [] ∧ Ent.one (SV.c (SC.v (Value.bool (exS vs ms cs fs op obj n)))) = Ent.one (SV.c (SC.v (Value.bool false)))) (([] : List Go.Eng.Res) = [] ∧ Ent.one (SV.c (SC.v (Value.bool (exS vs ms cs fs op obj n)))) = Ent.one (SV.c (SC.v (Value.bool (decide ((0 : Int) ≤ obj) && decide (obj < (↑cs.length : Int)))))))) (br (decide (op = (19 : Int))) (br (decide (op = (19 : Int))) (([] : List Go.Eng.Res) = [] ∧ Ent.one (SV.c (SC.v (Value.bool (exS vs ms cs fs op obj n)))) = Ent.one (SV.c (SC.v (Value.bool (decide ((0 : Int) ≤ obj) && decide (obj < (↑cs.length : Int))))))) (br (decide (op = (21 : Int))) (([] : List Go.Eng.Res) = [] ∧ Ent.one (SV.c (SC.v (Value.bool (exS vs ms cs fs op obj n)))) = Ent.one (SV.c (SC.v (Value.bool (decide ((0 : Int) ≤ obj) && decide (obj < (↑fs.length : Int))))))) (([] : List Go.Eng.Res) = [] ∧ Ent.one (SV.c (SC.v (Value.bool (exS vs ms cs fs op obj n)))) = Ent.one (SV.c (SC.v (Value.bool true)))))) (br (decide (op = (20 : Int))) (([] : List Go.Eng.Res) = [] ∧ Ent.one (SV.c (SC.v (Value.bool (exS vs ms cs fs op obj n)))) = Ent.one (SV.c (SC.v (Value.bool (decide ((0 : Int) ≤ obj) && decide (obj < (↑cs.length : Int))))))) (br (decide (op = (21 : Int))) (([] : List Go.Eng.Res) = [] ∧ Ent.one (SV.c (SC.v (Value.bool (exS vs ms cs fs op obj n)))) = Ent.one (SV.c (SC.v (Value.bool (decide ((0 : Int) ≤ obj) && decide (obj < (↑fs.length : Int))))))) (([] : List Go.Eng.Res) = [] ∧ Ent.one (SV.c (SC.v (Value.bool (exS vs ms cs fs op obj n)))) = Ent.one (SV.c (SC.v (Value.bool true))))))))) (br (decide (op = (17 : Int))) (([] : List Go.Eng.Res) = [] ∧ Ent.one (SV.c (SC.v (Value.bool (exS vs ms cs fs op obj n)))) = Ent.one (SV.c (SC.v (Value.bool (decide ((0 : Int) ≤ obj) && decide (obj < (↑ms.length : Int))))))) (br (decide (op = (18 : Int))) (br (decide (n < (0 : Int)) || decide ((↑ms.length : Int) ≤ n)) (([] : List Go.Eng.Res) = [] ∧ Ent.one (SV.c (SC.v (Value.bool (exS vs ms cs fs op obj n)))) = Ent.one (SV.c (SC.v (Value.bool false)))) (([] : List Go.Eng.Res) = [] ∧ Ent.one (SV.c (SC.v (Value.bool (exS vs ms cs fs op obj n)))) = Ent.one (SV.c (SC.v (Value.bool (decide ((0 : Int) ≤ obj) && decide (obj < (↑cs.length : Int)))))))) (br (decide (op = (19 : Int))) (br (decide (op = (19 : Int))) (([] : List Go.Eng.Res) = [] ∧ Ent.one (SV.c (SC.v (Value.bool (exS vs ms cs fs op obj n)))) = Ent.one (SV.c (SC.v (Value.bool (decide ((0 : Int) ≤ obj) && decide (obj < (↑cs.length : Int))))))) (br (decide (op = (21 : Int))) (([] : List Go.Eng.Res) = [] ∧ Ent.one (SV.c (SC.v (Value.bool (exS vs ms cs fs op obj n)))) = Ent.one (SV.c (SC.v (Value.bool (decide ((0 : Int) ≤ obj) && decide (obj < (↑fs.length : Int))))))) (([] : List Go.Eng.Res) = [] ∧ Ent.one (SV.c (SC.v (Value.bool (exS vs ms cs fs op obj n)))) = Ent.one (SV.c (SC.v (Value.bool true)))))) (br (decide (op = (20 : Int))) (([] : List Go.Eng.Res) = [] ∧ Ent.one (SV.c (SC.v (Value.bool (exS vs ms cs fs op obj n)))) = Ent.one (SV.c (SC.v (Value.bool (decide ((0 : Int) ≤ obj) && decide (obj < (↑cs.length : Int))))))) (br (decide (op = (21 : Int))) (([] : List Go.Eng.Res) = [] ∧ Ent.one (SV.c (SC.v (Value.bool (exS vs ms cs fs op obj n)))) = Ent.one (SV.c (SC.v (Value.bool (decide ((0 : Int) ≤ obj) && decide (obj < (↑fs.length : Int))))))) (([] : List Go.Eng.Res) = [] ∧ Ent.one (SV.c (SC.v (Value.bool (exS vs ms cs fs op obj n)))) = Ent.one (SV.c (SC.v (Value.bool true)))))))))))) (br (decide (op = (10 : Int))) (br (decide (op = (10 : Int))) (([] : List Go.Eng.Res) = [] ∧ Ent.one (SV.c (SC.v (Value.bool (exS vs ms cs fs op obj n)))) = Ent.one (SV.c (SC.v (Value.bool (decide ((0 : Int) ≤ obj) && decide (obj < (↑vs.length : Int))))))) (br (decide (op = (15 : Int))) (br (decide (op = (15 : Int))) (([] : List Go.Eng.Res) = [] ∧ Ent.one (SV.c (SC.v (Value.bool (exS vs ms cs fs op obj n)))) = Ent.one (SV.c (SC.v (Value.bool (decide ((0 : Int) ≤ obj) && decide (obj < (↑ms.length : Int))))))) (br (decide (op = (18 : Int))) (br (decide (n < (0 : Int)) || decide ((↑ms.length : Int) ≤ n)) (([] : List Go.Eng.Res) = [] ∧ Ent.one (SV.c (SC.v (Value.bool (exS vs ms cs fs op obj n)))) = Ent.one (SV.c (SC.v (Value.bool false)))) (([] : List Go.Eng.Res) = [] ∧ Ent.one (SV.c (SC.v (Value.bool (exS vs ms cs fs op obj n)))) = Ent.one (SV.c (SC.v (Value.bool (decide ((0 : Int) ≤ obj) && decide (obj < (↑cs.length : Int)))))))) (br (decide (op = (19 : Int))) (br (decide (op = (19 : Int))) (([] : List Go.Eng.Res) = [] ∧ Ent.one (SV.c (SC.v (Value.bool (exS vs ms cs fs op obj n)))) = Ent.one (SV.c (SC.v (Value.bool (decide ((0 : Int) ≤ obj) && decide (obj < (↑cs.length : Int))))))) (br (decide (op = (21 : Int))) (([] : List Go.Eng.Res) = [] ∧ Ent.one (SV.c (SC.v (Value.bool (exS vs ms cs fs op obj n)))) = Ent.one (SV.c (SC.v (Value.bool (decide ((0 : Int) ≤ obj) && decide (obj < (↑fs.length : Int))))))) (([] : List Go.Eng.Res) = [] ∧ Ent.one (SV.c (SC.v (Value.bool (exS vs ms cs fs op obj n)))) = Ent.one (SV.c (SC.v (Value.bool true)))))) (br (decide (op = (20 : Int))) (([] : List Go.Eng.Res) = [] ∧ Ent.one (SV.c (SC.v (Value.bool (exS vs ms cs fs op obj n)))) = Ent.one (SV.c (SC.v (Value.bool (decide ((0 : Int) ≤ obj) && decide (obj < (↑cs.length : Int))))))) (br (decide (op = (21 : Int))) (([] : List Go.Eng.Res) = [] ∧ Ent.one (SV.c (SC.v (Value.bool (exS vs ms cs fs op obj n)))) = Ent.one (SV.c (SC.v (Value.bool (decide ((0 : Int) ≤ obj) && decide (obj < (↑fs.length : Int))))))) (([] : List Go.Eng.Res) = [] ∧ Ent.one (SV.c (SC.v (Value.bool (exS vs ms cs fs op obj n)))) = Ent.one (SV.c (SC.v (Value.bool true))))))))) (br (decide (op = (16 : Int))) (br (decide (op = (16 : Int))) (([] : List Go.Eng.Res) = [] ∧ Ent.one (SV.c (SC.v (Value.bool (exS vs ms cs fs op obj n)))) = Ent.one (SV.c (SC.v (Value.bool (decide ((0 : Int) ≤ obj) && decide (obj < (↑ms.length : Int))))))) (br (decide (op = (18 : Int))) (br (decide (n < (0 : Int)) || decide ((↑ms.length : Int) ≤ n)) (([] : List Go.Eng.Res) = [] ∧ Ent.one (SV.c (SC.v (Value.bool (exS vs ms cs fs op obj n)))) = Ent.one (SV.c (SC.v (Value.bool false)))) (([] : List Go.Eng.Res) = [] ∧ Ent.one (SV.c (SC.v (Value.bool (exS vs ms cs fs op obj n)))) = Ent.one (SV.c (SC.v (Value.bool (decide ((0 : Int) ≤ obj) && decide (obj < (↑cs.length : Int)))))))) (br (decide (op = (19 : Int))) (br (decide (op = (19 : Int))) (([] : List Go.Eng.Res) = [] ∧ Ent.one (SV.c (SC.v (Value.bool (exS vs ms cs fs op obj n)))) = Ent.one (SV.c (SC.v (Value.bool (decide ((0 : Int) ≤ obj) && decide (obj < (↑cs.length : Int))))))) (br (decide (op = (21 : Int))) (([] : List Go.Eng.Res) = [] ∧ Ent.one (SV.c (SC.v (Value.bool (exS vs ms cs fs op obj n)))) = Ent.one (SV.c (SC.v (Value.bool (decide ((0 : Int) ≤ obj) && decide (obj < (↑fs.length : Int))))))) (([] : List Go.Eng.Res) = [] ∧ Ent.one (SV.c (SC.v (Value.bool (exS vs ms cs fs op obj n)))) = Ent.one (SV.c (SC.v (Value.bool true)))))) (br (decide (op = (20 : Int))) (([] : List Go.Eng.Res) = [] ∧ Ent.one (SV.c (SC.v (Value.bool (exS vs ms cs fs op obj n)))) = Ent.one (SV.c (SC.v (Value.bool (decide ((0 : Int) ≤ obj) && decide (obj < (↑cs.length : Int))))))) (br (decide (op = (21 : Int))) (([] : List Go.Eng.Res) = [] ∧ Ent.one (SV.c (SC.v (Value.bool (exS vs ms cs fs op obj n)))) = Ent.one (SV.c (SC.v (Value.bool (decide ((0 : Int) ≤ obj) && decide (obj < (↑fs.length : Int))))))) (([] : List Go.Eng.Res) = [] ∧ Ent.one (SV.c (SC.v (Value.bool (exS vs ms cs fs op obj n)))) = Ent.one (SV.c (SC.v (Value.bool true))))))))) (br (decide (op = (17 : Int))) (([] : List Go.Eng.Res) = [] ∧ Ent.one (SV.c (SC.v (Value.bool (exS vs ms cs fs op obj n)))) = Ent.one (SV.c (SC.v (Value.bool (decide ((0 : Int) ≤ obj) && decide (obj < (↑ms.length : Int))))))) (br (decide (op = (18 : Int))) (br (decide (n < (0 : Int)) || decide ((↑ms.length : Int) ≤ n)) (([] : List Go.Eng.Res) = [] ∧ Ent.one (SV.c (SC.v (Value.bool (exS vs ms cs fs op obj n)))) = Ent.one (SV.c (SC.v (Value.bool false)))) (([] : List Go.Eng.Res) = [] ∧ Ent.one (SV.c (SC.v (Value.bool (exS vs ms cs fs op obj n)))) = Ent.one (SV.c (SC.v (Value.bool (decide ((0 : Int) ≤ obj) && decide (obj < (↑cs.length : Int)))))))) (br (decide (op = (19 : Int))) (br (decide (op = (19 : Int))) (([] : List Go.Eng.Res) = [] ∧ Ent.one (SV.c (SC.v (Value.bool (exS vs ms cs fs op obj n)))) = Ent.one (SV.c (SC.v (Value.bool (decide ((0 : Int) ≤ obj) && decide (obj < (↑cs.length : Int))))))) (br (decide (op = (21 : Int))) (([] : List Go.Eng.Res) = [] ∧ Ent.one (SV.c (SC.v (Value.bool (exS vs ms cs fs op obj n)))) = Ent.one (SV.c (SC.v (Value.bool (decide ((0 : Int) ≤ obj) && decide (obj < (↑fs.length : Int))))))) (([] : List Go.Eng.Res) = [] ∧ Ent.one (SV.c (SC.v (Value.bool (exS vs ms cs fs op obj n)))) = Ent.one (SV.c (SC.v (Value.bool true)))))) (br (decide (op = (20 : Int))) (([] : List Go.Eng.Res) = [] ∧ Ent.one (SV.c (SC.v (Value.bool (exS vs ms cs fs op obj n)))) = Ent.one (SV.c (SC.v (Value.bool (decide ((0 : Int) ≤ obj) && decide (obj < (↑cs.length : Int))))))) (br (decide (op = (21 : Int))) (([] : List Go.Eng.Res) = [] ∧ Ent.one (SV.c (SC.v (Value.bool (exS vs ms cs fs op obj n)))) = Ent.one (SV.c (SC.v (Value.bool (decide ((0 : Int) ≤ obj) && decide (obj < (↑fs.length : Int))))))) (([] : List Go.Eng.Res) = [] ∧ Ent.one (SV.c (SC.v (Value.bool (exS vs ms cs fs op obj n)))) = Ent.one (SV.c (SC.v (Value.bool true)))))))))))) (br (decide (op = (11 : Int))) (br (decide (op = (11 : Int))) (([] : List Go.Eng.Res) = [] ∧ Ent.one (SV.c (SC.v (Value.bool (exS vs ms cs fs op obj n)))) = Ent.one (SV.c (SC.v (Value.bool (decide ((0 : Int) ≤ obj) && decide (obj < (↑vs.length : Int))))))) (br (decide (op = (15 : Int))) (br (decide (op = (15 : Int))) (([] : List Go.Eng.Res) = [] ∧ Ent.one (SV.c (SC.v (Value.bool (exS vs ms cs fs op obj n)))) = Ent.one (SV.c (SC.v (Value.bool (decide ((0 : Int) ≤ obj) && decide (obj < (↑ms.length : Int))))))) (br (decide (op = (18 : Int))) (br (decide (n < (0 : Int)) || decide ((↑ms.length : Int) ≤ n)) (([] : List Go.Eng.Res) = [] ∧ Ent.one (SV.c (SC.v (Value.bool (exS vs ms cs fs op obj n)))) = Ent.one (SV.c (SC.v (Value.bool false)))) (([] : List Go.Eng.Res) = [] ∧ Ent.one (SV.c (SC.v (Value.bool (exS vs ms cs fs op obj n)))) = Ent.one (SV.c (SC.v (Value.bool (decide ((0 : Int) ≤ obj) && decide (obj < (↑cs.length : Int)))))))) (br (decide (op = (19 : Int))) (br (decide (op = (19 : Int))) (([] : List Go.Eng.Res) = [] ∧ Ent.one (SV.c (SC.v (Value.bool (exS vs ms cs fs op obj n)))) = Ent.one (SV.c (SC.v (Value.bool (decide ((0 : Int) ≤ obj) && decide (obj < (↑cs.length : Int))))))) (br (decide (op = (21 : Int))) (([] : List Go.Eng.Res) = [] ∧ Ent.one (SV.c (SC.v (Value.bool (exS vs ms cs fs op obj n)))) = Ent.one (SV.c (SC.v (Value.bool (decide ((0 : Int) ≤ obj) && decide (obj < (↑fs.length : Int))))))) (([] : List Go.Eng.Res) = [] ∧ Ent.one (SV.c (SC.v (Value.bool (exS vs ms cs fs op obj n)))) = Ent.one (SV.c (SC.v (Value.bool true)))))) (br (decide (op = (20 : Int))) (([] : List Go.Eng.Res) = [] ∧ Ent.one (SV.c (SC.v (Value.bool (exS vs ms cs fs op obj n)))) = Ent.one (SV.c (SC.v (Value.bool (decide ((0 : Int) ≤ obj) && decide (obj < (↑cs.length : Int))))))) (br (decide (op = (21 : Int))) (([] : List Go.Eng.Res) = [] ∧ Ent.one (SV.c (SC.v (Value.bool (exS vs ms cs fs op obj n)))) = Ent.one (SV.c (SC.v (Value.bool (decide ((0 : Int) ≤ obj) && decide (obj < (↑fs.length : Int))))))) (([] : List Go.Eng.Res) = [] ∧ Ent.one (SV.c (SC.v (Value.bool (exS vs ms cs fs op obj n)))) = Ent.one (SV.c (SC.v (Value.bool true))))))))) (br (decide (op = (16 : Int))) (br (decide (op = (16 : Int))) (([] : List Go.Eng.Res) = [] ∧ Ent.one (SV.c (SC.v (Value.bool (exS vs ms cs fs op obj n)))) = Ent.one (SV.c (SC.v (Value.bool (decide ((0 : Int) ≤ obj) && decide (obj < (↑ms.length : Int))))))) (br (decide (op = (18 : Int))) (br (decide (n < (0 : Int)) || decide ((↑ms.length : Int) ≤ n)) (([] : List Go.Eng.Res) = [] ∧ Ent.one (SV.c (SC.v (Value.bool (exS vs ms cs fs op obj n)))) = Ent.one (SV.c (SC.v (Value.bool false)))) (([] : List Go.Eng.Res) = [] ∧ Ent.one (SV.c (SC.v (Value.bool (exS vs ms cs fs op obj n)))) = Ent.one (SV.c (SC.v (Value.bool (decide ((0 : Int) ≤ obj) && decide (obj < (↑cs.length : Int)))))))) (br (decide (op = (19 : Int))) (br (decide (op = (19 : Int))) (([] : List Go.Eng.Res) = [] ∧ Ent.one (SV.c (SC.v (Value.bool (exS vs ms cs fs op obj n)))) = Ent.one (SV.c (SC.v (Value.bool (decide ((0 : Int) ≤ obj) && decide (obj < (↑cs.length : Int))))))) (br (decide (op = (21 : Int))) (([] : List Go.Eng.Res) = [] ∧ Ent.one (SV.c (SC.v (Value.bool (exS vs ms cs fs op obj n)))) = Ent.one (SV.c (SC.v (Value.bool (decide ((0 : Int) ≤ obj) && decide (obj < (↑fs.length : Int))))))) (([] : List Go.Eng.Res) = [] ∧ Ent.one (SV.c (SC.v (Value.bool (exS vs ms cs fs op obj n)))) = Ent.one (SV.c (SC.v (Value.bool true)))))) (br (decide (op = (20 : Int))) (([] : List Go.Eng.Res) = [] ∧ Ent.one (SV.c (SC.v (Value.bool (exS vs ms cs fs op obj n)))) = Ent.one (SV.c (SC.v (Value.bool (decide ((0 : Int) ≤ obj) && decide (obj < (↑cs.length : Int))))))) (br (decide (op = (21 : Int))) (([] : List Go.Eng.Res) = [] ∧ Ent.one (SV.c (SC.v (Value.bool (exS vs ms cs fs op obj n)))) = Ent.one (SV.c (SC.v (Value.bool (decide ((0 : Int) ≤ obj) && decide (obj < (↑fs.length : Int))))))) (([] : List Go.Eng.Res) = [] ∧ Ent.one (SV.c (SC.v (Value.bool (exS vs ms cs fs op obj n)))) = Ent.one (SV.c (SC.v (Value.bool true))))))))) (br (decide (op = (17 : Int))) (([] : List Go.Eng.Res) = [] ∧ Ent.one (SV.c (SC.v (Value.bool (exS vs ms cs fs op obj n)))) = Ent.one (SV.c (SC.v (Value.bool (decide ((0 : Int) ≤ obj) && decide (obj < (↑ms.length : Int))))))) (br (decide (op = (18 : Int))) (br (decide (n < (0 : Int)) || decide ((↑ms.length : Int) ≤ n)) (([] : List Go.Eng.Res) = [] ∧ Ent.one (SV.c (SC.v (Value.bool (exS vs ms cs fs op obj n)))) = Ent.one (SV.c (SC.v (Value.bool false)))) (([] : List Go.Eng.Res) = [] ∧ Ent.one (SV.c (SC.v (Value.bool (exS vs ms cs fs op obj n)))) = Ent.one (SV.c (SC.v (Value.bool (decide ((0 : Int) ≤ obj) && decide (obj < (↑cs.length : Int)))))))) (br (decide (op = (19 : Int))) (br (decide (op = (19 : Int))) (([] : List Go.Eng.Res) = [] ∧ Ent.one (SV.c (SC.v (Value.bool (exS vs ms cs fs op obj n)))) = Ent.one (SV.c (SC.v (Value.bool (decide ((0 : Int) ≤ obj) && decide (obj < (↑cs.length : Int))))))) (br (decide (op = (21 : Int))) (([] : List Go.Eng.Res) = [] ∧ Ent.one (SV.c (SC.v (Value.bool (exS vs ms cs fs op obj n)))) = Ent.one (SV.c (SC.v (Value.bool (decide ((0 : Int) ≤ obj) && decide (obj < (↑fs.length : Int))))))) (([] : List Go.Eng.Res) = [] ∧ Ent.one (SV.c (SC.v (Value.bool (exS vs ms cs fs op obj n)))) = Ent.one (SV.c (SC.v (Value.bool true)))))) (br (decide (op = (20 : Int))) (([] : List Go.Eng.Res) = [] ∧ Ent.one (SV.c (SC.v (Value.bool (exS vs ms cs fs op obj n)))) = Ent.one (SV.c (SC.v (Value.bool (decide ((0 : Int) ≤ obj) && decide (obj < (↑cs.length : Int))))))) (br (decide (op = (21 : Int))) (([] : List Go.Eng.Res) = [] ∧ Ent.one (SV.c (SC.v (Value.bool (exS vs ms cs fs op obj n)))) = Ent.one (SV.c (SC.v (Value.bool (decide ((0 : Int) ≤ obj) && decide (obj < (↑fs.length : Int))))))) (([] : List Go.Eng.Res) = [] ∧ Ent.one (SV.c (SC.v (Value.bool (exS vs ms cs fs op obj n)))) = Ent.one (SV.c (SC.v (Value.bool true)))))))))))) (br (decide (op = (12 : Int))) (br (decide (op = (12 : Int))) (([] : List Go.Eng.Res) = [] ∧ Ent.one (SV.c (SC.v (Value.bool (exS vs ms cs fs op obj n)))) = Ent.one (SV.c (SC.v (Value.bool (decide ((0 : Int) ≤ obj) && decide (obj < (↑vs.length : Int))))))) (br (decide (op = (15 : Int))) (br (decide (op = (15 : Int))) (([] : List Go.Eng.Res) = [] ∧ Ent.one (SV.c (SC.v (Value.bool (exS vs ms cs fs op obj n)))) = Ent.one (SV.c (SC.v (Value.bool (decide ((0 : Int) ≤ obj) && decide (obj < (↑ms.length : Int))))))) (br (decide (op = (18 : Int))) (br (decide (n < (0 : Int)) || decide ((↑ms.length : Int) ≤ n)) (([] : List Go.Eng.Res) = [] ∧ Ent.one (SV.c (SC.v (Value.bool (exS vs ms cs fs op obj n)))) = Ent.one (SV.c (SC.v (Value.bool false)))) (([] : List Go.Eng.Res) = [] ∧ Ent.one (SV.c (SC.v (Value.bool (exS vs ms cs fs op obj n)))) = Ent.one (SV.c (SC.v (Value.bool (decide ((0 : Int) ≤ obj) && decide (obj < (↑cs.length : Int)))))))) (br (decide (op = (19 : Int))) (br (decide (op = (19 : Int))) (([] : List Go.Eng.Res) = [] ∧ Ent.one (SV.c (SC.v (Value.bool (exS vs ms cs fs op obj n)))) = Ent.one (SV.c (SC.v (Value.bool (decide ((0 : Int) ≤ obj) && decide (obj < (↑cs.length : Int))))))) (br (decide (op = (21 : Int))) (([] : List Go.Eng.Res) = [] ∧ Ent.one (SV.c (SC.v (Value.bool (exS vs ms cs fs op obj n)))) = Ent.one (SV.c (SC.v (Value.bool (decide ((0 : Int) ≤ obj) && decide (obj < (↑fs.length : Int))))))) (([] : List Go.Eng.Res) = [] ∧ Ent.one (SV.c (SC.v (Value.bool (exS vs ms cs fs op obj n)))) = Ent.one (SV.c (SC.v (Value.bool true)))))) (br (decide (op = (20 : Int))) (([] : List Go.Eng.Res) = [] ∧ Ent.one (SV.c (SC.v (Value.bool (exS vs ms cs fs op obj n)))) = Ent.one (SV.c (SC.v (Value.bool (decide ((0 : Int) ≤ obj) && decide (obj < (↑cs.length : Int))))))) (br (decide (op = (21 : Int))) (([] : List Go.Eng.Res) = [] ∧ Ent.one (SV.c (SC.v (Value.bool (exS vs ms cs fs op obj n)))) = Ent.one (SV.c (SC.v (Value.bool (decide ((0 : Int) ≤ obj) && decide (obj < (↑fs.length : Int))))))) (([] : List Go.Eng.Res) = [] ∧ Ent.one (SV.c (SC.v (Value.bool (exS vs ms cs fs op obj n)))) = Ent.one (SV.c (SC.v (Value.bool true))))))))) (br (decide (op = (16 : Int))) (br (decide (op = (16 : Int))) (([] : List Go.Eng.Res) = [] ∧ Ent.one (SV.c (SC.v (Value.bool (exS vs ms cs fs op obj n)))) = Ent.one (SV.c (SC.v (Value.bool (decide ((0 : Int) ≤ obj) && decide (obj < (↑ms.length : Int))))))) (br (decide (op = (18 : Int))) (br (decide (n < (0 : Int)) || decide ((↑ms.length : Int) ≤ n)) (([] : List Go.Eng.Res) = [] ∧ Ent.one (SV.c (SC.v (Value.bool (exS vs ms cs fs op obj n)))) = Ent.one (SV.c (SC.v (Value.bool false)))) (([] : List Go.Eng.Res) = [] ∧ Ent.one (SV.c (SC.v (Value.bool (exS vs ms cs fs op obj n)))) = Ent.one (SV.c (SC.v (Value.bool (decide ((0 : Int) ≤ obj) && decide (obj < (↑cs.length : Int)))))))) (br (decide (op = (19 : Int))) (br (decide (op = (19 : Int))) (([] : List Go.Eng.Res) = [] ∧ Ent.one (SV.c (SC.v (Value.bool (exS vs ms cs fs op obj n)))) = Ent.one (SV.c (SC.v (Value.bool (decide ((0 : Int) ≤ obj) && decide (obj < (↑cs.length : Int))))))) (br (decide (op = (21 : Int))) (([] : List Go.Eng.Res) = [] ∧ Ent.one (SV.c (SC.v (Value.bool (exS vs ms cs fs op obj n)))) = Ent.one (SV.c (SC.v (Value.bool (decide ((0 : Int) ≤ obj) && decide (obj < (↑fs.length : Int))))))) (([] : List Go.Eng.Res) = [] ∧ Ent.one (SV.c (SC.v (Value.bool (exS vs ms cs fs op obj n)))) = Ent.one (SV.c (SC.v (Value.bool true)))))) (br (decide (op = (20 : Int))) (([] : List Go.Eng.Res) = [] ∧ Ent.one (SV.c (SC.v (Value.bool (exS vs ms cs fs op obj n)))) = Ent.one (SV.c (SC.v (Value.bool (decide ((0 : Int) ≤ obj) && decide (obj < (↑cs.length : Int))))))) (br (decide (op = (21 : Int))) (([] : List Go.Eng.Res) = [] ∧ Ent.one (SV.c (SC.v (Value.bool (exS vs ms cs fs op obj n)))) = Ent.one (SV.c (SC.v (Value.bool (decide ((0 : Int) ≤ obj) && decide (obj < (↑fs.length : Int))))))) (([] : List Go.Eng.Res) = [] ∧ Ent.one (SV.c (SC.v (Value.bool (exS vs ms cs fs op obj n)))) = Ent.one (SV.c (SC.v (Value.bool true))))))))) (br (decide (op = (17 : Int))) (([] : List Go.Eng.Res) = [] ∧ Ent.one (SV.c (SC.v (Value.bool (exS vs ms cs fs op obj n)))) = Ent.one (SV.c (SC.v (Value.bool (decide ((0 : Int) ≤ obj) && decide (obj < (↑ms.length : Int))))))) (br (decide (op = (18 : Int))) (br (decide (n < (0 : Int)) || decide ((↑ms.length : Int) ≤ n)) (([] : List Go.Eng.Res) = [] ∧ Ent.one (SV.c (SC.v (Value.bool (exS vs ms cs fs op obj n)))) = Ent.one (SV.c (SC.v (Value.bool false)))) (([] : List Go.Eng.Res) = [] ∧ Ent.one (SV.c (SC.v (Value.bool (exS vs ms cs fs op obj n)))) = Ent.one (SV.c (SC.v (Value.bool (decide ((0 : Int) ≤ obj) && decide (obj < (↑cs.length : Int)))))))) (br (decide (op = (19 : Int))) (br (decide (op = (19 : Int))) (([] : List Go.Eng.Res) = [] ∧ Ent.one (SV.c (SC.v (Value.bool (exS vs ms cs fs op obj n)))) = Ent.one (SV.c (SC.v (Value.bool (decide ((0 : Int) ≤ obj) && decide (obj < (↑cs.length : Int))))))) (br (decide (op = (21 : Int))) (([] : List Go.Eng.Res) = [] ∧ Ent.one (SV.c (SC.v (Value.bool (exS vs ms cs fs op obj n)))) = Ent.one (SV.c (SC.v (Value.bool (decide ((0 : Int) ≤ obj) && decide (obj < (↑fs.length : Int))))))) (([] : List Go.Eng.Res) = [] ∧ Ent.one (SV.c (SC.v (Value.bool (exS vs ms cs fs op obj n)))) = Ent.one (SV.c (SC.v (Value.bool true)))))) (br (decide (op = (20 : Int))) (([] : List Go.Eng.Res) = [] ∧ Ent.one (SV.c (SC.v (Value.bool (exS vs ms cs fs op obj n)))) = Ent.one (SV.c (SC.v (Value.bool (decide ((0 : Int) ≤ obj) && decide (obj < (↑cs.length : Int))))))) (br (decide (op = (21 : Int))) (([] : List Go.Eng.Res) = [] ∧ Ent.one (SV.c (SC.v (Value.bool (exS vs ms cs fs op obj n)))) = Ent.one (SV.c (SC.v (Value.bool (decide ((0 : Int) ≤ obj) && decide (obj < (↑fs.length : Int))))))) (([] : List Go.Eng.Res) = [] ∧ Ent.one (SV.c (SC.v (Value.bool (exS vs ms cs fs op obj n)))) = Ent.one (SV.c (SC.v (Value.bool true)))))))))))) (br (decide (op = (14 : Int))) (([] : List Go.Eng.Res) = [] ∧ Ent.one (SV.c (SC.v (Value.bool (exS vs ms cs fs op obj n)))) = Ent.one (SV.c (SC.v (Value.bool (decide ((0 : Int) ≤ obj) && decide (obj < (↑vs.length : Int))))))) (br (decide (op = (15 : Int))) (br (decide (op = (15 : Int))) (([] : List Go.Eng.Res) = [] ∧ Ent.one (SV.c (SC.v (Value.bool (exS vs ms cs fs op obj n)))) = Ent.one (SV.c (SC.v (Value.bool (decide ((0 : Int) ≤ obj) && decide (obj < (↑ms.length : Int))))))) (br (decide (op = (18 : Int))) (br (decide (n < (0 : Int)) || decide ((↑ms.length : Int) ≤ n)) (([] : List Go.Eng.Res) = [] ∧ Ent.one (SV.c (SC.v (Value.bool (exS vs ms cs fs op obj n)))) = Ent.one (SV.c (SC.v (Value.bool false)))) (([] : List Go.Eng.Res) = [] ∧ Ent.one (SV.c (SC.v (Value.bool (exS vs ms cs fs op obj n)))) = Ent.one (SV.c (SC.v (Value.bool (decide ((0 : Int) ≤ obj) && decide (obj < (↑cs.length : Int)))))))) (br (decide (op = (19 : Int))) (br (decide (op = (19 : Int))) (([] : List Go.Eng.Res) = [] ∧ Ent.one (SV.c (SC.v (Value.bool (exS vs ms cs fs op obj n)))) = Ent.one (SV.c (SC.v (Value.bool (decide ((0 : Int) ≤ obj) && decide (obj < (↑cs.length : Int))))))) (br (decide (op = (21 : Int))) (([] : List Go.Eng.Res) = [] ∧ Ent.one (SV.c (SC.v (Value.bool (exS vs ms cs fs op obj n)))) = Ent.one (SV.c (SC.v (Value.bool (decide ((0 : Int) ≤ obj) && decide (obj < (↑fs.length : Int))))))) (([] : List Go.Eng.Res) = [] ∧ Ent.one (SV.c (SC.v (Value.bool (exS vs ms cs fs op obj n)))) = Ent.one (SV.c (SC.v (Value.bool true)))))) (br (decide (op = (20 : Int))) (([] : List Go.Eng.Res) = [] ∧ Ent.one (SV.c (SC.v (Value.bool (exS vs ms cs fs op obj n)))) = Ent.one (SV.c (SC.v (Value.bool (decide ((0 : Int) ≤ obj) && decide (obj < (↑cs.length : Int))))))) (br (decide (op = (21 : Int))) (([] : List Go.Eng.Res) = [] ∧ Ent.one (SV.c (SC.v (Value.bool (exS vs ms cs fs op obj n)))) = Ent.one (SV.c (SC.v (Value.bool (decide ((0 : Int) ≤ obj) && decide (obj < (↑fs.length : Int))))))) (([] : List Go.Eng.Res) = [] ∧ Ent.one (SV.c (SC.v (Value.bool (exS vs ms cs fs op obj n)))) = Ent.one (SV.c (SC.v (Value.bool true))))))))) (br (decide (op = (16 : Int))) (br (decide (op = (16 : Int))) (([] : List Go.Eng.Res) = [] ∧ Ent.one (SV.c (SC.v (Value.bool (exS vs ms cs fs op obj n)))) = Ent.one (SV.c (SC.v (Value.bool (decide ((0 : Int) ≤ obj) && decide (obj < (↑ms.length : Int))))))) (br (decide (op = (18 : Int))) (br (decide (n < (0 : Int)) || decide ((↑ms.length : Int) ≤ n)) (([] : List Go.Eng.Res) = [] ∧ Ent.one (SV.c (SC.v (Value.bool (exS vs ms cs fs op obj n)))) = Ent.one (SV.c (SC.v (Value.bool false)))) (([] : List Go.Eng.Res) = [] ∧ Ent.one (SV.c (SC.v (Value.bool (exS vs ms cs fs op obj n)))) = Ent.one (SV.c (SC.v (Value.bool (decide ((0 : Int) ≤ obj) && decide (obj < (↑cs.length : Int)))))))) (br (decide (op = (19 : Int))) (br (decide (op = (19 : Int))) (([] : List Go.Eng.Res) = [] ∧ Ent.one (SV.c (SC.v (Value.bool (exS vs ms cs fs op obj n)))) = Ent.one (SV.c (SC.v (Value.bool (decide ((0 : Int) ≤ obj) && decide (obj < (↑cs.length : Int))))))) (br (decide (op = (21 : Int))) (([] : List Go.Eng.Res) = [] ∧ Ent.one (SV.c (SC.v (Value.bool (exS vs ms cs fs op obj n)))) = Ent.one (SV.c (SC.v (Value.bool (decide ((0 : Int) ≤ obj) && decide (obj < (↑fs.length : Int))))))) (([] : List Go.Eng.Res) = [] ∧ Ent.one (SV.c (SC.v (Value.bool (exS vs ms cs fs op obj n)))) = Ent.one (SV.c (SC.v (Value.bool true)))))) (br (decide (op = (20 : Int))) (([] : List Go.Eng.Res) = [] ∧ Ent.one (SV.c (SC.v (Value.bool (exS vs ms cs fs op obj n)))) = Ent.one (SV.c (SC.v (Value.bool (decide ((0 : Int) ≤ obj) && decide (obj < (↑cs.length : Int))))))) (br (decide (op = (21 : Int))) (([] : List Go.Eng.Res) = [] ∧ Ent.one (SV.c (SC.v (Value.bool (exS vs ms cs fs op obj n)))) = Ent.one (SV.c (SC.v (Value.bool (decide ((0 : Int) ≤ obj) && decide (obj < (↑fs.length : Int))))))) (([] : List Go.Eng.Res) = [] ∧ Ent.one (SV.c (SC.v (Value.bool (exS vs ms cs fs op obj n)))) = Ent.one (SV.c (SC.v (Value.bool true))))))))) (br (decide (op = (17 : Int))) (([] : List Go.Eng.Res) = [] ∧ Ent.one (SV.c (SC.v (Value.bool (exS vs ms cs fs op obj n)))) = Ent.one (SV.c (SC.v (Value.bool (decide ((0 : Int) ≤ obj) && decide (obj < (↑ms.length : Int))))))) (br (decide (op = (18 : Int))) (br (decide (n < (0 : Int)) || decide ((↑ms.length : Int) ≤ n)) (([] : List Go.Eng.Res) = [] ∧ Ent.one (SV.c (SC.v (Value.bool (exS vs ms cs fs op obj n)))) = Ent.one (SV.c (SC.v (Value.bool false)))) (([] : List Go.Eng.Res) = [] ∧ Ent.one (SV.c (SC.v (Value.bool (exS vs ms cs fs op obj n)))) = Ent.one (SV.c (SC.v (Value.bool (decide ((0 : Int) ≤ obj) && decide (obj < (↑cs.length : Int)))))))) (br (decide (op = (19 : Int))) (br (decide (op = (19 : Int))) (([] : List Go.Eng.Res) = [] ∧ Ent.one (SV.c (SC.v (Value.bool (exS vs ms cs fs op obj n)))) = Ent.one (SV.c (SC.v (Value.bool (decide ((0 : Int) ≤ obj) && decide (obj < (↑cs.length : Int))))))) (br (decide (op = (21 : Int))) (([] : List Go.Eng.Res) = [] ∧ Ent.one (SV.c (SC.v (Value.bool (exS vs ms cs fs op obj n)))) = Ent.one (SV.c (SC.v (Value.bool (decide ((0 : Int) ≤ obj) && decide (obj < (↑fs.length : Int))))))) (([] : List Go.Eng.Res) = [] ∧ Ent.one (SV.c (SC.v (Value.bool (exS vs ms cs fs op obj n)))) = Ent.one (SV.c (SC.v (Value.bool true)))))) (br (decide (op = (20 : Int))) (([] : List Go.Eng.Res) = [] ∧ Ent.one (SV.c (SC.v (Value.bool (exS vs ms cs fs op obj n)))) = Ent.one (SV.c (SC.v (Value.bool (decide ((0 : Int) ≤ obj) && decide (obj < (↑cs.length : Int))))))) (br (decide (op = (21 : Int))) (([] : List Go.Eng.Res) = [] ∧ Ent.one (SV.c (SC.v (Value.bool (exS vs ms cs fs op obj n)))) = Ent.one (SV.c (SC.v (Value.bool (decide ((0 : Int) ≤ obj) && decide (obj < (↑fs.length : Int))))))) (([] : List Go.Eng.Res) = [] ∧ Ent.one (SV.c (SC.v (Value.bool (exS vs ms cs fs op obj n)))) = Ent.one (SV.c (SC.v (Value.bool true)))))))))))))))) := by
  simp only [br_iff]
  repeat' (first | (refine And.intro ?_ ?_) | (intro _))
  all_goals first | rfl | (simp_all [exS, objS]; done) | (simp_all [exS, objS]; omega) | (simp_all [exS, objS]; rw [Bool.eq_iff_iff]; simp <;> omega)
set_option maxHeartbeats 2000000 in
set_option maxRecDepth 100000 in
theorem f93_met : Go.Eng.Met Tryd.prog cx0.gd 93 ctrEx :=
  met_of (cx := cx0) (n := 61) (cl := cl93) (by kernel_rfl) tis_ok trivial Tryd.func93 (by kernel_rfl) (by kernel_rfl) rfl (by kernel_rfl) (by kernel_rfl) fun d hd => by
    obtain ⟨⟨vs, ms, cs, fs, ts, ⟨⟩⟩, ⟨op, a, b, c, obj, n, fn, ord, ⟨⟩⟩, ⟨⟩⟩ := d
    exact ex_of (ann93 vs ms cs fs ts op a b c obj n fn ord) (f93_vc vs ms cs fs ts op a b c obj n fn ord) (by kernel_rfl)
end Go.Proofs.YtkgjfkdcnoockaaDoor
set_option linter.unusedSimpArgs false
set_option linter.unusedVariables false
set_option maxRecDepth 100000
namespace Go.Proofs.YtkgjfkdcnoockaaDoor
open Go Go.Eng

@[reducible] def ctrVN : CT := { ps := [.str], pre := fun d => True, res := fun d => ([], vB (validN d.1)) }
@[reducible] def cl91 : List (Nat × CT) := []
@[reducible] def ann91 (s : ByteArray) : Nat → Option (St → Ann) := fun k => match k with
  | 4 => some fun _ => .inv { α := Nat, slots := fun k => [(3, .c (.v (.int .i64 k)))], res := fun k => [], inv := fun k => k ≤ ((List.range s.size)).length ∧ ∀ j < k, (letS (byt s j) = true ∨ (j ≠ 0 ∧ okB (byt s j) = true)), meas := fun k => ((List.range s.size)).length - k }
  | _ => none
set_option maxRecDepth 100000 in
theorem f91_vc (s : ByteArray) :
    br (decide ((↑s.size : Int) < (1 : Int)) || decide ((16 : Int) < (↑s.size : Int))) (([] : List Go.Eng.Res) = [] ∧ Ent.one (SV.c (SC.v (Value.bool (validN s)))) = Ent.one (SV.c (SC.v (Value.bool false)))) ((∃ x, (x ≤ (List.range s.size).length ∧ ∀ (j : Nat), j < x → letS (byt s j) = true ∨ j ≠ (0 : Nat) ∧ okB (byt s j) = true) ∧ (SV.c (SC.v (Value.int IntKind.i64 (0 : Int))) = SV.c (SC.v (Value.int IntKind.i64 (↑x : Int))) ∧ True) ∧ ([] : List (Go.Eng.Gd × Go.Eng.Res)) = []) ∧ ∀ (x : Nat), (x ≤ (List.range s.size).length ∧ ∀ (j : Nat), j < x → letS (byt s j) = true ∨ j ≠ (0 : Nat) ∧ okB (byt s j) = true) → br (decide ((↑x : Int) < (↑s.size : Int))) (((0 : Int) ≤ (↑x : Int) ∧ (↑x : Int) < (↑s.size : Int)) ∧ ∀ (u : UInt8), s[(↑x : Int).toNat]? = some u → br (!(decide ((97 : Int) ≤ (↑u.toNat : Int)) && decide ((↑u.toNat : Int) ≤ (122 : Int)) || decide ((65 : Int) ≤ (↑u.toNat : Int)) && decide ((↑u.toNat : Int) ≤ (90 : Int))) && (decide ((↑x : Int) = (0 : Int)) || !decide ((↑u.toNat : Int) = (95 : Int)) && (decide ((↑u.toNat : Int) < (48 : Int)) || decide ((57 : Int) < (↑u.toNat : Int))))) (([] : List Go.Eng.Res) = [] ∧ Ent.one (SV.c (SC.v (Value.bool (validN s)))) = Ent.one (SV.c (SC.v (Value.bool false)))) (InR IntKind.i64 ((↑x : Int) + (1 : Int)) ∧ ∃ x', (x' ≤ (List.range s.size).length ∧ ∀ (j : Nat), j < x' → letS (byt s j) = true ∨ j ≠ (0 : Nat) ∧ okB (byt s j) = true) ∧ (SV.c (SC.v (Value.int IntKind.i64 ((↑x : Int) + (1 : Int)))) = SV.c (SC.v (Value.int IntKind.i64 (↑x' : Int))) ∧ True) ∧ ([] : List (Go.Eng.Gd × Go.Eng.Res)) = [] ∧ (List.range s.size).length - x' < (List.range s.size).length - x)) (([] : List Go.Eng.Res) = [] ∧ Ent.one (SV.c (SC.v (Value.bool (validN s)))) = Ent.one (SV.c (SC.v (Value.bool true))))) := by
  have hl : (List.range s.size).length = s.size := List.length_range
  rw [hl]
  by_cases hs : ¬ (1 ≤ s.size ∧ s.size ≤ 16)
  · have : validN s = false := by unfold validN; rw [decide_eq_false hs]; rfl
    rw [this]
    refine br_iff.2 ⟨fun _ => ⟨rfl, rfl⟩, fun h => ?_⟩
    simp only [Bool.or_eq_false_iff, decide_eq_false_iff_not] at h
    omega
  have hs := Classical.not_not.1 hs
  refine br_iff.2 ⟨fun h => ?_, fun _ => ⟨⟨0, ⟨by omega, fun j hj => by omega⟩, ⟨rfl, trivial⟩, rfl⟩, fun k hk => br_iff.2 ⟨fun h => ?_, fun h => ?_⟩⟩⟩
  · simp only [Bool.or_eq_true, decide_eq_true_eq] at h
    omega
  · simp only [decide_eq_true_eq] at h
    have hN : (↑k : Int).toNat = k := by omega
    rw [hN]
    refine ⟨by omega, fun u hu => ?_⟩
    have eu := byt_of hu
    have eL : letS (byt s k) = (decide (97 ≤ (↑u.toNat : Int)) && decide ((↑u.toNat : Int) ≤ 122) || decide (65 ≤ (↑u.toNat : Int)) && decide ((↑u.toNat : Int) ≤ 90)) := by
      rw [eu]; unfold letS; rw [Bool.eq_iff_iff]; simp
    rw [← eL]
    refine br_iff.2 ⟨fun h2 => ⟨rfl, ?_⟩, fun h2 => ⟨InR_i64.2 (by omega), k + 1, ⟨by omega, fun j hj => ?_⟩, ⟨rfl, trivial⟩, rfl, by omega⟩⟩
    · have : validN s = false := by
        simp only [Bool.and_eq_true, Bool.or_eq_true, Bool.not_eq_true', decide_eq_true_eq, decide_eq_false_iff_not] at h2
        obtain ⟨a, b⟩ := h2
        unfold validN
        rcases b with b | b
        · have : k = 0 := by omega
          subst this
          rw [a]; simp
        · have hb : okB (byt s k) = false := by
            unfold okB
            rw [a, eu]; simp; omega
          rw [show ((List.range s.size).all fun i => okB (byt s i)) = false from List.all_eq_false.2 ⟨k, by simp; omega, by rw [hb]; simp⟩, Bool.and_false]
      rw [this]
    · by_cases hjk : j = k
      · subst hjk
        cases hA : letS (byt s j) with
        | true => exact .inl rfl
        | false =>
          rw [hA] at h2
          refine .inr ?_
          simp at h2
          refine ⟨by omega, ?_⟩
          unfold okB
          rw [eu]; simp; omega
      · exact hk.2 j (by omega)
  · simp only [decide_eq_false_iff_not] at h
    have : validN s = true := by
      unfold validN
      have h0 : letS (byt s 0) = true := (hk.2 0 (by omega)).elim id fun q => absurd rfl q.1
      rw [decide_eq_true hs, h0]
      simp only [Bool.true_and]
      rw [List.all_eq_true]
      intro i hi
      simp at hi
      rcases hk.2 i (by omega) with q | q
      · unfold okB; rw [q]; rfl
      · exact q.2
    rw [this]; exact ⟨rfl, rfl⟩
set_option maxHeartbeats 2000000 in
set_option maxRecDepth 100000 in
theorem f91_met : Go.Eng.Met Tryd.prog cx0.gd 91 ctrVN :=
  met_of (cx := cx0) (n := 55) (cl := cl91) (by kernel_rfl) tis_ok trivial Tryd.func91 (by kernel_rfl) (by kernel_rfl) rfl (by kernel_rfl) (by kernel_rfl) fun d hd => by
    obtain ⟨s, ⟨⟩⟩ := d
    exact ex_of (ann91 s) (f91_vc s) (by kernel_rfl)
@[reducible] def ctrNms : CT := { ps := [.sl .str], pre := fun d => d.1.length ≤ 1000000, res := fun d => ([], .tup [.c (.v (.int .i64 (if (nmsE d.1).1 = 0 then 0 else (nmsE d.1).2))), .c (.v (.int .i64 (nmsE d.1).1))]) }
@[reducible] def cl72 : List (Nat × CT) := [(91, ctrVN)]
@[reducible] def ann72 (l : List ByteArray) : Nat → Option (St → Ann) := fun k => match k with
  | 2 => some fun _ => .inv { α := Nat, slots := fun k => [(4, .c (.v (.int .i64 k)))], res := fun _ => [], inv := fun k => k ≤ l.length ∧ ∀ j < k, validN (l.getD j ⟨#[]⟩) = true ∧ hasS (l.take j) (l.getD j ⟨#[]⟩) = false, meas := fun k => l.length - k }
  | 7 => some fun s => .inv { α := Nat, slots := fun k => [(5, .c (.v (.int .i64 k)))], res := fun _ => [], inv := fun k => k ≤ (slotI s 4).toNat ∧ ∀ j < k, ¬ l.getD j ⟨#[]⟩ = l.getD ((slotI s 4).toNat) ⟨#[]⟩, meas := fun k => (slotI s 4).toNat - k }
  | _ => none
set_option maxRecDepth 100000 in
theorem f72_vc (l : List ByteArray) (hpre : ctrNms.pre (l, ())) :
    (∃ x, (x ≤ l.length ∧ ∀ (j : Nat), j < x → validN (l.getD j { data := #[] : ByteArray }) = true ∧ hasS (List.take j l) (l.getD j { data := #[] : ByteArray }) = false) ∧ (SV.c (SC.v (Value.int IntKind.i64 (0 : Int))) = SV.c (SC.v (Value.int IntKind.i64 (↑x : Int))) ∧ True) ∧ ([] : List (Go.Eng.Gd × Go.Eng.Res)) = []) ∧ ∀ (x : Nat), (x ≤ l.length ∧ ∀ (j : Nat), j < x → validN (l.getD j { data := #[] : ByteArray }) = true ∧ hasS (List.take j l) (l.getD j { data := #[] : ByteArray }) = false) → br (decide ((↑x : Int) < (↑l.length : Int))) (((0 : Int) ≤ (↑x : Int) ∧ (↑x : Int) < (↑l.length : Int)) ∧ ∀ (d : ByteArray), l[(↑x : Int).toNat]? = some d → True ∧ br (!validN d) (([] : List Go.Eng.Res) = [] ∧ Ent.tup [SV.c (SC.v (Value.int IntKind.i64 (if (nmsE l).fst = (0 : Int) then (0 : Int) else (nmsE l).snd))), SV.c (SC.v (Value.int IntKind.i64 (nmsE l).fst))] = Ent.tup [SV.c (SC.v (Value.int IntKind.i64 (↑x : Int))), SV.c (SC.v (Value.int IntKind.i64 (6 : Int)))]) ((∃ x_1, (x_1 ≤ (↑x : Int).toNat ∧ ∀ (j : Nat), j < x_1 → ¬l.getD j { data := #[] : ByteArray } = l.getD (↑x : Int).toNat { data := #[] : ByteArray }) ∧ (SV.c (SC.v (Value.int IntKind.i64 (0 : Int))) = SV.c (SC.v (Value.int IntKind.i64 (↑x_1 : Int))) ∧ True) ∧ ([] : List (Go.Eng.Gd × Go.Eng.Res)) = []) ∧ ∀ (x_1 : Nat), (x_1 ≤ (↑x : Int).toNat ∧ ∀ (j : Nat), j < x_1 → ¬l.getD j { data := #[] : ByteArray } = l.getD (↑x : Int).toNat { data := #[] : ByteArray }) → br (decide ((↑x_1 : Int) < (↑x : Int))) (((0 : Int) ≤ (↑x_1 : Int) ∧ (↑x_1 : Int) < (↑l.length : Int)) ∧ ∀ (d_1 : ByteArray), l[(↑x_1 : Int).toNat]? = some d_1 → ((0 : Int) ≤ (↑x : Int) ∧ (↑x : Int) < (↑l.length : Int)) ∧ ∀ (d_2 : ByteArray), l[(↑x : Int).toNat]? = some d_2 → br (decide (d_1 = d_2)) (([] : List Go.Eng.Res) = [] ∧ Ent.tup [SV.c (SC.v (Value.int IntKind.i64 (if (nmsE l).fst = (0 : Int) then (0 : Int) else (nmsE l).snd))), SV.c (SC.v (Value.int IntKind.i64 (nmsE l).fst))] = Ent.tup [SV.c (SC.v (Value.int IntKind.i64 (↑x : Int))), SV.c (SC.v (Value.int IntKind.i64 (7 : Int)))]) (InR IntKind.i64 ((↑x_1 : Int) + (1 : Int)) ∧ ∃ x', (x' ≤ (↑x : Int).toNat ∧ ∀ (j : Nat), j < x' → ¬l.getD j { data := #[] : ByteArray } = l.getD (↑x : Int).toNat { data := #[] : ByteArray }) ∧ (SV.c (SC.v (Value.int IntKind.i64 ((↑x_1 : Int) + (1 : Int)))) = SV.c (SC.v (Value.int IntKind.i64 (↑x' : Int))) ∧ True) ∧ ([] : List (Go.Eng.Gd × Go.Eng.Res)) = [] ∧ (↑x : Int).toNat - x' < (↑x : Int).toNat - x_1)) (InR IntKind.i64 ((↑x : Int) + (1 : Int)) ∧ ∃ x', (x' ≤ l.length ∧ ∀ (j : Nat), j < x' → validN (l.getD j { data := #[] : ByteArray }) = true ∧ hasS (List.take j l) (l.getD j { data := #[] : ByteArray }) = false) ∧ (SV.c (SC.v (Value.int IntKind.i64 ((↑x : Int) + (1 : Int)))) = SV.c (SC.v (Value.int IntKind.i64 (↑x' : Int))) ∧ True) ∧ ([] : List (Go.Eng.Gd × Go.Eng.Res)) = [] ∧ l.length - x' < l.length - x))) (([] : List Go.Eng.Res) = [] ∧ Ent.tup [SV.c (SC.v (Value.int IntKind.i64 (if (nmsE l).fst = (0 : Int) then (0 : Int) else (nmsE l).snd))), SV.c (SC.v (Value.int IntKind.i64 (nmsE l).fst))] = Ent.tup [SV.c (SC.v (Value.int IntKind.i64 (0 : Int))), SV.c (SC.v (Value.int IntKind.i64 (0 : Int)))]) := by
  have hp : l.length ≤ 1000000 := hpre
  refine ⟨⟨0, ⟨by omega, fun j hj => by omega⟩, ⟨rfl, trivial⟩, rfl⟩, fun k hk => br_iff.2 ⟨fun h => ?_, fun h => ?_⟩⟩
  · simp only [decide_eq_true_eq] at h
    have hN : (↑k : Int).toNat = k := by omega
    rw [hN]
    refine ⟨by omega, fun d hd => ?_⟩
    have hg : l.getD k ⟨#[]⟩ = d := by rw [List.getD_eq_getElem?_getD, hd]; rfl
    refine ⟨trivial, br_iff.2 ⟨fun h2 => ⟨rfl, ?_⟩, fun h2 => ⟨⟨0, ⟨by omega, fun j hj => by omega⟩, ⟨rfl, trivial⟩, rfl⟩, fun m hm => br_iff.2 ⟨fun h3 => ?_, fun h3 => ⟨InR_i64.2 (by omega), k + 1, ⟨by omega, fun j hj => ?_⟩, ⟨rfl, trivial⟩, rfl, by omega⟩⟩⟩⟩⟩
    · have h2 : validN d = false := by simpa using h2
      rw [nms_found (by omega) hk.2 (.inl (by rw [hg]; exact h2)), hg, h2]; rfl
    · simp only [decide_eq_true_eq] at h3
      have hM : (↑m : Int).toNat = m := by omega
      rw [hM]
      refine ⟨by omega, fun d1 hd1 => ⟨by omega, fun d2 hd2 => ?_⟩⟩
      rw [hd] at hd2; cases hd2
      have hg1 : l.getD m ⟨#[]⟩ = d1 := by rw [List.getD_eq_getElem?_getD, hd1]; rfl
      refine br_iff.2 ⟨fun h4 => ⟨rfl, ?_⟩, fun h4 => ⟨InR_i64.2 (by omega), m + 1, ⟨by omega, fun j hj => ?_⟩, ⟨rfl, trivial⟩, rfl, by omega⟩⟩
      · have h3' : hasS (l.take k) d = true := List.any_eq_true.2 ⟨d1, List.mem_of_getElem? (i := m) (by rw [List.getElem?_take_of_lt (by omega)]; exact hd1), h4⟩
        have h2v : validN d = true := by simpa using h2
        rw [nms_found (by omega) hk.2 (.inr (by rw [hg]; exact h3')), hg, h2v]; rfl
      · by_cases hjm : j = m
        · subst hjm
          rw [hg1, hg]; simpa using h4
        · exact hm.2 j (by omega)
    · simp only [decide_eq_false_iff_not] at h3
      by_cases hjk : j = k
      · subst hjk
        rw [hg]
        refine ⟨by simpa using h2, ?_⟩
        unfold hasS
        rw [List.any_eq_false]
        intro y hy
        obtain ⟨i, hi⟩ := List.getElem?_of_mem hy
        have hij : i < j := by
          have := (List.getElem?_eq_some_iff.1 hi).1
          simp at this; omega
        rw [List.getElem?_take_of_lt hij] at hi
        have := hm.2 i (by omega)
        rw [hg, List.getD_eq_getElem?_getD, hi] at this
        simpa using this
      · exact hk.2 j (by omega)
  · simp only [decide_eq_false_iff_not] at h
    rw [nms_none fun j hj => hk.2 j (by omega)]; exact ⟨rfl, rfl⟩
set_option maxHeartbeats 2000000 in
set_option maxRecDepth 100000 in
theorem f72_met : Go.Eng.Met Tryd.prog cx0.gd 72 ctrNms :=
  met_of (cx := cx0) (n := 34) (cl := cl72) (by kernel_rfl) tis_ok ⟨f91_met, trivial⟩ Tryd.func72 (by kernel_rfl) (by kernel_rfl) rfl (by kernel_rfl) (by kernel_rfl) fun d hd => by
    obtain ⟨l, ⟨⟩⟩ := d
    exact ex_of (ann72 l) (f72_vc l hd) (by kernel_rfl)
@[reducible] def ctrLs : CT := { ps := [shP], pre := fun d => d.1.1.length ≤ 1000000 ∧ d.1.2.2.2.1.length ≤ 1000000, res := fun d => ([.row 9 .str (nmsV d.1.1), .row 9 .str (nmsF d.1.2.2.2.1)], .tup [.c (.row 0), .c (.row 1)]) }
@[reducible] def cl71 : List (Nat × CT) := []
@[reducible] def ann71 (vs : List VD) (ms : List ByteArray) (cs : List ByteArray) (fs : List FD) (ts : List SD) : Nat → Option (St → Ann) := fun k => match k with
  | 3 => some fun _ => .inv { α := Nat, slots := fun k => [(6, .c (.v (.int .i64 k))), (4, .c (.row 1))], res := fun k => [(1, .row 9 .str (nmsV (vs.take k)))], inv := fun k => k ≤ vs.length, meas := fun k => vs.length - k, nil := [(4, 9, .str)] }
  | 7 => some fun _ => .inv { α := Nat, slots := fun k => [(7, .c (.v (.int .i64 k))), (5, .c (.row 2))], res := fun k => [(2, .row 9 .str (nmsF (fs.take k)))], inv := fun k => k ≤ fs.length, meas := fun k => fs.length - k, nil := [(5, 9, .str)] }
  | _ => none
set_option maxRecDepth 100000 in
theorem f71_vc (vs : List VD) (ms : List ByteArray) (cs : List ByteArray) (fs : List FD) (ts : List SD) (hpre : ctrLs.pre ((vs, ms, cs, fs, ts, ()), ())) :
    (∃ x, x ≤ vs.length ∧ (SV.c (SC.v (Value.int IntKind.i64 (0 : Int))) = SV.c (SC.v (Value.int IntKind.i64 (↑x : Int))) ∧ SV.c (SC.row (Nat.succ (0 : Nat))) = SV.c (SC.row (1 : Nat)) ∧ True) ∧ [(([] : Go.Eng.Gd), Res.blk (27 : Nat) [SC.sl (Sh.str.pair (I6.pair Sh.unit)) vs, SC.sl Sh.str ms, SC.sl Sh.str cs, SC.sl (Sh.str.pair (shI.sl.pair Sh.unit)) fs, SC.sl (I6.pair (I6.pair Sh.unit)) ts]), (([] : Go.Eng.Gd), Res.row (9 : TypeId) Sh.str [])] = [(([] : Go.Eng.Gd), Res.blk (27 : Nat) [SC.sl (Sh.str.pair (I6.pair Sh.unit)) vs, SC.sl Sh.str ms, SC.sl Sh.str cs, SC.sl (Sh.str.pair (shI.sl.pair Sh.unit)) fs, SC.sl (I6.pair (I6.pair Sh.unit)) ts]), (([] : Go.Eng.Gd), Res.row (9 : TypeId) Sh.str (nmsV (List.take x vs)))]) ∧ ∀ (x : Nat), x ≤ vs.length → br (decide ((↑x : Int) < (↑vs.length : Int))) (((0 : Int) ≤ (↑x : Int) ∧ (↑x : Int) < (↑vs.length : Int)) ∧ ∀ (d : Sh.str.den × (I6.pair Sh.unit).den), vs[(↑x : Int).toNat]? = some d → InA (List.length (nmsV (List.take x vs)) + List.length ([d.fst])) (16 : Nat) ∧ InR IntKind.i64 ((↑x : Int) + (1 : Int)) ∧ ∃ x', x' ≤ vs.length ∧ (SV.c (SC.v (Value.int IntKind.i64 ((↑x : Int) + (1 : Int)))) = SV.c (SC.v (Value.int IntKind.i64 (↑x' : Int))) ∧ SV.c (SC.row (1 : Nat)) = SV.c (SC.row (1 : Nat)) ∧ True) ∧ [(([] : Go.Eng.Gd), Res.blk (27 : Nat) [SC.sl (Sh.str.pair (I6.pair Sh.unit)) vs, SC.sl Sh.str ms, SC.sl Sh.str cs, SC.sl (Sh.str.pair (shI.sl.pair Sh.unit)) fs, SC.sl (I6.pair (I6.pair Sh.unit)) ts]), (([] : Go.Eng.Gd), Res.row (9 : TypeId) Sh.str (nmsV (List.take x vs) ++ [d.fst]))] = [(([] : Go.Eng.Gd), Res.blk (27 : Nat) [SC.sl (Sh.str.pair (I6.pair Sh.unit)) vs, SC.sl Sh.str ms, SC.sl Sh.str cs, SC.sl (Sh.str.pair (shI.sl.pair Sh.unit)) fs, SC.sl (I6.pair (I6.pair Sh.unit)) ts]), (([] : Go.Eng.Gd), Res.row (9 : TypeId) Sh.str (nmsV (List.take x' vs)))] ∧ vs.length - x' < vs.length - x) ((∃ x_1, x_1 ≤ fs.length ∧ (SV.c (SC.v (Value.int IntKind.i64 (0 : Int))) = SV.c (SC.v (Value.int IntKind.i64 (↑x_1 : Int))) ∧ SV.c (SC.row (Nat.succ (0 : Nat)).succ) = SV.c (SC.row (2 : Nat)) ∧ True) ∧ [(([] : Go.Eng.Gd), Res.blk (27 : Nat) [SC.sl (Sh.str.pair (I6.pair Sh.unit)) vs, SC.sl Sh.str ms, SC.sl Sh.str cs, SC.sl (Sh.str.pair (shI.sl.pair Sh.unit)) fs, SC.sl (I6.pair (I6.pair Sh.unit)) ts]), (([] : Go.Eng.Gd), Res.row (9 : TypeId) Sh.str (nmsV (List.take x vs))), (([] : Go.Eng.Gd), Res.row (9 : TypeId) Sh.str [])] = [(([] : Go.Eng.Gd), Res.blk (27 : Nat) [SC.sl (Sh.str.pair (I6.pair Sh.unit)) vs, SC.sl Sh.str ms, SC.sl Sh.str cs, SC.sl (Sh.str.pair (shI.sl.pair Sh.unit)) fs, SC.sl (I6.pair (I6.pair Sh.unit)) ts]), (([] : Go.Eng.Gd), Res.row (9 : TypeId) Sh.str (nmsV (List.take x vs))), (([] : Go.Eng.Gd), Res.row (9 : TypeId) Sh.str (nmsF (List.take x_1 fs)))]) ∧ ∀ (x_1 : Nat), x_1 ≤ fs.length → br (decide ((↑x_1 : Int) < (↑fs.length : Int))) (((0 : Int) ≤ (↑x_1 : Int) ∧ (↑x_1 : Int) < (↑fs.length : Int)) ∧ ∀ (d : Sh.str.den × (shI.sl.pair Sh.unit).den), fs[(↑x_1 : Int).toNat]? = some d → InA (List.length (nmsF (List.take x_1 fs)) + List.length ([d.fst])) (16 : Nat) ∧ InR IntKind.i64 ((↑x_1 : Int) + (1 : Int)) ∧ ∃ x', x' ≤ fs.length ∧ (SV.c (SC.v (Value.int IntKind.i64 ((↑x_1 : Int) + (1 : Int)))) = SV.c (SC.v (Value.int IntKind.i64 (↑x' : Int))) ∧ SV.c (SC.row (2 : Nat)) = SV.c (SC.row (2 : Nat)) ∧ True) ∧ [(([] : Go.Eng.Gd), Res.blk (27 : Nat) [SC.sl (Sh.str.pair (I6.pair Sh.unit)) vs, SC.sl Sh.str ms, SC.sl Sh.str cs, SC.sl (Sh.str.pair (shI.sl.pair Sh.unit)) fs, SC.sl (I6.pair (I6.pair Sh.unit)) ts]), (([] : Go.Eng.Gd), Res.row (9 : TypeId) Sh.str (nmsV (List.take x vs))), (([] : Go.Eng.Gd), Res.row (9 : TypeId) Sh.str (nmsF (List.take x_1 fs) ++ [d.fst]))] = [(([] : Go.Eng.Gd), Res.blk (27 : Nat) [SC.sl (Sh.str.pair (I6.pair Sh.unit)) vs, SC.sl Sh.str ms, SC.sl Sh.str cs, SC.sl (Sh.str.pair (shI.sl.pair Sh.unit)) fs, SC.sl (I6.pair (I6.pair Sh.unit)) ts]), (([] : Go.Eng.Gd), Res.row (9 : TypeId) Sh.str (nmsV (List.take x vs))), (([] : Go.Eng.Gd), Res.row (9 : TypeId) Sh.str (nmsF (List.take x' fs)))] ∧ fs.length - x' < fs.length - x_1) ([Res.row (9 : TypeId) Sh.str (nmsV vs), Res.row (9 : TypeId) Sh.str (nmsF fs)] = [Res.row (9 : TypeId) Sh.str (nmsV (List.take x vs)), Res.row (9 : TypeId) Sh.str (nmsF (List.take x_1 fs))] ∧ Ent.tup [SV.c (SC.row (0 : Nat)), SV.c (SC.row (1 : Nat))] = Ent.tup [SV.c (SC.row (0 : Nat)), SV.c (SC.row (Nat.succ (0 : Nat)))])) := by
  obtain ⟨hp1, hp2⟩ : vs.length ≤ 1000000 ∧ fs.length ≤ 1000000 := hpre
  refine ⟨⟨0, by omega, ⟨rfl, rfl, trivial⟩, rfl⟩, fun k hk => br_iff.2 ⟨fun h => ?_, fun h => ⟨⟨0, by omega, ⟨rfl, rfl, trivial⟩, rfl⟩, fun m hm => br_iff.2 ⟨fun h2 => ?_, fun h2 => ?_⟩⟩⟩⟩
  · simp only [decide_eq_true_eq] at h
    refine ⟨by omega, fun d hd => ?_⟩
    have hd : vs[k]? = some d := by simpa using hd
    have e : nmsV (vs.take (k + 1)) = nmsV (vs.take k) ++ [d.1] := by
      unfold nmsV
      rw [List.take_add_one, hd]; simp
    refine ⟨?_, InR_i64.2 (by omega), k + 1, by omega, ⟨rfl, rfl, trivial⟩, ?_, by omega⟩
    · have : (nmsV (vs.take k)).length ≤ 1000000 := by simp [nmsV]; omega
      exact InA_iff.2 (by simp only [List.length_cons, List.length_nil]; omega)
    · rw [e]
  · simp only [decide_eq_true_eq] at h2
    refine ⟨by omega, fun d hd => ?_⟩
    have hd : fs[m]? = some d := by simpa using hd
    have e : nmsF (fs.take (m + 1)) = nmsF (fs.take m) ++ [d.1] := by
      unfold nmsF
      rw [List.take_add_one, hd]; simp
    refine ⟨?_, InR_i64.2 (by omega), m + 1, by omega, ⟨rfl, rfl, trivial⟩, ?_, by omega⟩
    · have : (nmsF (fs.take m)).length ≤ 1000000 := by simp [nmsF]; omega
      exact InA_iff.2 (by simp only [List.length_cons, List.length_nil]; omega)
    · rw [e]
  · simp only [decide_eq_false_iff_not] at h h2
    rw [List.take_of_length_le (by omega), List.take_of_length_le (by omega)]; exact ⟨rfl, rfl⟩
set_option maxHeartbeats 2000000 in
set_option maxRecDepth 100000 in
theorem f71_met : Go.Eng.Met Tryd.prog cx0.gd 71 ctrLs :=
  met_of (cx := cx0) (n := 42) (cl := cl71) (by kernel_rfl) tis_ok trivial Tryd.func71 (by kernel_rfl) (by kernel_rfl) rfl (by kernel_rfl) (by kernel_rfl) fun d hd => by
    obtain ⟨⟨vs, ms, cs, fs, ts, ⟨⟩⟩, ⟨⟩⟩ := d
    exact ex_of (ann71 vs ms cs fs ts) (f71_vc vs ms cs fs ts hd) (by kernel_rfl)
/-- The first fault of a function's code, and its place. -/
def cdS (vs : List VD) (ms cs : List ByteArray) (fs : List FD) (l : List ID) : Int × Int := if 64 < l.length then (4, -1) else match l.findIdx? (fun i => decide (ciI vs ms cs fs i l.length ≠ 0)) with
  | some k => (ciI vs ms cs fs (l.getD k (0, 0, 0, 0, 0, 0, 0, 0, ())) l.length, k)
  | none => (0, -1)
theorem cd_found {vs : List VD} {ms cs : List ByteArray} {fs : List FD} {l : List ID} {k : Nat} {d : ID} (hl : ¬ 64 < l.length) (hd : l[k]? = some d) (hb : ciI vs ms cs fs d l.length ≠ 0) (hn : ∀ j < k, ∀ i, l[j]? = some i → ciI vs ms cs fs i l.length = 0) : cdS vs ms cs fs l = (ciI vs ms cs fs d l.length, (k : Int)) := by
  have hlt : k < l.length := (List.getElem?_eq_some_iff.1 hd).1
  have : l.findIdx? (fun i => decide (ciI vs ms cs fs i l.length ≠ 0)) = some k := by
    rw [List.findIdx?_eq_some_iff_getElem]
    refine ⟨hlt, by rw [(List.getElem?_eq_some_iff.1 hd).2]; simpa using hb, fun j hj => ?_⟩
    have := hn j hj l[j] (List.getElem?_eq_getElem (by omega))
    simpa using this
  unfold cdS
  rw [if_neg hl, this]
  show (ciI vs ms cs fs (l.getD k _) l.length, (k : Int)) = _
  rw [List.getD_eq_getElem?_getD, hd]; rfl
theorem cd_none {vs : List VD} {ms cs : List ByteArray} {fs : List FD} {l : List ID} (hl : ¬ 64 < l.length) (hn : ∀ (j : Nat) i, l[j]? = some i → ciI vs ms cs fs i l.length = 0) : cdS vs ms cs fs l = (0, -1) := by
  have : l.findIdx? (fun i => decide (ciI vs ms cs fs i l.length ≠ 0)) = none := by
    rw [List.findIdx?_eq_none_iff]
    intro y hy
    obtain ⟨j, hj⟩ := List.getElem?_of_mem hy
    simpa using hn j y hj
  unfold cdS
  rw [if_neg hl, this]
theorem ci_1 {vs : List VD} {ms cs : List ByteArray} {fs : List FD} {d : ID} {m : Int} (h : chkI d ≠ 0) : ciI vs ms cs fs d m = chkI d := by unfold ciI ciS; rw [if_pos h]
theorem ci_2 {vs : List VD} {ms cs : List ByteArray} {fs : List FD} {d : ID} {m : Int} (h : chkI d = 0) (h2 : exS vs ms cs fs d.1 d.2.2.2.2.1 d.2.2.2.2.2.1 = false) : ciI vs ms cs fs d m = 11 := by
  unfold exS at h2
  unfold ciI ciS
  rw [if_neg (by simpa using h)]
  split
  · rfl
  · rename_i h3
    rw [decide_eq_false h3] at h2
    rw [Bool.not_false, Bool.true_and, Bool.not_eq_false'] at h2
    rw [if_pos (of_decide_eq_true h2)]
theorem ci_3 {vs : List VD} {ms cs : List ByteArray} {fs : List FD} {d : ID} {m : Int} (h : chkI d = 0) (h2 : exS vs ms cs fs d.1 d.2.2.2.2.1 d.2.2.2.2.2.1 = true) : ciI vs ms cs fs d m = if (d.1 = 4 ∨ d.1 = 5) ∧ (d.2.2.2.2.2.1 < 0 ∨ m < d.2.2.2.2.2.1) then 12 else 0 := by
  unfold exS at h2
  rw [Bool.and_eq_true, Bool.not_eq_true', Bool.not_eq_true'] at h2
  unfold ciI ciS
  rw [if_neg (by simpa using h), if_neg (of_decide_eq_false h2.1), if_neg (of_decide_eq_false h2.2)]
@[reducible] def ctrCd : CT := { ps := [shP, shF], pre := fun d => True, res := fun d => ([], .tup [.c (.v (.int .i64 (cdS d.1.1 d.1.2.1 d.1.2.2.1 d.1.2.2.2.1 d.2.1.2.1).1)), .c (.v (.int .i64 (cdS d.1.1 d.1.2.1 d.1.2.2.1 d.1.2.2.2.1 d.2.1.2.1).2))]) }
@[reducible] def cl74 : List (Nat × CT) := [(92, ct12), (93, ctrEx)]
@[reducible] def ann74 (vs : List VD) (ms : List ByteArray) (cs : List ByteArray) (fs : List FD) (ts : List SD) (nm : ByteArray) (l : List ID) : Nat → Option (St → Ann) := fun k => match k with
  | 4 => some fun _ => .inv { α := Nat, slots := fun k => [(6, .c (.v (.int .i64 k)))], res := fun k => [], inv := fun k => k ≤ (l).length ∧ ∀ j < k, ∀ i, l[j]? = some i → ciI vs ms cs fs i l.length = 0, meas := fun k => (l).length - k }
  | _ => none
set_option maxRecDepth 100000 in
theorem f74_vc (vs : List VD) (ms : List ByteArray) (cs : List ByteArray) (fs : List FD) (ts : List SD) (nm : ByteArray) (l : List ID) :
    br (decide ((64 : Int) < (↑l.length : Int))) (([] : List Go.Eng.Res) = [] ∧ Ent.tup [SV.c (SC.v (Value.int IntKind.i64 (cdS vs ms cs fs l).fst)), SV.c (SC.v (Value.int IntKind.i64 (cdS vs ms cs fs l).snd))] = Ent.tup [SV.c (SC.v (Value.int IntKind.i64 (4 : Int))), SV.c (SC.v (Value.int IntKind.i64 (-1 : Int)))]) ((∃ x, (x ≤ l.length ∧ ∀ (j : Nat), j < x → ∀ (i : Int × Int × Int × Int × Int × Int × Int × Int × Unit), l[j]? = some i → ciS vs ms cs fs (chkS i.fst i.snd.fst i.snd.snd.fst i.snd.snd.snd.fst i.snd.snd.snd.snd.fst i.snd.snd.snd.snd.snd.fst i.snd.snd.snd.snd.snd.snd.fst i.snd.snd.snd.snd.snd.snd.snd.fst) i.fst i.snd.snd.snd.snd.fst i.snd.snd.snd.snd.snd.fst (↑l.length : Int) = (0 : Int)) ∧ (SV.c (SC.v (Value.int IntKind.i64 (0 : Int))) = SV.c (SC.v (Value.int IntKind.i64 (↑x : Int))) ∧ True) ∧ [(([] : Go.Eng.Gd), Res.blk (27 : Nat) [SC.sl (Sh.str.pair (I6.pair Sh.unit)) vs, SC.sl Sh.str ms, SC.sl Sh.str cs, SC.sl (Sh.str.pair (shI.sl.pair Sh.unit)) fs, SC.sl (I6.pair (I6.pair Sh.unit)) ts]), (([] : Go.Eng.Gd), Res.blk (58 : Nat) [SC.v (Value.string nm), SC.sl shI l])] = [(([] : Go.Eng.Gd), Res.blk (27 : Nat) [SC.sl (Sh.str.pair (I6.pair Sh.unit)) vs, SC.sl Sh.str ms, SC.sl Sh.str cs, SC.sl (Sh.str.pair (shI.sl.pair Sh.unit)) fs, SC.sl (I6.pair (I6.pair Sh.unit)) ts]), (([] : Go.Eng.Gd), Res.blk (58 : Nat) [SC.v (Value.string nm), SC.sl shI l])]) ∧ ∀ (x : Nat), (x ≤ l.length ∧ ∀ (j : Nat), j < x → ∀ (i : Int × Int × Int × Int × Int × Int × Int × Int × Unit), l[j]? = some i → ciS vs ms cs fs (chkS i.fst i.snd.fst i.snd.snd.fst i.snd.snd.snd.fst i.snd.snd.snd.snd.fst i.snd.snd.snd.snd.snd.fst i.snd.snd.snd.snd.snd.snd.fst i.snd.snd.snd.snd.snd.snd.snd.fst) i.fst i.snd.snd.snd.snd.fst i.snd.snd.snd.snd.snd.fst (↑l.length : Int) = (0 : Int)) → br (decide ((↑x : Int) < (↑l.length : Int))) (((0 : Int) ≤ (↑x : Int) ∧ (↑x : Int) < (↑l.length : Int)) ∧ ∀ (d : I6.den × (I6.pair (I6.pair (I6.pair (I6.pair (I6.pair (I6.pair (I6.pair Sh.unit))))))).den), l[(↑x : Int).toNat]? = some d → True ∧ br (!decide (chkS (d.fst, d.snd.fst, d.snd.snd.fst, d.snd.snd.snd.fst, d.snd.snd.snd.snd.fst, d.snd.snd.snd.snd.snd.fst, d.snd.snd.snd.snd.snd.snd.fst, d.snd.snd.snd.snd.snd.snd.snd.fst, ()).fst (d.snd.fst, d.snd.snd.fst, d.snd.snd.snd.fst, d.snd.snd.snd.snd.fst, d.snd.snd.snd.snd.snd.fst, d.snd.snd.snd.snd.snd.snd.fst, d.snd.snd.snd.snd.snd.snd.snd.fst, ()).fst (d.snd.snd.fst, d.snd.snd.snd.fst, d.snd.snd.snd.snd.fst, d.snd.snd.snd.snd.snd.fst, d.snd.snd.snd.snd.snd.snd.fst, d.snd.snd.snd.snd.snd.snd.snd.fst, ()).fst (d.snd.snd.snd.fst, d.snd.snd.snd.snd.fst, d.snd.snd.snd.snd.snd.fst, d.snd.snd.snd.snd.snd.snd.fst, d.snd.snd.snd.snd.snd.snd.snd.fst, ()).fst (d.snd.snd.snd.snd.fst, d.snd.snd.snd.snd.snd.fst, d.snd.snd.snd.snd.snd.snd.fst, d.snd.snd.snd.snd.snd.snd.snd.fst, ()).fst (d.snd.snd.snd.snd.snd.fst, d.snd.snd.snd.snd.snd.snd.fst, d.snd.snd.snd.snd.snd.snd.snd.fst, ()).fst (d.snd.snd.snd.snd.snd.snd.fst, d.snd.snd.snd.snd.snd.snd.snd.fst, ()).fst (d.snd.snd.snd.snd.snd.snd.snd.fst, ()).fst = (0 : Int))) (([] : List Go.Eng.Res) = [] ∧ Ent.tup [SV.c (SC.v (Value.int IntKind.i64 (cdS vs ms cs fs l).fst)), SV.c (SC.v (Value.int IntKind.i64 (cdS vs ms cs fs l).snd))] = Ent.tup [SV.c (SC.v (Value.int IntKind.i64 (chkS (d.fst, d.snd.fst, d.snd.snd.fst, d.snd.snd.snd.fst, d.snd.snd.snd.snd.fst, d.snd.snd.snd.snd.snd.fst, d.snd.snd.snd.snd.snd.snd.fst, d.snd.snd.snd.snd.snd.snd.snd.fst, ()).fst (d.snd.fst, d.snd.snd.fst, d.snd.snd.snd.fst, d.snd.snd.snd.snd.fst, d.snd.snd.snd.snd.snd.fst, d.snd.snd.snd.snd.snd.snd.fst, d.snd.snd.snd.snd.snd.snd.snd.fst, ()).fst (d.snd.snd.fst, d.snd.snd.snd.fst, d.snd.snd.snd.snd.fst, d.snd.snd.snd.snd.snd.fst, d.snd.snd.snd.snd.snd.snd.fst, d.snd.snd.snd.snd.snd.snd.snd.fst, ()).fst (d.snd.snd.snd.fst, d.snd.snd.snd.snd.fst, d.snd.snd.snd.snd.snd.fst, d.snd.snd.snd.snd.snd.snd.fst, d.snd.snd.snd.snd.snd.snd.snd.fst, ()).fst (d.snd.snd.snd.snd.fst, d.snd.snd.snd.snd.snd.fst, d.snd.snd.snd.snd.snd.snd.fst, d.snd.snd.snd.snd.snd.snd.snd.fst, ()).fst (d.snd.snd.snd.snd.snd.fst, d.snd.snd.snd.snd.snd.snd.fst, d.snd.snd.snd.snd.snd.snd.snd.fst, ()).fst (d.snd.snd.snd.snd.snd.snd.fst, d.snd.snd.snd.snd.snd.snd.snd.fst, ()).fst (d.snd.snd.snd.snd.snd.snd.snd.fst, ()).fst))), SV.c (SC.v (Value.int IntKind.i64 (↑x : Int)))]) (True ∧ br (!exS vs ms cs fs (d.fst, d.snd.fst, d.snd.snd.fst, d.snd.snd.snd.fst, d.snd.snd.snd.snd.fst, d.snd.snd.snd.snd.snd.fst, d.snd.snd.snd.snd.snd.snd.fst, d.snd.snd.snd.snd.snd.snd.snd.fst, ()).fst (d.snd.snd.snd.snd.fst, d.snd.snd.snd.snd.snd.fst, d.snd.snd.snd.snd.snd.snd.fst, d.snd.snd.snd.snd.snd.snd.snd.fst, ()).fst (d.snd.snd.snd.snd.snd.fst, d.snd.snd.snd.snd.snd.snd.fst, d.snd.snd.snd.snd.snd.snd.snd.fst, ()).fst) (([] : List Go.Eng.Res) = [] ∧ Ent.tup [SV.c (SC.v (Value.int IntKind.i64 (cdS vs ms cs fs l).fst)), SV.c (SC.v (Value.int IntKind.i64 (cdS vs ms cs fs l).snd))] = Ent.tup [SV.c (SC.v (Value.int IntKind.i64 (11 : Int))), SV.c (SC.v (Value.int IntKind.i64 (↑x : Int)))]) (br ((decide (d.fst = (4 : Int)) || decide (d.fst = (5 : Int))) && (decide (d.snd.snd.snd.snd.snd.fst < (0 : Int)) || decide ((↑l.length : Int) < d.snd.snd.snd.snd.snd.fst))) (([] : List Go.Eng.Res) = [] ∧ Ent.tup [SV.c (SC.v (Value.int IntKind.i64 (cdS vs ms cs fs l).fst)), SV.c (SC.v (Value.int IntKind.i64 (cdS vs ms cs fs l).snd))] = Ent.tup [SV.c (SC.v (Value.int IntKind.i64 (12 : Int))), SV.c (SC.v (Value.int IntKind.i64 (↑x : Int)))]) (InR IntKind.i64 ((↑x : Int) + (1 : Int)) ∧ ∃ x', (x' ≤ l.length ∧ ∀ (j : Nat), j < x' → ∀ (i : Int × Int × Int × Int × Int × Int × Int × Int × Unit), l[j]? = some i → ciS vs ms cs fs (chkS i.fst i.snd.fst i.snd.snd.fst i.snd.snd.snd.fst i.snd.snd.snd.snd.fst i.snd.snd.snd.snd.snd.fst i.snd.snd.snd.snd.snd.snd.fst i.snd.snd.snd.snd.snd.snd.snd.fst) i.fst i.snd.snd.snd.snd.fst i.snd.snd.snd.snd.snd.fst (↑l.length : Int) = (0 : Int)) ∧ (SV.c (SC.v (Value.int IntKind.i64 ((↑x : Int) + (1 : Int)))) = SV.c (SC.v (Value.int IntKind.i64 (↑x' : Int))) ∧ True) ∧ [(([] : Go.Eng.Gd), Res.blk (27 : Nat) [SC.sl (Sh.str.pair (I6.pair Sh.unit)) vs, SC.sl Sh.str ms, SC.sl Sh.str cs, SC.sl (Sh.str.pair (shI.sl.pair Sh.unit)) fs, SC.sl (I6.pair (I6.pair Sh.unit)) ts]), (([] : Go.Eng.Gd), Res.blk (58 : Nat) [SC.v (Value.string nm), SC.sl shI l])] = [(([] : Go.Eng.Gd), Res.blk (27 : Nat) [SC.sl (Sh.str.pair (I6.pair Sh.unit)) vs, SC.sl Sh.str ms, SC.sl Sh.str cs, SC.sl (Sh.str.pair (shI.sl.pair Sh.unit)) fs, SC.sl (I6.pair (I6.pair Sh.unit)) ts]), (([] : Go.Eng.Gd), Res.blk (58 : Nat) [SC.v (Value.string nm), SC.sl shI l])] ∧ l.length - x' < l.length - x)))) (([] : List Go.Eng.Res) = [] ∧ Ent.tup [SV.c (SC.v (Value.int IntKind.i64 (cdS vs ms cs fs l).fst)), SV.c (SC.v (Value.int IntKind.i64 (cdS vs ms cs fs l).snd))] = Ent.tup [SV.c (SC.v (Value.int IntKind.i64 (0 : Int))), SV.c (SC.v (Value.int IntKind.i64 (-1 : Int)))])) := by
  by_cases hc : 64 < l.length
  · have e : cdS vs ms cs fs l = (4, -1) := by unfold cdS; rw [if_pos hc]
    rw [e]
    refine br_iff.2 ⟨fun _ => ⟨rfl, rfl⟩, fun h => ?_⟩
    simp only [decide_eq_false_iff_not] at h
    omega
  refine br_iff.2 ⟨fun h => ?_, fun _ => ⟨⟨0, ⟨by omega, fun j hj => by omega⟩, ⟨rfl, trivial⟩, rfl⟩, fun k hk => br_iff.2 ⟨fun h => ?_, fun h => ?_⟩⟩⟩
  · simp only [decide_eq_true_eq] at h
    omega
  · simp only [decide_eq_true_eq] at h
    have hN : (↑k : Int).toNat = k := by omega
    rw [hN]
    refine ⟨by omega, fun d hd => ⟨trivial, br_iff.2 ⟨fun h2 => ⟨rfl, ?_⟩, fun h2 => ⟨trivial, br_iff.2 ⟨fun h3 => ⟨rfl, ?_⟩, fun h3 => br_iff.2 ⟨fun h4 => ⟨rfl, ?_⟩, fun h4 => ⟨InR_i64.2 (by omega), k + 1, ⟨by omega, fun j hj i hi => ?_⟩, ⟨rfl, trivial⟩, rfl, by omega⟩⟩⟩⟩⟩⟩⟩
    · have h2 : chkI d ≠ 0 := by simpa using h2
      rw [cd_found hc hd (by rw [ci_1 h2]; exact h2) hk.2, ci_1 h2]
    all_goals have h2 : chkI d = 0 := by simpa using h2
    · have h3 : exS vs ms cs fs d.1 d.2.2.2.2.1 d.2.2.2.2.2.1 = false := by simpa using h3
      have e := ci_2 (m := (l.length : Int)) h2 h3
      rw [cd_found hc hd (by rw [e]; simp) hk.2, e]
    all_goals have h3 : exS vs ms cs fs d.1 d.2.2.2.2.1 d.2.2.2.2.2.1 = true := by simpa using h3
    all_goals have e := ci_3 (m := (l.length : Int)) h2 h3
    · rw [if_pos (by simpa using h4)] at e
      rw [cd_found hc hd (by rw [e]; simp) hk.2, e]
    · by_cases hjk : j = k
      · subst hjk
        rw [hd] at hi; cases hi
        rw [if_neg (fun q => by
          have : ((decide (d.1 = 4) || decide (d.1 = 5)) && (decide (d.2.2.2.2.2.1 < 0) || decide ((l.length : Int) < d.2.2.2.2.2.1))) = true := by simpa using q
          rw [h4] at this; cases this)] at e
        exact e
      · exact hk.2 j (by omega) i hi
  · simp only [decide_eq_false_iff_not] at h
    rw [cd_none hc fun j i hj => hk.2 j (by have := (List.getElem?_eq_some_iff.1 hj).1; omega) i hj]; exact ⟨rfl, rfl⟩
set_option maxHeartbeats 2000000 in
set_option maxRecDepth 100000 in
theorem f74_met : Go.Eng.Met Tryd.prog cx0.gd 74 ctrCd :=
  met_of (cx := cx0) (n := 58) (cl := cl74) (by kernel_rfl) tis_ok ⟨f92_met, f93_met, trivial⟩ Tryd.func74 (by kernel_rfl) (by kernel_rfl) rfl (by kernel_rfl) (by kernel_rfl) fun d hd => by
    obtain ⟨⟨vs, ms, cs, fs, ts, ⟨⟩⟩, ⟨nm, l, ⟨⟩⟩, ⟨⟩⟩ := d
    exact ex_of (ann74 vs ms cs fs ts nm l) (f74_vc vs ms cs fs ts nm l) (by kernel_rfl)
end Go.Proofs.YtkgjfkdcnoockaaDoor
set_option linter.unusedSimpArgs false
set_option linter.unusedVariables false
namespace Go.Proofs.YtkgjfkdcnoockaaDoor
open Go Go.Eng

theorem instG_cut : ∀ (i : Nat) (l : List FD) (n : Nat) {x : FD}, l[i]? = some x → instG n l = instG n (l.take i) ++ (instF (n + i) x ++ instG (n + i + 1) (l.drop (i + 1)))
  | 0, [], n, x, h => by simp at h
  | 0, y :: l, n, x, h => by
    simp at h; subst h
    simp [instG]
  | i + 1, [], n, x, h => by simp at h
  | i + 1, y :: l, n, x, h => by
    have := instG_cut i l (n + 1) (x := x) (by simpa using h)
    simp only [List.take_succ_cons, List.drop_succ_cons, instG]
    rw [this, List.append_assoc, show n + 1 + i = n + (i + 1) by omega]
theorem instF_get' {n : Nat} {x : FD} {k : Nat} {d : dens [shS, shI]} (h : (instF n x)[k]? = some d) : ∃ e, x.2.1[k]? = some e ∧ d = (((n : Int), (k : Int), ()), e, ()) := by
  unfold instF at h
  rw [List.getElem?_map, List.getElem?_zipIdx] at h
  cases he : x.2.1[k]? with
  | none => rw [he] at h; simp at h
  | some e => rw [he] at h; simp at h; exact ⟨e, rfl, h.symm⟩
/-- A function's code without a fault. -/
theorem cd_zero {vs : List VD} {ms cs : List ByteArray} {fs : List FD} {l : List ID} (h : (cdS vs ms cs fs l).1 = 0) : l.length ≤ 64 ∧ ∀ (j : Nat) i, l[j]? = some i → ciI vs ms cs fs i l.length = 0 := by
  by_cases hl : 64 < l.length
  · unfold cdS at h; rw [if_pos hl] at h; simp at h
  refine ⟨by omega, ?_⟩
  cases hf : l.findIdx? (fun i => decide (ciI vs ms cs fs i l.length ≠ 0)) with
  | none =>
    rw [List.findIdx?_eq_none_iff] at hf
    intro j i hj
    simpa using hf i (List.mem_of_getElem? hj)
  | some k =>
    unfold cdS at h; rw [if_neg hl, hf] at h
    rw [List.findIdx?_eq_some_iff_getElem] at hf
    obtain ⟨hk, h1, _⟩ := hf
    have e : l.getD k (0, 0, 0, 0, 0, 0, 0, 0, ()) = l[k] := by rw [List.getD_eq_getElem?_getD, List.getElem?_eq_getElem hk]; rfl
    have h : ciI vs ms cs fs (l.getD k (0, 0, 0, 0, 0, 0, 0, 0, ())) l.length = 0 := h
    rw [e] at h
    simp [h] at h1
theorem cd_some {vs : List VD} {ms cs : List ByteArray} {fs : List FD} {l : List ID} (hl : ¬ 64 < l.length) (h : (cdS vs ms cs fs l).1 ≠ 0) : ∃ (k : Nat) (e : ID), l[k]? = some e ∧ ciI vs ms cs fs e l.length ≠ 0 ∧ (∀ j < k, ∀ i, l[j]? = some i → ciI vs ms cs fs i l.length = 0) ∧ cdS vs ms cs fs l = (ciI vs ms cs fs e l.length, (k : Int)) := by
  cases hf : l.findIdx? (fun i => decide (ciI vs ms cs fs i l.length ≠ 0)) with
  | none =>
    unfold cdS at h; rw [if_neg hl, hf] at h; exact absurd rfl h
  | some k =>
    rw [List.findIdx?_eq_some_iff_getElem] at hf
    obtain ⟨hk, h1, h2⟩ := hf
    have hn : ∀ j < k, ∀ i, l[j]? = some i → ciI vs ms cs fs i l.length = 0 := fun j hj i hi => by
      have := h2 j hj
      rw [(List.getElem?_eq_some_iff.1 hi).2] at this
      simpa using this
    have h1 : ciI vs ms cs fs l[k] l.length ≠ 0 := by simpa using h1
    exact ⟨k, l[k], List.getElem?_eq_getElem hk, h1, hn, cd_found hl (List.getElem?_eq_getElem hk) h1 hn⟩
theorem ce_at {vs : List VD} {ms cs : List ByteArray} {fs : List FD} {k : Nat} {x : FD} (hx : fs[k]? = some x) (j : Int) (e : ID) : ceI vs ms cs fs (((k : Int), j, ()), e, ()) = ciI vs ms cs fs e x.2.1.length := ce_of (d := (((k : Int), j, ()), e, ())) (by simpa using hx)
theorem long_bound {fs : List FD} {i : Nat} (hn : ∀ j < i, ∀ f, fs[j]? = some f → f.2.1.length ≤ 64) : longS fs = -1 ∨ (i : Int) ≤ longS fs := by
  unfold longS
  cases hf : fs.findIdx? (fun f => decide (64 < f.2.1.length)) with
  | none => exact .inl rfl
  | some k =>
    refine .inr ?_
    rw [List.findIdx?_eq_some_iff_getElem] at hf
    obtain ⟨hk, h1, _⟩ := hf
    show (i : Int) ≤ (k : Int)
    by_cases hki : k < i
    · have := hn k hki _ (List.getElem?_eq_getElem hk)
      simp at h1; omega
    · omega
/-- The first function with a fault, and its fault. -/
theorem cc_first {vs : List VD} {ms cs : List ByteArray} {fs : List FD} {i : Nat} {f : FD} (hf : fs[i]? = some f) (h : (cdS vs ms cs fs f.2.1).1 ≠ 0) (hn : ∀ j < i, ∀ g, fs[j]? = some g → (cdS vs ms cs fs g.2.1).1 = 0) :
    ccS vs ms cs fs = ((cdS vs ms cs fs f.2.1).1, (i : Int), (cdS vs ms cs fs f.2.1).2) := by
  have hb := long_bound (fs := fs) (i := i) fun j hj g hg => (cd_zero (hn j hj g hg)).1
  have hpre : (instG 0 (fs.take i)).find? (fun d => decide (d.1.1 = longS fs) || decide (ceI vs ms cs fs d ≠ 0)) = none := by
    rw [List.find?_eq_none]
    intro d hd
    obtain ⟨k, x, j, e, h1, h2, rfl⟩ := instG_mem _ _ hd
    have hk : k < i := by have := (List.getElem?_eq_some_iff.1 h1).1; simp at this; omega
    rw [List.getElem?_take_of_lt hk] at h1
    have hz := (cd_zero (hn k hk x h1)).2 j e h2
    rw [show (0 + k : Nat) = k by omega, ce_at h1, hz]
    have : ¬ ((k : Int) = longS fs) := by omega
    simp [this]
  have hcut := instG_cut i fs 0 hf
  have key : ∀ {k : Nat} {e : ID}, f.2.1[k]? = some e → ((i : Int) = longS fs ∨ ciI vs ms cs fs e f.2.1.length ≠ 0) → (∀ j < k, ∀ u, f.2.1[j]? = some u → (i : Int) ≠ longS fs ∧ ciI vs ms cs fs u f.2.1.length = 0) →
      (instL fs).find? (fun d => decide (d.1.1 = longS fs) || decide (ceI vs ms cs fs d ≠ 0)) = some (((i : Int), (k : Int), ()), e, ()) := by
    intro k e he hbad hok
    unfold instL
    rw [hcut, List.find?_append, hpre, Option.none_or, List.find?_append, show (0 + i : Nat) = i by omega]
    rw [find_first (k := k) (instF_get he) (by rw [ce_at hf]; simpa using hbad) fun j hj t ht => by
      obtain ⟨u, hu, rfl⟩ := instF_get' ht
      obtain ⟨a, b⟩ := hok j hj u hu
      rw [ce_at hf, b]; simp [a]]
    rfl
  by_cases hl : 64 < f.2.1.length
  · have e1 : longS fs = i := long_found hf hl fun j hj g hg => (cd_zero (hn j hj g hg)).1
    have hlt : 0 < f.2.1.length := by omega
    have := key (k := 0) (List.getElem?_eq_getElem hlt) (.inl e1.symm) (fun j hj => by omega)
    unfold ccS
    rw [this]
    show (if (i : Int) = longS fs then _ else _) = _
    rw [if_pos e1.symm, e1]
    unfold cdS; rw [if_pos hl]
  · obtain ⟨k, e, h1, h2, h3, h4⟩ := cd_some hl h
    have hne : (i : Int) ≠ longS fs := by
      intro q
      have := long_none (fs := fs)
      unfold longS at q
      cases hfi : fs.findIdx? (fun f => decide (64 < f.2.1.length)) with
      | none => rw [hfi] at q; simp at q
      | some m =>
        rw [hfi] at q
        rw [List.findIdx?_eq_some_iff_getElem] at hfi
        obtain ⟨hm, a, _⟩ := hfi
        have q : i = m := by have q : (i : Int) = (m : Int) := q; omega
        subst q
        rw [(List.getElem?_eq_some_iff.1 hf).2] at a
        simp at a; omega
    have := key h1 (.inr h2) (fun j hj u hu => ⟨hne, h3 j hj u hu⟩)
    unfold ccS
    rw [this]
    show (if (i : Int) = longS fs then _ else (ceI vs ms cs fs _, (i : Int), (k : Int))) = _
    rw [if_neg hne, ce_at hf, h4]
theorem cc_zero {vs : List VD} {ms cs : List ByteArray} {fs : List FD} (hn : ∀ (j : Nat) g, fs[j]? = some g → (cdS vs ms cs fs g.2.1).1 = 0) : ccS vs ms cs fs = (0, -1, -1) := by
  have hl : longS fs = -1 := long_none fun j g hg => (cd_zero (hn j g hg)).1
  rw [cc_end fun j d hd => ?_, if_neg (by rw [hl]; simp)]
  obtain ⟨k, x, m, e, h1, h2, rfl⟩ := instG_mem _ _ (List.mem_of_getElem? hd)
  rw [show (0 + k : Nat) = k by omega, ce_at h1, hl]
  exact ⟨by show ¬ ((k : Int) = -1); omega, (cd_zero (hn k x h1)).2 m e h2⟩
/-- A small program meets the bounds. -/
theorem instG_len : ∀ (l : List FD) (n m : Nat), (∀ x ∈ l, x.2.1.length ≤ m) → (instG n l).length ≤ l.length * m
  | [], n, m, h => by simp [instG]
  | x :: l, n, m, h => by
    have := instG_len l (n + 1) m fun y hy => h y (by simp [hy])
    have := h x (by simp)
    have e : (instF n x).length = x.2.1.length := by simp [instF]
    simp only [instG, List.length_append, List.length_cons, Nat.succ_mul]
    omega
theorem small_bnd {vs : List VD} {ms cs : List ByteArray} {fs : List FD} {ts : List SD} (h : smS vs ms cs fs ts = true) : bnd ((vs, ms, cs, fs, ts, ()), ()) := by
  unfold smS at h
  rw [Bool.and_eq_true, decide_eq_true_eq, List.all_eq_true] at h
  obtain ⟨⟨h1, h2, h3, h4, h5⟩, h6⟩ := h
  have h6 : ∀ x ∈ fs, x.2.1.length ≤ 100 := fun x hx => by simpa using h6 x hx
  have := instG_len fs 0 100 h6
  refine ⟨?_, ?_, ?_, ?_, ?_, fun x hx => ?_, ?_⟩
  · show vs.length ≤ _; omega
  · show ms.length ≤ _; omega
  · show cs.length ≤ _; omega
  · show fs.length ≤ _; omega
  · show ts.length ≤ _; omega
  · have := h6 x hx; omega
  · show (instG 0 fs).length ≤ _; omega
end Go.Proofs.YtkgjfkdcnoockaaDoor
set_option linter.unusedSimpArgs false
set_option linter.unusedVariables false
set_option maxRecDepth 100000
namespace Go.Proofs.YtkgjfkdcnoockaaDoor
open Go Go.Eng

theorem chk_cn {vs : List VD} {ms cs : List ByteArray} {fs : List FD} {ts : List SD} (h : (cnS vs ms cs fs).1 ≠ 0) : chkP vs ms cs fs ts = cnS vs ms cs fs := by unfold chkP; rw [if_pos h]
theorem chk_co {vs : List VD} {ms cs : List ByteArray} {fs : List FD} {ts : List SD} (z : (cnS vs ms cs fs).1 = 0) (h : coS vs ms cs fs ≠ 0) : chkP vs ms cs fs ts = (coS vs ms cs fs, -1, -1) := by unfold chkP; rw [if_neg (fun q => q z), if_pos h]
theorem chk_cc {vs : List VD} {ms cs : List ByteArray} {fs : List FD} {ts : List SD} (z : (cnS vs ms cs fs).1 = 0) (z2 : coS vs ms cs fs = 0) (h : (ccS vs ms cs fs).1 ≠ 0) : chkP vs ms cs fs ts = ccS vs ms cs fs := by unfold chkP; rw [if_neg (fun q => q z), if_neg (fun q => q z2), if_pos h]
theorem chk_th {vs : List VD} {ms cs : List ByteArray} {fs : List FD} {ts : List SD} (z : (cnS vs ms cs fs).1 = 0) (z2 : coS vs ms cs fs = 0) (z3 : (ccS vs ms cs fs).1 = 0) : chkP vs ms cs fs ts = (thS fs ts, -1, -1) := by
  unfold chkP; rw [if_neg (fun q => q z), if_neg (fun q => q z2), if_neg (fun q => q z3)]
  split
  · rfl
  · rename_i h; rw [Classical.not_not.1 h]
@[reducible] def ctrChk : CT := { ps := [shP], pre := fun d => bnd d, res := fun d => ([], .tup [.c (.v (.int .i64 (chkP d.1.1 d.1.2.1 d.1.2.2.1 d.1.2.2.2.1 d.1.2.2.2.2.1).1)), .c (.v (.int .i64 (chkP d.1.1 d.1.2.1 d.1.2.2.1 d.1.2.2.2.1 d.1.2.2.2.2.1).2.1)), .c (.v (.int .i64 (chkP d.1.1 d.1.2.1 d.1.2.2.1 d.1.2.2.2.1 d.1.2.2.2.2.1).2.2))]) }
@[reducible] noncomputable def cl45 : List (Nat × CT) := [(71, ctrLs), (72, ctrNms), (73, ctrVal), (74, ctrCd), (75, ctrTh)]
@[reducible] def ann45 (vs : List VD) (ms : List ByteArray) (cs : List ByteArray) (fs : List FD) (ts : List SD) : Nat → Option (St → Ann) := fun k => match k with
  | 17 => some fun _ => .inv { α := Nat, slots := fun k => [(15, .c (.v (.int .i64 k)))], res := fun _ => [], inv := fun k => k ≤ vs.length ∧ ∀ j < k, ∀ v, vs[j]? = some v → valS v.2.1 = true, meas := fun k => vs.length - k }
  | 22 => some fun _ => .inv { α := Nat, slots := fun k => [(16, .c (.v (.int .i64 k)))], res := fun _ => [], inv := fun k => k ≤ fs.length ∧ ∀ j < k, ∀ g, fs[j]? = some g → (cdS vs ms cs fs g.2.1).1 = 0, meas := fun k => fs.length - k }
  | _ => none
set_option maxRecDepth 100000 in
theorem f45_vc (vs : List VD) (ms : List ByteArray) (cs : List ByteArray) (fs : List FD) (ts : List SD) (hpre : ctrChk.pre ((vs, ms, cs, fs, ts, ()), ())) :
    (vs.length ≤ (1000000 : Nat) ∧ fs.length ≤ (1000000 : Nat)) ∧ (nmsV vs).length ≤ (1000000 : Nat) ∧ br (!decide ((nmsE (nmsV vs)).fst = (0 : Int))) (([] : List Go.Eng.Res) = [] ∧ Ent.tup [SV.c (SC.v (Value.int IntKind.i64 (chkP vs ms cs fs ts).fst)), SV.c (SC.v (Value.int IntKind.i64 (chkP vs ms cs fs ts).snd.fst)), SV.c (SC.v (Value.int IntKind.i64 (chkP vs ms cs fs ts).snd.snd))] = Ent.tup [SV.c (SC.v (Value.int IntKind.i64 (nmsE (nmsV vs)).fst)), SV.c (SC.v (Value.int IntKind.i64 (-1 : Int))), SV.c (SC.v (Value.int IntKind.i64 (-1 : Int)))]) (ms.length ≤ (1000000 : Nat) ∧ br (!decide ((nmsE ms).fst = (0 : Int))) (([] : List Go.Eng.Res) = [] ∧ Ent.tup [SV.c (SC.v (Value.int IntKind.i64 (chkP vs ms cs fs ts).fst)), SV.c (SC.v (Value.int IntKind.i64 (chkP vs ms cs fs ts).snd.fst)), SV.c (SC.v (Value.int IntKind.i64 (chkP vs ms cs fs ts).snd.snd))] = Ent.tup [SV.c (SC.v (Value.int IntKind.i64 (nmsE ms).fst)), SV.c (SC.v (Value.int IntKind.i64 (-1 : Int))), SV.c (SC.v (Value.int IntKind.i64 (-1 : Int)))]) (cs.length ≤ (1000000 : Nat) ∧ br (!decide ((nmsE cs).fst = (0 : Int))) (([] : List Go.Eng.Res) = [] ∧ Ent.tup [SV.c (SC.v (Value.int IntKind.i64 (chkP vs ms cs fs ts).fst)), SV.c (SC.v (Value.int IntKind.i64 (chkP vs ms cs fs ts).snd.fst)), SV.c (SC.v (Value.int IntKind.i64 (chkP vs ms cs fs ts).snd.snd))] = Ent.tup [SV.c (SC.v (Value.int IntKind.i64 (nmsE cs).fst)), SV.c (SC.v (Value.int IntKind.i64 (-1 : Int))), SV.c (SC.v (Value.int IntKind.i64 (-1 : Int)))]) ((nmsF fs).length ≤ (1000000 : Nat) ∧ br (!decide ((nmsE (nmsF fs)).fst = (0 : Int))) (([] : List Go.Eng.Res) = [] ∧ Ent.tup [SV.c (SC.v (Value.int IntKind.i64 (chkP vs ms cs fs ts).fst)), SV.c (SC.v (Value.int IntKind.i64 (chkP vs ms cs fs ts).snd.fst)), SV.c (SC.v (Value.int IntKind.i64 (chkP vs ms cs fs ts).snd.snd))] = Ent.tup [SV.c (SC.v (Value.int IntKind.i64 (nmsE (nmsF fs)).fst)), SV.c (SC.v (Value.int IntKind.i64 (if (nmsE (nmsF fs)).fst = (0 : Int) then (0 : Int) else (nmsE (nmsF fs)).snd))), SV.c (SC.v (Value.int IntKind.i64 (-1 : Int)))]) (br (decide ((8 : Int) < (↑vs.length : Int)) || decide ((4 : Int) < (↑ms.length : Int)) || decide ((4 : Int) < (↑cs.length : Int)) || decide ((8 : Int) < (↑fs.length : Int))) (([] : List Go.Eng.Res) = [] ∧ Ent.tup [SV.c (SC.v (Value.int IntKind.i64 (chkP vs ms cs fs ts).fst)), SV.c (SC.v (Value.int IntKind.i64 (chkP vs ms cs fs ts).snd.fst)), SV.c (SC.v (Value.int IntKind.i64 (chkP vs ms cs fs ts).snd.snd))] = Ent.tup [SV.c (SC.v (Value.int IntKind.i64 (4 : Int))), SV.c (SC.v (Value.int IntKind.i64 (-1 : Int))), SV.c (SC.v (Value.int IntKind.i64 (-1 : Int)))]) ((∃ x, (x ≤ vs.length ∧ ∀ (j : Nat), j < x → ∀ (v : ByteArray × Int × Unit), vs[j]? = some v → valS v.snd.fst = true) ∧ (SV.c (SC.v (Value.int IntKind.i64 (0 : Int))) = SV.c (SC.v (Value.int IntKind.i64 (↑x : Int))) ∧ True) ∧ [(([] : Go.Eng.Gd), Res.blk (27 : Nat) [SC.sl (Sh.str.pair (I6.pair Sh.unit)) vs, SC.sl Sh.str ms, SC.sl Sh.str cs, SC.sl (Sh.str.pair (shI.sl.pair Sh.unit)) fs, SC.sl (I6.pair (I6.pair Sh.unit)) ts]), (([] : Go.Eng.Gd), Res.row (9 : TypeId) Sh.str (nmsV vs)), (([] : Go.Eng.Gd), Res.row (9 : TypeId) Sh.str (nmsF fs))] = [(([] : Go.Eng.Gd), Res.blk (27 : Nat) [SC.sl (Sh.str.pair (I6.pair Sh.unit)) vs, SC.sl Sh.str ms, SC.sl Sh.str cs, SC.sl (Sh.str.pair (shI.sl.pair Sh.unit)) fs, SC.sl (I6.pair (I6.pair Sh.unit)) ts]), (([] : Go.Eng.Gd), Res.row (9 : TypeId) Sh.str (nmsV vs)), (([] : Go.Eng.Gd), Res.row (9 : TypeId) Sh.str (nmsF fs))]) ∧ ∀ (x : Nat), (x ≤ vs.length ∧ ∀ (j : Nat), j < x → ∀ (v : ByteArray × Int × Unit), vs[j]? = some v → valS v.snd.fst = true) → br (decide ((↑x : Int) < (↑vs.length : Int))) (((0 : Int) ≤ (↑x : Int) ∧ (↑x : Int) < (↑vs.length : Int)) ∧ ∀ (d : Sh.str.den × (I6.pair Sh.unit).den), vs[(↑x : Int).toNat]? = some d → True ∧ br (!valS (d.snd.fst, ()).fst) (([] : List Go.Eng.Res) = [] ∧ Ent.tup [SV.c (SC.v (Value.int IntKind.i64 (chkP vs ms cs fs ts).fst)), SV.c (SC.v (Value.int IntKind.i64 (chkP vs ms cs fs ts).snd.fst)), SV.c (SC.v (Value.int IntKind.i64 (chkP vs ms cs fs ts).snd.snd))] = Ent.tup [SV.c (SC.v (Value.int IntKind.i64 (2 : Int))), SV.c (SC.v (Value.int IntKind.i64 (-1 : Int))), SV.c (SC.v (Value.int IntKind.i64 (-1 : Int)))]) (InR IntKind.i64 ((↑x : Int) + (1 : Int)) ∧ ∃ x', (x' ≤ vs.length ∧ ∀ (j : Nat), j < x' → ∀ (v : ByteArray × Int × Unit), vs[j]? = some v → valS v.snd.fst = true) ∧ (SV.c (SC.v (Value.int IntKind.i64 ((↑x : Int) + (1 : Int)))) = SV.c (SC.v (Value.int IntKind.i64 (↑x' : Int))) ∧ True) ∧ [(([] : Go.Eng.Gd), Res.blk (27 : Nat) [SC.sl (Sh.str.pair (I6.pair Sh.unit)) vs, SC.sl Sh.str ms, SC.sl Sh.str cs, SC.sl (Sh.str.pair (shI.sl.pair Sh.unit)) fs, SC.sl (I6.pair (I6.pair Sh.unit)) ts]), (([] : Go.Eng.Gd), Res.row (9 : TypeId) Sh.str (nmsV vs)), (([] : Go.Eng.Gd), Res.row (9 : TypeId) Sh.str (nmsF fs))] = [(([] : Go.Eng.Gd), Res.blk (27 : Nat) [SC.sl (Sh.str.pair (I6.pair Sh.unit)) vs, SC.sl Sh.str ms, SC.sl Sh.str cs, SC.sl (Sh.str.pair (shI.sl.pair Sh.unit)) fs, SC.sl (I6.pair (I6.pair Sh.unit)) ts]), (([] : Go.Eng.Gd), Res.row (9 : TypeId) Sh.str (nmsV vs)), (([] : Go.Eng.Gd), Res.row (9 : TypeId) Sh.str (nmsF fs))] ∧ vs.length - x' < vs.length - x)) ((∃ x, (x ≤ fs.length ∧ ∀ (j : Nat), j < x → ∀ (g : ByteArray × List ID × Unit), fs[j]? = some g → (cdS vs ms cs fs g.snd.fst).fst = (0 : Int)) ∧ (SV.c (SC.v (Value.int IntKind.i64 (0 : Int))) = SV.c (SC.v (Value.int IntKind.i64 (↑x : Int))) ∧ True) ∧ [(([] : Go.Eng.Gd), Res.blk (27 : Nat) [SC.sl (Sh.str.pair (I6.pair Sh.unit)) vs, SC.sl Sh.str ms, SC.sl Sh.str cs, SC.sl (Sh.str.pair (shI.sl.pair Sh.unit)) fs, SC.sl (I6.pair (I6.pair Sh.unit)) ts]), (([] : Go.Eng.Gd), Res.row (9 : TypeId) Sh.str (nmsV vs)), (([] : Go.Eng.Gd), Res.row (9 : TypeId) Sh.str (nmsF fs))] = [(([] : Go.Eng.Gd), Res.blk (27 : Nat) [SC.sl (Sh.str.pair (I6.pair Sh.unit)) vs, SC.sl Sh.str ms, SC.sl Sh.str cs, SC.sl (Sh.str.pair (shI.sl.pair Sh.unit)) fs, SC.sl (I6.pair (I6.pair Sh.unit)) ts]), (([] : Go.Eng.Gd), Res.row (9 : TypeId) Sh.str (nmsV vs)), (([] : Go.Eng.Gd), Res.row (9 : TypeId) Sh.str (nmsF fs))]) ∧ ∀ (x : Nat), (x ≤ fs.length ∧ ∀ (j : Nat), j < x → ∀ (g : ByteArray × List ID × Unit), fs[j]? = some g → (cdS vs ms cs fs g.snd.fst).fst = (0 : Int)) → br (decide ((↑x : Int) < (↑fs.length : Int))) (((0 : Int) ≤ (↑x : Int) ∧ (↑x : Int) < (↑fs.length : Int)) ∧ ∀ (d : Sh.str.den × (shI.sl.pair Sh.unit).den), fs[(↑x : Int).toNat]? = some d → True ∧ br (!decide ((cdS vs ms cs fs (d.snd.fst, ()).fst).fst = (0 : Int))) (([] : List Go.Eng.Res) = [] ∧ Ent.tup [SV.c (SC.v (Value.int IntKind.i64 (chkP vs ms cs fs ts).fst)), SV.c (SC.v (Value.int IntKind.i64 (chkP vs ms cs fs ts).snd.fst)), SV.c (SC.v (Value.int IntKind.i64 (chkP vs ms cs fs ts).snd.snd))] = Ent.tup [SV.c (SC.v (Value.int IntKind.i64 (cdS vs ms cs fs (d.snd.fst, ()).fst).fst)), SV.c (SC.v (Value.int IntKind.i64 (↑x : Int))), SV.c (SC.v (Value.int IntKind.i64 (cdS vs ms cs fs (d.snd.fst, ()).fst).snd))]) (InR IntKind.i64 ((↑x : Int) + (1 : Int)) ∧ ∃ x', (x' ≤ fs.length ∧ ∀ (j : Nat), j < x' → ∀ (g : ByteArray × List ID × Unit), fs[j]? = some g → (cdS vs ms cs fs g.snd.fst).fst = (0 : Int)) ∧ (SV.c (SC.v (Value.int IntKind.i64 ((↑x : Int) + (1 : Int)))) = SV.c (SC.v (Value.int IntKind.i64 (↑x' : Int))) ∧ True) ∧ [(([] : Go.Eng.Gd), Res.blk (27 : Nat) [SC.sl (Sh.str.pair (I6.pair Sh.unit)) vs, SC.sl Sh.str ms, SC.sl Sh.str cs, SC.sl (Sh.str.pair (shI.sl.pair Sh.unit)) fs, SC.sl (I6.pair (I6.pair Sh.unit)) ts]), (([] : Go.Eng.Gd), Res.row (9 : TypeId) Sh.str (nmsV vs)), (([] : Go.Eng.Gd), Res.row (9 : TypeId) Sh.str (nmsF fs))] = [(([] : Go.Eng.Gd), Res.blk (27 : Nat) [SC.sl (Sh.str.pair (I6.pair Sh.unit)) vs, SC.sl Sh.str ms, SC.sl Sh.str cs, SC.sl (Sh.str.pair (shI.sl.pair Sh.unit)) fs, SC.sl (I6.pair (I6.pair Sh.unit)) ts]), (([] : Go.Eng.Gd), Res.row (9 : TypeId) Sh.str (nmsV vs)), (([] : Go.Eng.Gd), Res.row (9 : TypeId) Sh.str (nmsF fs))] ∧ fs.length - x' < fs.length - x)) (True ∧ ([] : List Go.Eng.Res) = [] ∧ Ent.tup [SV.c (SC.v (Value.int IntKind.i64 (chkP vs ms cs fs ts).fst)), SV.c (SC.v (Value.int IntKind.i64 (chkP vs ms cs fs ts).snd.fst)), SV.c (SC.v (Value.int IntKind.i64 (chkP vs ms cs fs ts).snd.snd))] = Ent.tup [SV.c (SC.v (Value.int IntKind.i64 (thS fs ts))), SV.c (SC.v (Value.int IntKind.i64 (-1 : Int))), SV.c (SC.v (Value.int IntKind.i64 (-1 : Int)))]))))))) := by
  obtain ⟨h1, h2, h3, h4, h5, h6, h7⟩ : bnd ((vs, ms, cs, fs, ts, ()), ()) := hpre
  have h1 : vs.length ≤ 1000000 := h1
  have h4 : fs.length ≤ 1000000 := h4
  refine ⟨⟨h1, h4⟩, by simpa [nmsV] using h1, br_iff.2 ⟨fun a => ⟨rfl, ?_⟩, fun a => ⟨h2, br_iff.2 ⟨fun b => ⟨rfl, ?_⟩, fun b => ⟨h3, br_iff.2 ⟨fun c => ⟨rfl, ?_⟩, fun c => ⟨by simpa [nmsF] using h4, br_iff.2 ⟨fun d => ⟨rfl, ?_⟩, fun d => ?_⟩⟩⟩⟩⟩⟩⟩⟩
  all_goals try simp only [Bool.not_eq_true', Bool.not_eq_false', decide_eq_true_eq, decide_eq_false_iff_not] at a
  all_goals try simp only [Bool.not_eq_true', Bool.not_eq_false', decide_eq_true_eq, decide_eq_false_iff_not] at b
  all_goals try simp only [Bool.not_eq_true', Bool.not_eq_false', decide_eq_true_eq, decide_eq_false_iff_not] at c
  all_goals try simp only [Bool.not_eq_true', Bool.not_eq_false', decide_eq_true_eq, decide_eq_false_iff_not] at d
  · have e : cnS vs ms cs fs = ((nmsE (nmsV vs)).1, -1, -1) := by unfold cnS; rw [if_pos a]
    rw [chk_cn (by rw [e]; exact a), e]
  · have e : cnS vs ms cs fs = ((nmsE ms).1, -1, -1) := by unfold cnS; rw [if_neg (fun q => q a), if_pos b]
    rw [chk_cn (by rw [e]; exact b), e]
  · have e : cnS vs ms cs fs = ((nmsE cs).1, -1, -1) := by unfold cnS; rw [if_neg (fun q => q a), if_neg (fun q => q b), if_pos c]
    rw [chk_cn (by rw [e]; exact c), e]
  all_goals have e : cnS vs ms cs fs = ((nmsE (nmsF fs)).1, (nmsE (nmsF fs)).2, -1) := by unfold cnS; rw [if_neg (fun q => q a), if_neg (fun q => q b), if_neg (fun q => q c)]
  · rw [chk_cn (by rw [e]; exact d), e, if_neg d]
  have z : (cnS vs ms cs fs).1 = 0 := by rw [e]; exact d
  clear e a b c d
  by_cases hc : 8 < vs.length ∨ 4 < ms.length ∨ 4 < cs.length ∨ 8 < fs.length
  · have e : coS vs ms cs fs = 4 := by unfold coS; rw [if_pos hc]
    rw [chk_co z (by rw [e]; simp), e]
    refine br_iff.2 ⟨fun _ => ⟨rfl, rfl⟩, fun h => ?_⟩
    simp only [Bool.or_eq_false_iff, decide_eq_false_iff_not] at h
    omega
  refine br_iff.2 ⟨fun h => ?_, fun _ => ⟨⟨0, ⟨by omega, fun j hj => by omega⟩, ⟨rfl, trivial⟩, rfl⟩, fun k hk => br_iff.2 ⟨fun h => ?_, fun h => ⟨⟨0, ⟨by omega, fun j hj => by omega⟩, ⟨rfl, trivial⟩, rfl⟩, fun m hm => br_iff.2 ⟨fun h8 => ?_, fun h8 => ⟨trivial, rfl, ?_⟩⟩⟩⟩⟩⟩
  · simp only [Bool.or_eq_true, decide_eq_true_eq] at h
    omega
  · simp only [decide_eq_true_eq] at h
    have hN : (↑k : Int).toNat = k := by omega
    rw [hN]
    refine ⟨by omega, fun d hd => ⟨trivial, br_iff.2 ⟨fun h9 => ⟨rfl, ?_⟩, fun h9 => ⟨InR_i64.2 (by omega), k + 1, ⟨by omega, fun j hj v hv => ?_⟩, ⟨rfl, trivial⟩, rfl, by omega⟩⟩⟩⟩
    · have h9 : valS d.2.1 = false := by simpa using h9
      have e : coS vs ms cs fs = 2 := by
        unfold coS
        rw [if_neg hc, if_neg]
        intro hh
        rw [List.all_eq_true] at hh
        have := hh d (List.mem_of_getElem? hd)
        rw [h9] at this; cases this
      rw [chk_co z (by rw [e]; simp), e]
    · have h9 : valS d.2.1 = true := by simpa using h9
      by_cases hjk : j = k
      · subst hjk
        rw [hd] at hv; cases hv; exact h9
      · exact hk.2 j (by omega) v hv
  all_goals
    simp only [decide_eq_false_iff_not] at h
    have z2 : coS vs ms cs fs = 0 := by
      unfold coS
      rw [if_neg hc, if_pos]
      rw [List.all_eq_true]
      intro v hv
      obtain ⟨j, hj⟩ := List.getElem?_of_mem hv
      exact hk.2 j (by have := (List.getElem?_eq_some_iff.1 hj).1; omega) v hj
  · simp only [decide_eq_true_eq] at h8
    have hN : (↑m : Int).toNat = m := by omega
    rw [hN]
    refine ⟨by omega, fun d hd => ⟨trivial, br_iff.2 ⟨fun h9 => ⟨rfl, ?_⟩, fun h9 => ⟨InR_i64.2 (by omega), m + 1, ⟨by omega, fun j hj v hv => ?_⟩, ⟨rfl, trivial⟩, rfl, by omega⟩⟩⟩⟩
    · have h9 : (cdS vs ms cs fs d.2.1).1 ≠ 0 := by simpa using h9
      have e := cc_first hd h9 hm.2
      rw [chk_cc z z2 (by rw [e]; exact h9), e]
    · have h9 : (cdS vs ms cs fs d.2.1).1 = 0 := by simpa using h9
      by_cases hjk : j = m
      · subst hjk
        rw [hd] at hv; cases hv; exact h9
      · exact hm.2 j (by omega) v hv
  · simp only [decide_eq_false_iff_not] at h8
    have e := cc_zero (vs := vs) (ms := ms) (cs := cs) fun j g hj => hm.2 j (by have := (List.getElem?_eq_some_iff.1 hj).1; omega) g hj
    rw [chk_th z z2 (by rw [e])]
set_option maxHeartbeats 2000000 in
set_option maxRecDepth 100000 in
theorem f45_met : Go.Eng.Met Tryd.prog cx0.gd 45 ctrChk :=
  met_of (cx := cx0) (n := 120) (cl := cl45) (by kernel_rfl) tis_ok ⟨f71_met, f72_met, f73_met, f74_met, f75_met, trivial⟩ Tryd.func45 (by kernel_rfl) (by kernel_rfl) rfl (by kernel_rfl) (by kernel_rfl) fun d hd => by
    obtain ⟨⟨vs, ms, cs, fs, ts, ⟨⟩⟩, ⟨⟩⟩ := d
    exact ex_of (ann45 vs ms cs fs ts) (f45_vc vs ms cs fs ts hd) (by kernel_rfl)
@[reducible] def ctrVld : CT := { ps := [shP], pre := fun d => bnd d, res := fun d => ([], vB (decide ((chkP d.1.1 d.1.2.1 d.1.2.2.1 d.1.2.2.2.1 d.1.2.2.2.2.1).1 = 0))) }
@[reducible] def ctL3 : CT := { ps := [shP], pre := fun d => True, res := fun d => ([], vB (true)) }
end Go.Proofs.YtkgjfkdcnoockaaDoor
set_option linter.unusedSimpArgs false
set_option linter.unusedVariables false
set_option maxRecDepth 100000
namespace Go.Proofs.YtkgjfkdcnoockaaDoor
open Go Go.Eng

@[reducible] def ct46 : CT := { ps := [.sl (.int .i64), .int .i64], pre := fun d => d.1.length ≤ 4611686018427387904, res := fun d => ([], vB (hasI d.1 d.2.1)) }
@[reducible] def cl56 : List (Nat × CT) := []
@[reducible] def ann56 (l : List Int) (x : Int) : Nat → Option (St → Ann) := fun k => match k with
  | 2 => some fun _ => .inv { α := Nat, slots := fun k => [(5, .c (.v (.int .i64 k)))], res := fun _ => [], inv := fun k => k ≤ l.length ∧ ∀ j, j < k → ∀ b, l[j]? = some b → ¬ (b = x), meas := fun k => l.length - k }
  | _ => none
set_option maxRecDepth 100000 in
theorem f56_vc (l : List Int) (x : Int) (hpre : ct46.pre (l, x, ())) :
    (∃ x_1, (x_1 ≤ l.length ∧ ∀ (j : Nat), j < x_1 → ∀ (b : Int), l[j]? = some b → ¬b = x) ∧ (SV.c (SC.v (Value.int IntKind.i64 (0 : Int))) = SV.c (SC.v (Value.int IntKind.i64 (↑x_1 : Int))) ∧ True) ∧ ([] : List (Go.Eng.Gd × Go.Eng.Res)) = []) ∧ ∀ (x_1 : Nat), (x_1 ≤ l.length ∧ ∀ (j : Nat), j < x_1 → ∀ (b : Int), l[j]? = some b → ¬b = x) → br (decide ((↑x_1 : Int) < (↑l.length : Int))) (((0 : Int) ≤ (↑x_1 : Int) ∧ (↑x_1 : Int) < (↑l.length : Int)) ∧ ∀ (d : Int), l[(↑x_1 : Int).toNat]? = some d → br (decide (d = x)) (([] : List Go.Eng.Res) = [] ∧ Ent.one (SV.c (SC.v (Value.bool (hasI l x)))) = Ent.one (SV.c (SC.v (Value.bool true)))) (InR IntKind.i64 ((↑x_1 : Int) + (1 : Int)) ∧ ∃ x', (x' ≤ l.length ∧ ∀ (j : Nat), j < x' → ∀ (b : Int), l[j]? = some b → ¬b = x) ∧ (SV.c (SC.v (Value.int IntKind.i64 ((↑x_1 : Int) + (1 : Int)))) = SV.c (SC.v (Value.int IntKind.i64 (↑x' : Int))) ∧ True) ∧ ([] : List (Go.Eng.Gd × Go.Eng.Res)) = [] ∧ l.length - x' < l.length - x_1)) (([] : List Go.Eng.Res) = [] ∧ Ent.one (SV.c (SC.v (Value.bool (hasI l x)))) = Ent.one (SV.c (SC.v (Value.bool false)))) := by
  have hp : l.length ≤ 4611686018427387904 := hpre
  refine ⟨⟨0, ⟨by omega, fun j hj => by omega⟩, ⟨rfl, trivial⟩, rfl⟩, fun k hk => br_iff.2 ⟨fun h => ?_, fun h => ?_⟩⟩
  · simp only [decide_eq_true_eq] at h
    refine ⟨by omega, fun d hd => br_iff.2 ⟨fun h2 => ?_, fun h2 => ?_⟩⟩
    · simp only [decide_eq_true_eq] at h2
      have hm : hasI l x = true := List.any_eq_true.2 ⟨d, List.mem_of_getElem? hd, by simpa using h2⟩
      rw [hm]; exact ⟨rfl, rfl⟩
    · simp only [decide_eq_false_iff_not] at h2
      have hd : l[k]? = some d := by simpa using hd
      refine ⟨InR_i64.2 (by omega), k + 1, ⟨by omega, fun j hj b hb => ?_⟩, ⟨by simp, trivial⟩, rfl, by omega⟩
      by_cases hjx : j = k
      · subst hjx
        rw [hd] at hb; cases hb; exact h2
      · exact hk.2 j (by omega) b hb
  · simp only [decide_eq_false_iff_not] at h
    have hm : hasI l x = false := by
      unfold hasI
      rw [List.any_eq_false]
      intro b hb
      obtain ⟨j, hj⟩ := List.getElem?_of_mem hb
      have := (List.getElem?_eq_some_iff.1 hj).1
      simpa using hk.2 j (by omega) b hj
    rw [hm]; exact ⟨rfl, rfl⟩
set_option maxRecDepth 100000 in
theorem f56_met : Go.Eng.Met Tryd.prog cx0.gd 56 ct46 :=
  met_of (cx := cx0) (n := 18) (cl := cl56) (by kernel_rfl) tis_ok trivial Tryd.func56 (by kernel_rfl) (by kernel_rfl) rfl (by kernel_rfl) (by kernel_rfl) fun d hd => by
    obtain ⟨l, x, ⟨⟩⟩ := d
    exact ⟨ann56 l x, cast (by kernel_rfl) (f56_vc l x hd)⟩
@[reducible] def ct13 : CT := { ps := [.sl (.int .i64), .sl (.int .i64)], pre := fun d => d.1.length ≤ 4611686018427387904, res := fun d => ([], vB (decide (d.1 = d.2.1))) }
@[reducible] def cl41 : List (Nat × CT) := []
@[reducible] def ann41 (l : List Int) (m : List Int) : Nat → Option (St → Ann) := fun k => match k with
  | 4 => some fun _ => .inv { α := Nat, slots := fun k => [(5, .c (.v (.int .i64 k)))], res := fun _ => [], inv := fun k => k ≤ l.length ∧ l.length = m.length ∧ ∀ j, j < k → l[j]? = m[j]?, meas := fun k => l.length - k }
  | _ => none
set_option maxRecDepth 100000 in
theorem f41_vc (l : List Int) (m : List Int) (hpre : ct13.pre (l, m, ())) :
    br (!decide ((↑l.length : Int) = (↑m.length : Int))) (([] : List Go.Eng.Res) = [] ∧ Ent.one (SV.c (SC.v (Value.bool (decide (l = m))))) = Ent.one (SV.c (SC.v (Value.bool false)))) ((∃ x, (x ≤ l.length ∧ l.length = m.length ∧ ∀ (j : Nat), j < x → l[j]? = m[j]?) ∧ (SV.c (SC.v (Value.int IntKind.i64 (0 : Int))) = SV.c (SC.v (Value.int IntKind.i64 (↑x : Int))) ∧ True) ∧ ([] : List (Go.Eng.Gd × Go.Eng.Res)) = []) ∧ ∀ (x : Nat), (x ≤ l.length ∧ l.length = m.length ∧ ∀ (j : Nat), j < x → l[j]? = m[j]?) → br (decide ((↑x : Int) < (↑l.length : Int))) (((0 : Int) ≤ (↑x : Int) ∧ (↑x : Int) < (↑l.length : Int)) ∧ ∀ (d : Int), l[(↑x : Int).toNat]? = some d → ((0 : Int) ≤ (↑x : Int) ∧ (↑x : Int) < (↑m.length : Int)) ∧ ∀ (d_1 : Int), m[(↑x : Int).toNat]? = some d_1 → br (!decide (d = d_1)) (([] : List Go.Eng.Res) = [] ∧ Ent.one (SV.c (SC.v (Value.bool (decide (l = m))))) = Ent.one (SV.c (SC.v (Value.bool false)))) (InR IntKind.i64 ((↑x : Int) + (1 : Int)) ∧ ∃ x', (x' ≤ l.length ∧ l.length = m.length ∧ ∀ (j : Nat), j < x' → l[j]? = m[j]?) ∧ (SV.c (SC.v (Value.int IntKind.i64 ((↑x : Int) + (1 : Int)))) = SV.c (SC.v (Value.int IntKind.i64 (↑x' : Int))) ∧ True) ∧ ([] : List (Go.Eng.Gd × Go.Eng.Res)) = [] ∧ l.length - x' < l.length - x)) (([] : List Go.Eng.Res) = [] ∧ Ent.one (SV.c (SC.v (Value.bool (decide (l = m))))) = Ent.one (SV.c (SC.v (Value.bool true))))) := by
  have hp : l.length ≤ 4611686018427387904 := hpre
  refine br_iff.2 ⟨fun h => ?_, fun h => ?_⟩
  · have hn : l ≠ m := by rintro rfl; simp at h
    rw [show decide (l = m) = false from decide_eq_false hn]; exact ⟨rfl, rfl⟩
  · have hl : l.length = m.length := by simp at h; omega
    refine ⟨⟨0, ⟨by omega, hl, fun j hj => by omega⟩, ⟨rfl, trivial⟩, rfl⟩, fun k hk => br_iff.2 ⟨fun h => ?_, fun h => ?_⟩⟩
    · simp only [decide_eq_true_eq] at h
      refine ⟨by omega, fun d hd => ⟨by omega, fun e he => br_iff.2 ⟨fun h2 => ?_, fun h2 => ?_⟩⟩⟩
      · have hd : l[k]? = some d := by simpa using hd
        have he : m[k]? = some e := by simpa using he
        have hn : l ≠ m := by rintro rfl; rw [hd] at he; cases he; simp at h2
        rw [show decide (l = m) = false from decide_eq_false hn]; exact ⟨rfl, rfl⟩
      · have hd : l[k]? = some d := by simpa using hd
        have he : m[k]? = some e := by simpa using he
        have hde : d = e := by simpa using h2
        refine ⟨InR_i64.2 (by omega), k + 1, ⟨by omega, hl, fun j hj => ?_⟩, ⟨by simp, trivial⟩, rfl, by omega⟩
        by_cases hjx : j = k
        · subst hjx; rw [hd, he, hde]
        · exact hk.2.2 j (by omega)
    · simp only [decide_eq_false_iff_not] at h
      have hlm : l = m := List.ext_getElem? fun j => by
        by_cases hj : j < k
        · exact hk.2.2 j hj
        · rw [List.getElem?_eq_none (by omega), List.getElem?_eq_none (by omega)]
      rw [show decide (l = m) = true from decide_eq_true hlm]; exact ⟨rfl, rfl⟩
set_option maxRecDepth 100000 in
theorem f41_met : Go.Eng.Met Tryd.prog cx0.gd 41 ct13 :=
  met_of (cx := cx0) (n := 26) (cl := cl41) (by kernel_rfl) tis_ok trivial Tryd.func41 (by kernel_rfl) (by kernel_rfl) rfl (by kernel_rfl) (by kernel_rfl) fun d hd => by
    obtain ⟨l, m, ⟨⟩⟩ := d
    exact ⟨ann41 l m, cast (by kernel_rfl) (f41_vc l m hd)⟩
theorem tw_len {p : Int → Bool} : ∀ {l : List Int} {k : Nat}, k ≤ l.length → (∀ j, j < k → ∀ b, l[j]? = some b → p b = true) → (∀ b, l[k]? = some b → p b = false) → (l.takeWhile p).length = k
  | [], k, h, _, _ => by simp at h; simp [h]
  | a :: l, 0, _, _, h2 => by simp [List.takeWhile_cons, h2 a rfl]
  | a :: l, k + 1, h, h1, h2 => by
    have h0 := h1 0 (by omega) a rfl
    simp only [List.takeWhile_cons, h0, if_true, List.length_cons]
    rw [tw_len (by simpa using h) (fun j hj b hb => h1 (j + 1) (by omega) b hb) (fun b hb => h2 b hb)]
@[reducible] def ct47 : CT := { ps := [.sl (.int .i64), .int .i64], pre := fun d => d.1.length ≤ 1000000, res := fun d => ([.row 3 (.int .i64) (d.1.take (posI d.1 d.2.1) ++ [d.2.1] ++ d.1.drop (posI d.1 d.2.1))], .one (.c (.row 0))) }
@[reducible] def cl82 : List (Nat × CT) := []
@[reducible] def ann82 (l : List Int) (x : Int) : Nat → Option (St → Ann) := fun k => match k with
  | 2 => some fun _ => .inv { α := Nat, slots := fun k => [(5, .c (.v (.int .i64 k)))], res := fun _ => [], inv := fun k => k ≤ l.length ∧ ∀ j, j < k → ∀ b, l[j]? = some b → b < x, meas := fun k => l.length - k }
  | _ => none
set_option maxRecDepth 100000 in
theorem f82_vc (l : List Int) (x : Int) (hpre : ct47.pre (l, x, ())) :
    (∃ x_1, (x_1 ≤ l.length ∧ ∀ (j : Nat), j < x_1 → ∀ (b : Int), l[j]? = some b → b < x) ∧ (SV.c (SC.v (Value.int IntKind.i64 (0 : Int))) = SV.c (SC.v (Value.int IntKind.i64 (↑x_1 : Int))) ∧ True) ∧ ([] : List (Go.Eng.Gd × Go.Eng.Res)) = []) ∧ ∀ (x_1 : Nat), (x_1 ≤ l.length ∧ ∀ (j : Nat), j < x_1 → ∀ (b : Int), l[j]? = some b → b < x) → (decide ((↑x_1 : Int) < (↑l.length : Int)) = true → (0 : Int) ≤ (↑x_1 : Int) ∧ (↑x_1 : Int) < (↑l.length : Int)) ∧ ∀ (d : Int), (decide ((↑x_1 : Int) < (↑l.length : Int)) = true → l[(↑x_1 : Int).toNat]? = some d) → br (decide ((↑x_1 : Int) < (↑l.length : Int)) && decide (d < x)) (InR IntKind.i64 ((↑x_1 : Int) + (1 : Int)) ∧ ∃ x', (x' ≤ l.length ∧ ∀ (j : Nat), j < x' → ∀ (b : Int), l[j]? = some b → b < x) ∧ (SV.c (SC.v (Value.int IntKind.i64 ((↑x_1 : Int) + (1 : Int)))) = SV.c (SC.v (Value.int IntKind.i64 (↑x' : Int))) ∧ True) ∧ ([] : List (Go.Eng.Gd × Go.Eng.Res)) = [] ∧ l.length - x' < l.length - x_1) (((0 : Int) ≤ (0 : Int) ∧ (0 : Int) ≤ (↑x_1 : Int) ∧ (↑x_1 : Int) ≤ (↑l.length : Int)) ∧ InA ((0 : Nat) + List.length (List.drop (0 : Nat) (List.take (↑x_1 : Int).toNat l))) (8 : Nat) ∧ InA (List.length (([] ++ List.drop (0 : Nat) (List.take (↑x_1 : Int).toNat l))) + List.length ([x])) (8 : Nat) ∧ ((0 : Int) ≤ (↑x_1 : Int) ∧ (↑x_1 : Int) ≤ (↑l.length : Int) ∧ (↑l.length : Int) ≤ (↑l.length : Int)) ∧ InA (List.length ((([] ++ List.drop (0 : Nat) (List.take (↑x_1 : Int).toNat l)) ++ [x])) + List.length (List.drop (↑x_1 : Int).toNat (List.take (↑l.length : Int).toNat l))) (8 : Nat) ∧ [Res.row (3 : TypeId) I6 (List.take (posI l x) l ++ [x] ++ List.drop (posI l x) l)] = [Res.row (3 : TypeId) I6 ((([] ++ List.drop (0 : Nat) (List.take (↑x_1 : Int).toNat l)) ++ [x]) ++ List.drop (↑x_1 : Int).toNat (List.take (↑l.length : Int).toNat l))] ∧ Ent.one (SV.c (SC.row (0 : Nat))) = Ent.one (SV.c (SC.row (0 : Nat)))) := by
  have hp : l.length ≤ 1000000 := hpre
  refine ⟨⟨0, ⟨by omega, fun j hj => by omega⟩, ⟨rfl, trivial⟩, rfl⟩, fun k hk => ⟨fun h => by simp only [decide_eq_true_eq] at h; omega, fun d hd => br_iff.2 ⟨fun h => ?_, fun h => ?_⟩⟩⟩
  · simp only [Bool.and_eq_true, decide_eq_true_eq] at h
    have hd : l[k]? = some d := by simpa using hd (by simpa using h.1)
    refine ⟨InR_i64.2 (by omega), k + 1, ⟨by omega, fun j hj b hb => ?_⟩, ⟨by simp, trivial⟩, rfl, by omega⟩
    by_cases hjx : j = k
    · subst hjx
      rw [hd] at hb; cases hb; exact h.2
    · exact hk.2 j (by omega) b hb
  · have hpos : posI l x = k := by
      refine tw_len hk.1 (fun j hj b hb => by simpa using hk.2 j hj b hb) fun b hb => ?_
      have hkl := (List.getElem?_eq_some_iff.1 hb).1
      have hd : l[k]? = some d := by simpa using hd (by simpa using hkl)
      rw [hd] at hb; cases hb
      simp only [Bool.and_eq_false_iff, decide_eq_false_iff_not] at h
      rcases h with h | h
      · omega
      · simpa using h
    have e1 : ((k : Int)).toNat = k := by simp
    have e2 : ((l.length : Int)).toNat = l.length := by simp
    rw [hpos]
    simp only [e1, e2, List.drop_zero, List.take_length, List.nil_append, InA_iff, List.length_append, List.length_take, List.length_drop, List.length_cons, List.length_nil]
    refine ⟨by omega, by omega, by omega, by omega, by omega, ?_⟩
    simp
set_option maxRecDepth 100000 in
theorem f82_met : Go.Eng.Met Tryd.prog cx0.gd 82 ct47 :=
  met_of (cx := cx0) (n := 36) (cl := cl82) (by kernel_rfl) tis_ok trivial Tryd.func82 (by kernel_rfl) (by kernel_rfl) rfl (by kernel_rfl) (by kernel_rfl) fun d hd => by
    obtain ⟨l, x, ⟨⟩⟩ := d
    exact ⟨ann82 l x, cast (by kernel_rfl) (f82_vc l x hd)⟩
@[reducible] def ct41 : CT := { ps := [.sl (.int .i64)], pre := fun d => d.1.length ≤ 1000000, res := fun d => ([.row 3 (.int .i64) (makeI d.1)], .one (.c (.row 0))) }
@[reducible] def cl66 : List (Nat × CT) := [(56, ct46), (82, ct47)]
@[reducible] def ann66 (l : List Int) : Nat → Option (St → Ann) := fun k => match k with
  | 3 => some fun _ => .inv { α := Nat, slots := fun k => [(4, .c (.v (.int .i64 k))), (3, .c (.row 0))], res := fun k => [(0, .row 3 (.int .i64) (makeI (l.take k)))], inv := fun k => k ≤ l.length, meas := fun k => l.length - k, ren := [(0, 1)], drop := [5] }
  | _ => none
set_option maxRecDepth 100000 in
theorem f66_vc (l : List Int) (hpre : ct41.pre (l, ())) :
    (∃ x, x ≤ l.length ∧ (SV.c (SC.v (Value.int IntKind.i64 (0 : Int))) = SV.c (SC.v (Value.int IntKind.i64 (↑x : Int))) ∧ SV.c (SC.row (0 : Nat)) = SV.c (SC.row (0 : Nat)) ∧ True) ∧ [(([] : Go.Eng.Gd), Res.row (3 : TypeId) I6 [])] = [(([] : Go.Eng.Gd), Res.row (3 : TypeId) I6 (makeI (List.take x l)))]) ∧ ∀ (x : Nat), x ≤ l.length → br (decide ((↑x : Int) < (↑l.length : Int))) (((0 : Int) ≤ (↑x : Int) ∧ (↑x : Int) < (↑l.length : Int)) ∧ ∀ (d : Int), l[(↑x : Int).toNat]? = some d → (makeI (List.take x l)).length ≤ (4611686018427387904 : Nat) ∧ br (!hasI (makeI (List.take x l)) d) (((0 : Int) ≤ (↑x : Int) ∧ (↑x : Int) < (↑l.length : Int)) ∧ ∀ (d : Int), l[(↑x : Int).toNat]? = some d → (makeI (List.take x l)).length ≤ (1000000 : Nat) ∧ InR IntKind.i64 ((↑x : Int) + (1 : Int)) ∧ ∃ x', x' ≤ l.length ∧ (SV.c (SC.v (Value.int IntKind.i64 ((↑x : Int) + (1 : Int)))) = SV.c (SC.v (Value.int IntKind.i64 (↑x' : Int))) ∧ SV.c (SC.row (0 : Nat)) = SV.c (SC.row (0 : Nat)) ∧ True) ∧ [(([] : Go.Eng.Gd), Res.row (3 : TypeId) I6 (List.take (posI (makeI (List.take x l)) d) (makeI (List.take x l)) ++ [d] ++ List.drop (posI (makeI (List.take x l)) d) (makeI (List.take x l))))] = [(([] : Go.Eng.Gd), Res.row (3 : TypeId) I6 (makeI (List.take x' l)))] ∧ l.length - x' < l.length - x) (InR IntKind.i64 ((↑x : Int) + (1 : Int)) ∧ ∃ x', x' ≤ l.length ∧ (SV.c (SC.v (Value.int IntKind.i64 ((↑x : Int) + (1 : Int)))) = SV.c (SC.v (Value.int IntKind.i64 (↑x' : Int))) ∧ SV.c (SC.row (0 : Nat)) = SV.c (SC.row (0 : Nat)) ∧ True) ∧ [(([] : Go.Eng.Gd), Res.row (3 : TypeId) I6 (makeI (List.take x l)))] = [(([] : Go.Eng.Gd), Res.row (3 : TypeId) I6 (makeI (List.take x' l)))] ∧ l.length - x' < l.length - x)) ([Res.row (3 : TypeId) I6 (makeI l)] = [Res.row (3 : TypeId) I6 (makeI (List.take x l))] ∧ Ent.one (SV.c (SC.row (0 : Nat))) = Ent.one (SV.c (SC.row (0 : Nat)))) := by
  have hp : l.length ≤ 1000000 := hpre
  have hlen : ∀ k, (makeI (l.take k)).length ≤ l.length := fun k => Nat.le_trans (makeI_len _) (by simp; omega)
  refine ⟨⟨0, by omega, ⟨rfl, rfl, trivial⟩, rfl⟩, fun k hk => br_iff.2 ⟨fun h => ?_, fun h => ?_⟩⟩
  · simp only [decide_eq_true_eq] at h
    refine ⟨by omega, fun d hd => ⟨by have := hlen k; omega, br_iff.2 ⟨fun h2 => ⟨by omega, fun e he => ⟨by have := hlen k; omega, InR_i64.2 (by omega), k + 1, by omega, ⟨by simp, rfl, trivial⟩, ?_, by omega⟩⟩,
      fun h2 => ⟨InR_i64.2 (by omega), k + 1, by omega, ⟨by simp, rfl, trivial⟩, ?_, by omega⟩⟩⟩⟩
    · have hd : l[k]? = some d := by simpa using hd
      have he : l[k]? = some e := by simpa using he
      rw [hd] at he; cases he
      have h2 : hasI (makeI (l.take k)) d = false := by simpa using h2
      rw [makeI_take hd, h2]; rfl
    · have hd : l[k]? = some d := by simpa using hd
      have h2 : hasI (makeI (l.take k)) d = true := by simpa using h2
      rw [makeI_take hd, h2]; rfl
  · simp only [decide_eq_false_iff_not] at h
    rw [List.take_of_length_le (by omega)]; exact ⟨rfl, rfl⟩
set_option maxRecDepth 100000 in
theorem f66_met : Go.Eng.Met Tryd.prog cx0.gd 66 ct41 :=
  met_of (cx := cx0) (n := 26) (cl := cl66) (by kernel_rfl) tis_ok ⟨f56_met, f82_met, trivial⟩ Tryd.func66 (by kernel_rfl) (by kernel_rfl) rfl (by kernel_rfl) (by kernel_rfl) fun d hd => by
    obtain ⟨l, ⟨⟩⟩ := d
    exact ⟨ann66 l, cast (by kernel_rfl) (f66_vc l hd)⟩
end Go.Proofs.YtkgjfkdcnoockaaDoor
set_option linter.unusedSimpArgs false
set_option linter.unusedVariables false
namespace Go.Proofs.YtkgjfkdcnoockaaDoor
open Go Go.Eng
def filI (l o : List Int) (b : Bool) : List Int := l.filter fun x => hasI o x == b
def remI (l : List Int) (x : Int) : List Int := filI (makeI l) [x] false
def addI (l : List Int) (x : Int) : List Int := makeI (l ++ [x])
theorem rem_ss (l : List Int) (x : Int) : SS (remI l x) := List.Pairwise.filter _ (make_ss l)
theorem rem_mem {l : List Int} {x y : Int} : y ∈ remI l x ↔ y ∈ l ∧ y ≠ x := by
  unfold remI filI
  rw [List.mem_filter, make_mem]
  have : (hasI [x] y == false) = true ↔ y ≠ x := by
    rw [beq_iff_eq, hasI_false, List.mem_singleton]
  rw [this]
theorem add_mem {l : List Int} {x y : Int} : y ∈ addI l x ↔ y ∈ l ∨ y = x := by
  unfold addI
  rw [make_mem]; simp
theorem with_eq {l : List Int} {n : Int} (h : SS l) : l.filter (fun x => decide (x < n)) ++ [n] ++ l.filter (fun x => decide (n < x)) = addI l n := by
  refine ss_ext ?_ (make_ss _) fun x => ?_
  · unfold SS
    rw [List.append_assoc, List.pairwise_append]
    refine ⟨List.Pairwise.filter _ h, ?_, fun a ha b hb => ?_⟩
    · rw [List.singleton_append, List.pairwise_cons]
      refine ⟨fun b hb => ?_, List.Pairwise.filter _ h⟩
      simpa using (List.mem_filter.1 hb).2
    · have ha : a < n := by simpa using (List.mem_filter.1 ha).2
      rw [List.singleton_append, List.mem_cons] at hb
      rcases hb with rfl | hb
      · exact ha
      · have hb : n < b := by simpa using (List.mem_filter.1 hb).2
        omega
  · rw [add_mem]
    simp only [List.append_assoc, List.singleton_append, List.mem_append, List.mem_cons, List.mem_filter, decide_eq_true_eq]
    constructor
    · rintro (⟨q, _⟩ | q | ⟨q, _⟩)
      · exact .inl q
      · exact .inr q
      · exact .inl q
    · rintro (q | q)
      · by_cases h1 : x < n
        · exact .inl ⟨q, h1⟩
        · by_cases h2 : x = n
          · exact .inr (.inl h2)
          · exact .inr (.inr ⟨q, by omega⟩)
      · exact .inr (.inl q)
theorem without_eq {l : List Int} {n : Int} (h : SS l) : l.filter (fun x => decide (x ≠ n)) = remI l n := by
  refine ss_ext (List.Pairwise.filter _ h) (rem_ss _ _) fun x => ?_
  rw [rem_mem, List.mem_filter]; simp
end Go.Proofs.YtkgjfkdcnoockaaDoor
set_option linter.unusedSimpArgs false
set_option linter.unusedVariables false
set_option maxRecDepth 100000
namespace Go.Proofs.YtkgjfkdcnoockaaDoor
open Go Go.Eng

instance (l : List Int) : Decidable (SS l) := inferInstanceAs (Decidable (l.Pairwise (· < ·)))
def validI (l : List Int) : Bool := decide (SS l)
theorem ss_adj : ∀ {l : List Int}, (∀ j x y, l[j]? = some x → l[j + 1]? = some y → x < y) → SS l
  | [], _ => List.Pairwise.nil
  | [a], _ => by simp [SS]
  | a :: b :: l, h => by
    have ih : SS (b :: l) := ss_adj fun j x y h1 h2 => h (j + 1) x y (by simpa using h1) (by simpa using h2)
    refine List.pairwise_cons.2 ⟨fun z hz => ?_, ih⟩
    have hab := h 0 a b rfl rfl
    rcases List.mem_cons.1 hz with rfl | hz
    · exact hab
    · have := (List.pairwise_cons.1 ih).1 z hz; omega
theorem adj_ss {l : List Int} (h : SS l) {j : Nat} {x y : Int} (h1 : l[j]? = some x) (h2 : l[j + 1]? = some y) : x < y := by
  obtain ⟨a1, a2⟩ := List.getElem?_eq_some_iff.1 h1
  obtain ⟨b1, b2⟩ := List.getElem?_eq_some_iff.1 h2
  have := List.pairwise_iff_getElem.1 h j (j + 1) a1 b1 (by omega)
  omega
@[reducible] def ctV : CT := { ps := [.sl (.int .i64)], pre := fun d => d.1.length ≤ 1000000, res := fun d => ([], vB (validI d.1)) }
@[reducible] def cl76 : List (Nat × CT) := []
@[reducible] def ann76 (l : List Int) : Nat → Option (St → Ann) := fun k => match k with
  | 2 => some fun _ => .inv { α := Nat, slots := fun k => [(3, .c (.v (.int .i64 k)))], res := fun _ => [], inv := fun k => (1 ≤ k ∧ (k ≤ l.length ∨ k = 1)) ∧ ∀ j, j + 1 < k → ∀ x y, l[j]? = some x → l[j + 1]? = some y → x < y, meas := fun k => l.length - k }
  | _ => none
set_option maxRecDepth 100000 in
theorem f76_vc (l : List Int) (hpre : ctV.pre (l, ())) :
    (∃ x, (((1 : Nat) ≤ x ∧ (x ≤ l.length ∨ x = (1 : Nat))) ∧ ∀ (j : Nat), j + (1 : Nat) < x → ∀ (x y : Int), l[j]? = some x → l[j + (1 : Nat)]? = some y → x < y) ∧ (SV.c (SC.v (Value.int IntKind.i64 (1 : Int))) = SV.c (SC.v (Value.int IntKind.i64 (↑x : Int))) ∧ True) ∧ ([] : List (Go.Eng.Gd × Go.Eng.Res)) = []) ∧ ∀ (x : Nat), (((1 : Nat) ≤ x ∧ (x ≤ l.length ∨ x = (1 : Nat))) ∧ ∀ (j : Nat), j + (1 : Nat) < x → ∀ (x y : Int), l[j]? = some x → l[j + (1 : Nat)]? = some y → x < y) → br (decide ((↑x : Int) < (↑l.length : Int))) (InR IntKind.i64 ((↑x : Int) - (1 : Int)) ∧ ((0 : Int) ≤ (↑x : Int) - (1 : Int) ∧ (↑x : Int) - (1 : Int) < (↑l.length : Int)) ∧ ∀ (d : Int), l[((↑x : Int) - (1 : Int)).toNat]? = some d → ((0 : Int) ≤ (↑x : Int) ∧ (↑x : Int) < (↑l.length : Int)) ∧ ∀ (d_1 : Int), l[(↑x : Int).toNat]? = some d_1 → br (decide (d_1 ≤ d)) (([] : List Go.Eng.Res) = [] ∧ Ent.one (SV.c (SC.v (Value.bool (validI l)))) = Ent.one (SV.c (SC.v (Value.bool false)))) (InR IntKind.i64 ((↑x : Int) + (1 : Int)) ∧ ∃ x', (((1 : Nat) ≤ x' ∧ (x' ≤ l.length ∨ x' = (1 : Nat))) ∧ ∀ (j : Nat), j + (1 : Nat) < x' → ∀ (x y : Int), l[j]? = some x → l[j + (1 : Nat)]? = some y → x < y) ∧ (SV.c (SC.v (Value.int IntKind.i64 ((↑x : Int) + (1 : Int)))) = SV.c (SC.v (Value.int IntKind.i64 (↑x' : Int))) ∧ True) ∧ ([] : List (Go.Eng.Gd × Go.Eng.Res)) = [] ∧ l.length - x' < l.length - x)) (([] : List Go.Eng.Res) = [] ∧ Ent.one (SV.c (SC.v (Value.bool (validI l)))) = Ent.one (SV.c (SC.v (Value.bool true)))) := by
  have hp : l.length ≤ 1000000 := hpre
  refine ⟨⟨1, ⟨⟨by omega, .inr rfl⟩, fun j hj => by omega⟩, ⟨rfl, trivial⟩, rfl⟩, fun k hk => br_iff.2 ⟨fun h => ?_, fun h => ?_⟩⟩
  · simp only [decide_eq_true_eq] at h
    have hk1 := hk.1.1
    refine ⟨InR_i64.2 (by omega), by omega, fun d hd => ⟨by omega, fun e he => ?_⟩⟩
    have hd : l[k - 1]? = some d := by rw [← hd]; congr 1; omega
    have he : l[k]? = some e := by simpa using he
    have he' : l[k - 1 + 1]? = some e := by rw [show k - 1 + 1 = k by omega]; exact he
    refine br_iff.2 ⟨fun h2 => ?_, fun h2 => ⟨InR_i64.2 (by omega), k + 1, ⟨⟨by omega, .inl (by omega)⟩, fun j hj x y hx hy => ?_⟩, ⟨by simp, trivial⟩, rfl, by omega⟩⟩
    · simp only [decide_eq_true_eq] at h2
      have : validI l = false := decide_eq_false fun hs => by have := adj_ss hs hd he'; omega
      rw [this]; exact ⟨rfl, rfl⟩
    · simp only [decide_eq_false_iff_not] at h2
      by_cases hjk : j + 1 = k
      · have hj' : j = k - 1 := by omega
        subst hj'
        rw [hd] at hx; rw [he'] at hy; cases hx; cases hy; omega
      · exact hk.2 j (by omega) x y hx hy
  · simp only [decide_eq_false_iff_not] at h
    have : validI l = true := decide_eq_true (ss_adj fun j x y hx hy => hk.2 j (by have := (List.getElem?_eq_some_iff.1 hy).1; omega) x y hx hy)
    rw [this]; exact ⟨rfl, rfl⟩
set_option maxRecDepth 100000 in
theorem f76_met : Go.Eng.Met Tryd.prog cx0.gd 76 ctV :=
  met_of (cx := cx0) (n := 20) (cl := cl76) (by kernel_rfl) tis_ok trivial Tryd.func76 (by kernel_rfl) (by kernel_rfl) rfl (by kernel_rfl) (by kernel_rfl) fun d hd => by
    obtain ⟨l, ⟨⟩⟩ := d
    exact ⟨ann76 l, cast (by kernel_rfl) (f76_vc l hd)⟩
@[reducible] def ctrV : CT := { ps := [.sl (.int .i64)], pre := fun d => d.1.length ≤ 1000000, res := fun d => ([], vB (validI d.1)) }
@[reducible] def cl65 : List (Nat × CT) := []
@[reducible] def ann65 (l : List Int) : Nat → Option (St → Ann) := fun k => match k with
  | 2 => some fun _ => .inv { α := Nat, slots := fun k => [(3, .c (.v (.int .i64 k)))], res := fun _ => [], inv := fun k => (1 ≤ k ∧ (k ≤ l.length ∨ k = 1)) ∧ ∀ j, j + 1 < k → ∀ x y, l[j]? = some x → l[j + 1]? = some y → x < y, meas := fun k => l.length - k }
  | _ => none
set_option maxRecDepth 100000 in
theorem f65_vc (l : List Int) (hpre : ctrV.pre (l, ())) :
    (∃ x, (((1 : Nat) ≤ x ∧ (x ≤ l.length ∨ x = (1 : Nat))) ∧ ∀ (j : Nat), j + (1 : Nat) < x → ∀ (x y : Int), l[j]? = some x → l[j + (1 : Nat)]? = some y → x < y) ∧ (SV.c (SC.v (Value.int IntKind.i64 (1 : Int))) = SV.c (SC.v (Value.int IntKind.i64 (↑x : Int))) ∧ True) ∧ ([] : List (Go.Eng.Gd × Go.Eng.Res)) = []) ∧ ∀ (x : Nat), (((1 : Nat) ≤ x ∧ (x ≤ l.length ∨ x = (1 : Nat))) ∧ ∀ (j : Nat), j + (1 : Nat) < x → ∀ (x y : Int), l[j]? = some x → l[j + (1 : Nat)]? = some y → x < y) → br (decide ((↑x : Int) < (↑l.length : Int))) (InR IntKind.i64 ((↑x : Int) - (1 : Int)) ∧ ((0 : Int) ≤ (↑x : Int) - (1 : Int) ∧ (↑x : Int) - (1 : Int) < (↑l.length : Int)) ∧ ∀ (d : Int), l[((↑x : Int) - (1 : Int)).toNat]? = some d → ((0 : Int) ≤ (↑x : Int) ∧ (↑x : Int) < (↑l.length : Int)) ∧ ∀ (d_1 : Int), l[(↑x : Int).toNat]? = some d_1 → br (decide (d_1 ≤ d)) (([] : List Go.Eng.Res) = [] ∧ Ent.one (SV.c (SC.v (Value.bool (validI l)))) = Ent.one (SV.c (SC.v (Value.bool false)))) (InR IntKind.i64 ((↑x : Int) + (1 : Int)) ∧ ∃ x', (((1 : Nat) ≤ x' ∧ (x' ≤ l.length ∨ x' = (1 : Nat))) ∧ ∀ (j : Nat), j + (1 : Nat) < x' → ∀ (x y : Int), l[j]? = some x → l[j + (1 : Nat)]? = some y → x < y) ∧ (SV.c (SC.v (Value.int IntKind.i64 ((↑x : Int) + (1 : Int)))) = SV.c (SC.v (Value.int IntKind.i64 (↑x' : Int))) ∧ True) ∧ ([] : List (Go.Eng.Gd × Go.Eng.Res)) = [] ∧ l.length - x' < l.length - x)) (([] : List Go.Eng.Res) = [] ∧ Ent.one (SV.c (SC.v (Value.bool (validI l)))) = Ent.one (SV.c (SC.v (Value.bool true)))) := by
  have hp : l.length ≤ 1000000 := hpre
  refine ⟨⟨1, ⟨⟨by omega, .inr rfl⟩, fun j hj => by omega⟩, ⟨rfl, trivial⟩, rfl⟩, fun k hk => br_iff.2 ⟨fun h => ?_, fun h => ?_⟩⟩
  · simp only [decide_eq_true_eq] at h
    have hk1 := hk.1.1
    refine ⟨InR_i64.2 (by omega), by omega, fun d hd => ⟨by omega, fun e he => ?_⟩⟩
    have hd : l[k - 1]? = some d := by rw [← hd]; congr 1; omega
    have he : l[k]? = some e := by simpa using he
    have he' : l[k - 1 + 1]? = some e := by rw [show k - 1 + 1 = k by omega]; exact he
    refine br_iff.2 ⟨fun h2 => ?_, fun h2 => ⟨InR_i64.2 (by omega), k + 1, ⟨⟨by omega, .inl (by omega)⟩, fun j hj x y hx hy => ?_⟩, ⟨by simp, trivial⟩, rfl, by omega⟩⟩
    · simp only [decide_eq_true_eq] at h2
      have : validI l = false := decide_eq_false fun hs => by have := adj_ss hs hd he'; omega
      rw [this]; exact ⟨rfl, rfl⟩
    · simp only [decide_eq_false_iff_not] at h2
      by_cases hjk : j + 1 = k
      · have hj' : j = k - 1 := by omega
        subst hj'
        rw [hd] at hx; rw [he'] at hy; cases hx; cases hy; omega
      · exact hk.2 j (by omega) x y hx hy
  · simp only [decide_eq_false_iff_not] at h
    have : validI l = true := decide_eq_true (ss_adj fun j x y hx hy => hk.2 j (by have := (List.getElem?_eq_some_iff.1 hy).1; omega) x y hx hy)
    rw [this]; exact ⟨rfl, rfl⟩
set_option maxRecDepth 100000 in
theorem f65_met : Go.Eng.Met Tryd.prog cx0.gd 65 ctrV :=
  met_of (cx := cx0) (n := 20) (cl := cl65) (by kernel_rfl) tis_ok trivial Tryd.func65 (by kernel_rfl) (by kernel_rfl) rfl (by kernel_rfl) (by kernel_rfl) fun d hd => by
    obtain ⟨l, ⟨⟩⟩ := d
    exact ⟨ann65 l, cast (by kernel_rfl) (f65_vc l hd)⟩
end Go.Proofs.YtkgjfkdcnoockaaDoor
set_option linter.unusedSimpArgs false
set_option linter.unusedVariables false
set_option maxRecDepth 100000
namespace Go.Proofs.YtkgjfkdcnoockaaDoor
open Go Go.Eng

@[reducible] def ctFilter : CT := { ps := [.sl (.int .i64), .sl (.int .i64), .bool], pre := fun d => d.1.length ≤ 1000000 ∧ d.2.1.length ≤ 1000000, res := fun d => ([.row 3 (.int .i64) (filI (makeI d.1) d.2.1 d.2.2.1)], .one (.c (.row 0))) }
@[reducible] def cl80 : List (Nat × CT) := [(95, ctSorted), (77, ctCon)]
@[reducible] def ann80 (l : List Int) (o : List Int) (b : Bool) : Nat → Option (St → Ann) := fun k => match k with
  | 3 => some fun _ => .inv { α := Nat, slots := fun k => [(13, .c (.v (.int .i64 k))), (7, .c (.row 1))], res := fun k => [(1, .row 3 (.int .i64) (filI ((makeI l).take k) o b))], inv := fun k => k ≤ (makeI l).length, meas := fun k => (makeI l).length - k, nil := [(7, 3, .int .i64)] }
  | _ => none
set_option maxRecDepth 100000 in
theorem f80_vc (l : List Int) (o : List Int) (b : Bool) (hpre : ctFilter.pre (l, o, b, ())) :
    l.length ≤ (1000000 : Nat) ∧ (∃ x, x ≤ (makeI l).length ∧ (SV.c (SC.v (Value.int IntKind.i64 (0 : Int))) = SV.c (SC.v (Value.int IntKind.i64 (↑x : Int))) ∧ SV.c (SC.row (Nat.succ (0 : Nat))) = SV.c (SC.row (1 : Nat)) ∧ True) ∧ [(([] : Go.Eng.Gd), Res.row (3 : TypeId) I6 (makeI l)), (([] : Go.Eng.Gd), Res.row (3 : TypeId) I6 [])] = [(([] : Go.Eng.Gd), Res.row (3 : TypeId) I6 (makeI l)), (([] : Go.Eng.Gd), Res.row (3 : TypeId) I6 (filI (List.take x (makeI l)) o b))]) ∧ ∀ (x : Nat), x ≤ (makeI l).length → br (decide ((↑x : Int) < (↑(makeI l).length : Int))) (((0 : Int) ≤ (↑x : Int) ∧ (↑x : Int) < (↑(makeI l).length : Int)) ∧ (↑x : Int).toNat < (makeI l).length ∧ ∀ (d : Int), (makeI l)[(↑x : Int).toNat]? = some d → o.length ≤ (4611686018427387904 : Nat) ∧ br (hasI o d == b) (InA (List.length (filI (List.take x (makeI l)) o b) + List.length ([d])) (8 : Nat) ∧ InR IntKind.i64 ((↑x : Int) + (1 : Int)) ∧ ∃ x', x' ≤ (makeI l).length ∧ (SV.c (SC.v (Value.int IntKind.i64 ((↑x : Int) + (1 : Int)))) = SV.c (SC.v (Value.int IntKind.i64 (↑x' : Int))) ∧ SV.c (SC.row (1 : Nat)) = SV.c (SC.row (1 : Nat)) ∧ True) ∧ [(([] : Go.Eng.Gd), Res.row (3 : TypeId) I6 (makeI l)), (([] : Go.Eng.Gd), Res.row (3 : TypeId) I6 (filI (List.take x (makeI l)) o b ++ [d]))] = [(([] : Go.Eng.Gd), Res.row (3 : TypeId) I6 (makeI l)), (([] : Go.Eng.Gd), Res.row (3 : TypeId) I6 (filI (List.take x' (makeI l)) o b))] ∧ (makeI l).length - x' < (makeI l).length - x) (InR IntKind.i64 ((↑x : Int) + (1 : Int)) ∧ ∃ x', x' ≤ (makeI l).length ∧ (SV.c (SC.v (Value.int IntKind.i64 ((↑x : Int) + (1 : Int)))) = SV.c (SC.v (Value.int IntKind.i64 (↑x' : Int))) ∧ SV.c (SC.row (1 : Nat)) = SV.c (SC.row (1 : Nat)) ∧ True) ∧ [(([] : Go.Eng.Gd), Res.row (3 : TypeId) I6 (makeI l)), (([] : Go.Eng.Gd), Res.row (3 : TypeId) I6 (filI (List.take x (makeI l)) o b))] = [(([] : Go.Eng.Gd), Res.row (3 : TypeId) I6 (makeI l)), (([] : Go.Eng.Gd), Res.row (3 : TypeId) I6 (filI (List.take x' (makeI l)) o b))] ∧ (makeI l).length - x' < (makeI l).length - x)) ([Res.row (3 : TypeId) I6 (filI (makeI l) o b)] = [Res.row (3 : TypeId) I6 (filI (List.take x (makeI l)) o b)] ∧ Ent.one (SV.c (SC.row (0 : Nat))) = Ent.one (SV.c (SC.row (0 : Nat)))) := by
  have hp : l.length ≤ 1000000 ∧ o.length ≤ 1000000 := hpre
  have hm := make_len l
  have hf : ∀ k, (filI ((makeI l).take k) o b).length ≤ 1000000 := fun k => by
    refine Nat.le_trans (List.length_filter_le _ _) ?_
    rw [List.length_take]; omega
  refine ⟨hp.1, ⟨0, by omega, ⟨rfl, rfl, trivial⟩, by simp [filI]⟩, fun k hk => br_iff.2 ⟨fun h => ?_, fun h => ?_⟩⟩
  · simp only [decide_eq_true_eq] at h
    refine ⟨⟨by omega, h⟩, by omega, fun d hd => ?_⟩
    have hd : (makeI l)[k]? = some d := by simpa using hd
    have e : filI ((makeI l).take (k + 1)) o b = filI ((makeI l).take k) o b ++ (if hasI o d == b then [d] else []) := by
      unfold filI
      rw [List.take_add_one, hd, Option.toList_some, List.filter_append]
      congr 1
      simp only [List.filter_cons, List.filter_nil]
    refine ⟨by omega, br_iff.2 ⟨fun h2 => ⟨?_, InR_i64.2 (by omega), k + 1, by omega, ⟨by simp, rfl, trivial⟩, ?_, by omega⟩, fun h2 => ⟨InR_i64.2 (by omega), k + 1, by omega, ⟨by simp, rfl, trivial⟩, ?_, by omega⟩⟩⟩
    · have := hf k
      rw [InA_iff]; simp; omega
    · rw [e, h2]; rfl
    · rw [e, h2]; simp
  · simp only [decide_eq_false_iff_not] at h
    rw [List.take_of_length_le (by omega)]; exact ⟨rfl, rfl⟩
set_option maxHeartbeats 2000000 in
set_option maxRecDepth 100000 in
theorem f80_met : Go.Eng.Met Tryd.prog cx0.gd 80 ctFilter :=
  met_of (cx := cx0) (n := 28) (cl := cl80) (by kernel_rfl) tis_ok ⟨f95_met, f77_met, trivial⟩ Tryd.func80 (by kernel_rfl) (by kernel_rfl) rfl (by kernel_rfl) (by kernel_rfl) fun d hd => by
    obtain ⟨l, o, b, ⟨⟩⟩ := d
    exact ex_of (ann80 l o b) (f80_vc l o b hd) (by kernel_rfl)
@[reducible] def ctRem : CT := { ps := [.sl (.int .i64), .int .i64], pre := fun d => d.1.length ≤ 1000000, res := fun d => ([.row 3 (.int .i64) (filI (makeI d.1) [d.2.1] false)], .one (.c (.row 0))) }
@[reducible] def cl55 : List (Nat × CT) := [(80, ctFilter)]
@[reducible] def ann55 (l : List Int) (x : Int) : Nat → Option (St → Ann) := fun _ => none
set_option maxRecDepth 100000 in
theorem f55_vc (l : List Int) (x : Int) (hpre : ctRem.pre (l, x, ())) :
    (l.length ≤ (1000000 : Nat) ∧ [x].length ≤ (1000000 : Nat)) ∧ [Res.row (3 : TypeId) I6 (filI (makeI l) [x] false)] = [Res.row (3 : TypeId) I6 (filI (makeI l) [x] false)] ∧ Ent.one (SV.c (SC.row (0 : Nat))) = Ent.one (SV.c (SC.row (0 : Nat))) := by
  have hp : l.length ≤ 1000000 := hpre
  exact ⟨⟨hp, by simp⟩, rfl, rfl⟩
set_option maxHeartbeats 2000000 in
set_option maxRecDepth 100000 in
theorem f55_met : Go.Eng.Met Tryd.prog cx0.gd 55 ctRem :=
  met_of (cx := cx0) (n := 9) (cl := cl55) (by kernel_rfl) tis_ok ⟨f80_met, trivial⟩ Tryd.func55 (by kernel_rfl) (by kernel_rfl) rfl (by kernel_rfl) (by kernel_rfl) fun d hd => by
    obtain ⟨l, x, ⟨⟩⟩ := d
    exact ex_of (ann55 l x) (f55_vc l x hd) (by kernel_rfl)
end Go.Proofs.YtkgjfkdcnoockaaDoor
set_option linter.unusedSimpArgs false
set_option linter.unusedVariables false
set_option maxRecDepth 100000
namespace Go.Proofs.YtkgjfkdcnoockaaDoor
open Go Go.Eng

@[reducible] def shM : Sh := .pair (.sl (.int .i64)) (.pair (.sl (.int .i64)) (.pair (.sl (.sl (.int .i64))) (.pair (.sl (.int .i64)) .unit)))
abbrev MD := List Int × List Int × List (List Int) × List Int × Unit
/-- Well-formed memories. -/
def FormM : MD → Prop
  | (vs, os, qs, sg, _) => vs.length ≤ 8 ∧ os.length ≤ 4 ∧ qs.length ≤ 4 ∧ SS sg ∧ (∀ v ∈ vs, valS v = true) ∧ (∀ o ∈ os, -1 ≤ o) ∧ (∀ x ∈ sg ++ qs.flatten, 0 ≤ x) ∧ (sg ++ qs.flatten).Nodup
open Classical in
noncomputable def formM (m : MD) : Bool := decide (FormM m)
open Classical in
theorem formM_iff {m : MD} : formM m = true ↔ FormM m := by unfold formM; rw [decide_eq_true_iff]
theorem formM_false {m : MD} (h : ¬ FormM m) : formM m = false := Bool.eq_false_iff.2 fun q => h (formM_iff.1 q)
def bndM (m : MD) : Prop := m.1.length ≤ 1000 ∧ m.2.1.length ≤ 1000 ∧ m.2.2.1.length ≤ 1000 ∧ m.2.2.2.1.length ≤ 1000 ∧ (∀ q ∈ m.2.2.1, q.length ≤ 1000) ∧ m.2.2.1.flatten.length ≤ 100000
theorem valS_iff {n : Int} : valS n = true ↔ -2147483648 ≤ n ∧ n ≤ 2147483647 := by
  unfold valS; simp
theorem validI_iff {l : List Int} : validI l = true ↔ SS l := by unfold validI; rw [decide_eq_true_iff]
theorem flat_take (qs : List (List Int)) (k : Nat) : (qs.take k).flatten.length ≤ qs.flatten.length := by
  have : qs.flatten = (qs.take k).flatten ++ (qs.drop k).flatten := by rw [← List.flatten_append, List.take_append_drop]
  rw [this, List.length_append]; omega
theorem flat_succ {qs : List (List Int)} {k : Nat} {d : List Int} (h : qs[k]? = some d) : (qs.take (k + 1)).flatten = (qs.take k).flatten ++ d := by
  rw [List.take_add_one, h]; simp
theorem nodup_at {l : List Int} (h : l.Nodup) {k : Nat} {d : Int} (hd : l[k]? = some d) : d ∉ l.take k := by
  intro hm
  obtain ⟨j, hj⟩ := List.getElem?_of_mem hm
  rw [List.getElem?_take] at hj
  split at hj
  · rename_i hjk
    obtain ⟨h1, e1⟩ := List.getElem?_eq_some_iff.1 hj
    obtain ⟨h2, e2⟩ := List.getElem?_eq_some_iff.1 hd
    have := List.pairwise_iff_getElem.1 h j k h1 h2 hjk
    exact this (e1.trans e2.symm)
  · cases hj
theorem nodup_succ {l : List Int} {k : Nat} (h : (l.take k).Nodup) {d : Int} (hd : l[k]? = some d) (hn : d ∉ l.take k) : (l.take (k + 1)).Nodup := by
  rw [List.take_add_one, hd, Option.toList_some, List.nodup_append]
  refine ⟨h, by simp, fun a ha b hb => ?_⟩
  simp at hb; subst hb
  rintro rfl; exact hn ha
theorem make_le : ∀ (l o : List Int), (l.foldl (fun o x => if hasI o x then o else insI o x) o).length ≤ o.length + l.length
  | [], o => by simp
  | x :: l, o => by
    simp only [List.foldl_cons, List.length_cons]
    split
    · have := make_le l o; omega
    · have := make_le l (insI o x); rw [insI_len] at this; omega
theorem make_full : ∀ (l o : List Int), (l.foldl (fun o x => if hasI o x then o else insI o x) o).length = o.length + l.length ↔ (l.Nodup ∧ ∀ x ∈ l, x ∉ o)
  | [], o => by simp
  | x :: l, o => by
    simp only [List.foldl_cons, List.length_cons]
    split
    · rename_i hx
      have := make_le l o
      constructor
      · intro h; omega
      · rintro ⟨_, h⟩; exact absurd (hasI_iff.1 hx) (h x (by simp))
    · rename_i hx
      have hx : x ∉ o := fun hh => hx (hasI_iff.2 hh)
      have ih := make_full l (insI o x)
      rw [insI_len] at ih
      rw [show o.length + (l.length + 1) = o.length + 1 + l.length by omega, ih, List.nodup_cons]
      constructor
      · rintro ⟨h1, h2⟩
        refine ⟨⟨fun hm => h2 x hm (ins_mem.2 (.inl rfl)), h1⟩, fun y hy => ?_⟩
        rcases List.mem_cons.1 hy with rfl | hy
        · exact hx
        · exact fun hh => h2 y hy (ins_mem.2 (.inr hh))
      · rintro ⟨⟨h1, h2⟩, h3⟩
        refine ⟨h2, fun y hy hh => ?_⟩
        rcases ins_mem.1 hh with rfl | hh
        · exact h1 hy
        · exact h3 y (by simp [hy]) hh
theorem make_nodup {l : List Int} : (makeI l).length = l.length ↔ l.Nodup := by
  have := make_full l []
  simp only [List.length_nil, Nat.zero_add] at this
  unfold makeI
  rw [this]; simp
@[reducible] def ctCld : CT := { ps := [.sl (.int .i64)], pre := fun d => d.1.length ≤ 1000000, res := fun d => ([.row 3 (.int .i64) (d.1)], .one (.c (.row 0))) }
@[reducible] def cl60 : List (Nat × CT) := []
@[reducible] def ann60 (l : List Int) : Nat → Option (St → Ann) := fun _ => none
@[reducible] def il60 : List (Nat × IP) := []
@[reducible] def hl60 : List (Nat × Nat × CT) := []
@[reducible] def ml60 : List (Nat × MK) := []
set_option maxRecDepth 100000 in
theorem f60_vc (l : List Int) (hpre : ctCld.pre (l, ())) :
    ((0 : Int) ≤ (↑l.length : Int) ∧ (↑l.length : Int) ≤ (↑l.length : Int) ∧ InA (↑l.length : Int).toNat (8 : Nat)) ∧ [Res.row (3 : TypeId) I6 l] = [Res.row (3 : TypeId) I6 (List.take (List.length (List.replicate (↑l.length : Int).toNat (0 : Int))) (l) ++ List.drop (List.length (l)) (List.replicate (↑l.length : Int).toNat (0 : Int)))] ∧ Ent.one (SV.c (SC.row (0 : Nat))) = Ent.one (SV.c (SC.row (0 : Nat))) := by
  have hp : l.length ≤ 1000000 := hpre
  refine ⟨⟨by omega, by omega, InA_iff.2 (by omega)⟩, ?_, rfl⟩
  simp
set_option maxHeartbeats 2000000 in
set_option maxRecDepth 100000 in
theorem f60_met : Go.Eng.Met Tryd.prog cx0.gd 60 ctCld :=
  (met_all (cx := cx0) (n := 11) (cl := cl60) (il := il60) (hl := hl60) (ml := ml60) (rc := []) (lits := []) (suf := []) (by kernel_rfl) tis_ok trivial trivial trivial trivial Tryd.func60 (by kernel_rfl) (by kernel_rfl) rfl (by kernel_rfl) (by kernel_rfl) (by simp) fun d hd => by
    obtain ⟨l, ⟨⟩⟩ := d
    exact ex_of (ann60 l) (f60_vc l hd) (by kernel_rfl)).met
@[reducible] def ctCop : CT := { ps := [.sl (.int .i64)], pre := fun d => d.1.length ≤ 1000000, res := fun d => ([.row 3 (.int .i64) (d.1)], .one (.c (.row 0))) }
@[reducible] def cl61 : List (Nat × CT) := []
@[reducible] def ann61 (l : List Int) : Nat → Option (St → Ann) := fun _ => none
@[reducible] def il61 : List (Nat × IP) := []
@[reducible] def hl61 : List (Nat × Nat × CT) := []
@[reducible] def ml61 : List (Nat × MK) := []
set_option maxRecDepth 100000 in
theorem f61_vc (l : List Int) (hpre : ctCop.pre (l, ())) :
    InA (List.length (l)) (8 : Nat) ∧ [Res.row (3 : TypeId) I6 l] = [Res.row (3 : TypeId) I6 (l)] ∧ Ent.one (SV.c (SC.row (0 : Nat))) = Ent.one (SV.c (SC.row (0 : Nat))) := by
  have hp : l.length ≤ 1000000 := hpre
  exact ⟨InA_iff.2 (by omega), rfl, rfl⟩
set_option maxHeartbeats 2000000 in
set_option maxRecDepth 100000 in
theorem f61_met : Go.Eng.Met Tryd.prog cx0.gd 61 ctCop :=
  (met_all (cx := cx0) (n := 7) (cl := cl61) (il := il61) (hl := hl61) (ml := ml61) (rc := [.row 3 (.int .i64)]) (lits := []) (suf := []) (by kernel_rfl) tis_ok trivial trivial trivial trivial Tryd.func61 (by kernel_rfl) (by kernel_rfl) rfl (by kernel_rfl) (by kernel_rfl) (by simp) fun d hd => by
    obtain ⟨l, ⟨⟩⟩ := d
    exact ex_of (ann61 l) (f61_vc l hd) (by kernel_rfl)).met
@[reducible] noncomputable def ctFm : CT := { ps := [shM], pre := fun d => bndM d.1, res := fun d => ([], vB (formM d.1)) }
@[reducible] noncomputable def cl48 : List (Nat × CT) := [(60, ctCld), (76, ctV), (77, ctCon)]
@[reducible] def ann48 (vs : List Int) (os : List Int) (qs : List (List Int)) (sg : List Int) : Nat → Option (St → Ann) := fun k => match k with
  | 4 => some fun _ => .inv { α := Nat, slots := fun k => [(37, .c (.v (.int .i64 k)))], res := fun _ => [], inv := fun k => k ≤ vs.length ∧ ∀ j < k, ∀ v, vs[j]? = some v → valS v = true, meas := fun k => vs.length - k }
  | 10 => some fun _ => .inv { α := Nat, slots := fun k => [(51, .c (.v (.int .i64 k)))], res := fun _ => [], inv := fun k => k ≤ os.length ∧ ∀ j < k, ∀ v, os[j]? = some v → -1 ≤ v, meas := fun k => os.length - k }
  | 17 => some fun _ => .inv { α := Nat, drop := [60], slots := fun k => [(64, .c (.v (.int .i64 k))), (7, .c (.row 1))], res := fun k => [(1, .row 3 (.int .i64) (sg ++ (qs.take k).flatten))], inv := fun k => k ≤ qs.length, meas := fun k => qs.length - k }
  | 22 => some fun _ => .inv { α := Nat, frzI := [1], slots := fun k => [(74, .c (.v (.int .i64 k)))], res := fun _ => [], inv := fun k => k ≤ (sg ++ qs.flatten).length ∧ (∀ j < k, ∀ v, (sg ++ qs.flatten)[j]? = some v → 0 ≤ v) ∧ ((sg ++ qs.flatten).take k).Nodup, meas := fun k => (sg ++ qs.flatten).length - k }
  | _ => none
@[reducible] def il48 : List (Nat × IP) := []
@[reducible] def hl48 : List (Nat × Nat × CT) := []
@[reducible] noncomputable def ml48 : List (Nat × MK) := []
set_option maxRecDepth 100000 in
theorem f48_vc (vs : List Int) (os : List Int) (qs : List (List Int)) (sg : List Int) (hpre : ctFm.pre ((vs, os, qs, sg, ()), ())) :
    ((!(decide ((8 : Int) < (↑vs.length : Int)) || decide ((4 : Int) < (↑os.length : Int)) || decide ((4 : Int) < (↑qs.length : Int)))) = true → sg.length ≤ (1000000 : Nat)) ∧ br (decide ((8 : Int) < (↑vs.length : Int)) || decide ((4 : Int) < (↑os.length : Int)) || decide ((4 : Int) < (↑qs.length : Int)) || !validI sg) (([] : List Go.Eng.Res) = [] ∧ Ent.one (SV.c (SC.v (Value.bool (formM (vs, os, qs, sg, ()))))) = Ent.one (SV.c (SC.v (Value.bool false)))) ((∃ x, (x ≤ vs.length ∧ ∀ (j : Nat), j < x → ∀ (v : Int), vs[j]? = some v → valS v = true) ∧ (SV.c (SC.v (Value.int IntKind.i64 (0 : Int))) = SV.c (SC.v (Value.int IntKind.i64 (↑x : Int))) ∧ True) ∧ [(([] : Go.Eng.Gd), bM6 vs os qs sg)] = [(([] : Go.Eng.Gd), bM6 vs os qs sg)]) ∧ ∀ (x : Nat), (x ≤ vs.length ∧ ∀ (j : Nat), j < x → ∀ (v : Int), vs[j]? = some v → valS v = true) → br (decide ((↑x : Int) < (↑vs.length : Int))) (((0 : Int) ≤ (↑x : Int) ∧ (↑x : Int) < (↑vs.length : Int)) ∧ ∀ (d : Int), vs[(↑x : Int).toNat]? = some d → br (decide (d < (-2147483648 : Int)) || decide ((2147483647 : Int) < d)) (([] : List Go.Eng.Res) = [] ∧ Ent.one (SV.c (SC.v (Value.bool (formM (vs, os, qs, sg, ()))))) = Ent.one (SV.c (SC.v (Value.bool false)))) (InR IntKind.i64 ((↑x : Int) + (1 : Int)) ∧ ∃ x', (x' ≤ vs.length ∧ ∀ (j : Nat), j < x' → ∀ (v : Int), vs[j]? = some v → valS v = true) ∧ (SV.c (SC.v (Value.int IntKind.i64 ((↑x : Int) + (1 : Int)))) = SV.c (SC.v (Value.int IntKind.i64 (↑x' : Int))) ∧ True) ∧ [(([] : Go.Eng.Gd), bM6 vs os qs sg)] = [(([] : Go.Eng.Gd), bM6 vs os qs sg)] ∧ vs.length - x' < vs.length - x)) ((∃ x, (x ≤ os.length ∧ ∀ (j : Nat), j < x → ∀ (v : Int), os[j]? = some v → (-1 : Int) ≤ v) ∧ (SV.c (SC.v (Value.int IntKind.i64 (0 : Int))) = SV.c (SC.v (Value.int IntKind.i64 (↑x : Int))) ∧ True) ∧ [(([] : Go.Eng.Gd), bM6 vs os qs sg)] = [(([] : Go.Eng.Gd), bM6 vs os qs sg)]) ∧ ∀ (x : Nat), (x ≤ os.length ∧ ∀ (j : Nat), j < x → ∀ (v : Int), os[j]? = some v → (-1 : Int) ≤ v) → br (decide ((↑x : Int) < (↑os.length : Int))) (((0 : Int) ≤ (↑x : Int) ∧ (↑x : Int) < (↑os.length : Int)) ∧ ∀ (d : Int), os[(↑x : Int).toNat]? = some d → br (decide (d < (-1 : Int))) (([] : List Go.Eng.Res) = [] ∧ Ent.one (SV.c (SC.v (Value.bool (formM (vs, os, qs, sg, ()))))) = Ent.one (SV.c (SC.v (Value.bool false)))) (InR IntKind.i64 ((↑x : Int) + (1 : Int)) ∧ ∃ x', (x' ≤ os.length ∧ ∀ (j : Nat), j < x' → ∀ (v : Int), os[j]? = some v → (-1 : Int) ≤ v) ∧ (SV.c (SC.v (Value.int IntKind.i64 ((↑x : Int) + (1 : Int)))) = SV.c (SC.v (Value.int IntKind.i64 (↑x' : Int))) ∧ True) ∧ [(([] : Go.Eng.Gd), bM6 vs os qs sg)] = [(([] : Go.Eng.Gd), bM6 vs os qs sg)] ∧ os.length - x' < os.length - x)) (sg.length ≤ (1000000 : Nat) ∧ (∃ x, x ≤ qs.length ∧ (SV.c (SC.v (Value.int IntKind.i64 (0 : Int))) = SV.c (SC.v (Value.int IntKind.i64 (↑x : Int))) ∧ SV.c (SC.row (1 : Nat)) = SV.c (SC.row (1 : Nat)) ∧ True) ∧ [(([] : Go.Eng.Gd), bM6 vs os qs sg), (([] : Go.Eng.Gd), Res.row (3 : TypeId) I6 sg)] = [(([] : Go.Eng.Gd), bM6 vs os qs sg), (([] : Go.Eng.Gd), Res.row (3 : TypeId) I6 (sg ++ (List.take x qs).flatten))]) ∧ ∀ (x : Nat), x ≤ qs.length → br (decide ((↑x : Int) < (↑qs.length : Int))) (((0 : Int) ≤ (↑x : Int) ∧ (↑x : Int) < (↑qs.length : Int)) ∧ ∀ (d : List I6.den), qs[(↑x : Int).toNat]? = some d → InA (List.length ((sg ++ (List.take x qs).flatten)) + List.length (d)) (8 : Nat) ∧ InR IntKind.i64 ((↑x : Int) + (1 : Int)) ∧ ∃ x', x' ≤ qs.length ∧ (SV.c (SC.v (Value.int IntKind.i64 ((↑x : Int) + (1 : Int)))) = SV.c (SC.v (Value.int IntKind.i64 (↑x' : Int))) ∧ SV.c (SC.row (1 : Nat)) = SV.c (SC.row (1 : Nat)) ∧ True) ∧ [(([] : Go.Eng.Gd), bM6 vs os qs sg), (([] : Go.Eng.Gd), Res.row (3 : TypeId) I6 ((sg ++ (List.take x qs).flatten) ++ d))] = [(([] : Go.Eng.Gd), bM6 vs os qs sg), (([] : Go.Eng.Gd), Res.row (3 : TypeId) I6 (sg ++ (List.take x' qs).flatten))] ∧ qs.length - x' < qs.length - x) ((∃ x, (x ≤ (sg ++ qs.flatten).length ∧ (∀ (j : Nat), j < x → ∀ (v : Int), (sg ++ qs.flatten)[j]? = some v → (0 : Int) ≤ v) ∧ (List.take x (sg ++ qs.flatten)).Nodup) ∧ (SV.c (SC.v (Value.int IntKind.i64 (0 : Int))) = SV.c (SC.v (Value.int IntKind.i64 (↑x : Int))) ∧ True) ∧ [(([] : Go.Eng.Gd), bM6 vs os qs sg), (([] : Go.Eng.Gd), Res.gone)] = [(([] : Go.Eng.Gd), bM6 vs os qs sg), (([] : Go.Eng.Gd), Res.gone)]) ∧ ∀ (x_1 : Nat), x_1 ≤ (sg ++ qs.flatten).length ∧ (∀ (j : Nat), j < x_1 → ∀ (v : Int), (sg ++ qs.flatten)[j]? = some v → (0 : Int) ≤ v) ∧ (List.take x_1 (sg ++ qs.flatten)).Nodup → br (decide ((↑x_1 : Int) < (↑(sg ++ (List.take x qs).flatten).length : Int))) (((0 : Int) ≤ (↑x_1 : Int) ∧ (↑x_1 : Int) < (↑(sg ++ (List.take x qs).flatten).length : Int)) ∧ ∀ (d : Int), (sg ++ (List.take x qs).flatten)[(↑x_1 : Int).toNat]? = some d → ((!decide (d < (0 : Int))) = true → (0 : Int) ≤ (0 : Int) ∧ (0 : Int) ≤ (↑x_1 : Int) ∧ (↑x_1 : Int) ≤ (↑(sg ++ (List.take x qs).flatten).length : Int)) ∧ ((!decide (d < (0 : Int))) = true → (List.drop (0 : Nat) (List.take (↑x_1 : Int).toNat (sg ++ (List.take x qs).flatten))).length ≤ (4611686018427387904 : Nat)) ∧ br (decide (d < (0 : Int)) || hasI (List.drop (0 : Nat) (List.take (↑x_1 : Int).toNat (sg ++ (List.take x qs).flatten))) d) (([] : List Go.Eng.Res) = [] ∧ Ent.one (SV.c (SC.v (Value.bool (formM (vs, os, qs, sg, ()))))) = Ent.one (SV.c (SC.v (Value.bool false)))) (InR IntKind.i64 ((↑x_1 : Int) + (1 : Int)) ∧ ∃ x', (x' ≤ (sg ++ qs.flatten).length ∧ (∀ (j : Nat), j < x' → ∀ (v : Int), (sg ++ qs.flatten)[j]? = some v → (0 : Int) ≤ v) ∧ (List.take x' (sg ++ qs.flatten)).Nodup) ∧ (SV.c (SC.v (Value.int IntKind.i64 ((↑x_1 : Int) + (1 : Int)))) = SV.c (SC.v (Value.int IntKind.i64 (↑x' : Int))) ∧ True) ∧ [(([] : Go.Eng.Gd), bM6 vs os qs sg), (([] : Go.Eng.Gd), Res.gone)] = [(([] : Go.Eng.Gd), bM6 vs os qs sg), (([] : Go.Eng.Gd), Res.gone)] ∧ (sg ++ qs.flatten).length - x' < (sg ++ qs.flatten).length - x_1)) (([] : List Go.Eng.Res) = [] ∧ Ent.one (SV.c (SC.v (Value.bool (formM (vs, os, qs, sg, ()))))) = Ent.one (SV.c (SC.v (Value.bool true)))))))) := by
  obtain ⟨b1, b2, b3, b4, b5, b6⟩ : vs.length ≤ 1000 ∧ os.length ≤ 1000 ∧ qs.length ≤ 1000 ∧ sg.length ≤ 1000 ∧ (∀ q ∈ qs, q.length ≤ 1000) ∧ qs.flatten.length ≤ 100000 := hpre
  have fF : ¬ FormM (vs, os, qs, sg, ()) → ([] : List Go.Eng.Res) = [] ∧ Ent.one (SV.c (SC.v (Value.bool (formM (vs, os, qs, sg, ()))))) = Ent.one (SV.c (SC.v (Value.bool false))) := fun q => ⟨rfl, by rw [formM_false q]⟩
  refine ⟨fun _ => by omega, br_iff.2 ⟨fun h => fF fun q => ?_, fun h => ?_⟩⟩
  · obtain ⟨q1, q2, q3, q4, _⟩ := q
    rw [validI_iff.2 q4] at h
    simp at h; omega
  simp only [Bool.or_eq_false_iff, Bool.not_eq_false', decide_eq_false_iff_not] at h
  obtain ⟨⟨⟨h1, h2⟩, h3⟩, h4⟩ := h
  have h4 : SS sg := validI_iff.1 h4
  refine ⟨⟨0, ⟨by omega, fun j hj => by omega⟩, ⟨rfl, trivial⟩, rfl⟩, fun k hk => br_iff.2 ⟨fun g => ?_, fun g => ?_⟩⟩
  · simp only [decide_eq_true_eq] at g
    refine ⟨⟨by omega, by omega⟩, fun d hd => br_iff.2 ⟨fun g2 => fF fun q => ?_, fun g2 => ⟨InR_i64.2 (by omega), k + 1, ⟨by omega, fun j hj v hv => ?_⟩, ⟨rfl, trivial⟩, rfl, by omega⟩⟩⟩
    · have := valS_iff.1 (q.2.2.2.2.1 d (List.mem_of_getElem? hd))
      simp at g2; omega
    · by_cases hjk : j = k
      · subst hjk
        have hd : vs[j]? = some d := hd
        rw [hd] at hv; cases hv
        rw [valS_iff]
        simp at g2; omega
      · exact hk.2 j (by omega) v hv
  simp only [decide_eq_false_iff_not] at g
  have v1 : ∀ v ∈ vs, valS v = true := fun v hv => by
    obtain ⟨j, hj⟩ := List.getElem?_of_mem hv
    exact hk.2 j (by have := (List.getElem?_eq_some_iff.1 hj).1; omega) v hj
  refine ⟨⟨0, ⟨by omega, fun j hj => by omega⟩, ⟨rfl, trivial⟩, rfl⟩, fun k2 hk2 => br_iff.2 ⟨fun g => ?_, fun g => ?_⟩⟩
  · simp only [decide_eq_true_eq] at g
    refine ⟨⟨by omega, by omega⟩, fun d hd => br_iff.2 ⟨fun g2 => fF fun q => ?_, fun g2 => ⟨InR_i64.2 (by omega), k2 + 1, ⟨by omega, fun j hj v hv => ?_⟩, ⟨rfl, trivial⟩, rfl, by omega⟩⟩⟩
    · have := q.2.2.2.2.2.1 d (List.mem_of_getElem? hd)
      simp at g2; omega
    · by_cases hjk : j = k2
      · subst hjk
        have hd : os[j]? = some d := hd
        rw [hd] at hv; cases hv
        simp at g2; omega
      · exact hk2.2 j (by omega) v hv
  simp only [decide_eq_false_iff_not] at g
  have v2 : ∀ v ∈ os, -1 ≤ v := fun v hv => by
    obtain ⟨j, hj⟩ := List.getElem?_of_mem hv
    exact hk2.2 j (by have := (List.getElem?_eq_some_iff.1 hj).1; omega) v hj
  refine ⟨by omega, ⟨0, by omega, ⟨rfl, rfl, trivial⟩, by simp⟩, fun k3 hk3 => br_iff.2 ⟨fun g => ?_, fun g => ?_⟩⟩
  · simp only [decide_eq_true_eq] at g
    refine ⟨⟨by omega, by omega⟩, fun d hd => ⟨InA_iff.2 ?_, InR_i64.2 (by omega), k3 + 1, by omega, ⟨rfl, rfl, trivial⟩, ?_, by omega⟩⟩
    · have := flat_take qs k3
      have := b5 d (List.mem_of_getElem? hd)
      rw [List.length_append]; omega
    · have hd : qs[k3]? = some d := hd
      rw [flat_succ hd, List.append_assoc]
  simp only [decide_eq_false_iff_not] at g
  have ek : qs.take k3 = qs := List.take_of_length_le (by omega)
  rw [ek]
  have bl : (sg ++ qs.flatten).length ≤ 101000 := by rw [List.length_append]; omega
  refine ⟨⟨0, ⟨by omega, fun j hj => by omega, by simp⟩, ⟨rfl, trivial⟩, rfl⟩, fun k4 hk4 => br_iff.2 ⟨fun g => ?_, fun g => ?_⟩⟩
  · simp only [decide_eq_true_eq] at g
    refine ⟨⟨by omega, by omega⟩, fun d hd => ⟨fun _ => ⟨by omega, by omega, by omega⟩, fun _ => by simp only [List.drop_zero, List.length_take]; omega, br_iff.2 ⟨fun g2 => fF fun q => ?_, fun g2 => ⟨InR_i64.2 (by omega), k4 + 1, ⟨by omega, fun j hj v hv => ?_, ?_⟩, ⟨rfl, trivial⟩, rfl, by omega⟩⟩⟩⟩
    · have hd : (sg ++ qs.flatten)[k4]? = some d := hd
      have n0 := q.2.2.2.2.2.2.1 d (List.mem_of_getElem? hd)
      have n1 := nodup_at q.2.2.2.2.2.2.2 hd
      have n2 : hasI ((sg ++ qs.flatten).take k4) d = false := hasI_false.2 n1
      rw [List.drop_zero, show ((k4 : Int)).toNat = k4 from rfl, n2] at g2
      simp at g2; omega
    all_goals
      rw [List.drop_zero, show ((k4 : Int)).toNat = k4 from rfl, Bool.or_eq_false_iff, decide_eq_false_iff_not] at g2
      have hd : (sg ++ qs.flatten)[k4]? = some d := hd
    · by_cases hjk : j = k4
      · subst hjk
        rw [hd] at hv; cases hv
        omega
      · exact hk4.2.1 j (by omega) v hv
    · exact nodup_succ hk4.2.2 hd (hasI_false.1 g2.2)
  simp only [decide_eq_false_iff_not] at g
  refine ⟨rfl, ?_⟩
  rw [formM_iff.2]
  refine ⟨by omega, by omega, by omega, h4, v1, v2, fun x hx => ?_, ?_⟩
  · obtain ⟨j, hj⟩ := List.getElem?_of_mem hx
    exact hk4.2.1 j (by have := (List.getElem?_eq_some_iff.1 hj).1; omega) x hj
  · have := hk4.2.2
    rwa [List.take_of_length_le (by omega)] at this
set_option maxHeartbeats 2000000 in
set_option maxRecDepth 100000 in
theorem f48_met : Go.Eng.Met Tryd.prog cx0.gd 48 ctFm :=
  (met_all (cx := cx0) (n := 89) (cl := cl48) (il := il48) (hl := hl48) (ml := ml48) (rc := []) (lits := []) (suf := []) (by kernel_rfl) tis_ok ⟨f60_met, f76_met, f77_met, trivial⟩ trivial trivial trivial Tryd.func48 (by kernel_rfl) (by kernel_rfl) rfl (by kernel_rfl) (by kernel_rfl) (by simp) fun d hd => by
    obtain ⟨⟨vs, os, qs, sg, ⟨⟩⟩, ⟨⟩⟩ := d
    exact ex_of (ann48 vs os qs sg) (f48_vc vs os qs sg hd) (by kernel_rfl)).met
@[reducible] noncomputable def ctWf : CT := { ps := [shM], pre := fun d => bndM d.1, res := fun d => ([], vB (formM d.1)) }
@[reducible] noncomputable def cl40 : List (Nat × CT) := [(65, ctrV), (66, ct41)]
@[reducible] def ann40 (vs : List Int) (os : List Int) (qs : List (List Int)) (sg : List Int) : Nat → Option (St → Ann) := fun k => match k with
  | 4 => some fun _ => .inv { α := Nat, slots := fun k => [(3, .c (.v (.int .i64 k)))], res := fun _ => [], inv := fun k => k ≤ vs.length ∧ ∀ j < k, ∀ v, vs[j]? = some v → valS v = true, meas := fun k => vs.length - k }
  | 9 => some fun _ => .inv { α := Nat, slots := fun k => [(4, .c (.v (.int .i64 k)))], res := fun _ => [], inv := fun k => k ≤ os.length ∧ ∀ j < k, ∀ v, os[j]? = some v → -1 ≤ v, meas := fun k => os.length - k }
  | 18 => some fun _ => .inv { α := Nat, drop := [65], slots := fun k => [(6, .c (.v (.int .i64 k))), (5, .c (.row 1))], res := fun k => [(1, .row 3 (.int .i64) (sg ++ (qs.take k).flatten))], inv := fun k => k ≤ qs.length, meas := fun k => qs.length - k }
  | 22 => some fun _ => .inv { α := Nat, frzI := [1], slots := fun k => [(7, .c (.v (.int .i64 k)))], res := fun _ => [], inv := fun k => k ≤ (sg ++ qs.flatten).length ∧ (∀ j < k, ∀ v, (sg ++ qs.flatten)[j]? = some v → 0 ≤ v), meas := fun k => (sg ++ qs.flatten).length - k }
  | _ => none
@[reducible] def il40 : List (Nat × IP) := []
@[reducible] def hl40 : List (Nat × Nat × CT) := []
@[reducible] noncomputable def ml40 : List (Nat × MK) := []
set_option maxRecDepth 100000 in
theorem f40_vc (vs : List Int) (os : List Int) (qs : List (List Int)) (sg : List Int) (hpre : ctWf.pre ((vs, os, qs, sg, ()), ())) :
    br (decide ((8 : Int) < (↑vs.length : Int)) || decide ((4 : Int) < (↑os.length : Int)) || decide ((4 : Int) < (↑qs.length : Int))) (([] : List Go.Eng.Res) = [] ∧ Ent.one (SV.c (SC.v (Value.bool (formM (vs, os, qs, sg, ()))))) = Ent.one (SV.c (SC.v (Value.bool false)))) ((∃ x, (x ≤ vs.length ∧ ∀ (j : Nat), j < x → ∀ (v : Int), vs[j]? = some v → valS v = true) ∧ (SV.c (SC.v (Value.int IntKind.i64 (0 : Int))) = SV.c (SC.v (Value.int IntKind.i64 (↑x : Int))) ∧ True) ∧ [(([] : Go.Eng.Gd), bM6 vs os qs sg)] = [(([] : Go.Eng.Gd), bM6 vs os qs sg)]) ∧ ∀ (x : Nat), (x ≤ vs.length ∧ ∀ (j : Nat), j < x → ∀ (v : Int), vs[j]? = some v → valS v = true) → br (decide ((↑x : Int) < (↑vs.length : Int))) (((0 : Int) ≤ (↑x : Int) ∧ (↑x : Int) < (↑vs.length : Int)) ∧ ∀ (d : Int), vs[(↑x : Int).toNat]? = some d → ((!decide (d < (-2147483648 : Int))) = true → (0 : Int) ≤ (↑x : Int) ∧ (↑x : Int) < (↑vs.length : Int)) ∧ ∀ (d_1 : Int), ((!decide (d < (-2147483648 : Int))) = true → vs[(↑x : Int).toNat]? = some d_1) → br (decide (d < (-2147483648 : Int)) || decide ((2147483647 : Int) < d_1)) (([] : List Go.Eng.Res) = [] ∧ Ent.one (SV.c (SC.v (Value.bool (formM (vs, os, qs, sg, ()))))) = Ent.one (SV.c (SC.v (Value.bool false)))) (InR IntKind.i64 ((↑x : Int) + (1 : Int)) ∧ ∃ x', (x' ≤ vs.length ∧ ∀ (j : Nat), j < x' → ∀ (v : Int), vs[j]? = some v → valS v = true) ∧ (SV.c (SC.v (Value.int IntKind.i64 ((↑x : Int) + (1 : Int)))) = SV.c (SC.v (Value.int IntKind.i64 (↑x' : Int))) ∧ True) ∧ [(([] : Go.Eng.Gd), bM6 vs os qs sg)] = [(([] : Go.Eng.Gd), bM6 vs os qs sg)] ∧ vs.length - x' < vs.length - x)) ((∃ x, (x ≤ os.length ∧ ∀ (j : Nat), j < x → ∀ (v : Int), os[j]? = some v → (-1 : Int) ≤ v) ∧ (SV.c (SC.v (Value.int IntKind.i64 (0 : Int))) = SV.c (SC.v (Value.int IntKind.i64 (↑x : Int))) ∧ True) ∧ [(([] : Go.Eng.Gd), bM6 vs os qs sg)] = [(([] : Go.Eng.Gd), bM6 vs os qs sg)]) ∧ ∀ (x : Nat), (x ≤ os.length ∧ ∀ (j : Nat), j < x → ∀ (v : Int), os[j]? = some v → (-1 : Int) ≤ v) → br (decide ((↑x : Int) < (↑os.length : Int))) (((0 : Int) ≤ (↑x : Int) ∧ (↑x : Int) < (↑os.length : Int)) ∧ ∀ (d : Int), os[(↑x : Int).toNat]? = some d → br (decide (d < (-1 : Int))) (([] : List Go.Eng.Res) = [] ∧ Ent.one (SV.c (SC.v (Value.bool (formM (vs, os, qs, sg, ()))))) = Ent.one (SV.c (SC.v (Value.bool false)))) (InR IntKind.i64 ((↑x : Int) + (1 : Int)) ∧ ∃ x', (x' ≤ os.length ∧ ∀ (j : Nat), j < x' → ∀ (v : Int), os[j]? = some v → (-1 : Int) ≤ v) ∧ (SV.c (SC.v (Value.int IntKind.i64 ((↑x : Int) + (1 : Int)))) = SV.c (SC.v (Value.int IntKind.i64 (↑x' : Int))) ∧ True) ∧ [(([] : Go.Eng.Gd), bM6 vs os qs sg)] = [(([] : Go.Eng.Gd), bM6 vs os qs sg)] ∧ os.length - x' < os.length - x)) (sg.length ≤ (1000000 : Nat) ∧ br (!validI sg) (([] : List Go.Eng.Res) = [] ∧ Ent.one (SV.c (SC.v (Value.bool (formM (vs, os, qs, sg, ()))))) = Ent.one (SV.c (SC.v (Value.bool false)))) (InA (List.length (sg)) (8 : Nat) ∧ (∃ x, x ≤ qs.length ∧ (SV.c (SC.v (Value.int IntKind.i64 (0 : Int))) = SV.c (SC.v (Value.int IntKind.i64 (↑x : Int))) ∧ SV.c (SC.row (Nat.succ (0 : Nat))) = SV.c (SC.row (1 : Nat)) ∧ True) ∧ [(([] : Go.Eng.Gd), bM6 vs os qs sg), (([] : Go.Eng.Gd), Res.row (3 : TypeId) I6 (sg))] = [(([] : Go.Eng.Gd), bM6 vs os qs sg), (([] : Go.Eng.Gd), Res.row (3 : TypeId) I6 (sg ++ (List.take x qs).flatten))]) ∧ ∀ (x : Nat), x ≤ qs.length → br (decide ((↑x : Int) < (↑qs.length : Int))) (((0 : Int) ≤ (↑x : Int) ∧ (↑x : Int) < (↑qs.length : Int)) ∧ ∀ (d : List I6.den), qs[(↑x : Int).toNat]? = some d → InA (List.length ((sg ++ (List.take x qs).flatten)) + List.length (d)) (8 : Nat) ∧ InR IntKind.i64 ((↑x : Int) + (1 : Int)) ∧ ∃ x', x' ≤ qs.length ∧ (SV.c (SC.v (Value.int IntKind.i64 ((↑x : Int) + (1 : Int)))) = SV.c (SC.v (Value.int IntKind.i64 (↑x' : Int))) ∧ SV.c (SC.row (1 : Nat)) = SV.c (SC.row (1 : Nat)) ∧ True) ∧ [(([] : Go.Eng.Gd), bM6 vs os qs sg), (([] : Go.Eng.Gd), Res.row (3 : TypeId) I6 ((sg ++ (List.take x qs).flatten) ++ d))] = [(([] : Go.Eng.Gd), bM6 vs os qs sg), (([] : Go.Eng.Gd), Res.row (3 : TypeId) I6 (sg ++ (List.take x' qs).flatten))] ∧ qs.length - x' < qs.length - x) ((∃ x, (x ≤ (sg ++ qs.flatten).length ∧ ∀ (j : Nat), j < x → ∀ (v : Int), (sg ++ qs.flatten)[j]? = some v → (0 : Int) ≤ v) ∧ (SV.c (SC.v (Value.int IntKind.i64 (0 : Int))) = SV.c (SC.v (Value.int IntKind.i64 (↑x : Int))) ∧ True) ∧ [(([] : Go.Eng.Gd), bM6 vs os qs sg), (([] : Go.Eng.Gd), Res.gone)] = [(([] : Go.Eng.Gd), bM6 vs os qs sg), (([] : Go.Eng.Gd), Res.gone)]) ∧ ∀ (x_1 : Nat), (x_1 ≤ (sg ++ qs.flatten).length ∧ ∀ (j : Nat), j < x_1 → ∀ (v : Int), (sg ++ qs.flatten)[j]? = some v → (0 : Int) ≤ v) → br (decide ((↑x_1 : Int) < (↑(sg ++ (List.take x qs).flatten).length : Int))) (((0 : Int) ≤ (↑x_1 : Int) ∧ (↑x_1 : Int) < (↑(sg ++ (List.take x qs).flatten).length : Int)) ∧ ∀ (d : Int), (sg ++ (List.take x qs).flatten)[(↑x_1 : Int).toNat]? = some d → br (decide (d < (0 : Int))) (([] : List Go.Eng.Res) = [] ∧ Ent.one (SV.c (SC.v (Value.bool (formM (vs, os, qs, sg, ()))))) = Ent.one (SV.c (SC.v (Value.bool false)))) (InR IntKind.i64 ((↑x_1 : Int) + (1 : Int)) ∧ ∃ x', (x' ≤ (sg ++ qs.flatten).length ∧ ∀ (j : Nat), j < x' → ∀ (v : Int), (sg ++ qs.flatten)[j]? = some v → (0 : Int) ≤ v) ∧ (SV.c (SC.v (Value.int IntKind.i64 ((↑x_1 : Int) + (1 : Int)))) = SV.c (SC.v (Value.int IntKind.i64 (↑x' : Int))) ∧ True) ∧ [(([] : Go.Eng.Gd), bM6 vs os qs sg), (([] : Go.Eng.Gd), Res.gone)] = [(([] : Go.Eng.Gd), bM6 vs os qs sg), (([] : Go.Eng.Gd), Res.gone)] ∧ (sg ++ qs.flatten).length - x' < (sg ++ qs.flatten).length - x_1)) ((sg ++ (List.take x qs).flatten).length ≤ (1000000 : Nat) ∧ ([] : List Go.Eng.Res) = [] ∧ Ent.one (SV.c (SC.v (Value.bool (formM (vs, os, qs, sg, ()))))) = Ent.one (SV.c (SC.v (Value.bool (decide ((↑(makeI (sg ++ (List.take x qs).flatten)).length : Int) = (↑(sg ++ (List.take x qs).flatten).length : Int)))))))))))) := by
  obtain ⟨b1, b2, b3, b4, b5, b6⟩ : vs.length ≤ 1000 ∧ os.length ≤ 1000 ∧ qs.length ≤ 1000 ∧ sg.length ≤ 1000 ∧ (∀ q ∈ qs, q.length ≤ 1000) ∧ qs.flatten.length ≤ 100000 := hpre
  have fF : ¬ FormM (vs, os, qs, sg, ()) → ([] : List Go.Eng.Res) = [] ∧ Ent.one (SV.c (SC.v (Value.bool (formM (vs, os, qs, sg, ()))))) = Ent.one (SV.c (SC.v (Value.bool false))) := fun q => ⟨rfl, by rw [formM_false q]⟩
  refine br_iff.2 ⟨fun h => fF fun q => ?_, fun h => ?_⟩
  · obtain ⟨q1, q2, q3, q4, _⟩ := q
    simp at h; omega
  simp only [Bool.or_eq_false_iff, decide_eq_false_iff_not] at h
  obtain ⟨⟨h1, h2⟩, h3⟩ := h
  refine ⟨⟨0, ⟨by omega, fun j hj => by omega⟩, ⟨rfl, trivial⟩, rfl⟩, fun k hk => br_iff.2 ⟨fun g => ?_, fun g => ?_⟩⟩
  · simp only [decide_eq_true_eq] at g
    refine ⟨⟨by omega, by omega⟩, fun d hd => ⟨fun _ => ⟨by omega, by omega⟩, fun d1 hd1 => br_iff.2 ⟨fun g2 => fF fun q => ?_, fun g2 => ⟨InR_i64.2 (by omega), k + 1, ⟨by omega, fun j hj v hv => ?_⟩, ⟨rfl, trivial⟩, rfl, by omega⟩⟩⟩⟩
    · have := valS_iff.1 (q.2.2.2.2.1 d (List.mem_of_getElem? hd))
      by_cases g3 : d < -2147483648
      · omega
      · have e1 := hd1 (by simp [g3])
        rw [hd] at e1; cases e1
        simp at g2; omega
    · by_cases hjk : j = k
      · subst hjk
        have hd : vs[j]? = some d := hd
        rw [hd] at hv; cases hv
        rw [Bool.or_eq_false_iff, decide_eq_false_iff_not, decide_eq_false_iff_not] at g2
        have e1 : vs[j]? = some d1 := hd1 (by simp [g2.1])
        rw [hd] at e1; cases e1
        rw [valS_iff]
        omega
      · exact hk.2 j (by omega) v hv
  simp only [decide_eq_false_iff_not] at g
  have v1 : ∀ v ∈ vs, valS v = true := fun v hv => by
    obtain ⟨j, hj⟩ := List.getElem?_of_mem hv
    exact hk.2 j (by have := (List.getElem?_eq_some_iff.1 hj).1; omega) v hj
  refine ⟨⟨0, ⟨by omega, fun j hj => by omega⟩, ⟨rfl, trivial⟩, rfl⟩, fun k2 hk2 => br_iff.2 ⟨fun g => ?_, fun g => ?_⟩⟩
  · simp only [decide_eq_true_eq] at g
    refine ⟨⟨by omega, by omega⟩, fun d hd => br_iff.2 ⟨fun g2 => fF fun q => ?_, fun g2 => ⟨InR_i64.2 (by omega), k2 + 1, ⟨by omega, fun j hj v hv => ?_⟩, ⟨rfl, trivial⟩, rfl, by omega⟩⟩⟩
    · have := q.2.2.2.2.2.1 d (List.mem_of_getElem? hd)
      simp at g2; omega
    · by_cases hjk : j = k2
      · subst hjk
        have hd : os[j]? = some d := hd
        rw [hd] at hv; cases hv
        simp at g2; omega
      · exact hk2.2 j (by omega) v hv
  simp only [decide_eq_false_iff_not] at g
  have v2 : ∀ v ∈ os, -1 ≤ v := fun v hv => by
    obtain ⟨j, hj⟩ := List.getElem?_of_mem hv
    exact hk2.2 j (by have := (List.getElem?_eq_some_iff.1 hj).1; omega) v hj
  refine ⟨by omega, br_iff.2 ⟨fun h4 => fF fun q => ?_, fun h4 => ?_⟩⟩
  · rw [validI_iff.2 q.2.2.2.1] at h4; cases h4
  have h4 : SS sg := validI_iff.1 (by simpa using h4)
  refine ⟨InA_iff.2 (by omega), ⟨0, by omega, ⟨rfl, rfl, trivial⟩, by simp⟩, fun k3 hk3 => br_iff.2 ⟨fun g => ?_, fun g => ?_⟩⟩
  · simp only [decide_eq_true_eq] at g
    refine ⟨⟨by omega, by omega⟩, fun d hd => ⟨InA_iff.2 ?_, InR_i64.2 (by omega), k3 + 1, by omega, ⟨rfl, rfl, trivial⟩, ?_, by omega⟩⟩
    · have := flat_take qs k3
      have := b5 d (List.mem_of_getElem? hd)
      rw [List.length_append]; omega
    · have hd : qs[k3]? = some d := hd
      rw [flat_succ hd, List.append_assoc]
  simp only [decide_eq_false_iff_not] at g
  have ek : qs.take k3 = qs := List.take_of_length_le (by omega)
  rw [ek]
  have bl : (sg ++ qs.flatten).length ≤ 101000 := by rw [List.length_append]; omega
  refine ⟨⟨0, ⟨by omega, fun j hj => by omega⟩, ⟨rfl, trivial⟩, rfl⟩, fun k4 hk4 => br_iff.2 ⟨fun g => ?_, fun g => ?_⟩⟩
  · simp only [decide_eq_true_eq] at g
    refine ⟨⟨by omega, by omega⟩, fun d hd => br_iff.2 ⟨fun g2 => fF fun q => ?_, fun g2 => ⟨InR_i64.2 (by omega), k4 + 1, ⟨by omega, fun j hj v hv => ?_⟩, ⟨rfl, trivial⟩, rfl, by omega⟩⟩⟩
    · have hd : (sg ++ qs.flatten)[k4]? = some d := hd
      have n0 := q.2.2.2.2.2.2.1 d (List.mem_of_getElem? hd)
      simp at g2; omega
    · by_cases hjk : j = k4
      · subst hjk
        have hd : (sg ++ qs.flatten)[j]? = some d := hd
        rw [hd] at hv; cases hv
        simp at g2; omega
      · exact hk4.2 j (by omega) v hv
  simp only [decide_eq_false_iff_not] at g
  refine ⟨by omega, rfl, ?_⟩
  have e : formM (vs, os, qs, sg, ()) = decide ((↑(makeI (sg ++ qs.flatten)).length : Int) = (↑(sg ++ qs.flatten).length : Int)) := by
    rw [Bool.eq_iff_iff, formM_iff, decide_eq_true_eq, Int.ofNat_inj, make_nodup]
    constructor
    · exact fun q => q.2.2.2.2.2.2.2
    · refine fun q => ⟨by omega, by omega, by omega, h4, v1, v2, fun x hx => ?_, q⟩
      obtain ⟨j, hj⟩ := List.getElem?_of_mem hx
      exact hk4.2 j (by have := (List.getElem?_eq_some_iff.1 hj).1; omega) x hj
  rw [e]
set_option maxHeartbeats 2000000 in
set_option maxRecDepth 100000 in
theorem f40_met : Go.Eng.Met Tryd.prog cx0.gd 40 ctWf :=
  (met_all (cx := cx0) (n := 97) (cl := cl40) (il := il40) (hl := hl40) (ml := ml40) (rc := []) (lits := []) (suf := []) (by kernel_rfl) tis_ok ⟨f65_met, f66_met, trivial⟩ trivial trivial trivial Tryd.func40 (by kernel_rfl) (by kernel_rfl) rfl (by kernel_rfl) (by kernel_rfl) (by simp) fun d hd => by
    obtain ⟨⟨vs, os, qs, sg, ⟨⟩⟩, ⟨⟩⟩ := d
    exact ex_of (ann40 vs os qs sg) (f40_vc vs os qs sg hd) (by kernel_rfl)).met
@[reducible] def ctSm21 : CT := { ps := [.sl (.int .i64), .sl (.int .i64)], pre := fun d => d.1.length ≤ 1000000, res := fun d => ([], vB (decide (d.1 = d.2.1))) }
@[reducible] def cl46 : List (Nat × CT) := []
@[reducible] def ann46 (l : List Int) (m : List Int) : Nat → Option (St → Ann) := fun k => match k with
  | 4 => some fun _ => .inv { α := Nat, slots := fun k => [(5, .c (.v (.int .i64 k)))], res := fun k => [], inv := fun k => k ≤ (l).length ∧ ∀ j < k, l[j]? = m[j]?, meas := fun k => (l).length - k }
  | _ => none
@[reducible] def il46 : List (Nat × IP) := []
@[reducible] def hl46 : List (Nat × Nat × CT) := []
@[reducible] def ml46 : List (Nat × MK) := []
set_option maxRecDepth 100000 in
theorem f46_vc (l : List Int) (m : List Int) (hpre : ctSm21.pre (l, m, ())) :
    br (!decide ((↑l.length : Int) = (↑m.length : Int))) (([] : List Go.Eng.Res) = [] ∧ Ent.one (SV.c (SC.v (Value.bool (decide (l = m))))) = Ent.one (SV.c (SC.v (Value.bool false)))) ((∃ x, (x ≤ l.length ∧ ∀ (j : Nat), j < x → l[j]? = m[j]?) ∧ (SV.c (SC.v (Value.int IntKind.i64 (0 : Int))) = SV.c (SC.v (Value.int IntKind.i64 (↑x : Int))) ∧ True) ∧ ([] : List (Go.Eng.Gd × Go.Eng.Res)) = []) ∧ ∀ (x : Nat), (x ≤ l.length ∧ ∀ (j : Nat), j < x → l[j]? = m[j]?) → br (decide ((↑x : Int) < (↑l.length : Int))) (((0 : Int) ≤ (↑x : Int) ∧ (↑x : Int) < (↑l.length : Int)) ∧ ∀ (d : Int), l[(↑x : Int).toNat]? = some d → ((0 : Int) ≤ (↑x : Int) ∧ (↑x : Int) < (↑m.length : Int)) ∧ ∀ (d_1 : Int), m[(↑x : Int).toNat]? = some d_1 → br (!decide (d = d_1)) (([] : List Go.Eng.Res) = [] ∧ Ent.one (SV.c (SC.v (Value.bool (decide (l = m))))) = Ent.one (SV.c (SC.v (Value.bool false)))) (InR IntKind.i64 ((↑x : Int) + (1 : Int)) ∧ ∃ x', (x' ≤ l.length ∧ ∀ (j : Nat), j < x' → l[j]? = m[j]?) ∧ (SV.c (SC.v (Value.int IntKind.i64 ((↑x : Int) + (1 : Int)))) = SV.c (SC.v (Value.int IntKind.i64 (↑x' : Int))) ∧ True) ∧ ([] : List (Go.Eng.Gd × Go.Eng.Res)) = [] ∧ l.length - x' < l.length - x)) (([] : List Go.Eng.Res) = [] ∧ Ent.one (SV.c (SC.v (Value.bool (decide (l = m))))) = Ent.one (SV.c (SC.v (Value.bool true))))) := by
  have hp : l.length ≤ 1000000 := hpre
  have fF : l ≠ m → ([] : List Go.Eng.Res) = [] ∧ Ent.one (SV.c (SC.v (Value.bool (decide (l = m))))) = Ent.one (SV.c (SC.v (Value.bool false))) := fun q => ⟨rfl, by rw [decide_eq_false q]⟩
  refine br_iff.2 ⟨fun h => fF fun q => ?_, fun h => ?_⟩
  · subst q; simp at h
  simp only [Bool.not_eq_false', decide_eq_true_eq] at h
  refine ⟨⟨0, ⟨by omega, fun j hj => by omega⟩, ⟨rfl, trivial⟩, rfl⟩, fun k hk => br_iff.2 ⟨fun g => ?_, fun g => ?_⟩⟩
  · simp only [decide_eq_true_eq] at g
    refine ⟨⟨by omega, by omega⟩, fun d hd => ⟨⟨by omega, by omega⟩, fun d1 hd1 => br_iff.2 ⟨fun g2 => fF fun q => ?_, fun g2 => ⟨InR_i64.2 (by omega), k + 1, ⟨by omega, fun j hj => ?_⟩, ⟨rfl, trivial⟩, rfl, by omega⟩⟩⟩⟩
    · subst q
      rw [hd] at hd1; cases hd1
      simp at g2
    · by_cases hjk : j = k
      · subst hjk
        have hd : l[j]? = some d := hd
        have hd1 : m[j]? = some d1 := hd1
        simp at g2
        rw [hd, hd1, g2]
      · exact hk.2 j (by omega)
  simp only [decide_eq_false_iff_not] at g
  have e : l = m := by
    apply List.ext_getElem?
    intro j
    by_cases hj : j < k
    · exact hk.2 j hj
    · rw [List.getElem?_eq_none (by omega), List.getElem?_eq_none (by omega)]
  exact ⟨rfl, by rw [decide_eq_true e]⟩
set_option maxHeartbeats 2000000 in
set_option maxRecDepth 100000 in
theorem f46_met : Go.Eng.Met Tryd.prog cx0.gd 46 ctSm21 :=
  (met_all (cx := cx0) (n := 26) (cl := cl46) (il := il46) (hl := hl46) (ml := ml46) (rc := []) (lits := []) (suf := []) (by kernel_rfl) tis_ok trivial trivial trivial trivial Tryd.func46 (by kernel_rfl) (by kernel_rfl) rfl (by kernel_rfl) (by kernel_rfl) (by simp) fun d hd => by
    obtain ⟨l, m, ⟨⟩⟩ := d
    exact ex_of (ann46 l m) (f46_vc l m hd) (by kernel_rfl)).met
@[reducible] def ctEq21 : CT := { ps := [shM, shM], pre := fun d => bndM d.1, res := fun d => ([], vB (decide (d.1 = d.2.1))) }
@[reducible] def cl15 : List (Nat × CT) := [(46, ctSm21)]
@[reducible] def ann15 (vs : List Int) (os : List Int) (qs : List (List Int)) (sg : List Int) (vs2 : List Int) (os2 : List Int) (qs2 : List (List Int)) (sg2 : List Int) : Nat → Option (St → Ann) := fun k => match k with
  | 4 => some fun _ => .inv { α := Nat, slots := fun k => [(5, .c (.v (.int .i64 k)))], res := fun _ => [], inv := fun k => k ≤ qs.length ∧ ∀ j < k, qs[j]? = qs2[j]?, meas := fun k => qs.length - k }
  | _ => none
@[reducible] def il15 : List (Nat × IP) := []
@[reducible] def hl15 : List (Nat × Nat × CT) := []
@[reducible] def ml15 : List (Nat × MK) := []
set_option maxRecDepth 100000 in
theorem f15_vc (vs : List Int) (os : List Int) (qs : List (List Int)) (sg : List Int) (vs2 : List Int) (os2 : List Int) (qs2 : List (List Int)) (sg2 : List Int) (hpre : ctEq21.pre ((vs, os, qs, sg, ()), (vs2, os2, qs2, sg2, ()), ())) :
    vs.length ≤ (1000000 : Nat) ∧ ((!!decide (vs = vs2)) = true → os.length ≤ (1000000 : Nat)) ∧ ((!(!decide (vs = vs2) || !decide (os = os2))) = true → sg.length ≤ (1000000 : Nat)) ∧ br (!decide (vs = vs2) || !decide (os = os2) || !decide (sg = sg2) || !decide ((↑qs.length : Int) = (↑qs2.length : Int))) (([] : List Go.Eng.Res) = [] ∧ Ent.one (SV.c (SC.v (Value.bool (decide ((vs, os, qs, sg, ()) = (vs2, os2, qs2, sg2, ())))))) = Ent.one (SV.c (SC.v (Value.bool false)))) ((∃ x, (x ≤ qs.length ∧ ∀ (j : Nat), j < x → qs[j]? = qs2[j]?) ∧ (SV.c (SC.v (Value.int IntKind.i64 (0 : Int))) = SV.c (SC.v (Value.int IntKind.i64 (↑x : Int))) ∧ True) ∧ [(([] : Go.Eng.Gd), bM6 vs os qs sg), (([] : Go.Eng.Gd), Res.blk (31 : Nat) [SC.sl I6 vs2, SC.sl I6 os2, SC.sl I6.sl qs2, SC.sl I6 sg2])] = [(([] : Go.Eng.Gd), bM6 vs os qs sg), (([] : Go.Eng.Gd), Res.blk (31 : Nat) [SC.sl I6 vs2, SC.sl I6 os2, SC.sl I6.sl qs2, SC.sl I6 sg2])]) ∧ ∀ (x : Nat), (x ≤ qs.length ∧ ∀ (j : Nat), j < x → qs[j]? = qs2[j]?) → br (decide ((↑x : Int) < (↑qs.length : Int))) (((0 : Int) ≤ (↑x : Int) ∧ (↑x : Int) < (↑qs.length : Int)) ∧ ∀ (d : List I6.den), qs[(↑x : Int).toNat]? = some d → ((0 : Int) ≤ (↑x : Int) ∧ (↑x : Int) < (↑qs2.length : Int)) ∧ ∀ (d_1 : List I6.den), qs2[(↑x : Int).toNat]? = some d_1 → d.length ≤ (1000000 : Nat) ∧ br (!decide (d = d_1)) (([] : List Go.Eng.Res) = [] ∧ Ent.one (SV.c (SC.v (Value.bool (decide ((vs, os, qs, sg, ()) = (vs2, os2, qs2, sg2, ())))))) = Ent.one (SV.c (SC.v (Value.bool false)))) (InR IntKind.i64 ((↑x : Int) + (1 : Int)) ∧ ∃ x', (x' ≤ qs.length ∧ ∀ (j : Nat), j < x' → qs[j]? = qs2[j]?) ∧ (SV.c (SC.v (Value.int IntKind.i64 ((↑x : Int) + (1 : Int)))) = SV.c (SC.v (Value.int IntKind.i64 (↑x' : Int))) ∧ True) ∧ [(([] : Go.Eng.Gd), bM6 vs os qs sg), (([] : Go.Eng.Gd), Res.blk (31 : Nat) [SC.sl I6 vs2, SC.sl I6 os2, SC.sl I6.sl qs2, SC.sl I6 sg2])] = [(([] : Go.Eng.Gd), bM6 vs os qs sg), (([] : Go.Eng.Gd), Res.blk (31 : Nat) [SC.sl I6 vs2, SC.sl I6 os2, SC.sl I6.sl qs2, SC.sl I6 sg2])] ∧ qs.length - x' < qs.length - x)) (([] : List Go.Eng.Res) = [] ∧ Ent.one (SV.c (SC.v (Value.bool (decide ((vs, os, qs, sg, ()) = (vs2, os2, qs2, sg2, ())))))) = Ent.one (SV.c (SC.v (Value.bool true))))) := by
  obtain ⟨b1, b2, b3, b4, b5, b6⟩ : vs.length ≤ 1000 ∧ os.length ≤ 1000 ∧ qs.length ≤ 1000 ∧ sg.length ≤ 1000 ∧ (∀ q ∈ qs, q.length ≤ 1000) ∧ qs.flatten.length ≤ 100000 := hpre
  have fF : (vs, os, qs, sg, ()) ≠ (vs2, os2, qs2, sg2, ()) → ([] : List Go.Eng.Res) = [] ∧ Ent.one (SV.c (SC.v (Value.bool (decide ((vs, os, qs, sg, ()) = (vs2, os2, qs2, sg2, ())))))) = Ent.one (SV.c (SC.v (Value.bool false))) := fun q => ⟨rfl, by rw [decide_eq_false q]⟩
  refine ⟨by omega, fun _ => by omega, fun _ => by omega, br_iff.2 ⟨fun h => fF fun q => ?_, fun h => ?_⟩⟩
  · cases q; simp at h
  simp only [Bool.or_eq_false_iff, Bool.not_eq_false', decide_eq_true_eq] at h
  obtain ⟨⟨⟨rfl, rfl⟩, rfl⟩, h⟩ := h
  refine ⟨⟨0, ⟨by omega, fun j hj => by omega⟩, ⟨rfl, trivial⟩, rfl⟩, fun k hk => br_iff.2 ⟨fun g => ?_, fun g => ?_⟩⟩
  · simp only [decide_eq_true_eq] at g
    refine ⟨⟨by omega, by omega⟩, fun d hd => ⟨⟨by omega, by omega⟩, fun d1 hd1 => ⟨?_, br_iff.2 ⟨fun g2 => fF fun q => ?_, fun g2 => ⟨InR_i64.2 (by omega), k + 1, ⟨by omega, fun j hj => ?_⟩, ⟨rfl, trivial⟩, rfl, by omega⟩⟩⟩⟩⟩
    · have := b5 d (List.mem_of_getElem? hd); omega
    · cases q
      rw [hd] at hd1; cases hd1
      simp at g2
    · by_cases hjk : j = k
      · subst hjk
        have hd : qs[j]? = some d := hd
        have hd1 : qs2[j]? = some d1 := hd1
        simp at g2
        rw [hd, hd1, g2]
      · exact hk.2 j (by omega)
  simp only [decide_eq_false_iff_not] at g
  have e : qs = qs2 := by
    apply List.ext_getElem?
    intro j
    by_cases hj : j < k
    · exact hk.2 j hj
    · rw [List.getElem?_eq_none (by omega), List.getElem?_eq_none (by omega)]
  subst e
  exact ⟨rfl, by rw [decide_eq_true rfl]⟩
set_option maxHeartbeats 2000000 in
set_option maxRecDepth 100000 in
theorem f15_met : Go.Eng.Met Tryd.prog cx0.gd 15 ctEq21 :=
  (met_all (cx := cx0) (n := 56) (cl := cl15) (il := il15) (hl := hl15) (ml := ml15) (rc := []) (lits := []) (suf := []) (by kernel_rfl) tis_ok ⟨f46_met, trivial⟩ trivial trivial trivial Tryd.func15 (by kernel_rfl) (by kernel_rfl) rfl (by kernel_rfl) (by kernel_rfl) (by simp) fun d hd => by
    obtain ⟨⟨vs, os, qs, sg, ⟨⟩⟩, ⟨vs2, os2, qs2, sg2, ⟨⟩⟩, ⟨⟩⟩ := d
    exact ex_of (ann15 vs os qs sg vs2 os2 qs2 sg2) (f15_vc vs os qs sg vs2 os2 qs2 sg2 hd) (by kernel_rfl)).met
end Go.Proofs.YtkgjfkdcnoockaaDoor
set_option linter.unusedSimpArgs false
set_option linter.unusedVariables false
set_option maxRecDepth 100000
namespace Go.Proofs.YtkgjfkdcnoockaaDoor
open Go Go.Eng

theorem ownAt_succ (k : Nat) : ownAt (fun j => decide (j < k)) k = fun j => decide (j < k + 1) := by
  funext j; unfold ownAt
  by_cases h : j = k
  · subst h; simp
  · simp [h]; omega
theorem fill_set {qs : List (List Int)} {k : Nat} {d : List Int} (h : qs[k]? = some d) : (qs.take k ++ List.replicate (qs.length - k) []).set k d = qs.take (k + 1) ++ List.replicate (qs.length - (k + 1)) [] := by
  obtain ⟨hk, _⟩ := List.getElem?_eq_some_iff.1 h
  rw [List.set_append_right _ _ (by rw [List.length_take]; omega), List.length_take, show k - min k qs.length = 0 by omega, show qs.length - k = (qs.length - (k + 1)) + 1 by omega, List.replicate_succ, List.set_cons_zero, List.take_add_one, h]
  simp
theorem fill_len {qs : List (List Int)} {k : Nat} (h : k ≤ qs.length) : (qs.take k ++ List.replicate (qs.length - k) []).length = qs.length := by simp; omega
theorem fill_all {qs : List (List Int)} {k : Nat} (h : ¬ k < qs.length) (h' : k ≤ qs.length) : qs.take k ++ List.replicate (qs.length - k) [] = qs := by
  have : k = qs.length := by omega
  subst this; simp
theorem noOwn_zero : noOwn = fun j => decide (j < 0) := by funext j; simp
@[reducible] def ctClO : CT := { ps := [shM], pre := fun d => bndM d.1, res := fun d => ([.row 3 (.int .i64) (d.1.1), .row 3 (.int .i64) (d.1.2.1), .deep 28 (.sl (.int .i64)) (d.1.2.2.1) 3 (.int .i64) 0 (fun j => decide (j < d.1.2.2.1.length)) [], .row 3 (.int .i64) (d.1.2.2.2.1)], .one (.agg [(.row 0), (.row 1), (.row 2), (.row 3)])) }
@[reducible] def cl36 : List (Nat × CT) := [(60, ctCld)]
@[reducible] def ann36 (vs : List Int) (os : List Int) (qs : List (List Int)) (sg : List Int) : Nat → Option (St → Ann) := fun k => match k with
  | 2 => some fun _ => .cut { α := Nat, pad := 5, can := [(2, .slot 3), (3, .cell 2 0), (4, .cell 2 1), (5, .cell 2 2), (6, .cell 2 3)], slots := fun _ => [(3, .c (.own 2 0))], res := fun _ => [(2, .blk 31 [.row 3, .row 4, .row 5, .row 6]), (3, .row 3 (.int .i64) (vs)), (4, .row 3 (.int .i64) (os)), (5, .row 28 (.sl (.int .i64)) (List.replicate qs.length [])), (6, .row 3 (.int .i64) (sg))], inv := fun u => u = 0, meas := fun _ => 0 }
  | 3 => some fun _ => .inv { α := Nat, deep := [(5, 3, .int .i64, 0)], slots := fun k => [(23, .c (.v (.int .i64 k)))], res := fun k => [(5, .deep 28 (.sl (.int .i64)) (qs.take k ++ List.replicate (qs.length - k) []) 3 (.int .i64) 0 (fun j => decide (j < k)) [])], inv := fun k => k ≤ qs.length, meas := fun k => qs.length - k }
  | _ => none
@[reducible] def il36 : List (Nat × IP) := []
@[reducible] def hl36 : List (Nat × Nat × CT) := []
@[reducible] def ml36 : List (Nat × MK) := []
set_option maxRecDepth 100000 in
theorem f36_vc (vs : List Int) (os : List Int) (qs : List (List Int)) (sg : List Int) (hpre : ctClO.pre ((vs, os, qs, sg, ()), ())) :
    ((vs.length ≤ (1000000 : Nat) ∧ (os.length ≤ (1000000 : Nat) ∧ (((0 : Int) ≤ (↑qs.length : Int) ∧ (↑qs.length : Int) ≤ (↑qs.length : Int) ∧ InA (↑qs.length : Int).toNat (24 : Nat)) ∧ (sg.length ≤ (1000000 : Nat) ∧ (∃ v, v = (0 : Nat) ∧ (SV.c (SC.own (2 : Nat) (0 : Nat)) = SV.c (SC.own (2 : Nat) (0 : Nat)) ∧ True) ∧ [(([] : Go.Eng.Gd), bM6 vs os qs sg), (([] : Go.Eng.Gd), zM6), (([] : Go.Eng.Gd), Res.blk (31 : Nat) [SC.row (3 : Nat), SC.row (4 : Nat), SC.row (5 : Nat), SC.row (6 : Nat)]), (([] : Go.Eng.Gd), Res.row (3 : TypeId) I6 vs), (([] : Go.Eng.Gd), Res.row (3 : TypeId) I6 os), (([] : Go.Eng.Gd), Res.row (28 : TypeId) I6.sl (List.replicate (↑qs.length : Int).toNat [])), (([] : Go.Eng.Gd), Res.row (3 : TypeId) I6 sg)] = [(([] : Go.Eng.Gd), bM6 vs os qs sg), (([] : Go.Eng.Gd), zM6), (([] : Go.Eng.Gd), Res.blk (31 : TypeId) [SC.row (3 : Nat), SC.row (4 : Nat), SC.row (5 : Nat), SC.row (6 : Nat)]), (([] : Go.Eng.Gd), Res.row (3 : TypeId) I6 vs), (([] : Go.Eng.Gd), Res.row (3 : TypeId) I6 os), (([] : Go.Eng.Gd), Res.row (28 : TypeId) I6.sl (List.replicate qs.length [])), (([] : Go.Eng.Gd), Res.row (3 : TypeId) I6 sg)]) ∧ ∃ v, v = (0 : Nat) ∧ (SV.c (SC.own (2 : Nat) (0 : Nat)) = SV.c (SC.own (2 : Nat) (0 : Nat)) ∧ True) ∧ [(([] : Go.Eng.Gd), bM6 vs os qs sg), (([] : Go.Eng.Gd), zM6), (([] : Go.Eng.Gd), Res.blk (31 : Nat) [SC.row (3 : Nat), SC.row (4 : Nat), SC.row (5 : Nat), SC.row (6 : Nat)]), (([] : Go.Eng.Gd), Res.row (3 : TypeId) I6 vs), (([] : Go.Eng.Gd), Res.row (3 : TypeId) I6 os), (([] : Go.Eng.Gd), Res.row (28 : TypeId) I6.sl (List.replicate (↑qs.length : Int).toNat [])), (([] : Go.Eng.Gd), Res.row (3 : TypeId) I6 sg)] = [(([] : Go.Eng.Gd), bM6 vs os qs sg), (([] : Go.Eng.Gd), zM6), (([] : Go.Eng.Gd), Res.blk (31 : TypeId) [SC.row (3 : Nat), SC.row (4 : Nat), SC.row (5 : Nat), SC.row (6 : Nat)]), (([] : Go.Eng.Gd), Res.row (3 : TypeId) I6 vs), (([] : Go.Eng.Gd), Res.row (3 : TypeId) I6 os), (([] : Go.Eng.Gd), Res.row (28 : TypeId) I6.sl (List.replicate qs.length [])), (([] : Go.Eng.Gd), Res.row (3 : TypeId) I6 sg)]) ∧ sg.length ≤ (1000000 : Nat) ∧ ∃ v, v = (0 : Nat) ∧ (SV.c (SC.own (2 : Nat) (0 : Nat)) = SV.c (SC.own (2 : Nat) (0 : Nat)) ∧ True) ∧ [(([] : Go.Eng.Gd), bM6 vs os qs sg), (([] : Go.Eng.Gd), zM6), (([] : Go.Eng.Gd), Res.blk (31 : Nat) [SC.row (3 : Nat), SC.row (4 : Nat), SC.row (5 : Nat), SC.row (6 : Nat)]), (([] : Go.Eng.Gd), Res.row (3 : TypeId) I6 vs), (([] : Go.Eng.Gd), Res.row (3 : TypeId) I6 os), (([] : Go.Eng.Gd), Res.row (28 : TypeId) I6.sl (List.replicate (↑qs.length : Int).toNat [])), (([] : Go.Eng.Gd), Res.row (3 : TypeId) I6 sg)] = [(([] : Go.Eng.Gd), bM6 vs os qs sg), (([] : Go.Eng.Gd), zM6), (([] : Go.Eng.Gd), Res.blk (31 : TypeId) [SC.row (3 : Nat), SC.row (4 : Nat), SC.row (5 : Nat), SC.row (6 : Nat)]), (([] : Go.Eng.Gd), Res.row (3 : TypeId) I6 vs), (([] : Go.Eng.Gd), Res.row (3 : TypeId) I6 os), (([] : Go.Eng.Gd), Res.row (28 : TypeId) I6.sl (List.replicate qs.length [])), (([] : Go.Eng.Gd), Res.row (3 : TypeId) I6 sg)]) ∧ (sg.length ≤ (1000000 : Nat) ∧ (((0 : Int) ≤ (↑qs.length : Int) ∧ (↑qs.length : Int) ≤ (↑qs.length : Int) ∧ InA (↑qs.length : Int).toNat (24 : Nat)) ∧ (∃ v, v = (0 : Nat) ∧ (SV.c (SC.own (2 : Nat) (0 : Nat)) = SV.c (SC.own (2 : Nat) (0 : Nat)) ∧ True) ∧ [(([] : Go.Eng.Gd), bM6 vs os qs sg), (([] : Go.Eng.Gd), zM6), (([] : Go.Eng.Gd), Res.blk (31 : Nat) [SC.row (3 : Nat), SC.row (4 : Nat), SC.row (5 : Nat), SC.row (6 : Nat)]), (([] : Go.Eng.Gd), Res.row (3 : TypeId) I6 vs), (([] : Go.Eng.Gd), Res.row (3 : TypeId) I6 os), (([] : Go.Eng.Gd), Res.row (28 : TypeId) I6.sl (List.replicate (↑qs.length : Int).toNat [])), (([] : Go.Eng.Gd), Res.row (3 : TypeId) I6 sg)] = [(([] : Go.Eng.Gd), bM6 vs os qs sg), (([] : Go.Eng.Gd), zM6), (([] : Go.Eng.Gd), Res.blk (31 : TypeId) [SC.row (3 : Nat), SC.row (4 : Nat), SC.row (5 : Nat), SC.row (6 : Nat)]), (([] : Go.Eng.Gd), Res.row (3 : TypeId) I6 vs), (([] : Go.Eng.Gd), Res.row (3 : TypeId) I6 os), (([] : Go.Eng.Gd), Res.row (28 : TypeId) I6.sl (List.replicate qs.length [])), (([] : Go.Eng.Gd), Res.row (3 : TypeId) I6 sg)]) ∧ ∃ v, v = (0 : Nat) ∧ (SV.c (SC.own (2 : Nat) (0 : Nat)) = SV.c (SC.own (2 : Nat) (0 : Nat)) ∧ True) ∧ [(([] : Go.Eng.Gd), bM6 vs os qs sg), (([] : Go.Eng.Gd), zM6), (([] : Go.Eng.Gd), Res.blk (31 : Nat) [SC.row (3 : Nat), SC.row (4 : Nat), SC.row (5 : Nat), SC.row (6 : Nat)]), (([] : Go.Eng.Gd), Res.row (3 : TypeId) I6 vs), (([] : Go.Eng.Gd), Res.row (3 : TypeId) I6 os), (([] : Go.Eng.Gd), Res.row (28 : TypeId) I6.sl (List.replicate (↑qs.length : Int).toNat [])), (([] : Go.Eng.Gd), Res.row (3 : TypeId) I6 sg)] = [(([] : Go.Eng.Gd), bM6 vs os qs sg), (([] : Go.Eng.Gd), zM6), (([] : Go.Eng.Gd), Res.blk (31 : TypeId) [SC.row (3 : Nat), SC.row (4 : Nat), SC.row (5 : Nat), SC.row (6 : Nat)]), (([] : Go.Eng.Gd), Res.row (3 : TypeId) I6 vs), (([] : Go.Eng.Gd), Res.row (3 : TypeId) I6 os), (([] : Go.Eng.Gd), Res.row (28 : TypeId) I6.sl (List.replicate qs.length [])), (([] : Go.Eng.Gd), Res.row (3 : TypeId) I6 sg)]) ∧ ((0 : Int) ≤ (↑qs.length : Int) ∧ (↑qs.length : Int) ≤ (↑qs.length : Int) ∧ InA (↑qs.length : Int).toNat (24 : Nat)) ∧ ∃ v, v = (0 : Nat) ∧ (SV.c (SC.own (2 : Nat) (0 : Nat)) = SV.c (SC.own (2 : Nat) (0 : Nat)) ∧ True) ∧ [(([] : Go.Eng.Gd), bM6 vs os qs sg), (([] : Go.Eng.Gd), zM6), (([] : Go.Eng.Gd), Res.blk (31 : Nat) [SC.row (3 : Nat), SC.row (4 : Nat), SC.row (5 : Nat), SC.row (6 : Nat)]), (([] : Go.Eng.Gd), Res.row (3 : TypeId) I6 vs), (([] : Go.Eng.Gd), Res.row (3 : TypeId) I6 os), (([] : Go.Eng.Gd), Res.row (28 : TypeId) I6.sl (List.replicate (↑qs.length : Int).toNat [])), (([] : Go.Eng.Gd), Res.row (3 : TypeId) I6 sg)] = [(([] : Go.Eng.Gd), bM6 vs os qs sg), (([] : Go.Eng.Gd), zM6), (([] : Go.Eng.Gd), Res.blk (31 : TypeId) [SC.row (3 : Nat), SC.row (4 : Nat), SC.row (5 : Nat), SC.row (6 : Nat)]), (([] : Go.Eng.Gd), Res.row (3 : TypeId) I6 vs), (([] : Go.Eng.Gd), Res.row (3 : TypeId) I6 os), (([] : Go.Eng.Gd), Res.row (28 : TypeId) I6.sl (List.replicate qs.length [])), (([] : Go.Eng.Gd), Res.row (3 : TypeId) I6 sg)]) ∧ (((0 : Int) ≤ (↑qs.length : Int) ∧ (↑qs.length : Int) ≤ (↑qs.length : Int) ∧ InA (↑qs.length : Int).toNat (24 : Nat)) ∧ sg.length ≤ (1000000 : Nat) ∧ ∃ v, v = (0 : Nat) ∧ (SV.c (SC.own (2 : Nat) (0 : Nat)) = SV.c (SC.own (2 : Nat) (0 : Nat)) ∧ True) ∧ [(([] : Go.Eng.Gd), bM6 vs os qs sg), (([] : Go.Eng.Gd), zM6), (([] : Go.Eng.Gd), Res.blk (31 : Nat) [SC.row (3 : Nat), SC.row (4 : Nat), SC.row (5 : Nat), SC.row (6 : Nat)]), (([] : Go.Eng.Gd), Res.row (3 : TypeId) I6 vs), (([] : Go.Eng.Gd), Res.row (3 : TypeId) I6 os), (([] : Go.Eng.Gd), Res.row (28 : TypeId) I6.sl (List.replicate (↑qs.length : Int).toNat [])), (([] : Go.Eng.Gd), Res.row (3 : TypeId) I6 sg)] = [(([] : Go.Eng.Gd), bM6 vs os qs sg), (([] : Go.Eng.Gd), zM6), (([] : Go.Eng.Gd), Res.blk (31 : TypeId) [SC.row (3 : Nat), SC.row (4 : Nat), SC.row (5 : Nat), SC.row (6 : Nat)]), (([] : Go.Eng.Gd), Res.row (3 : TypeId) I6 vs), (([] : Go.Eng.Gd), Res.row (3 : TypeId) I6 os), (([] : Go.Eng.Gd), Res.row (28 : TypeId) I6.sl (List.replicate qs.length [])), (([] : Go.Eng.Gd), Res.row (3 : TypeId) I6 sg)]) ∧ sg.length ≤ (1000000 : Nat) ∧ ((0 : Int) ≤ (↑qs.length : Int) ∧ (↑qs.length : Int) ≤ (↑qs.length : Int) ∧ InA (↑qs.length : Int).toNat (24 : Nat)) ∧ ∃ v, v = (0 : Nat) ∧ (SV.c (SC.own (2 : Nat) (0 : Nat)) = SV.c (SC.own (2 : Nat) (0 : Nat)) ∧ True) ∧ [(([] : Go.Eng.Gd), bM6 vs os qs sg), (([] : Go.Eng.Gd), zM6), (([] : Go.Eng.Gd), Res.blk (31 : Nat) [SC.row (3 : Nat), SC.row (4 : Nat), SC.row (5 : Nat), SC.row (6 : Nat)]), (([] : Go.Eng.Gd), Res.row (3 : TypeId) I6 vs), (([] : Go.Eng.Gd), Res.row (3 : TypeId) I6 os), (([] : Go.Eng.Gd), Res.row (28 : TypeId) I6.sl (List.replicate (↑qs.length : Int).toNat [])), (([] : Go.Eng.Gd), Res.row (3 : TypeId) I6 sg)] = [(([] : Go.Eng.Gd), bM6 vs os qs sg), (([] : Go.Eng.Gd), zM6), (([] : Go.Eng.Gd), Res.blk (31 : TypeId) [SC.row (3 : Nat), SC.row (4 : Nat), SC.row (5 : Nat), SC.row (6 : Nat)]), (([] : Go.Eng.Gd), Res.row (3 : TypeId) I6 vs), (([] : Go.Eng.Gd), Res.row (3 : TypeId) I6 os), (([] : Go.Eng.Gd), Res.row (28 : TypeId) I6.sl (List.replicate qs.length [])), (([] : Go.Eng.Gd), Res.row (3 : TypeId) I6 sg)]) ∧ (((0 : Int) ≤ (↑qs.length : Int) ∧ (↑qs.length : Int) ≤ (↑qs.length : Int) ∧ InA (↑qs.length : Int).toNat (24 : Nat)) ∧ (os.length ≤ (1000000 : Nat) ∧ (sg.length ≤ (1000000 : Nat) ∧ (∃ v, v = (0 : Nat) ∧ (SV.c (SC.own (2 : Nat) (0 : Nat)) = SV.c (SC.own (2 : Nat) (0 : Nat)) ∧ True) ∧ [(([] : Go.Eng.Gd), bM6 vs os qs sg), (([] : Go.Eng.Gd), zM6), (([] : Go.Eng.Gd), Res.blk (31 : Nat) [SC.row (3 : Nat), SC.row (4 : Nat), SC.row (5 : Nat), SC.row (6 : Nat)]), (([] : Go.Eng.Gd), Res.row (3 : TypeId) I6 vs), (([] : Go.Eng.Gd), Res.row (3 : TypeId) I6 os), (([] : Go.Eng.Gd), Res.row (28 : TypeId) I6.sl (List.replicate (↑qs.length : Int).toNat [])), (([] : Go.Eng.Gd), Res.row (3 : TypeId) I6 sg)] = [(([] : Go.Eng.Gd), bM6 vs os qs sg), (([] : Go.Eng.Gd), zM6), (([] : Go.Eng.Gd), Res.blk (31 : TypeId) [SC.row (3 : Nat), SC.row (4 : Nat), SC.row (5 : Nat), SC.row (6 : Nat)]), (([] : Go.Eng.Gd), Res.row (3 : TypeId) I6 vs), (([] : Go.Eng.Gd), Res.row (3 : TypeId) I6 os), (([] : Go.Eng.Gd), Res.row (28 : TypeId) I6.sl (List.replicate qs.length [])), (([] : Go.Eng.Gd), Res.row (3 : TypeId) I6 sg)]) ∧ ∃ v, v = (0 : Nat) ∧ (SV.c (SC.own (2 : Nat) (0 : Nat)) = SV.c (SC.own (2 : Nat) (0 : Nat)) ∧ True) ∧ [(([] : Go.Eng.Gd), bM6 vs os qs sg), (([] : Go.Eng.Gd), zM6), (([] : Go.Eng.Gd), Res.blk (31 : Nat) [SC.row (3 : Nat), SC.row (4 : Nat), SC.row (5 : Nat), SC.row (6 : Nat)]), (([] : Go.Eng.Gd), Res.row (3 : TypeId) I6 vs), (([] : Go.Eng.Gd), Res.row (3 : TypeId) I6 os), (([] : Go.Eng.Gd), Res.row (28 : TypeId) I6.sl (List.replicate (↑qs.length : Int).toNat [])), (([] : Go.Eng.Gd), Res.row (3 : TypeId) I6 sg)] = [(([] : Go.Eng.Gd), bM6 vs os qs sg), (([] : Go.Eng.Gd), zM6), (([] : Go.Eng.Gd), Res.blk (31 : TypeId) [SC.row (3 : Nat), SC.row (4 : Nat), SC.row (5 : Nat), SC.row (6 : Nat)]), (([] : Go.Eng.Gd), Res.row (3 : TypeId) I6 vs), (([] : Go.Eng.Gd), Res.row (3 : TypeId) I6 os), (([] : Go.Eng.Gd), Res.row (28 : TypeId) I6.sl (List.replicate qs.length [])), (([] : Go.Eng.Gd), Res.row (3 : TypeId) I6 sg)]) ∧ sg.length ≤ (1000000 : Nat) ∧ ∃ v, v = (0 : Nat) ∧ (SV.c (SC.own (2 : Nat) (0 : Nat)) = SV.c (SC.own (2 : Nat) (0 : Nat)) ∧ True) ∧ [(([] : Go.Eng.Gd), bM6 vs os qs sg), (([] : Go.Eng.Gd), zM6), (([] : Go.Eng.Gd), Res.blk (31 : Nat) [SC.row (3 : Nat), SC.row (4 : Nat), SC.row (5 : Nat), SC.row (6 : Nat)]), (([] : Go.Eng.Gd), Res.row (3 : TypeId) I6 vs), (([] : Go.Eng.Gd), Res.row (3 : TypeId) I6 os), (([] : Go.Eng.Gd), Res.row (28 : TypeId) I6.sl (List.replicate (↑qs.length : Int).toNat [])), (([] : Go.Eng.Gd), Res.row (3 : TypeId) I6 sg)] = [(([] : Go.Eng.Gd), bM6 vs os qs sg), (([] : Go.Eng.Gd), zM6), (([] : Go.Eng.Gd), Res.blk (31 : TypeId) [SC.row (3 : Nat), SC.row (4 : Nat), SC.row (5 : Nat), SC.row (6 : Nat)]), (([] : Go.Eng.Gd), Res.row (3 : TypeId) I6 vs), (([] : Go.Eng.Gd), Res.row (3 : TypeId) I6 os), (([] : Go.Eng.Gd), Res.row (28 : TypeId) I6.sl (List.replicate qs.length [])), (([] : Go.Eng.Gd), Res.row (3 : TypeId) I6 sg)]) ∧ os.length ≤ (1000000 : Nat) ∧ sg.length ≤ (1000000 : Nat) ∧ ∃ v, v = (0 : Nat) ∧ (SV.c (SC.own (2 : Nat) (0 : Nat)) = SV.c (SC.own (2 : Nat) (0 : Nat)) ∧ True) ∧ [(([] : Go.Eng.Gd), bM6 vs os qs sg), (([] : Go.Eng.Gd), zM6), (([] : Go.Eng.Gd), Res.blk (31 : Nat) [SC.row (3 : Nat), SC.row (4 : Nat), SC.row (5 : Nat), SC.row (6 : Nat)]), (([] : Go.Eng.Gd), Res.row (3 : TypeId) I6 vs), (([] : Go.Eng.Gd), Res.row (3 : TypeId) I6 os), (([] : Go.Eng.Gd), Res.row (28 : TypeId) I6.sl (List.replicate (↑qs.length : Int).toNat [])), (([] : Go.Eng.Gd), Res.row (3 : TypeId) I6 sg)] = [(([] : Go.Eng.Gd), bM6 vs os qs sg), (([] : Go.Eng.Gd), zM6), (([] : Go.Eng.Gd), Res.blk (31 : TypeId) [SC.row (3 : Nat), SC.row (4 : Nat), SC.row (5 : Nat), SC.row (6 : Nat)]), (([] : Go.Eng.Gd), Res.row (3 : TypeId) I6 vs), (([] : Go.Eng.Gd), Res.row (3 : TypeId) I6 os), (([] : Go.Eng.Gd), Res.row (28 : TypeId) I6.sl (List.replicate qs.length [])), (([] : Go.Eng.Gd), Res.row (3 : TypeId) I6 sg)]) ∧ (os.length ≤ (1000000 : Nat) ∧ (((0 : Int) ≤ (↑qs.length : Int) ∧ (↑qs.length : Int) ≤ (↑qs.length : Int) ∧ InA (↑qs.length : Int).toNat (24 : Nat)) ∧ sg.length ≤ (1000000 : Nat) ∧ ∃ v, v = (0 : Nat) ∧ (SV.c (SC.own (2 : Nat) (0 : Nat)) = SV.c (SC.own (2 : Nat) (0 : Nat)) ∧ True) ∧ [(([] : Go.Eng.Gd), bM6 vs os qs sg), (([] : Go.Eng.Gd), zM6), (([] : Go.Eng.Gd), Res.blk (31 : Nat) [SC.row (3 : Nat), SC.row (4 : Nat), SC.row (5 : Nat), SC.row (6 : Nat)]), (([] : Go.Eng.Gd), Res.row (3 : TypeId) I6 vs), (([] : Go.Eng.Gd), Res.row (3 : TypeId) I6 os), (([] : Go.Eng.Gd), Res.row (28 : TypeId) I6.sl (List.replicate (↑qs.length : Int).toNat [])), (([] : Go.Eng.Gd), Res.row (3 : TypeId) I6 sg)] = [(([] : Go.Eng.Gd), bM6 vs os qs sg), (([] : Go.Eng.Gd), zM6), (([] : Go.Eng.Gd), Res.blk (31 : TypeId) [SC.row (3 : Nat), SC.row (4 : Nat), SC.row (5 : Nat), SC.row (6 : Nat)]), (([] : Go.Eng.Gd), Res.row (3 : TypeId) I6 vs), (([] : Go.Eng.Gd), Res.row (3 : TypeId) I6 os), (([] : Go.Eng.Gd), Res.row (28 : TypeId) I6.sl (List.replicate qs.length [])), (([] : Go.Eng.Gd), Res.row (3 : TypeId) I6 sg)]) ∧ sg.length ≤ (1000000 : Nat) ∧ ((0 : Int) ≤ (↑qs.length : Int) ∧ (↑qs.length : Int) ≤ (↑qs.length : Int) ∧ InA (↑qs.length : Int).toNat (24 : Nat)) ∧ ∃ v, v = (0 : Nat) ∧ (SV.c (SC.own (2 : Nat) (0 : Nat)) = SV.c (SC.own (2 : Nat) (0 : Nat)) ∧ True) ∧ [(([] : Go.Eng.Gd), bM6 vs os qs sg), (([] : Go.Eng.Gd), zM6), (([] : Go.Eng.Gd), Res.blk (31 : Nat) [SC.row (3 : Nat), SC.row (4 : Nat), SC.row (5 : Nat), SC.row (6 : Nat)]), (([] : Go.Eng.Gd), Res.row (3 : TypeId) I6 vs), (([] : Go.Eng.Gd), Res.row (3 : TypeId) I6 os), (([] : Go.Eng.Gd), Res.row (28 : TypeId) I6.sl (List.replicate (↑qs.length : Int).toNat [])), (([] : Go.Eng.Gd), Res.row (3 : TypeId) I6 sg)] = [(([] : Go.Eng.Gd), bM6 vs os qs sg), (([] : Go.Eng.Gd), zM6), (([] : Go.Eng.Gd), Res.blk (31 : TypeId) [SC.row (3 : Nat), SC.row (4 : Nat), SC.row (5 : Nat), SC.row (6 : Nat)]), (([] : Go.Eng.Gd), Res.row (3 : TypeId) I6 vs), (([] : Go.Eng.Gd), Res.row (3 : TypeId) I6 os), (([] : Go.Eng.Gd), Res.row (28 : TypeId) I6.sl (List.replicate qs.length [])), (([] : Go.Eng.Gd), Res.row (3 : TypeId) I6 sg)]) ∧ ((0 : Int) ≤ (↑qs.length : Int) ∧ (↑qs.length : Int) ≤ (↑qs.length : Int) ∧ InA (↑qs.length : Int).toNat (24 : Nat)) ∧ os.length ≤ (1000000 : Nat) ∧ sg.length ≤ (1000000 : Nat) ∧ ∃ v, v = (0 : Nat) ∧ (SV.c (SC.own (2 : Nat) (0 : Nat)) = SV.c (SC.own (2 : Nat) (0 : Nat)) ∧ True) ∧ [(([] : Go.Eng.Gd), bM6 vs os qs sg), (([] : Go.Eng.Gd), zM6), (([] : Go.Eng.Gd), Res.blk (31 : Nat) [SC.row (3 : Nat), SC.row (4 : Nat), SC.row (5 : Nat), SC.row (6 : Nat)]), (([] : Go.Eng.Gd), Res.row (3 : TypeId) I6 vs), (([] : Go.Eng.Gd), Res.row (3 : TypeId) I6 os), (([] : Go.Eng.Gd), Res.row (28 : TypeId) I6.sl (List.replicate (↑qs.length : Int).toNat [])), (([] : Go.Eng.Gd), Res.row (3 : TypeId) I6 sg)] = [(([] : Go.Eng.Gd), bM6 vs os qs sg), (([] : Go.Eng.Gd), zM6), (([] : Go.Eng.Gd), Res.blk (31 : TypeId) [SC.row (3 : Nat), SC.row (4 : Nat), SC.row (5 : Nat), SC.row (6 : Nat)]), (([] : Go.Eng.Gd), Res.row (3 : TypeId) I6 vs), (([] : Go.Eng.Gd), Res.row (3 : TypeId) I6 os), (([] : Go.Eng.Gd), Res.row (28 : TypeId) I6.sl (List.replicate qs.length [])), (([] : Go.Eng.Gd), Res.row (3 : TypeId) I6 sg)]) ∧ (((0 : Int) ≤ (↑qs.length : Int) ∧ (↑qs.length : Int) ≤ (↑qs.length : Int) ∧ InA (↑qs.length : Int).toNat (24 : Nat)) ∧ (vs.length ≤ (1000000 : Nat) ∧ (os.length ≤ (1000000 : Nat) ∧ (sg.length ≤ (1000000 : Nat) ∧ (∃ v, v = (0 : Nat) ∧ (SV.c (SC.own (2 : Nat) (0 : Nat)) = SV.c (SC.own (2 : Nat) (0 : Nat)) ∧ True) ∧ [(([] : Go.Eng.Gd), bM6 vs os qs sg), (([] : Go.Eng.Gd), zM6), (([] : Go.Eng.Gd), Res.blk (31 : Nat) [SC.row (3 : Nat), SC.row (4 : Nat), SC.row (5 : Nat), SC.row (6 : Nat)]), (([] : Go.Eng.Gd), Res.row (3 : TypeId) I6 vs), (([] : Go.Eng.Gd), Res.row (3 : TypeId) I6 os), (([] : Go.Eng.Gd), Res.row (28 : TypeId) I6.sl (List.replicate (↑qs.length : Int).toNat [])), (([] : Go.Eng.Gd), Res.row (3 : TypeId) I6 sg)] = [(([] : Go.Eng.Gd), bM6 vs os qs sg), (([] : Go.Eng.Gd), zM6), (([] : Go.Eng.Gd), Res.blk (31 : TypeId) [SC.row (3 : Nat), SC.row (4 : Nat), SC.row (5 : Nat), SC.row (6 : Nat)]), (([] : Go.Eng.Gd), Res.row (3 : TypeId) I6 vs), (([] : Go.Eng.Gd), Res.row (3 : TypeId) I6 os), (([] : Go.Eng.Gd), Res.row (28 : TypeId) I6.sl (List.replicate qs.length [])), (([] : Go.Eng.Gd), Res.row (3 : TypeId) I6 sg)]) ∧ ∃ v, v = (0 : Nat) ∧ (SV.c (SC.own (2 : Nat) (0 : Nat)) = SV.c (SC.own (2 : Nat) (0 : Nat)) ∧ True) ∧ [(([] : Go.Eng.Gd), bM6 vs os qs sg), (([] : Go.Eng.Gd), zM6), (([] : Go.Eng.Gd), Res.blk (31 : Nat) [SC.row (3 : Nat), SC.row (4 : Nat), SC.row (5 : Nat), SC.row (6 : Nat)]), (([] : Go.Eng.Gd), Res.row (3 : TypeId) I6 vs), (([] : Go.Eng.Gd), Res.row (3 : TypeId) I6 os), (([] : Go.Eng.Gd), Res.row (28 : TypeId) I6.sl (List.replicate (↑qs.length : Int).toNat [])), (([] : Go.Eng.Gd), Res.row (3 : TypeId) I6 sg)] = [(([] : Go.Eng.Gd), bM6 vs os qs sg), (([] : Go.Eng.Gd), zM6), (([] : Go.Eng.Gd), Res.blk (31 : TypeId) [SC.row (3 : Nat), SC.row (4 : Nat), SC.row (5 : Nat), SC.row (6 : Nat)]), (([] : Go.Eng.Gd), Res.row (3 : TypeId) I6 vs), (([] : Go.Eng.Gd), Res.row (3 : TypeId) I6 os), (([] : Go.Eng.Gd), Res.row (28 : TypeId) I6.sl (List.replicate qs.length [])), (([] : Go.Eng.Gd), Res.row (3 : TypeId) I6 sg)]) ∧ sg.length ≤ (1000000 : Nat) ∧ ∃ v, v = (0 : Nat) ∧ (SV.c (SC.own (2 : Nat) (0 : Nat)) = SV.c (SC.own (2 : Nat) (0 : Nat)) ∧ True) ∧ [(([] : Go.Eng.Gd), bM6 vs os qs sg), (([] : Go.Eng.Gd), zM6), (([] : Go.Eng.Gd), Res.blk (31 : Nat) [SC.row (3 : Nat), SC.row (4 : Nat), SC.row (5 : Nat), SC.row (6 : Nat)]), (([] : Go.Eng.Gd), Res.row (3 : TypeId) I6 vs), (([] : Go.Eng.Gd), Res.row (3 : TypeId) I6 os), (([] : Go.Eng.Gd), Res.row (28 : TypeId) I6.sl (List.replicate (↑qs.length : Int).toNat [])), (([] : Go.Eng.Gd), Res.row (3 : TypeId) I6 sg)] = [(([] : Go.Eng.Gd), bM6 vs os qs sg), (([] : Go.Eng.Gd), zM6), (([] : Go.Eng.Gd), Res.blk (31 : TypeId) [SC.row (3 : Nat), SC.row (4 : Nat), SC.row (5 : Nat), SC.row (6 : Nat)]), (([] : Go.Eng.Gd), Res.row (3 : TypeId) I6 vs), (([] : Go.Eng.Gd), Res.row (3 : TypeId) I6 os), (([] : Go.Eng.Gd), Res.row (28 : TypeId) I6.sl (List.replicate qs.length [])), (([] : Go.Eng.Gd), Res.row (3 : TypeId) I6 sg)]) ∧ os.length ≤ (1000000 : Nat) ∧ sg.length ≤ (1000000 : Nat) ∧ ∃ v, v = (0 : Nat) ∧ (SV.c (SC.own (2 : Nat) (0 : Nat)) = SV.c (SC.own (2 : Nat) (0 : Nat)) ∧ True) ∧ [(([] : Go.Eng.Gd), bM6 vs os qs sg), (([] : Go.Eng.Gd), zM6), (([] : Go.Eng.Gd), Res.blk (31 : Nat) [SC.row (3 : Nat), SC.row (4 : Nat), SC.row (5 : Nat), SC.row (6 : Nat)]), (([] : Go.Eng.Gd), Res.row (3 : TypeId) I6 vs), (([] : Go.Eng.Gd), Res.row (3 : TypeId) I6 os), (([] : Go.Eng.Gd), Res.row (28 : TypeId) I6.sl (List.replicate (↑qs.length : Int).toNat [])), (([] : Go.Eng.Gd), Res.row (3 : TypeId) I6 sg)] = [(([] : Go.Eng.Gd), bM6 vs os qs sg), (([] : Go.Eng.Gd), zM6), (([] : Go.Eng.Gd), Res.blk (31 : TypeId) [SC.row (3 : Nat), SC.row (4 : Nat), SC.row (5 : Nat), SC.row (6 : Nat)]), (([] : Go.Eng.Gd), Res.row (3 : TypeId) I6 vs), (([] : Go.Eng.Gd), Res.row (3 : TypeId) I6 os), (([] : Go.Eng.Gd), Res.row (28 : TypeId) I6.sl (List.replicate qs.length [])), (([] : Go.Eng.Gd), Res.row (3 : TypeId) I6 sg)]) ∧ vs.length ≤ (1000000 : Nat) ∧ os.length ≤ (1000000 : Nat) ∧ sg.length ≤ (1000000 : Nat) ∧ ∃ v, v = (0 : Nat) ∧ (SV.c (SC.own (2 : Nat) (0 : Nat)) = SV.c (SC.own (2 : Nat) (0 : Nat)) ∧ True) ∧ [(([] : Go.Eng.Gd), bM6 vs os qs sg), (([] : Go.Eng.Gd), zM6), (([] : Go.Eng.Gd), Res.blk (31 : Nat) [SC.row (3 : Nat), SC.row (4 : Nat), SC.row (5 : Nat), SC.row (6 : Nat)]), (([] : Go.Eng.Gd), Res.row (3 : TypeId) I6 vs), (([] : Go.Eng.Gd), Res.row (3 : TypeId) I6 os), (([] : Go.Eng.Gd), Res.row (28 : TypeId) I6.sl (List.replicate (↑qs.length : Int).toNat [])), (([] : Go.Eng.Gd), Res.row (3 : TypeId) I6 sg)] = [(([] : Go.Eng.Gd), bM6 vs os qs sg), (([] : Go.Eng.Gd), zM6), (([] : Go.Eng.Gd), Res.blk (31 : TypeId) [SC.row (3 : Nat), SC.row (4 : Nat), SC.row (5 : Nat), SC.row (6 : Nat)]), (([] : Go.Eng.Gd), Res.row (3 : TypeId) I6 vs), (([] : Go.Eng.Gd), Res.row (3 : TypeId) I6 os), (([] : Go.Eng.Gd), Res.row (28 : TypeId) I6.sl (List.replicate qs.length [])), (([] : Go.Eng.Gd), Res.row (3 : TypeId) I6 sg)]) ∧ (vs.length ≤ (1000000 : Nat) ∧ (os.length ≤ (1000000 : Nat) ∧ (((0 : Int) ≤ (↑qs.length : Int) ∧ (↑qs.length : Int) ≤ (↑qs.length : Int) ∧ InA (↑qs.length : Int).toNat (24 : Nat)) ∧ sg.length ≤ (1000000 : Nat) ∧ ∃ v, v = (0 : Nat) ∧ (SV.c (SC.own (2 : Nat) (0 : Nat)) = SV.c (SC.own (2 : Nat) (0 : Nat)) ∧ True) ∧ [(([] : Go.Eng.Gd), bM6 vs os qs sg), (([] : Go.Eng.Gd), zM6), (([] : Go.Eng.Gd), Res.blk (31 : Nat) [SC.row (3 : Nat), SC.row (4 : Nat), SC.row (5 : Nat), SC.row (6 : Nat)]), (([] : Go.Eng.Gd), Res.row (3 : TypeId) I6 vs), (([] : Go.Eng.Gd), Res.row (3 : TypeId) I6 os), (([] : Go.Eng.Gd), Res.row (28 : TypeId) I6.sl (List.replicate (↑qs.length : Int).toNat [])), (([] : Go.Eng.Gd), Res.row (3 : TypeId) I6 sg)] = [(([] : Go.Eng.Gd), bM6 vs os qs sg), (([] : Go.Eng.Gd), zM6), (([] : Go.Eng.Gd), Res.blk (31 : TypeId) [SC.row (3 : Nat), SC.row (4 : Nat), SC.row (5 : Nat), SC.row (6 : Nat)]), (([] : Go.Eng.Gd), Res.row (3 : TypeId) I6 vs), (([] : Go.Eng.Gd), Res.row (3 : TypeId) I6 os), (([] : Go.Eng.Gd), Res.row (28 : TypeId) I6.sl (List.replicate qs.length [])), (([] : Go.Eng.Gd), Res.row (3 : TypeId) I6 sg)]) ∧ sg.length ≤ (1000000 : Nat) ∧ ((0 : Int) ≤ (↑qs.length : Int) ∧ (↑qs.length : Int) ≤ (↑qs.length : Int) ∧ InA (↑qs.length : Int).toNat (24 : Nat)) ∧ ∃ v, v = (0 : Nat) ∧ (SV.c (SC.own (2 : Nat) (0 : Nat)) = SV.c (SC.own (2 : Nat) (0 : Nat)) ∧ True) ∧ [(([] : Go.Eng.Gd), bM6 vs os qs sg), (([] : Go.Eng.Gd), zM6), (([] : Go.Eng.Gd), Res.blk (31 : Nat) [SC.row (3 : Nat), SC.row (4 : Nat), SC.row (5 : Nat), SC.row (6 : Nat)]), (([] : Go.Eng.Gd), Res.row (3 : TypeId) I6 vs), (([] : Go.Eng.Gd), Res.row (3 : TypeId) I6 os), (([] : Go.Eng.Gd), Res.row (28 : TypeId) I6.sl (List.replicate (↑qs.length : Int).toNat [])), (([] : Go.Eng.Gd), Res.row (3 : TypeId) I6 sg)] = [(([] : Go.Eng.Gd), bM6 vs os qs sg), (([] : Go.Eng.Gd), zM6), (([] : Go.Eng.Gd), Res.blk (31 : TypeId) [SC.row (3 : Nat), SC.row (4 : Nat), SC.row (5 : Nat), SC.row (6 : Nat)]), (([] : Go.Eng.Gd), Res.row (3 : TypeId) I6 vs), (([] : Go.Eng.Gd), Res.row (3 : TypeId) I6 os), (([] : Go.Eng.Gd), Res.row (28 : TypeId) I6.sl (List.replicate qs.length [])), (([] : Go.Eng.Gd), Res.row (3 : TypeId) I6 sg)]) ∧ ((0 : Int) ≤ (↑qs.length : Int) ∧ (↑qs.length : Int) ≤ (↑qs.length : Int) ∧ InA (↑qs.length : Int).toNat (24 : Nat)) ∧ os.length ≤ (1000000 : Nat) ∧ sg.length ≤ (1000000 : Nat) ∧ ∃ v, v = (0 : Nat) ∧ (SV.c (SC.own (2 : Nat) (0 : Nat)) = SV.c (SC.own (2 : Nat) (0 : Nat)) ∧ True) ∧ [(([] : Go.Eng.Gd), bM6 vs os qs sg), (([] : Go.Eng.Gd), zM6), (([] : Go.Eng.Gd), Res.blk (31 : Nat) [SC.row (3 : Nat), SC.row (4 : Nat), SC.row (5 : Nat), SC.row (6 : Nat)]), (([] : Go.Eng.Gd), Res.row (3 : TypeId) I6 vs), (([] : Go.Eng.Gd), Res.row (3 : TypeId) I6 os), (([] : Go.Eng.Gd), Res.row (28 : TypeId) I6.sl (List.replicate (↑qs.length : Int).toNat [])), (([] : Go.Eng.Gd), Res.row (3 : TypeId) I6 sg)] = [(([] : Go.Eng.Gd), bM6 vs os qs sg), (([] : Go.Eng.Gd), zM6), (([] : Go.Eng.Gd), Res.blk (31 : TypeId) [SC.row (3 : Nat), SC.row (4 : Nat), SC.row (5 : Nat), SC.row (6 : Nat)]), (([] : Go.Eng.Gd), Res.row (3 : TypeId) I6 vs), (([] : Go.Eng.Gd), Res.row (3 : TypeId) I6 os), (([] : Go.Eng.Gd), Res.row (28 : TypeId) I6.sl (List.replicate qs.length [])), (([] : Go.Eng.Gd), Res.row (3 : TypeId) I6 sg)]) ∧ ((0 : Int) ≤ (↑qs.length : Int) ∧ (↑qs.length : Int) ≤ (↑qs.length : Int) ∧ InA (↑qs.length : Int).toNat (24 : Nat)) ∧ vs.length ≤ (1000000 : Nat) ∧ os.length ≤ (1000000 : Nat) ∧ sg.length ≤ (1000000 : Nat) ∧ ∃ v, v = (0 : Nat) ∧ (SV.c (SC.own (2 : Nat) (0 : Nat)) = SV.c (SC.own (2 : Nat) (0 : Nat)) ∧ True) ∧ [(([] : Go.Eng.Gd), bM6 vs os qs sg), (([] : Go.Eng.Gd), zM6), (([] : Go.Eng.Gd), Res.blk (31 : Nat) [SC.row (3 : Nat), SC.row (4 : Nat), SC.row (5 : Nat), SC.row (6 : Nat)]), (([] : Go.Eng.Gd), Res.row (3 : TypeId) I6 vs), (([] : Go.Eng.Gd), Res.row (3 : TypeId) I6 os), (([] : Go.Eng.Gd), Res.row (28 : TypeId) I6.sl (List.replicate (↑qs.length : Int).toNat [])), (([] : Go.Eng.Gd), Res.row (3 : TypeId) I6 sg)] = [(([] : Go.Eng.Gd), bM6 vs os qs sg), (([] : Go.Eng.Gd), zM6), (([] : Go.Eng.Gd), Res.blk (31 : TypeId) [SC.row (3 : Nat), SC.row (4 : Nat), SC.row (5 : Nat), SC.row (6 : Nat)]), (([] : Go.Eng.Gd), Res.row (3 : TypeId) I6 vs), (([] : Go.Eng.Gd), Res.row (3 : TypeId) I6 os), (([] : Go.Eng.Gd), Res.row (28 : TypeId) I6.sl (List.replicate qs.length [])), (([] : Go.Eng.Gd), Res.row (3 : TypeId) I6 sg)]) ∧ ∀ (v : Nat), v = (0 : Nat) → (∃ x, x ≤ qs.length ∧ (SV.c (SC.v (Value.int IntKind.i64 (0 : Int))) = SV.c (SC.v (Value.int IntKind.i64 (↑x : Int))) ∧ True) ∧ [(([] : Go.Eng.Gd), bM6 vs os qs sg), (([] : Go.Eng.Gd), zM6), (([] : Go.Eng.Gd), Res.blk (31 : TypeId) [SC.row (3 : Nat), SC.row (4 : Nat), SC.row (5 : Nat), SC.row (6 : Nat)]), (([] : Go.Eng.Gd), Res.row (3 : TypeId) I6 vs), (([] : Go.Eng.Gd), Res.row (3 : TypeId) I6 os), (([] : Go.Eng.Gd), Res.deep (28 : TypeId) I6.sl (List.replicate qs.length []) (3 : TypeId) I6 (0 : Nat) noOwn []), (([] : Go.Eng.Gd), Res.row (3 : TypeId) I6 sg)] = [(([] : Go.Eng.Gd), bM6 vs os qs sg), (([] : Go.Eng.Gd), zM6), (([] : Go.Eng.Gd), Res.blk (31 : TypeId) [SC.row (3 : Nat), SC.row (4 : Nat), SC.row (5 : Nat), SC.row (6 : Nat)]), (([] : Go.Eng.Gd), Res.row (3 : TypeId) I6 vs), (([] : Go.Eng.Gd), Res.row (3 : TypeId) I6 os), (([] : Go.Eng.Gd), Res.deep (28 : TypeId) I6.sl (List.take x qs ++ List.replicate (qs.length - x) []) (3 : TypeId) I6 (0 : Nat) (fun j => decide (j < x)) []), (([] : Go.Eng.Gd), Res.row (3 : TypeId) I6 sg)]) ∧ ∀ (x : Nat), x ≤ qs.length → br (decide ((↑x : Int) < (↑qs.length : Int))) (((0 : Int) ≤ (↑x : Int) ∧ (↑x : Int) < (↑qs.length : Int)) ∧ ∀ (d : List I6.den), qs[(↑x : Int).toNat]? = some d → d.length ≤ (1000000 : Nat) ∧ ((0 : Int) ≤ (↑x : Int) ∧ (↑x : Int) < (↑(List.take x qs ++ List.replicate (qs.length - x) []).length : Int)) ∧ (↑x : Int).toNat < (List.take x qs ++ List.replicate (qs.length - x) []).length ∧ ∀ (e0 : List I6.den), (List.take x qs ++ List.replicate (qs.length - x) [])[(↑x : Int).toNat]? = some e0 → InR IntKind.i64 ((↑x : Int) + (1 : Int)) ∧ ∃ x', x' ≤ qs.length ∧ (SV.c (SC.v (Value.int IntKind.i64 ((↑x : Int) + (1 : Int)))) = SV.c (SC.v (Value.int IntKind.i64 (↑x' : Int))) ∧ True) ∧ [(([] : Go.Eng.Gd), bM6 vs os qs sg), (([] : Go.Eng.Gd), zM6), (([] : Go.Eng.Gd), Res.blk (31 : TypeId) [SC.row (3 : Nat), SC.row (4 : Nat), SC.row (5 : Nat), SC.row (6 : Nat)]), (([] : Go.Eng.Gd), Res.row (3 : TypeId) I6 vs), (([] : Go.Eng.Gd), Res.row (3 : TypeId) I6 os), (([] : Go.Eng.Gd), Res.deep (28 : TypeId) I6.sl ((List.take x qs ++ List.replicate (qs.length - x) []).set (↑x : Int).toNat (d)) (3 : TypeId) I6 (0 : Nat) (ownAt (fun j => decide (j < x)) (↑x : Int).toNat) []), (([] : Go.Eng.Gd), Res.row (3 : TypeId) I6 sg)] = [(([] : Go.Eng.Gd), bM6 vs os qs sg), (([] : Go.Eng.Gd), zM6), (([] : Go.Eng.Gd), Res.blk (31 : TypeId) [SC.row (3 : Nat), SC.row (4 : Nat), SC.row (5 : Nat), SC.row (6 : Nat)]), (([] : Go.Eng.Gd), Res.row (3 : TypeId) I6 vs), (([] : Go.Eng.Gd), Res.row (3 : TypeId) I6 os), (([] : Go.Eng.Gd), Res.deep (28 : TypeId) I6.sl (List.take x' qs ++ List.replicate (qs.length - x') []) (3 : TypeId) I6 (0 : Nat) (fun j => decide (j < x')) []), (([] : Go.Eng.Gd), Res.row (3 : TypeId) I6 sg)] ∧ qs.length - x' < qs.length - x) ([Res.row (3 : TypeId) I6 vs, Res.row (3 : TypeId) I6 os, Res.deep (28 : TypeId) I6.sl qs (3 : TypeId) I6 (0 : Nat) (fun j => decide (j < List.length (vs, os, qs, sg, ()).snd.snd.fst)) [], Res.row (3 : TypeId) I6 sg] = [Res.row (3 : TypeId) I6 vs, Res.row (3 : TypeId) I6 os, Res.deep (28 : TypeId) I6.sl (List.take x qs ++ List.replicate (qs.length - x) []) (3 : TypeId) I6 (0 : Nat) (fun j => decide (j < x)) [], Res.row (3 : TypeId) I6 sg] ∧ Ent.one (SV.agg [SC.row (0 : Nat), SC.row (1 : Nat), SC.row (2 : Nat), SC.row (3 : Nat)]) = Ent.one (SV.agg [SC.row (0 : Nat), SC.row (Nat.succ (0 : Nat)), SC.row (Nat.succ (0 : Nat)).succ, SC.row (Nat.succ (0 : Nat)).succ.succ])) := by
  obtain ⟨b1, b2, b3, b4, b5, b6⟩ : vs.length ≤ 1000 ∧ os.length ≤ 1000 ∧ qs.length ≤ 1000 ∧ sg.length ≤ 1000 ∧ (∀ q ∈ qs, q.length ≤ 1000) ∧ qs.flatten.length ≤ 100000 := hpre
  refine ⟨?_, fun u hu => ⟨⟨0, by omega, ⟨rfl, trivial⟩, ?_⟩, fun k hk => br_iff.2 ⟨fun g => ?_, fun g => ?_⟩⟩⟩
  · have hA : InA (↑qs.length : Int).toNat 24 := InA_iff.2 (by omega)
    repeat' first | exact ⟨0, rfl, ⟨rfl, trivial⟩, rfl⟩ | (refine And.intro ?_ ?_) | omega | exact hA
  · rw [noOwn_zero]; simp
  · simp only [decide_eq_true_eq] at g
    refine ⟨⟨by omega, by omega⟩, fun d hd => ⟨?_, ⟨by omega, ?_⟩, ?_, fun e0 he => ⟨InR_i64.2 (by omega), k + 1, by omega, ⟨rfl, trivial⟩, ?_, by omega⟩⟩⟩
    · have := b5 d (List.mem_of_getElem? hd); omega
    · rw [fill_len hk]; omega
    · rw [fill_len hk]; show k < _; omega
    · have hd : qs[k]? = some d := hd
      have e1 : (qs.take k ++ List.replicate (qs.length - k) []).set (↑k : Int).toNat d = qs.take (k + 1) ++ List.replicate (qs.length - (k + 1)) [] := fill_set hd
      have e2 : ownAt (fun j => decide (j < k)) (↑k : Int).toNat = fun j => decide (j < k + 1) := ownAt_succ k
      rw [e2]
      exact congrArg (fun z => _ :: _ :: _ :: _ :: _ :: (([] : Go.Eng.Gd), Res.deep 28 I6.sl z 3 I6 0 (fun j => decide (j < k + 1)) []) :: _) e1
  simp only [decide_eq_false_iff_not] at g
  have ek : k = qs.length := by omega
  subst ek
  exact ⟨by rw [fill_all (by omega) hk], rfl⟩
set_option maxHeartbeats 2000000 in
set_option maxRecDepth 100000 in
theorem f36_met : Go.Eng.Met Tryd.prog cx0.gd 36 ctClO :=
  (met_all (cx := cx0) (n := 36) (cl := cl36) (il := il36) (hl := hl36) (ml := ml36) (rc := []) (lits := []) (suf := []) (by kernel_rfl) tis_ok ⟨f60_met, trivial⟩ trivial trivial trivial Tryd.func36 (by kernel_rfl) (by kernel_rfl) rfl (by kernel_rfl) (by kernel_rfl) (by simp) fun d hd => by
    obtain ⟨⟨vs, os, qs, sg, ⟨⟩⟩, ⟨⟩⟩ := d
    exact ex_of (ann36 vs os qs sg) (f36_vc vs os qs sg hd) (by kernel_rfl)).met
end Go.Proofs.YtkgjfkdcnoockaaDoor
