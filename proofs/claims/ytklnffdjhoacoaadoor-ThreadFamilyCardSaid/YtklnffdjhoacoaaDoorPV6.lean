/- The Program chapter, part 6: the check of a program, the functions that threads can reach. -/
import Derived.Test.YtklnffdjhoacoaaDoorPV5
set_option linter.unusedSimpArgs false
set_option linter.unusedVariables false
set_option maxRecDepth 100000
namespace Go.Proofs.YtklnffdjhoacoaaDoor
open Go Go.Eng

@[reducible] def bnd (d : dens [shP]) : Prop := d.1.1.length ≤ 1000000 ∧ d.1.2.1.length ≤ 1000000 ∧ d.1.2.2.1.length ≤ 1000000 ∧ d.1.2.2.2.1.length ≤ 1000000 ∧ d.1.2.2.2.2.1.length ≤ 1000000 ∧ (∀ x ∈ d.1.2.2.2.1, x.2.1.length ≤ 1000000) ∧ (instL d.1.2.2.2.1).length ≤ 1000000
def chkP (vs : List VD) (ms cs : List ByteArray) (fs : List FD) (ts : List SD) : Int × Int × Int :=
  if (cnS vs ms cs fs).1 ≠ 0 then cnS vs ms cs fs else if coS vs ms cs fs ≠ 0 then (coS vs ms cs fs, -1, -1) else if (ccS vs ms cs fs).1 ≠ 0 then ccS vs ms cs fs else if thS fs ts ≠ 0 then (thS fs ts, -1, -1) else (0, -1, -1)
@[reducible] def ctChk : CT := { ps := [shP], pre := fun d => bnd d, res := fun d => ([], .tup [.c (.v (.int .i64 (chkP d.1.1 d.1.2.1 d.1.2.2.1 d.1.2.2.2.1 d.1.2.2.2.2.1).1)), .c (.v (.int .i64 (chkP d.1.1 d.1.2.1 d.1.2.2.1 d.1.2.2.2.1 d.1.2.2.2.2.1).2.1)), .c (.v (.int .i64 (chkP d.1.1 d.1.2.1 d.1.2.2.1 d.1.2.2.2.1 d.1.2.2.2.2.1).2.2))]) }
@[reducible] noncomputable def cl39 : List (Nat × CT) := [(50, ctCN), (51, ctCO), (52, ctCC), (53, ctCT)]
@[reducible] def ann39 (vs : List VD) (ms : List ByteArray) (cs : List ByteArray) (fs : List FD) (ts : List SD) : Nat → Option (St → Ann) := fun _ => none
set_option maxRecDepth 100000 in
theorem f39_vc (vs : List VD) (ms : List ByteArray) (cs : List ByteArray) (fs : List FD) (ts : List SD) (hpre : ctChk.pre ((vs, ms, cs, fs, ts, ()), ())) :
    (vs.length ≤ (1000000 : Nat) ∧ ms.length ≤ (1000000 : Nat) ∧ cs.length ≤ (1000000 : Nat) ∧ fs.length ≤ (1000000 : Nat)) ∧ br (decide ((cnS vs ms cs fs).fst = (0 : Int))) (True ∧ br (decide (coS vs ms cs fs = (0 : Int))) ((fs.length ≤ (1000000 : Nat) ∧ ∀ (x : Sh.str.den × (((Sh.int IntKind.i64).pair ((Sh.int IntKind.i64).pair ((Sh.int IntKind.i64).pair ((Sh.int IntKind.i64).pair ((Sh.int IntKind.i64).pair ((Sh.int IntKind.i64).pair ((Sh.int IntKind.i64).pair ((Sh.int IntKind.i64).pair Sh.unit)))))))).sl.pair Sh.unit).den), x ∈ fs → List.length x.snd.fst ≤ (1000000 : Nat)) ∧ br (decide ((ccS vs ms cs fs).fst = (0 : Int))) (True ∧ br (!decide (thS fs ts = (0 : Int))) (([] : List Go.Eng.Res) = [] ∧ Ent.tup [SV.c (SC.v (Value.int IntKind.i64 (chkP vs ms cs fs ts).fst)), SV.c (SC.v (Value.int IntKind.i64 (chkP vs ms cs fs ts).snd.fst)), SV.c (SC.v (Value.int IntKind.i64 (chkP vs ms cs fs ts).snd.snd))] = Ent.tup [SV.c (SC.v (Value.int IntKind.i64 (thS fs ts))), SV.c (SC.v (Value.int IntKind.i64 (-1 : Int))), SV.c (SC.v (Value.int IntKind.i64 (-1 : Int)))]) (([] : List Go.Eng.Res) = [] ∧ Ent.tup [SV.c (SC.v (Value.int IntKind.i64 (chkP vs ms cs fs ts).fst)), SV.c (SC.v (Value.int IntKind.i64 (chkP vs ms cs fs ts).snd.fst)), SV.c (SC.v (Value.int IntKind.i64 (chkP vs ms cs fs ts).snd.snd))] = Ent.tup [SV.c (SC.v (Value.int IntKind.i64 (0 : Int))), SV.c (SC.v (Value.int IntKind.i64 (-1 : Int))), SV.c (SC.v (Value.int IntKind.i64 (-1 : Int)))])) (br (!decide ((ccS vs ms cs fs).fst = (0 : Int))) (([] : List Go.Eng.Res) = [] ∧ Ent.tup [SV.c (SC.v (Value.int IntKind.i64 (chkP vs ms cs fs ts).fst)), SV.c (SC.v (Value.int IntKind.i64 (chkP vs ms cs fs ts).snd.fst)), SV.c (SC.v (Value.int IntKind.i64 (chkP vs ms cs fs ts).snd.snd))] = Ent.tup [SV.c (SC.v (Value.int IntKind.i64 (ccS vs ms cs fs).fst)), SV.c (SC.v (Value.int IntKind.i64 (ccS vs ms cs fs).snd.fst)), SV.c (SC.v (Value.int IntKind.i64 (ccS vs ms cs fs).snd.snd))]) (([] : List Go.Eng.Res) = [] ∧ Ent.tup [SV.c (SC.v (Value.int IntKind.i64 (chkP vs ms cs fs ts).fst)), SV.c (SC.v (Value.int IntKind.i64 (chkP vs ms cs fs ts).snd.fst)), SV.c (SC.v (Value.int IntKind.i64 (chkP vs ms cs fs ts).snd.snd))] = Ent.tup [SV.c (SC.v (Value.int IntKind.i64 (0 : Int))), SV.c (SC.v (Value.int IntKind.i64 (-1 : Int))), SV.c (SC.v (Value.int IntKind.i64 (-1 : Int)))]))) (br (decide (coS vs ms cs fs = (0 : Int))) (True ∧ br (!decide (thS fs ts = (0 : Int))) (([] : List Go.Eng.Res) = [] ∧ Ent.tup [SV.c (SC.v (Value.int IntKind.i64 (chkP vs ms cs fs ts).fst)), SV.c (SC.v (Value.int IntKind.i64 (chkP vs ms cs fs ts).snd.fst)), SV.c (SC.v (Value.int IntKind.i64 (chkP vs ms cs fs ts).snd.snd))] = Ent.tup [SV.c (SC.v (Value.int IntKind.i64 (thS fs ts))), SV.c (SC.v (Value.int IntKind.i64 (-1 : Int))), SV.c (SC.v (Value.int IntKind.i64 (-1 : Int)))]) (([] : List Go.Eng.Res) = [] ∧ Ent.tup [SV.c (SC.v (Value.int IntKind.i64 (chkP vs ms cs fs ts).fst)), SV.c (SC.v (Value.int IntKind.i64 (chkP vs ms cs fs ts).snd.fst)), SV.c (SC.v (Value.int IntKind.i64 (chkP vs ms cs fs ts).snd.snd))] = Ent.tup [SV.c (SC.v (Value.int IntKind.i64 (0 : Int))), SV.c (SC.v (Value.int IntKind.i64 (-1 : Int))), SV.c (SC.v (Value.int IntKind.i64 (-1 : Int)))])) (br (!decide (coS vs ms cs fs = (0 : Int))) (([] : List Go.Eng.Res) = [] ∧ Ent.tup [SV.c (SC.v (Value.int IntKind.i64 (chkP vs ms cs fs ts).fst)), SV.c (SC.v (Value.int IntKind.i64 (chkP vs ms cs fs ts).snd.fst)), SV.c (SC.v (Value.int IntKind.i64 (chkP vs ms cs fs ts).snd.snd))] = Ent.tup [SV.c (SC.v (Value.int IntKind.i64 (coS vs ms cs fs))), SV.c (SC.v (Value.int IntKind.i64 (-1 : Int))), SV.c (SC.v (Value.int IntKind.i64 (-1 : Int)))]) (([] : List Go.Eng.Res) = [] ∧ Ent.tup [SV.c (SC.v (Value.int IntKind.i64 (chkP vs ms cs fs ts).fst)), SV.c (SC.v (Value.int IntKind.i64 (chkP vs ms cs fs ts).snd.fst)), SV.c (SC.v (Value.int IntKind.i64 (chkP vs ms cs fs ts).snd.snd))] = Ent.tup [SV.c (SC.v (Value.int IntKind.i64 (0 : Int))), SV.c (SC.v (Value.int IntKind.i64 (-1 : Int))), SV.c (SC.v (Value.int IntKind.i64 (-1 : Int)))])))) (br (decide ((cnS vs ms cs fs).fst = (0 : Int))) ((fs.length ≤ (1000000 : Nat) ∧ ∀ (x : Sh.str.den × (((Sh.int IntKind.i64).pair ((Sh.int IntKind.i64).pair ((Sh.int IntKind.i64).pair ((Sh.int IntKind.i64).pair ((Sh.int IntKind.i64).pair ((Sh.int IntKind.i64).pair ((Sh.int IntKind.i64).pair ((Sh.int IntKind.i64).pair Sh.unit)))))))).sl.pair Sh.unit).den), x ∈ fs → List.length x.snd.fst ≤ (1000000 : Nat)) ∧ br (decide ((ccS vs ms cs fs).fst = (0 : Int))) (True ∧ br (!decide (thS fs ts = (0 : Int))) (([] : List Go.Eng.Res) = [] ∧ Ent.tup [SV.c (SC.v (Value.int IntKind.i64 (chkP vs ms cs fs ts).fst)), SV.c (SC.v (Value.int IntKind.i64 (chkP vs ms cs fs ts).snd.fst)), SV.c (SC.v (Value.int IntKind.i64 (chkP vs ms cs fs ts).snd.snd))] = Ent.tup [SV.c (SC.v (Value.int IntKind.i64 (thS fs ts))), SV.c (SC.v (Value.int IntKind.i64 (-1 : Int))), SV.c (SC.v (Value.int IntKind.i64 (-1 : Int)))]) (([] : List Go.Eng.Res) = [] ∧ Ent.tup [SV.c (SC.v (Value.int IntKind.i64 (chkP vs ms cs fs ts).fst)), SV.c (SC.v (Value.int IntKind.i64 (chkP vs ms cs fs ts).snd.fst)), SV.c (SC.v (Value.int IntKind.i64 (chkP vs ms cs fs ts).snd.snd))] = Ent.tup [SV.c (SC.v (Value.int IntKind.i64 (0 : Int))), SV.c (SC.v (Value.int IntKind.i64 (-1 : Int))), SV.c (SC.v (Value.int IntKind.i64 (-1 : Int)))])) (br (!decide ((ccS vs ms cs fs).fst = (0 : Int))) (([] : List Go.Eng.Res) = [] ∧ Ent.tup [SV.c (SC.v (Value.int IntKind.i64 (chkP vs ms cs fs ts).fst)), SV.c (SC.v (Value.int IntKind.i64 (chkP vs ms cs fs ts).snd.fst)), SV.c (SC.v (Value.int IntKind.i64 (chkP vs ms cs fs ts).snd.snd))] = Ent.tup [SV.c (SC.v (Value.int IntKind.i64 (ccS vs ms cs fs).fst)), SV.c (SC.v (Value.int IntKind.i64 (ccS vs ms cs fs).snd.fst)), SV.c (SC.v (Value.int IntKind.i64 (ccS vs ms cs fs).snd.snd))]) (([] : List Go.Eng.Res) = [] ∧ Ent.tup [SV.c (SC.v (Value.int IntKind.i64 (chkP vs ms cs fs ts).fst)), SV.c (SC.v (Value.int IntKind.i64 (chkP vs ms cs fs ts).snd.fst)), SV.c (SC.v (Value.int IntKind.i64 (chkP vs ms cs fs ts).snd.snd))] = Ent.tup [SV.c (SC.v (Value.int IntKind.i64 (0 : Int))), SV.c (SC.v (Value.int IntKind.i64 (-1 : Int))), SV.c (SC.v (Value.int IntKind.i64 (-1 : Int)))]))) (br (decide ((cnS vs ms cs fs).fst = (0 : Int))) (True ∧ br (!decide (thS fs ts = (0 : Int))) (([] : List Go.Eng.Res) = [] ∧ Ent.tup [SV.c (SC.v (Value.int IntKind.i64 (chkP vs ms cs fs ts).fst)), SV.c (SC.v (Value.int IntKind.i64 (chkP vs ms cs fs ts).snd.fst)), SV.c (SC.v (Value.int IntKind.i64 (chkP vs ms cs fs ts).snd.snd))] = Ent.tup [SV.c (SC.v (Value.int IntKind.i64 (thS fs ts))), SV.c (SC.v (Value.int IntKind.i64 (-1 : Int))), SV.c (SC.v (Value.int IntKind.i64 (-1 : Int)))]) (([] : List Go.Eng.Res) = [] ∧ Ent.tup [SV.c (SC.v (Value.int IntKind.i64 (chkP vs ms cs fs ts).fst)), SV.c (SC.v (Value.int IntKind.i64 (chkP vs ms cs fs ts).snd.fst)), SV.c (SC.v (Value.int IntKind.i64 (chkP vs ms cs fs ts).snd.snd))] = Ent.tup [SV.c (SC.v (Value.int IntKind.i64 (0 : Int))), SV.c (SC.v (Value.int IntKind.i64 (-1 : Int))), SV.c (SC.v (Value.int IntKind.i64 (-1 : Int)))])) (br (!decide ((cnS vs ms cs fs).fst = (0 : Int))) (([] : List Go.Eng.Res) = [] ∧ Ent.tup [SV.c (SC.v (Value.int IntKind.i64 (chkP vs ms cs fs ts).fst)), SV.c (SC.v (Value.int IntKind.i64 (chkP vs ms cs fs ts).snd.fst)), SV.c (SC.v (Value.int IntKind.i64 (chkP vs ms cs fs ts).snd.snd))] = Ent.tup [SV.c (SC.v (Value.int IntKind.i64 (cnS vs ms cs fs).fst)), SV.c (SC.v (Value.int IntKind.i64 (cnS vs ms cs fs).snd.fst)), SV.c (SC.v (Value.int IntKind.i64 (cnS vs ms cs fs).snd.snd))]) (([] : List Go.Eng.Res) = [] ∧ Ent.tup [SV.c (SC.v (Value.int IntKind.i64 (chkP vs ms cs fs ts).fst)), SV.c (SC.v (Value.int IntKind.i64 (chkP vs ms cs fs ts).snd.fst)), SV.c (SC.v (Value.int IntKind.i64 (chkP vs ms cs fs ts).snd.snd))] = Ent.tup [SV.c (SC.v (Value.int IntKind.i64 (0 : Int))), SV.c (SC.v (Value.int IntKind.i64 (-1 : Int))), SV.c (SC.v (Value.int IntKind.i64 (-1 : Int)))])))) := by
  obtain ⟨h1, h2, h3, h4, h5, h6, h7⟩ : bnd ((vs, ms, cs, fs, ts, ()), ()) := hpre
  have hA : ∀ x ∈ fs, x.2.1.length ≤ 1000000 := h6
  have hB : fs.length ≤ 1000000 ∧ ∀ x ∈ fs, x.2.1.length ≤ 1000000 := ⟨h4, h6⟩
  have hC : vs.length ≤ 1000000 ∧ ms.length ≤ 1000000 ∧ cs.length ≤ 1000000 ∧ fs.length ≤ 1000000 := ⟨h1, h2, h3, h4⟩
  clear h1 h2 h3 h4 h5 h6 h7 hA
  unfold chkP
  simp only [br_iff]
  repeat' (first | exact hB | exact hC | (refine And.intro ?_ ?_) | (intro _))
  all_goals first | trivial | rfl | (clear hB hC; simp_all; done)
set_option maxHeartbeats 2000000 in
set_option maxRecDepth 100000 in
theorem f39_met : Go.Eng.Met Tryd.prog cx0.gd 39 ctChk :=
  met_of (cx := cx0) (n := 40) (cl := cl39) (by kernel_rfl) tis_ok ⟨f50_met, f51_met, f52_met, f53_met, trivial⟩ Tryd.func39 (by kernel_rfl) (by kernel_rfl) rfl (by kernel_rfl) (by kernel_rfl) fun d hd => by
    obtain ⟨⟨vs, ms, cs, fs, ts, ⟨⟩⟩, ⟨⟩⟩ := d
    exact ⟨ann39 vs ms cs fs ts, cast (by kernel_rfl) (f39_vc vs ms cs fs ts hd)⟩
@[reducible] def ctVld : CT := { ps := [shP], pre := fun d => bnd d, res := fun d => ([], vB (decide ((chkP d.1.1 d.1.2.1 d.1.2.2.1 d.1.2.2.2.1 d.1.2.2.2.2.1).1 = 0))) }
theorem ss_sub : ∀ {m x : List Int}, SS m → SS x → (∀ y ∈ x, y ∈ m) → x.Sublist m
  | [], [], _, _, _ => .slnil
  | [], y :: x, _, _, h => by have := h y (by simp); simp at this
  | b :: m, [], _, _, _ => List.nil_sublist _
  | b :: m, a :: x, hm, hx, h => by
    obtain ⟨m1, m2⟩ := List.pairwise_cons.1 hm
    obtain ⟨x1, x2⟩ := List.pairwise_cons.1 hx
    rcases List.mem_cons.1 (h a (by simp)) with rfl | ha
    · refine List.cons_sublist_cons.2 (ss_sub m2 x2 fun y hy => ?_)
      rcases List.mem_cons.1 (h y (by simp [hy])) with rfl | h2
      · have := x1 _ hy; omega
      · exact h2
    · refine List.Sublist.cons _ (ss_sub m2 hx fun y hy => ?_)
      rcases List.mem_cons.1 (h y hy) with rfl | h2
      · have := m1 a ha
        rcases List.mem_cons.1 hy with rfl | hy
        · omega
        · have := x1 _ hy; omega
      · exact h2
theorem ss_len {hi : Int} : ∀ (l : List Int) (lo : Int), SS l → (∀ x ∈ l, lo ≤ x ∧ x < hi) → lo ≤ hi → (l.length : Int) ≤ hi - lo
  | [], lo, _, _, h => by simp; omega
  | x :: l, lo, hs, hb, h => by
    obtain ⟨h1, h2⟩ := List.pairwise_cons.1 hs
    obtain ⟨b1, b2⟩ := hb x (by simp)
    have := ss_len l (x + 1) h2 (fun y hy => ⟨by have := h1 y hy; omega, (hb y (by simp [hy])).2⟩) (by omega)
    simp only [List.length_cons]; omega
theorem ss_short {l : List Int} {n : Nat} (hs : SS l) (hb : ∀ x ∈ l, 0 ≤ x ∧ x < (n : Int)) : l.length ≤ n := by
  have := ss_len l 0 hs hb (by omega)
  omega
theorem add_inv {l : List Int} {x : Int} {n : Nat} (hs : SS l) (hb : ∀ y ∈ l, 0 ≤ y ∧ y < (n : Int)) (hx : 0 ≤ x ∧ x < (n : Int)) : SS (makeI (l ++ [x])) ∧ (∀ y ∈ makeI (l ++ [x]), 0 ≤ y ∧ y < (n : Int)) ∧ l.length ≤ (makeI (l ++ [x])).length := by
  refine ⟨make_ss _, fun y hy => ?_, (ss_sub (make_ss _) hs fun y hy => make_mem.2 (by simp [hy])).length_le⟩
  have := make_mem.1 hy
  simp at this
  rcases this with h | h
  · exact hb y h
  · subst h; exact hx
/-- A result's row, frozen. -/
theorem met_frz {P : Program} {gd : Nat → Option (Sigma Sh.den)} {f : Nat} {ps : List Sh} {pre : dens ps → Prop} {t : TypeId} {s : Sh} {L : dens ps → List s.den} (m : Go.Eng.Met P gd f { ps := ps, pre := pre, res := fun d => ([.row t s (L d)], .one (.c (.row 0))) }) :
    Go.Eng.Met P gd f { ps := ps, pre := pre, res := fun d => ([], .one (.c (.sl s (L d)))) } := by
  refine ⟨fun d vs h B hw hg ha hp => (m.1 d vs h B hw hg ha hp).mono ?_, m.2⟩
  rintro en w' ⟨h', β, y, rfl, ok, c⟩
  obtain ⟨h2, le, ok2, sl⟩ := ok.freeze (i := 0) rfl c.1
  exact ⟨h2, [], y, rfl, by simpa using ok2.take (n := 0) (Nat.zero_le _) (fun r hr => by simp at hr), ⟨sl, c.2⟩⟩
@[reducible] def ctAddF : CT := { ps := [.sl (.int .i64), .int .i64], pre := fun d => d.1.length ≤ 999999, res := fun d => ([], .one (.c (.sl (.int .i64) (makeI (d.1 ++ [d.2.1]))))) }
theorem fAddF_met : Go.Eng.Met Tryd.prog cx0.gd 37 ctAddF := met_frz f37_met
def initR (ts : List SD) : List Int := ts.foldl (fun o t => makeI (o ++ [t.1])) []
def stepR (found : List Int) (ds : List (dens [shS, shI])) : List Int := ds.foldl (fun nx d => if d.2.1.1 = 21 ∧ hasI found d.1.1 = true then makeI (nx ++ [d.2.1.2.2.2.2.1]) else nx) found
def reachF : Nat → List FD → List Int → List Int
  | 0, _, l => l
  | n + 1, fs, l => if (stepR l (instL fs)).length = l.length then l else reachF n fs (stepR l (instL fs))
def reachS (vs : List VD) (ms cs : List ByteArray) (fs : List FD) (ts : List SD) : List Int × Int := if (chkP vs ms cs fs ts).1 ≠ 0 then ([], (chkP vs ms cs fs ts).1) else (reachF (fs.length + 1) fs (initR ts), 0)
theorem init_step {ts : List SD} {k : Nat} {d : SD} (h : ts[k]? = some d) : initR (ts.take (k + 1)) = makeI (initR (ts.take k) ++ [d.1]) := by
  unfold initR
  rw [List.take_add_one, h, Option.toList_some, List.foldl_append]; rfl
theorem init_inv {n : Nat} : ∀ (ts : List SD) (o : List Int), SS o → (∀ y ∈ o, 0 ≤ y ∧ y < (n : Int)) → (∀ t ∈ ts, 0 ≤ t.1 ∧ t.1 < (n : Int)) → SS (ts.foldl (fun o t => makeI (o ++ [t.1])) o) ∧ ∀ y ∈ ts.foldl (fun o t => makeI (o ++ [t.1])) o, 0 ≤ y ∧ y < (n : Int)
  | [], o, hs, hb, _ => ⟨hs, hb⟩
  | t :: ts, o, hs, hb, ht => by
    obtain ⟨a1, a2, _⟩ := add_inv hs hb (ht t (by simp))
    exact init_inv ts _ a1 a2 fun u hu => ht u (by simp [hu])
theorem step_step {l : List Int} {L : List (dens [shS, shI])} {k : Nat} {d : dens [shS, shI]} (h : L[k]? = some d) : stepR l (L.take (k + 1)) = if d.2.1.1 = 21 ∧ hasI l d.1.1 = true then makeI (stepR l (L.take k) ++ [d.2.1.2.2.2.2.1]) else stepR l (L.take k) := by
  unfold stepR
  rw [List.take_add_one, h, Option.toList_some, List.foldl_append]; rfl
theorem step_inv {l : List Int} {n : Nat} : ∀ (ds : List (dens [shS, shI])) (o : List Int), SS o → (∀ y ∈ o, 0 ≤ y ∧ y < (n : Int)) → (∀ d ∈ ds, d.2.1.1 = 21 → 0 ≤ d.2.1.2.2.2.2.1 ∧ d.2.1.2.2.2.2.1 < (n : Int)) →
    SS (ds.foldl (fun nx d => if d.2.1.1 = 21 ∧ hasI l d.1.1 = true then makeI (nx ++ [d.2.1.2.2.2.2.1]) else nx) o) ∧ (∀ y ∈ ds.foldl (fun nx d => if d.2.1.1 = 21 ∧ hasI l d.1.1 = true then makeI (nx ++ [d.2.1.2.2.2.2.1]) else nx) o, 0 ≤ y ∧ y < (n : Int)) ∧
      o.length ≤ (ds.foldl (fun nx d => if d.2.1.1 = 21 ∧ hasI l d.1.1 = true then makeI (nx ++ [d.2.1.2.2.2.2.1]) else nx) o).length
  | [], o, hs, hb, _ => ⟨hs, hb, Nat.le_refl _⟩
  | d :: ds, o, hs, hb, hd => by
    simp only [List.foldl_cons]
    by_cases hc : d.2.1.1 = 21 ∧ hasI l d.1.1 = true
    · rw [if_pos hc]
      obtain ⟨a1, a2, a3⟩ := add_inv hs hb (hd d (by simp) hc.1)
      obtain ⟨b1, b2, b3⟩ := step_inv (l := l) ds _ a1 a2 fun e he => hd e (by simp [he])
      exact ⟨b1, b2, Nat.le_trans a3 b3⟩
    · rw [if_neg hc]
      exact step_inv (l := l) ds o hs hb fun e he => hd e (by simp [he])
theorem chk_zero {vs : List VD} {ms cs : List ByteArray} {fs : List FD} {ts : List SD} (h : (chkP vs ms cs fs ts).1 = 0) : coS vs ms cs fs = 0 ∧ (ccS vs ms cs fs).1 = 0 ∧ thS fs ts = 0 := by
  unfold chkP at h
  split at h
  · rename_i h1; exact absurd h h1
  · split at h
    · rename_i h1; exact absurd h h1
    · split at h
      · rename_i h1; exact absurd h h1
      · split at h
        · rename_i h1; exact absurd h h1
        · rename_i h1 h2 h3 h4
          exact ⟨by omega, by omega, by omega⟩
theorem cc_all {vs : List VD} {ms cs : List ByteArray} {fs : List FD} (h : (ccS vs ms cs fs).1 = 0) : ∀ d ∈ instL fs, ceI vs ms cs fs d = 0 := by
  unfold ccS at h
  split at h
  · rename_i d hd
    have hp := List.find?_some hd
    split at h
    · cases h
    · rename_i h1
      simp only [Bool.or_eq_true, decide_eq_true_eq] at hp
      rcases hp with hp | hp
      · exact absurd hp h1
      · exact absurd h hp
  · rename_i hd
    intro d hm
    have := List.find?_eq_none.1 hd d hm
    simp only [Bool.or_eq_true, decide_eq_true_eq, not_or] at this
    omega
theorem co_len {vs : List VD} {ms cs : List ByteArray} {fs : List FD} (h : coS vs ms cs fs = 0) : fs.length ≤ 8 := by
  unfold coS at h
  split at h
  · cases h
  · omega
theorem ci_obj {vs : List VD} {ms cs : List ByteArray} {fs : List FD} {e op obj n m : Int} (h : ciS vs ms cs fs e op obj n m = 0) (h2 : op = 21) : 0 ≤ obj ∧ obj < (fs.length : Int) := by
  subst h2
  unfold ciS at h
  have e' : objS vs ms cs fs 21 = fs.length := by simp [objS]
  rw [e'] at h
  split at h
  · rename_i h3; exact absurd h h3
  · split at h
    · cases h
    · rename_i h3 h4
      omega
theorem ce_obj {vs : List VD} {ms cs : List ByteArray} {fs : List FD} {d : dens [shS, shI]} (h : ceI vs ms cs fs d = 0) (h2 : d.2.1.1 = 21) : 0 ≤ d.2.1.2.2.2.2.1 ∧ d.2.1.2.2.2.2.1 < (fs.length : Int) := ci_obj h h2
theorem th_all {fs : List FD} {ts : List SD} (h : thS fs ts = 0) : ∀ t ∈ ts, 0 ≤ t.1 ∧ t.1 < (fs.length : Int) := by
  unfold thS at h
  split at h
  · cases h
  · split at h
    · rename_i t ht
      have hp := List.find?_some ht
      simp only [decide_eq_true_eq] at hp
      exact absurd h hp
    · rename_i ht
      intro t hm
      have := List.find?_eq_none.1 ht t hm
      simp only [decide_eq_true_eq, Decidable.not_not] at this
      unfold thE at this
      split at this
      · cases this
      · omega
@[reducible] def ctRch : CT := { ps := [shP], pre := fun d => bnd d, res := fun d => ([], .tup [.c (.sl (.int .i64) (reachS d.1.1 d.1.2.1 d.1.2.2.1 d.1.2.2.2.1 d.1.2.2.2.2.1).1), .c (.v (.int .i64 (reachS d.1.1 d.1.2.1 d.1.2.2.1 d.1.2.2.2.1 d.1.2.2.2.2.1).2))]) }
end Go.Proofs.YtklnffdjhoacoaaDoor
