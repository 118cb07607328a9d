/- Texts of this claim, part 5: V6, V7, V8, V9, K2, V10, K3, W1, W2, W3, W4. Conditions: those of the given rows. -/
import Derived.Test.YtklnffdjhoacoaaGreatDoorB4
set_option linter.unusedSimpArgs false
set_option linter.unusedVariables false
set_option maxRecDepth 100000
namespace Go.Proofs.YtklnffdjhoacoaaGreatDoor
open Go Go.Eng

@[reducible] def bnd (d : dens [shP]) : Prop := d.1.1.length ≤ 1000000 ∧ d.1.2.1.length ≤ 1000000 ∧ d.1.2.2.1.length ≤ 1000000 ∧ d.1.2.2.2.1.length ≤ 1000000 ∧ d.1.2.2.2.2.1.length ≤ 1000000 ∧ (∀ x ∈ d.1.2.2.2.1, x.2.1.length ≤ 1000000) ∧ (instL d.1.2.2.2.1).length ≤ 1000000
def chkP (vs : List VD) (ms cs : List ByteArray) (fs : List FD) (ts : List SD) : Int × Int × Int :=
  if (cnS vs ms cs fs).1 ≠ 0 then cnS vs ms cs fs else if coS vs ms cs fs ≠ 0 then (coS vs ms cs fs, -1, -1) else if (ccS vs ms cs fs).1 ≠ 0 then ccS vs ms cs fs else if thS fs ts ≠ 0 then (thS fs ts, -1, -1) else (0, -1, -1)
@[reducible] def ctChk : CT := { ps := [shP], pre := fun d => bnd d, res := fun d => ([], .tup [.c (.v (.int .i64 (chkP d.1.1 d.1.2.1 d.1.2.2.1 d.1.2.2.2.1 d.1.2.2.2.2.1).1)), .c (.v (.int .i64 (chkP d.1.1 d.1.2.1 d.1.2.2.1 d.1.2.2.2.1 d.1.2.2.2.2.1).2.1)), .c (.v (.int .i64 (chkP d.1.1 d.1.2.1 d.1.2.2.1 d.1.2.2.2.1 d.1.2.2.2.2.1).2.2))]) }
@[reducible] noncomputable def cl45 : List (Nat × CT) := [(65, ctCN), (66, ctCO), (67, ctCC), (68, ctCT)]
@[reducible] def ann45 (vs : List VD) (ms : List ByteArray) (cs : List ByteArray) (fs : List FD) (ts : List SD) : Nat → Option (St → Ann) := fun _ => none
set_option maxRecDepth 100000 in
theorem f45_vc (vs : List VD) (ms : List ByteArray) (cs : List ByteArray) (fs : List FD) (ts : List SD) (hpre : ctChk.pre ((vs, ms, cs, fs, ts, ()), ())) :
    (vs.length ≤ (1000000 : Nat) ∧ ms.length ≤ (1000000 : Nat) ∧ cs.length ≤ (1000000 : Nat) ∧ fs.length ≤ (1000000 : Nat)) ∧ br (decide ((cnS vs ms cs fs).fst = (0 : Int))) (True ∧ br (decide (coS vs ms cs fs = (0 : Int))) ((fs.length ≤ (1000000 : Nat) ∧ ∀ (x : Sh.str.den × (shI.sl.pair Sh.unit).den), x ∈ fs → List.length x.snd.fst ≤ (1000000 : Nat)) ∧ br (decide ((ccS vs ms cs fs).fst = (0 : Int))) (True ∧ br (!decide (thS fs ts = (0 : Int))) (([] : List Go.Eng.Res) = [] ∧ Ent.tup [SV.c (SC.v (Value.int IntKind.i64 (chkP vs ms cs fs ts).fst)), SV.c (SC.v (Value.int IntKind.i64 (chkP vs ms cs fs ts).snd.fst)), SV.c (SC.v (Value.int IntKind.i64 (chkP vs ms cs fs ts).snd.snd))] = Ent.tup [SV.c (SC.v (Value.int IntKind.i64 (thS fs ts))), SV.c (SC.v (Value.int IntKind.i64 (-1 : Int))), SV.c (SC.v (Value.int IntKind.i64 (-1 : Int)))]) (([] : List Go.Eng.Res) = [] ∧ Ent.tup [SV.c (SC.v (Value.int IntKind.i64 (chkP vs ms cs fs ts).fst)), SV.c (SC.v (Value.int IntKind.i64 (chkP vs ms cs fs ts).snd.fst)), SV.c (SC.v (Value.int IntKind.i64 (chkP vs ms cs fs ts).snd.snd))] = Ent.tup [SV.c (SC.v (Value.int IntKind.i64 (0 : Int))), SV.c (SC.v (Value.int IntKind.i64 (-1 : Int))), SV.c (SC.v (Value.int IntKind.i64 (-1 : Int)))])) (br (!decide ((ccS vs ms cs fs).fst = (0 : Int))) (([] : List Go.Eng.Res) = [] ∧ Ent.tup [SV.c (SC.v (Value.int IntKind.i64 (chkP vs ms cs fs ts).fst)), SV.c (SC.v (Value.int IntKind.i64 (chkP vs ms cs fs ts).snd.fst)), SV.c (SC.v (Value.int IntKind.i64 (chkP vs ms cs fs ts).snd.snd))] = Ent.tup [SV.c (SC.v (Value.int IntKind.i64 (ccS vs ms cs fs).fst)), SV.c (SC.v (Value.int IntKind.i64 (ccS vs ms cs fs).snd.fst)), SV.c (SC.v (Value.int IntKind.i64 (ccS vs ms cs fs).snd.snd))]) (([] : List Go.Eng.Res) = [] ∧ Ent.tup [SV.c (SC.v (Value.int IntKind.i64 (chkP vs ms cs fs ts).fst)), SV.c (SC.v (Value.int IntKind.i64 (chkP vs ms cs fs ts).snd.fst)), SV.c (SC.v (Value.int IntKind.i64 (chkP vs ms cs fs ts).snd.snd))] = Ent.tup [SV.c (SC.v (Value.int IntKind.i64 (0 : Int))), SV.c (SC.v (Value.int IntKind.i64 (-1 : Int))), SV.c (SC.v (Value.int IntKind.i64 (-1 : Int)))]))) (br (decide (coS vs ms cs fs = (0 : Int))) (True ∧ br (!decide (thS fs ts = (0 : Int))) (([] : List Go.Eng.Res) = [] ∧ Ent.tup [SV.c (SC.v (Value.int IntKind.i64 (chkP vs ms cs fs ts).fst)), SV.c (SC.v (Value.int IntKind.i64 (chkP vs ms cs fs ts).snd.fst)), SV.c (SC.v (Value.int IntKind.i64 (chkP vs ms cs fs ts).snd.snd))] = Ent.tup [SV.c (SC.v (Value.int IntKind.i64 (thS fs ts))), SV.c (SC.v (Value.int IntKind.i64 (-1 : Int))), SV.c (SC.v (Value.int IntKind.i64 (-1 : Int)))]) (([] : List Go.Eng.Res) = [] ∧ Ent.tup [SV.c (SC.v (Value.int IntKind.i64 (chkP vs ms cs fs ts).fst)), SV.c (SC.v (Value.int IntKind.i64 (chkP vs ms cs fs ts).snd.fst)), SV.c (SC.v (Value.int IntKind.i64 (chkP vs ms cs fs ts).snd.snd))] = Ent.tup [SV.c (SC.v (Value.int IntKind.i64 (0 : Int))), SV.c (SC.v (Value.int IntKind.i64 (-1 : Int))), SV.c (SC.v (Value.int IntKind.i64 (-1 : Int)))])) (br (!decide (coS vs ms cs fs = (0 : Int))) (([] : List Go.Eng.Res) = [] ∧ Ent.tup [SV.c (SC.v (Value.int IntKind.i64 (chkP vs ms cs fs ts).fst)), SV.c (SC.v (Value.int IntKind.i64 (chkP vs ms cs fs ts).snd.fst)), SV.c (SC.v (Value.int IntKind.i64 (chkP vs ms cs fs ts).snd.snd))] = Ent.tup [SV.c (SC.v (Value.int IntKind.i64 (coS vs ms cs fs))), SV.c (SC.v (Value.int IntKind.i64 (-1 : Int))), SV.c (SC.v (Value.int IntKind.i64 (-1 : Int)))]) (([] : List Go.Eng.Res) = [] ∧ Ent.tup [SV.c (SC.v (Value.int IntKind.i64 (chkP vs ms cs fs ts).fst)), SV.c (SC.v (Value.int IntKind.i64 (chkP vs ms cs fs ts).snd.fst)), SV.c (SC.v (Value.int IntKind.i64 (chkP vs ms cs fs ts).snd.snd))] = Ent.tup [SV.c (SC.v (Value.int IntKind.i64 (0 : Int))), SV.c (SC.v (Value.int IntKind.i64 (-1 : Int))), SV.c (SC.v (Value.int IntKind.i64 (-1 : Int)))])))) (br (decide ((cnS vs ms cs fs).fst = (0 : Int))) ((fs.length ≤ (1000000 : Nat) ∧ ∀ (x : Sh.str.den × (shI.sl.pair Sh.unit).den), x ∈ fs → List.length x.snd.fst ≤ (1000000 : Nat)) ∧ br (decide ((ccS vs ms cs fs).fst = (0 : Int))) (True ∧ br (!decide (thS fs ts = (0 : Int))) (([] : List Go.Eng.Res) = [] ∧ Ent.tup [SV.c (SC.v (Value.int IntKind.i64 (chkP vs ms cs fs ts).fst)), SV.c (SC.v (Value.int IntKind.i64 (chkP vs ms cs fs ts).snd.fst)), SV.c (SC.v (Value.int IntKind.i64 (chkP vs ms cs fs ts).snd.snd))] = Ent.tup [SV.c (SC.v (Value.int IntKind.i64 (thS fs ts))), SV.c (SC.v (Value.int IntKind.i64 (-1 : Int))), SV.c (SC.v (Value.int IntKind.i64 (-1 : Int)))]) (([] : List Go.Eng.Res) = [] ∧ Ent.tup [SV.c (SC.v (Value.int IntKind.i64 (chkP vs ms cs fs ts).fst)), SV.c (SC.v (Value.int IntKind.i64 (chkP vs ms cs fs ts).snd.fst)), SV.c (SC.v (Value.int IntKind.i64 (chkP vs ms cs fs ts).snd.snd))] = Ent.tup [SV.c (SC.v (Value.int IntKind.i64 (0 : Int))), SV.c (SC.v (Value.int IntKind.i64 (-1 : Int))), SV.c (SC.v (Value.int IntKind.i64 (-1 : Int)))])) (br (!decide ((ccS vs ms cs fs).fst = (0 : Int))) (([] : List Go.Eng.Res) = [] ∧ Ent.tup [SV.c (SC.v (Value.int IntKind.i64 (chkP vs ms cs fs ts).fst)), SV.c (SC.v (Value.int IntKind.i64 (chkP vs ms cs fs ts).snd.fst)), SV.c (SC.v (Value.int IntKind.i64 (chkP vs ms cs fs ts).snd.snd))] = Ent.tup [SV.c (SC.v (Value.int IntKind.i64 (ccS vs ms cs fs).fst)), SV.c (SC.v (Value.int IntKind.i64 (ccS vs ms cs fs).snd.fst)), SV.c (SC.v (Value.int IntKind.i64 (ccS vs ms cs fs).snd.snd))]) (([] : List Go.Eng.Res) = [] ∧ Ent.tup [SV.c (SC.v (Value.int IntKind.i64 (chkP vs ms cs fs ts).fst)), SV.c (SC.v (Value.int IntKind.i64 (chkP vs ms cs fs ts).snd.fst)), SV.c (SC.v (Value.int IntKind.i64 (chkP vs ms cs fs ts).snd.snd))] = Ent.tup [SV.c (SC.v (Value.int IntKind.i64 (0 : Int))), SV.c (SC.v (Value.int IntKind.i64 (-1 : Int))), SV.c (SC.v (Value.int IntKind.i64 (-1 : Int)))]))) (br (decide ((cnS vs ms cs fs).fst = (0 : Int))) (True ∧ br (!decide (thS fs ts = (0 : Int))) (([] : List Go.Eng.Res) = [] ∧ Ent.tup [SV.c (SC.v (Value.int IntKind.i64 (chkP vs ms cs fs ts).fst)), SV.c (SC.v (Value.int IntKind.i64 (chkP vs ms cs fs ts).snd.fst)), SV.c (SC.v (Value.int IntKind.i64 (chkP vs ms cs fs ts).snd.snd))] = Ent.tup [SV.c (SC.v (Value.int IntKind.i64 (thS fs ts))), SV.c (SC.v (Value.int IntKind.i64 (-1 : Int))), SV.c (SC.v (Value.int IntKind.i64 (-1 : Int)))]) (([] : List Go.Eng.Res) = [] ∧ Ent.tup [SV.c (SC.v (Value.int IntKind.i64 (chkP vs ms cs fs ts).fst)), SV.c (SC.v (Value.int IntKind.i64 (chkP vs ms cs fs ts).snd.fst)), SV.c (SC.v (Value.int IntKind.i64 (chkP vs ms cs fs ts).snd.snd))] = Ent.tup [SV.c (SC.v (Value.int IntKind.i64 (0 : Int))), SV.c (SC.v (Value.int IntKind.i64 (-1 : Int))), SV.c (SC.v (Value.int IntKind.i64 (-1 : Int)))])) (br (!decide ((cnS vs ms cs fs).fst = (0 : Int))) (([] : List Go.Eng.Res) = [] ∧ Ent.tup [SV.c (SC.v (Value.int IntKind.i64 (chkP vs ms cs fs ts).fst)), SV.c (SC.v (Value.int IntKind.i64 (chkP vs ms cs fs ts).snd.fst)), SV.c (SC.v (Value.int IntKind.i64 (chkP vs ms cs fs ts).snd.snd))] = Ent.tup [SV.c (SC.v (Value.int IntKind.i64 (cnS vs ms cs fs).fst)), SV.c (SC.v (Value.int IntKind.i64 (cnS vs ms cs fs).snd.fst)), SV.c (SC.v (Value.int IntKind.i64 (cnS vs ms cs fs).snd.snd))]) (([] : List Go.Eng.Res) = [] ∧ Ent.tup [SV.c (SC.v (Value.int IntKind.i64 (chkP vs ms cs fs ts).fst)), SV.c (SC.v (Value.int IntKind.i64 (chkP vs ms cs fs ts).snd.fst)), SV.c (SC.v (Value.int IntKind.i64 (chkP vs ms cs fs ts).snd.snd))] = Ent.tup [SV.c (SC.v (Value.int IntKind.i64 (0 : Int))), SV.c (SC.v (Value.int IntKind.i64 (-1 : Int))), SV.c (SC.v (Value.int IntKind.i64 (-1 : Int)))])))) := by
  obtain ⟨h1, h2, h3, h4, h5, h6, h7⟩ : bnd ((vs, ms, cs, fs, ts, ()), ()) := hpre
  have hA : ∀ x ∈ fs, x.2.1.length ≤ 1000000 := h6
  have hB : fs.length ≤ 1000000 ∧ ∀ x ∈ fs, x.2.1.length ≤ 1000000 := ⟨h4, h6⟩
  have hC : vs.length ≤ 1000000 ∧ ms.length ≤ 1000000 ∧ cs.length ≤ 1000000 ∧ fs.length ≤ 1000000 := ⟨h1, h2, h3, h4⟩
  clear h1 h2 h3 h4 h5 h6 h7 hA
  unfold chkP
  simp only [br_iff]
  repeat' (first | exact hB | exact hC | (refine And.intro ?_ ?_) | (intro _))
  all_goals first | trivial | rfl | (clear hB hC; simp_all; done)
set_option maxHeartbeats 2000000 in
set_option maxRecDepth 100000 in
theorem f45_met : Go.Eng.Met Tryz.prog cx0.gd 45 ctChk :=
  met_of (cx := cx0) (n := 40) (cl := cl45) (by kernel_rfl) tis_ok ⟨f65_met, f66_met, f67_met, f68_met, trivial⟩ Tryz.func45 (by kernel_rfl) (by kernel_rfl) rfl (by kernel_rfl) (by kernel_rfl) fun d hd => by
    obtain ⟨⟨vs, ms, cs, fs, ts, ⟨⟩⟩, ⟨⟩⟩ := d
    exact ⟨ann45 vs ms cs fs ts, cast (by kernel_rfl) (f45_vc vs ms cs fs ts hd)⟩
@[reducible] def ctVld : CT := { ps := [shP], pre := fun d => bnd d, res := fun d => ([], vB (decide ((chkP d.1.1 d.1.2.1 d.1.2.2.1 d.1.2.2.2.1 d.1.2.2.2.2.1).1 = 0))) }
theorem ss_sub : ∀ {m x : List Int}, SS m → SS x → (∀ y ∈ x, y ∈ m) → x.Sublist m
  | [], [], _, _, _ => .slnil
  | [], y :: x, _, _, h => by have := h y (by simp); simp at this
  | b :: m, [], _, _, _ => List.nil_sublist _
  | b :: m, a :: x, hm, hx, h => by
    obtain ⟨m1, m2⟩ := List.pairwise_cons.1 hm
    obtain ⟨x1, x2⟩ := List.pairwise_cons.1 hx
    rcases List.mem_cons.1 (h a (by simp)) with rfl | ha
    · refine List.cons_sublist_cons.2 (ss_sub m2 x2 fun y hy => ?_)
      rcases List.mem_cons.1 (h y (by simp [hy])) with rfl | h2
      · have := x1 _ hy; omega
      · exact h2
    · refine List.Sublist.cons _ (ss_sub m2 hx fun y hy => ?_)
      rcases List.mem_cons.1 (h y hy) with rfl | h2
      · have := m1 a ha
        rcases List.mem_cons.1 hy with rfl | hy
        · omega
        · have := x1 _ hy; omega
      · exact h2
theorem ss_len {hi : Int} : ∀ (l : List Int) (lo : Int), SS l → (∀ x ∈ l, lo ≤ x ∧ x < hi) → lo ≤ hi → (l.length : Int) ≤ hi - lo
  | [], lo, _, _, h => by simp; omega
  | x :: l, lo, hs, hb, h => by
    obtain ⟨h1, h2⟩ := List.pairwise_cons.1 hs
    obtain ⟨b1, b2⟩ := hb x (by simp)
    have := ss_len l (x + 1) h2 (fun y hy => ⟨by have := h1 y hy; omega, (hb y (by simp [hy])).2⟩) (by omega)
    simp only [List.length_cons]; omega
theorem ss_short {l : List Int} {n : Nat} (hs : SS l) (hb : ∀ x ∈ l, 0 ≤ x ∧ x < (n : Int)) : l.length ≤ n := by
  have := ss_len l 0 hs hb (by omega)
  omega
theorem add_inv {l : List Int} {x : Int} {n : Nat} (hs : SS l) (hb : ∀ y ∈ l, 0 ≤ y ∧ y < (n : Int)) (hx : 0 ≤ x ∧ x < (n : Int)) : SS (makeI (l ++ [x])) ∧ (∀ y ∈ makeI (l ++ [x]), 0 ≤ y ∧ y < (n : Int)) ∧ l.length ≤ (makeI (l ++ [x])).length := by
  refine ⟨make_ss _, fun y hy => ?_, (ss_sub (make_ss _) hs fun y hy => make_mem.2 (by simp [hy])).length_le⟩
  have := make_mem.1 hy
  simp at this
  rcases this with h | h
  · exact hb y h
  · subst h; exact hx
/-- A result's row, frozen. -/
theorem met_frz {P : Program} {gd : Nat → Option (Sigma Sh.den)} {f : Nat} {ps : List Sh} {pre : dens ps → Prop} {t : TypeId} {s : Sh} {L : dens ps → List s.den} (m : Go.Eng.Met P gd f { ps := ps, pre := pre, res := fun d => ([.row t s (L d)], .one (.c (.row 0))) }) :
    Go.Eng.Met P gd f { ps := ps, pre := pre, res := fun d => ([], .one (.c (.sl s (L d)))) } := by
  refine ⟨fun d vs h B hw hg ha hp => (m.1 d vs h B hw hg ha hp).mono ?_, m.2⟩
  rintro en w' ⟨h', β, y, rfl, ok, c⟩
  obtain ⟨h2, le, ok2, sl⟩ := ok.freeze (i := 0) rfl c.1
  exact ⟨h2, [], y, rfl, by simpa using ok2.take (n := 0) (Nat.zero_le _) (fun r hr => by simp at hr), ⟨sl, c.2⟩⟩
@[reducible] def ctAddF : CT := { ps := [.sl (.int .i64), .int .i64], pre := fun d => d.1.length ≤ 999999, res := fun d => ([], .one (.c (.sl (.int .i64) (makeI (d.1 ++ [d.2.1]))))) }
theorem fAddF_met : Go.Eng.Met Tryz.prog cx0.gd 35 ctAddF := met_frz f35_met
def initR (ts : List SD) : List Int := ts.foldl (fun o t => makeI (o ++ [t.1])) []
def stepR (found : List Int) (ds : List (dens [shS, shI])) : List Int := ds.foldl (fun nx d => if d.2.1.1 = 21 ∧ hasI found d.1.1 = true then makeI (nx ++ [d.2.1.2.2.2.2.1]) else nx) found
def reachF : Nat → List FD → List Int → List Int
  | 0, _, l => l
  | n + 1, fs, l => if (stepR l (instL fs)).length = l.length then l else reachF n fs (stepR l (instL fs))
def reachS (vs : List VD) (ms cs : List ByteArray) (fs : List FD) (ts : List SD) : List Int × Int := if (chkP vs ms cs fs ts).1 ≠ 0 then ([], (chkP vs ms cs fs ts).1) else (reachF (fs.length + 1) fs (initR ts), 0)
theorem init_step {ts : List SD} {k : Nat} {d : SD} (h : ts[k]? = some d) : initR (ts.take (k + 1)) = makeI (initR (ts.take k) ++ [d.1]) := by
  unfold initR
  rw [List.take_add_one, h, Option.toList_some, List.foldl_append]; rfl
theorem init_inv {n : Nat} : ∀ (ts : List SD) (o : List Int), SS o → (∀ y ∈ o, 0 ≤ y ∧ y < (n : Int)) → (∀ t ∈ ts, 0 ≤ t.1 ∧ t.1 < (n : Int)) → SS (ts.foldl (fun o t => makeI (o ++ [t.1])) o) ∧ ∀ y ∈ ts.foldl (fun o t => makeI (o ++ [t.1])) o, 0 ≤ y ∧ y < (n : Int)
  | [], o, hs, hb, _ => ⟨hs, hb⟩
  | t :: ts, o, hs, hb, ht => by
    obtain ⟨a1, a2, _⟩ := add_inv hs hb (ht t (by simp))
    exact init_inv ts _ a1 a2 fun u hu => ht u (by simp [hu])
theorem step_step {l : List Int} {L : List (dens [shS, shI])} {k : Nat} {d : dens [shS, shI]} (h : L[k]? = some d) : stepR l (L.take (k + 1)) = if d.2.1.1 = 21 ∧ hasI l d.1.1 = true then makeI (stepR l (L.take k) ++ [d.2.1.2.2.2.2.1]) else stepR l (L.take k) := by
  unfold stepR
  rw [List.take_add_one, h, Option.toList_some, List.foldl_append]; rfl
theorem step_inv {l : List Int} {n : Nat} : ∀ (ds : List (dens [shS, shI])) (o : List Int), SS o → (∀ y ∈ o, 0 ≤ y ∧ y < (n : Int)) → (∀ d ∈ ds, d.2.1.1 = 21 → 0 ≤ d.2.1.2.2.2.2.1 ∧ d.2.1.2.2.2.2.1 < (n : Int)) →
    SS (ds.foldl (fun nx d => if d.2.1.1 = 21 ∧ hasI l d.1.1 = true then makeI (nx ++ [d.2.1.2.2.2.2.1]) else nx) o) ∧ (∀ y ∈ ds.foldl (fun nx d => if d.2.1.1 = 21 ∧ hasI l d.1.1 = true then makeI (nx ++ [d.2.1.2.2.2.2.1]) else nx) o, 0 ≤ y ∧ y < (n : Int)) ∧
      o.length ≤ (ds.foldl (fun nx d => if d.2.1.1 = 21 ∧ hasI l d.1.1 = true then makeI (nx ++ [d.2.1.2.2.2.2.1]) else nx) o).length
  | [], o, hs, hb, _ => ⟨hs, hb, Nat.le_refl _⟩
  | d :: ds, o, hs, hb, hd => by
    simp only [List.foldl_cons]
    by_cases hc : d.2.1.1 = 21 ∧ hasI l d.1.1 = true
    · rw [if_pos hc]
      obtain ⟨a1, a2, a3⟩ := add_inv hs hb (hd d (by simp) hc.1)
      obtain ⟨b1, b2, b3⟩ := step_inv (l := l) ds _ a1 a2 fun e he => hd e (by simp [he])
      exact ⟨b1, b2, Nat.le_trans a3 b3⟩
    · rw [if_neg hc]
      exact step_inv (l := l) ds o hs hb fun e he => hd e (by simp [he])
theorem chk_zero {vs : List VD} {ms cs : List ByteArray} {fs : List FD} {ts : List SD} (h : (chkP vs ms cs fs ts).1 = 0) : coS vs ms cs fs = 0 ∧ (ccS vs ms cs fs).1 = 0 ∧ thS fs ts = 0 := by
  unfold chkP at h
  split at h
  · rename_i h1; exact absurd h h1
  · split at h
    · rename_i h1; exact absurd h h1
    · split at h
      · rename_i h1; exact absurd h h1
      · split at h
        · rename_i h1; exact absurd h h1
        · rename_i h1 h2 h3 h4
          exact ⟨by omega, by omega, by omega⟩
theorem cc_all {vs : List VD} {ms cs : List ByteArray} {fs : List FD} (h : (ccS vs ms cs fs).1 = 0) : ∀ d ∈ instL fs, ceI vs ms cs fs d = 0 := by
  unfold ccS at h
  split at h
  · rename_i d hd
    have hp := List.find?_some hd
    split at h
    · cases h
    · rename_i h1
      simp only [Bool.or_eq_true, decide_eq_true_eq] at hp
      rcases hp with hp | hp
      · exact absurd hp h1
      · exact absurd h hp
  · rename_i hd
    intro d hm
    have := List.find?_eq_none.1 hd d hm
    simp only [Bool.or_eq_true, decide_eq_true_eq, not_or] at this
    omega
theorem co_len {vs : List VD} {ms cs : List ByteArray} {fs : List FD} (h : coS vs ms cs fs = 0) : fs.length ≤ 8 := by
  unfold coS at h
  split at h
  · cases h
  · omega
theorem ci_obj {vs : List VD} {ms cs : List ByteArray} {fs : List FD} {e op obj n m : Int} (h : ciS vs ms cs fs e op obj n m = 0) (h2 : op = 21) : 0 ≤ obj ∧ obj < (fs.length : Int) := by
  subst h2
  unfold ciS at h
  have e' : objS vs ms cs fs 21 = fs.length := by simp [objS]
  rw [e'] at h
  split at h
  · rename_i h3; exact absurd h h3
  · split at h
    · cases h
    · rename_i h3 h4
      omega
theorem ce_obj {vs : List VD} {ms cs : List ByteArray} {fs : List FD} {d : dens [shS, shI]} (h : ceI vs ms cs fs d = 0) (h2 : d.2.1.1 = 21) : 0 ≤ d.2.1.2.2.2.2.1 ∧ d.2.1.2.2.2.2.1 < (fs.length : Int) := ci_obj h h2
theorem th_all {fs : List FD} {ts : List SD} (h : thS fs ts = 0) : ∀ t ∈ ts, 0 ≤ t.1 ∧ t.1 < (fs.length : Int) := by
  unfold thS at h
  split at h
  · cases h
  · split at h
    · rename_i t ht
      have hp := List.find?_some ht
      simp only [decide_eq_true_eq] at hp
      exact absurd h hp
    · rename_i ht
      intro t hm
      have := List.find?_eq_none.1 ht t hm
      simp only [decide_eq_true_eq, Decidable.not_not] at this
      unfold thE at this
      split at this
      · cases this
      · omega
@[reducible] def ctRch : CT := { ps := [shP], pre := fun d => bnd d, res := fun d => ([], .tup [.c (.sl (.int .i64) (reachS d.1.1 d.1.2.1 d.1.2.2.1 d.1.2.2.2.1 d.1.2.2.2.2.1).1), .c (.v (.int .i64 (reachS d.1.1 d.1.2.1 d.1.2.2.1 d.1.2.2.2.1 d.1.2.2.2.2.1).2))]) }
end Go.Proofs.YtklnffdjhoacoaaGreatDoor
namespace Go.Proofs.YtklnffdjhoacoaaGreatDoor
open Go Go.Eng
theorem ex_of {α : Type 1} {Q : α → Prop} {V : Prop} (a : α) (v : V) (h : V = Q a) : ∃ a, Q a := ⟨a, cast h v⟩
end Go.Proofs.YtklnffdjhoacoaaGreatDoor
set_option linter.unusedSimpArgs false
set_option linter.unusedVariables false
set_option maxRecDepth 100000
namespace Go.Proofs.YtklnffdjhoacoaaGreatDoor
open Go Go.Eng

def smS (vs : List VD) (ms cs : List ByteArray) (fs : List FD) (ts : List SD) : Bool := decide (vs.length ≤ 20 ∧ ms.length ≤ 20 ∧ cs.length ≤ 20 ∧ fs.length ≤ 20 ∧ ts.length ≤ 20) && fs.all fun f => decide (f.2.1.length ≤ 100)
@[reducible] def ctSm : CT := { ps := [shP], pre := fun d => True, res := fun d => ([], vB (smS d.1.1 d.1.2.1 d.1.2.2.1 d.1.2.2.2.1 d.1.2.2.2.2.1)) }
@[reducible] def cl7 : List (Nat × CT) := []
@[reducible] def ann7 (vs : List VD) (ms : List ByteArray) (cs : List ByteArray) (fs : List FD) (ts : List SD) : Nat → Option (St → Ann) := fun k => match k with
  | 4 => some fun _ => .inv { α := Nat, slots := fun k => [(3, .c (.v (.int .i64 k)))], res := fun k => [], inv := fun k => k ≤ (fs).length ∧ ∀ j < k, ∀ f, fs[j]? = some f → f.2.1.length ≤ 100, meas := fun k => (fs).length - k }
  | _ => none
set_option maxRecDepth 100000 in
theorem f7_vc (vs : List VD) (ms : List ByteArray) (cs : List ByteArray) (fs : List FD) (ts : List SD) :
    br (decide ((20 : Int) < (↑vs.length : Int)) || decide ((20 : Int) < (↑ms.length : Int)) || decide ((20 : Int) < (↑cs.length : Int)) || decide ((20 : Int) < (↑fs.length : Int)) || decide ((20 : Int) < (↑ts.length : Int))) (([] : List Go.Eng.Res) = [] ∧ Ent.one (SV.c (SC.v (Value.bool (smS vs ms cs fs ts)))) = Ent.one (SV.c (SC.v (Value.bool false)))) ((∃ x, (x ≤ fs.length ∧ ∀ (j : Nat), j < x → ∀ (f : ByteArray × List ID × Unit), fs[j]? = some f → f.snd.fst.length ≤ (100 : Nat)) ∧ (SV.c (SC.v (Value.int IntKind.i64 (0 : Int))) = SV.c (SC.v (Value.int IntKind.i64 (↑x : Int))) ∧ True) ∧ [(([] : Go.Eng.Gd), Res.blk (27 : Nat) [SC.sl (Sh.str.pair (I6.pair Sh.unit)) vs, SC.sl Sh.str ms, SC.sl Sh.str cs, SC.sl (Sh.str.pair (shI.sl.pair Sh.unit)) fs, SC.sl (I6.pair (I6.pair Sh.unit)) ts])] = [(([] : Go.Eng.Gd), Res.blk (27 : Nat) [SC.sl (Sh.str.pair (I6.pair Sh.unit)) vs, SC.sl Sh.str ms, SC.sl Sh.str cs, SC.sl (Sh.str.pair (shI.sl.pair Sh.unit)) fs, SC.sl (I6.pair (I6.pair Sh.unit)) ts])]) ∧ ∀ (x : Nat), (x ≤ fs.length ∧ ∀ (j : Nat), j < x → ∀ (f : ByteArray × List ID × Unit), fs[j]? = some f → f.snd.fst.length ≤ (100 : Nat)) → br (decide ((↑x : Int) < (↑fs.length : Int))) (((0 : Int) ≤ (↑x : Int) ∧ (↑x : Int) < (↑fs.length : Int)) ∧ ∀ (d : Sh.str.den × (shI.sl.pair Sh.unit).den), fs[(↑x : Int).toNat]? = some d → br (decide ((100 : Int) < (↑(List.length d.snd.fst) : Int))) (([] : List Go.Eng.Res) = [] ∧ Ent.one (SV.c (SC.v (Value.bool (smS vs ms cs fs ts)))) = Ent.one (SV.c (SC.v (Value.bool false)))) (InR IntKind.i64 ((↑x : Int) + (1 : Int)) ∧ ∃ x', (x' ≤ fs.length ∧ ∀ (j : Nat), j < x' → ∀ (f : ByteArray × List ID × Unit), fs[j]? = some f → f.snd.fst.length ≤ (100 : Nat)) ∧ (SV.c (SC.v (Value.int IntKind.i64 ((↑x : Int) + (1 : Int)))) = SV.c (SC.v (Value.int IntKind.i64 (↑x' : Int))) ∧ True) ∧ [(([] : Go.Eng.Gd), Res.blk (27 : Nat) [SC.sl (Sh.str.pair (I6.pair Sh.unit)) vs, SC.sl Sh.str ms, SC.sl Sh.str cs, SC.sl (Sh.str.pair (shI.sl.pair Sh.unit)) fs, SC.sl (I6.pair (I6.pair Sh.unit)) ts])] = [(([] : Go.Eng.Gd), Res.blk (27 : Nat) [SC.sl (Sh.str.pair (I6.pair Sh.unit)) vs, SC.sl Sh.str ms, SC.sl Sh.str cs, SC.sl (Sh.str.pair (shI.sl.pair Sh.unit)) fs, SC.sl (I6.pair (I6.pair Sh.unit)) ts])] ∧ fs.length - x' < fs.length - x)) (([] : List Go.Eng.Res) = [] ∧ Ent.one (SV.c (SC.v (Value.bool (smS vs ms cs fs ts)))) = Ent.one (SV.c (SC.v (Value.bool true))))) := by
  by_cases hc : ¬ (vs.length ≤ 20 ∧ ms.length ≤ 20 ∧ cs.length ≤ 20 ∧ fs.length ≤ 20 ∧ ts.length ≤ 20)
  · have e : smS vs ms cs fs ts = false := by unfold smS; rw [decide_eq_false hc]; rfl
    rw [e]
    refine br_iff.2 ⟨fun _ => ⟨rfl, rfl⟩, fun h => ?_⟩
    simp only [Bool.or_eq_false_iff, decide_eq_false_iff_not] at h
    omega
  have hc := Classical.not_not.1 hc
  refine br_iff.2 ⟨fun h => ?_, fun _ => ?_⟩
  · simp only [Bool.or_eq_true, decide_eq_true_eq] at h
    omega
  refine ⟨⟨0, ⟨by omega, fun j hj => by omega⟩, ⟨rfl, trivial⟩, rfl⟩, fun k hk => br_iff.2 ⟨fun h => ?_, fun h => ?_⟩⟩
  · simp only [decide_eq_true_eq] at h
    have hN : (↑k : Int).toNat = k := by omega
    rw [hN]
    refine ⟨by omega, fun d hd => br_iff.2 ⟨fun h2 => ⟨rfl, ?_⟩, fun h2 => ⟨InR_i64.2 (by omega), k + 1, ⟨by omega, fun j hj f hf => ?_⟩, ⟨rfl, trivial⟩, rfl, by omega⟩⟩⟩
    · have h2 : ¬ d.2.1.length ≤ 100 := by simp only [decide_eq_true_eq] at h2; omega
      have e : smS vs ms cs fs ts = false := by
        unfold smS
        rw [show (fs.all fun f => decide (f.2.1.length ≤ 100)) = false from List.all_eq_false.2 ⟨d, List.mem_of_getElem? hd, by simpa using h2⟩, Bool.and_false]
      rw [e]
    · by_cases hjk : j = k
      · subst hjk
        rw [hd] at hf; cases hf
        simp only [decide_eq_false_iff_not] at h2; omega
      · exact hk.2 j (by omega) f hf
  · simp only [decide_eq_false_iff_not] at h
    have e : smS vs ms cs fs ts = true := by
      unfold smS
      rw [decide_eq_true hc, Bool.true_and, List.all_eq_true]
      intro f hf
      obtain ⟨j, hj⟩ := List.getElem?_of_mem hf
      simpa using hk.2 j (by have := (List.getElem?_eq_some_iff.1 hj).1; omega) f hj
    rw [e]; exact ⟨rfl, rfl⟩
set_option maxHeartbeats 2000000 in
set_option maxRecDepth 100000 in
theorem f7_met : Go.Eng.Met Tryz.prog cx0.gd 7 ctSm :=
  met_of (cx := cx0) (n := 47) (cl := cl7) (by kernel_rfl) tis_ok trivial Tryz.func7 (by kernel_rfl) (by kernel_rfl) rfl (by kernel_rfl) (by kernel_rfl) fun d hd => by
    obtain ⟨⟨vs, ms, cs, fs, ts, ⟨⟩⟩, ⟨⟩⟩ := d
    exact ex_of (ann7 vs ms cs fs ts) (f7_vc vs ms cs fs ts) (by kernel_rfl)
def spwS (l : List ID) (g : Int) : Bool := l.any fun i => decide (i.1 = 21 ∧ i.2.2.2.2.1 = g)
@[reducible] def ctSpw : CT := { ps := [shF, .int .i64], pre := fun d => d.1.2.1.length ≤ 1000000, res := fun d => ([], vB (spwS d.1.2.1 d.2.1)) }
@[reducible] def ctHasL : CT := { ps := [.sl (.int .i64), .int .i64], pre := fun d => d.1.length ≤ 1000000, res := fun d => ([], vB (hasI d.1 d.2.1)) }
def fnS (fs : List FD) (s : ByteArray) : Int × Bool := match fs.findIdx? (fun f => decide (f.1 = s)) with | some k => ((k : Int), true) | none => (0, false)
theorem fn_found {fs : List FD} {s : ByteArray} {k : Nat} {d : FD} (hd : fs[k]? = some d) (h2 : d.1 = s) (hn : ∀ j < k, ∀ f, fs[j]? = some f → ¬ f.1 = s) : fnS fs s = ((k : Int), true) := by
  have hlt : k < fs.length := (List.getElem?_eq_some_iff.1 hd).1
  have : fs.findIdx? (fun f => decide (f.1 = s)) = some k := by
    rw [List.findIdx?_eq_some_iff_getElem]
    refine ⟨hlt, by rw [(List.getElem?_eq_some_iff.1 hd).2]; simpa using h2, fun j hj => ?_⟩
    have := hn j hj fs[j] (List.getElem?_eq_getElem (by omega))
    simpa using this
  simp [fnS, this]
theorem fn_none {fs : List FD} {s : ByteArray} (hn : ∀ (j : Nat) f, fs[j]? = some f → ¬ f.1 = s) : fnS fs s = (0, false) := by
  have : fs.findIdx? (fun f => decide (f.1 = s)) = none := by
    rw [List.findIdx?_eq_none_iff]
    intro y hy
    obtain ⟨j, hj⟩ := List.getElem?_of_mem hy
    simpa using hn j y hj
  simp [fnS, this]
@[reducible] def ctrFn : CT := { ps := [shP, .str], pre := fun d => d.1.2.2.2.1.length ≤ 1000000, res := fun d => ([], .tup [.c (.v (.int .i64 (fnS d.1.2.2.2.1 d.2.1).1)), .c (.v (.bool (fnS d.1.2.2.2.1 d.2.1).2))]) }
@[reducible] def ctrTh : CT := { ps := [shP], pre := fun d => True, res := fun d => ([], .one (.c (.v (.int .i64 (thS d.1.2.2.2.1 d.1.2.2.2.2.1))))) }
@[reducible] def cl74 : List (Nat × CT) := [(72, ctrVal)]
@[reducible] def ann74 (vs : List VD) (ms : List ByteArray) (cs : List ByteArray) (fs : List FD) (ts : List SD) : Nat → Option (St → Ann) := fun k => match k with
  | 4 => some fun _ => .inv { α := Nat, slots := fun k => [(3, .c (.v (.int .i64 k)))], res := fun k => [], inv := fun k => k ≤ (ts).length ∧ ∀ j < k, ∀ t, ts[j]? = some t → thE fs.length t = 0, meas := fun k => (ts).length - k }
  | _ => none
set_option maxRecDepth 100000 in
theorem f74_vc (vs : List VD) (ms : List ByteArray) (cs : List ByteArray) (fs : List FD) (ts : List SD) :
    br (decide ((↑ts.length : Int) < (1 : Int)) || decide ((8 : Int) < (↑ts.length : Int))) (([] : List Go.Eng.Res) = [] ∧ Ent.one (SV.c (SC.v (Value.int IntKind.i64 (thS fs ts)))) = Ent.one (SV.c (SC.v (Value.int IntKind.i64 (4 : Int))))) ((∃ x, (x ≤ ts.length ∧ ∀ (j : Nat), j < x → ∀ (t : Int × Int × Unit), ts[j]? = some t → thE fs.length t = (0 : Int)) ∧ (SV.c (SC.v (Value.int IntKind.i64 (0 : Int))) = SV.c (SC.v (Value.int IntKind.i64 (↑x : Int))) ∧ True) ∧ [(([] : Go.Eng.Gd), Res.blk (27 : Nat) [SC.sl (Sh.str.pair (I6.pair Sh.unit)) vs, SC.sl Sh.str ms, SC.sl Sh.str cs, SC.sl (Sh.str.pair (shI.sl.pair Sh.unit)) fs, SC.sl (I6.pair (I6.pair Sh.unit)) ts])] = [(([] : Go.Eng.Gd), Res.blk (27 : Nat) [SC.sl (Sh.str.pair (I6.pair Sh.unit)) vs, SC.sl Sh.str ms, SC.sl Sh.str cs, SC.sl (Sh.str.pair (shI.sl.pair Sh.unit)) fs, SC.sl (I6.pair (I6.pair Sh.unit)) ts])]) ∧ ∀ (x : Nat), (x ≤ ts.length ∧ ∀ (j : Nat), j < x → ∀ (t : Int × Int × Unit), ts[j]? = some t → thE fs.length t = (0 : Int)) → br (decide ((↑x : Int) < (↑ts.length : Int))) (((0 : Int) ≤ (↑x : Int) ∧ (↑x : Int) < (↑ts.length : Int)) ∧ ∀ (d : I6.den × (I6.pair Sh.unit).den), ts[(↑x : Int).toNat]? = some d → ((!decide (d.fst < (0 : Int))) = true → (0 : Int) ≤ (↑x : Int) ∧ (↑x : Int) < (↑ts.length : Int)) ∧ ∀ (d_1 : I6.den × (I6.pair Sh.unit).den), ((!decide (d.fst < (0 : Int))) = true → ts[(↑x : Int).toNat]? = some d_1) → br (decide (d.fst < (0 : Int)) || decide ((↑fs.length : Int) ≤ d_1.fst)) (([] : List Go.Eng.Res) = [] ∧ Ent.one (SV.c (SC.v (Value.int IntKind.i64 (thS fs ts)))) = Ent.one (SV.c (SC.v (Value.int IntKind.i64 (11 : Int))))) (((0 : Int) ≤ (↑x : Int) ∧ (↑x : Int) < (↑ts.length : Int)) ∧ ∀ (d : I6.den × (I6.pair Sh.unit).den), ts[(↑x : Int).toNat]? = some d → True ∧ br (!valS (d.snd.fst, ()).fst) (([] : List Go.Eng.Res) = [] ∧ Ent.one (SV.c (SC.v (Value.int IntKind.i64 (thS fs ts)))) = Ent.one (SV.c (SC.v (Value.int IntKind.i64 (2 : Int))))) (InR IntKind.i64 ((↑x : Int) + (1 : Int)) ∧ ∃ x', (x' ≤ ts.length ∧ ∀ (j : Nat), j < x' → ∀ (t : Int × Int × Unit), ts[j]? = some t → thE fs.length t = (0 : Int)) ∧ (SV.c (SC.v (Value.int IntKind.i64 ((↑x : Int) + (1 : Int)))) = SV.c (SC.v (Value.int IntKind.i64 (↑x' : Int))) ∧ True) ∧ [(([] : Go.Eng.Gd), Res.blk (27 : Nat) [SC.sl (Sh.str.pair (I6.pair Sh.unit)) vs, SC.sl Sh.str ms, SC.sl Sh.str cs, SC.sl (Sh.str.pair (shI.sl.pair Sh.unit)) fs, SC.sl (I6.pair (I6.pair Sh.unit)) ts])] = [(([] : Go.Eng.Gd), Res.blk (27 : Nat) [SC.sl (Sh.str.pair (I6.pair Sh.unit)) vs, SC.sl Sh.str ms, SC.sl Sh.str cs, SC.sl (Sh.str.pair (shI.sl.pair Sh.unit)) fs, SC.sl (I6.pair (I6.pair Sh.unit)) ts])] ∧ ts.length - x' < ts.length - x))) (([] : List Go.Eng.Res) = [] ∧ Ent.one (SV.c (SC.v (Value.int IntKind.i64 (thS fs ts)))) = Ent.one (SV.c (SC.v (Value.int IntKind.i64 (0 : Int)))))) := by
  by_cases hc : ts.length < 1 ∨ 8 < ts.length
  · have e : thS fs ts = 4 := by unfold thS; rw [if_pos hc]
    rw [e]
    refine br_iff.2 ⟨fun _ => ⟨rfl, rfl⟩, fun h => ?_⟩
    simp only [Bool.or_eq_false_iff, decide_eq_false_iff_not] at h
    omega
  refine br_iff.2 ⟨fun h => ?_, fun h => ⟨⟨0, ⟨by omega, fun j hj => by omega⟩, ⟨rfl, trivial⟩, rfl⟩, fun k hk => br_iff.2 ⟨fun h2 => ?_, fun h2 => ?_⟩⟩⟩
  · simp only [Bool.or_eq_true, decide_eq_true_eq] at h
    omega
  · simp only [decide_eq_true_eq] at h2
    have hN : (↑k : Int).toNat = k := by omega
    rw [hN]
    refine ⟨by omega, fun d hd => ⟨fun _ => by omega, fun d1 hd1 => br_iff.2 ⟨fun h3 => ⟨rfl, ?_⟩, fun h3 => ⟨by omega, fun d2 hd2 => ⟨trivial, br_iff.2 ⟨fun h4 => ⟨rfl, ?_⟩, fun h4 => ⟨InR_i64.2 (by omega), k + 1, ⟨by omega, fun j hj v hv => ?_⟩, ⟨rfl, trivial⟩, rfl, by omega⟩⟩⟩⟩⟩⟩⟩
    · have h3 : d.1 < 0 ∨ (fs.length : Int) ≤ d.1 := by
        by_cases hn : d.1 < 0
        · exact .inl hn
        · have := hd1 (by simp [hn])
          rw [hd] at this; cases this
          exact by simpa using h3
      have e : thE fs.length d = 11 := by unfold thE; rw [if_pos h3]
      rw [th_found hc hd (by rw [e]; simp) hk.2, e]
    all_goals
      rw [hd] at hd2; cases hd2
      have h3 : ¬ (d.1 < 0 ∨ (fs.length : Int) ≤ d.1) := by
        simp only [Bool.or_eq_false_iff, decide_eq_false_iff_not] at h3
        have := hd1 (by rw [decide_eq_false h3.1]; rfl)
        rw [hd] at this; cases this
        exact fun q => q.elim (fun q => h3.1 q) (fun q => h3.2 q)
    · have h4 : valS d.2.1 = false := by simpa using h4
      have e : thE fs.length d = 2 := by unfold thE; rw [if_neg h3, if_neg (by rw [h4]; simp)]
      rw [th_found hc hd (by rw [e]; simp) hk.2, e]
    · have h4 : valS d.2.1 = true := by simpa using h4
      by_cases hjk : j = k
      · subst hjk
        rw [hd] at hv; cases hv
        unfold thE; rw [if_neg h3, if_pos h4]
      · exact hk.2 j (by omega) v hv
  · simp only [decide_eq_false_iff_not] at h2
    rw [th_none hc fun j t hj => hk.2 j (by have := (List.getElem?_eq_some_iff.1 hj).1; omega) t hj]; exact ⟨rfl, rfl⟩
set_option maxHeartbeats 2000000 in
set_option maxRecDepth 100000 in
theorem f74_met : Go.Eng.Met Tryz.prog cx0.gd 74 ctrTh :=
  met_of (cx := cx0) (n := 48) (cl := cl74) (by kernel_rfl) tis_ok ⟨f72_met, trivial⟩ Tryz.func74 (by kernel_rfl) (by kernel_rfl) rfl (by kernel_rfl) (by kernel_rfl) fun d hd => by
    obtain ⟨⟨vs, ms, cs, fs, ts, ⟨⟩⟩, ⟨⟩⟩ := d
    exact ex_of (ann74 vs ms cs fs ts) (f74_vc vs ms cs fs ts) (by kernel_rfl)
def exS (vs : List VD) (ms cs : List ByteArray) (fs : List FD) (op obj n : Int) : Bool := !decide (0 ≤ objS vs ms cs fs op ∧ (obj < 0 ∨ objS vs ms cs fs op ≤ obj)) && !decide (op = 18 ∧ (n < 0 ∨ (ms.length : Int) ≤ n))
@[reducible] def ctrEx : CT := { ps := [shP, shI], pre := fun d => True, res := fun d => ([], vB (exS d.1.1 d.1.2.1 d.1.2.2.1 d.1.2.2.2.1 d.2.1.1 d.2.1.2.2.2.2.1 d.2.1.2.2.2.2.2.1)) }
@[reducible] def cl95 : List (Nat × CT) := []
@[reducible] def ann95 (vs : List VD) (ms : List ByteArray) (cs : List ByteArray) (fs : List FD) (ts : List SD) (op : Int) (a : Int) (b : Int) (c : Int) (obj : Int) (n : Int) (fn : Int) (ord : Int) : Nat → Option (St → Ann) := fun _ => none
set_option maxRecDepth 100000 in
theorem f95_vc (vs : List VD) (ms : List ByteArray) (cs : List ByteArray) (fs : List FD) (ts : List SD) (op : Int) (a : Int) (b : Int) (c : Int) (obj : Int) (n : Int) (fn : Int) (ord : Int) :
    br (decide (op = (8 : Int))) (br (decide (op = (8 : Int))) (([] : List Go.Eng.Res) = [] ∧ Ent.one (SV.c (SC.v (Value.bool (exS vs ms cs fs op obj n)))) = Ent.one (SV.c (SC.v (Value.bool (decide ((0 : Int) ≤ obj) && decide (obj < (↑vs.length : Int))))))) (br (decide (op = (15 : Int))) (br (decide (op = (15 : Int))) (([] : List Go.Eng.Res) = [] ∧ Ent.one (SV.c (SC.v (Value.bool (exS vs ms cs fs op obj n)))) = Ent.one (SV.c (SC.v (Value.bool (decide ((0 : Int) ≤ obj) && decide (obj < (↑ms.length : Int))))))) (br (decide (op = (18 : Int))) (br (decide (n < (0 : Int)) || decide ((↑ms.length : Int) ≤ n)) (([] : List Go.Eng.Res) = [] ∧ Ent.one (SV.c (SC.v (Value.bool (exS vs ms cs fs op obj n)))) = Ent.one (SV.c (SC.v (Value.bool false)))) (([] : List Go.Eng.Res) = [] ∧ Ent.one (SV.c (SC.v (Value.bool (exS vs ms cs fs op obj n)))) = Ent.one (SV.c (SC.v (Value.bool (decide ((0 : Int) ≤ obj) && decide (obj < (↑cs.length : Int)))))))) (br (decide (op = (19 : Int))) (br (decide (op = (19 : Int))) (([] : List Go.Eng.Res) = [] ∧ Ent.one (SV.c (SC.v (Value.bool (exS vs ms cs fs op obj n)))) = Ent.one (SV.c (SC.v (Value.bool (decide ((0 : Int) ≤ obj) && decide (obj < (↑cs.length : Int))))))) (br (decide (op = (21 : Int))) (([] : List Go.Eng.Res) = [] ∧ Ent.one (SV.c (SC.v (Value.bool (exS vs ms cs fs op obj n)))) = Ent.one (SV.c (SC.v (Value.bool (decide ((0 : Int) ≤ obj) && decide (obj < (↑fs.length : Int))))))) (([] : List Go.Eng.Res) = [] ∧ Ent.one (SV.c (SC.v (Value.bool (exS vs ms cs fs op obj n)))) = Ent.one (SV.c (SC.v (Value.bool true)))))) (br (decide (op = (20 : Int))) (([] : List Go.Eng.Res) = [] ∧ Ent.one (SV.c (SC.v (Value.bool (exS vs ms cs fs op obj n)))) = Ent.one (SV.c (SC.v (Value.bool (decide ((0 : Int) ≤ obj) && decide (obj < (↑cs.length : Int))))))) (br (decide (op = (21 : Int))) (([] : List Go.Eng.Res) = [] ∧ Ent.one (SV.c (SC.v (Value.bool (exS vs ms cs fs op obj n)))) = Ent.one (SV.c (SC.v (Value.bool (decide ((0 : Int) ≤ obj) && decide (obj < (↑fs.length : Int))))))) (([] : List Go.Eng.Res) = [] ∧ Ent.one (SV.c (SC.v (Value.bool (exS vs ms cs fs op obj n)))) = Ent.one (SV.c (SC.v (Value.bool true))))))))) (br (decide (op = (16 : Int))) (br (decide (op = (16 : Int))) (([] : List Go.Eng.Res) = [] ∧ Ent.one (SV.c (SC.v (Value.bool (exS vs ms cs fs op obj n)))) = Ent.one (SV.c (SC.v (Value.bool (decide ((0 : Int) ≤ obj) && decide (obj < (↑ms.length : Int))))))) (br (decide (op = (18 : Int))) (br (decide (n < (0 : Int)) || decide ((↑ms.length : Int) ≤ n)) (([] : List Go.Eng.Res) = [] ∧ Ent.one (SV.c (SC.v (Value.bool (exS vs ms cs fs op obj n)))) = Ent.one (SV.c (SC.v (Value.bool false)))) (([] : List Go.Eng.Res) = [] ∧ Ent.one (SV.c (SC.v (Value.bool (exS vs ms cs fs op obj n)))) = Ent.one (SV.c (SC.v (Value.bool (decide ((0 : Int) ≤ obj) && decide (obj < (↑cs.length : Int)))))))) (br (decide (op = (19 : Int))) (br (decide (op = (19 : Int))) (([] : List Go.Eng.Res) = [] ∧ Ent.one (SV.c (SC.v (Value.bool (exS vs ms cs fs op obj n)))) = Ent.one (SV.c (SC.v (Value.bool (decide ((0 : Int) ≤ obj) && decide (obj < (↑cs.length : Int))))))) (br (decide (op = (21 : Int))) (([] : List Go.Eng.Res) = [] ∧ Ent.one (SV.c (SC.v (Value.bool (exS vs ms cs fs op obj n)))) = Ent.one (SV.c (SC.v (Value.bool (decide ((0 : Int) ≤ obj) && decide (obj < (↑fs.length : Int))))))) (([] : List Go.Eng.Res) = [] ∧ Ent.one (SV.c (SC.v (Value.bool (exS vs ms cs fs op obj n)))) = Ent.one (SV.c (SC.v (Value.bool true)))))) (br (decide (op = (20 : Int))) (([] : List Go.Eng.Res) = [] ∧ Ent.one (SV.c (SC.v (Value.bool (exS vs ms cs fs op obj n)))) = Ent.one (SV.c (SC.v (Value.bool (decide ((0 : Int) ≤ obj) && decide (obj < (↑cs.length : Int))))))) (br (decide (op = (21 : Int))) (([] : List Go.Eng.Res) = [] ∧ Ent.one (SV.c (SC.v (Value.bool (exS vs ms cs fs op obj n)))) = Ent.one (SV.c (SC.v (Value.bool (decide ((0 : Int) ≤ obj) && decide (obj < (↑fs.length : Int))))))) (([] : List Go.Eng.Res) = [] ∧ Ent.one (SV.c (SC.v (Value.bool (exS vs ms cs fs op obj n)))) = Ent.one (SV.c (SC.v (Value.bool true))))))))) (br (decide (op = (17 : Int))) (([] : List Go.Eng.Res) = [] ∧ Ent.one (SV.c (SC.v (Value.bool (exS vs ms cs fs op obj n)))) = Ent.one (SV.c (SC.v (Value.bool (decide ((0 : Int) ≤ obj) && decide (obj < (↑ms.length : Int))))))) (br (decide (op = (18 : Int))) (br (decide (n < (0 : Int)) || decide ((↑ms.length : Int) ≤ n)) (([] : List Go.Eng.Res) = [] ∧ Ent.one (SV.c (SC.v (Value.bool (exS vs ms cs fs op obj n)))) = Ent.one (SV.c (SC.v (Value.bool false)))) (([] : List Go.Eng.Res) = [] ∧ Ent.one (SV.c (SC.v (Value.bool (exS vs ms cs fs op obj n)))) = Ent.one (SV.c (SC.v (Value.bool (decide ((0 : Int) ≤ obj) && decide (obj < (↑cs.length : Int)))))))) (br (decide (op = (19 : Int))) (br (decide (op = (19 : Int))) (([] : List Go.Eng.Res) = [] ∧ Ent.one (SV.c (SC.v (Value.bool (exS vs ms cs fs op obj n)))) = Ent.one (SV.c (SC.v (Value.bool (decide ((0 : Int) ≤ obj) && decide (obj < (↑cs.length : Int))))))) (br (decide (op = (21 : Int))) (([] : List Go.Eng.Res) = [] ∧ Ent.one (SV.c (SC.v (Value.bool (exS vs ms cs fs op obj n)))) = Ent.one (SV.c (SC.v (Value.bool (decide ((0 : Int) ≤ obj) && decide (obj < (↑fs.length : Int))))))) (([] : List Go.Eng.Res) = [] ∧ Ent.one (SV.c (SC.v (Value.bool (exS vs ms cs fs op obj n)))) = Ent.one (SV.c (SC.v (Value.bool true)))))) (br (decide (op = (20 : Int))) (([] : List Go.Eng.Res) = [] ∧ Ent.one (SV.c (SC.v (Value.bool (exS vs ms cs fs op obj n)))) = Ent.one (SV.c (SC.v (Value.bool (decide ((0 : Int) ≤ obj) && decide (obj < (↑cs.length : Int))))))) (br (decide (op = (21 : Int))) (([] : List Go.Eng.Res) = [] ∧ Ent.one (SV.c (SC.v (Value.bool (exS vs ms cs fs op obj n)))) = Ent.one (SV.c (SC.v (Value.bool (decide ((0 : Int) ≤ obj) && decide (obj < (↑fs.length : Int))))))) (([] : List Go.Eng.Res) = [] ∧ Ent.one (SV.c (SC.v (Value.bool (exS vs ms cs fs op obj n)))) = Ent.one (SV.c (SC.v (Value.bool true)))))))))))) (br (decide (op = (9 : Int))) (br (decide (op = (9 : Int))) (([] : List Go.Eng.Res) = [] ∧ Ent.one (SV.c (SC.v (Value.bool (exS vs ms cs fs op obj n)))) = Ent.one (SV.c (SC.v (Value.bool (decide ((0 : Int) ≤ obj) && decide (obj < (↑vs.length : Int))))))) (br (decide (op = (15 : Int))) (br (decide (op = (15 : Int))) (([] : List Go.Eng.Res) = [] ∧ Ent.one (SV.c (SC.v (Value.bool (exS vs ms cs fs op obj n)))) = Ent.one (SV.c (SC.v (Value.bool (decide ((0 : Int) ≤ obj) && decide (obj < (↑ms.length : Int))))))) (br (decide (op = (18 : Int))) (br (decide (n < (0 : Int)) || decide ((↑ms.length : Int) ≤ n)) (([] : List Go.Eng.Res) = [] ∧ Ent.one (SV.c (SC.v (Value.bool (exS vs ms cs fs op obj n)))) = Ent.one (SV.c (SC.v (Value.bool false)))) (([] : List Go.Eng.Res) = [] ∧ Ent.one (SV.c (SC.v (Value.bool (exS vs ms cs fs op obj n)))) = Ent.one (SV.c (SC.v (Value.bool (decide ((0 : Int) ≤ obj) && decide (obj < (↑cs.length : Int)))))))) (br (decide (op = (19 : Int))) (br (decide (op = (19 : Int))) (([] : List Go.Eng.Res) = [] ∧ Ent.one (SV.c (SC.v (Value.bool (exS vs ms cs fs op obj n)))) = Ent.one (SV.c (SC.v (Value.bool (decide ((0 : Int) ≤ obj) && decide (obj < (↑cs.length : Int))))))) (br (decide (op = (21 : Int))) (([] : List Go.Eng.Res) = [] ∧ Ent.one (SV.c (SC.v (Value.bool (exS vs ms cs fs op obj n)))) = Ent.one (SV.c (SC.v (Value.bool (decide ((0 : Int) ≤ obj) && decide (obj < (↑fs.length : Int))))))) (([] : List Go.Eng.Res) = [] ∧ Ent.one (SV.c (SC.v (Value.bool (exS vs ms cs fs op obj n)))) = Ent.one (SV.c (SC.v (Value.bool true)))))) (br (decide (op = (20 : Int))) (([] : List Go.Eng.Res) = [] ∧ Ent.one (SV.c (SC.v (Value.bool (exS vs ms cs fs op obj n)))) = Ent.one (SV.c (SC.v (Value.bool (decide ((0 : Int) ≤ obj) && decide (obj < (↑cs.length : Int))))))) (br (decide (op = (21 : Int))) (([] : List Go.Eng.Res) = [] ∧ Ent.one (SV.c (SC.v (Value.bool (exS vs ms cs fs op obj n)))) = Ent.one (SV.c (SC.v (Value.bool (decide ((0 : Int) ≤ obj) && decide (obj < (↑fs.length : Int))))))) (([] : List Go.Eng.Res) = [] ∧ Ent.one (SV.c (SC.v (Value.bool (exS vs ms cs fs op obj n)))) = Ent.one (SV.c (SC.v (Value.bool true))))))))) (br (decide (op = (16 : Int))) (br (decide (op = (16 : Int))) (([] : List Go.Eng.Res) = [] ∧ Ent.one (SV.c (SC.v (Value.bool (exS vs ms cs fs op obj n)))) = Ent.one (SV.c (SC.v (Value.bool (decide ((0 : Int) ≤ obj) && decide (obj < (↑ms.length : Int))))))) (br (decide (op = (18 : Int))) (br (decide (n < (0 : Int)) || decide ((↑ms.length : Int) ≤ n)) (([] : List Go.Eng.Res) = [] ∧ Ent.one (SV.c (SC.v (Value.bool (exS vs ms cs fs op obj n)))) = Ent.one (SV.c (SC.v (Value.bool false)))) (([] : List Go.Eng.Res) = [] ∧ Ent.one (SV.c (SC.v (Value.bool (exS vs ms cs fs op obj n)))) = Ent.one (SV.c (SC.v (Value.bool (decide ((0 : Int) ≤ obj) && decide (obj < (↑cs.length : Int)))))))) (br (decide (op = (19 : Int))) (br (decide (op = (19 : Int))) (([] : List Go.Eng.Res) = [] ∧ Ent.one (SV.c (SC.v (Value.bool (exS vs ms cs fs op obj n)))) = Ent.one (SV.c (SC.v (Value.bool (decide ((0 : Int) ≤ obj) && decide (obj < (↑cs.length : Int))))))) (br (decide (op = (21 : Int))) (([] : List Go.Eng.Res) = [] ∧ Ent.one (SV.c (SC.v (Value.bool (exS vs ms cs fs op obj n)))) = Ent.one (SV.c (SC.v (Value.bool (decide ((0 : Int) ≤ obj) && decide (obj < (↑fs.length : Int))))))) (([] : List Go.Eng.Res) = [] ∧ Ent.one (SV.c (SC.v (Value.bool (exS vs ms cs fs op obj n)))) = Ent.one (SV.c (SC.v (Value.bool true)))))) (br (decide (op = (20 : Int))) (([] : List Go.Eng.Res) = [] ∧ Ent.one (SV.c (SC.v (Value.bool (exS vs ms cs fs op obj n)))) = Ent.one (SV.c (SC.v (Value.bool (decide ((0 : Int) ≤ obj) && decide (obj < (↑cs.length : Int))))))) (br (decide (op = (21 : Int))) (([] : List Go.Eng.Res) = [] ∧ Ent.one (SV.c (SC.v (Value.bool (exS vs ms cs fs op obj n)))) = Ent.one (SV.c (SC.v (Value.bool (decide ((0 : Int) ≤ obj) && decide (obj < (↑fs.length : Int))))))) (([] : List Go.Eng.Res) = [] ∧ Ent.one (SV.c (SC.v (Value.bool (exS vs ms cs fs op obj n)))) = Ent.one (SV.c (SC.v (Value.bool true))))))))) (br (decide (op = (17 : Int))) (([] : List Go.Eng.Res) = [] ∧ Ent.one (SV.c (SC.v (Value.bool (exS vs ms cs fs op obj n)))) = Ent.one (SV.c (SC.v (Value.bool (decide ((0 : Int) ≤ obj) && decide (obj < (↑ms.length : Int))))))) (br (decide (op = (18 : Int))) (br (decide (n < (0 : Int)) || decide ((↑ms.length : Int) ≤ n)) (([] : List Go.Eng.Res) = [] ∧ Ent.one (SV.c (SC.v (Value.bool (exS vs ms cs fs op obj n)))) = Ent.one (SV.c (SC.v (Value.bool false)))) (([] : List Go.Eng.Res) = [] ∧ Ent.one (SV.c (SC.v (Value.bool (exS vs ms cs fs op obj n)))) = Ent.one (SV.c (SC.v (Value.bool (decide ((0 : Int) ≤ obj) && decide (obj < (↑cs.length : Int)))))))) (br (decide (op = (19 : Int))) (br (decide (op = (19 : Int))) (([] : List Go.Eng.Res) = [] ∧ Ent.one (SV.c (SC.v (Value.bool (exS vs ms cs fs op obj n)))) = Ent.one (SV.c (SC.v (Value.bool (decide ((0 : Int) ≤ obj) && decide (obj < (↑cs.length : Int))))))) (br (decide (op = (21 : Int))) (([] : List Go.Eng.Res) = [] ∧ Ent.one (SV.c (SC.v (Value.bool (exS vs ms cs fs op obj n)))) = Ent.one (SV.c (SC.v (Value.bool (decide ((0 : Int) ≤ obj) && decide (obj < (↑fs.length : Int))))))) (([] : List Go.Eng.Res) = [] ∧ Ent.one (SV.c (SC.v (Value.bool (exS vs ms cs fs op obj n)))) = Ent.one (SV.c (SC.v (Value.bool true)))))) (br (decide (op = (20 : Int))) (([] : List Go.Eng.Res) = [] ∧ Ent.one (SV.c (SC.v (Value.bool (exS vs ms cs fs op obj n)))) = Ent.one (SV.c (SC.v (Value.bool (decide ((0 : Int) ≤ obj) && decide (obj < (↑cs.length : Int))))))) (br (decide (op = (21 : Int))) (([] : List Go.Eng.Res) = [] ∧ Ent.one (SV.c (SC.v (Value.bool (exS vs ms cs fs op obj n)))) = Ent.one (SV.c (SC.v (Value.bool (decide ((0 : Int) ≤ obj) && decide (obj < (↑fs.length : Int))))))) (([] : List Go.Eng.Res) = [] ∧ Ent.one (SV.c (SC.v (Value.bool (exS vs ms cs fs op obj n)))) = Ent.one (SV.c (SC.v (Value.bool true)))))))))))) (br (decide (op = (10 : Int))) (br (decide (op = (10 : Int))) (([] : List Go.Eng.Res) = [] ∧ Ent.one (SV.c (SC.v (Value.bool (exS vs ms cs fs op obj n)))) = Ent.one (SV.c (SC.v (Value.bool (decide ((0 : Int) ≤ obj) && decide (obj < (↑vs.length : Int))))))) (br (decide (op = (15 : Int))) (br (decide (op = (15 : Int))) (([] : List Go.Eng.Res) = [] ∧ Ent.one (SV.c (SC.v (Value.bool (exS vs ms cs fs op obj n)))) = Ent.one (SV.c (SC.v (Value.bool (decide ((0 : Int) ≤ obj) && decide (obj < (↑ms.length : Int))))))) (br (decide (op = (18 : Int))) (br (decide (n < (0 : Int)) || decide ((↑ms.length : Int) ≤ n)) (([] : List Go.Eng.Res) = [] ∧ Ent.one (SV.c (SC.v (Value.bool (exS vs ms cs fs op obj n)))) = Ent.one (SV.c (SC.v (Value.bool false)))) (([] : List Go.Eng.Res) = [] ∧ Ent.one (SV.c (SC.v (Value.bool (exS vs ms cs fs op obj n)))) = Ent.one (SV.c (SC.v (Value.bool (decide ((0 : Int) ≤ obj) && decide (obj < (↑cs.length : Int)))))))) (br (decide (op = (19 : Int))) (br (decide (op = (19 : Int))) (([] : List Go.Eng.Res) = [] ∧ Ent.one (SV.c (SC.v (Value.bool (exS vs ms cs fs op obj n)))) = Ent.one (SV.c (SC.v (Value.bool (decide ((0 : Int) ≤ obj) && decide (obj < (↑cs.length : Int))))))) (br (decide (op = (21 : Int))) (([] : List Go.Eng.Res) = [] ∧ Ent.one (SV.c (SC.v (Value.bool (exS vs ms cs fs op obj n)))) = Ent.one (SV.c (SC.v (Value.bool (decide ((0 : Int) ≤ obj) && decide (obj < (↑fs.length : Int))))))) (([] : List Go.Eng.Res) = [] ∧ Ent.one (SV.c (SC.v (Value.bool (exS vs ms cs fs op obj n)))) = Ent.one (SV.c (SC.v (Value.bool true)))))) (br (decide (op = (20 : Int))) (([] : List Go.Eng.Res) = [] ∧ Ent.one (SV.c (SC.v (Value.bool (exS vs ms cs fs op obj n)))) = Ent.one (SV.c (SC.v (Value.bool (decide ((0 : Int) ≤ obj) && decide (obj < (↑cs.length : Int))))))) (br (decide (op = (21 : Int))) (([] : List Go.Eng.Res) = [] ∧ Ent.one (SV.c (SC.v (Value.bool (exS vs ms cs fs op obj n)))) = Ent.one (SV.c (SC.v (Value.bool (decide ((0 : Int) ≤ obj) && decide (obj < (↑fs.length : Int))))))) (([] : List Go.Eng.Res) = [] ∧ Ent.one (SV.c (SC.v (Value.bool (exS vs ms cs fs op obj n)))) = Ent.one (SV.c (SC.v (Value.bool true))))))))) (br (decide (op = (16 : Int))) (br (decide (op = (16 : Int))) (([] : List Go.Eng.Res) = [] ∧ Ent.one (SV.c (SC.v (Value.bool (exS vs ms cs fs op obj n)))) = Ent.one (SV.c (SC.v (Value.bool (decide ((0 : Int) ≤ obj) && decide (obj < (↑ms.length : Int))))))) (br (decide (op = (18 : Int))) (br (decide (n < (0 : Int)) || decide ((↑ms.length : Int) ≤ n)) (([] : List Go.Eng.Res) = [] ∧ Ent.one (SV.c (SC.v (Value.bool (exS vs ms cs fs op obj n)))) = Ent.one (SV.c (SC.v (Value.bool false)))) (([] : List Go.Eng.Res) = [] ∧ Ent.one (SV.c (SC.v (Value.bool (exS vs ms cs fs op obj n)))) = Ent.one (SV.c (SC.v (Value.bool (decide ((0 : Int) ≤ obj) && decide (obj < (↑cs.length : Int)))))))) (br (decide (op = (19 : Int))) (br (decide (op = (19 : Int))) (([] : List Go.Eng.Res) = [] ∧ Ent.one (SV.c (SC.v (Value.bool (exS vs ms cs fs op obj n)))) = Ent.one (SV.c (SC.v (Value.bool (decide ((0 : Int) ≤ obj) && decide (obj < (↑cs.length : Int))))))) (br (decide (op = (21 : Int))) (([] : List Go.Eng.Res) = [] ∧ Ent.one (SV.c (SC.v (Value.bool (exS vs ms cs fs op obj n)))) = Ent.one (SV.c (SC.v (Value.bool (decide ((0 : Int) ≤ obj) && decide (obj < (↑fs.length : Int))))))) (([] : List Go.Eng.Res) = [] ∧ Ent.one (SV.c (SC.v (Value.bool (exS vs ms cs fs op obj n)))) = Ent.one (SV.c (SC.v (Value.bool true)))))) (br (decide (op = (20 : Int))) (([] : List Go.Eng.Res) = [] ∧ Ent.one (SV.c (SC.v (Value.bool (exS vs ms cs fs op obj n)))) = Ent.one (SV.c (SC.v (Value.bool (decide ((0 : Int) ≤ obj) && decide (obj < (↑cs.length : Int))))))) (br (decide (op = (21 : Int))) (([] : List Go.Eng.Res) = [] ∧ Ent.one (SV.c (SC.v (Value.bool (exS vs ms cs fs op obj n)))) = Ent.one (SV.c (SC.v (Value.bool (decide ((0 : Int) ≤ obj) && decide (obj < (↑fs.length : Int))))))) (([] : List Go.Eng.Res) = [] ∧ Ent.one (SV.c (SC.v (Value.bool (exS vs ms cs fs op obj n)))) = Ent.one (SV.c (SC.v (Value.bool true))))))))) (br (decide (op = (17 : Int))) (([] : List Go.Eng.Res) = [] ∧ Ent.one (SV.c (SC.v (Value.bool (exS vs ms cs fs op obj n)))) = Ent.one (SV.c (SC.v (Value.bool (decide ((0 : Int) ≤ obj) && decide (obj < (↑ms.length : Int))))))) (br (decide (op = (18 : Int))) (br (decide (n < (0 : Int)) || decide ((↑ms.length : Int) ≤ n)) (([] : List Go.Eng.Res) = [] ∧ Ent.one (SV.c (SC.v (Value.bool (exS vs ms cs fs op obj n)))) = Ent.one (SV.c (SC.v (Value.bool false)))) (([] : List Go.Eng.Res) = [] ∧ Ent.one (SV.c (SC.v (Value.bool (exS vs ms cs fs op obj n)))) = Ent.one (SV.c (SC.v (Value.bool (decide ((0 : Int) ≤ obj) && decide (obj < (↑cs.length : Int)))))))) (br (decide (op = (19 : Int))) (br (decide (op = (19 : Int))) (([] : List Go.Eng.Res) = [] ∧ Ent.one (SV.c (SC.v (Value.bool (exS vs ms cs fs op obj n)))) = Ent.one (SV.c (SC.v (Value.bool (decide ((0 : Int) ≤ obj) && decide (obj < (↑cs.length : Int))))))) (br (decide (op = (21 : Int))) (([] : List Go.Eng.Res) = [] ∧ Ent.one (SV.c (SC.v (Value.bool (exS vs ms cs fs op obj n)))) = Ent.one (SV.c (SC.v (Value.bool (decide ((0 : Int) ≤ obj) && decide (obj < (↑fs.length : Int))))))) (([] : List Go.Eng.Res) = [] ∧ Ent.one (SV.c (SC.v (Value.bool (exS vs ms cs fs op obj n)))) = Ent.one (SV.c (SC.v (Value.bool true)))))) (br (decide (op = (20 : Int))) (([] : List Go.Eng.Res) = [] ∧ Ent.one (SV.c (SC.v (Value.bool (exS vs ms cs fs op obj n)))) = Ent.one (SV.c (SC.v (Value.bool (decide ((0 : Int) ≤ obj) && decide (obj < (↑cs.length : Int))))))) (br (decide (op = (21 : Int))) (([] : List Go.Eng.Res) = [] ∧ Ent.one (SV.c (SC.v (Value.bool (exS vs ms cs fs op obj n)))) = Ent.one (SV.c (SC.v (Value.bool (decide ((0 : Int) ≤ obj) && decide (obj < (↑fs.length : Int))))))) (([] : List Go.Eng.Res) = [] ∧ Ent.one (SV.c (SC.v (Value.bool (exS vs ms cs fs op obj n)))) = Ent.one (SV.c (SC.v (Value.bool true)))))))))))) (br (decide (op = (11 : Int))) (br (decide (op = (11 : Int))) (([] : List Go.Eng.Res) = [] ∧ Ent.one (SV.c (SC.v (Value.bool (exS vs ms cs fs op obj n)))) = Ent.one (SV.c (SC.v (Value.bool (decide ((0 : Int) ≤ obj) && decide (obj < (↑vs.length : Int))))))) (br (decide (op = (15 : Int))) (br (decide (op = (15 : Int))) (([] : List Go.Eng.Res) = [] ∧ Ent.one (SV.c (SC.v (Value.bool (exS vs ms cs fs op obj n)))) = Ent.one (SV.c (SC.v (Value.bool (decide ((0 : Int) ≤ obj) && decide (obj < (↑ms.length : Int))))))) (br (decide (op = (18 : Int))) (br (decide (n < (0 : Int)) || decide ((↑ms.length : Int) ≤ n)) (([] : List Go.Eng.Res) = [] ∧ Ent.one (SV.c (SC.v (Value.bool (exS vs ms cs fs op obj n)))) = Ent.one (SV.c (SC.v (Value.bool false)))) (([] : List Go.Eng.Res) = [] ∧ Ent.one (SV.c (SC.v (Value.bool (exS vs ms cs fs op obj n)))) = Ent.one (SV.c (SC.v (Value.bool (decide ((0 : Int) ≤ obj) && decide (obj < (↑cs.length : Int)))))))) (br (decide (op = (19 : Int))) (br (decide (op = (19 : Int))) (([] : List Go.Eng.Res) = [] ∧ Ent.one (SV.c (SC.v (Value.bool (exS vs ms cs fs op obj n)))) = Ent.one (SV.c (SC.v (Value.bool (decide ((0 : Int) ≤ obj) && decide (obj < (↑cs.length : Int))))))) (br (decide (op = (21 : Int))) (([] : List Go.Eng.Res) = [] ∧ Ent.one (SV.c (SC.v (Value.bool (exS vs ms cs fs op obj n)))) = Ent.one (SV.c (SC.v (Value.bool (decide ((0 : Int) ≤ obj) && decide (obj < (↑fs.length : Int))))))) (([] : List Go.Eng.Res) = [] ∧ Ent.one (SV.c (SC.v (Value.bool (exS vs ms cs fs op obj n)))) = Ent.one (SV.c (SC.v (Value.bool true)))))) (br (decide (op = (20 : Int))) (([] : List Go.Eng.Res) = [] ∧ Ent.one (SV.c (SC.v (Value.bool (exS vs ms cs fs op obj n)))) = Ent.one (SV.c (SC.v (Value.bool (decide ((0 : Int) ≤ obj) && decide (obj < (↑cs.length : Int))))))) (br (decide (op = (21 : Int))) (([] : List Go.Eng.Res) = [] ∧ Ent.one (SV.c (SC.v (Value.bool (exS vs ms cs fs op obj n)))) = Ent.one (SV.c (SC.v (Value.bool (decide ((0 : Int) ≤ obj) && decide (obj < (↑fs.length : Int))))))) (([] : List Go.Eng.Res) = [] ∧ Ent.one (SV.c (SC.v (Value.bool (exS vs ms cs fs op obj n)))) = Ent.one (SV.c (SC.v (Value.bool true))))))))) (br (decide (op = (16 : Int))) (br (decide (op = (16 : Int))) (([] : List Go.Eng.Res) = [] ∧ Ent.one (SV.c (SC.v (Value.bool (exS vs ms cs fs op obj n)))) = Ent.one (SV.c (SC.v (Value.bool (decide ((0 : Int) ≤ obj) && decide (obj < (↑ms.length : Int))))))) (br (decide (op = (18 : Int))) (br (decide (n < (0 : Int)) || decide ((↑ms.length : Int) ≤ n)) (([] : List Go.Eng.Res) = [] ∧ Ent.one (SV.c (SC.v (Value.bool (exS vs ms cs fs op obj n)))) = Ent.one (SV.c (SC.v (Value.bool false)))) (([] : List Go.Eng.Res) = [] ∧ Ent.one (SV.c (SC.v (Value.bool (exS vs ms cs fs op obj n)))) = Ent.one (SV.c (SC.v (Value.bool (decide ((0 : Int) ≤ obj) && decide (obj < (↑cs.length : Int)))))))) (br (decide (op = (19 : Int))) (br (decide (op = (19 : Int))) (([] : List Go.Eng.Res) = [] ∧ Ent.one (SV.c (SC.v (Value.bool (exS vs ms cs fs op obj n)))) = Ent.one (SV.c (SC.v (Value.bool (decide ((0 : Int) ≤ obj) && decide (obj < (↑cs.length : Int))))))) (br (decide (op = (21 : Int))) (([] : List Go.Eng.Res) = [] ∧ Ent.one (SV.c (SC.v (Value.bool (exS vs ms cs fs op obj n)))) = Ent.one (SV.c (SC.v (Value.bool (decide ((0 : Int) ≤ obj) && decide (obj < (↑fs.length : Int))))))) (([] : List Go.Eng.Res) = [] ∧ Ent.one (SV.c (SC.v (Value.bool (exS vs ms cs fs op obj n)))) = Ent.one (SV.c (SC.v (Value.bool true)))))) (br (decide (op = (20 : Int))) (([] : List Go.Eng.Res) = [] ∧ Ent.one (SV.c (SC.v (Value.bool (exS vs ms cs fs op obj n)))) = Ent.one (SV.c (SC.v (Value.bool (decide ((0 : Int) ≤ obj) && decide (obj < (↑cs.length : Int))))))) (br (decide (op = (21 : Int))) (([] : List Go.Eng.Res) = [] ∧ Ent.one (SV.c (SC.v (Value.bool (exS vs ms cs fs op obj n)))) = Ent.one (SV.c (SC.v (Value.bool (decide ((0 : Int) ≤ obj) && decide (obj < (↑fs.length : Int))))))) (([] : List Go.Eng.Res) = [] ∧ Ent.one (SV.c (SC.v (Value.bool (exS vs ms cs fs op obj n)))) = Ent.one (SV.c (SC.v (Value.bool true))))))))) (br (decide (op = (17 : Int))) (([] : List Go.Eng.Res) = [] ∧ Ent.one (SV.c (SC.v (Value.bool (exS vs ms cs fs op obj n)))) = Ent.one (SV.c (SC.v (Value.bool (decide ((0 : Int) ≤ obj) && decide (obj < (↑ms.length : Int))))))) (br (decide (op = (18 : Int))) (br (decide (n < (0 : Int)) || decide ((↑ms.length : Int) ≤ n)) (([] : List Go.Eng.Res) = [] ∧ Ent.one (SV.c (SC.v (Value.bool (exS vs ms cs fs op obj n)))) = Ent.one (SV.c (SC.v (Value.bool false)))) (([] : List Go.Eng.Res) = [] ∧ Ent.one (SV.c (SC.v (Value.bool (exS vs ms cs fs op obj n)))) = Ent.one (SV.c (SC.v (Value.bool (decide ((0 : Int) ≤ obj) && decide (obj < (↑cs.length : Int)))))))) (br (decide (op = (19 : Int))) (br (decide (op = (19 : Int))) (([] : List Go.Eng.Res) = [] ∧ Ent.one (SV.c (SC.v (Value.bool (exS vs ms cs fs op obj n)))) = Ent.one (SV.c (SC.v (Value.bool (decide ((0 : Int) ≤ obj) && decide (obj < (↑cs.length : Int))))))) (br (decide (op = (21 : Int))) (([] : List Go.Eng.Res) = [] ∧ Ent.one (SV.c (SC.v (Value.bool (exS vs ms cs fs op obj n)))) = Ent.one (SV.c (SC.v (Value.bool (decide ((0 : Int) ≤ obj) && decide (obj < (↑fs.length : Int))))))) (([] : List Go.Eng.Res) = [] ∧ Ent.one (SV.c (SC.v (Value.bool (exS vs ms cs fs op obj n)))) = Ent.one (SV.c (SC.v (Value.bool true)))))) (br (decide (op = (20 : Int))) (([] : List Go.Eng.Res) = [] ∧ Ent.one (SV.c (SC.v (Value.bool (exS vs ms cs fs op obj n)))) = Ent.one (SV.c (SC.v (Value.bool (decide ((0 : Int) ≤ obj) && decide (obj < (↑cs.length : Int))))))) (br (decide (op = (21 : Int))) (([] : List Go.Eng.Res) = [] ∧ Ent.one (SV.c (SC.v (Value.bool (exS vs ms cs fs op obj n)))) = Ent.one (SV.c (SC.v (Value.bool (decide ((0 : Int) ≤ obj) && decide (obj < (↑fs.length : Int))))))) (([] : List Go.Eng.Res) = [] ∧ Ent.one (SV.c (SC.v (Value.bool (exS vs ms cs fs op obj n)))) = Ent.one (SV.c (SC.v (Value.bool true)))))))))))) (br (decide (op = (12 : Int))) (br (decide (op = (12 : Int))) (([] : List Go.Eng.Res) = [] ∧ Ent.one (SV.c (SC.v (Value.bool (exS vs ms cs fs op obj n)))) = Ent.one (SV.c (SC.v (Value.bool (decide ((0 : Int) ≤ obj) && decide (obj < (↑vs.length : Int))))))) (br (decide (op = (15 : Int))) (br (decide (op = (15 : Int))) (([] : List Go.Eng.Res) = [] ∧ Ent.one (SV.c (SC.v (Value.bool (exS vs ms cs fs op obj n)))) = Ent.one (SV.c (SC.v (Value.bool (decide ((0 : Int) ≤ obj) && decide (obj < (↑ms.length : Int))))))) (br (decide (op = (18 : Int))) (br (decide (n < (0 : Int)) || decide ((↑ms.length : Int) ≤ n)) (([] : List Go.Eng.Res) = [] ∧ Ent.one (SV.c (SC.v (Value.bool (exS vs ms cs fs op obj n)))) = Ent.one (SV.c (SC.v (Value.bool false)))) (([] : List Go.Eng.Res) = [] ∧ Ent.one (SV.c (SC.v (Value.bool (exS vs ms cs fs op obj n)))) = Ent.one (SV.c (SC.v (Value.bool (decide ((0 : Int) ≤ obj) && decide (obj < (↑cs.length : Int)))))))) (br (decide (op = (19 : Int))) (br (decide (op = (19 : Int))) (([] : List Go.Eng.Res) = [] ∧ Ent.one (SV.c (SC.v (Value.bool (exS vs ms cs fs op obj n)))) = Ent.one (SV.c (SC.v (Value.bool (decide ((0 : Int) ≤ obj) && decide (obj < (↑cs.length : Int))))))) (br (decide (op = (21 : Int))) (([] : List Go.Eng.Res) = [] ∧ Ent.one (SV.c (SC.v (Value.bool (exS vs ms cs fs op obj n)))) = Ent.one (SV.c (SC.v (Value.bool (decide ((0 : Int) ≤ obj) && decide (obj < (↑fs.length : Int))))))) (([] : List Go.Eng.Res) = [] ∧ Ent.one (SV.c (SC.v (Value.bool (exS vs ms cs fs op obj n)))) = Ent.one (SV.c (SC.v (Value.bool true)))))) (br (decide (op = (20 : Int))) (([] : List Go.Eng.Res) = [] ∧ Ent.one (SV.c (SC.v (Value.bool (exS vs ms cs fs op obj n)))) = Ent.one (SV.c (SC.v (Value.bool (decide ((0 : Int) ≤ obj) && decide (obj < (↑cs.length : Int))))))) (br (decide (op = (21 : Int))) (([] : List Go.Eng.Res) = [] ∧ Ent.one (SV.c (SC.v (Value.bool (exS vs ms cs fs op obj n)))) = Ent.one (SV.c (SC.v (Value.bool (decide ((0 : Int) ≤ obj) && decide (obj < (↑fs.length : Int))))))) (([] : List Go.Eng.Res) = [] ∧ Ent.one (SV.c (SC.v (Value.bool (exS vs ms cs fs op obj n)))) = Ent.one (SV.c (SC.v (Value.bool true))))))))) (br (decide (op = (16 : Int))) (br (decide (op = (16 : Int))) (([] : List Go.Eng.Res) = [] ∧ Ent.one (SV.c (SC.v (Value.bool (exS vs ms cs fs op obj n)))) = Ent.one (SV.c (SC.v (Value.bool (decide ((0 : Int) ≤ obj) && decide (obj < (↑ms.length : Int))))))) (br (decide (op = (18 : Int))) (br (decide (n < (0 : Int)) || decide ((↑ms.length : Int) ≤ n)) (([] : List Go.Eng.Res) = [] ∧ Ent.one (SV.c (SC.v (Value.bool (exS vs ms cs fs op obj n)))) = Ent.one (SV.c (SC.v (Value.bool false)))) (([] : List Go.Eng.Res) = [] ∧ Ent.one (SV.c (SC.v (Value.bool (exS vs ms cs fs op obj n)))) = Ent.one (SV.c (SC.v (Value.bool (decide ((0 : Int) ≤ obj) && decide (obj < (↑cs.length : Int)))))))) (br (decide (op = (19 : Int))) (br (decide (op = (19 : Int))) (([] : List Go.Eng.Res) = [] ∧ Ent.one (SV.c (SC.v (Value.bool (exS vs ms cs fs op obj n)))) = Ent.one (SV.c (SC.v (Value.bool (decide ((0 : Int) ≤ obj) && decide (obj < (↑cs.length : Int))))))) (br (decide (op = (21 : Int))) (([] : List Go.Eng.Res) = [] ∧ Ent.one (SV.c (SC.v (Value.bool (exS vs ms cs fs op obj n)))) = Ent.one (SV.c (SC.v (Value.bool (decide ((0 : Int) ≤ obj) && decide (obj < (↑fs.length : Int))))))) (([] : List Go.Eng.Res) = [] ∧ Ent.one (SV.c (SC.v (Value.bool (exS vs ms cs fs op obj n)))) = Ent.one (SV.c (SC.v (Value.bool true)))))) (br (decide (op = (20 : Int))) (([] : List Go.Eng.Res) = [] ∧ Ent.one (SV.c (SC.v (Value.bool (exS vs ms cs fs op obj n)))) = Ent.one (SV.c (SC.v (Value.bool (decide ((0 : Int) ≤ obj) && decide (obj < (↑cs.length : Int))))))) (br (decide (op = (21 : Int))) (([] : List Go.Eng.Res) = [] ∧ Ent.one (SV.c (SC.v (Value.bool (exS vs ms cs fs op obj n)))) = Ent.one (SV.c (SC.v (Value.bool (decide ((0 : Int) ≤ obj) && decide (obj < (↑fs.length : Int))))))) (([] : List Go.Eng.Res) = [] ∧ Ent.one (SV.c (SC.v (Value.bool (exS vs ms cs fs op obj n)))) = Ent.one (SV.c (SC.v (Value.bool true))))))))) (br (decide (op = (17 : Int))) (([] : List Go.Eng.Res) = [] ∧ Ent.one (SV.c (SC.v (Value.bool (exS vs ms cs fs op obj n)))) = Ent.one (SV.c (SC.v (Value.bool (decide ((0 : Int) ≤ obj) && decide (obj < (↑ms.length : Int))))))) (br (decide (op = (18 : Int))) (br (decide (n < (0 : Int)) || decide ((↑ms.length : Int) ≤ n)) (([] : List Go.Eng.Res) = [] ∧ Ent.one (SV.c (SC.v (Value.bool (exS vs ms cs fs op obj n)))) = Ent.one (SV.c (SC.v (Value.bool false)))) (([] : List Go.Eng.Res) = [] ∧ Ent.one (SV.c (SC.v (Value.bool (exS vs ms cs fs op obj n)))) = Ent.one (SV.c (SC.v (Value.bool (decide ((0 : Int) ≤ obj) && decide (obj < (↑cs.length : Int)))))))) (br (decide (op = (19 : Int))) (br (decide (op = (19 : Int))) (([] : List Go.Eng.Res) = [] ∧ Ent.one (SV.c (SC.v (Value.bool (exS vs ms cs fs op obj n)))) = Ent.one (SV.c (SC.v (Value.bool (decide ((0 : Int) ≤ obj) && decide (obj < (↑cs.length : Int))))))) (br (decide (op = (21 : Int))) (([] : List Go.Eng.Res) = [] ∧ Ent.one (SV.c (SC.v (Value.bool (exS vs ms cs fs op obj n)))) = Ent.one (SV.c (SC.v (Value.bool (decide ((0 : Int) ≤ obj) && decide (obj < (↑fs.length : Int))))))) (([] : List Go.Eng.Res) = [] ∧ Ent.one (SV.c (SC.v (Value.bool (exS vs ms cs fs op obj n)))) = Ent.one (SV.c (SC.v (Value.bool true)))))) (br (decide (op = (20 : Int))) (([] : List Go.Eng.Res) = [] ∧ Ent.one (SV.c (SC.v (Value.bool (exS vs ms cs fs op obj n)))) = Ent.one (SV.c (SC.v (Value.bool (decide ((0 : Int) ≤ obj) && decide (obj < (↑cs.length : Int))))))) (br (decide (op = (21 : Int))) (([] : List Go.Eng.Res) = [] ∧ Ent.one (SV.c (SC.v (Value.bool (exS vs ms cs fs op obj n)))) = Ent.one (SV.c (SC.v (Value.bool (decide ((0 : Int) ≤ obj) && decide (obj < (↑fs.length : Int))))))) (([] : List Go.Eng.Res) = [] ∧ Ent.one (SV.c (SC.v (Value.bool (exS vs ms cs fs op obj n)))) = Ent.one (SV.c (SC.v (Value.bool true)))))))))))) (br (decide (op = (14 : Int))) (([] : List Go.Eng.Res) = [] ∧ Ent.one (SV.c (SC.v (Value.bool (exS vs ms cs fs op obj n)))) = Ent.one (SV.c (SC.v (Value.bool (decide ((0 : Int) ≤ obj) && decide (obj < (↑vs.length : Int))))))) (br (decide (op = (15 : Int))) (br (decide (op = (15 : Int))) (([] : List Go.Eng.Res) = [] ∧ Ent.one (SV.c (SC.v (Value.bool (exS vs ms cs fs op obj n)))) = Ent.one (SV.c (SC.v (Value.bool (decide ((0 : Int) ≤ obj) && decide (obj < (↑ms.length : Int))))))) (br (decide (op = (18 : Int))) (br (decide (n < (0 : Int)) || decide ((↑ms.length : Int) ≤ n)) (([] : List Go.Eng.Res) = [] ∧ Ent.one (SV.c (SC.v (Value.bool (exS vs ms cs fs op obj n)))) = Ent.one (SV.c (SC.v (Value.bool false)))) (([] : List Go.Eng.Res) = [] ∧ Ent.one (SV.c (SC.v (Value.bool (exS vs ms cs fs op obj n)))) = Ent.one (SV.c (SC.v (Value.bool (decide ((0 : Int) ≤ obj) && decide (obj < (↑cs.length : Int)))))))) (br (decide (op = (19 : Int))) (br (decide (op = (19 : Int))) (([] : List Go.Eng.Res) = [] ∧ Ent.one (SV.c (SC.v (Value.bool (exS vs ms cs fs op obj n)))) = Ent.one (SV.c (SC.v (Value.bool (decide ((0 : Int) ≤ obj) && decide (obj < (↑cs.length : Int))))))) (br (decide (op = (21 : Int))) (([] : List Go.Eng.Res) = [] ∧ Ent.one (SV.c (SC.v (Value.bool (exS vs ms cs fs op obj n)))) = Ent.one (SV.c (SC.v (Value.bool (decide ((0 : Int) ≤ obj) && decide (obj < (↑fs.length : Int))))))) (([] : List Go.Eng.Res) = [] ∧ Ent.one (SV.c (SC.v (Value.bool (exS vs ms cs fs op obj n)))) = Ent.one (SV.c (SC.v (Value.bool true)))))) (br (decide (op = (20 : Int))) (([] : List Go.Eng.Res) = [] ∧ Ent.one (SV.c (SC.v (Value.bool (exS vs ms cs fs op obj n)))) = Ent.one (SV.c (SC.v (Value.bool (decide ((0 : Int) ≤ obj) && decide (obj < (↑cs.length : Int))))))) (br (decide (op = (21 : Int))) (([] : List Go.Eng.Res) = [] ∧ Ent.one (SV.c (SC.v (Value.bool (exS vs ms cs fs op obj n)))) = Ent.one (SV.c (SC.v (Value.bool (decide ((0 : Int) ≤ obj) && decide (obj < (↑fs.length : Int))))))) (([] : List Go.Eng.Res) = [] ∧ Ent.one (SV.c (SC.v (Value.bool (exS vs ms cs fs op obj n)))) = Ent.one (SV.c (SC.v (Value.bool true))))))))) (br (decide (op = (16 : Int))) (br (decide (op = (16 : Int))) (([] : List Go.Eng.Res) = [] ∧ Ent.one (SV.c (SC.v (Value.bool (exS vs ms cs fs op obj n)))) = Ent.one (SV.c (SC.v (Value.bool (decide ((0 : Int) ≤ obj) && decide (obj < (↑ms.length : Int))))))) (br (decide (op = (18 : Int))) (br (decide (n < (0 : Int)) || decide ((↑ms.length : Int) ≤ n)) (([] : List Go.Eng.Res) = [] ∧ Ent.one (SV.c (SC.v (Value.bool (exS vs ms cs fs op obj n)))) = Ent.one (SV.c (SC.v (Value.bool false)))) (([] : List Go.Eng.Res) = [] ∧ Ent.one (SV.c (SC.v (Value.bool (exS vs ms cs fs op obj n)))) = Ent.one (SV.c (SC.v (Value.bool (decide ((0 : Int) ≤ obj) && decide (obj < (↑cs.length : Int)))))))) (br (decide (op = (19 : Int))) (br (decide (op = (19 : Int))) (([] : List Go.Eng.Res) = [] ∧ Ent.one (SV.c (SC.v (Value.bool (exS vs ms cs fs op obj n)))) = Ent.one (SV.c (SC.v (Value.bool (decide ((0 : Int) ≤ obj) && decide (obj < (↑cs.length : Int))))))) (br (decide (op = (21 : Int))) (([] : List Go.Eng.Res) = [] ∧ Ent.one (SV.c (SC.v (Value.bool (exS vs ms cs fs op obj n)))) = Ent.one (SV.c (SC.v (Value.bool (decide ((0 : Int) ≤ obj) && decide (obj < (↑fs.length : Int))))))) (([] : List Go.Eng.Res) = [] ∧ Ent.one (SV.c (SC.v (Value.bool (exS vs ms cs fs op obj n)))) = Ent.one (SV.c (SC.v (Value.bool true)))))) (br (decide (op = (20 : Int))) (([] : List Go.Eng.Res) = [] ∧ Ent.one (SV.c (SC.v (Value.bool (exS vs ms cs fs op obj n)))) = Ent.one (SV.c (SC.v (Value.bool (decide ((0 : Int) ≤ obj) && decide (obj < (↑cs.length : Int))))))) (br (decide (op = (21 : Int))) (([] : List Go.Eng.Res) = [] ∧ Ent.one (SV.c (SC.v (Value.bool (exS vs ms cs fs op obj n)))) = Ent.one (SV.c (SC.v (Value.bool (decide ((0 : Int) ≤ obj) && decide (obj < (↑fs.length : Int))))))) (([] : List Go.Eng.Res) = [] ∧ Ent.one (SV.c (SC.v (Value.bool (exS vs ms cs fs op obj n)))) = Ent.one (SV.c (SC.v (Value.bool true))))))))) (br (decide (op = (17 : Int))) (([] : List Go.Eng.Res) = [] ∧ Ent.one (SV.c (SC.v (Value.bool (exS vs ms cs fs op obj n)))) = Ent.one (SV.c (SC.v (Value.bool (decide ((0 : Int) ≤ obj) && decide (obj < (↑ms.length : Int))))))) (br (decide (op = (18 : Int))) (br (decide (n < (0 : Int)) || decide ((↑ms.length : Int) ≤ n)) (([] : List Go.Eng.Res) = [] ∧ Ent.one (SV.c (SC.v (Value.bool (exS vs ms cs fs op obj n)))) = Ent.one (SV.c (SC.v (Value.bool false)))) (([] : List Go.Eng.Res) = [] ∧ Ent.one (SV.c (SC.v (Value.bool (exS vs ms cs fs op obj n)))) = Ent.one (SV.c (SC.v (Value.bool (decide ((0 : Int) ≤ obj) && decide (obj < (↑cs.length : Int)))))))) (br (decide (op = (19 : Int))) (br (decide (op = (19 : Int))) (([] : List Go.Eng.Res) = [] ∧ Ent.one (SV.c (SC.v (Value.bool (exS vs ms cs fs op obj n)))) = Ent.one (SV.c (SC.v (Value.bool (decide ((0 : Int) ≤ obj) && decide (obj < (↑cs.length : Int))))))) (br (decide (op = (21 : Int))) (([] : List Go.Eng.Res) = [] ∧ Ent.one (SV.c (SC.v (Value.bool (exS vs ms cs fs op obj n)))) = Ent.one (SV.c (SC.v (Value.bool (decide ((0 : Int) ≤ obj) && decide (obj < (↑fs.length : Int))))))) (([] : List Go.Eng.Res) = [] ∧ Ent.one (SV.c (SC.v (Value.bool (exS vs ms cs fs op obj n)))) = Ent.one (SV.c (SC.v (Value.bool true)))))) (br (decide (op = (20 : Int))) (([] : List Go.Eng.Res) = [] ∧ Ent.one (SV.c (SC.v (Value.bool (exS vs ms cs fs op obj n)))) = Ent.one (SV.c (SC.v (Value.bool (decide ((0 : Int) ≤ obj) && decide (obj < (↑cs.length : Int))))))) (br (decide (op = (21 : Int))) (([] : List Go.Eng.Res) = [] ∧ Ent.one (SV.c (SC.v (Value.bool (exS vs ms cs fs op obj n)))) = Ent.one (SV.c (SC.v (Value.bool (decide ((0 : Int) ≤ obj) && decide (obj < (↑fs.length : Int))))))) (([] : List Go.Eng.Res) = [] ∧ Ent.one (SV.c (SC.v (Value.bool (exS vs ms cs fs op obj n)))) = Ent.one (SV.c (SC.v (Value.bool true)))))))))))))))) := by
  simp only [br_iff]
  repeat' (first | (refine And.intro ?_ ?_) | (intro _))
  all_goals first | rfl | (simp_all [exS, objS]; done) | (simp_all [exS, objS]; omega) | (simp_all [exS, objS]; rw [Bool.eq_iff_iff]; simp <;> omega)
set_option maxHeartbeats 2000000 in
set_option maxRecDepth 100000 in
theorem f95_met : Go.Eng.Met Tryz.prog cx0.gd 95 ctrEx :=
  met_of (cx := cx0) (n := 61) (cl := cl95) (by kernel_rfl) tis_ok trivial Tryz.func95 (by kernel_rfl) (by kernel_rfl) rfl (by kernel_rfl) (by kernel_rfl) fun d hd => by
    obtain ⟨⟨vs, ms, cs, fs, ts, ⟨⟩⟩, ⟨op, a, b, c, obj, n, fn, ord, ⟨⟩⟩, ⟨⟩⟩ := d
    exact ex_of (ann95 vs ms cs fs ts op a b c obj n fn ord) (f95_vc vs ms cs fs ts op a b c obj n fn ord) (by kernel_rfl)
end Go.Proofs.YtklnffdjhoacoaaGreatDoor
set_option linter.unusedSimpArgs false
set_option linter.unusedVariables false
set_option maxRecDepth 100000
namespace Go.Proofs.YtklnffdjhoacoaaGreatDoor
open Go Go.Eng

@[reducible] def ctrVN : CT := { ps := [.str], pre := fun d => True, res := fun d => ([], vB (validN d.1)) }
@[reducible] def cl94 : List (Nat × CT) := []
@[reducible] def ann94 (s : ByteArray) : Nat → Option (St → Ann) := fun k => match k with
  | 4 => some fun _ => .inv { α := Nat, slots := fun k => [(3, .c (.v (.int .i64 k)))], res := fun k => [], inv := fun k => k ≤ ((List.range s.size)).length ∧ ∀ j < k, (letS (byt s j) = true ∨ (j ≠ 0 ∧ okB (byt s j) = true)), meas := fun k => ((List.range s.size)).length - k }
  | _ => none
set_option maxRecDepth 100000 in
theorem f94_vc (s : ByteArray) :
    br (decide ((↑s.size : Int) < (1 : Int)) || decide ((16 : Int) < (↑s.size : Int))) (([] : List Go.Eng.Res) = [] ∧ Ent.one (SV.c (SC.v (Value.bool (validN s)))) = Ent.one (SV.c (SC.v (Value.bool false)))) ((∃ x, (x ≤ (List.range s.size).length ∧ ∀ (j : Nat), j < x → letS (byt s j) = true ∨ j ≠ (0 : Nat) ∧ okB (byt s j) = true) ∧ (SV.c (SC.v (Value.int IntKind.i64 (0 : Int))) = SV.c (SC.v (Value.int IntKind.i64 (↑x : Int))) ∧ True) ∧ ([] : List (Go.Eng.Gd × Go.Eng.Res)) = []) ∧ ∀ (x : Nat), (x ≤ (List.range s.size).length ∧ ∀ (j : Nat), j < x → letS (byt s j) = true ∨ j ≠ (0 : Nat) ∧ okB (byt s j) = true) → br (decide ((↑x : Int) < (↑s.size : Int))) (((0 : Int) ≤ (↑x : Int) ∧ (↑x : Int) < (↑s.size : Int)) ∧ ∀ (u : UInt8), s[(↑x : Int).toNat]? = some u → br (!(decide ((97 : Int) ≤ (↑u.toNat : Int)) && decide ((↑u.toNat : Int) ≤ (122 : Int)) || decide ((65 : Int) ≤ (↑u.toNat : Int)) && decide ((↑u.toNat : Int) ≤ (90 : Int))) && (decide ((↑x : Int) = (0 : Int)) || !decide ((↑u.toNat : Int) = (95 : Int)) && (decide ((↑u.toNat : Int) < (48 : Int)) || decide ((57 : Int) < (↑u.toNat : Int))))) (([] : List Go.Eng.Res) = [] ∧ Ent.one (SV.c (SC.v (Value.bool (validN s)))) = Ent.one (SV.c (SC.v (Value.bool false)))) (InR IntKind.i64 ((↑x : Int) + (1 : Int)) ∧ ∃ x', (x' ≤ (List.range s.size).length ∧ ∀ (j : Nat), j < x' → letS (byt s j) = true ∨ j ≠ (0 : Nat) ∧ okB (byt s j) = true) ∧ (SV.c (SC.v (Value.int IntKind.i64 ((↑x : Int) + (1 : Int)))) = SV.c (SC.v (Value.int IntKind.i64 (↑x' : Int))) ∧ True) ∧ ([] : List (Go.Eng.Gd × Go.Eng.Res)) = [] ∧ (List.range s.size).length - x' < (List.range s.size).length - x)) (([] : List Go.Eng.Res) = [] ∧ Ent.one (SV.c (SC.v (Value.bool (validN s)))) = Ent.one (SV.c (SC.v (Value.bool true))))) := by
  have hl : (List.range s.size).length = s.size := List.length_range
  rw [hl]
  by_cases hs : ¬ (1 ≤ s.size ∧ s.size ≤ 16)
  · have : validN s = false := by unfold validN; rw [decide_eq_false hs]; rfl
    rw [this]
    refine br_iff.2 ⟨fun _ => ⟨rfl, rfl⟩, fun h => ?_⟩
    simp only [Bool.or_eq_false_iff, decide_eq_false_iff_not] at h
    omega
  have hs := Classical.not_not.1 hs
  refine br_iff.2 ⟨fun h => ?_, fun _ => ⟨⟨0, ⟨by omega, fun j hj => by omega⟩, ⟨rfl, trivial⟩, rfl⟩, fun k hk => br_iff.2 ⟨fun h => ?_, fun h => ?_⟩⟩⟩
  · simp only [Bool.or_eq_true, decide_eq_true_eq] at h
    omega
  · simp only [decide_eq_true_eq] at h
    have hN : (↑k : Int).toNat = k := by omega
    rw [hN]
    refine ⟨by omega, fun u hu => ?_⟩
    have eu := byt_of hu
    have eL : letS (byt s k) = (decide (97 ≤ (↑u.toNat : Int)) && decide ((↑u.toNat : Int) ≤ 122) || decide (65 ≤ (↑u.toNat : Int)) && decide ((↑u.toNat : Int) ≤ 90)) := by
      rw [eu]; unfold letS; rw [Bool.eq_iff_iff]; simp
    rw [← eL]
    refine br_iff.2 ⟨fun h2 => ⟨rfl, ?_⟩, fun h2 => ⟨InR_i64.2 (by omega), k + 1, ⟨by omega, fun j hj => ?_⟩, ⟨rfl, trivial⟩, rfl, by omega⟩⟩
    · have : validN s = false := by
        simp only [Bool.and_eq_true, Bool.or_eq_true, Bool.not_eq_true', decide_eq_true_eq, decide_eq_false_iff_not] at h2
        obtain ⟨a, b⟩ := h2
        unfold validN
        rcases b with b | b
        · have : k = 0 := by omega
          subst this
          rw [a]; simp
        · have hb : okB (byt s k) = false := by
            unfold okB
            rw [a, eu]; simp; omega
          rw [show ((List.range s.size).all fun i => okB (byt s i)) = false from List.all_eq_false.2 ⟨k, by simp; omega, by rw [hb]; simp⟩, Bool.and_false]
      rw [this]
    · by_cases hjk : j = k
      · subst hjk
        cases hA : letS (byt s j) with
        | true => exact .inl rfl
        | false =>
          rw [hA] at h2
          refine .inr ?_
          simp at h2
          refine ⟨by omega, ?_⟩
          unfold okB
          rw [eu]; simp; omega
      · exact hk.2 j (by omega)
  · simp only [decide_eq_false_iff_not] at h
    have : validN s = true := by
      unfold validN
      have h0 : letS (byt s 0) = true := (hk.2 0 (by omega)).elim id fun q => absurd rfl q.1
      rw [decide_eq_true hs, h0]
      simp only [Bool.true_and]
      rw [List.all_eq_true]
      intro i hi
      simp at hi
      rcases hk.2 i (by omega) with q | q
      · unfold okB; rw [q]; rfl
      · exact q.2
    rw [this]; exact ⟨rfl, rfl⟩
set_option maxHeartbeats 2000000 in
set_option maxRecDepth 100000 in
theorem f94_met : Go.Eng.Met Tryz.prog cx0.gd 94 ctrVN :=
  met_of (cx := cx0) (n := 55) (cl := cl94) (by kernel_rfl) tis_ok trivial Tryz.func94 (by kernel_rfl) (by kernel_rfl) rfl (by kernel_rfl) (by kernel_rfl) fun d hd => by
    obtain ⟨s, ⟨⟩⟩ := d
    exact ex_of (ann94 s) (f94_vc s) (by kernel_rfl)
@[reducible] def ctrNms : CT := { ps := [.sl .str], pre := fun d => d.1.length ≤ 1000000, res := fun d => ([], .tup [.c (.v (.int .i64 (if (nmsE d.1).1 = 0 then 0 else (nmsE d.1).2))), .c (.v (.int .i64 (nmsE d.1).1))]) }
@[reducible] def cl71 : List (Nat × CT) := [(94, ctrVN)]
@[reducible] def ann71 (l : List ByteArray) : Nat → Option (St → Ann) := fun k => match k with
  | 2 => some fun _ => .inv { α := Nat, slots := fun k => [(4, .c (.v (.int .i64 k)))], res := fun _ => [], inv := fun k => k ≤ l.length ∧ ∀ j < k, validN (l.getD j ⟨#[]⟩) = true ∧ hasS (l.take j) (l.getD j ⟨#[]⟩) = false, meas := fun k => l.length - k }
  | 7 => some fun s => .inv { α := Nat, slots := fun k => [(5, .c (.v (.int .i64 k)))], res := fun _ => [], inv := fun k => k ≤ (slotI s 4).toNat ∧ ∀ j < k, ¬ l.getD j ⟨#[]⟩ = l.getD ((slotI s 4).toNat) ⟨#[]⟩, meas := fun k => (slotI s 4).toNat - k }
  | _ => none
set_option maxRecDepth 100000 in
theorem f71_vc (l : List ByteArray) (hpre : ctrNms.pre (l, ())) :
    (∃ x, (x ≤ l.length ∧ ∀ (j : Nat), j < x → validN (l.getD j { data := #[] : ByteArray }) = true ∧ hasS (List.take j l) (l.getD j { data := #[] : ByteArray }) = false) ∧ (SV.c (SC.v (Value.int IntKind.i64 (0 : Int))) = SV.c (SC.v (Value.int IntKind.i64 (↑x : Int))) ∧ True) ∧ ([] : List (Go.Eng.Gd × Go.Eng.Res)) = []) ∧ ∀ (x : Nat), (x ≤ l.length ∧ ∀ (j : Nat), j < x → validN (l.getD j { data := #[] : ByteArray }) = true ∧ hasS (List.take j l) (l.getD j { data := #[] : ByteArray }) = false) → br (decide ((↑x : Int) < (↑l.length : Int))) (((0 : Int) ≤ (↑x : Int) ∧ (↑x : Int) < (↑l.length : Int)) ∧ ∀ (d : ByteArray), l[(↑x : Int).toNat]? = some d → True ∧ br (!validN d) (([] : List Go.Eng.Res) = [] ∧ Ent.tup [SV.c (SC.v (Value.int IntKind.i64 (if (nmsE l).fst = (0 : Int) then (0 : Int) else (nmsE l).snd))), SV.c (SC.v (Value.int IntKind.i64 (nmsE l).fst))] = Ent.tup [SV.c (SC.v (Value.int IntKind.i64 (↑x : Int))), SV.c (SC.v (Value.int IntKind.i64 (6 : Int)))]) ((∃ x_1, (x_1 ≤ (↑x : Int).toNat ∧ ∀ (j : Nat), j < x_1 → ¬l.getD j { data := #[] : ByteArray } = l.getD (↑x : Int).toNat { data := #[] : ByteArray }) ∧ (SV.c (SC.v (Value.int IntKind.i64 (0 : Int))) = SV.c (SC.v (Value.int IntKind.i64 (↑x_1 : Int))) ∧ True) ∧ ([] : List (Go.Eng.Gd × Go.Eng.Res)) = []) ∧ ∀ (x_1 : Nat), (x_1 ≤ (↑x : Int).toNat ∧ ∀ (j : Nat), j < x_1 → ¬l.getD j { data := #[] : ByteArray } = l.getD (↑x : Int).toNat { data := #[] : ByteArray }) → br (decide ((↑x_1 : Int) < (↑x : Int))) (((0 : Int) ≤ (↑x_1 : Int) ∧ (↑x_1 : Int) < (↑l.length : Int)) ∧ ∀ (d_1 : ByteArray), l[(↑x_1 : Int).toNat]? = some d_1 → ((0 : Int) ≤ (↑x : Int) ∧ (↑x : Int) < (↑l.length : Int)) ∧ ∀ (d_2 : ByteArray), l[(↑x : Int).toNat]? = some d_2 → br (decide (d_1 = d_2)) (([] : List Go.Eng.Res) = [] ∧ Ent.tup [SV.c (SC.v (Value.int IntKind.i64 (if (nmsE l).fst = (0 : Int) then (0 : Int) else (nmsE l).snd))), SV.c (SC.v (Value.int IntKind.i64 (nmsE l).fst))] = Ent.tup [SV.c (SC.v (Value.int IntKind.i64 (↑x : Int))), SV.c (SC.v (Value.int IntKind.i64 (7 : Int)))]) (InR IntKind.i64 ((↑x_1 : Int) + (1 : Int)) ∧ ∃ x', (x' ≤ (↑x : Int).toNat ∧ ∀ (j : Nat), j < x' → ¬l.getD j { data := #[] : ByteArray } = l.getD (↑x : Int).toNat { data := #[] : ByteArray }) ∧ (SV.c (SC.v (Value.int IntKind.i64 ((↑x_1 : Int) + (1 : Int)))) = SV.c (SC.v (Value.int IntKind.i64 (↑x' : Int))) ∧ True) ∧ ([] : List (Go.Eng.Gd × Go.Eng.Res)) = [] ∧ (↑x : Int).toNat - x' < (↑x : Int).toNat - x_1)) (InR IntKind.i64 ((↑x : Int) + (1 : Int)) ∧ ∃ x', (x' ≤ l.length ∧ ∀ (j : Nat), j < x' → validN (l.getD j { data := #[] : ByteArray }) = true ∧ hasS (List.take j l) (l.getD j { data := #[] : ByteArray }) = false) ∧ (SV.c (SC.v (Value.int IntKind.i64 ((↑x : Int) + (1 : Int)))) = SV.c (SC.v (Value.int IntKind.i64 (↑x' : Int))) ∧ True) ∧ ([] : List (Go.Eng.Gd × Go.Eng.Res)) = [] ∧ l.length - x' < l.length - x))) (([] : List Go.Eng.Res) = [] ∧ Ent.tup [SV.c (SC.v (Value.int IntKind.i64 (if (nmsE l).fst = (0 : Int) then (0 : Int) else (nmsE l).snd))), SV.c (SC.v (Value.int IntKind.i64 (nmsE l).fst))] = Ent.tup [SV.c (SC.v (Value.int IntKind.i64 (0 : Int))), SV.c (SC.v (Value.int IntKind.i64 (0 : Int)))]) := by
  have hp : l.length ≤ 1000000 := hpre
  refine ⟨⟨0, ⟨by omega, fun j hj => by omega⟩, ⟨rfl, trivial⟩, rfl⟩, fun k hk => br_iff.2 ⟨fun h => ?_, fun h => ?_⟩⟩
  · simp only [decide_eq_true_eq] at h
    have hN : (↑k : Int).toNat = k := by omega
    rw [hN]
    refine ⟨by omega, fun d hd => ?_⟩
    have hg : l.getD k ⟨#[]⟩ = d := by rw [List.getD_eq_getElem?_getD, hd]; rfl
    refine ⟨trivial, br_iff.2 ⟨fun h2 => ⟨rfl, ?_⟩, fun h2 => ⟨⟨0, ⟨by omega, fun j hj => by omega⟩, ⟨rfl, trivial⟩, rfl⟩, fun m hm => br_iff.2 ⟨fun h3 => ?_, fun h3 => ⟨InR_i64.2 (by omega), k + 1, ⟨by omega, fun j hj => ?_⟩, ⟨rfl, trivial⟩, rfl, by omega⟩⟩⟩⟩⟩
    · have h2 : validN d = false := by simpa using h2
      rw [nms_found (by omega) hk.2 (.inl (by rw [hg]; exact h2)), hg, h2]; rfl
    · simp only [decide_eq_true_eq] at h3
      have hM : (↑m : Int).toNat = m := by omega
      rw [hM]
      refine ⟨by omega, fun d1 hd1 => ⟨by omega, fun d2 hd2 => ?_⟩⟩
      rw [hd] at hd2; cases hd2
      have hg1 : l.getD m ⟨#[]⟩ = d1 := by rw [List.getD_eq_getElem?_getD, hd1]; rfl
      refine br_iff.2 ⟨fun h4 => ⟨rfl, ?_⟩, fun h4 => ⟨InR_i64.2 (by omega), m + 1, ⟨by omega, fun j hj => ?_⟩, ⟨rfl, trivial⟩, rfl, by omega⟩⟩
      · have h3' : hasS (l.take k) d = true := List.any_eq_true.2 ⟨d1, List.mem_of_getElem? (i := m) (by rw [List.getElem?_take_of_lt (by omega)]; exact hd1), h4⟩
        have h2v : validN d = true := by simpa using h2
        rw [nms_found (by omega) hk.2 (.inr (by rw [hg]; exact h3')), hg, h2v]; rfl
      · by_cases hjm : j = m
        · subst hjm
          rw [hg1, hg]; simpa using h4
        · exact hm.2 j (by omega)
    · simp only [decide_eq_false_iff_not] at h3
      by_cases hjk : j = k
      · subst hjk
        rw [hg]
        refine ⟨by simpa using h2, ?_⟩
        unfold hasS
        rw [List.any_eq_false]
        intro y hy
        obtain ⟨i, hi⟩ := List.getElem?_of_mem hy
        have hij : i < j := by
          have := (List.getElem?_eq_some_iff.1 hi).1
          simp at this; omega
        rw [List.getElem?_take_of_lt hij] at hi
        have := hm.2 i (by omega)
        rw [hg, List.getD_eq_getElem?_getD, hi] at this
        simpa using this
      · exact hk.2 j (by omega)
  · simp only [decide_eq_false_iff_not] at h
    rw [nms_none fun j hj => hk.2 j (by omega)]; exact ⟨rfl, rfl⟩
set_option maxHeartbeats 2000000 in
set_option maxRecDepth 100000 in
theorem f71_met : Go.Eng.Met Tryz.prog cx0.gd 71 ctrNms :=
  met_of (cx := cx0) (n := 34) (cl := cl71) (by kernel_rfl) tis_ok ⟨f94_met, trivial⟩ Tryz.func71 (by kernel_rfl) (by kernel_rfl) rfl (by kernel_rfl) (by kernel_rfl) fun d hd => by
    obtain ⟨l, ⟨⟩⟩ := d
    exact ex_of (ann71 l) (f71_vc l hd) (by kernel_rfl)
@[reducible] def ctrLs : CT := { ps := [shP], pre := fun d => d.1.1.length ≤ 1000000 ∧ d.1.2.2.2.1.length ≤ 1000000, res := fun d => ([.row 9 .str (nmsV d.1.1), .row 9 .str (nmsF d.1.2.2.2.1)], .tup [.c (.row 0), .c (.row 1)]) }
@[reducible] def cl70 : List (Nat × CT) := []
@[reducible] def ann70 (vs : List VD) (ms : List ByteArray) (cs : List ByteArray) (fs : List FD) (ts : List SD) : Nat → Option (St → Ann) := fun k => match k with
  | 3 => some fun _ => .inv { α := Nat, slots := fun k => [(6, .c (.v (.int .i64 k))), (4, .c (.row 1))], res := fun k => [(1, .row 9 .str (nmsV (vs.take k)))], inv := fun k => k ≤ vs.length, meas := fun k => vs.length - k, nil := [(4, 9, .str)] }
  | 7 => some fun _ => .inv { α := Nat, slots := fun k => [(7, .c (.v (.int .i64 k))), (5, .c (.row 2))], res := fun k => [(2, .row 9 .str (nmsF (fs.take k)))], inv := fun k => k ≤ fs.length, meas := fun k => fs.length - k, nil := [(5, 9, .str)] }
  | _ => none
set_option maxRecDepth 100000 in
theorem f70_vc (vs : List VD) (ms : List ByteArray) (cs : List ByteArray) (fs : List FD) (ts : List SD) (hpre : ctrLs.pre ((vs, ms, cs, fs, ts, ()), ())) :
    (∃ x, x ≤ vs.length ∧ (SV.c (SC.v (Value.int IntKind.i64 (0 : Int))) = SV.c (SC.v (Value.int IntKind.i64 (↑x : Int))) ∧ SV.c (SC.row (Nat.succ (0 : Nat))) = SV.c (SC.row (1 : Nat)) ∧ True) ∧ [(([] : Go.Eng.Gd), Res.blk (27 : Nat) [SC.sl (Sh.str.pair (I6.pair Sh.unit)) vs, SC.sl Sh.str ms, SC.sl Sh.str cs, SC.sl (Sh.str.pair (shI.sl.pair Sh.unit)) fs, SC.sl (I6.pair (I6.pair Sh.unit)) ts]), (([] : Go.Eng.Gd), Res.row (9 : TypeId) Sh.str [])] = [(([] : Go.Eng.Gd), Res.blk (27 : Nat) [SC.sl (Sh.str.pair (I6.pair Sh.unit)) vs, SC.sl Sh.str ms, SC.sl Sh.str cs, SC.sl (Sh.str.pair (shI.sl.pair Sh.unit)) fs, SC.sl (I6.pair (I6.pair Sh.unit)) ts]), (([] : Go.Eng.Gd), Res.row (9 : TypeId) Sh.str (nmsV (List.take x vs)))]) ∧ ∀ (x : Nat), x ≤ vs.length → br (decide ((↑x : Int) < (↑vs.length : Int))) (((0 : Int) ≤ (↑x : Int) ∧ (↑x : Int) < (↑vs.length : Int)) ∧ ∀ (d : Sh.str.den × (I6.pair Sh.unit).den), vs[(↑x : Int).toNat]? = some d → InA (List.length (nmsV (List.take x vs)) + List.length ([d.fst])) (16 : Nat) ∧ InR IntKind.i64 ((↑x : Int) + (1 : Int)) ∧ ∃ x', x' ≤ vs.length ∧ (SV.c (SC.v (Value.int IntKind.i64 ((↑x : Int) + (1 : Int)))) = SV.c (SC.v (Value.int IntKind.i64 (↑x' : Int))) ∧ SV.c (SC.row (1 : Nat)) = SV.c (SC.row (1 : Nat)) ∧ True) ∧ [(([] : Go.Eng.Gd), Res.blk (27 : Nat) [SC.sl (Sh.str.pair (I6.pair Sh.unit)) vs, SC.sl Sh.str ms, SC.sl Sh.str cs, SC.sl (Sh.str.pair (shI.sl.pair Sh.unit)) fs, SC.sl (I6.pair (I6.pair Sh.unit)) ts]), (([] : Go.Eng.Gd), Res.row (9 : TypeId) Sh.str (nmsV (List.take x vs) ++ [d.fst]))] = [(([] : Go.Eng.Gd), Res.blk (27 : Nat) [SC.sl (Sh.str.pair (I6.pair Sh.unit)) vs, SC.sl Sh.str ms, SC.sl Sh.str cs, SC.sl (Sh.str.pair (shI.sl.pair Sh.unit)) fs, SC.sl (I6.pair (I6.pair Sh.unit)) ts]), (([] : Go.Eng.Gd), Res.row (9 : TypeId) Sh.str (nmsV (List.take x' vs)))] ∧ vs.length - x' < vs.length - x) ((∃ x_1, x_1 ≤ fs.length ∧ (SV.c (SC.v (Value.int IntKind.i64 (0 : Int))) = SV.c (SC.v (Value.int IntKind.i64 (↑x_1 : Int))) ∧ SV.c (SC.row (Nat.succ (0 : Nat)).succ) = SV.c (SC.row (2 : Nat)) ∧ True) ∧ [(([] : Go.Eng.Gd), Res.blk (27 : Nat) [SC.sl (Sh.str.pair (I6.pair Sh.unit)) vs, SC.sl Sh.str ms, SC.sl Sh.str cs, SC.sl (Sh.str.pair (shI.sl.pair Sh.unit)) fs, SC.sl (I6.pair (I6.pair Sh.unit)) ts]), (([] : Go.Eng.Gd), Res.row (9 : TypeId) Sh.str (nmsV (List.take x vs))), (([] : Go.Eng.Gd), Res.row (9 : TypeId) Sh.str [])] = [(([] : Go.Eng.Gd), Res.blk (27 : Nat) [SC.sl (Sh.str.pair (I6.pair Sh.unit)) vs, SC.sl Sh.str ms, SC.sl Sh.str cs, SC.sl (Sh.str.pair (shI.sl.pair Sh.unit)) fs, SC.sl (I6.pair (I6.pair Sh.unit)) ts]), (([] : Go.Eng.Gd), Res.row (9 : TypeId) Sh.str (nmsV (List.take x vs))), (([] : Go.Eng.Gd), Res.row (9 : TypeId) Sh.str (nmsF (List.take x_1 fs)))]) ∧ ∀ (x_1 : Nat), x_1 ≤ fs.length → br (decide ((↑x_1 : Int) < (↑fs.length : Int))) (((0 : Int) ≤ (↑x_1 : Int) ∧ (↑x_1 : Int) < (↑fs.length : Int)) ∧ ∀ (d : Sh.str.den × (shI.sl.pair Sh.unit).den), fs[(↑x_1 : Int).toNat]? = some d → InA (List.length (nmsF (List.take x_1 fs)) + List.length ([d.fst])) (16 : Nat) ∧ InR IntKind.i64 ((↑x_1 : Int) + (1 : Int)) ∧ ∃ x', x' ≤ fs.length ∧ (SV.c (SC.v (Value.int IntKind.i64 ((↑x_1 : Int) + (1 : Int)))) = SV.c (SC.v (Value.int IntKind.i64 (↑x' : Int))) ∧ SV.c (SC.row (2 : Nat)) = SV.c (SC.row (2 : Nat)) ∧ True) ∧ [(([] : Go.Eng.Gd), Res.blk (27 : Nat) [SC.sl (Sh.str.pair (I6.pair Sh.unit)) vs, SC.sl Sh.str ms, SC.sl Sh.str cs, SC.sl (Sh.str.pair (shI.sl.pair Sh.unit)) fs, SC.sl (I6.pair (I6.pair Sh.unit)) ts]), (([] : Go.Eng.Gd), Res.row (9 : TypeId) Sh.str (nmsV (List.take x vs))), (([] : Go.Eng.Gd), Res.row (9 : TypeId) Sh.str (nmsF (List.take x_1 fs) ++ [d.fst]))] = [(([] : Go.Eng.Gd), Res.blk (27 : Nat) [SC.sl (Sh.str.pair (I6.pair Sh.unit)) vs, SC.sl Sh.str ms, SC.sl Sh.str cs, SC.sl (Sh.str.pair (shI.sl.pair Sh.unit)) fs, SC.sl (I6.pair (I6.pair Sh.unit)) ts]), (([] : Go.Eng.Gd), Res.row (9 : TypeId) Sh.str (nmsV (List.take x vs))), (([] : Go.Eng.Gd), Res.row (9 : TypeId) Sh.str (nmsF (List.take x' fs)))] ∧ fs.length - x' < fs.length - x_1) ([Res.row (9 : TypeId) Sh.str (nmsV vs), Res.row (9 : TypeId) Sh.str (nmsF fs)] = [Res.row (9 : TypeId) Sh.str (nmsV (List.take x vs)), Res.row (9 : TypeId) Sh.str (nmsF (List.take x_1 fs))] ∧ Ent.tup [SV.c (SC.row (0 : Nat)), SV.c (SC.row (1 : Nat))] = Ent.tup [SV.c (SC.row (0 : Nat)), SV.c (SC.row (Nat.succ (0 : Nat)))])) := by
  obtain ⟨hp1, hp2⟩ : vs.length ≤ 1000000 ∧ fs.length ≤ 1000000 := hpre
  refine ⟨⟨0, by omega, ⟨rfl, rfl, trivial⟩, rfl⟩, fun k hk => br_iff.2 ⟨fun h => ?_, fun h => ⟨⟨0, by omega, ⟨rfl, rfl, trivial⟩, rfl⟩, fun m hm => br_iff.2 ⟨fun h2 => ?_, fun h2 => ?_⟩⟩⟩⟩
  · simp only [decide_eq_true_eq] at h
    refine ⟨by omega, fun d hd => ?_⟩
    have hd : vs[k]? = some d := by simpa using hd
    have e : nmsV (vs.take (k + 1)) = nmsV (vs.take k) ++ [d.1] := by
      unfold nmsV
      rw [List.take_add_one, hd]; simp
    refine ⟨?_, InR_i64.2 (by omega), k + 1, by omega, ⟨rfl, rfl, trivial⟩, ?_, by omega⟩
    · have : (nmsV (vs.take k)).length ≤ 1000000 := by simp [nmsV]; omega
      exact InA_iff.2 (by simp only [List.length_cons, List.length_nil]; omega)
    · rw [e]
  · simp only [decide_eq_true_eq] at h2
    refine ⟨by omega, fun d hd => ?_⟩
    have hd : fs[m]? = some d := by simpa using hd
    have e : nmsF (fs.take (m + 1)) = nmsF (fs.take m) ++ [d.1] := by
      unfold nmsF
      rw [List.take_add_one, hd]; simp
    refine ⟨?_, InR_i64.2 (by omega), m + 1, by omega, ⟨rfl, rfl, trivial⟩, ?_, by omega⟩
    · have : (nmsF (fs.take m)).length ≤ 1000000 := by simp [nmsF]; omega
      exact InA_iff.2 (by simp only [List.length_cons, List.length_nil]; omega)
    · rw [e]
  · simp only [decide_eq_false_iff_not] at h h2
    rw [List.take_of_length_le (by omega), List.take_of_length_le (by omega)]; exact ⟨rfl, rfl⟩
set_option maxHeartbeats 2000000 in
set_option maxRecDepth 100000 in
theorem f70_met : Go.Eng.Met Tryz.prog cx0.gd 70 ctrLs :=
  met_of (cx := cx0) (n := 42) (cl := cl70) (by kernel_rfl) tis_ok trivial Tryz.func70 (by kernel_rfl) (by kernel_rfl) rfl (by kernel_rfl) (by kernel_rfl) fun d hd => by
    obtain ⟨⟨vs, ms, cs, fs, ts, ⟨⟩⟩, ⟨⟩⟩ := d
    exact ex_of (ann70 vs ms cs fs ts) (f70_vc vs ms cs fs ts hd) (by kernel_rfl)
/-- The first fault of a function's code, and its place. -/
def cdS (vs : List VD) (ms cs : List ByteArray) (fs : List FD) (l : List ID) : Int × Int := if 64 < l.length then (4, -1) else match l.findIdx? (fun i => decide (ciI vs ms cs fs i l.length ≠ 0)) with
  | some k => (ciI vs ms cs fs (l.getD k (0, 0, 0, 0, 0, 0, 0, 0, ())) l.length, k)
  | none => (0, -1)
theorem cd_found {vs : List VD} {ms cs : List ByteArray} {fs : List FD} {l : List ID} {k : Nat} {d : ID} (hl : ¬ 64 < l.length) (hd : l[k]? = some d) (hb : ciI vs ms cs fs d l.length ≠ 0) (hn : ∀ j < k, ∀ i, l[j]? = some i → ciI vs ms cs fs i l.length = 0) : cdS vs ms cs fs l = (ciI vs ms cs fs d l.length, (k : Int)) := by
  have hlt : k < l.length := (List.getElem?_eq_some_iff.1 hd).1
  have : l.findIdx? (fun i => decide (ciI vs ms cs fs i l.length ≠ 0)) = some k := by
    rw [List.findIdx?_eq_some_iff_getElem]
    refine ⟨hlt, by rw [(List.getElem?_eq_some_iff.1 hd).2]; simpa using hb, fun j hj => ?_⟩
    have := hn j hj l[j] (List.getElem?_eq_getElem (by omega))
    simpa using this
  unfold cdS
  rw [if_neg hl, this]
  show (ciI vs ms cs fs (l.getD k _) l.length, (k : Int)) = _
  rw [List.getD_eq_getElem?_getD, hd]; rfl
theorem cd_none {vs : List VD} {ms cs : List ByteArray} {fs : List FD} {l : List ID} (hl : ¬ 64 < l.length) (hn : ∀ (j : Nat) i, l[j]? = some i → ciI vs ms cs fs i l.length = 0) : cdS vs ms cs fs l = (0, -1) := by
  have : l.findIdx? (fun i => decide (ciI vs ms cs fs i l.length ≠ 0)) = none := by
    rw [List.findIdx?_eq_none_iff]
    intro y hy
    obtain ⟨j, hj⟩ := List.getElem?_of_mem hy
    simpa using hn j y hj
  unfold cdS
  rw [if_neg hl, this]
theorem ci_1 {vs : List VD} {ms cs : List ByteArray} {fs : List FD} {d : ID} {m : Int} (h : chkI d ≠ 0) : ciI vs ms cs fs d m = chkI d := by unfold ciI ciS; rw [if_pos h]
theorem ci_2 {vs : List VD} {ms cs : List ByteArray} {fs : List FD} {d : ID} {m : Int} (h : chkI d = 0) (h2 : exS vs ms cs fs d.1 d.2.2.2.2.1 d.2.2.2.2.2.1 = false) : ciI vs ms cs fs d m = 11 := by
  unfold exS at h2
  unfold ciI ciS
  rw [if_neg (by simpa using h)]
  split
  · rfl
  · rename_i h3
    rw [decide_eq_false h3] at h2
    rw [Bool.not_false, Bool.true_and, Bool.not_eq_false'] at h2
    rw [if_pos (of_decide_eq_true h2)]
theorem ci_3 {vs : List VD} {ms cs : List ByteArray} {fs : List FD} {d : ID} {m : Int} (h : chkI d = 0) (h2 : exS vs ms cs fs d.1 d.2.2.2.2.1 d.2.2.2.2.2.1 = true) : ciI vs ms cs fs d m = if (d.1 = 4 ∨ d.1 = 5) ∧ (d.2.2.2.2.2.1 < 0 ∨ m < d.2.2.2.2.2.1) then 12 else 0 := by
  unfold exS at h2
  rw [Bool.and_eq_true, Bool.not_eq_true', Bool.not_eq_true'] at h2
  unfold ciI ciS
  rw [if_neg (by simpa using h), if_neg (of_decide_eq_false h2.1), if_neg (of_decide_eq_false h2.2)]
@[reducible] def ctrCd : CT := { ps := [shP, shF], pre := fun d => True, res := fun d => ([], .tup [.c (.v (.int .i64 (cdS d.1.1 d.1.2.1 d.1.2.2.1 d.1.2.2.2.1 d.2.1.2.1).1)), .c (.v (.int .i64 (cdS d.1.1 d.1.2.1 d.1.2.2.1 d.1.2.2.2.1 d.2.1.2.1).2))]) }
@[reducible] def cl73 : List (Nat × CT) := [(58, ct12), (95, ctrEx)]
@[reducible] def ann73 (vs : List VD) (ms : List ByteArray) (cs : List ByteArray) (fs : List FD) (ts : List SD) (nm : ByteArray) (l : List ID) : Nat → Option (St → Ann) := fun k => match k with
  | 4 => some fun _ => .inv { α := Nat, slots := fun k => [(6, .c (.v (.int .i64 k)))], res := fun k => [], inv := fun k => k ≤ (l).length ∧ ∀ j < k, ∀ i, l[j]? = some i → ciI vs ms cs fs i l.length = 0, meas := fun k => (l).length - k }
  | _ => none
set_option maxRecDepth 100000 in
theorem f73_vc (vs : List VD) (ms : List ByteArray) (cs : List ByteArray) (fs : List FD) (ts : List SD) (nm : ByteArray) (l : List ID) :
    br (decide ((64 : Int) < (↑l.length : Int))) (([] : List Go.Eng.Res) = [] ∧ Ent.tup [SV.c (SC.v (Value.int IntKind.i64 (cdS vs ms cs fs l).fst)), SV.c (SC.v (Value.int IntKind.i64 (cdS vs ms cs fs l).snd))] = Ent.tup [SV.c (SC.v (Value.int IntKind.i64 (4 : Int))), SV.c (SC.v (Value.int IntKind.i64 (-1 : Int)))]) ((∃ x, (x ≤ l.length ∧ ∀ (j : Nat), j < x → ∀ (i : Int × Int × Int × Int × Int × Int × Int × Int × Unit), l[j]? = some i → ciS vs ms cs fs (chkS i.fst i.snd.fst i.snd.snd.fst i.snd.snd.snd.fst i.snd.snd.snd.snd.fst i.snd.snd.snd.snd.snd.fst i.snd.snd.snd.snd.snd.snd.fst i.snd.snd.snd.snd.snd.snd.snd.fst) i.fst i.snd.snd.snd.snd.fst i.snd.snd.snd.snd.snd.fst (↑l.length : Int) = (0 : Int)) ∧ (SV.c (SC.v (Value.int IntKind.i64 (0 : Int))) = SV.c (SC.v (Value.int IntKind.i64 (↑x : Int))) ∧ True) ∧ [(([] : Go.Eng.Gd), Res.blk (27 : Nat) [SC.sl (Sh.str.pair (I6.pair Sh.unit)) vs, SC.sl Sh.str ms, SC.sl Sh.str cs, SC.sl (Sh.str.pair (shI.sl.pair Sh.unit)) fs, SC.sl (I6.pair (I6.pair Sh.unit)) ts]), (([] : Go.Eng.Gd), Res.blk (58 : Nat) [SC.v (Value.string nm), SC.sl shI l])] = [(([] : Go.Eng.Gd), Res.blk (27 : Nat) [SC.sl (Sh.str.pair (I6.pair Sh.unit)) vs, SC.sl Sh.str ms, SC.sl Sh.str cs, SC.sl (Sh.str.pair (shI.sl.pair Sh.unit)) fs, SC.sl (I6.pair (I6.pair Sh.unit)) ts]), (([] : Go.Eng.Gd), Res.blk (58 : Nat) [SC.v (Value.string nm), SC.sl shI l])]) ∧ ∀ (x : Nat), (x ≤ l.length ∧ ∀ (j : Nat), j < x → ∀ (i : Int × Int × Int × Int × Int × Int × Int × Int × Unit), l[j]? = some i → ciS vs ms cs fs (chkS i.fst i.snd.fst i.snd.snd.fst i.snd.snd.snd.fst i.snd.snd.snd.snd.fst i.snd.snd.snd.snd.snd.fst i.snd.snd.snd.snd.snd.snd.fst i.snd.snd.snd.snd.snd.snd.snd.fst) i.fst i.snd.snd.snd.snd.fst i.snd.snd.snd.snd.snd.fst (↑l.length : Int) = (0 : Int)) → br (decide ((↑x : Int) < (↑l.length : Int))) (((0 : Int) ≤ (↑x : Int) ∧ (↑x : Int) < (↑l.length : Int)) ∧ ∀ (d : I6.den × (I6.pair (I6.pair (I6.pair (I6.pair (I6.pair (I6.pair (I6.pair Sh.unit))))))).den), l[(↑x : Int).toNat]? = some d → True ∧ br (!decide (chkS (d.fst, d.snd.fst, d.snd.snd.fst, d.snd.snd.snd.fst, d.snd.snd.snd.snd.fst, d.snd.snd.snd.snd.snd.fst, d.snd.snd.snd.snd.snd.snd.fst, d.snd.snd.snd.snd.snd.snd.snd.fst, ()).fst (d.snd.fst, d.snd.snd.fst, d.snd.snd.snd.fst, d.snd.snd.snd.snd.fst, d.snd.snd.snd.snd.snd.fst, d.snd.snd.snd.snd.snd.snd.fst, d.snd.snd.snd.snd.snd.snd.snd.fst, ()).fst (d.snd.snd.fst, d.snd.snd.snd.fst, d.snd.snd.snd.snd.fst, d.snd.snd.snd.snd.snd.fst, d.snd.snd.snd.snd.snd.snd.fst, d.snd.snd.snd.snd.snd.snd.snd.fst, ()).fst (d.snd.snd.snd.fst, d.snd.snd.snd.snd.fst, d.snd.snd.snd.snd.snd.fst, d.snd.snd.snd.snd.snd.snd.fst, d.snd.snd.snd.snd.snd.snd.snd.fst, ()).fst (d.snd.snd.snd.snd.fst, d.snd.snd.snd.snd.snd.fst, d.snd.snd.snd.snd.snd.snd.fst, d.snd.snd.snd.snd.snd.snd.snd.fst, ()).fst (d.snd.snd.snd.snd.snd.fst, d.snd.snd.snd.snd.snd.snd.fst, d.snd.snd.snd.snd.snd.snd.snd.fst, ()).fst (d.snd.snd.snd.snd.snd.snd.fst, d.snd.snd.snd.snd.snd.snd.snd.fst, ()).fst (d.snd.snd.snd.snd.snd.snd.snd.fst, ()).fst = (0 : Int))) (([] : List Go.Eng.Res) = [] ∧ Ent.tup [SV.c (SC.v (Value.int IntKind.i64 (cdS vs ms cs fs l).fst)), SV.c (SC.v (Value.int IntKind.i64 (cdS vs ms cs fs l).snd))] = Ent.tup [SV.c (SC.v (Value.int IntKind.i64 (chkS (d.fst, d.snd.fst, d.snd.snd.fst, d.snd.snd.snd.fst, d.snd.snd.snd.snd.fst, d.snd.snd.snd.snd.snd.fst, d.snd.snd.snd.snd.snd.snd.fst, d.snd.snd.snd.snd.snd.snd.snd.fst, ()).fst (d.snd.fst, d.snd.snd.fst, d.snd.snd.snd.fst, d.snd.snd.snd.snd.fst, d.snd.snd.snd.snd.snd.fst, d.snd.snd.snd.snd.snd.snd.fst, d.snd.snd.snd.snd.snd.snd.snd.fst, ()).fst (d.snd.snd.fst, d.snd.snd.snd.fst, d.snd.snd.snd.snd.fst, d.snd.snd.snd.snd.snd.fst, d.snd.snd.snd.snd.snd.snd.fst, d.snd.snd.snd.snd.snd.snd.snd.fst, ()).fst (d.snd.snd.snd.fst, d.snd.snd.snd.snd.fst, d.snd.snd.snd.snd.snd.fst, d.snd.snd.snd.snd.snd.snd.fst, d.snd.snd.snd.snd.snd.snd.snd.fst, ()).fst (d.snd.snd.snd.snd.fst, d.snd.snd.snd.snd.snd.fst, d.snd.snd.snd.snd.snd.snd.fst, d.snd.snd.snd.snd.snd.snd.snd.fst, ()).fst (d.snd.snd.snd.snd.snd.fst, d.snd.snd.snd.snd.snd.snd.fst, d.snd.snd.snd.snd.snd.snd.snd.fst, ()).fst (d.snd.snd.snd.snd.snd.snd.fst, d.snd.snd.snd.snd.snd.snd.snd.fst, ()).fst (d.snd.snd.snd.snd.snd.snd.snd.fst, ()).fst))), SV.c (SC.v (Value.int IntKind.i64 (↑x : Int)))]) (True ∧ br (!exS vs ms cs fs (d.fst, d.snd.fst, d.snd.snd.fst, d.snd.snd.snd.fst, d.snd.snd.snd.snd.fst, d.snd.snd.snd.snd.snd.fst, d.snd.snd.snd.snd.snd.snd.fst, d.snd.snd.snd.snd.snd.snd.snd.fst, ()).fst (d.snd.snd.snd.snd.fst, d.snd.snd.snd.snd.snd.fst, d.snd.snd.snd.snd.snd.snd.fst, d.snd.snd.snd.snd.snd.snd.snd.fst, ()).fst (d.snd.snd.snd.snd.snd.fst, d.snd.snd.snd.snd.snd.snd.fst, d.snd.snd.snd.snd.snd.snd.snd.fst, ()).fst) (([] : List Go.Eng.Res) = [] ∧ Ent.tup [SV.c (SC.v (Value.int IntKind.i64 (cdS vs ms cs fs l).fst)), SV.c (SC.v (Value.int IntKind.i64 (cdS vs ms cs fs l).snd))] = Ent.tup [SV.c (SC.v (Value.int IntKind.i64 (11 : Int))), SV.c (SC.v (Value.int IntKind.i64 (↑x : Int)))]) (br ((decide (d.fst = (4 : Int)) || decide (d.fst = (5 : Int))) && (decide (d.snd.snd.snd.snd.snd.fst < (0 : Int)) || decide ((↑l.length : Int) < d.snd.snd.snd.snd.snd.fst))) (([] : List Go.Eng.Res) = [] ∧ Ent.tup [SV.c (SC.v (Value.int IntKind.i64 (cdS vs ms cs fs l).fst)), SV.c (SC.v (Value.int IntKind.i64 (cdS vs ms cs fs l).snd))] = Ent.tup [SV.c (SC.v (Value.int IntKind.i64 (12 : Int))), SV.c (SC.v (Value.int IntKind.i64 (↑x : Int)))]) (InR IntKind.i64 ((↑x : Int) + (1 : Int)) ∧ ∃ x', (x' ≤ l.length ∧ ∀ (j : Nat), j < x' → ∀ (i : Int × Int × Int × Int × Int × Int × Int × Int × Unit), l[j]? = some i → ciS vs ms cs fs (chkS i.fst i.snd.fst i.snd.snd.fst i.snd.snd.snd.fst i.snd.snd.snd.snd.fst i.snd.snd.snd.snd.snd.fst i.snd.snd.snd.snd.snd.snd.fst i.snd.snd.snd.snd.snd.snd.snd.fst) i.fst i.snd.snd.snd.snd.fst i.snd.snd.snd.snd.snd.fst (↑l.length : Int) = (0 : Int)) ∧ (SV.c (SC.v (Value.int IntKind.i64 ((↑x : Int) + (1 : Int)))) = SV.c (SC.v (Value.int IntKind.i64 (↑x' : Int))) ∧ True) ∧ [(([] : Go.Eng.Gd), Res.blk (27 : Nat) [SC.sl (Sh.str.pair (I6.pair Sh.unit)) vs, SC.sl Sh.str ms, SC.sl Sh.str cs, SC.sl (Sh.str.pair (shI.sl.pair Sh.unit)) fs, SC.sl (I6.pair (I6.pair Sh.unit)) ts]), (([] : Go.Eng.Gd), Res.blk (58 : Nat) [SC.v (Value.string nm), SC.sl shI l])] = [(([] : Go.Eng.Gd), Res.blk (27 : Nat) [SC.sl (Sh.str.pair (I6.pair Sh.unit)) vs, SC.sl Sh.str ms, SC.sl Sh.str cs, SC.sl (Sh.str.pair (shI.sl.pair Sh.unit)) fs, SC.sl (I6.pair (I6.pair Sh.unit)) ts]), (([] : Go.Eng.Gd), Res.blk (58 : Nat) [SC.v (Value.string nm), SC.sl shI l])] ∧ l.length - x' < l.length - x)))) (([] : List Go.Eng.Res) = [] ∧ Ent.tup [SV.c (SC.v (Value.int IntKind.i64 (cdS vs ms cs fs l).fst)), SV.c (SC.v (Value.int IntKind.i64 (cdS vs ms cs fs l).snd))] = Ent.tup [SV.c (SC.v (Value.int IntKind.i64 (0 : Int))), SV.c (SC.v (Value.int IntKind.i64 (-1 : Int)))])) := by
  by_cases hc : 64 < l.length
  · have e : cdS vs ms cs fs l = (4, -1) := by unfold cdS; rw [if_pos hc]
    rw [e]
    refine br_iff.2 ⟨fun _ => ⟨rfl, rfl⟩, fun h => ?_⟩
    simp only [decide_eq_false_iff_not] at h
    omega
  refine br_iff.2 ⟨fun h => ?_, fun _ => ⟨⟨0, ⟨by omega, fun j hj => by omega⟩, ⟨rfl, trivial⟩, rfl⟩, fun k hk => br_iff.2 ⟨fun h => ?_, fun h => ?_⟩⟩⟩
  · simp only [decide_eq_true_eq] at h
    omega
  · simp only [decide_eq_true_eq] at h
    have hN : (↑k : Int).toNat = k := by omega
    rw [hN]
    refine ⟨by omega, fun d hd => ⟨trivial, br_iff.2 ⟨fun h2 => ⟨rfl, ?_⟩, fun h2 => ⟨trivial, br_iff.2 ⟨fun h3 => ⟨rfl, ?_⟩, fun h3 => br_iff.2 ⟨fun h4 => ⟨rfl, ?_⟩, fun h4 => ⟨InR_i64.2 (by omega), k + 1, ⟨by omega, fun j hj i hi => ?_⟩, ⟨rfl, trivial⟩, rfl, by omega⟩⟩⟩⟩⟩⟩⟩
    · have h2 : chkI d ≠ 0 := by simpa using h2
      rw [cd_found hc hd (by rw [ci_1 h2]; exact h2) hk.2, ci_1 h2]
    all_goals have h2 : chkI d = 0 := by simpa using h2
    · have h3 : exS vs ms cs fs d.1 d.2.2.2.2.1 d.2.2.2.2.2.1 = false := by simpa using h3
      have e := ci_2 (m := (l.length : Int)) h2 h3
      rw [cd_found hc hd (by rw [e]; simp) hk.2, e]
    all_goals have h3 : exS vs ms cs fs d.1 d.2.2.2.2.1 d.2.2.2.2.2.1 = true := by simpa using h3
    all_goals have e := ci_3 (m := (l.length : Int)) h2 h3
    · rw [if_pos (by simpa using h4)] at e
      rw [cd_found hc hd (by rw [e]; simp) hk.2, e]
    · by_cases hjk : j = k
      · subst hjk
        rw [hd] at hi; cases hi
        rw [if_neg (fun q => by
          have : ((decide (d.1 = 4) || decide (d.1 = 5)) && (decide (d.2.2.2.2.2.1 < 0) || decide ((l.length : Int) < d.2.2.2.2.2.1))) = true := by simpa using q
          rw [h4] at this; cases this)] at e
        exact e
      · exact hk.2 j (by omega) i hi
  · simp only [decide_eq_false_iff_not] at h
    rw [cd_none hc fun j i hj => hk.2 j (by have := (List.getElem?_eq_some_iff.1 hj).1; omega) i hj]; exact ⟨rfl, rfl⟩
set_option maxHeartbeats 2000000 in
set_option maxRecDepth 100000 in
theorem f73_met : Go.Eng.Met Tryz.prog cx0.gd 73 ctrCd :=
  met_of (cx := cx0) (n := 58) (cl := cl73) (by kernel_rfl) tis_ok ⟨f58_met, f95_met, trivial⟩ Tryz.func73 (by kernel_rfl) (by kernel_rfl) rfl (by kernel_rfl) (by kernel_rfl) fun d hd => by
    obtain ⟨⟨vs, ms, cs, fs, ts, ⟨⟩⟩, ⟨nm, l, ⟨⟩⟩, ⟨⟩⟩ := d
    exact ex_of (ann73 vs ms cs fs ts nm l) (f73_vc vs ms cs fs ts nm l) (by kernel_rfl)
end Go.Proofs.YtklnffdjhoacoaaGreatDoor
set_option linter.unusedSimpArgs false
set_option linter.unusedVariables false
namespace Go.Proofs.YtklnffdjhoacoaaGreatDoor
open Go Go.Eng

theorem instG_cut : ∀ (i : Nat) (l : List FD) (n : Nat) {x : FD}, l[i]? = some x → instG n l = instG n (l.take i) ++ (instF (n + i) x ++ instG (n + i + 1) (l.drop (i + 1)))
  | 0, [], n, x, h => by simp at h
  | 0, y :: l, n, x, h => by
    simp at h; subst h
    simp [instG]
  | i + 1, [], n, x, h => by simp at h
  | i + 1, y :: l, n, x, h => by
    have := instG_cut i l (n + 1) (x := x) (by simpa using h)
    simp only [List.take_succ_cons, List.drop_succ_cons, instG]
    rw [this, List.append_assoc, show n + 1 + i = n + (i + 1) by omega]
theorem instF_get' {n : Nat} {x : FD} {k : Nat} {d : dens [shS, shI]} (h : (instF n x)[k]? = some d) : ∃ e, x.2.1[k]? = some e ∧ d = (((n : Int), (k : Int), ()), e, ()) := by
  unfold instF at h
  rw [List.getElem?_map, List.getElem?_zipIdx] at h
  cases he : x.2.1[k]? with
  | none => rw [he] at h; simp at h
  | some e => rw [he] at h; simp at h; exact ⟨e, rfl, h.symm⟩
/-- A function's code without a fault. -/
theorem cd_zero {vs : List VD} {ms cs : List ByteArray} {fs : List FD} {l : List ID} (h : (cdS vs ms cs fs l).1 = 0) : l.length ≤ 64 ∧ ∀ (j : Nat) i, l[j]? = some i → ciI vs ms cs fs i l.length = 0 := by
  by_cases hl : 64 < l.length
  · unfold cdS at h; rw [if_pos hl] at h; simp at h
  refine ⟨by omega, ?_⟩
  cases hf : l.findIdx? (fun i => decide (ciI vs ms cs fs i l.length ≠ 0)) with
  | none =>
    rw [List.findIdx?_eq_none_iff] at hf
    intro j i hj
    simpa using hf i (List.mem_of_getElem? hj)
  | some k =>
    unfold cdS at h; rw [if_neg hl, hf] at h
    rw [List.findIdx?_eq_some_iff_getElem] at hf
    obtain ⟨hk, h1, _⟩ := hf
    have e : l.getD k (0, 0, 0, 0, 0, 0, 0, 0, ()) = l[k] := by rw [List.getD_eq_getElem?_getD, List.getElem?_eq_getElem hk]; rfl
    have h : ciI vs ms cs fs (l.getD k (0, 0, 0, 0, 0, 0, 0, 0, ())) l.length = 0 := h
    rw [e] at h
    simp [h] at h1
theorem cd_some {vs : List VD} {ms cs : List ByteArray} {fs : List FD} {l : List ID} (hl : ¬ 64 < l.length) (h : (cdS vs ms cs fs l).1 ≠ 0) : ∃ (k : Nat) (e : ID), l[k]? = some e ∧ ciI vs ms cs fs e l.length ≠ 0 ∧ (∀ j < k, ∀ i, l[j]? = some i → ciI vs ms cs fs i l.length = 0) ∧ cdS vs ms cs fs l = (ciI vs ms cs fs e l.length, (k : Int)) := by
  cases hf : l.findIdx? (fun i => decide (ciI vs ms cs fs i l.length ≠ 0)) with
  | none =>
    unfold cdS at h; rw [if_neg hl, hf] at h; exact absurd rfl h
  | some k =>
    rw [List.findIdx?_eq_some_iff_getElem] at hf
    obtain ⟨hk, h1, h2⟩ := hf
    have hn : ∀ j < k, ∀ i, l[j]? = some i → ciI vs ms cs fs i l.length = 0 := fun j hj i hi => by
      have := h2 j hj
      rw [(List.getElem?_eq_some_iff.1 hi).2] at this
      simpa using this
    have h1 : ciI vs ms cs fs l[k] l.length ≠ 0 := by simpa using h1
    exact ⟨k, l[k], List.getElem?_eq_getElem hk, h1, hn, cd_found hl (List.getElem?_eq_getElem hk) h1 hn⟩
theorem ce_at {vs : List VD} {ms cs : List ByteArray} {fs : List FD} {k : Nat} {x : FD} (hx : fs[k]? = some x) (j : Int) (e : ID) : ceI vs ms cs fs (((k : Int), j, ()), e, ()) = ciI vs ms cs fs e x.2.1.length := ce_of (d := (((k : Int), j, ()), e, ())) (by simpa using hx)
theorem long_bound {fs : List FD} {i : Nat} (hn : ∀ j < i, ∀ f, fs[j]? = some f → f.2.1.length ≤ 64) : longS fs = -1 ∨ (i : Int) ≤ longS fs := by
  unfold longS
  cases hf : fs.findIdx? (fun f => decide (64 < f.2.1.length)) with
  | none => exact .inl rfl
  | some k =>
    refine .inr ?_
    rw [List.findIdx?_eq_some_iff_getElem] at hf
    obtain ⟨hk, h1, _⟩ := hf
    show (i : Int) ≤ (k : Int)
    by_cases hki : k < i
    · have := hn k hki _ (List.getElem?_eq_getElem hk)
      simp at h1; omega
    · omega
/-- The first function with a fault, and its fault. -/
theorem cc_first {vs : List VD} {ms cs : List ByteArray} {fs : List FD} {i : Nat} {f : FD} (hf : fs[i]? = some f) (h : (cdS vs ms cs fs f.2.1).1 ≠ 0) (hn : ∀ j < i, ∀ g, fs[j]? = some g → (cdS vs ms cs fs g.2.1).1 = 0) :
    ccS vs ms cs fs = ((cdS vs ms cs fs f.2.1).1, (i : Int), (cdS vs ms cs fs f.2.1).2) := by
  have hb := long_bound (fs := fs) (i := i) fun j hj g hg => (cd_zero (hn j hj g hg)).1
  have hpre : (instG 0 (fs.take i)).find? (fun d => decide (d.1.1 = longS fs) || decide (ceI vs ms cs fs d ≠ 0)) = none := by
    rw [List.find?_eq_none]
    intro d hd
    obtain ⟨k, x, j, e, h1, h2, rfl⟩ := instG_mem _ _ hd
    have hk : k < i := by have := (List.getElem?_eq_some_iff.1 h1).1; simp at this; omega
    rw [List.getElem?_take_of_lt hk] at h1
    have hz := (cd_zero (hn k hk x h1)).2 j e h2
    rw [show (0 + k : Nat) = k by omega, ce_at h1, hz]
    have : ¬ ((k : Int) = longS fs) := by omega
    simp [this]
  have hcut := instG_cut i fs 0 hf
  have key : ∀ {k : Nat} {e : ID}, f.2.1[k]? = some e → ((i : Int) = longS fs ∨ ciI vs ms cs fs e f.2.1.length ≠ 0) → (∀ j < k, ∀ u, f.2.1[j]? = some u → (i : Int) ≠ longS fs ∧ ciI vs ms cs fs u f.2.1.length = 0) →
      (instL fs).find? (fun d => decide (d.1.1 = longS fs) || decide (ceI vs ms cs fs d ≠ 0)) = some (((i : Int), (k : Int), ()), e, ()) := by
    intro k e he hbad hok
    unfold instL
    rw [hcut, List.find?_append, hpre, Option.none_or, List.find?_append, show (0 + i : Nat) = i by omega]
    rw [find_first (k := k) (instF_get he) (by rw [ce_at hf]; simpa using hbad) fun j hj t ht => by
      obtain ⟨u, hu, rfl⟩ := instF_get' ht
      obtain ⟨a, b⟩ := hok j hj u hu
      rw [ce_at hf, b]; simp [a]]
    rfl
  by_cases hl : 64 < f.2.1.length
  · have e1 : longS fs = i := long_found hf hl fun j hj g hg => (cd_zero (hn j hj g hg)).1
    have hlt : 0 < f.2.1.length := by omega
    have := key (k := 0) (List.getElem?_eq_getElem hlt) (.inl e1.symm) (fun j hj => by omega)
    unfold ccS
    rw [this]
    show (if (i : Int) = longS fs then _ else _) = _
    rw [if_pos e1.symm, e1]
    unfold cdS; rw [if_pos hl]
  · obtain ⟨k, e, h1, h2, h3, h4⟩ := cd_some hl h
    have hne : (i : Int) ≠ longS fs := by
      intro q
      have := long_none (fs := fs)
      unfold longS at q
      cases hfi : fs.findIdx? (fun f => decide (64 < f.2.1.length)) with
      | none => rw [hfi] at q; simp at q
      | some m =>
        rw [hfi] at q
        rw [List.findIdx?_eq_some_iff_getElem] at hfi
        obtain ⟨hm, a, _⟩ := hfi
        have q : i = m := by have q : (i : Int) = (m : Int) := q; omega
        subst q
        rw [(List.getElem?_eq_some_iff.1 hf).2] at a
        simp at a; omega
    have := key h1 (.inr h2) (fun j hj u hu => ⟨hne, h3 j hj u hu⟩)
    unfold ccS
    rw [this]
    show (if (i : Int) = longS fs then _ else (ceI vs ms cs fs _, (i : Int), (k : Int))) = _
    rw [if_neg hne, ce_at hf, h4]
theorem cc_zero {vs : List VD} {ms cs : List ByteArray} {fs : List FD} (hn : ∀ (j : Nat) g, fs[j]? = some g → (cdS vs ms cs fs g.2.1).1 = 0) : ccS vs ms cs fs = (0, -1, -1) := by
  have hl : longS fs = -1 := long_none fun j g hg => (cd_zero (hn j g hg)).1
  rw [cc_end fun j d hd => ?_, if_neg (by rw [hl]; simp)]
  obtain ⟨k, x, m, e, h1, h2, rfl⟩ := instG_mem _ _ (List.mem_of_getElem? hd)
  rw [show (0 + k : Nat) = k by omega, ce_at h1, hl]
  exact ⟨by show ¬ ((k : Int) = -1); omega, (cd_zero (hn k x h1)).2 m e h2⟩
/-- A small program meets the bounds. -/
theorem instG_len : ∀ (l : List FD) (n m : Nat), (∀ x ∈ l, x.2.1.length ≤ m) → (instG n l).length ≤ l.length * m
  | [], n, m, h => by simp [instG]
  | x :: l, n, m, h => by
    have := instG_len l (n + 1) m fun y hy => h y (by simp [hy])
    have := h x (by simp)
    have e : (instF n x).length = x.2.1.length := by simp [instF]
    simp only [instG, List.length_append, List.length_cons, Nat.succ_mul]
    omega
theorem small_bnd {vs : List VD} {ms cs : List ByteArray} {fs : List FD} {ts : List SD} (h : smS vs ms cs fs ts = true) : bnd ((vs, ms, cs, fs, ts, ()), ()) := by
  unfold smS at h
  rw [Bool.and_eq_true, decide_eq_true_eq, List.all_eq_true] at h
  obtain ⟨⟨h1, h2, h3, h4, h5⟩, h6⟩ := h
  have h6 : ∀ x ∈ fs, x.2.1.length ≤ 100 := fun x hx => by simpa using h6 x hx
  have := instG_len fs 0 100 h6
  refine ⟨?_, ?_, ?_, ?_, ?_, fun x hx => ?_, ?_⟩
  · show vs.length ≤ _; omega
  · show ms.length ≤ _; omega
  · show cs.length ≤ _; omega
  · show fs.length ≤ _; omega
  · show ts.length ≤ _; omega
  · have := h6 x hx; omega
  · show (instG 0 fs).length ≤ _; omega
end Go.Proofs.YtklnffdjhoacoaaGreatDoor
set_option linter.unusedSimpArgs false
set_option linter.unusedVariables false
set_option maxRecDepth 100000
namespace Go.Proofs.YtklnffdjhoacoaaGreatDoor
open Go Go.Eng

theorem chk_cn {vs : List VD} {ms cs : List ByteArray} {fs : List FD} {ts : List SD} (h : (cnS vs ms cs fs).1 ≠ 0) : chkP vs ms cs fs ts = cnS vs ms cs fs := by unfold chkP; rw [if_pos h]
theorem chk_co {vs : List VD} {ms cs : List ByteArray} {fs : List FD} {ts : List SD} (z : (cnS vs ms cs fs).1 = 0) (h : coS vs ms cs fs ≠ 0) : chkP vs ms cs fs ts = (coS vs ms cs fs, -1, -1) := by unfold chkP; rw [if_neg (fun q => q z), if_pos h]
theorem chk_cc {vs : List VD} {ms cs : List ByteArray} {fs : List FD} {ts : List SD} (z : (cnS vs ms cs fs).1 = 0) (z2 : coS vs ms cs fs = 0) (h : (ccS vs ms cs fs).1 ≠ 0) : chkP vs ms cs fs ts = ccS vs ms cs fs := by unfold chkP; rw [if_neg (fun q => q z), if_neg (fun q => q z2), if_pos h]
theorem chk_th {vs : List VD} {ms cs : List ByteArray} {fs : List FD} {ts : List SD} (z : (cnS vs ms cs fs).1 = 0) (z2 : coS vs ms cs fs = 0) (z3 : (ccS vs ms cs fs).1 = 0) : chkP vs ms cs fs ts = (thS fs ts, -1, -1) := by
  unfold chkP; rw [if_neg (fun q => q z), if_neg (fun q => q z2), if_neg (fun q => q z3)]
  split
  · rfl
  · rename_i h; rw [Classical.not_not.1 h]
@[reducible] def ctrChk : CT := { ps := [shP], pre := fun d => bnd d, res := fun d => ([], .tup [.c (.v (.int .i64 (chkP d.1.1 d.1.2.1 d.1.2.2.1 d.1.2.2.2.1 d.1.2.2.2.2.1).1)), .c (.v (.int .i64 (chkP d.1.1 d.1.2.1 d.1.2.2.1 d.1.2.2.2.1 d.1.2.2.2.2.1).2.1)), .c (.v (.int .i64 (chkP d.1.1 d.1.2.1 d.1.2.2.1 d.1.2.2.2.1 d.1.2.2.2.2.1).2.2))]) }
@[reducible] noncomputable def cl52 : List (Nat × CT) := [(70, ctrLs), (71, ctrNms), (72, ctrVal), (73, ctrCd), (74, ctrTh)]
@[reducible] def ann52 (vs : List VD) (ms : List ByteArray) (cs : List ByteArray) (fs : List FD) (ts : List SD) : Nat → Option (St → Ann) := fun k => match k with
  | 17 => some fun _ => .inv { α := Nat, slots := fun k => [(15, .c (.v (.int .i64 k)))], res := fun _ => [], inv := fun k => k ≤ vs.length ∧ ∀ j < k, ∀ v, vs[j]? = some v → valS v.2.1 = true, meas := fun k => vs.length - k }
  | 22 => some fun _ => .inv { α := Nat, slots := fun k => [(16, .c (.v (.int .i64 k)))], res := fun _ => [], inv := fun k => k ≤ fs.length ∧ ∀ j < k, ∀ g, fs[j]? = some g → (cdS vs ms cs fs g.2.1).1 = 0, meas := fun k => fs.length - k }
  | _ => none
set_option maxRecDepth 100000 in
theorem f52_vc (vs : List VD) (ms : List ByteArray) (cs : List ByteArray) (fs : List FD) (ts : List SD) (hpre : ctrChk.pre ((vs, ms, cs, fs, ts, ()), ())) :
    (vs.length ≤ (1000000 : Nat) ∧ fs.length ≤ (1000000 : Nat)) ∧ (nmsV vs).length ≤ (1000000 : Nat) ∧ br (!decide ((nmsE (nmsV vs)).fst = (0 : Int))) (([] : List Go.Eng.Res) = [] ∧ Ent.tup [SV.c (SC.v (Value.int IntKind.i64 (chkP vs ms cs fs ts).fst)), SV.c (SC.v (Value.int IntKind.i64 (chkP vs ms cs fs ts).snd.fst)), SV.c (SC.v (Value.int IntKind.i64 (chkP vs ms cs fs ts).snd.snd))] = Ent.tup [SV.c (SC.v (Value.int IntKind.i64 (nmsE (nmsV vs)).fst)), SV.c (SC.v (Value.int IntKind.i64 (-1 : Int))), SV.c (SC.v (Value.int IntKind.i64 (-1 : Int)))]) (ms.length ≤ (1000000 : Nat) ∧ br (!decide ((nmsE ms).fst = (0 : Int))) (([] : List Go.Eng.Res) = [] ∧ Ent.tup [SV.c (SC.v (Value.int IntKind.i64 (chkP vs ms cs fs ts).fst)), SV.c (SC.v (Value.int IntKind.i64 (chkP vs ms cs fs ts).snd.fst)), SV.c (SC.v (Value.int IntKind.i64 (chkP vs ms cs fs ts).snd.snd))] = Ent.tup [SV.c (SC.v (Value.int IntKind.i64 (nmsE ms).fst)), SV.c (SC.v (Value.int IntKind.i64 (-1 : Int))), SV.c (SC.v (Value.int IntKind.i64 (-1 : Int)))]) (cs.length ≤ (1000000 : Nat) ∧ br (!decide ((nmsE cs).fst = (0 : Int))) (([] : List Go.Eng.Res) = [] ∧ Ent.tup [SV.c (SC.v (Value.int IntKind.i64 (chkP vs ms cs fs ts).fst)), SV.c (SC.v (Value.int IntKind.i64 (chkP vs ms cs fs ts).snd.fst)), SV.c (SC.v (Value.int IntKind.i64 (chkP vs ms cs fs ts).snd.snd))] = Ent.tup [SV.c (SC.v (Value.int IntKind.i64 (nmsE cs).fst)), SV.c (SC.v (Value.int IntKind.i64 (-1 : Int))), SV.c (SC.v (Value.int IntKind.i64 (-1 : Int)))]) ((nmsF fs).length ≤ (1000000 : Nat) ∧ br (!decide ((nmsE (nmsF fs)).fst = (0 : Int))) (([] : List Go.Eng.Res) = [] ∧ Ent.tup [SV.c (SC.v (Value.int IntKind.i64 (chkP vs ms cs fs ts).fst)), SV.c (SC.v (Value.int IntKind.i64 (chkP vs ms cs fs ts).snd.fst)), SV.c (SC.v (Value.int IntKind.i64 (chkP vs ms cs fs ts).snd.snd))] = Ent.tup [SV.c (SC.v (Value.int IntKind.i64 (nmsE (nmsF fs)).fst)), SV.c (SC.v (Value.int IntKind.i64 (if (nmsE (nmsF fs)).fst = (0 : Int) then (0 : Int) else (nmsE (nmsF fs)).snd))), SV.c (SC.v (Value.int IntKind.i64 (-1 : Int)))]) (br (decide ((8 : Int) < (↑vs.length : Int)) || decide ((4 : Int) < (↑ms.length : Int)) || decide ((4 : Int) < (↑cs.length : Int)) || decide ((8 : Int) < (↑fs.length : Int))) (([] : List Go.Eng.Res) = [] ∧ Ent.tup [SV.c (SC.v (Value.int IntKind.i64 (chkP vs ms cs fs ts).fst)), SV.c (SC.v (Value.int IntKind.i64 (chkP vs ms cs fs ts).snd.fst)), SV.c (SC.v (Value.int IntKind.i64 (chkP vs ms cs fs ts).snd.snd))] = Ent.tup [SV.c (SC.v (Value.int IntKind.i64 (4 : Int))), SV.c (SC.v (Value.int IntKind.i64 (-1 : Int))), SV.c (SC.v (Value.int IntKind.i64 (-1 : Int)))]) ((∃ x, (x ≤ vs.length ∧ ∀ (j : Nat), j < x → ∀ (v : ByteArray × Int × Unit), vs[j]? = some v → valS v.snd.fst = true) ∧ (SV.c (SC.v (Value.int IntKind.i64 (0 : Int))) = SV.c (SC.v (Value.int IntKind.i64 (↑x : Int))) ∧ True) ∧ [(([] : Go.Eng.Gd), Res.blk (27 : Nat) [SC.sl (Sh.str.pair (I6.pair Sh.unit)) vs, SC.sl Sh.str ms, SC.sl Sh.str cs, SC.sl (Sh.str.pair (shI.sl.pair Sh.unit)) fs, SC.sl (I6.pair (I6.pair Sh.unit)) ts]), (([] : Go.Eng.Gd), Res.row (9 : TypeId) Sh.str (nmsV vs)), (([] : Go.Eng.Gd), Res.row (9 : TypeId) Sh.str (nmsF fs))] = [(([] : Go.Eng.Gd), Res.blk (27 : Nat) [SC.sl (Sh.str.pair (I6.pair Sh.unit)) vs, SC.sl Sh.str ms, SC.sl Sh.str cs, SC.sl (Sh.str.pair (shI.sl.pair Sh.unit)) fs, SC.sl (I6.pair (I6.pair Sh.unit)) ts]), (([] : Go.Eng.Gd), Res.row (9 : TypeId) Sh.str (nmsV vs)), (([] : Go.Eng.Gd), Res.row (9 : TypeId) Sh.str (nmsF fs))]) ∧ ∀ (x : Nat), (x ≤ vs.length ∧ ∀ (j : Nat), j < x → ∀ (v : ByteArray × Int × Unit), vs[j]? = some v → valS v.snd.fst = true) → br (decide ((↑x : Int) < (↑vs.length : Int))) (((0 : Int) ≤ (↑x : Int) ∧ (↑x : Int) < (↑vs.length : Int)) ∧ ∀ (d : Sh.str.den × (I6.pair Sh.unit).den), vs[(↑x : Int).toNat]? = some d → True ∧ br (!valS (d.snd.fst, ()).fst) (([] : List Go.Eng.Res) = [] ∧ Ent.tup [SV.c (SC.v (Value.int IntKind.i64 (chkP vs ms cs fs ts).fst)), SV.c (SC.v (Value.int IntKind.i64 (chkP vs ms cs fs ts).snd.fst)), SV.c (SC.v (Value.int IntKind.i64 (chkP vs ms cs fs ts).snd.snd))] = Ent.tup [SV.c (SC.v (Value.int IntKind.i64 (2 : Int))), SV.c (SC.v (Value.int IntKind.i64 (-1 : Int))), SV.c (SC.v (Value.int IntKind.i64 (-1 : Int)))]) (InR IntKind.i64 ((↑x : Int) + (1 : Int)) ∧ ∃ x', (x' ≤ vs.length ∧ ∀ (j : Nat), j < x' → ∀ (v : ByteArray × Int × Unit), vs[j]? = some v → valS v.snd.fst = true) ∧ (SV.c (SC.v (Value.int IntKind.i64 ((↑x : Int) + (1 : Int)))) = SV.c (SC.v (Value.int IntKind.i64 (↑x' : Int))) ∧ True) ∧ [(([] : Go.Eng.Gd), Res.blk (27 : Nat) [SC.sl (Sh.str.pair (I6.pair Sh.unit)) vs, SC.sl Sh.str ms, SC.sl Sh.str cs, SC.sl (Sh.str.pair (shI.sl.pair Sh.unit)) fs, SC.sl (I6.pair (I6.pair Sh.unit)) ts]), (([] : Go.Eng.Gd), Res.row (9 : TypeId) Sh.str (nmsV vs)), (([] : Go.Eng.Gd), Res.row (9 : TypeId) Sh.str (nmsF fs))] = [(([] : Go.Eng.Gd), Res.blk (27 : Nat) [SC.sl (Sh.str.pair (I6.pair Sh.unit)) vs, SC.sl Sh.str ms, SC.sl Sh.str cs, SC.sl (Sh.str.pair (shI.sl.pair Sh.unit)) fs, SC.sl (I6.pair (I6.pair Sh.unit)) ts]), (([] : Go.Eng.Gd), Res.row (9 : TypeId) Sh.str (nmsV vs)), (([] : Go.Eng.Gd), Res.row (9 : TypeId) Sh.str (nmsF fs))] ∧ vs.length - x' < vs.length - x)) ((∃ x, (x ≤ fs.length ∧ ∀ (j : Nat), j < x → ∀ (g : ByteArray × List ID × Unit), fs[j]? = some g → (cdS vs ms cs fs g.snd.fst).fst = (0 : Int)) ∧ (SV.c (SC.v (Value.int IntKind.i64 (0 : Int))) = SV.c (SC.v (Value.int IntKind.i64 (↑x : Int))) ∧ True) ∧ [(([] : Go.Eng.Gd), Res.blk (27 : Nat) [SC.sl (Sh.str.pair (I6.pair Sh.unit)) vs, SC.sl Sh.str ms, SC.sl Sh.str cs, SC.sl (Sh.str.pair (shI.sl.pair Sh.unit)) fs, SC.sl (I6.pair (I6.pair Sh.unit)) ts]), (([] : Go.Eng.Gd), Res.row (9 : TypeId) Sh.str (nmsV vs)), (([] : Go.Eng.Gd), Res.row (9 : TypeId) Sh.str (nmsF fs))] = [(([] : Go.Eng.Gd), Res.blk (27 : Nat) [SC.sl (Sh.str.pair (I6.pair Sh.unit)) vs, SC.sl Sh.str ms, SC.sl Sh.str cs, SC.sl (Sh.str.pair (shI.sl.pair Sh.unit)) fs, SC.sl (I6.pair (I6.pair Sh.unit)) ts]), (([] : Go.Eng.Gd), Res.row (9 : TypeId) Sh.str (nmsV vs)), (([] : Go.Eng.Gd), Res.row (9 : TypeId) Sh.str (nmsF fs))]) ∧ ∀ (x : Nat), (x ≤ fs.length ∧ ∀ (j : Nat), j < x → ∀ (g : ByteArray × List ID × Unit), fs[j]? = some g → (cdS vs ms cs fs g.snd.fst).fst = (0 : Int)) → br (decide ((↑x : Int) < (↑fs.length : Int))) (((0 : Int) ≤ (↑x : Int) ∧ (↑x : Int) < (↑fs.length : Int)) ∧ ∀ (d : Sh.str.den × (shI.sl.pair Sh.unit).den), fs[(↑x : Int).toNat]? = some d → True ∧ br (!decide ((cdS vs ms cs fs (d.snd.fst, ()).fst).fst = (0 : Int))) (([] : List Go.Eng.Res) = [] ∧ Ent.tup [SV.c (SC.v (Value.int IntKind.i64 (chkP vs ms cs fs ts).fst)), SV.c (SC.v (Value.int IntKind.i64 (chkP vs ms cs fs ts).snd.fst)), SV.c (SC.v (Value.int IntKind.i64 (chkP vs ms cs fs ts).snd.snd))] = Ent.tup [SV.c (SC.v (Value.int IntKind.i64 (cdS vs ms cs fs (d.snd.fst, ()).fst).fst)), SV.c (SC.v (Value.int IntKind.i64 (↑x : Int))), SV.c (SC.v (Value.int IntKind.i64 (cdS vs ms cs fs (d.snd.fst, ()).fst).snd))]) (InR IntKind.i64 ((↑x : Int) + (1 : Int)) ∧ ∃ x', (x' ≤ fs.length ∧ ∀ (j : Nat), j < x' → ∀ (g : ByteArray × List ID × Unit), fs[j]? = some g → (cdS vs ms cs fs g.snd.fst).fst = (0 : Int)) ∧ (SV.c (SC.v (Value.int IntKind.i64 ((↑x : Int) + (1 : Int)))) = SV.c (SC.v (Value.int IntKind.i64 (↑x' : Int))) ∧ True) ∧ [(([] : Go.Eng.Gd), Res.blk (27 : Nat) [SC.sl (Sh.str.pair (I6.pair Sh.unit)) vs, SC.sl Sh.str ms, SC.sl Sh.str cs, SC.sl (Sh.str.pair (shI.sl.pair Sh.unit)) fs, SC.sl (I6.pair (I6.pair Sh.unit)) ts]), (([] : Go.Eng.Gd), Res.row (9 : TypeId) Sh.str (nmsV vs)), (([] : Go.Eng.Gd), Res.row (9 : TypeId) Sh.str (nmsF fs))] = [(([] : Go.Eng.Gd), Res.blk (27 : Nat) [SC.sl (Sh.str.pair (I6.pair Sh.unit)) vs, SC.sl Sh.str ms, SC.sl Sh.str cs, SC.sl (Sh.str.pair (shI.sl.pair Sh.unit)) fs, SC.sl (I6.pair (I6.pair Sh.unit)) ts]), (([] : Go.Eng.Gd), Res.row (9 : TypeId) Sh.str (nmsV vs)), (([] : Go.Eng.Gd), Res.row (9 : TypeId) Sh.str (nmsF fs))] ∧ fs.length - x' < fs.length - x)) (True ∧ ([] : List Go.Eng.Res) = [] ∧ Ent.tup [SV.c (SC.v (Value.int IntKind.i64 (chkP vs ms cs fs ts).fst)), SV.c (SC.v (Value.int IntKind.i64 (chkP vs ms cs fs ts).snd.fst)), SV.c (SC.v (Value.int IntKind.i64 (chkP vs ms cs fs ts).snd.snd))] = Ent.tup [SV.c (SC.v (Value.int IntKind.i64 (thS fs ts))), SV.c (SC.v (Value.int IntKind.i64 (-1 : Int))), SV.c (SC.v (Value.int IntKind.i64 (-1 : Int)))]))))))) := by
  obtain ⟨h1, h2, h3, h4, h5, h6, h7⟩ : bnd ((vs, ms, cs, fs, ts, ()), ()) := hpre
  have h1 : vs.length ≤ 1000000 := h1
  have h4 : fs.length ≤ 1000000 := h4
  refine ⟨⟨h1, h4⟩, by simpa [nmsV] using h1, br_iff.2 ⟨fun a => ⟨rfl, ?_⟩, fun a => ⟨h2, br_iff.2 ⟨fun b => ⟨rfl, ?_⟩, fun b => ⟨h3, br_iff.2 ⟨fun c => ⟨rfl, ?_⟩, fun c => ⟨by simpa [nmsF] using h4, br_iff.2 ⟨fun d => ⟨rfl, ?_⟩, fun d => ?_⟩⟩⟩⟩⟩⟩⟩⟩
  all_goals try simp only [Bool.not_eq_true', Bool.not_eq_false', decide_eq_true_eq, decide_eq_false_iff_not] at a
  all_goals try simp only [Bool.not_eq_true', Bool.not_eq_false', decide_eq_true_eq, decide_eq_false_iff_not] at b
  all_goals try simp only [Bool.not_eq_true', Bool.not_eq_false', decide_eq_true_eq, decide_eq_false_iff_not] at c
  all_goals try simp only [Bool.not_eq_true', Bool.not_eq_false', decide_eq_true_eq, decide_eq_false_iff_not] at d
  · have e : cnS vs ms cs fs = ((nmsE (nmsV vs)).1, -1, -1) := by unfold cnS; rw [if_pos a]
    rw [chk_cn (by rw [e]; exact a), e]
  · have e : cnS vs ms cs fs = ((nmsE ms).1, -1, -1) := by unfold cnS; rw [if_neg (fun q => q a), if_pos b]
    rw [chk_cn (by rw [e]; exact b), e]
  · have e : cnS vs ms cs fs = ((nmsE cs).1, -1, -1) := by unfold cnS; rw [if_neg (fun q => q a), if_neg (fun q => q b), if_pos c]
    rw [chk_cn (by rw [e]; exact c), e]
  all_goals have e : cnS vs ms cs fs = ((nmsE (nmsF fs)).1, (nmsE (nmsF fs)).2, -1) := by unfold cnS; rw [if_neg (fun q => q a), if_neg (fun q => q b), if_neg (fun q => q c)]
  · rw [chk_cn (by rw [e]; exact d), e, if_neg d]
  have z : (cnS vs ms cs fs).1 = 0 := by rw [e]; exact d
  clear e a b c d
  by_cases hc : 8 < vs.length ∨ 4 < ms.length ∨ 4 < cs.length ∨ 8 < fs.length
  · have e : coS vs ms cs fs = 4 := by unfold coS; rw [if_pos hc]
    rw [chk_co z (by rw [e]; simp), e]
    refine br_iff.2 ⟨fun _ => ⟨rfl, rfl⟩, fun h => ?_⟩
    simp only [Bool.or_eq_false_iff, decide_eq_false_iff_not] at h
    omega
  refine br_iff.2 ⟨fun h => ?_, fun _ => ⟨⟨0, ⟨by omega, fun j hj => by omega⟩, ⟨rfl, trivial⟩, rfl⟩, fun k hk => br_iff.2 ⟨fun h => ?_, fun h => ⟨⟨0, ⟨by omega, fun j hj => by omega⟩, ⟨rfl, trivial⟩, rfl⟩, fun m hm => br_iff.2 ⟨fun h8 => ?_, fun h8 => ⟨trivial, rfl, ?_⟩⟩⟩⟩⟩⟩
  · simp only [Bool.or_eq_true, decide_eq_true_eq] at h
    omega
  · simp only [decide_eq_true_eq] at h
    have hN : (↑k : Int).toNat = k := by omega
    rw [hN]
    refine ⟨by omega, fun d hd => ⟨trivial, br_iff.2 ⟨fun h9 => ⟨rfl, ?_⟩, fun h9 => ⟨InR_i64.2 (by omega), k + 1, ⟨by omega, fun j hj v hv => ?_⟩, ⟨rfl, trivial⟩, rfl, by omega⟩⟩⟩⟩
    · have h9 : valS d.2.1 = false := by simpa using h9
      have e : coS vs ms cs fs = 2 := by
        unfold coS
        rw [if_neg hc, if_neg]
        intro hh
        rw [List.all_eq_true] at hh
        have := hh d (List.mem_of_getElem? hd)
        rw [h9] at this; cases this
      rw [chk_co z (by rw [e]; simp), e]
    · have h9 : valS d.2.1 = true := by simpa using h9
      by_cases hjk : j = k
      · subst hjk
        rw [hd] at hv; cases hv; exact h9
      · exact hk.2 j (by omega) v hv
  all_goals
    simp only [decide_eq_false_iff_not] at h
    have z2 : coS vs ms cs fs = 0 := by
      unfold coS
      rw [if_neg hc, if_pos]
      rw [List.all_eq_true]
      intro v hv
      obtain ⟨j, hj⟩ := List.getElem?_of_mem hv
      exact hk.2 j (by have := (List.getElem?_eq_some_iff.1 hj).1; omega) v hj
  · simp only [decide_eq_true_eq] at h8
    have hN : (↑m : Int).toNat = m := by omega
    rw [hN]
    refine ⟨by omega, fun d hd => ⟨trivial, br_iff.2 ⟨fun h9 => ⟨rfl, ?_⟩, fun h9 => ⟨InR_i64.2 (by omega), m + 1, ⟨by omega, fun j hj v hv => ?_⟩, ⟨rfl, trivial⟩, rfl, by omega⟩⟩⟩⟩
    · have h9 : (cdS vs ms cs fs d.2.1).1 ≠ 0 := by simpa using h9
      have e := cc_first hd h9 hm.2
      rw [chk_cc z z2 (by rw [e]; exact h9), e]
    · have h9 : (cdS vs ms cs fs d.2.1).1 = 0 := by simpa using h9
      by_cases hjk : j = m
      · subst hjk
        rw [hd] at hv; cases hv; exact h9
      · exact hm.2 j (by omega) v hv
  · simp only [decide_eq_false_iff_not] at h8
    have e := cc_zero (vs := vs) (ms := ms) (cs := cs) fun j g hj => hm.2 j (by have := (List.getElem?_eq_some_iff.1 hj).1; omega) g hj
    rw [chk_th z z2 (by rw [e])]
set_option maxHeartbeats 2000000 in
set_option maxRecDepth 100000 in
theorem f52_met : Go.Eng.Met Tryz.prog cx0.gd 52 ctrChk :=
  met_of (cx := cx0) (n := 120) (cl := cl52) (by kernel_rfl) tis_ok ⟨f70_met, f71_met, f72_met, f73_met, f74_met, trivial⟩ Tryz.func52 (by kernel_rfl) (by kernel_rfl) rfl (by kernel_rfl) (by kernel_rfl) fun d hd => by
    obtain ⟨⟨vs, ms, cs, fs, ts, ⟨⟩⟩, ⟨⟩⟩ := d
    exact ex_of (ann52 vs ms cs fs ts) (f52_vc vs ms cs fs ts hd) (by kernel_rfl)
@[reducible] def ctrVld : CT := { ps := [shP], pre := fun d => bnd d, res := fun d => ([], vB (decide ((chkP d.1.1 d.1.2.1 d.1.2.2.1 d.1.2.2.2.1 d.1.2.2.2.2.1).1 = 0))) }
@[reducible] def ctL3 : CT := { ps := [shP], pre := fun d => True, res := fun d => ([], vB (true)) }
end Go.Proofs.YtklnffdjhoacoaaGreatDoor
set_option linter.unusedSimpArgs false
set_option linter.unusedVariables false
namespace Go.Proofs.YtklnffdjhoacoaaGreatDoor
open Go Go.Eng

/-- The value that differs by a multiple of 2^32. -/
def wrapS (n : Int) : Int := if n % 4294967296 ≤ 2147483647 then n % 4294967296 else n % 4294967296 - 4294967296
theorem wrapS_rng (n : Int) : -2147483648 ≤ wrapS n ∧ wrapS n ≤ 2147483647 := by
  unfold wrapS; split <;> omega
theorem wrapS_id {n : Int} : wrapS n = n ↔ -2147483648 ≤ n ∧ n ≤ 2147483647 := by
  unfold wrapS
  constructor
  · intro h; split at h <;> omega
  · intro h; split <;> omega
theorem wrapS_mod {n m : Int} (h : n % 4294967296 = m % 4294967296) : wrapS n = wrapS m := by
  unfold wrapS; rw [h]
theorem wrapS_emod (n : Int) : wrapS n % 4294967296 = n % 4294967296 := by
  unfold wrapS; split <;> omega
theorem wrap_conv (n : Int) : IntKind.i64.wrap (IntKind.i32.wrap (IntKind.u32.wrap n)) = wrapS n := by
  simp only [IntKind.wrap, IntKind.bits, IntKind.signed, wrapS]
  simp
  split <;> split <;> split <;> omega
/-- The reference's. -/
def wrapR (n : Int) : Int :=
  if (if n.tmod 4294967296 < 0 then n.tmod 4294967296 + 4294967296 else n.tmod 4294967296) > 2147483647 then
    (if n.tmod 4294967296 < 0 then n.tmod 4294967296 + 4294967296 else n.tmod 4294967296) - 4294967296
  else (if n.tmod 4294967296 < 0 then n.tmod 4294967296 + 4294967296 else n.tmod 4294967296)
theorem tmod_cases (n : Int) {m : Int} (hm : 0 < m) : n.tmod m = if 0 ≤ n ∨ n % m = 0 then n % m else n % m - m := by
  rw [Int.tmod_eq_emod]
  have h1 : (m ∣ n) ↔ n % m = 0 := Int.dvd_iff_emod_eq_zero
  simp only [h1]
  split
  · simp
  · have : (m.natAbs : Int) = m := by omega
    simp [this]
theorem wrapR_eq (n : Int) : wrapR n = wrapS n := by
  unfold wrapR wrapS
  rw [tmod_cases n (by omega)]
  split <;> split <;> split <;> first | omega | (split <;> omega)

/-- The bits of two numbers, put together by a table. -/
def bitsN (X Y : Nat) (r : List Int) : Nat → Int
  | 0 => 0
  | i + 1 => bitsN X Y r i + 2 ^ i * r.getD (2 * (X / 2 ^ i % 2) + Y / 2 ^ i % 2) 0
theorem bitsN_rng {X Y : Nat} {r : List Int} (h : ∀ v ∈ r, v = 0 ∨ v = 1) : ∀ i, 0 ≤ bitsN X Y r i ∧ bitsN X Y r i < 2 ^ i
  | 0 => by simp [bitsN]
  | i + 1 => by
    have ih := bitsN_rng (X := X) (Y := Y) h i
    have hv : r.getD (2 * (X / 2 ^ i % 2) + Y / 2 ^ i % 2) 0 = 0 ∨ r.getD (2 * (X / 2 ^ i % 2) + Y / 2 ^ i % 2) 0 = 1 := by
      rw [List.getD_eq_getElem?_getD]
      cases hq : r[2 * (X / 2 ^ i % 2) + Y / 2 ^ i % 2]? with
      | none => exact .inl rfl
      | some v => exact h v (List.mem_of_getElem? hq)
    unfold bitsN
    rw [Int.pow_succ]
    rcases hv with e | e <;> rw [e] <;> omega
theorem nat_mod_succ (n i : Nat) : n % 2 ^ (i + 1) = n % 2 ^ i + 2 ^ i * (n / 2 ^ i % 2) := by
  rw [Nat.pow_succ, Nat.mod_mul]
theorem bit_div (n i : Nat) : n / 2 ^ i % 2 = (n.testBit i).toNat := by
  rw [Nat.testBit_eq_decide_div_mod_eq]
  rcases Nat.mod_two_eq_zero_or_one (n / 2 ^ i) with h | h <;> simp [h]
theorem bits_op {X Y Z : Nat} {r : List Int} (h : ∀ i, r.getD (2 * (X.testBit i).toNat + (Y.testBit i).toNat) 0 = ((Z.testBit i).toNat : Int)) : ∀ i, bitsN X Y r i = ((Z % 2 ^ i : Nat) : Int)
  | 0 => by simp [bitsN, Nat.mod_one]
  | i + 1 => by
    unfold bitsN
    rw [bits_op h i, nat_mod_succ, bit_div, bit_div, h, bit_div]
    push_cast
    rfl
theorem ofInt_mod (x : Int) : ((BitVec.ofInt 64 x).toNat % 4294967296 : Nat) = (x % 4294967296).toNat := by
  rw [BitVec.toNat_ofInt]
  omega
theorem i64_wrap_mod (n : Int) : IntKind.i64.wrap n % 4294967296 = n % 4294967296 := by
  simp only [IntKind.wrap, IntKind.bits, IntKind.signed]
  simp
  split <;> omega
theorem mod_mod_cast (n : Nat) : ((n % 2 ^ 32 % 2 ^ 32 : Nat) : Int) % 4294967296 = (n : Int) % 4294967296 := by omega
theorem bits_and {x y : Int} : wrapS (bitsN (x % 4294967296).toNat (y % 4294967296).toNat [0, 0, 0, 1] 32) = wrapS (bitop .and .i64 x y) := by
  apply wrapS_mod
  rw [bits_op (Z := (x % 4294967296).toNat &&& (y % 4294967296).toNat) fun i => by
    rw [Nat.testBit_and]
    cases ((x % 4294967296).toNat.testBit i) <;> cases ((y % 4294967296).toNat.testBit i) <;> rfl]
  simp only [bitop]
  rw [i64_wrap_mod, BitVec.toNat_and, ← ofInt_mod, ← ofInt_mod]
  rw [show (4294967296 : Nat) = 2 ^ 32 from rfl, ← Nat.and_mod_two_pow]
  exact mod_mod_cast _
theorem bits_or {x y : Int} : wrapS (bitsN (x % 4294967296).toNat (y % 4294967296).toNat [0, 1, 1, 1] 32) = wrapS (bitop .or .i64 x y) := by
  apply wrapS_mod
  rw [bits_op (Z := (x % 4294967296).toNat ||| (y % 4294967296).toNat) fun i => by
    rw [Nat.testBit_or]
    cases ((x % 4294967296).toNat.testBit i) <;> cases ((y % 4294967296).toNat.testBit i) <;> rfl]
  simp only [bitop]
  rw [i64_wrap_mod, BitVec.toNat_or, ← ofInt_mod, ← ofInt_mod]
  rw [show (4294967296 : Nat) = 2 ^ 32 from rfl, ← Nat.or_mod_two_pow]
  exact mod_mod_cast _
theorem bits_xor {x y : Int} : wrapS (bitsN (x % 4294967296).toNat (y % 4294967296).toNat [0, 1, 1, 0] 32) = wrapS (bitop .xor .i64 x y) := by
  apply wrapS_mod
  rw [bits_op (Z := (x % 4294967296).toNat ^^^ (y % 4294967296).toNat) fun i => by
    rw [Nat.testBit_xor]
    cases ((x % 4294967296).toNat.testBit i) <;> cases ((y % 4294967296).toNat.testBit i) <;> rfl]
  simp only [bitop]
  rw [i64_wrap_mod, BitVec.toNat_xor, ← ofInt_mod, ← ofInt_mod]
  rw [show (4294967296 : Nat) = 2 ^ 32 from rfl, ← Nat.xor_mod_two_pow]
  exact mod_mod_cast _
/-- What value.Apply answers. -/
def applyS (f a b : Int) : Int × Int :=
  if f = 1 then (wrapS (wrapS a + wrapS b), 0) else if f = 2 then (wrapS (wrapS a - wrapS b), 0) else if f = 3 then (wrapS (wrapS a * wrapS b), 0)
  else if f = 4 then (wrapS (bitop .and .i64 (wrapS a) (wrapS b)), 0) else if f = 5 then (wrapS (bitop .or .i64 (wrapS a) (wrapS b)), 0) else if f = 6 then (wrapS (bitop .xor .i64 (wrapS a) (wrapS b)), 0)
  else if f = 7 then (if wrapS a = wrapS b then 1 else 0, 0) else if f = 8 then (if wrapS a = wrapS b then 0 else 1, 0) else if f = 9 then (if wrapS a < wrapS b then 1 else 0, 0)
  else if f = 10 then (if wrapS a ≤ wrapS b then 1 else 0, 0) else (0, 8)
theorem applyS_rng (f a b : Int) : -2147483648 ≤ (applyS f a b).1 ∧ (applyS f a b).1 ≤ 2147483647 := by
  unfold applyS
  repeat' split
  all_goals first | exact wrapS_rng _ | (constructor <;> omega)
end Go.Proofs.YtklnffdjhoacoaaGreatDoor
set_option linter.unusedSimpArgs false
set_option linter.unusedVariables false
namespace Go.Proofs.YtklnffdjhoacoaaGreatDoor
open Go Go.Eng

/-! Ids. -/
def depthF : Nat → Int → Int → Int
  | 0, _, _ => -1
  | n + 1, d, id => if id < 8 then d else if 7 ≤ id.tmod 8 then -1 else depthF n (d + 1) (id.tdiv 8 - 1)
def depthI (id : Int) : Int := if id < 0 then -1 else depthF 5 0 id
theorem depthF_rng : ∀ (n : Nat) (d id : Int), 0 ≤ d → depthF n d id = -1 ∨ (d ≤ depthF n d id ∧ depthF n d id < d + n)
  | 0, d, id, h => .inl rfl
  | n + 1, d, id, h => by
    unfold depthF
    split
    · right; omega
    · split
      · exact .inl rfl
      · rcases depthF_rng n (d + 1) (id.tdiv 8 - 1) (by omega) with e | e
        · exact .inl e
        · right; omega
theorem depthI_rng (id : Int) : -1 ≤ depthI id ∧ depthI id ≤ 4 := by
  unfold depthI
  split
  · omega
  · rcases depthF_rng 5 0 id (by omega) with e | e <;> omega
theorem depthF_shift : ∀ (n : Nat) (d id r : Int), depthF (n + 1) d id = r → 0 ≤ d → 0 ≤ r → r < d + n → depthF n (d + 1) id = r + 1
  | 0, d, id, r, h, h0, h1, h2 => by
    have h : depthF 1 d id = r := h
    rcases depthF_rng 1 d id h0 with e | e <;> omega
  | n + 1, d, id, r, h, h0, h1, h2 => by
    unfold depthF at h ⊢
    split at h
    · rename_i q; rw [if_pos q]; omega
    · rename_i q
      rw [if_neg q]
      split at h
      · omega
      · rename_i q2
        rw [if_neg q2]
        exact depthF_shift n (d + 1) _ r h (by omega) h1 (by omega)
def bndF : Nat → Int
  | 0 => 0
  | n + 1 => 8 * (bndF n + 1)
theorem depthF_lt : ∀ (n : Nat) (d id : Int), 0 ≤ d → 0 ≤ id → 0 ≤ depthF n d id → id < bndF n
  | 0, d, id, h0, h1, h2 => by simp [depthF] at h2
  | n + 1, d, id, h0, h1, h2 => by
    have hp : 0 ≤ bndF n := by
      clear h2
      induction n with
      | zero => simp [bndF]
      | succ n ih => unfold bndF; omega
    unfold depthF at h2
    unfold bndF
    split at h2
    · omega
    · split at h2
      · omega
      · have e : id.tdiv 8 = id / 8 := Int.tdiv_eq_ediv_of_nonneg h1
        rw [e] at h2
        have := depthF_lt n (d + 1) (id / 8 - 1) (by omega) (by omega) h2
        omega
theorem depthI_lt {id : Int} (h : 0 ≤ depthI id) : 0 ≤ id ∧ id < 37448 := by
  unfold depthI at h
  split at h
  · omega
  · have := depthF_lt 5 0 id (by omega) (by omega) h
    simp only [bndF] at this
    omega
def childS (id ch : Int) : Int × Bool := if depthI id < 0 ∨ depthI id = 4 ∨ ch < 0 ∨ 7 ≤ ch then (0, false) else (8 * (id + 1) + ch, true)
def parentS (id : Int) : Int × Bool := if depthI id < 1 then (0, false) else (id.tdiv 8 - 1, true)
def depthM (id : Int) : Int := if depthI id < 0 then 0 else depthI id
theorem child_depth {id ch : Int} (h0 : 0 ≤ depthI id) (h4 : depthI id ≠ 4) (c0 : 0 ≤ ch) (c7 : ch < 7) : depthI (8 * (id + 1) + ch) = depthI id + 1 ∧ (8 * (id + 1) + ch).tdiv 8 - 1 = id := by
  obtain ⟨i0, i1⟩ := depthI_lt h0
  have e1 : (8 * (id + 1) + ch).tdiv 8 = id + 1 := by rw [Int.tdiv_eq_ediv_of_nonneg (by omega)]; omega
  have e2 : (8 * (id + 1) + ch).tmod 8 = ch := by rw [Int.tmod_eq_emod_of_nonneg (by omega)]; omega
  have hr := depthI_rng id
  refine ⟨?_, by omega⟩
  have hd : depthI (8 * (id + 1) + ch) = depthF 4 1 id := by
    unfold depthI
    rw [if_neg (by omega)]
    rw [depthF, if_neg (by omega), e2, if_neg (by omega), e1, show id + 1 - 1 = id by omega]
    rfl
  rw [hd]
  have : depthI id = depthF 5 0 id := by unfold depthI; rw [if_neg (by omega)]
  exact depthF_shift 4 0 id _ this.symm (by omega) h0 (by omega)

/-! Threads. -/
@[reducible] def shT : Sh := .pair (.int .i64) (.pair (.int .i64) (.pair (.int .i64) (.pair (.arr 8 (.int .i64)) (.pair (.int .i64) (.pair (.int .i64) (.pair (.int .i64) (.pair (.int .i64) (.pair (.int .i64) (.pair (.sl (.int .i64)) .unit)))))))))
abbrev TD := Int × Int × Int × List Int × Int × Int × Int × Int × Int × List Int × Unit
def visS (op : Int) : Bool := decide (8 ≤ op ∧ op ≤ 22)
def defS (i : ID) : Int × Bool := if chkI i ≠ 0 ∨ use i.1 0 = false then (0, false) else (i.2.1, true)
def codeF (fs : List FD) (fn : Int) : List ID := (fs.getD fn.toNat (⟨#[]⟩, [], ())).2.1
def atS (fs : List FD) (fn pc : Int) : Option ID := (codeF fs fn)[pc.toNat]?
def atR (fs : List FD) (fn pc : Int) : ID × Bool := match atS fs fn pc with
  | some i => (i, true)
  | none => ((0, 0, 0, 0, 0, 0, 0, 0, ()), false)
/-- The fault of the instruction. -/
def obsS (id ch ph : Int) (hd : List Int) (i : ID) : Int :=
  if ph ≠ 0 then 0 else if i.1 = 18 then (if hasI hd i.2.2.2.2.2.1 = true then 0 else 27) else if i.1 = 16 then (if hasI hd i.2.2.2.2.1 = true then 0 else 27)
  else if i.1 = 21 then (if (childS id ch).2 = true then 0 else 28) else 0
/-- Well-formed threads. -/
def Formed (ms : List ByteArray) (fs : List FD) (bound : Int) : TD → Prop
  | (id, fn, pc, rg, st, ch, ph, su, fa, hd, _) => 0 ≤ depthI id ∧ (0 ≤ fn ∧ fn < fs.length) ∧ (0 ≤ pc ∧ pc ≤ (codeF fs fn).length) ∧ (∀ k < 8, ∀ r, rg[k]? = some r → valS r = true) ∧
    (0 ≤ st ∧ st ≤ bound) ∧ (0 ≤ ch ∧ ch ≤ 7 ∧ (depthI id = 4 → ch = 0)) ∧ SS hd ∧ (∀ m ∈ hd, 0 ≤ m ∧ m < ms.length) ∧
    (ph = 0 ∨ ((ph = 1 ∨ ph = 2) ∧ ∃ i, atS fs fn pc = some i ∧ i.1 = 18 ∧ hasI hd i.2.2.2.2.2.1 = false))
open Classical in
noncomputable def formedB (ms : List ByteArray) (fs : List FD) (bound : Int) (t : TD) : Bool := decide (Formed ms fs bound t)
/-- One local instruction. -/
def locS : TD → ID → TD × Bool
  | (id, fn, pc, rg, st, ch, ph, su, fa, hd, _), (op, a, b, c, obj, n, f, _, _) =>
    if op = 1 then ((id, fn, pc + 1, rg.set a.toNat n, st, ch, ph, su, fa, hd, ()), true)
    else if op = 2 then ((id, fn, pc + 1, rg.set a.toNat (rg.getD b.toNat 0), st, ch, ph, su, fa, hd, ()), true)
    else if op = 3 then ((id, fn, pc + 1, if (applyS f (rg.getD b.toNat 0) (rg.getD c.toNat 0)).2 = 0 then rg.set a.toNat (applyS f (rg.getD b.toNat 0) (rg.getD c.toNat 0)).1 else rg, st, ch, ph, su, fa, hd, ()), true)
    else if op = 4 then ((id, fn, n, rg, st, ch, ph, su, fa, hd, ()), true)
    else if op = 5 then ((id, fn, if rg.getD b.toNat 0 = 0 then pc + 1 else n, rg, st, ch, ph, su, fa, hd, ()), true)
    else if op = 6 ∧ rg.getD b.toNat 0 = 0 then ((id, fn, pc, rg, st, ch, ph, 3, 26, hd, ()), false)
    else if op = 7 then ((id, fn, pc, rg, st, ch, ph, 2, 0, hd, ()), false)
    else ((id, fn, pc + 1, rg, st, ch, ph, su, fa, hd, ()), true)
def endS : TD → Int → Int → TD
  | (id, fn, pc, rg, st, ch, ph, _, _, hd, _), s, f => (id, fn, pc, rg, st, ch, ph, s, f, hd, ())
/-- A round of settling: at an instruction that is not visible, the rest. -/
def topS (fs : List FD) (bound : Int) (t : TD) (rest : ID → TD) : TD := match t with
  | (id, fn, pc, rg, st, ch, ph, su, fa, hd, _) => match atS fs fn pc with
    | none => (id, fn, pc, rg, st, ch, ph, 2, 0, hd, ())
    | some i => if visS i.1 = true then
        (if obsS id ch ph hd i ≠ 0 then (id, fn, pc, rg, st, ch, ph, 3, obsS id ch ph hd i, hd, ()) else if st = bound then (id, fn, pc, rg, st, ch, ph, 4, 0, hd, ()) else (id, fn, pc, rg, st, ch, ph, su, fa, hd, ()))
      else rest i
def stlS (fs : List FD) (bound : Int) : Nat → TD → TD
  | 0, t => topS fs bound t fun _ => endS t 3 29
  | k + 1, t => topS fs bound t fun i => if (locS t i).2 = true then stlS fs bound k (locS t i).1 else (locS t i).1
/-- Valid threads of a valid program. -/
def Vld (ms : List ByteArray) (fs : List FD) (bound : Int) : TD → Prop
  | (id, fn, pc, rg, st, ch, ph, su, fa, hd, u) => Formed ms fs bound (id, fn, pc, rg, st, ch, ph, su, fa, hd, u) ∧
    (((su = 1 ∧ st < bound ∨ su = 4 ∧ 1 ≤ st) ∧ fa = 0 ∧ ∃ i, atS fs fn pc = some i ∧ visS i.1 = true ∧ obsS id ch ph hd i = 0) ∨
     (su = 2 ∧ fa = 0 ∧ ph = 0 ∧ ∀ i, atS fs fn pc = some i → i.1 = 7) ∨
     (su = 3 ∧ ph = 0 ∧ ∃ i, atS fs fn pc = some i ∧ (fa = 26 ∧ i.1 = 6 ∧ rg.getD i.2.2.1.toNat 0 = 0 ∨ fa = 29 ∧ visS i.1 = false ∨ fa ≠ 26 ∧ fa ≠ 29 ∧ fa ≠ 0 ∧ obsS id ch ph hd i = fa)))
open Classical in
noncomputable def vldB (ms : List ByteArray) (fs : List FD) (bound : Int) (t : TD) : Bool := decide (Vld ms fs bound t)

/-! Valid programs. -/
theorem chkI_regs {i : ID} (h : chkI i = 0) : (0 ≤ i.2.1 ∧ i.2.1 < 8) ∧ (0 ≤ i.2.2.1 ∧ i.2.2.1 < 8) ∧ (0 ≤ i.2.2.2.1 ∧ i.2.2.2.1 < 8) ∧ (1 ≤ i.1 ∧ i.1 ≤ 22) := by
  unfold chkI chkS at h
  split at h
  · simp at h
  split at h
  · simp at h
  split at h
  · simp at h
  · rename_i h1 h2 h3
    simp only [regS, knownS] at h1 h3
    simp only [Bool.or_eq_true, Bool.not_eq_true', Bool.and_eq_false_iff, decide_eq_false_iff_not] at h1 h3
    refine ⟨?_, ?_, ?_, ?_⟩ <;> omega
theorem chkI_fn {i : ID} (h : chkI i = 0) (h3 : i.1 = 3) : 1 ≤ i.2.2.2.2.2.2.1 ∧ i.2.2.2.2.2.2.1 ≤ 10 := by
  unfold chkI chkS at h
  repeat' split at h
  all_goals first | (simp at h; done) | skip
  rename_i h1 h2 h4 h5 h6 h7
  have hu : use i.1 5 = true := by rw [h3]; rfl
  rw [hu] at h6
  by_cases hc : 1 ≤ i.2.2.2.2.2.2.1 ∧ i.2.2.2.2.2.2.1 ≤ 10
  · exact hc
  · exfalso; apply h6
    unfold nameS
    rw [if_neg hc]; rfl
theorem chkI_n {i : ID} (h : chkI i = 0) (h1 : i.1 = 1) : valS i.2.2.2.2.2.1 = true := by
  unfold chkI chkS at h
  repeat' split at h
  all_goals first | (simp at h; done) | skip
  rename_i q1 q2 q3 q4 q5 q6
  simp [h1] at q6
  unfold valS
  simp; omega
theorem inst_in {fs : List FD} {k : Nat} {x : FD} (hx : fs[k]? = some x) {j : Nat} {i : ID} (hj : x.2.1[j]? = some i) : (((k : Int), (j : Int), ()), i, ()) ∈ instL fs := by
  unfold instL
  rw [instG_cut k fs 0 hx]
  refine List.mem_append_right _ (List.mem_append_left _ ?_)
  unfold instF
  rw [List.mem_map]
  refine ⟨(i, j), ?_, by simp⟩
  rw [List.mem_iff_getElem?]
  exact ⟨j, by rw [List.getElem?_zipIdx, hj]; simp⟩
theorem codeF_get {fs : List FD} {fn : Int} (h : 0 ≤ fn ∧ fn < fs.length) : ∃ x, fs[fn.toNat]? = some x ∧ codeF fs fn = x.2.1 := by
  have hl : fn.toNat < fs.length := by omega
  refine ⟨fs[fn.toNat], List.getElem?_eq_getElem hl, ?_⟩
  unfold codeF
  rw [List.getD_eq_getElem?_getD, List.getElem?_eq_getElem hl]; rfl
theorem at_ok {vs : List VD} {ms cs : List ByteArray} {fs : List FD} {ts : List SD} (h : (chkP vs ms cs fs ts).1 = 0) {fn pc : Int} {i : ID} (hf : 0 ≤ fn ∧ fn < fs.length) (hi : atS fs fn pc = some i) : ciI vs ms cs fs i (codeF fs fn).length = 0 := by
  obtain ⟨c1, c2, c3⟩ := chk_zero h
  obtain ⟨x, hx, ex⟩ := codeF_get hf
  unfold atS at hi
  rw [ex] at hi ⊢
  have := cc_all c2 _ (inst_in hx hi)
  rwa [ce_at hx] at this
theorem ci_zero {vs : List VD} {ms cs : List ByteArray} {fs : List FD} {i : ID} {m : Int} (h : ciI vs ms cs fs i m = 0) : chkI i = 0 ∧ (0 ≤ objS vs ms cs fs i.1 → 0 ≤ i.2.2.2.2.1 ∧ i.2.2.2.2.1 < objS vs ms cs fs i.1) ∧ (i.1 = 18 → 0 ≤ i.2.2.2.2.2.1 ∧ i.2.2.2.2.2.1 < ms.length) ∧ (i.1 = 4 ∨ i.1 = 5 → 0 ≤ i.2.2.2.2.2.1 ∧ i.2.2.2.2.2.1 ≤ m) := by
  unfold ciI ciS at h
  split at h
  · rename_i q; exact absurd h q
  split at h
  · cases h
  split at h
  · cases h
  split at h
  · cases h
  · rename_i q1 q2 q3 q4
    refine ⟨Classical.not_not.1 q1, fun h0 => ?_, fun h0 => ?_, fun h0 => ?_⟩
    · omega
    · omega
    · omega
end Go.Proofs.YtklnffdjhoacoaaGreatDoor
set_option linter.unusedSimpArgs false
set_option linter.unusedVariables false
namespace Go.Proofs.YtklnffdjhoacoaaGreatDoor
open Go Go.Eng

theorem regs_set {rg : List Int} {a : Nat} {v : Int} (h : ∀ k < 8, ∀ r, rg[k]? = some r → valS r = true) (hv : valS v = true) : ∀ k < 8, ∀ r, (rg.set a v)[k]? = some r → valS r = true := by
  intro k hk r hr
  rw [List.getElem?_set] at hr
  split at hr
  · split at hr
    · cases hr; exact hv
    · cases hr
  · exact h k hk r hr
theorem regs_get {rg : List Int} {b : Int} (h : ∀ k < 8, ∀ r, rg[k]? = some r → valS r = true) (hb : 0 ≤ b ∧ b < 8) : valS (rg.getD b.toNat 0) = true := by
  rw [List.getD_eq_getElem?_getD]
  cases hq : rg[b.toNat]? with
  | none => rfl
  | some r => exact h _ (by omega) r hq
theorem app_val (f a b : Int) : valS (applyS f a b).1 = true := by
  have := applyS_rng f a b
  unfold valS
  simpa using this
theorem pc_succ {pc : Int} {n : Nat} (h : 0 ≤ pc) (h2 : pc.toNat < n) : 0 ≤ pc + 1 ∧ pc + 1 ≤ (n : Int) := by omega
theorem at_lt {fs : List FD} {fn pc : Int} {i : ID} (h : atS fs fn pc = some i) : pc.toNat < (codeF fs fn).length := (List.getElem?_eq_some_iff.1 h).1
theorem vis_ph {ms : List ByteArray} {fs : List FD} {bound id fn pc st ch ph su fa : Int} {rg hd : List Int} {u : Unit} {i : ID} (h : Formed ms fs bound (id, fn, pc, rg, st, ch, ph, su, fa, hd, u)) (hi : atS fs fn pc = some i) (hv : visS i.1 = false) : ph = 0 := by
  rcases h.2.2.2.2.2.2.2.2 with e | ⟨_, j, hj, h18, _⟩
  · exact e
  · rw [hi] at hj; cases hj
    rw [h18] at hv; cases hv
theorem none_ph {ms : List ByteArray} {fs : List FD} {bound id fn pc st ch ph su fa : Int} {rg hd : List Int} {u : Unit} (h : Formed ms fs bound (id, fn, pc, rg, st, ch, ph, su, fa, hd, u)) (hi : atS fs fn pc = none) : ph = 0 := by
  rcases h.2.2.2.2.2.2.2.2 with e | ⟨_, j, hj, h18, _⟩
  · exact e
  · rw [hi] at hj; cases hj
theorem loc_formed {vs : List VD} {ms cs : List ByteArray} {fs : List FD} {ts : List SD} (hc : (chkP vs ms cs fs ts).1 = 0) {bound : Int} {t : TD} {i : ID} (h : Formed ms fs bound t) (hi : atS fs t.2.1 t.2.2.1 = some i) (hv : visS i.1 = false) : Formed ms fs bound (locS t i).1 := by
  obtain ⟨id, fn, pc, rg, st, ch, ph, su, fa, hd, u⟩ := t
  obtain ⟨op, a, b, c, obj, n, f, ord, u2⟩ := i
  have hi : atS fs fn pc = some (op, a, b, c, obj, n, f, ord, u2) := hi
  have hp := vis_ph h hi hv
  have hlt := at_lt hi
  obtain ⟨h1, h2, h3, h4, h5, h6, h7, h8, h9⟩ := h
  have ok := at_ok hc h2 hi
  obtain ⟨k1, k2, k3, k4⟩ := ci_zero ok
  obtain ⟨r1, r2, r3, r4⟩ := chkI_regs k1
  have k4 : op = 4 ∨ op = 5 → 0 ≤ n ∧ n ≤ ((codeF fs fn).length : Int) := k4
  have hpc := pc_succ h3.1 hlt
  have key : ∀ (pc' : Int) (rg' : List Int) (su' fa' : Int), (0 ≤ pc' ∧ pc' ≤ ((codeF fs fn).length : Int)) → (∀ k < 8, ∀ r, rg'[k]? = some r → valS r = true) → Formed ms fs bound (id, fn, pc', rg', st, ch, ph, su', fa', hd, ()) :=
    fun pc' rg' su' fa' q1 q2 => ⟨h1, h2, q1, q2, h5, h6, h7, h8, .inl hp⟩
  unfold locS
  simp only
  split
  · rename_i e; exact key _ _ _ _ hpc (regs_set h4 (chkI_n k1 e))
  split
  · exact key _ _ _ _ hpc (regs_set h4 (regs_get h4 r2))
  split
  · split
    · exact key _ _ _ _ hpc (regs_set h4 (app_val _ _ _))
    · exact key _ _ _ _ hpc h4
  split
  · rename_i e; exact key _ _ _ _ (k4 (.inl e)) h4
  split
  · rename_i e
    split
    · exact key _ _ _ _ hpc h4
    · exact key _ _ _ _ (k4 (.inr e)) h4
  split
  · exact key _ _ _ _ h3 h4
  split
  · exact key _ _ _ _ h3 h4
  · exact key _ _ _ _ hpc h4
theorem loc_keep (t : TD) (i : ID) : (locS t i).1.1 = t.1 ∧ (locS t i).1.2.1 = t.2.1 ∧ (locS t i).1.2.2.2.2.1 = t.2.2.2.2.1 ∧ (locS t i).1.2.2.2.2.2.1 = t.2.2.2.2.2.1 ∧ (locS t i).1.2.2.2.2.2.2.1 = t.2.2.2.2.2.2.1 ∧ (locS t i).1.2.2.2.2.2.2.2.2.2.1 = t.2.2.2.2.2.2.2.2.2.1 ∧ ((locS t i).2 = true → (locS t i).1.2.2.2.2.2.2.2.1 = t.2.2.2.2.2.2.2.1 ∧ (locS t i).1.2.2.2.2.2.2.2.2.1 = t.2.2.2.2.2.2.2.2.1) := by
  obtain ⟨id, fn, pc, rg, st, ch, ph, su, fa, hd, u⟩ := t
  obtain ⟨op, a, b, c, obj, n, f, ord, u2⟩ := i
  unfold locS
  simp only
  repeat' split
  all_goals simp
theorem formed_end {ms : List ByteArray} {fs : List FD} {bound id fn pc st ch ph su fa : Int} {rg hd : List Int} {u : Unit} (h : Formed ms fs bound (id, fn, pc, rg, st, ch, ph, su, fa, hd, u)) (su' fa' : Int) : Formed ms fs bound (id, fn, pc, rg, st, ch, ph, su', fa', hd, ()) := h
theorem obs_cases (id ch ph : Int) (hd : List Int) (i : ID) : obsS id ch ph hd i = 0 ∨ (ph = 0 ∧ (obsS id ch ph hd i = 27 ∨ obsS id ch ph hd i = 28)) := by
  unfold obsS
  repeat' split
  all_goals first | exact .inl rfl | (right; constructor <;> first | omega | simp)
/-- Settled threads are valid: one round. -/
theorem top_vld {ms : List ByteArray} {fs : List FD} {bound : Int} (hb : 1 ≤ bound) {rest : ID → TD} {id fn pc st ch ph : Int} {rg hd : List Int} {u : Unit} (h : Formed ms fs bound (id, fn, pc, rg, st, ch, ph, 1, 0, hd, u))
    (hr : ∀ i, atS fs fn pc = some i → visS i.1 = false → ph = 0 → Vld ms fs bound (rest i)) : Vld ms fs bound (topS fs bound (id, fn, pc, rg, st, ch, ph, 1, 0, hd, u) rest) := by
  unfold topS
  simp only
  split
  · rename_i hi
    exact ⟨h, .inr (.inl ⟨rfl, rfl, none_ph h hi, fun i q => by rw [hi] at q; cases q⟩)⟩
  rename_i i hi
  split
  · rename_i hv
    have ho := obs_cases id ch ph hd i
    split
    · rename_i e
      refine ⟨h, .inr (.inr ⟨rfl, by omega, i, hi, .inr (.inr ⟨by omega, by omega, by omega, rfl⟩)⟩)⟩
    · rename_i e
      have e : obsS id ch ph hd i = 0 := by omega
      have hst := h.2.2.2.2.1
      split
      · exact ⟨h, .inl ⟨.inr ⟨rfl, by omega⟩, rfl, i, hi, hv, e⟩⟩
      · exact ⟨h, .inl ⟨.inl ⟨rfl, by omega⟩, rfl, i, hi, hv, e⟩⟩
  · rename_i hv
    have hv : visS i.1 = false := by simpa using hv
    exact hr i hi hv (vis_ph h hi hv)
/-- Settled threads are valid. -/
theorem stl_vld {vs : List VD} {ms cs : List ByteArray} {fs : List FD} {ts : List SD} (hc : (chkP vs ms cs fs ts).1 = 0) {bound : Int} (hb : 1 ≤ bound) : ∀ (k : Nat) (t : TD), Formed ms fs bound t → t.2.2.2.2.2.2.2.1 = 1 → t.2.2.2.2.2.2.2.2.1 = 0 → Vld ms fs bound (stlS fs bound k t) := by
  intro k
  induction k with
  | zero =>
    rintro ⟨id, fn, pc, rg, st, ch, ph, su, fa, hd, u⟩ h h1 h2
    have h1 : su = 1 := h1
    have h2 : fa = 0 := h2
    subst h1; subst h2
    rw [stlS]
    refine top_vld hb h fun i hi hv hp => ?_
    show Vld ms fs bound (id, fn, pc, rg, st, ch, ph, 3, 29, hd, ())
    exact ⟨h, .inr (.inr ⟨rfl, hp, i, hi, .inr (.inl ⟨rfl, hv⟩)⟩)⟩
  | succ k ih =>
    rintro ⟨id, fn, pc, rg, st, ch, ph, su, fa, hd, u⟩ h h1 h2
    have h1 : su = 1 := h1
    have h2 : fa = 0 := h2
    subst h1; subst h2
    rw [stlS]
    refine top_vld hb h fun i hi hv hp => ?_
    have hf := loc_formed hc (t := (id, fn, pc, rg, st, ch, ph, 1, 0, hd, u)) h hi hv
    have hk := loc_keep (id, fn, pc, rg, st, ch, ph, 1, 0, hd, u) i
    split
    · rename_i e
      exact ih _ hf (hk.2.2.2.2.2.2 e).1 (hk.2.2.2.2.2.2 e).2
    · rename_i e
      obtain ⟨op, a, b, c, obj, n, f, ord, u2⟩ := i
      unfold locS at e ⊢
      simp only at e ⊢
      by_cases n1 : op = 1
      · rw [if_pos n1] at e; exact absurd rfl e
      rw [if_neg n1] at e ⊢
      by_cases n2 : op = 2
      · rw [if_pos n2] at e; exact absurd rfl e
      rw [if_neg n2] at e ⊢
      by_cases n3 : op = 3
      · rw [if_pos n3] at e; exact absurd rfl e
      rw [if_neg n3] at e ⊢
      by_cases n4 : op = 4
      · rw [if_pos n4] at e; exact absurd rfl e
      rw [if_neg n4] at e ⊢
      by_cases n5 : op = 5
      · rw [if_pos n5] at e; exact absurd rfl e
      rw [if_neg n5] at e ⊢
      by_cases n6 : op = 6 ∧ rg.getD b.toNat 0 = 0
      · rw [if_pos n6]
        exact ⟨h, .inr (.inr ⟨rfl, hp, _, hi, .inl ⟨rfl, n6.1, n6.2⟩⟩)⟩
      rw [if_neg n6] at e ⊢
      by_cases n7 : op = 7
      · rw [if_pos n7]
        exact ⟨h, .inr (.inl ⟨rfl, rfl, hp, fun j hj => by rw [hi] at hj; cases hj; exact n7⟩)⟩
      rw [if_neg n7] at e
      exact absurd rfl e
/-- A valid running thread is settled. -/
theorem top_id {ms : List ByteArray} {fs : List FD} {bound : Int} {t : TD} (h : Vld ms fs bound t) (h1 : t.2.2.2.2.2.2.2.1 = 1) (rest : ID → TD) : topS fs bound t rest = t := by
  obtain ⟨id, fn, pc, rg, st, ch, ph, su, fa, hd, u⟩ := t
  have h1 : su = 1 := h1
  subst h1
  obtain ⟨hf, q | q | q⟩ := h
  · obtain ⟨q1, q2, i, hi, hv, ho⟩ := q
    subst q2
    have q1 : st < bound := by
      rcases q1 with ⟨_, q1⟩ | ⟨q1, _⟩
      · exact q1
      · exact absurd q1 (by decide)
    unfold topS
    simp only [hi]
    rw [if_pos hv, if_neg (by rw [ho]; simp), if_neg (by omega)]
  · exact absurd q.1 (by decide)
  · exact absurd q.1 (by decide)
theorem stl_id {ms : List ByteArray} {fs : List FD} {bound : Int} {t : TD} (h : Vld ms fs bound t) (h1 : t.2.2.2.2.2.2.2.1 = 1) (k : Nat) : stlS fs bound k t = t := by
  cases k <;> rw [stlS] <;> exact top_id h h1 _
theorem top_keep {fs : List FD} {bound : Int} {t : TD} {rest : ID → TD} (hr : ∀ i, (rest i).1 = t.1 ∧ (rest i).2.1 = t.2.1 ∧ (rest i).2.2.2.2.1 = t.2.2.2.2.1 ∧ (rest i).2.2.2.2.2.2.2.2.2.1 = t.2.2.2.2.2.2.2.2.2.1) :
    (topS fs bound t rest).1 = t.1 ∧ (topS fs bound t rest).2.1 = t.2.1 ∧ (topS fs bound t rest).2.2.2.2.1 = t.2.2.2.2.1 ∧ (topS fs bound t rest).2.2.2.2.2.2.2.2.2.1 = t.2.2.2.2.2.2.2.2.2.1 := by
  obtain ⟨id, fn, pc, rg, st, ch, ph, su, fa, hd, u⟩ := t
  unfold topS
  simp only
  split
  · exact ⟨rfl, rfl, rfl, rfl⟩
  split
  · repeat' split
    all_goals exact ⟨rfl, rfl, rfl, rfl⟩
  · exact hr _
theorem stl_keep (fs : List FD) (bound : Int) : ∀ (k : Nat) (t : TD), (stlS fs bound k t).1 = t.1 ∧ (stlS fs bound k t).2.1 = t.2.1 ∧ (stlS fs bound k t).2.2.2.2.1 = t.2.2.2.2.1 ∧ (stlS fs bound k t).2.2.2.2.2.2.2.2.2.1 = t.2.2.2.2.2.2.2.2.2.1 := by
  intro k
  induction k with
  | zero =>
    intro t
    rw [stlS]
    exact top_keep fun i => ⟨rfl, rfl, rfl, rfl⟩
  | succ k ih =>
    intro t
    rw [stlS]
    refine top_keep fun i => ?_
    have hk := loc_keep t i
    have := ih (locS t i).1
    split
    · exact ⟨this.1.trans hk.1, this.2.1.trans hk.2.1, this.2.2.1.trans hk.2.2.1, this.2.2.2.trans hk.2.2.2.2.2.1⟩
    · exact ⟨hk.1, hk.2.1, hk.2.2.1, hk.2.2.2.2.2.1⟩
end Go.Proofs.YtklnffdjhoacoaaGreatDoor
set_option linter.unusedSimpArgs false
set_option linter.unusedVariables false
namespace Go.Proofs.YtklnffdjhoacoaaGreatDoor
open Go Go.Eng

def filI (l o : List Int) (b : Bool) : List Int := l.filter fun x => hasI o x == b
def remI (l : List Int) (x : Int) : List Int := filI (makeI l) [x] false
def addI (l : List Int) (x : Int) : List Int := makeI (l ++ [x])
theorem rem_ss (l : List Int) (x : Int) : SS (remI l x) := List.Pairwise.filter _ (make_ss l)
theorem rem_mem {l : List Int} {x y : Int} : y ∈ remI l x ↔ y ∈ l ∧ y ≠ x := by
  unfold remI filI
  rw [List.mem_filter, make_mem]
  have : (hasI [x] y == false) = true ↔ y ≠ x := by
    rw [beq_iff_eq, hasI_false, List.mem_singleton]
  rw [this]
theorem add_mem {l : List Int} {x y : Int} : y ∈ addI l x ↔ y ∈ l ∨ y = x := by
  unfold addI
  rw [make_mem]; simp
theorem with_eq {l : List Int} {n : Int} (h : SS l) : l.filter (fun x => decide (x < n)) ++ [n] ++ l.filter (fun x => decide (n < x)) = addI l n := by
  refine ss_ext ?_ (make_ss _) fun x => ?_
  · unfold SS
    rw [List.append_assoc, List.pairwise_append]
    refine ⟨List.Pairwise.filter _ h, ?_, fun a ha b hb => ?_⟩
    · rw [List.singleton_append, List.pairwise_cons]
      refine ⟨fun b hb => ?_, List.Pairwise.filter _ h⟩
      simpa using (List.mem_filter.1 hb).2
    · have ha : a < n := by simpa using (List.mem_filter.1 ha).2
      rw [List.singleton_append, List.mem_cons] at hb
      rcases hb with rfl | hb
      · exact ha
      · have hb : n < b := by simpa using (List.mem_filter.1 hb).2
        omega
  · rw [add_mem]
    simp only [List.append_assoc, List.singleton_append, List.mem_append, List.mem_cons, List.mem_filter, decide_eq_true_eq]
    constructor
    · rintro (⟨q, _⟩ | q | ⟨q, _⟩)
      · exact .inl q
      · exact .inr q
      · exact .inl q
    · rintro (q | q)
      · by_cases h1 : x < n
        · exact .inl ⟨q, h1⟩
        · by_cases h2 : x = n
          · exact .inr (.inl h2)
          · exact .inr (.inr ⟨q, by omega⟩)
      · exact .inr (.inl q)
theorem without_eq {l : List Int} {n : Int} (h : SS l) : l.filter (fun x => decide (x ≠ n)) = remI l n := by
  refine ss_ext (List.Pairwise.filter _ h) (rem_ss _ _) fun x => ?_
  rw [rem_mem, List.mem_filter]; simp
def zT : TD := (0, 0, 0, [0, 0, 0, 0, 0, 0, 0, 0], 0, 0, 0, 0, 0, [], ())
/-- The thread after its instruction, before its local steps. -/
def cmpS : TD → ID → Int → TD
  | (id, fn, pc, rg, st, ch, ph, su, fa, hd, _), i, result =>
    if i.1 = 18 then
      (if ph = 0 then (id, fn, pc, if (defS i).2 = true then rg.set (defS i).1.toNat result else rg, st + 1, ch, 1, su, fa, remI hd i.2.2.2.2.2.1, ())
       else if ph = 1 then (id, fn, pc, if (defS i).2 = true then rg.set (defS i).1.toNat result else rg, st + 1, ch, 2, su, fa, hd, ())
       else (id, fn, pc + 1, if (defS i).2 = true then rg.set (defS i).1.toNat result else rg, st + 1, ch, 0, su, fa, addI hd i.2.2.2.2.2.1, ()))
    else (id, fn, pc + 1, if (defS i).2 = true then rg.set (defS i).1.toNat result else rg, st + 1, if i.1 = 21 then ch + 1 else ch, ph, su, fa,
      if i.1 = 15 ∨ (i.1 = 17 ∧ result ≠ 0) then addI hd i.2.2.2.2.1 else if i.1 = 16 then remI hd i.2.2.2.2.1 else hd, ())
theorem obj_mutex {vs : List VD} {ms cs : List ByteArray} {fs : List FD} {op : Int} (h : op = 15 ∨ op = 16 ∨ op = 17) : objS vs ms cs fs op = ms.length := by
  unfold objS
  rw [if_neg (by omega), if_pos h]
theorem run_at {ms : List ByteArray} {fs : List FD} {bound : Int} {t : TD} (h : Vld ms fs bound t) (h1 : t.2.2.2.2.2.2.2.1 = 1) : t.2.2.2.2.2.2.2.2.1 = 0 ∧ t.2.2.2.2.1 < bound ∧ ∃ i, atS fs t.2.1 t.2.2.1 = some i ∧ visS i.1 = true ∧ obsS t.1 t.2.2.2.2.2.1 t.2.2.2.2.2.2.1 t.2.2.2.2.2.2.2.2.2.1 i = 0 := by
  obtain ⟨id, fn, pc, rg, st, ch, ph, su, fa, hd, u⟩ := t
  have h1 : su = 1 := h1
  subst h1
  obtain ⟨hf, q | q | q⟩ := h
  · obtain ⟨q1, q2, i, hi, hv, ho⟩ := q
    rcases q1 with ⟨_, q1⟩ | ⟨q1, _⟩
    · exact ⟨q2, q1, i, hi, hv, ho⟩
    · exact absurd q1 (by decide)
  · exact absurd q.1 (by decide)
  · exact absurd q.1 (by decide)
theorem cmp_formed {vs : List VD} {ms cs : List ByteArray} {fs : List FD} {ts : List SD} (hc : (chkP vs ms cs fs ts).1 = 0) {bound : Int} {t : TD} (h : Vld ms fs bound t) (h1 : t.2.2.2.2.2.2.2.1 = 1) {i : ID} (hi : atS fs t.2.1 t.2.2.1 = some i) {result : Int} (hv : valS result = true) : Formed ms fs bound (cmpS t i result) := by
  obtain ⟨f0, s0, j, hj, vj, oj⟩ := run_at h h1
  rw [hi] at hj; cases hj
  obtain ⟨id, fn, pc, rg, st, ch, ph, su, fa, hd, u⟩ := t
  have hf : Formed ms fs bound (id, fn, pc, rg, st, ch, ph, su, fa, hd, u) := h.1
  have hi : atS fs fn pc = some i := hi
  have s0 : st < bound := s0
  have oj : obsS id ch ph hd i = 0 := oj
  have hlt := at_lt hi
  obtain ⟨a1, a2, a3, a4, a5, a6, a7, a8, a9⟩ := hf
  obtain ⟨k1, k2, k3, k4⟩ := ci_zero (at_ok hc a2 hi)
  have hpc := pc_succ a3.1 hlt
  have hst : 0 ≤ st + 1 ∧ st + 1 ≤ bound := ⟨Int.add_nonneg a5.1 (by decide), s0⟩
  have hrg : ∀ k < 8, ∀ r, (if (defS i).2 = true then rg.set (defS i).1.toNat result else rg)[k]? = some r → valS r = true := by
    split
    · exact regs_set a4 hv
    · exact a4
  have hrem : ∀ x, SS (remI hd x) ∧ ∀ m ∈ remI hd x, 0 ≤ m ∧ m < (ms.length : Int) := fun x => ⟨rem_ss _ _, fun m hm => a8 m (rem_mem.1 hm).1⟩
  have hadd : ∀ x, 0 ≤ x ∧ x < (ms.length : Int) → SS (addI hd x) ∧ ∀ m ∈ addI hd x, 0 ≤ m ∧ m < (ms.length : Int) := fun x hx => ⟨make_ss _, fun m hm => by
    rcases add_mem.1 hm with q | q
    · exact a8 m q
    · subst q; exact hx⟩
  unfold cmpS
  simp only
  split
  · rename_i e
    split
    · rename_i e0
      subst e0
      refine ⟨a1, a2, a3, hrg, hst, a6, (hrem _).1, (hrem _).2, .inr ⟨.inl rfl, i, hi, e, ?_⟩⟩
      rw [hasI_false]
      exact fun q => (rem_mem.1 q).2 rfl
    rename_i n0
    have a10 := a9.resolve_left n0
    split
    · exact ⟨a1, a2, a3, hrg, hst, a6, a7, a8, .inr ⟨.inr rfl, a10.2⟩⟩
    · exact ⟨a1, a2, hpc, hrg, hst, a6, (hadd _ (k3 e)).1, (hadd _ (k3 e)).2, .inl rfl⟩
  · rename_i e
    have e0 : ph = 0 := by
      rcases a9 with q | ⟨_, j, hj, q, _⟩
      · exact q
      · rw [hi] at hj; cases hj; exact absurd q e
    subst e0
    have hch : 0 ≤ (if i.1 = 21 then ch + 1 else ch) ∧ (if i.1 = 21 then ch + 1 else ch) ≤ 7 ∧ (depthI id = 4 → (if i.1 = 21 then ch + 1 else ch) = 0) := by
      split
      · rename_i e21
        have : (childS id ch).2 = true := by
          unfold obsS at oj
          rw [if_neg (by simp), if_neg e, if_neg (by omega), if_pos e21] at oj
          by_cases q : (childS id ch).2 = true
          · exact q
          · rw [if_neg q] at oj; cases oj
        unfold childS at this
        split at this
        · cases this
        · rename_i q; omega
      · exact a6
    refine ⟨a1, a2, hpc, hrg, hst, hch, ?_, ?_, .inl rfl⟩
    · split
      · exact make_ss _
      split
      · exact rem_ss _ _
      · exact a7
    · split
      · rename_i q
        have ho := obj_mutex (vs := vs) (ms := ms) (cs := cs) (fs := fs) (op := i.1) (by omega)
        rw [ho] at k2
        exact (hadd _ (k2 (by omega))).2
      split
      · exact (hrem _).2
      · exact a8
theorem cmp_keep (t : TD) (i : ID) (r : Int) : (cmpS t i r).1 = t.1 ∧ (cmpS t i r).2.1 = t.2.1 ∧ (cmpS t i r).2.2.2.2.1 = t.2.2.2.2.1 + 1 ∧ (cmpS t i r).2.2.2.2.2.2.2.1 = t.2.2.2.2.2.2.2.1 ∧ (cmpS t i r).2.2.2.2.2.2.2.2.1 = t.2.2.2.2.2.2.2.2.1 := by
  obtain ⟨id, fn, pc, rg, st, ch, ph, su, fa, hd, u⟩ := t
  unfold cmpS
  simp only
  repeat' split
  all_goals simp
/-- The error of a program and a bound. -/
def stdS (e bound : Int) : Int := if e ≠ 0 then e else if bound < 1 ∨ 32 < bound then 2 else 0
theorem std_zero {e bound : Int} : stdS e bound = 0 ↔ e = 0 ∧ 1 ≤ bound ∧ bound ≤ 32 := by
  unfold stdS
  constructor
  · intro h
    split at h
    · rename_i q; exact absurd h q
    · rename_i q
      split at h
      · cases h
      · omega
  · rintro ⟨h1, h2, h3⟩
    rw [if_neg (by omega), if_neg (by omega)]
def newS (e : Int) (fs : List FD) (bound id fn arg : Int) : TD × Int :=
  if stdS e bound ≠ 0 then (zT, stdS e bound) else if depthI id < 0 then (zT, 2) else if fn < 0 ∨ (fs.length : Int) ≤ fn then (zT, 11) else if valS arg = false then (zT, 2)
  else (stlS fs bound 256 (id, fn, 0, [arg, 0, 0, 0, 0, 0, 0, 0], 0, 0, 0, 1, 0, [], ()), 0)
theorem new_formed (ms : List ByteArray) {fs : List FD} {bound id fn arg : Int} (hb : 1 ≤ bound) (h1 : ¬ depthI id < 0) (h2 : ¬ (fn < 0 ∨ (fs.length : Int) ≤ fn)) (h3 : ¬ valS arg = false) : Formed ms fs bound (id, fn, 0, [arg, 0, 0, 0, 0, 0, 0, 0], 0, 0, 0, 1, 0, [], ()) := by
  refine ⟨by omega, by omega, by omega, fun k hk r hr => ?_, by omega, ⟨by omega, by omega, fun _ => rfl⟩, List.Pairwise.nil, fun m hm => (nomatch hm), .inl rfl⟩
  match k, hr with
  | 0, hr => cases hr; simpa using h3
  | k + 1, hr =>
    have : r = 0 := by
      have := List.mem_of_getElem? (show [(0 : Int), 0, 0, 0, 0, 0, 0][k]? = some r by simpa using hr)
      simpa using this
    rw [this]; rfl
open Classical in
noncomputable def setS (e : Int) (ms : List ByteArray) (fs : List FD) (bound : Int) (t : TD) : TD × Int :=
  if stdS e bound ≠ 0 then (zT, stdS e bound) else if ¬ Formed ms fs bound t ∨ t.2.2.2.2.2.2.2.2.1 ≠ 0 then (zT, 1) else if t.2.2.2.2.2.2.2.1 ≠ 1 then (zT, 30) else (stlS fs bound 256 t, 0)
open Classical in
noncomputable def pndS (e : Int) (ms : List ByteArray) (fs : List FD) (t : TD) : ID × Bool :=
  if e = 0 ∧ t.2.2.2.2.2.2.2.1 = 1 ∧ Vld ms fs 32 t then atR fs t.2.1 t.2.2.1 else ((0, 0, 0, 0, 0, 0, 0, 0, ()), false)
open Classical in
noncomputable def comS (e : Int) (ms : List ByteArray) (fs : List FD) (bound : Int) (t : TD) (result : Int) : TD × Int :=
  if stdS e bound ≠ 0 then (zT, stdS e bound) else if ¬ Vld ms fs bound t then (zT, 1) else if t.2.2.2.2.2.2.2.1 ≠ 1 then (zT, 30) else if valS result = false then (zT, 2)
  else (stlS fs bound 256 (cmpS t (atR fs t.2.1 t.2.2.1).1 result), 0)
end Go.Proofs.YtklnffdjhoacoaaGreatDoor
set_option linter.unusedSimpArgs false
set_option linter.unusedVariables false
set_option maxRecDepth 100000
namespace Go.Proofs.YtklnffdjhoacoaaGreatDoor
open Go Go.Eng

theorem wrap32 (n : Int) : IntKind.i32.wrap (IntKind.u32.wrap n) = wrapS n := by
  simp only [IntKind.wrap, IntKind.bits, IntKind.signed, wrapS]
  simp
  split <;> omega
theorem mul32 {x y : Int} (hx : -2147483648 ≤ x ∧ x ≤ 2147483647) (hy : -2147483648 ≤ y ∧ y ≤ 2147483647) : -9223372036854775808 ≤ x * y ∧ x * y ≤ 9223372036854775807 := by
  have h1 : x.natAbs ≤ 2147483648 := by omega
  have h2 : y.natAbs ≤ 2147483648 := by omega
  have h3 : (x * y).natAbs ≤ 2147483648 * 2147483648 := by rw [Int.natAbs_mul]; exact Nat.mul_le_mul h1 h2
  omega
@[reducible] def ctWrap : CT := { ps := [.int .i64], pre := fun d => True, res := fun d => ([], .one (.c (.v (.int .i64 (wrapS d.1))))) }
@[reducible] def cl25 : List (Nat × CT) := []
@[reducible] def ann25 (n : Int) : Nat → Option (St → Ann) := fun _ => none
set_option maxRecDepth 100000 in
theorem f25_vc (n : Int) :
    InR IntKind.i64 (IntKind.i32.wrap (IntKind.u32.wrap n)) ∧ ([] : List Go.Eng.Res) = [] ∧ Ent.one (SV.c (SC.v (Value.int IntKind.i64 (wrapS n)))) = Ent.one (SV.c (SC.v (Value.int IntKind.i64 (IntKind.i32.wrap (IntKind.u32.wrap n))))) := by
  have := wrapS_rng n
  rw [wrap32]
  exact ⟨InR_i64.2 (by omega), rfl, rfl⟩
set_option maxHeartbeats 2000000 in
set_option maxRecDepth 100000 in
theorem f25_met : Go.Eng.Met Tryz.prog cx0.gd 25 ctWrap :=
  met_of (cx := cx0) (n := 7) (cl := cl25) (by kernel_rfl) tis_ok trivial Tryz.func25 (by kernel_rfl) (by kernel_rfl) rfl (by kernel_rfl) (by kernel_rfl) fun d hd => by
    obtain ⟨n, ⟨⟩⟩ := d
    exact ex_of (ann25 n) (f25_vc n) (by kernel_rfl)
@[reducible] def ctTru : CT := { ps := [.bool], pre := fun d => True, res := fun d => ([], .one (.c (.v (.int .i64 (if d.1 = true then 1 else 0))))) }
@[reducible] def cl93 : List (Nat × CT) := []
@[reducible] def ann93 (b : Bool) : Nat → Option (St → Ann) := fun _ => none
set_option maxRecDepth 100000 in
theorem f93_vc (b : Bool) :
    br b (([] : List Go.Eng.Res) = [] ∧ Ent.one (SV.c (SC.v (Value.int IntKind.i64 (if b = true then (1 : Int) else (0 : Int))))) = Ent.one (SV.c (SC.v (Value.int IntKind.i64 (1 : Int))))) (([] : List Go.Eng.Res) = [] ∧ Ent.one (SV.c (SC.v (Value.int IntKind.i64 (if b = true then (1 : Int) else (0 : Int))))) = Ent.one (SV.c (SC.v (Value.int IntKind.i64 (0 : Int))))) := by
  rw [br_iff]
  cases b <;> simp
set_option maxHeartbeats 2000000 in
set_option maxRecDepth 100000 in
theorem f93_met : Go.Eng.Met Tryz.prog cx0.gd 93 ctTru :=
  met_of (cx := cx0) (n := 4) (cl := cl93) (by kernel_rfl) tis_ok trivial Tryz.func93 (by kernel_rfl) (by kernel_rfl) rfl (by kernel_rfl) (by kernel_rfl) fun d hd => by
    obtain ⟨b, ⟨⟩⟩ := d
    exact ex_of (ann93 b) (f93_vc b) (by kernel_rfl)
@[reducible] def ctApp : CT := { ps := [.int .i64, .int .i64, .int .i64], pre := fun d => True, res := fun d => ([], .tup [.c (.v (.int .i64 (applyS d.1 d.2.1 d.2.2.1).1)), .c (.v (.int .i64 (applyS d.1 d.2.1 d.2.2.1).2))]) }
@[reducible] def cl69 : List (Nat × CT) := [(25, ctWrap), (93, ctTru)]
@[reducible] def ann69 (f : Int) (a : Int) (b : Int) : Nat → Option (St → Ann) := fun _ => none
set_option maxRecDepth 100000 in
theorem f69_vc (f : Int) (a : Int) (b : Int) :
    True ∧ True ∧ br (decide (f = (1 : Int))) (InR IntKind.i64 (wrapS a + wrapS b) ∧ True ∧ ([] : List Go.Eng.Res) = [] ∧ Ent.tup [SV.c (SC.v (Value.int IntKind.i64 (applyS f a b).fst)), SV.c (SC.v (Value.int IntKind.i64 (applyS f a b).snd))] = Ent.tup [SV.c (SC.v (Value.int IntKind.i64 (wrapS (wrapS a + wrapS b)))), SV.c (SC.v (Value.int IntKind.i64 (0 : Int)))]) (br (decide (f = (2 : Int))) (InR IntKind.i64 (wrapS a - wrapS b) ∧ True ∧ ([] : List Go.Eng.Res) = [] ∧ Ent.tup [SV.c (SC.v (Value.int IntKind.i64 (applyS f a b).fst)), SV.c (SC.v (Value.int IntKind.i64 (applyS f a b).snd))] = Ent.tup [SV.c (SC.v (Value.int IntKind.i64 (wrapS (wrapS a - wrapS b)))), SV.c (SC.v (Value.int IntKind.i64 (0 : Int)))]) (br (decide (f = (3 : Int))) (InR IntKind.i64 (wrapS a * wrapS b) ∧ True ∧ ([] : List Go.Eng.Res) = [] ∧ Ent.tup [SV.c (SC.v (Value.int IntKind.i64 (applyS f a b).fst)), SV.c (SC.v (Value.int IntKind.i64 (applyS f a b).snd))] = Ent.tup [SV.c (SC.v (Value.int IntKind.i64 (wrapS (wrapS a * wrapS b)))), SV.c (SC.v (Value.int IntKind.i64 (0 : Int)))]) (br (decide (f = (4 : Int))) (True ∧ ([] : List Go.Eng.Res) = [] ∧ Ent.tup [SV.c (SC.v (Value.int IntKind.i64 (applyS f a b).fst)), SV.c (SC.v (Value.int IntKind.i64 (applyS f a b).snd))] = Ent.tup [SV.c (SC.v (Value.int IntKind.i64 (wrapS (bitop BinOp.and IntKind.i64 (wrapS a) (wrapS b))))), SV.c (SC.v (Value.int IntKind.i64 (0 : Int)))]) (br (decide (f = (5 : Int))) (True ∧ ([] : List Go.Eng.Res) = [] ∧ Ent.tup [SV.c (SC.v (Value.int IntKind.i64 (applyS f a b).fst)), SV.c (SC.v (Value.int IntKind.i64 (applyS f a b).snd))] = Ent.tup [SV.c (SC.v (Value.int IntKind.i64 (wrapS (bitop BinOp.or IntKind.i64 (wrapS a) (wrapS b))))), SV.c (SC.v (Value.int IntKind.i64 (0 : Int)))]) (br (decide (f = (6 : Int))) (True ∧ ([] : List Go.Eng.Res) = [] ∧ Ent.tup [SV.c (SC.v (Value.int IntKind.i64 (applyS f a b).fst)), SV.c (SC.v (Value.int IntKind.i64 (applyS f a b).snd))] = Ent.tup [SV.c (SC.v (Value.int IntKind.i64 (wrapS (bitop BinOp.xor IntKind.i64 (wrapS a) (wrapS b))))), SV.c (SC.v (Value.int IntKind.i64 (0 : Int)))]) (br (decide (f = (7 : Int))) (True ∧ ([] : List Go.Eng.Res) = [] ∧ Ent.tup [SV.c (SC.v (Value.int IntKind.i64 (applyS f a b).fst)), SV.c (SC.v (Value.int IntKind.i64 (applyS f a b).snd))] = Ent.tup [SV.c (SC.v (Value.int IntKind.i64 (if decide (wrapS a = wrapS b) = true then (1 : Int) else (0 : Int)))), SV.c (SC.v (Value.int IntKind.i64 (0 : Int)))]) (br (decide (f = (8 : Int))) (True ∧ ([] : List Go.Eng.Res) = [] ∧ Ent.tup [SV.c (SC.v (Value.int IntKind.i64 (applyS f a b).fst)), SV.c (SC.v (Value.int IntKind.i64 (applyS f a b).snd))] = Ent.tup [SV.c (SC.v (Value.int IntKind.i64 (if (!decide (wrapS a = wrapS b)) = true then (1 : Int) else (0 : Int)))), SV.c (SC.v (Value.int IntKind.i64 (0 : Int)))]) (br (decide (f = (9 : Int))) (True ∧ ([] : List Go.Eng.Res) = [] ∧ Ent.tup [SV.c (SC.v (Value.int IntKind.i64 (applyS f a b).fst)), SV.c (SC.v (Value.int IntKind.i64 (applyS f a b).snd))] = Ent.tup [SV.c (SC.v (Value.int IntKind.i64 (if decide (wrapS a < wrapS b) = true then (1 : Int) else (0 : Int)))), SV.c (SC.v (Value.int IntKind.i64 (0 : Int)))]) (br (decide (f = (10 : Int))) (True ∧ ([] : List Go.Eng.Res) = [] ∧ Ent.tup [SV.c (SC.v (Value.int IntKind.i64 (applyS f a b).fst)), SV.c (SC.v (Value.int IntKind.i64 (applyS f a b).snd))] = Ent.tup [SV.c (SC.v (Value.int IntKind.i64 (if decide (wrapS a ≤ wrapS b) = true then (1 : Int) else (0 : Int)))), SV.c (SC.v (Value.int IntKind.i64 (0 : Int)))]) (([] : List Go.Eng.Res) = [] ∧ Ent.tup [SV.c (SC.v (Value.int IntKind.i64 (applyS f a b).fst)), SV.c (SC.v (Value.int IntKind.i64 (applyS f a b).snd))] = Ent.tup [SV.c (SC.v (Value.int IntKind.i64 (0 : Int))), SV.c (SC.v (Value.int IntKind.i64 (8 : Int)))])))))))))) := by
  have ha := wrapS_rng a
  have hb := wrapS_rng b
  have hm := mul32 ha hb
  unfold applyS
  simp only [br_iff, decide_eq_true_eq, decide_eq_false_iff_not]
  repeat' (first | (refine And.intro ?_ ?_) | (intro _))
  all_goals first | rfl | trivial | exact InR_i64.2 (by omega) | (simp [*]; done) | skip
set_option maxHeartbeats 2000000 in
set_option maxRecDepth 100000 in
theorem f69_met : Go.Eng.Met Tryz.prog cx0.gd 69 ctApp :=
  met_of (cx := cx0) (n := 75) (cl := cl69) (by kernel_rfl) tis_ok ⟨f25_met, f93_met, trivial⟩ Tryz.func69 (by kernel_rfl) (by kernel_rfl) rfl (by kernel_rfl) (by kernel_rfl) fun d hd => by
    obtain ⟨f, a, b, ⟨⟩⟩ := d
    exact ex_of (ann69 f a b) (f69_vc f a b) (by kernel_rfl)
@[reducible] def ctVis : CT := { ps := [.int .i64], pre := fun d => True, res := fun d => ([], vB (visS d.1)) }
@[reducible] def cl49 : List (Nat × CT) := []
@[reducible] def ann49 (op : Int) : Nat → Option (St → Ann) := fun _ => none
set_option maxRecDepth 100000 in
theorem f49_vc (op : Int) :
    ([] : List Go.Eng.Res) = [] ∧ Ent.one (SV.c (SC.v (Value.bool (visS op)))) = Ent.one (SV.c (SC.v (Value.bool (decide ((8 : Int) ≤ op) && decide (op ≤ (22 : Int)))))) := by
  refine ⟨rfl, ?_⟩
  rw [show visS op = (decide (8 ≤ op) && decide (op ≤ 22)) by unfold visS; rw [Bool.eq_iff_iff]; simp]
set_option maxHeartbeats 2000000 in
set_option maxRecDepth 100000 in
theorem f49_met : Go.Eng.Met Tryz.prog cx0.gd 49 ctVis :=
  met_of (cx := cx0) (n := 9) (cl := cl49) (by kernel_rfl) tis_ok trivial Tryz.func49 (by kernel_rfl) (by kernel_rfl) rfl (by kernel_rfl) (by kernel_rfl) fun d hd => by
    obtain ⟨op, ⟨⟩⟩ := d
    exact ex_of (ann49 op) (f49_vc op) (by kernel_rfl)
@[reducible] def ctDef : CT := { ps := [shI], pre := fun d => True, res := fun d => ([], .tup [.c (.v (.int .i64 (defS d.1).1)), .c (.v (.bool (defS d.1).2))]) }
@[reducible] def cl33 : List (Nat × CT) := [(55, ct11)]
@[reducible] def ann33 (op : Int) (a : Int) (b : Int) (c : Int) (obj : Int) (n : Int) (fo : Int) (ord : Int) : Nat → Option (St → Ann) := fun _ => none
set_option maxRecDepth 100000 in
theorem f33_vc (op : Int) (a : Int) (b : Int) (c : Int) (obj : Int) (n : Int) (fo : Int) (ord : Int) :
    True ∧ ((!!decide (chkS op a b c obj n fo ord = (0 : Int))) = true → InR IntKind.i64 (op - (1 : Int))) ∧ ((!!decide (chkS op a b c obj n fo ord = (0 : Int))) = true → (0 : Int) ≤ op - (1 : Int) ∧ op - (1 : Int) < (22 : Int)) ∧ ∀ (d : Sh.str.den × ((Sh.arr (7 : Nat) Sh.bool).pair Sh.unit).den), ((!!decide (chkS op a b c obj n fo ord = (0 : Int))) = true → rowsD[(op - (1 : Int)).toNat]? = some d) → ((!!decide (chkS op a b c obj n fo ord = (0 : Int))) = true → (0 : Int) ≤ (0 : Int) ∧ (0 : Int) < (↑(List.length d.snd.fst) : Int)) ∧ ∀ (d_1 : Bool), ((!!decide (chkS op a b c obj n fo ord = (0 : Int))) = true → d.snd.fst[(0 : Nat)]? = some d_1) → br (!decide (chkS op a b c obj n fo ord = (0 : Int)) || !d_1) (([] : List Go.Eng.Res) = [] ∧ Ent.tup [SV.c (SC.v (Value.int IntKind.i64 (defS (op, a, b, c, obj, n, fo, ord, ())).fst)), SV.c (SC.v (Value.bool (defS (op, a, b, c, obj, n, fo, ord, ())).snd))] = Ent.tup [SV.c (SC.v (Value.int IntKind.i64 (0 : Int))), SV.c (SC.v (Value.bool false))]) (([] : List Go.Eng.Res) = [] ∧ Ent.tup [SV.c (SC.v (Value.int IntKind.i64 (defS (op, a, b, c, obj, n, fo, ord, ())).fst)), SV.c (SC.v (Value.bool (defS (op, a, b, c, obj, n, fo, ord, ())).snd))] = Ent.tup [SV.c (SC.v (Value.int IntKind.i64 a)), SV.c (SC.v (Value.bool true))]) := by
  by_cases h : chkS op a b c obj n fo ord = 0
  · obtain ⟨r1, r2, r3, r4⟩ := chkI_regs (i := (op, a, b, c, obj, n, fo, ord, ())) h
    have r4 : 1 ≤ op ∧ op ≤ 22 := r4
    refine ⟨trivial, fun _ => InR_i64.2 (by omega), fun _ => by omega, fun d hd => ?_⟩
    have hd := hd (by simp [h])
    obtain ⟨nm, us, u⟩ := d
    have hu := rows_use r4 hd
    subst hu
    refine ⟨fun _ => by simp, fun d1 hd1 => ?_⟩
    have hd1 : use op 0 = d1 := by simpa [h] using hd1
    subst hd1
    rw [br_iff]
    have hc : chkI (op, a, b, c, obj, n, fo, ord, ()) = 0 := h
    refine ⟨fun q => ?_, fun q => ?_⟩
    · have q : use op 0 = false := by simpa [h] using q
      have e : defS (op, a, b, c, obj, n, fo, ord, ()) = (0, false) := by unfold defS; rw [if_pos (.inr q)]
      rw [e]; exact ⟨rfl, rfl⟩
    · have q : use op 0 = true := by simpa [h] using q
      have e : defS (op, a, b, c, obj, n, fo, ord, ()) = (a, true) := by unfold defS; rw [if_neg (by rw [hc]; simp [q])]
      rw [e]; exact ⟨rfl, rfl⟩
  · have hc : ¬ chkI (op, a, b, c, obj, n, fo, ord, ()) = 0 := h
    have e : defS (op, a, b, c, obj, n, fo, ord, ()) = (0, false) := by unfold defS; rw [if_pos (.inl hc)]
    rw [e]
    refine ⟨trivial, fun q => by simp [h] at q, fun q => by simp [h] at q, fun d hd => ⟨fun q => by simp [h] at q, fun d1 hd1 => ?_⟩⟩
    rw [br_iff]
    exact ⟨fun _ => ⟨rfl, rfl⟩, fun q => by simp [h] at q⟩
set_option maxHeartbeats 2000000 in
set_option maxRecDepth 100000 in
theorem f33_met : Go.Eng.Met Tryz.prog cx0.gd 33 ctDef :=
  met_of (cx := cx0) (n := 19) (cl := cl33) (by kernel_rfl) tis_ok ⟨f55_met, trivial⟩ Tryz.func33 (by kernel_rfl) (by kernel_rfl) rfl (by kernel_rfl) (by kernel_rfl) fun d hd => by
    obtain ⟨⟨op, a, b, c, obj, n, fo, ord, ⟨⟩⟩, ⟨⟩⟩ := d
    exact ex_of (ann33 op a b c obj n fo ord) (f33_vc op a b c obj n fo ord) (by kernel_rfl)
instance (l : List Int) : Decidable (SS l) := inferInstanceAs (Decidable (l.Pairwise (· < ·)))
def validI (l : List Int) : Bool := decide (SS l)
theorem ss_adj : ∀ {l : List Int}, (∀ j x y, l[j]? = some x → l[j + 1]? = some y → x < y) → SS l
  | [], _ => List.Pairwise.nil
  | [a], _ => by simp [SS]
  | a :: b :: l, h => by
    have ih : SS (b :: l) := ss_adj fun j x y h1 h2 => h (j + 1) x y (by simpa using h1) (by simpa using h2)
    refine List.pairwise_cons.2 ⟨fun z hz => ?_, ih⟩
    have hab := h 0 a b rfl rfl
    rcases List.mem_cons.1 hz with rfl | hz
    · exact hab
    · have := (List.pairwise_cons.1 ih).1 z hz; omega
theorem adj_ss {l : List Int} (h : SS l) {j : Nat} {x y : Int} (h1 : l[j]? = some x) (h2 : l[j + 1]? = some y) : x < y := by
  obtain ⟨a1, a2⟩ := List.getElem?_eq_some_iff.1 h1
  obtain ⟨b1, b2⟩ := List.getElem?_eq_some_iff.1 h2
  have := List.pairwise_iff_getElem.1 h j (j + 1) a1 b1 (by omega)
  omega
@[reducible] def ctV : CT := { ps := [.sl (.int .i64)], pre := fun d => d.1.length ≤ 1000000, res := fun d => ([], vB (validI d.1)) }
@[reducible] def cl63 : List (Nat × CT) := []
@[reducible] def ann63 (l : List Int) : Nat → Option (St → Ann) := fun k => match k with
  | 2 => some fun _ => .inv { α := Nat, slots := fun k => [(3, .c (.v (.int .i64 k)))], res := fun _ => [], inv := fun k => (1 ≤ k ∧ (k ≤ l.length ∨ k = 1)) ∧ ∀ j, j + 1 < k → ∀ x y, l[j]? = some x → l[j + 1]? = some y → x < y, meas := fun k => l.length - k }
  | _ => none
set_option maxRecDepth 100000 in
theorem f63_vc (l : List Int) (hpre : ctV.pre (l, ())) :
    (∃ x, (((1 : Nat) ≤ x ∧ (x ≤ l.length ∨ x = (1 : Nat))) ∧ ∀ (j : Nat), j + (1 : Nat) < x → ∀ (x y : Int), l[j]? = some x → l[j + (1 : Nat)]? = some y → x < y) ∧ (SV.c (SC.v (Value.int IntKind.i64 (1 : Int))) = SV.c (SC.v (Value.int IntKind.i64 (↑x : Int))) ∧ True) ∧ ([] : List (Go.Eng.Gd × Go.Eng.Res)) = []) ∧ ∀ (x : Nat), (((1 : Nat) ≤ x ∧ (x ≤ l.length ∨ x = (1 : Nat))) ∧ ∀ (j : Nat), j + (1 : Nat) < x → ∀ (x y : Int), l[j]? = some x → l[j + (1 : Nat)]? = some y → x < y) → br (decide ((↑x : Int) < (↑l.length : Int))) (InR IntKind.i64 ((↑x : Int) - (1 : Int)) ∧ ((0 : Int) ≤ (↑x : Int) - (1 : Int) ∧ (↑x : Int) - (1 : Int) < (↑l.length : Int)) ∧ ∀ (d : Int), l[((↑x : Int) - (1 : Int)).toNat]? = some d → ((0 : Int) ≤ (↑x : Int) ∧ (↑x : Int) < (↑l.length : Int)) ∧ ∀ (d_1 : Int), l[(↑x : Int).toNat]? = some d_1 → br (decide (d_1 ≤ d)) (([] : List Go.Eng.Res) = [] ∧ Ent.one (SV.c (SC.v (Value.bool (validI l)))) = Ent.one (SV.c (SC.v (Value.bool false)))) (InR IntKind.i64 ((↑x : Int) + (1 : Int)) ∧ ∃ x', (((1 : Nat) ≤ x' ∧ (x' ≤ l.length ∨ x' = (1 : Nat))) ∧ ∀ (j : Nat), j + (1 : Nat) < x' → ∀ (x y : Int), l[j]? = some x → l[j + (1 : Nat)]? = some y → x < y) ∧ (SV.c (SC.v (Value.int IntKind.i64 ((↑x : Int) + (1 : Int)))) = SV.c (SC.v (Value.int IntKind.i64 (↑x' : Int))) ∧ True) ∧ ([] : List (Go.Eng.Gd × Go.Eng.Res)) = [] ∧ l.length - x' < l.length - x)) (([] : List Go.Eng.Res) = [] ∧ Ent.one (SV.c (SC.v (Value.bool (validI l)))) = Ent.one (SV.c (SC.v (Value.bool true)))) := by
  have hp : l.length ≤ 1000000 := hpre
  refine ⟨⟨1, ⟨⟨by omega, .inr rfl⟩, fun j hj => by omega⟩, ⟨rfl, trivial⟩, rfl⟩, fun k hk => br_iff.2 ⟨fun h => ?_, fun h => ?_⟩⟩
  · simp only [decide_eq_true_eq] at h
    have hk1 := hk.1.1
    refine ⟨InR_i64.2 (by omega), by omega, fun d hd => ⟨by omega, fun e he => ?_⟩⟩
    have hd : l[k - 1]? = some d := by rw [← hd]; congr 1; omega
    have he : l[k]? = some e := by simpa using he
    have he' : l[k - 1 + 1]? = some e := by rw [show k - 1 + 1 = k by omega]; exact he
    refine br_iff.2 ⟨fun h2 => ?_, fun h2 => ⟨InR_i64.2 (by omega), k + 1, ⟨⟨by omega, .inl (by omega)⟩, fun j hj x y hx hy => ?_⟩, ⟨by simp, trivial⟩, rfl, by omega⟩⟩
    · simp only [decide_eq_true_eq] at h2
      have : validI l = false := decide_eq_false fun hs => by have := adj_ss hs hd he'; omega
      rw [this]; exact ⟨rfl, rfl⟩
    · simp only [decide_eq_false_iff_not] at h2
      by_cases hjk : j + 1 = k
      · have hj' : j = k - 1 := by omega
        subst hj'
        rw [hd] at hx; rw [he'] at hy; cases hx; cases hy; omega
      · exact hk.2 j (by omega) x y hx hy
  · simp only [decide_eq_false_iff_not] at h
    have : validI l = true := decide_eq_true (ss_adj fun j x y hx hy => hk.2 j (by have := (List.getElem?_eq_some_iff.1 hy).1; omega) x y hx hy)
    rw [this]; exact ⟨rfl, rfl⟩
set_option maxHeartbeats 2000000 in
set_option maxRecDepth 100000 in
theorem f63_met : Go.Eng.Met Tryz.prog cx0.gd 63 ctV :=
  met_of (cx := cx0) (n := 20) (cl := cl63) (by kernel_rfl) tis_ok trivial Tryz.func63 (by kernel_rfl) (by kernel_rfl) rfl (by kernel_rfl) (by kernel_rfl) fun d hd => by
    obtain ⟨l, ⟨⟩⟩ := d
    exact ex_of (ann63 l) (f63_vc l hd) (by kernel_rfl)
@[reducible] def ctFilter : CT := { ps := [.sl (.int .i64), .sl (.int .i64), .bool], pre := fun d => d.1.length ≤ 1000000 ∧ d.2.1.length ≤ 1000000, res := fun d => ([.row 3 (.int .i64) (filI (makeI d.1) d.2.1 d.2.2.1)], .one (.c (.row 0))) }
@[reducible] def cl57 : List (Nat × CT) := [(56, ctSorted), (81, ctCon)]
@[reducible] def ann57 (l : List Int) (o : List Int) (b : Bool) : Nat → Option (St → Ann) := fun k => match k with
  | 3 => some fun _ => .inv { α := Nat, slots := fun k => [(13, .c (.v (.int .i64 k))), (7, .c (.row 1))], res := fun k => [(1, .row 3 (.int .i64) (filI ((makeI l).take k) o b))], inv := fun k => k ≤ (makeI l).length, meas := fun k => (makeI l).length - k, nil := [(7, 3, .int .i64)] }
  | _ => none
set_option maxRecDepth 100000 in
theorem f57_vc (l : List Int) (o : List Int) (b : Bool) (hpre : ctFilter.pre (l, o, b, ())) :
    l.length ≤ (1000000 : Nat) ∧ (∃ x, x ≤ (makeI l).length ∧ (SV.c (SC.v (Value.int IntKind.i64 (0 : Int))) = SV.c (SC.v (Value.int IntKind.i64 (↑x : Int))) ∧ SV.c (SC.row (Nat.succ (0 : Nat))) = SV.c (SC.row (1 : Nat)) ∧ True) ∧ [(([] : Go.Eng.Gd), Res.row (3 : TypeId) I6 (makeI l)), (([] : Go.Eng.Gd), Res.row (3 : TypeId) I6 [])] = [(([] : Go.Eng.Gd), Res.row (3 : TypeId) I6 (makeI l)), (([] : Go.Eng.Gd), Res.row (3 : TypeId) I6 (filI (List.take x (makeI l)) o b))]) ∧ ∀ (x : Nat), x ≤ (makeI l).length → br (decide ((↑x : Int) < (↑(makeI l).length : Int))) (((0 : Int) ≤ (↑x : Int) ∧ (↑x : Int) < (↑(makeI l).length : Int)) ∧ (↑x : Int).toNat < (makeI l).length ∧ ∀ (d : Int), (makeI l)[(↑x : Int).toNat]? = some d → o.length ≤ (4611686018427387904 : Nat) ∧ br (hasI o d == b) (InA (List.length (filI (List.take x (makeI l)) o b) + List.length ([d])) (8 : Nat) ∧ InR IntKind.i64 ((↑x : Int) + (1 : Int)) ∧ ∃ x', x' ≤ (makeI l).length ∧ (SV.c (SC.v (Value.int IntKind.i64 ((↑x : Int) + (1 : Int)))) = SV.c (SC.v (Value.int IntKind.i64 (↑x' : Int))) ∧ SV.c (SC.row (1 : Nat)) = SV.c (SC.row (1 : Nat)) ∧ True) ∧ [(([] : Go.Eng.Gd), Res.row (3 : TypeId) I6 (makeI l)), (([] : Go.Eng.Gd), Res.row (3 : TypeId) I6 (filI (List.take x (makeI l)) o b ++ [d]))] = [(([] : Go.Eng.Gd), Res.row (3 : TypeId) I6 (makeI l)), (([] : Go.Eng.Gd), Res.row (3 : TypeId) I6 (filI (List.take x' (makeI l)) o b))] ∧ (makeI l).length - x' < (makeI l).length - x) (InR IntKind.i64 ((↑x : Int) + (1 : Int)) ∧ ∃ x', x' ≤ (makeI l).length ∧ (SV.c (SC.v (Value.int IntKind.i64 ((↑x : Int) + (1 : Int)))) = SV.c (SC.v (Value.int IntKind.i64 (↑x' : Int))) ∧ SV.c (SC.row (1 : Nat)) = SV.c (SC.row (1 : Nat)) ∧ True) ∧ [(([] : Go.Eng.Gd), Res.row (3 : TypeId) I6 (makeI l)), (([] : Go.Eng.Gd), Res.row (3 : TypeId) I6 (filI (List.take x (makeI l)) o b))] = [(([] : Go.Eng.Gd), Res.row (3 : TypeId) I6 (makeI l)), (([] : Go.Eng.Gd), Res.row (3 : TypeId) I6 (filI (List.take x' (makeI l)) o b))] ∧ (makeI l).length - x' < (makeI l).length - x)) ([Res.row (3 : TypeId) I6 (filI (makeI l) o b)] = [Res.row (3 : TypeId) I6 (filI (List.take x (makeI l)) o b)] ∧ Ent.one (SV.c (SC.row (0 : Nat))) = Ent.one (SV.c (SC.row (0 : Nat)))) := by
  have hp : l.length ≤ 1000000 ∧ o.length ≤ 1000000 := hpre
  have hm := make_len l
  have hf : ∀ k, (filI ((makeI l).take k) o b).length ≤ 1000000 := fun k => by
    refine Nat.le_trans (List.length_filter_le _ _) ?_
    rw [List.length_take]; omega
  refine ⟨hp.1, ⟨0, by omega, ⟨rfl, rfl, trivial⟩, by simp [filI]⟩, fun k hk => br_iff.2 ⟨fun h => ?_, fun h => ?_⟩⟩
  · simp only [decide_eq_true_eq] at h
    refine ⟨⟨by omega, h⟩, by omega, fun d hd => ?_⟩
    have hd : (makeI l)[k]? = some d := by simpa using hd
    have e : filI ((makeI l).take (k + 1)) o b = filI ((makeI l).take k) o b ++ (if hasI o d == b then [d] else []) := by
      unfold filI
      rw [List.take_add_one, hd, Option.toList_some, List.filter_append]
      congr 1
      simp only [List.filter_cons, List.filter_nil]
    refine ⟨by omega, br_iff.2 ⟨fun h2 => ⟨?_, InR_i64.2 (by omega), k + 1, by omega, ⟨by simp, rfl, trivial⟩, ?_, by omega⟩, fun h2 => ⟨InR_i64.2 (by omega), k + 1, by omega, ⟨by simp, rfl, trivial⟩, ?_, by omega⟩⟩⟩
    · have := hf k
      rw [InA_iff]; simp; omega
    · rw [e, h2]; rfl
    · rw [e, h2]; simp
  · simp only [decide_eq_false_iff_not] at h
    rw [List.take_of_length_le (by omega)]; exact ⟨rfl, rfl⟩
set_option maxHeartbeats 2000000 in
set_option maxRecDepth 100000 in
theorem f57_met : Go.Eng.Met Tryz.prog cx0.gd 57 ctFilter :=
  met_of (cx := cx0) (n := 28) (cl := cl57) (by kernel_rfl) tis_ok ⟨f56_met, f81_met, trivial⟩ Tryz.func57 (by kernel_rfl) (by kernel_rfl) rfl (by kernel_rfl) (by kernel_rfl) fun d hd => by
    obtain ⟨l, o, b, ⟨⟩⟩ := d
    exact ex_of (ann57 l o b) (f57_vc l o b hd) (by kernel_rfl)
@[reducible] def ctRem : CT := { ps := [.sl (.int .i64), .int .i64], pre := fun d => d.1.length ≤ 1000000, res := fun d => ([.row 3 (.int .i64) (filI (makeI d.1) [d.2.1] false)], .one (.c (.row 0))) }
@[reducible] def cl36 : List (Nat × CT) := [(57, ctFilter)]
@[reducible] def ann36 (l : List Int) (x : Int) : Nat → Option (St → Ann) := fun _ => none
set_option maxRecDepth 100000 in
theorem f36_vc (l : List Int) (x : Int) (hpre : ctRem.pre (l, x, ())) :
    (l.length ≤ (1000000 : Nat) ∧ [x].length ≤ (1000000 : Nat)) ∧ [Res.row (3 : TypeId) I6 (filI (makeI l) [x] false)] = [Res.row (3 : TypeId) I6 (filI (makeI l) [x] false)] ∧ Ent.one (SV.c (SC.row (0 : Nat))) = Ent.one (SV.c (SC.row (0 : Nat))) := by
  have hp : l.length ≤ 1000000 := hpre
  exact ⟨⟨hp, by simp⟩, rfl, rfl⟩
set_option maxHeartbeats 2000000 in
set_option maxRecDepth 100000 in
theorem f36_met : Go.Eng.Met Tryz.prog cx0.gd 36 ctRem :=
  met_of (cx := cx0) (n := 9) (cl := cl36) (by kernel_rfl) tis_ok ⟨f57_met, trivial⟩ Tryz.func36 (by kernel_rfl) (by kernel_rfl) rfl (by kernel_rfl) (by kernel_rfl) fun d hd => by
    obtain ⟨l, x, ⟨⟩⟩ := d
    exact ex_of (ann36 l x) (f36_vc l x hd) (by kernel_rfl)
end Go.Proofs.YtklnffdjhoacoaaGreatDoor
set_option linter.unusedSimpArgs false
set_option linter.unusedVariables false
set_option maxRecDepth 100000
namespace Go.Proofs.YtklnffdjhoacoaaGreatDoor
open Go Go.Eng

@[reducible] def ctSpl : CT := { ps := [.int .i64], pre := fun d => 0 ≤ d.1 ∧ d.1 ≤ 9223372036854775807, res := fun d => ([], .tup [.c (.v (.int .i64 (d.1.tdiv 8 - 1))), .c (.v (.int .i64 (d.1.tmod 8)))]) }
@[reducible] def cl46 : List (Nat × CT) := []
@[reducible] def ann46 (id : Int) : Nat → Option (St → Ann) := fun _ => none
set_option maxRecDepth 100000 in
theorem f46_vc (id : Int) (hpre : ctSpl.pre (id, ())) :
    (8 : Int) ≠ (0 : Int) ∧ InR IntKind.i64 (id.tdiv (8 : Int)) ∧ InR IntKind.i64 (id.tdiv (8 : Int) - (1 : Int)) ∧ (8 : Int) ≠ (0 : Int) ∧ ([] : List Go.Eng.Res) = [] ∧ Ent.tup [SV.c (SC.v (Value.int IntKind.i64 (id.tdiv (8 : Int) - (1 : Int)))), SV.c (SC.v (Value.int IntKind.i64 (id.tmod (8 : Int))))] = Ent.tup [SV.c (SC.v (Value.int IntKind.i64 (id.tdiv (8 : Int) - (1 : Int)))), SV.c (SC.v (Value.int IntKind.i64 (id.tmod (8 : Int))))] := by
  have hp : 0 ≤ id ∧ id ≤ 9223372036854775807 := hpre
  have e : id.tdiv 8 = id / 8 := Int.tdiv_eq_ediv_of_nonneg hp.1
  exact ⟨by decide, InR_i64.2 (by omega), InR_i64.2 (by omega), by decide, rfl, rfl⟩
set_option maxHeartbeats 2000000 in
set_option maxRecDepth 100000 in
theorem f46_met : Go.Eng.Met Tryz.prog cx0.gd 46 ctSpl :=
  met_of (cx := cx0) (n := 9) (cl := cl46) (by kernel_rfl) tis_ok trivial Tryz.func46 (by kernel_rfl) (by kernel_rfl) rfl (by kernel_rfl) (by kernel_rfl) fun d hd => by
    obtain ⟨id, ⟨⟩⟩ := d
    exact ex_of (ann46 id) (f46_vc id hd) (by kernel_rfl)
@[reducible] def ctDep : CT := { ps := [.int .i64], pre := fun d => d.1 ≤ 9223372036854775807, res := fun d => ([], .one (.c (.v (.int .i64 (depthI d.1))))) }
@[reducible] def cl24 : List (Nat × CT) := [(46, ctSpl)]
@[reducible] def ann24 (id : Int) : Nat → Option (St → Ann) := fun k => match k with
  | 4 => some fun _ => .inv { α := Nat × Int, slots := fun x => [(8, .c (.v (.int .i64 x.1))), (0, .c (.v (.int .i64 x.2)))], res := fun _ => [], inv := fun x => x.1 ≤ 5 ∧ 0 ≤ x.2 ∧ x.2 ≤ 9223372036854775807 ∧ depthF (5 - x.1) x.1 x.2 = depthI id, meas := fun x => 5 - x.1 }
  | _ => none
set_option maxRecDepth 100000 in
theorem f24_vc (id : Int) (hpre : ctDep.pre (id, ())) :
    br (decide (id < (0 : Int))) (([] : List Go.Eng.Res) = [] ∧ Ent.one (SV.c (SC.v (Value.int IntKind.i64 (depthI id)))) = Ent.one (SV.c (SC.v (Value.int IntKind.i64 (-1 : Int))))) ((∃ (x : Nat × Int), (x.fst ≤ (5 : Nat) ∧ (0 : Int) ≤ x.snd ∧ x.snd ≤ (9223372036854775807 : Int) ∧ depthF ((5 : Nat) - x.fst) (↑x.fst : Int) x.snd = depthI id) ∧ (SV.c (SC.v (Value.int IntKind.i64 (0 : Int))) = SV.c (SC.v (Value.int IntKind.i64 (↑x.fst : Int))) ∧ SV.c (SC.v (Value.int IntKind.i64 id)) = SV.c (SC.v (Value.int IntKind.i64 x.snd)) ∧ True) ∧ ([] : List (Go.Eng.Gd × Go.Eng.Res)) = []) ∧ ∀ (x : Nat × Int), x.fst ≤ (5 : Nat) ∧ (0 : Int) ≤ x.snd ∧ x.snd ≤ (9223372036854775807 : Int) ∧ depthF ((5 : Nat) - x.fst) (↑x.fst : Int) x.snd = depthI id → br (decide ((↑x.fst : Int) < (5 : Int))) (br (decide (x.snd < (8 : Int))) (([] : List Go.Eng.Res) = [] ∧ Ent.one (SV.c (SC.v (Value.int IntKind.i64 (depthI id)))) = Ent.one (SV.c (SC.v (Value.int IntKind.i64 (↑x.fst : Int))))) (((0 : I6.den) ≤ x.snd ∧ x.snd ≤ (9223372036854775807 : I6.den)) ∧ br (decide ((7 : Int) ≤ x.snd.tmod (8 : Int))) (([] : List Go.Eng.Res) = [] ∧ Ent.one (SV.c (SC.v (Value.int IntKind.i64 (depthI id)))) = Ent.one (SV.c (SC.v (Value.int IntKind.i64 (-1 : Int))))) (InR IntKind.i64 ((↑x.fst : Int) + (1 : Int)) ∧ ∃ (x' : Nat × Int), (x'.fst ≤ (5 : Nat) ∧ (0 : Int) ≤ x'.snd ∧ x'.snd ≤ (9223372036854775807 : Int) ∧ depthF ((5 : Nat) - x'.fst) (↑x'.fst : Int) x'.snd = depthI id) ∧ (SV.c (SC.v (Value.int IntKind.i64 ((↑x.fst : Int) + (1 : Int)))) = SV.c (SC.v (Value.int IntKind.i64 (↑x'.fst : Int))) ∧ SV.c (SC.v (Value.int IntKind.i64 (x.snd.tdiv (8 : Int) - (1 : Int)))) = SV.c (SC.v (Value.int IntKind.i64 x'.snd)) ∧ True) ∧ ([] : List (Go.Eng.Gd × Go.Eng.Res)) = [] ∧ (5 : Nat) - x'.fst < (5 : Nat) - x.fst))) (([] : List Go.Eng.Res) = [] ∧ Ent.one (SV.c (SC.v (Value.int IntKind.i64 (depthI id)))) = Ent.one (SV.c (SC.v (Value.int IntKind.i64 (-1 : Int)))))) := by
  have hp : id ≤ 9223372036854775807 := hpre
  refine br_iff.2 ⟨fun h => ?_, fun h => ?_⟩
  · simp only [decide_eq_true_eq] at h
    have e : depthI id = -1 := by unfold depthI; rw [if_pos h]
    rw [e]; exact ⟨rfl, rfl⟩
  simp only [decide_eq_false_iff_not] at h
  refine ⟨⟨(0, id), ⟨by omega, by simp only; omega, hp, by unfold depthI; rw [if_neg h]; rfl⟩, ⟨rfl, rfl, trivial⟩, rfl⟩, fun x hx => br_iff.2 ⟨fun h2 => ?_, fun h2 => ?_⟩⟩
  · obtain ⟨x1, x2, x3, x4⟩ := hx
    simp only [decide_eq_true_eq] at h2
    obtain ⟨m, hm⟩ : ∃ m, 5 - x.1 = m + 1 := ⟨4 - x.1, by omega⟩
    rw [hm, depthF] at x4
    refine br_iff.2 ⟨fun h3 => ?_, fun h3 => ⟨⟨x2, x3⟩, br_iff.2 ⟨fun h4 => ?_, fun h4 => ?_⟩⟩⟩
    · simp only [decide_eq_true_eq] at h3
      rw [if_pos h3] at x4
      rw [← x4]; exact ⟨rfl, rfl⟩
    · simp only [decide_eq_true_eq, decide_eq_false_iff_not] at h3 h4
      rw [if_neg h3, if_pos h4] at x4
      rw [← x4]; exact ⟨rfl, rfl⟩
    · simp only [decide_eq_false_iff_not] at h3 h4
      rw [if_neg h3, if_neg h4] at x4
      have e : x.2.tdiv 8 = x.2 / 8 := Int.tdiv_eq_ediv_of_nonneg x2
      refine ⟨InR_i64.2 (by omega), (x.1 + 1, x.2.tdiv 8 - 1), ⟨by simp only; omega, by simp only; omega, by simp only; omega, ?_⟩, ⟨rfl, rfl, trivial⟩, rfl, by simp only; omega⟩
      rw [← x4, show 5 - (x.1 + 1) = m by omega]; rfl
  · obtain ⟨x1, x2, x3, x4⟩ := hx
    simp only [decide_eq_false_iff_not] at h2
    rw [show 5 - x.1 = 0 by omega] at x4
    rw [← x4]; exact ⟨rfl, rfl⟩
set_option maxHeartbeats 2000000 in
set_option maxRecDepth 100000 in
theorem f24_met : Go.Eng.Met Tryz.prog cx0.gd 24 ctDep :=
  met_of (cx := cx0) (n := 23) (cl := cl24) (by kernel_rfl) tis_ok ⟨f46_met, trivial⟩ Tryz.func24 (by kernel_rfl) (by kernel_rfl) rfl (by kernel_rfl) (by kernel_rfl) fun d hd => by
    obtain ⟨id, ⟨⟩⟩ := d
    exact ex_of (ann24 id) (f24_vc id hd) (by kernel_rfl)
@[reducible] def ctDpt : CT := { ps := [.int .i64], pre := fun d => d.1 ≤ 9223372036854775807, res := fun d => ([], .one (.c (.v (.int .i64 (depthM d.1))))) }
@[reducible] def ctPar : CT := { ps := [.int .i64], pre := fun d => d.1 ≤ 9223372036854775807, res := fun d => ([], .tup [.c (.v (.int .i64 (parentS d.1).1)), .c (.v (.bool (parentS d.1).2))]) }
@[reducible] def ctChi : CT := { ps := [shT], pre := fun d => d.1.1 ≤ 9223372036854775807, res := fun d => ([], .tup [.c (.v (.int .i64 (childS d.1.1 d.1.2.2.2.2.2.1).1)), .c (.v (.bool (childS d.1.1 d.1.2.2.2.2.2.1).2))]) }
@[reducible] def cl22 : List (Nat × CT) := [(24, ctDep)]
@[reducible] def ann22 (id : Int) (fn : Int) (pc : Int) (rg : List Int) (st : Int) (ch : Int) (ph : Int) (su : Int) (fa : Int) (he : List Int) : Nat → Option (St → Ann) := fun _ => none
set_option maxRecDepth 100000 in
theorem f22_vc (id : Int) (fn : Int) (pc : Int) (rg : List Int) (st : Int) (ch : Int) (ph : Int) (su : Int) (fa : Int) (he : List Int) (hpre : ctChi.pre ((id, fn, pc, rg, st, ch, ph, su, fa, he, ()), ())) :
    id ≤ (9223372036854775807 : I6.den) ∧ br (decide (depthI id < (0 : Int)) || decide (depthI id = (4 : Int)) || decide (ch < (0 : Int)) || decide ((7 : Int) ≤ ch)) (([] : List Go.Eng.Res) = [] ∧ Ent.tup [SV.c (SC.v (Value.int IntKind.i64 (childS id ch).fst)), SV.c (SC.v (Value.bool (childS id ch).snd))] = Ent.tup [SV.c (SC.v (Value.int IntKind.i64 (0 : Int))), SV.c (SC.v (Value.bool false))]) (InR IntKind.i64 (id + (1 : Int)) ∧ InR IntKind.i64 ((8 : Int) * (id + (1 : Int))) ∧ InR IntKind.i64 ((8 : Int) * (id + (1 : Int)) + ch) ∧ ([] : List Go.Eng.Res) = [] ∧ Ent.tup [SV.c (SC.v (Value.int IntKind.i64 (childS id ch).fst)), SV.c (SC.v (Value.bool (childS id ch).snd))] = Ent.tup [SV.c (SC.v (Value.int IntKind.i64 ((8 : Int) * (id + (1 : Int)) + ch))), SV.c (SC.v (Value.bool true))]) := by
  refine ⟨hpre, br_iff.2 ⟨fun h => ?_, fun h => ?_⟩⟩
  · have e : childS id ch = (0, false) := by
      unfold childS
      rw [if_pos (by simpa [or_assoc] using h)]
    rw [e]; exact ⟨rfl, rfl⟩
  · simp only [Bool.or_eq_false_iff, decide_eq_false_iff_not] at h
    have e : childS id ch = (8 * (id + 1) + ch, true) := by
      unfold childS
      rw [if_neg (by omega)]
    have := depthI_lt (id := id) (by omega)
    rw [e]
    exact ⟨InR_i64.2 (by omega), InR_i64.2 (by omega), InR_i64.2 (by omega), rfl, rfl⟩
set_option maxHeartbeats 2000000 in
set_option maxRecDepth 100000 in
theorem f22_met : Go.Eng.Met Tryz.prog cx0.gd 22 ctChi :=
  met_of (cx := cx0) (n := 31) (cl := cl22) (by kernel_rfl) tis_ok ⟨f24_met, trivial⟩ Tryz.func22 (by kernel_rfl) (by kernel_rfl) rfl (by kernel_rfl) (by kernel_rfl) fun d hd => by
    obtain ⟨⟨id, fn, pc, rg, st, ch, ph, su, fa, he, ⟨⟩⟩, ⟨⟩⟩ := d
    exact ex_of (ann22 id fn pc rg st ch ph su fa he) (f22_vc id fn pc rg st ch ph su fa he hd) (by kernel_rfl)
@[reducible] def ctAt : CT := { ps := [shP, shT], pre := fun d => 0 ≤ d.2.1.2.1 ∧ d.2.1.2.1 < d.1.2.2.2.1.length ∧ 0 ≤ d.2.1.2.2.1, res := fun d => ([], .tup [.agg [.v (.int .i64 ((atR d.1.2.2.2.1 d.2.1.2.1 d.2.1.2.2.1).1).1), .v (.int .i64 ((atR d.1.2.2.2.1 d.2.1.2.1 d.2.1.2.2.1).1).2.1), .v (.int .i64 ((atR d.1.2.2.2.1 d.2.1.2.1 d.2.1.2.2.1).1).2.2.1), .v (.int .i64 ((atR d.1.2.2.2.1 d.2.1.2.1 d.2.1.2.2.1).1).2.2.2.1), .v (.int .i64 ((atR d.1.2.2.2.1 d.2.1.2.1 d.2.1.2.2.1).1).2.2.2.2.1), .v (.int .i64 ((atR d.1.2.2.2.1 d.2.1.2.1 d.2.1.2.2.1).1).2.2.2.2.2.1), .v (.int .i64 ((atR d.1.2.2.2.1 d.2.1.2.1 d.2.1.2.2.1).1).2.2.2.2.2.2.1), .v (.int .i64 ((atR d.1.2.2.2.1 d.2.1.2.1 d.2.1.2.2.1).1).2.2.2.2.2.2.2.1)], .c (.v (.bool (atR d.1.2.2.2.1 d.2.1.2.1 d.2.1.2.2.1).2))]) }
@[reducible] def cl32 : List (Nat × CT) := []
@[reducible] def ann32 (vs : List VD) (ms : List ByteArray) (cs : List ByteArray) (fs : List FD) (ts : List SD) (id : Int) (fn : Int) (pc : Int) (rg : List Int) (st : Int) (ch : Int) (ph : Int) (su : Int) (fa : Int) (he : List Int) : Nat → Option (St → Ann) := fun _ => none
@[reducible] def il32 : List (Nat × IP) := []
@[reducible] def hl32 : List (Nat × Nat × CT) := []
@[reducible] def ml32 : List (Nat × MK) := []
set_option maxRecDepth 100000 in
theorem f32_vc (vs : List VD) (ms : List ByteArray) (cs : List ByteArray) (fs : List FD) (ts : List SD) (id : Int) (fn : Int) (pc : Int) (rg : List Int) (st : Int) (ch : Int) (ph : Int) (su : Int) (fa : Int) (he : List Int) (hpre : ctAt.pre ((vs, ms, cs, fs, ts, ()), (id, fn, pc, rg, st, ch, ph, su, fa, he, ()), ())) :
    ((0 : Int) ≤ fn ∧ fn < (↑fs.length : Int)) ∧ ∀ (d : Sh.str.den × (shI.sl.pair Sh.unit).den), fs[fn.toNat]? = some d → br (decide ((↑(List.length d.snd.fst) : Int) ≤ pc)) (([] : List Go.Eng.Res) = [] ∧ Ent.tup [SV.agg [SC.v (Value.int IntKind.i64 (atR fs fn pc).fst.fst), SC.v (Value.int IntKind.i64 (atR fs fn pc).fst.snd.fst), SC.v (Value.int IntKind.i64 (atR fs fn pc).fst.snd.snd.fst), SC.v (Value.int IntKind.i64 (atR fs fn pc).fst.snd.snd.snd.fst), SC.v (Value.int IntKind.i64 (atR fs fn pc).fst.snd.snd.snd.snd.fst), SC.v (Value.int IntKind.i64 (atR fs fn pc).fst.snd.snd.snd.snd.snd.fst), SC.v (Value.int IntKind.i64 (atR fs fn pc).fst.snd.snd.snd.snd.snd.snd.fst), SC.v (Value.int IntKind.i64 (atR fs fn pc).fst.snd.snd.snd.snd.snd.snd.snd.fst)], SV.c (SC.v (Value.bool (atR fs fn pc).snd))] = Ent.tup [SV.agg [SC.v (Value.int IntKind.i64 (0 : Int)), SC.v (Value.int IntKind.i64 (0 : Int)), SC.v (Value.int IntKind.i64 (0 : Int)), SC.v (Value.int IntKind.i64 (0 : Int)), SC.v (Value.int IntKind.i64 (0 : Int)), SC.v (Value.int IntKind.i64 (0 : Int)), SC.v (Value.int IntKind.i64 (0 : Int)), SC.v (Value.int IntKind.i64 (0 : Int))], SV.c (SC.v (Value.bool false))]) (((0 : Int) ≤ pc ∧ pc < (↑(List.length d.snd.fst) : Int)) ∧ ∀ (d_1 : I6.den × (I6.pair (I6.pair (I6.pair (I6.pair (I6.pair (I6.pair (I6.pair Sh.unit))))))).den), d.snd.fst[pc.toNat]? = some d_1 → ([] : List Go.Eng.Res) = [] ∧ Ent.tup [SV.agg [SC.v (Value.int IntKind.i64 (atR fs fn pc).fst.fst), SC.v (Value.int IntKind.i64 (atR fs fn pc).fst.snd.fst), SC.v (Value.int IntKind.i64 (atR fs fn pc).fst.snd.snd.fst), SC.v (Value.int IntKind.i64 (atR fs fn pc).fst.snd.snd.snd.fst), SC.v (Value.int IntKind.i64 (atR fs fn pc).fst.snd.snd.snd.snd.fst), SC.v (Value.int IntKind.i64 (atR fs fn pc).fst.snd.snd.snd.snd.snd.fst), SC.v (Value.int IntKind.i64 (atR fs fn pc).fst.snd.snd.snd.snd.snd.snd.fst), SC.v (Value.int IntKind.i64 (atR fs fn pc).fst.snd.snd.snd.snd.snd.snd.snd.fst)], SV.c (SC.v (Value.bool (atR fs fn pc).snd))] = Ent.tup [SV.agg [SC.v (Value.int IntKind.i64 d_1.fst), SC.v (Value.int IntKind.i64 d_1.snd.fst), SC.v (Value.int IntKind.i64 d_1.snd.snd.fst), SC.v (Value.int IntKind.i64 d_1.snd.snd.snd.fst), SC.v (Value.int IntKind.i64 d_1.snd.snd.snd.snd.fst), SC.v (Value.int IntKind.i64 d_1.snd.snd.snd.snd.snd.fst), SC.v (Value.int IntKind.i64 d_1.snd.snd.snd.snd.snd.snd.fst), SC.v (Value.int IntKind.i64 d_1.snd.snd.snd.snd.snd.snd.snd.fst)], SV.c (SC.v (Value.bool true))]) := by
  obtain ⟨h1, h2, h3⟩ : 0 ≤ fn ∧ fn < (fs.length : Int) ∧ 0 ≤ pc := hpre
  refine ⟨⟨h1, h2⟩, fun x hx => ?_⟩
  obtain ⟨y, hy, ey⟩ := codeF_get ⟨h1, h2⟩
  rw [hx] at hy; cases hy
  refine br_iff.2 ⟨fun h => ?_, fun h => ?_⟩
  · simp only [decide_eq_true_eq] at h
    have e : atR fs fn pc = ((0, 0, 0, 0, 0, 0, 0, 0, ()), false) := by
      unfold atR atS
      rw [ey, List.getElem?_eq_none (by omega)]
    rw [e]; exact ⟨rfl, rfl⟩
  · simp only [decide_eq_false_iff_not] at h
    refine ⟨⟨h3, by omega⟩, fun i hi => ?_⟩
    have e : atR fs fn pc = (i, true) := by
      unfold atR atS
      rw [ey, hi]
    rw [e]; exact ⟨rfl, rfl⟩
set_option maxHeartbeats 2000000 in
set_option maxRecDepth 100000 in
theorem f32_met : Go.Eng.Met Tryz.prog cx0.gd 32 ctAt :=
  (met_all (cx := cx0) (n := 25) (cl := cl32) (il := il32) (hl := hl32) (ml := ml32) (rc := []) (lits := []) (suf := []) (by kernel_rfl) tis_ok trivial trivial trivial trivial Tryz.func32 (by kernel_rfl) (by kernel_rfl) rfl (by kernel_rfl) (by kernel_rfl) (by simp) fun d hd => by
    obtain ⟨⟨vs, ms, cs, fs, ts, ⟨⟩⟩, ⟨id, fn, pc, rg, st, ch, ph, su, fa, he, ⟨⟩⟩, ⟨⟩⟩ := d
    exact ex_of (ann32 vs ms cs fs ts id fn pc rg st ch ph su fa he) (f32_vc vs ms cs fs ts id fn pc rg st ch ph su fa he hd) (by kernel_rfl)).met
@[reducible] def ctEnd : CT := { ps := [shT, .int .i64, .int .i64], pre := fun d => True, res := fun d => ([], .one (.dat shT (endS d.1 d.2.1 d.2.2.1))) }
@[reducible] def cl48 : List (Nat × CT) := []
@[reducible] def ann48 (id : Int) (fn : Int) (pc : Int) (rg : List Int) (st : Int) (ch : Int) (ph : Int) (su : Int) (fa : Int) (he : List Int) (s : Int) (f : Int) : Nat → Option (St → Ann) := fun _ => none
@[reducible] def il48 : List (Nat × IP) := []
@[reducible] def hl48 : List (Nat × Nat × CT) := []
@[reducible] def ml48 : List (Nat × MK) := []
set_option maxRecDepth 100000 in
theorem f48_vc (id : Int) (fn : Int) (pc : Int) (rg : List Int) (st : Int) (ch : Int) (ph : Int) (su : Int) (fa : Int) (he : List Int) (s : Int) (f : Int) :
    ([] : List Go.Eng.Res) = [] ∧ Ent.one (SV.dat shT (endS (id, fn, pc, rg, st, ch, ph, su, fa, he, ()) s f)) = Ent.one (SV.dat shT ((id, fn, pc, rg, st, ch, ph, s, f, he, ()))) := by
  exact ⟨rfl, rfl⟩
set_option maxHeartbeats 2000000 in
set_option maxRecDepth 100000 in
theorem f48_met : Go.Eng.Met Tryz.prog cx0.gd 48 ctEnd :=
  (met_all (cx := cx0) (n := 12) (cl := cl48) (il := il48) (hl := hl48) (ml := ml48) (rc := [.data shT]) (lits := []) (suf := []) (by kernel_rfl) tis_ok trivial trivial trivial trivial Tryz.func48 (by kernel_rfl) (by kernel_rfl) rfl (by kernel_rfl) (by kernel_rfl) (by simp) fun d hd => by
    obtain ⟨⟨id, fn, pc, rg, st, ch, ph, su, fa, he, ⟨⟩⟩, s, f, ⟨⟩⟩ := d
    exact ex_of (ann48 id fn pc rg st ch ph su fa he s f) (f48_vc id fn pc rg st ch ph su fa he s f) (by kernel_rfl)).met
@[reducible] def ctObs : CT := { ps := [shT, shI], pre := fun d => d.1.2.2.2.2.2.2.2.2.2.1.length ≤ 1000000 ∧ d.1.1 ≤ 9223372036854775807, res := fun d => ([], .one (.c (.v (.int .i64 (obsS d.1.1 d.1.2.2.2.2.2.1 d.1.2.2.2.2.2.2.1 d.1.2.2.2.2.2.2.2.2.2.1 d.2.1))))) }
@[reducible] def cl50 : List (Nat × CT) := [(64, ctHas), (22, ctChi)]
@[reducible] def ann50 (id : Int) (fn : Int) (pc : Int) (rg : List Int) (st : Int) (ch : Int) (ph : Int) (su : Int) (fa : Int) (he : List Int) (op : Int) (a : Int) (b : Int) (c : Int) (obj : Int) (n : Int) (fo : Int) (ord : Int) : Nat → Option (St → Ann) := fun _ => none
set_option maxRecDepth 100000 in
theorem f50_vc (id : Int) (fn : Int) (pc : Int) (rg : List Int) (st : Int) (ch : Int) (ph : Int) (su : Int) (fa : Int) (he : List Int) (op : Int) (a : Int) (b : Int) (c : Int) (obj : Int) (n : Int) (fo : Int) (ord : Int) (hpre : ctObs.pre ((id, fn, pc, rg, st, ch, ph, su, fa, he, ()), (op, a, b, c, obj, n, fo, ord, ()), ())) :
    br (!decide (ph = (0 : Int))) (([] : List Go.Eng.Res) = [] ∧ Ent.one (SV.c (SC.v (Value.int IntKind.i64 (obsS id ch ph he (op, a, b, c, obj, n, fo, ord, ()))))) = Ent.one (SV.c (SC.v (Value.int IntKind.i64 (0 : Int))))) (br (decide (op = (18 : Int))) (he.length ≤ (1000000 : Nat) ∧ br (!hasI he n) (([] : List Go.Eng.Res) = [] ∧ Ent.one (SV.c (SC.v (Value.int IntKind.i64 (obsS id ch ph he (op, a, b, c, obj, n, fo, ord, ()))))) = Ent.one (SV.c (SC.v (Value.int IntKind.i64 (27 : Int))))) (([] : List Go.Eng.Res) = [] ∧ Ent.one (SV.c (SC.v (Value.int IntKind.i64 (obsS id ch ph he (op, a, b, c, obj, n, fo, ord, ()))))) = Ent.one (SV.c (SC.v (Value.int IntKind.i64 (0 : Int)))))) (br (decide (op = (16 : Int))) (he.length ≤ (1000000 : Nat) ∧ br (!hasI he obj) (([] : List Go.Eng.Res) = [] ∧ Ent.one (SV.c (SC.v (Value.int IntKind.i64 (obsS id ch ph he (op, a, b, c, obj, n, fo, ord, ()))))) = Ent.one (SV.c (SC.v (Value.int IntKind.i64 (27 : Int))))) (([] : List Go.Eng.Res) = [] ∧ Ent.one (SV.c (SC.v (Value.int IntKind.i64 (obsS id ch ph he (op, a, b, c, obj, n, fo, ord, ()))))) = Ent.one (SV.c (SC.v (Value.int IntKind.i64 (0 : Int)))))) (br (decide (op = (21 : Int))) (id ≤ (9223372036854775807 : I6.den) ∧ br (!(childS id ch).snd) (([] : List Go.Eng.Res) = [] ∧ Ent.one (SV.c (SC.v (Value.int IntKind.i64 (obsS id ch ph he (op, a, b, c, obj, n, fo, ord, ()))))) = Ent.one (SV.c (SC.v (Value.int IntKind.i64 (28 : Int))))) (([] : List Go.Eng.Res) = [] ∧ Ent.one (SV.c (SC.v (Value.int IntKind.i64 (obsS id ch ph he (op, a, b, c, obj, n, fo, ord, ()))))) = Ent.one (SV.c (SC.v (Value.int IntKind.i64 (0 : Int)))))) (([] : List Go.Eng.Res) = [] ∧ Ent.one (SV.c (SC.v (Value.int IntKind.i64 (obsS id ch ph he (op, a, b, c, obj, n, fo, ord, ()))))) = Ent.one (SV.c (SC.v (Value.int IntKind.i64 (0 : Int)))))))) := by
  obtain ⟨h1, h2⟩ : he.length ≤ 1000000 ∧ id ≤ 9223372036854775807 := hpre
  unfold obsS
  simp only [br_iff]
  repeat' (first | exact h1 | exact h2 | (refine And.intro ?_ ?_) | (intro _))
  all_goals first | rfl | (simp_all; done)
set_option maxHeartbeats 2000000 in
set_option maxRecDepth 100000 in
theorem f50_met : Go.Eng.Met Tryz.prog cx0.gd 50 ctObs :=
  met_of (cx := cx0) (n := 35) (cl := cl50) (by kernel_rfl) tis_ok ⟨f64_met, f22_met, trivial⟩ Tryz.func50 (by kernel_rfl) (by kernel_rfl) rfl (by kernel_rfl) (by kernel_rfl) fun d hd => by
    obtain ⟨⟨id, fn, pc, rg, st, ch, ph, su, fa, he, ⟨⟩⟩, ⟨op, a, b, c, obj, n, fo, ord, ⟨⟩⟩, ⟨⟩⟩ := d
    exact ex_of (ann50 id fn pc rg st ch ph su fa he op a b c obj n fo ord) (f50_vc id fn pc rg st ch ph su fa he op a b c obj n fo ord hd) (by kernel_rfl)
end Go.Proofs.YtklnffdjhoacoaaGreatDoor
set_option linter.unusedSimpArgs false
set_option linter.unusedVariables false
set_option maxRecDepth 100000
namespace Go.Proofs.YtklnffdjhoacoaaGreatDoor
open Go Go.Eng

theorem br_dec {c : Prop} [Decidable c] {A B : Prop} : br (decide c) A B ↔ (c → A) ∧ (¬ c → B) := by
  rw [br_iff, decide_eq_true_eq, decide_eq_false_iff_not]
@[reducible] def ctLoc : CT := { ps := [shT, shI], pre := fun d => (0 ≤ d.2.1.2.1 ∧ d.2.1.2.1 < 8) ∧ (0 ≤ d.2.1.2.2.1 ∧ d.2.1.2.2.1 < 8) ∧ (0 ≤ d.2.1.2.2.2.1 ∧ d.2.1.2.2.2.1 < 8) ∧ 0 ≤ d.1.2.2.1 ∧ d.1.2.2.1 ≤ 1000000, res := fun d => ([], .tup [.dat shT (locS d.1 d.2.1).1, .c (.v (.bool (locS d.1 d.2.1).2))]) }
@[reducible] def cl51 : List (Nat × CT) := [(69, ctApp), (48, ctEnd)]
@[reducible] def ann51 (id : Int) (fn : Int) (pc : Int) (rg : List Int) (st : Int) (ch : Int) (ph : Int) (su : Int) (fa : Int) (he : List Int) (op : Int) (a : Int) (b : Int) (c : Int) (obj : Int) (n : Int) (fo : Int) (ord : Int) : Nat → Option (St → Ann) := fun _ => none
@[reducible] def il51 : List (Nat × IP) := []
@[reducible] def hl51 : List (Nat × Nat × CT) := []
@[reducible] def ml51 : List (Nat × MK) := []
set_option maxRecDepth 100000 in
theorem f51_vc (id : Int) (fn : Int) (pc : Int) (rg : List Int) (st : Int) (ch : Int) (ph : Int) (su : Int) (fa : Int) (he : List Int) (op : Int) (a : Int) (b : Int) (c : Int) (obj : Int) (n : Int) (fo : Int) (ord : Int) (hpre : ctLoc.pre ((id, fn, pc, rg, st, ch, ph, su, fa, he, ()), (op, a, b, c, obj, n, fo, ord, ()), ())) :
    InR IntKind.i64 (pc + (1 : Int)) ∧ br (decide (op = (1 : Int))) (((0 : Int) ≤ a ∧ a < (8 : Int)) ∧ a.toNat < (8 : Nat) ∧ ([] : List Go.Eng.Res) = [] ∧ Ent.tup [SV.dat shT (locS (id, fn, pc, rg, st, ch, ph, su, fa, he, ()) (op, a, b, c, obj, n, fo, ord, ())).fst, SV.c (SC.v (Value.bool (locS (id, fn, pc, rg, st, ch, ph, su, fa, he, ()) (op, a, b, c, obj, n, fo, ord, ())).snd))] = Ent.tup [SV.dat shT ((id, fn, pc + (1 : Int), rg.set a.toNat n, st, ch, ph, su, fa, he, ())), SV.c (SC.v (Value.bool true))]) (br (decide (op = (2 : Int))) (((0 : Int) ≤ b ∧ b < (8 : Int)) ∧ b.toNat < (8 : Nat) ∧ ∀ (d : Int), rg[b.toNat]? = some d → ((0 : Int) ≤ a ∧ a < (8 : Int)) ∧ a.toNat < (8 : Nat) ∧ ([] : List Go.Eng.Res) = [] ∧ Ent.tup [SV.dat shT (locS (id, fn, pc, rg, st, ch, ph, su, fa, he, ()) (op, a, b, c, obj, n, fo, ord, ())).fst, SV.c (SC.v (Value.bool (locS (id, fn, pc, rg, st, ch, ph, su, fa, he, ()) (op, a, b, c, obj, n, fo, ord, ())).snd))] = Ent.tup [SV.dat shT ((id, fn, pc + (1 : Int), rg.set a.toNat d, st, ch, ph, su, fa, he, ())), SV.c (SC.v (Value.bool true))]) (br (decide (op = (3 : Int))) (((0 : Int) ≤ b ∧ b < (8 : Int)) ∧ b.toNat < (8 : Nat) ∧ ∀ (d : Int), rg[b.toNat]? = some d → ((0 : Int) ≤ c ∧ c < (8 : Int)) ∧ c.toNat < (8 : Nat) ∧ ∀ (d_1 : Int), rg[c.toNat]? = some d_1 → True ∧ br (decide ((applyS fo d d_1).snd = (0 : Int))) (((0 : Int) ≤ a ∧ a < (8 : Int)) ∧ a.toNat < (8 : Nat) ∧ ([] : List Go.Eng.Res) = [] ∧ Ent.tup [SV.dat shT (locS (id, fn, pc, rg, st, ch, ph, su, fa, he, ()) (op, a, b, c, obj, n, fo, ord, ())).fst, SV.c (SC.v (Value.bool (locS (id, fn, pc, rg, st, ch, ph, su, fa, he, ()) (op, a, b, c, obj, n, fo, ord, ())).snd))] = Ent.tup [SV.dat shT ((id, fn, pc + (1 : Int), rg.set a.toNat (applyS fo d d_1).fst, st, ch, ph, su, fa, he, ())), SV.c (SC.v (Value.bool true))]) (([] : List Go.Eng.Res) = [] ∧ Ent.tup [SV.dat shT (locS (id, fn, pc, rg, st, ch, ph, su, fa, he, ()) (op, a, b, c, obj, n, fo, ord, ())).fst, SV.c (SC.v (Value.bool (locS (id, fn, pc, rg, st, ch, ph, su, fa, he, ()) (op, a, b, c, obj, n, fo, ord, ())).snd))] = Ent.tup [SV.dat shT ((id, fn, pc + (1 : Int), rg, st, ch, ph, su, fa, he, ())), SV.c (SC.v (Value.bool true))])) (br (decide (op = (5 : Int))) (((0 : Int) ≤ b ∧ b < (8 : Int)) ∧ b.toNat < (8 : Nat) ∧ ∀ (d : Int), rg[b.toNat]? = some d → br (decide (d = (0 : Int))) (([] : List Go.Eng.Res) = [] ∧ Ent.tup [SV.dat shT (locS (id, fn, pc, rg, st, ch, ph, su, fa, he, ()) (op, a, b, c, obj, n, fo, ord, ())).fst, SV.c (SC.v (Value.bool (locS (id, fn, pc, rg, st, ch, ph, su, fa, he, ()) (op, a, b, c, obj, n, fo, ord, ())).snd))] = Ent.tup [SV.dat shT ((id, fn, pc + (1 : Int), rg, st, ch, ph, su, fa, he, ())), SV.c (SC.v (Value.bool true))]) (([] : List Go.Eng.Res) = [] ∧ Ent.tup [SV.dat shT (locS (id, fn, pc, rg, st, ch, ph, su, fa, he, ()) (op, a, b, c, obj, n, fo, ord, ())).fst, SV.c (SC.v (Value.bool (locS (id, fn, pc, rg, st, ch, ph, su, fa, he, ()) (op, a, b, c, obj, n, fo, ord, ())).snd))] = Ent.tup [SV.dat shT ((id, fn, n, rg, st, ch, ph, su, fa, he, ())), SV.c (SC.v (Value.bool true))])) (br (decide (op = (4 : Int))) (([] : List Go.Eng.Res) = [] ∧ Ent.tup [SV.dat shT (locS (id, fn, pc, rg, st, ch, ph, su, fa, he, ()) (op, a, b, c, obj, n, fo, ord, ())).fst, SV.c (SC.v (Value.bool (locS (id, fn, pc, rg, st, ch, ph, su, fa, he, ()) (op, a, b, c, obj, n, fo, ord, ())).snd))] = Ent.tup [SV.dat shT ((id, fn, n, rg, st, ch, ph, su, fa, he, ())), SV.c (SC.v (Value.bool true))]) (br (decide (op = (6 : Int))) (((0 : Int) ≤ b ∧ b < (8 : Int)) ∧ b.toNat < (8 : Nat) ∧ ∀ (d : Int), rg[b.toNat]? = some d → br (decide (d = (0 : Int))) (True ∧ ([] : List Go.Eng.Res) = [] ∧ Ent.tup [SV.dat shT (locS (id, fn, pc, rg, st, ch, ph, su, fa, he, ()) (op, a, b, c, obj, n, fo, ord, ())).fst, SV.c (SC.v (Value.bool (locS (id, fn, pc, rg, st, ch, ph, su, fa, he, ()) (op, a, b, c, obj, n, fo, ord, ())).snd))] = Ent.tup [SV.dat shT (endS (id, fn, pc, rg, st, ch, ph, su, fa, he, ()) (3 : Int) (26 : Int)), SV.c (SC.v (Value.bool false))]) (([] : List Go.Eng.Res) = [] ∧ Ent.tup [SV.dat shT (locS (id, fn, pc, rg, st, ch, ph, su, fa, he, ()) (op, a, b, c, obj, n, fo, ord, ())).fst, SV.c (SC.v (Value.bool (locS (id, fn, pc, rg, st, ch, ph, su, fa, he, ()) (op, a, b, c, obj, n, fo, ord, ())).snd))] = Ent.tup [SV.dat shT ((id, fn, pc + (1 : Int), rg, st, ch, ph, su, fa, he, ())), SV.c (SC.v (Value.bool true))])) (br (decide (op = (7 : Int))) (True ∧ ([] : List Go.Eng.Res) = [] ∧ Ent.tup [SV.dat shT (locS (id, fn, pc, rg, st, ch, ph, su, fa, he, ()) (op, a, b, c, obj, n, fo, ord, ())).fst, SV.c (SC.v (Value.bool (locS (id, fn, pc, rg, st, ch, ph, su, fa, he, ()) (op, a, b, c, obj, n, fo, ord, ())).snd))] = Ent.tup [SV.dat shT (endS (id, fn, pc, rg, st, ch, ph, su, fa, he, ()) (2 : Int) (0 : Int)), SV.c (SC.v (Value.bool false))]) (([] : List Go.Eng.Res) = [] ∧ Ent.tup [SV.dat shT (locS (id, fn, pc, rg, st, ch, ph, su, fa, he, ()) (op, a, b, c, obj, n, fo, ord, ())).fst, SV.c (SC.v (Value.bool (locS (id, fn, pc, rg, st, ch, ph, su, fa, he, ()) (op, a, b, c, obj, n, fo, ord, ())).snd))] = Ent.tup [SV.dat shT ((id, fn, pc + (1 : Int), rg, st, ch, ph, su, fa, he, ())), SV.c (SC.v (Value.bool true))]))))))) := by
  obtain ⟨hA, hB, hC, hp0, hp1⟩ : (0 ≤ a ∧ a < 8) ∧ (0 ≤ b ∧ b < 8) ∧ (0 ≤ c ∧ c < 8) ∧ 0 ≤ pc ∧ pc ≤ 1000000 := hpre
  have hA8 : a.toNat < 8 := by omega
  have hB8 : b.toNat < 8 := by omega
  have hC8 : c.toNat < 8 := by omega
  have gd : ∀ {x d : Int}, rg[x.toNat]? = some d → rg.getD x.toNat 0 = d := fun hd => by rw [List.getD_eq_getElem?_getD, hd]; rfl
  refine ⟨InR_i64.2 (by omega), br_dec.2 ⟨fun h => ?_, fun h => br_dec.2 ⟨fun h2 => ?_, fun h2 => br_dec.2 ⟨fun h3 => ?_, fun h3 => br_dec.2 ⟨fun h4 => ?_, fun h4 => br_dec.2 ⟨fun h5 => ?_, fun h5 => br_dec.2 ⟨fun h6 => ?_, fun h6 => br_dec.2 ⟨fun h7 => ?_, fun h7 => ?_⟩⟩⟩⟩⟩⟩⟩⟩
  · have e : locS (id, fn, pc, rg, st, ch, ph, su, fa, he, ()) (op, a, b, c, obj, n, fo, ord, ()) = ((id, fn, pc + 1, rg.set a.toNat n, st, ch, ph, su, fa, he, ()), true) := by simp only [locS, if_pos h]
    rw [e]; exact ⟨hA, hA8, rfl, rfl⟩
  · refine ⟨hB, hB8, fun d hd => ?_⟩
    have e : locS (id, fn, pc, rg, st, ch, ph, su, fa, he, ()) (op, a, b, c, obj, n, fo, ord, ()) = ((id, fn, pc + 1, rg.set a.toNat d, st, ch, ph, su, fa, he, ()), true) := by simp only [locS, if_neg h, if_pos h2, gd hd]
    rw [e]; exact ⟨hA, hA8, rfl, rfl⟩
  · refine ⟨hB, hB8, fun d hd => ⟨hC, hC8, fun d1 hd1 => ⟨trivial, br_dec.2 ⟨fun h8 => ?_, fun h8 => ?_⟩⟩⟩⟩
    · have e : locS (id, fn, pc, rg, st, ch, ph, su, fa, he, ()) (op, a, b, c, obj, n, fo, ord, ()) = ((id, fn, pc + 1, rg.set a.toNat (applyS fo d d1).1, st, ch, ph, su, fa, he, ()), true) := by simp only [locS, if_neg h, if_neg h2, if_pos h3, gd hd, gd hd1, if_pos h8]
      rw [e]; exact ⟨hA, hA8, rfl, rfl⟩
    · have e : locS (id, fn, pc, rg, st, ch, ph, su, fa, he, ()) (op, a, b, c, obj, n, fo, ord, ()) = ((id, fn, pc + 1, rg, st, ch, ph, su, fa, he, ()), true) := by simp only [locS, if_neg h, if_neg h2, if_pos h3, gd hd, gd hd1, if_neg h8]
      rw [e]; exact ⟨rfl, rfl⟩
  · have h45 : ¬ op = 4 := by omega
    refine ⟨hB, hB8, fun d hd => br_dec.2 ⟨fun h8 => ?_, fun h8 => ?_⟩⟩
    · have e : locS (id, fn, pc, rg, st, ch, ph, su, fa, he, ()) (op, a, b, c, obj, n, fo, ord, ()) = ((id, fn, pc + 1, rg, st, ch, ph, su, fa, he, ()), true) := by simp only [locS, if_neg h, if_neg h2, if_neg h3, if_neg h45, if_pos h4, gd hd, if_pos h8]
      rw [e]; exact ⟨rfl, rfl⟩
    · have e : locS (id, fn, pc, rg, st, ch, ph, su, fa, he, ()) (op, a, b, c, obj, n, fo, ord, ()) = ((id, fn, n, rg, st, ch, ph, su, fa, he, ()), true) := by simp only [locS, if_neg h, if_neg h2, if_neg h3, if_neg h45, if_pos h4, gd hd, if_neg h8]
      rw [e]; exact ⟨rfl, rfl⟩
  · have e : locS (id, fn, pc, rg, st, ch, ph, su, fa, he, ()) (op, a, b, c, obj, n, fo, ord, ()) = ((id, fn, n, rg, st, ch, ph, su, fa, he, ()), true) := by simp only [locS, if_neg h, if_neg h2, if_neg h3, if_pos h5]
    rw [e]; exact ⟨rfl, rfl⟩
  · refine ⟨hB, hB8, fun d hd => br_dec.2 ⟨fun h8 => ?_, fun h8 => ?_⟩⟩
    · have e : locS (id, fn, pc, rg, st, ch, ph, su, fa, he, ()) (op, a, b, c, obj, n, fo, ord, ()) = ((id, fn, pc, rg, st, ch, ph, 3, 26, he, ()), false) := by simp only [locS, if_neg h, if_neg h2, if_neg h3, if_neg h5, if_neg h4, gd hd]; rw [if_pos ⟨h6, h8⟩]
      rw [e]; exact ⟨trivial, rfl, rfl⟩
    · have h67 : ¬ op = 7 := by omega
      have e : locS (id, fn, pc, rg, st, ch, ph, su, fa, he, ()) (op, a, b, c, obj, n, fo, ord, ()) = ((id, fn, pc + 1, rg, st, ch, ph, su, fa, he, ()), true) := by simp only [locS, if_neg h, if_neg h2, if_neg h3, if_neg h5, if_neg h4, gd hd, if_neg h67]; rw [if_neg fun q => h8 q.2]
      rw [e]; exact ⟨rfl, rfl⟩
  · have e : locS (id, fn, pc, rg, st, ch, ph, su, fa, he, ()) (op, a, b, c, obj, n, fo, ord, ()) = ((id, fn, pc, rg, st, ch, ph, 2, 0, he, ()), false) := by simp only [locS, if_neg h, if_neg h2, if_neg h3, if_neg h5, if_neg h4, if_pos h7]; rw [if_neg fun q => h6 q.1]
    rw [e]; exact ⟨trivial, rfl, rfl⟩
  · have e : locS (id, fn, pc, rg, st, ch, ph, su, fa, he, ()) (op, a, b, c, obj, n, fo, ord, ()) = ((id, fn, pc + 1, rg, st, ch, ph, su, fa, he, ()), true) := by simp only [locS, if_neg h, if_neg h2, if_neg h3, if_neg h5, if_neg h4, if_neg h7]; rw [if_neg fun q => h6 q.1]
    rw [e]; exact ⟨rfl, rfl⟩
set_option maxHeartbeats 2000000 in
set_option maxRecDepth 100000 in
theorem f51_met : Go.Eng.Met Tryz.prog cx0.gd 51 ctLoc :=
  (met_all (cx := cx0) (n := 87) (cl := cl51) (il := il51) (hl := hl51) (ml := ml51) (rc := [.data shT, .keep]) (lits := []) (suf := []) (by kernel_rfl) tis_ok ⟨f69_met, f48_met, trivial⟩ trivial trivial trivial Tryz.func51 (by kernel_rfl) (by kernel_rfl) rfl (by kernel_rfl) (by kernel_rfl) (by simp) fun d hd => by
    obtain ⟨⟨id, fn, pc, rg, st, ch, ph, su, fa, he, ⟨⟩⟩, ⟨op, a, b, c, obj, n, fo, ord, ⟨⟩⟩, ⟨⟩⟩ := d
    exact ex_of (ann51 id fn pc rg st ch ph su fa he op a b c obj n fo ord) (f51_vc id fn pc rg st ch ph su fa he op a b c obj n fo ord hd) (by kernel_rfl)).met
end Go.Proofs.YtklnffdjhoacoaaGreatDoor
set_option linter.unusedSimpArgs false
set_option linter.unusedVariables false
set_option maxRecDepth 100000
namespace Go.Proofs.YtklnffdjhoacoaaGreatDoor
open Go Go.Eng

@[reducible] def ctStd : CT := { ps := [shP, .int .i64], pre := fun d => bnd (d.1, ()), res := fun d => ([], .one (.c (.v (.int .i64 (stdS (chkP d.1.1 d.1.2.1 d.1.2.2.1 d.1.2.2.2.1 d.1.2.2.2.2.1).1 d.2.1))))) }
@[reducible] noncomputable def cl23 : List (Nat × CT) := [(45, ctChk)]
@[reducible] def ann23 (vs : List VD) (ms : List ByteArray) (cs : List ByteArray) (fs : List FD) (ts : List SD) (bound : Int) : Nat → Option (St → Ann) := fun _ => none
set_option maxRecDepth 100000 in
theorem f23_vc (vs : List VD) (ms : List ByteArray) (cs : List ByteArray) (fs : List FD) (ts : List SD) (bound : Int) (hpre : ctStd.pre ((vs, ms, cs, fs, ts, ()), bound, ())) :
    (vs.length ≤ (1000000 : Nat) ∧ ms.length ≤ (1000000 : Nat) ∧ cs.length ≤ (1000000 : Nat) ∧ fs.length ≤ (1000000 : Nat) ∧ ts.length ≤ (1000000 : Nat) ∧ (∀ (x : Sh.str.den × (shI.sl.pair Sh.unit).den), x ∈ fs → List.length x.snd.fst ≤ (1000000 : Nat)) ∧ (instL fs).length ≤ (1000000 : Nat)) ∧ br (!decide ((chkP vs ms cs fs ts).fst = (0 : Int))) (([] : List Go.Eng.Res) = [] ∧ Ent.one (SV.c (SC.v (Value.int IntKind.i64 (stdS (chkP vs ms cs fs ts).fst bound)))) = Ent.one (SV.c (SC.v (Value.int IntKind.i64 (chkP vs ms cs fs ts).fst)))) (br (decide (bound < (1 : Int)) || decide ((32 : Int) < bound)) (([] : List Go.Eng.Res) = [] ∧ Ent.one (SV.c (SC.v (Value.int IntKind.i64 (stdS (chkP vs ms cs fs ts).fst bound)))) = Ent.one (SV.c (SC.v (Value.int IntKind.i64 (2 : Int))))) (([] : List Go.Eng.Res) = [] ∧ Ent.one (SV.c (SC.v (Value.int IntKind.i64 (stdS (chkP vs ms cs fs ts).fst bound)))) = Ent.one (SV.c (SC.v (Value.int IntKind.i64 (0 : Int)))))) := by
  have hb : bnd ((vs, ms, cs, fs, ts, ()), ()) := hpre
  refine ⟨hb, br_iff.2 ⟨fun h => ?_, fun h => br_iff.2 ⟨fun h2 => ?_, fun h2 => ?_⟩⟩⟩
  · have h : (chkP vs ms cs fs ts).1 ≠ 0 := by simpa using h
    unfold stdS
    rw [if_pos h]; exact ⟨rfl, rfl⟩
  · have h : ¬ (chkP vs ms cs fs ts).1 ≠ 0 := by simpa using h
    have h2 : bound < 1 ∨ 32 < bound := by simpa using h2
    unfold stdS
    rw [if_neg h, if_pos h2]; exact ⟨rfl, rfl⟩
  · have h : ¬ (chkP vs ms cs fs ts).1 ≠ 0 := by simpa using h
    have h2 : ¬ (bound < 1 ∨ 32 < bound) := by simp only [Bool.or_eq_false_iff, decide_eq_false_iff_not] at h2; omega
    unfold stdS
    rw [if_neg h, if_neg h2]; exact ⟨rfl, rfl⟩
set_option maxHeartbeats 2000000 in
set_option maxRecDepth 100000 in
theorem f23_met : Go.Eng.Met Tryz.prog cx0.gd 23 ctStd :=
  met_of (cx := cx0) (n := 23) (cl := cl23) (by kernel_rfl) tis_ok ⟨f45_met, trivial⟩ Tryz.func23 (by kernel_rfl) (by kernel_rfl) rfl (by kernel_rfl) (by kernel_rfl) fun d hd => by
    obtain ⟨⟨vs, ms, cs, fs, ts, ⟨⟩⟩, bound, ⟨⟩⟩ := d
    exact ex_of (ann23 vs ms cs fs ts bound) (f23_vc vs ms cs fs ts bound hd) (by kernel_rfl)
open Classical in
theorem formedB_iff {ms : List ByteArray} {fs : List FD} {bound : Int} {t : TD} : formedB ms fs bound t = true ↔ Formed ms fs bound t := by
  unfold formedB; rw [decide_eq_true_iff]
theorem formedB_false {ms : List ByteArray} {fs : List FD} {bound : Int} {t : TD} (h : ¬ Formed ms fs bound t) : formedB ms fs bound t = false := Bool.eq_false_iff.2 fun q => h (formedB_iff.1 q)
open Classical in
theorem vldB_iff {ms : List ByteArray} {fs : List FD} {bound : Int} {t : TD} : vldB ms fs bound t = true ↔ Vld ms fs bound t := by
  unfold vldB; rw [decide_eq_true_iff]
theorem vldB_false {ms : List ByteArray} {fs : List FD} {bound : Int} {t : TD} (h : ¬ Vld ms fs bound t) : vldB ms fs bound t = false := Bool.eq_false_iff.2 fun q => h (vldB_iff.1 q)
@[reducible] noncomputable def ctFrm : CT := { ps := [shP, .int .i64, shT], pre := fun d => True ∧ d.2.2.1.2.2.2.2.2.2.2.2.2.1.length ≤ 1000000 ∧ d.2.2.1.1 ≤ 9223372036854775807 ∧ d.2.2.1.2.2.2.1.length = 8, res := fun d => ([], vB (formedB d.1.2.1 d.1.2.2.2.1 d.2.1 d.2.2.1)) }
@[reducible] noncomputable def cl44 : List (Nat × CT) := [(24, ctDep), (25, ctWrap), (63, ctV), (32, ctAt), (64, ctHas)]
@[reducible] def ann44 (vs : List VD) (ms : List ByteArray) (cs : List ByteArray) (fs : List FD) (ts : List SD) (bound : Int) (id : Int) (fn : Int) (pc : Int) (rg : List Int) (st : Int) (ch : Int) (ph : Int) (su : Int) (fa : Int) (he : List Int) : Nat → Option (St → Ann) := fun k => match k with
  | 5 => some fun _ => .inv { α := Nat, slots := fun k => [(52, .c (.v (.int .i64 k)))], res := fun _ => [], inv := fun k => k ≤ 8 ∧ ∀ j < k, ∀ r, rg[j]? = some r → valS r = true, meas := fun k => 8 - k }
  | 13 => some fun _ => .inv { α := Nat, slots := fun k => [(97, .c (.v (.int .i64 k)))], res := fun _ => [], inv := fun k => k ≤ he.length ∧ ∀ j < k, ∀ m, he[j]? = some m → 0 ≤ m ∧ m < ms.length, meas := fun k => he.length - k }
  | _ => none
@[reducible] def il44 : List (Nat × IP) := []
@[reducible] def hl44 : List (Nat × Nat × CT) := []
@[reducible] noncomputable def ml44 : List (Nat × MK) := []
set_option maxRecDepth 100000 in
theorem f44_vc (vs : List VD) (ms : List ByteArray) (cs : List ByteArray) (fs : List FD) (ts : List SD) (bound : Int) (id : Int) (fn : Int) (pc : Int) (rg : List Int) (st : Int) (ch : Int) (ph : Int) (su : Int) (fa : Int) (he : List Int) (hpre : ctFrm.pre ((vs, ms, cs, fs, ts, ()), bound, (id, fn, pc, rg, st, ch, ph, su, fa, he, ()), ())) :
    id ≤ (9223372036854775807 : I6.den) ∧ ((!(decide (depthI id < (0 : Int)) || decide (fn < (0 : Int)) || decide ((↑fs.length : Int) ≤ fn) || decide (pc < (0 : Int)))) = true → (0 : Int) ≤ fn ∧ fn < (↑fs.length : Int)) ∧ ∀ (d : Sh.str.den × (shI.sl.pair Sh.unit).den), ((!(decide (depthI id < (0 : Int)) || decide (fn < (0 : Int)) || decide ((↑fs.length : Int) ≤ fn) || decide (pc < (0 : Int)))) = true → fs[fn.toNat]? = some d) → br (decide (depthI id < (0 : Int)) || decide (fn < (0 : Int)) || decide ((↑fs.length : Int) ≤ fn) || decide (pc < (0 : Int)) || decide ((↑(List.length d.snd.fst) : Int) < pc)) (([] : List Go.Eng.Res) = [] ∧ Ent.one (SV.c (SC.v (Value.bool (formedB ms fs bound (id, fn, pc, rg, st, ch, ph, su, fa, he, ()))))) = Ent.one (SV.c (SC.v (Value.bool false)))) ((∃ x, (x ≤ (8 : Nat) ∧ ∀ (j : Nat), j < x → ∀ (r : Int), rg[j]? = some r → valS r = true) ∧ (SV.c (SC.v (Value.int IntKind.i64 (0 : Int))) = SV.c (SC.v (Value.int IntKind.i64 (↑x : Int))) ∧ True) ∧ [(([] : Go.Eng.Gd), Res.blk (27 : Nat) [SC.sl (Sh.str.pair (I6.pair Sh.unit)) vs, SC.sl Sh.str ms, SC.sl Sh.str cs, SC.sl (Sh.str.pair (shI.sl.pair Sh.unit)) fs, SC.sl (I6.pair (I6.pair Sh.unit)) ts]), (([] : Go.Eng.Gd), Res.obj (38 : Nat) shT (id, fn, pc, rg, st, ch, ph, su, fa, he, ()))] = [(([] : Go.Eng.Gd), Res.blk (27 : Nat) [SC.sl (Sh.str.pair (I6.pair Sh.unit)) vs, SC.sl Sh.str ms, SC.sl Sh.str cs, SC.sl (Sh.str.pair (shI.sl.pair Sh.unit)) fs, SC.sl (I6.pair (I6.pair Sh.unit)) ts]), (([] : Go.Eng.Gd), Res.obj (38 : Nat) shT (id, fn, pc, rg, st, ch, ph, su, fa, he, ()))]) ∧ ∀ (x : Nat), (x ≤ (8 : Nat) ∧ ∀ (j : Nat), j < x → ∀ (r : Int), rg[j]? = some r → valS r = true) → br (decide ((↑x : Int) < (8 : Int))) (((0 : Int) ≤ (↑x : Int) ∧ (↑x : Int) < (↑rg.length : Int)) ∧ ∀ (d : Int), rg[(↑x : Int).toNat]? = some d → True ∧ br (!decide (wrapS d = d)) (([] : List Go.Eng.Res) = [] ∧ Ent.one (SV.c (SC.v (Value.bool (formedB ms fs bound (id, fn, pc, rg, st, ch, ph, su, fa, he, ()))))) = Ent.one (SV.c (SC.v (Value.bool false)))) (InR IntKind.i64 ((↑x : Int) + (1 : Int)) ∧ ∃ x', (x' ≤ (8 : Nat) ∧ ∀ (j : Nat), j < x' → ∀ (r : Int), rg[j]? = some r → valS r = true) ∧ (SV.c (SC.v (Value.int IntKind.i64 ((↑x : Int) + (1 : Int)))) = SV.c (SC.v (Value.int IntKind.i64 (↑x' : Int))) ∧ True) ∧ [(([] : Go.Eng.Gd), Res.blk (27 : Nat) [SC.sl (Sh.str.pair (I6.pair Sh.unit)) vs, SC.sl Sh.str ms, SC.sl Sh.str cs, SC.sl (Sh.str.pair (shI.sl.pair Sh.unit)) fs, SC.sl (I6.pair (I6.pair Sh.unit)) ts]), (([] : Go.Eng.Gd), Res.obj (38 : Nat) shT (id, fn, pc, rg, st, ch, ph, su, fa, he, ()))] = [(([] : Go.Eng.Gd), Res.blk (27 : Nat) [SC.sl (Sh.str.pair (I6.pair Sh.unit)) vs, SC.sl Sh.str ms, SC.sl Sh.str cs, SC.sl (Sh.str.pair (shI.sl.pair Sh.unit)) fs, SC.sl (I6.pair (I6.pair Sh.unit)) ts]), (([] : Go.Eng.Gd), Res.obj (38 : Nat) shT (id, fn, pc, rg, st, ch, ph, su, fa, he, ()))] ∧ (8 : Nat) - x' < (8 : Nat) - x)) (((!(decide (st < (0 : Int)) || decide (bound < st) || decide (ch < (0 : Int)) || decide ((7 : Int) < ch) || decide (depthI id = (4 : Int)) && !decide (ch = (0 : Int)))) = true → he.length ≤ (1000000 : Nat)) ∧ br (decide (st < (0 : Int)) || decide (bound < st) || decide (ch < (0 : Int)) || decide ((7 : Int) < ch) || decide (depthI id = (4 : Int)) && !decide (ch = (0 : Int)) || !validI he) (([] : List Go.Eng.Res) = [] ∧ Ent.one (SV.c (SC.v (Value.bool (formedB ms fs bound (id, fn, pc, rg, st, ch, ph, su, fa, he, ()))))) = Ent.one (SV.c (SC.v (Value.bool false)))) ((∃ x, (x ≤ he.length ∧ ∀ (j : Nat), j < x → ∀ (m : Int), he[j]? = some m → (0 : Int) ≤ m ∧ m < (↑ms.length : Int)) ∧ (SV.c (SC.v (Value.int IntKind.i64 (0 : Int))) = SV.c (SC.v (Value.int IntKind.i64 (↑x : Int))) ∧ True) ∧ [(([] : Go.Eng.Gd), Res.blk (27 : Nat) [SC.sl (Sh.str.pair (I6.pair Sh.unit)) vs, SC.sl Sh.str ms, SC.sl Sh.str cs, SC.sl (Sh.str.pair (shI.sl.pair Sh.unit)) fs, SC.sl (I6.pair (I6.pair Sh.unit)) ts]), (([] : Go.Eng.Gd), Res.obj (38 : Nat) shT (id, fn, pc, rg, st, ch, ph, su, fa, he, ()))] = [(([] : Go.Eng.Gd), Res.blk (27 : Nat) [SC.sl (Sh.str.pair (I6.pair Sh.unit)) vs, SC.sl Sh.str ms, SC.sl Sh.str cs, SC.sl (Sh.str.pair (shI.sl.pair Sh.unit)) fs, SC.sl (I6.pair (I6.pair Sh.unit)) ts]), (([] : Go.Eng.Gd), Res.obj (38 : Nat) shT (id, fn, pc, rg, st, ch, ph, su, fa, he, ()))]) ∧ ∀ (x : Nat), (x ≤ he.length ∧ ∀ (j : Nat), j < x → ∀ (m : Int), he[j]? = some m → (0 : Int) ≤ m ∧ m < (↑ms.length : Int)) → br (decide ((↑x : Int) < (↑he.length : Int))) (((0 : Int) ≤ (↑x : Int) ∧ (↑x : Int) < (↑he.length : Int)) ∧ ∀ (d : Int), he[(↑x : Int).toNat]? = some d → br (decide (d < (0 : Int)) || decide ((↑ms.length : Int) ≤ d)) (([] : List Go.Eng.Res) = [] ∧ Ent.one (SV.c (SC.v (Value.bool (formedB ms fs bound (id, fn, pc, rg, st, ch, ph, su, fa, he, ()))))) = Ent.one (SV.c (SC.v (Value.bool false)))) (InR IntKind.i64 ((↑x : Int) + (1 : Int)) ∧ ∃ x', (x' ≤ he.length ∧ ∀ (j : Nat), j < x' → ∀ (m : Int), he[j]? = some m → (0 : Int) ≤ m ∧ m < (↑ms.length : Int)) ∧ (SV.c (SC.v (Value.int IntKind.i64 ((↑x : Int) + (1 : Int)))) = SV.c (SC.v (Value.int IntKind.i64 (↑x' : Int))) ∧ True) ∧ [(([] : Go.Eng.Gd), Res.blk (27 : Nat) [SC.sl (Sh.str.pair (I6.pair Sh.unit)) vs, SC.sl Sh.str ms, SC.sl Sh.str cs, SC.sl (Sh.str.pair (shI.sl.pair Sh.unit)) fs, SC.sl (I6.pair (I6.pair Sh.unit)) ts]), (([] : Go.Eng.Gd), Res.obj (38 : Nat) shT (id, fn, pc, rg, st, ch, ph, su, fa, he, ()))] = [(([] : Go.Eng.Gd), Res.blk (27 : Nat) [SC.sl (Sh.str.pair (I6.pair Sh.unit)) vs, SC.sl Sh.str ms, SC.sl Sh.str cs, SC.sl (Sh.str.pair (shI.sl.pair Sh.unit)) fs, SC.sl (I6.pair (I6.pair Sh.unit)) ts]), (([] : Go.Eng.Gd), Res.obj (38 : Nat) shT (id, fn, pc, rg, st, ch, ph, su, fa, he, ()))] ∧ he.length - x' < he.length - x)) (br (decide (ph = (0 : Int))) (([] : List Go.Eng.Res) = [] ∧ Ent.one (SV.c (SC.v (Value.bool (formedB ms fs bound (id, fn, pc, rg, st, ch, ph, su, fa, he, ()))))) = Ent.one (SV.c (SC.v (Value.bool true)))) (((0 : I6.den) ≤ fn ∧ fn < (↑fs.length : I6.den) ∧ (0 : I6.den) ≤ pc) ∧ (((decide (ph = (1 : Int)) || decide (ph = (2 : Int))) && (atR fs fn pc).snd && decide ((atR fs fn pc).fst.fst = (18 : Int))) = true → he.length ≤ (1000000 : Nat)) ∧ ([] : List Go.Eng.Res) = [] ∧ Ent.one (SV.c (SC.v (Value.bool (formedB ms fs bound (id, fn, pc, rg, st, ch, ph, su, fa, he, ()))))) = Ent.one (SV.c (SC.v (Value.bool ((decide (ph = (1 : Int)) || decide (ph = (2 : Int))) && (atR fs fn pc).snd && decide ((atR fs fn pc).fst.fst = (18 : Int)) && !hasI he (atR fs fn pc).fst.snd.snd.snd.snd.snd.fst))))))))) := by
  obtain ⟨_, hhe, hid, hrg⟩ : True ∧ he.length ≤ 1000000 ∧ id ≤ 9223372036854775807 ∧ rg.length = 8 := hpre
  have fF : ¬ Formed ms fs bound (id, fn, pc, rg, st, ch, ph, su, fa, he, ()) → ([] : List Go.Eng.Res) = [] ∧ Ent.one (SV.c (SC.v (Value.bool (formedB ms fs bound (id, fn, pc, rg, st, ch, ph, su, fa, he, ()))))) = Ent.one (SV.c (SC.v (Value.bool false))) := fun q => ⟨rfl, by rw [formedB_false q]⟩
  refine ⟨hid, fun g => by simp at g; omega, fun x hx => br_iff.2 ⟨fun h => ?_, fun h => ?_⟩⟩
  · refine fF fun q => ?_
    obtain ⟨q1, q2, q3, _⟩ := q
    obtain ⟨y, hy, ey⟩ := codeF_get q2
    have hx := hx (by simp; omega)
    rw [hx] at hy; cases hy
    rw [ey] at q3
    simp at h; omega
  simp only [Bool.or_eq_false_iff, decide_eq_false_iff_not] at h
  obtain ⟨⟨⟨⟨h1, h2⟩, h3⟩, h4⟩, h5⟩ := h
  have hx := hx (by simp; omega)
  have hfn : 0 ≤ fn ∧ fn < (fs.length : Int) := by omega
  obtain ⟨y, hy, ey⟩ := codeF_get hfn
  rw [hx] at hy; cases hy
  have hpc : 0 ≤ pc ∧ pc ≤ ((codeF fs fn).length : Int) := by rw [ey]; omega
  refine ⟨⟨0, ⟨by omega, fun j hj => by omega⟩, ⟨rfl, trivial⟩, rfl⟩, fun k hk => br_iff.2 ⟨fun h => ?_, fun h => ?_⟩⟩
  · simp only [decide_eq_true_eq] at h
    refine ⟨by omega, fun d hd => ⟨trivial, br_iff.2 ⟨fun h6 => ?_, fun h6 => ⟨InR_i64.2 (by omega), k + 1, ⟨by omega, fun j hj r hr => ?_⟩, ⟨rfl, trivial⟩, rfl, by omega⟩⟩⟩⟩
    · refine fF fun q => ?_
      have := q.2.2.2.1 k (by omega) d hd
      unfold valS at this
      have h6 : ¬ wrapS d = d := by simpa using h6
      exact h6 (wrapS_id.2 (by simpa using this))
    · have h6 : wrapS d = d := by simpa using h6
      by_cases hjk : j = k
      · subst hjk
        have hd : rg[j]? = some d := hd
        rw [hd] at hr; cases hr
        unfold valS
        exact decide_eq_true (wrapS_id.1 h6)
      · exact hk.2 j (by omega) r hr
  simp only [decide_eq_false_iff_not] at h
  have hr : ∀ k < 8, ∀ r, rg[k]? = some r → valS r = true := fun j hj r hr => hk.2 j (by omega) r hr
  refine ⟨fun _ => hhe, br_iff.2 ⟨fun h7 => ?_, fun h7 => ?_⟩⟩
  · refine fF fun q => ?_
    obtain ⟨_, _, _, _, q5, q6, q7, _⟩ := q
    have e : validI he = true := decide_eq_true q7
    rw [e] at h7
    simp at h7; omega
  simp only [Bool.or_eq_false_iff, Bool.and_eq_false_iff, Bool.not_eq_false', decide_eq_false_iff_not, decide_eq_true_eq] at h7
  obtain ⟨⟨⟨⟨⟨a1, a2⟩, a3⟩, a4⟩, a5⟩, a6⟩ := h7
  have hss : SS he := of_decide_eq_true a6
  refine ⟨⟨0, ⟨by omega, fun j hj => by omega⟩, ⟨rfl, trivial⟩, rfl⟩, fun m hm => br_iff.2 ⟨fun h8 => ?_, fun h8 => ?_⟩⟩
  · simp only [decide_eq_true_eq] at h8
    refine ⟨by omega, fun d hd => br_iff.2 ⟨fun h9 => ?_, fun h9 => ⟨InR_i64.2 (by omega), m + 1, ⟨by omega, fun j hj r hr => ?_⟩, ⟨rfl, trivial⟩, rfl, by omega⟩⟩⟩
    · refine fF fun q => ?_
      have := q.2.2.2.2.2.2.2.1 d (List.mem_of_getElem? hd)
      simp at h9; omega
    · by_cases hjk : j = m
      · subst hjk
        have hd : he[j]? = some d := hd
        rw [hd] at hr; cases hr
        simp at h9; omega
      · exact hm.2 j (by omega) r hr
  simp only [decide_eq_false_iff_not] at h8
  have hmm : ∀ m ∈ he, 0 ≤ m ∧ m < (ms.length : Int) := fun y hy => by
    obtain ⟨j, hj⟩ := List.getElem?_of_mem hy
    exact hm.2 j (by have := (List.getElem?_eq_some_iff.1 hj).1; omega) y hj
  have base : (ph = 0 ∨ ((ph = 1 ∨ ph = 2) ∧ ∃ i, atS fs fn pc = some i ∧ i.1 = 18 ∧ hasI he i.2.2.2.2.2.1 = false)) ↔ Formed ms fs bound (id, fn, pc, rg, st, ch, ph, su, fa, he, ()) :=
    ⟨fun q => ⟨by omega, hfn, hpc, hr, by omega, ⟨by omega, by omega, fun e => by omega⟩, hss, hmm, q⟩, fun q => q.2.2.2.2.2.2.2.2⟩
  have fB : ∀ b : Bool, (b = true ↔ (ph = 0 ∨ ((ph = 1 ∨ ph = 2) ∧ ∃ i, atS fs fn pc = some i ∧ i.1 = 18 ∧ hasI he i.2.2.2.2.2.1 = false))) → Ent.one (SV.c (SC.v (Value.bool (formedB ms fs bound (id, fn, pc, rg, st, ch, ph, su, fa, he, ()))))) = Ent.one (SV.c (SC.v (Value.bool b))) := fun b hb => by
    have : formedB ms fs bound (id, fn, pc, rg, st, ch, ph, su, fa, he, ()) = b := by
      rw [Bool.eq_iff_iff, hb, base, formedB_iff]
    rw [this]
  refine br_iff.2 ⟨fun h9 => ⟨rfl, fB _ ?_⟩, fun h9 => ⟨⟨hfn.1, hfn.2, hpc.1⟩, fun _ => hhe, rfl, fB _ ?_⟩⟩
  · simp at h9; simp [h9]
  · simp at h9
    cases ha : atS fs fn pc with
    | none => rw [show atR fs fn pc = ((0, 0, 0, 0, 0, 0, 0, 0, ()), false) by unfold atR; rw [ha]]; simp [h9]
    | some i => rw [show atR fs fn pc = (i, true) by unfold atR; rw [ha]]; simp [h9, and_assoc]
set_option maxHeartbeats 2000000 in
set_option maxRecDepth 100000 in
theorem f44_met : Go.Eng.Met Tryz.prog cx0.gd 44 ctFrm :=
  (met_all (cx := cx0) (n := 144) (cl := cl44) (il := il44) (hl := hl44) (ml := ml44) (rc := []) (lits := []) (suf := []) (by kernel_rfl) tis_ok ⟨f24_met, f25_met, f63_met, f32_met, f64_met, trivial⟩ trivial trivial trivial Tryz.func44 (by kernel_rfl) (by kernel_rfl) rfl (by kernel_rfl) (by kernel_rfl) (by simp) fun d hd => by
    obtain ⟨⟨vs, ms, cs, fs, ts, ⟨⟩⟩, bound, ⟨id, fn, pc, rg, st, ch, ph, su, fa, he, ⟨⟩⟩, ⟨⟩⟩ := d
    exact ex_of (ann44 vs ms cs fs ts bound id fn pc rg st ch ph su fa he) (f44_vc vs ms cs fs ts bound id fn pc rg st ch ph su fa he hd) (by kernel_rfl)).met
@[reducible] noncomputable def ctVal2 : CT := { ps := [shP, .int .i64, shT], pre := fun d => (chkP d.1.1 d.1.2.1 d.1.2.2.1 d.1.2.2.2.1 d.1.2.2.2.2.1).1 = 0 ∧ d.2.2.1.2.2.2.2.2.2.2.2.2.1.length ≤ 1000000 ∧ d.2.2.1.1 ≤ 9223372036854775807 ∧ d.2.2.1.2.2.2.1.length = 8, res := fun d => ([], vB (vldB d.1.2.1 d.1.2.2.2.1 d.2.1 d.2.2.1)) }
@[reducible] noncomputable def cl31 : List (Nat × CT) := [(44, ctFrm), (32, ctAt), (49, ctVis), (50, ctObs)]
@[reducible] def ann31 (vs : List VD) (ms : List ByteArray) (cs : List ByteArray) (fs : List FD) (ts : List SD) (bound : Int) (id : Int) (fn : Int) (pc : Int) (rg : List Int) (st : Int) (ch : Int) (ph : Int) (su : Int) (fa : Int) (he : List Int) : Nat → Option (St → Ann) := fun _ => none
@[reducible] def il31 : List (Nat × IP) := []
@[reducible] def hl31 : List (Nat × Nat × CT) := []
@[reducible] noncomputable def ml31 : List (Nat × MK) := []
set_option maxRecDepth 100000 in
theorem f31_vc (vs : List VD) (ms : List ByteArray) (cs : List ByteArray) (fs : List FD) (ts : List SD) (bound : Int) (id : Int) (fn : Int) (pc : Int) (rg : List Int) (st : Int) (ch : Int) (ph : Int) (su : Int) (fa : Int) (he : List Int) (hpre : ctVal2.pre ((vs, ms, cs, fs, ts, ()), bound, (id, fn, pc, rg, st, ch, ph, su, fa, he, ()), ())) :
    (True ∧ he.length ≤ (1000000 : Nat) ∧ id ≤ (9223372036854775807 : I6.den) ∧ rg.length = (8 : Nat)) ∧ br (!formedB ms fs bound (id, fn, pc, rg, st, ch, ph, su, fa, he, ())) (([] : List Go.Eng.Res) = [] ∧ Ent.one (SV.c (SC.v (Value.bool (vldB ms fs bound (id, fn, pc, rg, st, ch, ph, su, fa, he, ()))))) = Ent.one (SV.c (SC.v (Value.bool false)))) (((0 : I6.den) ≤ fn ∧ fn < (↑fs.length : I6.den) ∧ (0 : I6.den) ≤ pc) ∧ br (decide (su = (1 : Int))) (br (decide (su = (1 : Int))) (((!(!decide (fa = (0 : Int)) || !(atR fs fn pc).snd)) = true → True) ∧ ((!(!decide (fa = (0 : Int)) || !(atR fs fn pc).snd || !visS (atR fs fn pc).fst.fst)) = true → he.length ≤ (1000000 : Nat) ∧ id ≤ (9223372036854775807 : I6.den)) ∧ br (!decide (fa = (0 : Int)) || !(atR fs fn pc).snd || !visS (atR fs fn pc).fst.fst || !decide (obsS id ch ph he (atR fs fn pc).fst = (0 : Int))) (([] : List Go.Eng.Res) = [] ∧ Ent.one (SV.c (SC.v (Value.bool (vldB ms fs bound (id, fn, pc, rg, st, ch, ph, su, fa, he, ()))))) = Ent.one (SV.c (SC.v (Value.bool false)))) (([] : List Go.Eng.Res) = [] ∧ Ent.one (SV.c (SC.v (Value.bool (vldB ms fs bound (id, fn, pc, rg, st, ch, ph, su, fa, he, ()))))) = Ent.one (SV.c (SC.v (Value.bool (decide (su = (1 : Int)) && decide (st < bound) || decide (su = (4 : Int)) && decide ((1 : Int) ≤ st))))))) (br (decide (su = (2 : Int))) (([] : List Go.Eng.Res) = [] ∧ Ent.one (SV.c (SC.v (Value.bool (vldB ms fs bound (id, fn, pc, rg, st, ch, ph, su, fa, he, ()))))) = Ent.one (SV.c (SC.v (Value.bool (decide (fa = (0 : Int)) && decide (ph = (0 : Int)) && (!(atR fs fn pc).snd || decide ((atR fs fn pc).fst.fst = (7 : Int)))))))) (br (decide (su = (3 : Int))) (br (!decide (ph = (0 : Int)) || !(atR fs fn pc).snd) (([] : List Go.Eng.Res) = [] ∧ Ent.one (SV.c (SC.v (Value.bool (vldB ms fs bound (id, fn, pc, rg, st, ch, ph, su, fa, he, ()))))) = Ent.one (SV.c (SC.v (Value.bool false)))) (br (decide (fa = (26 : Int))) ((decide ((atR fs fn pc).fst.fst = (6 : Int)) = true → (0 : Int) ≤ (atR fs fn pc).fst.snd.snd.fst ∧ (atR fs fn pc).fst.snd.snd.fst < (8 : Int)) ∧ (decide ((atR fs fn pc).fst.fst = (6 : Int)) = true → (atR fs fn pc).fst.snd.snd.fst.toNat < (8 : Nat)) ∧ ∀ (d : Int), (decide ((atR fs fn pc).fst.fst = (6 : Int)) = true → rg[(atR fs fn pc).fst.snd.snd.fst.toNat]? = some d) → ([] : List Go.Eng.Res) = [] ∧ Ent.one (SV.c (SC.v (Value.bool (vldB ms fs bound (id, fn, pc, rg, st, ch, ph, su, fa, he, ()))))) = Ent.one (SV.c (SC.v (Value.bool (decide ((atR fs fn pc).fst.fst = (6 : Int)) && decide (d = (0 : Int))))))) (br (decide (fa = (29 : Int))) (True ∧ ([] : List Go.Eng.Res) = [] ∧ Ent.one (SV.c (SC.v (Value.bool (vldB ms fs bound (id, fn, pc, rg, st, ch, ph, su, fa, he, ()))))) = Ent.one (SV.c (SC.v (Value.bool !visS (atR fs fn pc).fst.fst)))) (((!decide (fa = (0 : Int))) = true → he.length ≤ (1000000 : Nat) ∧ id ≤ (9223372036854775807 : I6.den)) ∧ ([] : List Go.Eng.Res) = [] ∧ Ent.one (SV.c (SC.v (Value.bool (vldB ms fs bound (id, fn, pc, rg, st, ch, ph, su, fa, he, ()))))) = Ent.one (SV.c (SC.v (Value.bool (!decide (fa = (0 : Int)) && decide (obsS id ch ph he (atR fs fn pc).fst = fa))))))))) (([] : List Go.Eng.Res) = [] ∧ Ent.one (SV.c (SC.v (Value.bool (vldB ms fs bound (id, fn, pc, rg, st, ch, ph, su, fa, he, ()))))) = Ent.one (SV.c (SC.v (Value.bool false))))))) (br (decide (su = (4 : Int))) (((!(!decide (fa = (0 : Int)) || !(atR fs fn pc).snd)) = true → True) ∧ ((!(!decide (fa = (0 : Int)) || !(atR fs fn pc).snd || !visS (atR fs fn pc).fst.fst)) = true → he.length ≤ (1000000 : Nat) ∧ id ≤ (9223372036854775807 : I6.den)) ∧ br (!decide (fa = (0 : Int)) || !(atR fs fn pc).snd || !visS (atR fs fn pc).fst.fst || !decide (obsS id ch ph he (atR fs fn pc).fst = (0 : Int))) (([] : List Go.Eng.Res) = [] ∧ Ent.one (SV.c (SC.v (Value.bool (vldB ms fs bound (id, fn, pc, rg, st, ch, ph, su, fa, he, ()))))) = Ent.one (SV.c (SC.v (Value.bool false)))) (([] : List Go.Eng.Res) = [] ∧ Ent.one (SV.c (SC.v (Value.bool (vldB ms fs bound (id, fn, pc, rg, st, ch, ph, su, fa, he, ()))))) = Ent.one (SV.c (SC.v (Value.bool (decide (su = (1 : Int)) && decide (st < bound) || decide (su = (4 : Int)) && decide ((1 : Int) ≤ st))))))) (br (decide (su = (2 : Int))) (([] : List Go.Eng.Res) = [] ∧ Ent.one (SV.c (SC.v (Value.bool (vldB ms fs bound (id, fn, pc, rg, st, ch, ph, su, fa, he, ()))))) = Ent.one (SV.c (SC.v (Value.bool (decide (fa = (0 : Int)) && decide (ph = (0 : Int)) && (!(atR fs fn pc).snd || decide ((atR fs fn pc).fst.fst = (7 : Int)))))))) (br (decide (su = (3 : Int))) (br (!decide (ph = (0 : Int)) || !(atR fs fn pc).snd) (([] : List Go.Eng.Res) = [] ∧ Ent.one (SV.c (SC.v (Value.bool (vldB ms fs bound (id, fn, pc, rg, st, ch, ph, su, fa, he, ()))))) = Ent.one (SV.c (SC.v (Value.bool false)))) (br (decide (fa = (26 : Int))) ((decide ((atR fs fn pc).fst.fst = (6 : Int)) = true → (0 : Int) ≤ (atR fs fn pc).fst.snd.snd.fst ∧ (atR fs fn pc).fst.snd.snd.fst < (8 : Int)) ∧ (decide ((atR fs fn pc).fst.fst = (6 : Int)) = true → (atR fs fn pc).fst.snd.snd.fst.toNat < (8 : Nat)) ∧ ∀ (d : Int), (decide ((atR fs fn pc).fst.fst = (6 : Int)) = true → rg[(atR fs fn pc).fst.snd.snd.fst.toNat]? = some d) → ([] : List Go.Eng.Res) = [] ∧ Ent.one (SV.c (SC.v (Value.bool (vldB ms fs bound (id, fn, pc, rg, st, ch, ph, su, fa, he, ()))))) = Ent.one (SV.c (SC.v (Value.bool (decide ((atR fs fn pc).fst.fst = (6 : Int)) && decide (d = (0 : Int))))))) (br (decide (fa = (29 : Int))) (True ∧ ([] : List Go.Eng.Res) = [] ∧ Ent.one (SV.c (SC.v (Value.bool (vldB ms fs bound (id, fn, pc, rg, st, ch, ph, su, fa, he, ()))))) = Ent.one (SV.c (SC.v (Value.bool !visS (atR fs fn pc).fst.fst)))) (((!decide (fa = (0 : Int))) = true → he.length ≤ (1000000 : Nat) ∧ id ≤ (9223372036854775807 : I6.den)) ∧ ([] : List Go.Eng.Res) = [] ∧ Ent.one (SV.c (SC.v (Value.bool (vldB ms fs bound (id, fn, pc, rg, st, ch, ph, su, fa, he, ()))))) = Ent.one (SV.c (SC.v (Value.bool (!decide (fa = (0 : Int)) && decide (obsS id ch ph he (atR fs fn pc).fst = fa))))))))) (([] : List Go.Eng.Res) = [] ∧ Ent.one (SV.c (SC.v (Value.bool (vldB ms fs bound (id, fn, pc, rg, st, ch, ph, su, fa, he, ()))))) = Ent.one (SV.c (SC.v (Value.bool false)))))))) := by
  obtain ⟨hc, hhe, hid, hrg⟩ : (chkP vs ms cs fs ts).1 = 0 ∧ he.length ≤ 1000000 ∧ id ≤ 9223372036854775807 ∧ rg.length = 8 := hpre
  refine ⟨⟨trivial, hhe, hid, hrg⟩, br_iff.2 ⟨fun h => ⟨rfl, ?_⟩, fun h => ?_⟩⟩
  · have : vldB ms fs bound (id, fn, pc, rg, st, ch, ph, su, fa, he, ()) = false := vldB_false fun q => by
      have e := formedB_iff.2 q.1
      rw [e] at h; cases h
    rw [this]
  have hF : Formed ms fs bound (id, fn, pc, rg, st, ch, ph, su, fa, he, ()) := by
    have e : formedB ms fs bound (id, fn, pc, rg, st, ch, ph, su, fa, he, ()) = true := by simpa using h
    exact formedB_iff.1 e
  have hfn := hF.2.1
  refine ⟨⟨hfn.1, hfn.2, hF.2.2.1.1⟩, ?_⟩
  have W : ∀ b : Bool, (b = true ↔ (((su = 1 ∧ st < bound ∨ su = 4 ∧ 1 ≤ st) ∧ fa = 0 ∧ ∃ i, atS fs fn pc = some i ∧ visS i.1 = true ∧ obsS id ch ph he i = 0) ∨
     (su = 2 ∧ fa = 0 ∧ ph = 0 ∧ ∀ i, atS fs fn pc = some i → i.1 = 7) ∨
     (su = 3 ∧ ph = 0 ∧ ∃ i, atS fs fn pc = some i ∧ (fa = 26 ∧ i.1 = 6 ∧ rg.getD i.2.2.1.toNat 0 = 0 ∨ fa = 29 ∧ visS i.1 = false ∨ fa ≠ 26 ∧ fa ≠ 29 ∧ fa ≠ 0 ∧ obsS id ch ph he i = fa)))) →
      Ent.one (SV.c (SC.v (Value.bool (vldB ms fs bound (id, fn, pc, rg, st, ch, ph, su, fa, he, ()))))) = Ent.one (SV.c (SC.v (Value.bool b))) := fun b hb => by
    have : vldB ms fs bound (id, fn, pc, rg, st, ch, ph, su, fa, he, ()) = b := by
      rw [Bool.eq_iff_iff, hb, vldB_iff]
      exact ⟨fun q => q.2, fun q => ⟨hF, q⟩⟩
    rw [this]
  cases ha : atS fs fn pc with
  | none =>
    rw [show atR fs fn pc = ((0, 0, 0, 0, 0, 0, 0, 0, ()), false) by unfold atR; rw [ha]]
    simp only [br_iff, ha] at W ⊢
    repeat' (first | exact hhe | exact hid | (refine And.intro ?_ ?_) | (intro _))
    all_goals first | rfl | trivial | exact hhe | exact hid | (refine W _ ?_; simp_all; done) | (simp_all; done)
  | some i =>
    rw [show atR fs fn pc = (i, true) by unfold atR; rw [ha]]
    obtain ⟨r1, r2, r3, r4⟩ := chkI_regs (ci_zero (at_ok hc hfn ha)).1
    have rb8 : i.2.2.1.toNat < 8 := by omega
    have gd : ∀ {x d : Int}, rg[x.toNat]? = some d → rg.getD x.toNat 0 = d := fun hd => by rw [List.getD_eq_getElem?_getD, hd]; rfl
    simp only [br_iff, ha] at W ⊢
    repeat' (first | exact hhe | exact hid | exact r2.1 | exact r2.2 | exact rb8 | (refine And.intro ?_ ?_) | (intro _))
    all_goals first | rfl | trivial | exact hhe | exact hid | exact r2.1 | exact r2.2 | exact rb8 | (refine W _ ?_; simp_all; done) | (refine W _ ?_; clear W; simp_all; grind) | skip
set_option maxHeartbeats 2000000 in
set_option maxRecDepth 100000 in
theorem f31_met : Go.Eng.Met Tryz.prog cx0.gd 31 ctVal2 :=
  (met_all (cx := cx0) (n := 123) (cl := cl31) (il := il31) (hl := hl31) (ml := ml31) (rc := []) (lits := []) (suf := []) (by kernel_rfl) tis_ok ⟨f44_met, f32_met, f49_met, f50_met, trivial⟩ trivial trivial trivial Tryz.func31 (by kernel_rfl) (by kernel_rfl) rfl (by kernel_rfl) (by kernel_rfl) (by simp) fun d hd => by
    obtain ⟨⟨vs, ms, cs, fs, ts, ⟨⟩⟩, bound, ⟨id, fn, pc, rg, st, ch, ph, su, fa, he, ⟨⟩⟩, ⟨⟩⟩ := d
    exact ex_of (ann31 vs ms cs fs ts bound id fn pc rg st ch ph su fa he) (f31_vc vs ms cs fs ts bound id fn pc rg st ch ph su fa he hd) (by kernel_rfl)).met
theorem cc_short {vs : List VD} {ms cs : List ByteArray} {fs : List FD} (h : (ccS vs ms cs fs).1 = 0) : longS fs < 0 := by
  unfold ccS at h
  split at h
  · rename_i d hd
    have hp := List.find?_some hd
    split at h
    · cases h
    · rename_i h1
      simp only [Bool.or_eq_true, decide_eq_true_eq] at hp
      rcases hp with hp | hp
      · exact absurd hp h1
      · exact absurd h hp
  · split at h
    · cases h
    · omega
theorem long_neg {fs : List FD} (h : longS fs < 0) : ∀ f ∈ fs, f.2.1.length ≤ 64 := by
  unfold longS at h
  split at h
  · omega
  · rename_i hn
    rw [List.findIdx?_eq_none_iff] at hn
    intro f hf
    simpa using hn f hf
theorem code_short {vs : List VD} {ms cs : List ByteArray} {fs : List FD} {ts : List SD} (h : (chkP vs ms cs fs ts).1 = 0) {fn : Int} (hf : 0 ≤ fn ∧ fn < fs.length) : (codeF fs fn).length ≤ 64 := by
  obtain ⟨x, hx, ex⟩ := codeF_get hf
  rw [ex]
  exact long_neg (cc_short (chk_zero h).2.1) x (List.mem_of_getElem? hx)
theorem stl_none {fs : List FD} {bound id fn pc st ch ph su fa : Int} {rg he : List Int} {u : Unit} (h : atS fs fn pc = none) (k : Nat) : stlS fs bound k (id, fn, pc, rg, st, ch, ph, su, fa, he, u) = (id, fn, pc, rg, st, ch, ph, 2, 0, he, ()) := by
  cases k <;> (rw [stlS]; unfold topS; simp only [h])
theorem stl_vis {fs : List FD} {bound id fn pc st ch ph su fa : Int} {rg he : List Int} {u : Unit} {i : ID} (h : atS fs fn pc = some i) (hv : visS i.1 = true) (k : Nat) : stlS fs bound k (id, fn, pc, rg, st, ch, ph, su, fa, he, u) =
    if obsS id ch ph he i ≠ 0 then (id, fn, pc, rg, st, ch, ph, 3, obsS id ch ph he i, he, ()) else if st = bound then (id, fn, pc, rg, st, ch, ph, 4, 0, he, ()) else (id, fn, pc, rg, st, ch, ph, su, fa, he, ()) := by
  cases k <;> (rw [stlS]; unfold topS; simp only [h]; rw [if_pos hv])
theorem stl_zero {fs : List FD} {bound id fn pc st ch ph su fa : Int} {rg he : List Int} {u : Unit} {i : ID} (h : atS fs fn pc = some i) (hv : visS i.1 = false) : stlS fs bound 0 (id, fn, pc, rg, st, ch, ph, su, fa, he, u) = (id, fn, pc, rg, st, ch, ph, 3, 29, he, ()) := by
  rw [stlS]; unfold topS; simp only [h]; rw [if_neg (by rw [hv]; simp)]; rfl
theorem stl_succ {fs : List FD} {bound id fn pc st ch ph su fa : Int} {rg he : List Int} {u : Unit} {i : ID} (h : atS fs fn pc = some i) (hv : visS i.1 = false) (k : Nat) : stlS fs bound (k + 1) (id, fn, pc, rg, st, ch, ph, su, fa, he, u) =
    if (locS (id, fn, pc, rg, st, ch, ph, su, fa, he, u) i).2 = true then stlS fs bound k (locS (id, fn, pc, rg, st, ch, ph, su, fa, he, u) i).1 else (locS (id, fn, pc, rg, st, ch, ph, su, fa, he, u) i).1 := by
  rw [stlS]; unfold topS; simp only [h]; rw [if_neg (by rw [hv]; simp)]
theorem loc_len (t : TD) (i : ID) : (locS t i).1.2.2.2.1.length = t.2.2.2.1.length := by
  obtain ⟨id, fn, pc, rg, st, ch, ph, su, fa, hd, u⟩ := t
  obtain ⟨op, a, b, c, obj, n, f, ord, u2⟩ := i
  unfold locS
  simp only
  repeat' split
  all_goals simp
@[reducible] def ctStl : CT := { ps := [shP, .int .i64, shT], pre := fun d => (chkP d.1.1 d.1.2.1 d.1.2.2.1 d.1.2.2.2.1 d.1.2.2.2.2.1).1 = 0 ∧ Formed d.1.2.1 d.1.2.2.2.1 d.2.1 d.2.2.1 ∧ d.2.2.1.2.2.2.2.2.2.2.2.2.1.length ≤ 1000000 ∧ d.2.2.1.1 ≤ 9223372036854775807 ∧ d.2.2.1.2.2.2.1.length = 8, res := fun d => ([], .one (.dat shT (stlS d.1.2.2.2.1 d.2.1 256 d.2.2.1))) }
@[reducible] noncomputable def cl26 : List (Nat × CT) := [(47, ctClone), (32, ctAt), (48, ctEnd), (49, ctVis), (50, ctObs), (51, ctLoc)]
@[reducible] def ann26 (vs : List VD) (ms : List ByteArray) (cs : List ByteArray) (fs : List FD) (ts : List SD) (bound : Int) (id : Int) (fn : Int) (pc : Int) (rg : List Int) (st : Int) (ch : Int) (ph : Int) (su : Int) (fa : Int) (he : List Int) : Nat → Option (St → Ann) := fun k => match k with
  | 4 => some fun _ => .inv { α := Nat × TD, slots := fun x => [(7, .c (.v (.int .i64 x.1)))], res := fun x => [(1, .obj 38 shT x.2)], inv := fun x => x.1 ≤ 256 ∧ Formed ms fs bound x.2 ∧ x.2.2.2.2.2.2.2.2.2.2.1 = he ∧ x.2.1 = id ∧ x.2.2.2.2.1.length = 8 ∧ stlS fs bound (256 - x.1) x.2 = stlS fs bound 256 (id, fn, pc, rg, st, ch, ph, su, fa, he, ()), meas := fun x => 257 - x.1 }
  | _ => none
@[reducible] def il26 : List (Nat × IP) := []
@[reducible] def hl26 : List (Nat × Nat × CT) := []
@[reducible] noncomputable def ml26 : List (Nat × MK) := []
set_option maxRecDepth 100000 in
theorem f26_vc (vs : List VD) (ms : List ByteArray) (cs : List ByteArray) (fs : List FD) (ts : List SD) (bound : Int) (id : Int) (fn : Int) (pc : Int) (rg : List Int) (st : Int) (ch : Int) (ph : Int) (su : Int) (fa : Int) (he : List Int) (hpre : ctStl.pre ((vs, ms, cs, fs, ts, ()), bound, (id, fn, pc, rg, st, ch, ph, su, fa, he, ()), ())) :
    he.length ≤ (1000000 : Nat) ∧ (∃ (x : Nat × TD), (x.fst ≤ (256 : Nat) ∧ Formed ms fs bound x.snd ∧ x.snd.snd.snd.snd.snd.snd.snd.snd.snd.snd.fst = he ∧ x.snd.fst = id ∧ x.snd.snd.snd.snd.fst.length = (8 : Nat) ∧ stlS fs bound ((256 : Nat) - x.fst) x.snd = stlS fs bound (256 : Nat) (id, fn, pc, rg, st, ch, ph, su, fa, he, ())) ∧ (SV.c (SC.v (Value.int IntKind.i64 (0 : Int))) = SV.c (SC.v (Value.int IntKind.i64 (↑x.fst : Int))) ∧ True) ∧ [(([] : Go.Eng.Gd), Res.blk (27 : Nat) [SC.sl (Sh.str.pair (I6.pair Sh.unit)) vs, SC.sl Sh.str ms, SC.sl Sh.str cs, SC.sl (Sh.str.pair (shI.sl.pair Sh.unit)) fs, SC.sl (I6.pair (I6.pair Sh.unit)) ts]), (([] : Go.Eng.Gd), Res.obj (38 : Nat) shT (id, fn, pc, rg, st, ch, ph, su, fa, he, ())), (([] : Go.Eng.Gd), Res.obj (38 : Nat) shT ((0 : Int), (0 : Int), (0 : Int), List.replicate (8 : Nat) (0 : Int), (0 : Int), (0 : Int), (0 : Int), (0 : Int), (0 : Int), [], ())), (([] : Go.Eng.Gd), Res.gone)] = [(([] : Go.Eng.Gd), Res.blk (27 : Nat) [SC.sl (Sh.str.pair (I6.pair Sh.unit)) vs, SC.sl Sh.str ms, SC.sl Sh.str cs, SC.sl (Sh.str.pair (shI.sl.pair Sh.unit)) fs, SC.sl (I6.pair (I6.pair Sh.unit)) ts]), (([] : Go.Eng.Gd), Res.obj (38 : TypeId) shT x.snd), (([] : Go.Eng.Gd), Res.obj (38 : Nat) shT ((0 : Int), (0 : Int), (0 : Int), List.replicate (8 : Nat) (0 : Int), (0 : Int), (0 : Int), (0 : Int), (0 : Int), (0 : Int), [], ())), (([] : Go.Eng.Gd), Res.gone)]) ∧ ∀ (x : Nat × TD), x.fst ≤ (256 : Nat) ∧ Formed ms fs bound x.snd ∧ x.snd.snd.snd.snd.snd.snd.snd.snd.snd.snd.fst = he ∧ x.snd.fst = id ∧ x.snd.snd.snd.snd.fst.length = (8 : Nat) ∧ stlS fs bound ((256 : Nat) - x.fst) x.snd = stlS fs bound (256 : Nat) (id, fn, pc, rg, st, ch, ph, su, fa, he, ()) → ((0 : I6.den) ≤ x.snd.snd.fst ∧ x.snd.snd.fst < (↑fs.length : I6.den) ∧ (0 : I6.den) ≤ x.snd.snd.snd.fst) ∧ br (!(atR fs x.snd.snd.fst x.snd.snd.snd.fst).snd) (True ∧ ([] : List Go.Eng.Res) = [] ∧ Ent.one (SV.dat shT (stlS fs bound (256 : Nat) (id, fn, pc, rg, st, ch, ph, su, fa, he, ()))) = Ent.one (SV.dat shT (endS x.snd (2 : Int) (0 : Int)))) (True ∧ br (visS (atR fs x.snd.snd.fst x.snd.snd.snd.fst).fst.fst) ((List.length x.snd.snd.snd.snd.snd.snd.snd.snd.snd.snd.fst ≤ (1000000 : Nat) ∧ x.snd.fst ≤ (9223372036854775807 : I6.den)) ∧ br (!decide (obsS x.snd.fst x.snd.snd.snd.snd.snd.snd.fst x.snd.snd.snd.snd.snd.snd.snd.fst x.snd.snd.snd.snd.snd.snd.snd.snd.snd.snd.fst (atR fs x.snd.snd.fst x.snd.snd.snd.fst).fst = (0 : Int))) (True ∧ ([] : List Go.Eng.Res) = [] ∧ Ent.one (SV.dat shT (stlS fs bound (256 : Nat) (id, fn, pc, rg, st, ch, ph, su, fa, he, ()))) = Ent.one (SV.dat shT (endS x.snd (3 : Int) (obsS x.snd.fst x.snd.snd.snd.snd.snd.snd.fst x.snd.snd.snd.snd.snd.snd.snd.fst x.snd.snd.snd.snd.snd.snd.snd.snd.snd.snd.fst (atR fs x.snd.snd.fst x.snd.snd.snd.fst).fst)))) (br (decide (x.snd.snd.snd.snd.snd.fst = bound)) (True ∧ ([] : List Go.Eng.Res) = [] ∧ Ent.one (SV.dat shT (stlS fs bound (256 : Nat) (id, fn, pc, rg, st, ch, ph, su, fa, he, ()))) = Ent.one (SV.dat shT (endS x.snd (4 : Int) (0 : Int)))) (([] : List Go.Eng.Res) = [] ∧ Ent.one (SV.dat shT (stlS fs bound (256 : Nat) (id, fn, pc, rg, st, ch, ph, su, fa, he, ()))) = Ent.one (SV.dat shT (x.snd))))) (br (decide ((↑x.fst : Int) = (256 : Int))) (True ∧ ([] : List Go.Eng.Res) = [] ∧ Ent.one (SV.dat shT (stlS fs bound (256 : Nat) (id, fn, pc, rg, st, ch, ph, su, fa, he, ()))) = Ent.one (SV.dat shT (endS x.snd (3 : Int) (29 : Int)))) ((((0 : I6.den) ≤ (atR fs x.snd.snd.fst x.snd.snd.snd.fst).fst.snd.fst ∧ (atR fs x.snd.snd.fst x.snd.snd.snd.fst).fst.snd.fst < (8 : I6.den)) ∧ ((0 : I6.den) ≤ (atR fs x.snd.snd.fst x.snd.snd.snd.fst).fst.snd.snd.fst ∧ (atR fs x.snd.snd.fst x.snd.snd.snd.fst).fst.snd.snd.fst < (8 : I6.den)) ∧ ((0 : I6.den) ≤ (atR fs x.snd.snd.fst x.snd.snd.snd.fst).fst.snd.snd.snd.fst ∧ (atR fs x.snd.snd.fst x.snd.snd.snd.fst).fst.snd.snd.snd.fst < (8 : I6.den)) ∧ (0 : I6.den) ≤ x.snd.snd.snd.fst ∧ x.snd.snd.snd.fst ≤ (1000000 : I6.den)) ∧ br (!(locS x.snd (atR fs x.snd.snd.fst x.snd.snd.snd.fst).fst).snd) (([] : List Go.Eng.Res) = [] ∧ Ent.one (SV.dat shT (stlS fs bound (256 : Nat) (id, fn, pc, rg, st, ch, ph, su, fa, he, ()))) = Ent.one (SV.dat shT ((locS x.snd (atR fs x.snd.snd.fst x.snd.snd.snd.fst).fst).fst))) (InR IntKind.i64 ((↑x.fst : Int) + (1 : Int)) ∧ ∃ (x' : Nat × TD), (x'.fst ≤ (256 : Nat) ∧ Formed ms fs bound x'.snd ∧ x'.snd.snd.snd.snd.snd.snd.snd.snd.snd.snd.fst = he ∧ x'.snd.fst = id ∧ x'.snd.snd.snd.snd.fst.length = (8 : Nat) ∧ stlS fs bound ((256 : Nat) - x'.fst) x'.snd = stlS fs bound (256 : Nat) (id, fn, pc, rg, st, ch, ph, su, fa, he, ())) ∧ (SV.c (SC.v (Value.int IntKind.i64 ((↑x.fst : Int) + (1 : Int)))) = SV.c (SC.v (Value.int IntKind.i64 (↑x'.fst : Int))) ∧ True) ∧ [(([] : Go.Eng.Gd), Res.blk (27 : Nat) [SC.sl (Sh.str.pair (I6.pair Sh.unit)) vs, SC.sl Sh.str ms, SC.sl Sh.str cs, SC.sl (Sh.str.pair (shI.sl.pair Sh.unit)) fs, SC.sl (I6.pair (I6.pair Sh.unit)) ts]), (([] : Go.Eng.Gd), Res.obj (38 : TypeId) shT ((locS x.snd (atR fs x.snd.snd.fst x.snd.snd.snd.fst).fst).fst)), (([] : Go.Eng.Gd), Res.obj (38 : Nat) shT ((0 : Int), (0 : Int), (0 : Int), List.replicate (8 : Nat) (0 : Int), (0 : Int), (0 : Int), (0 : Int), (0 : Int), (0 : Int), [], ())), (([] : Go.Eng.Gd), Res.gone)] = [(([] : Go.Eng.Gd), Res.blk (27 : Nat) [SC.sl (Sh.str.pair (I6.pair Sh.unit)) vs, SC.sl Sh.str ms, SC.sl Sh.str cs, SC.sl (Sh.str.pair (shI.sl.pair Sh.unit)) fs, SC.sl (I6.pair (I6.pair Sh.unit)) ts]), (([] : Go.Eng.Gd), Res.obj (38 : TypeId) shT x'.snd), (([] : Go.Eng.Gd), Res.obj (38 : Nat) shT ((0 : Int), (0 : Int), (0 : Int), List.replicate (8 : Nat) (0 : Int), (0 : Int), (0 : Int), (0 : Int), (0 : Int), (0 : Int), [], ())), (([] : Go.Eng.Gd), Res.gone)] ∧ (257 : Nat) - x'.fst < (257 : Nat) - x.fst)))) := by
  obtain ⟨hc, hF, hhe, hid, hrg⟩ : (chkP vs ms cs fs ts).1 = 0 ∧ Formed ms fs bound (id, fn, pc, rg, st, ch, ph, su, fa, he, ()) ∧ he.length ≤ 1000000 ∧ id ≤ 9223372036854775807 ∧ rg.length = 8 := hpre
  refine ⟨hhe, ⟨(0, (id, fn, pc, rg, st, ch, ph, su, fa, he, ())), ⟨by omega, hF, rfl, rfl, hrg, rfl⟩, ⟨rfl, trivial⟩, rfl⟩, fun x hx => ?_⟩
  obtain ⟨k, id', fn', pc', rg', st', ch', ph', su', fa', he', ⟨⟩⟩ := x
  obtain ⟨x1, x2, x3, x4, x5, x6⟩ := hx
  have x1 : k ≤ 256 := x1
  have x3 : he' = he := x3
  have x4 : id' = id := x4
  have x5 : rg'.length = 8 := x5
  have x6 : stlS fs bound (256 - k) (id', fn', pc', rg', st', ch', ph', su', fa', he', ()) = stlS fs bound 256 (id, fn, pc, rg, st, ch, ph, su, fa, he, ()) := x6
  have x2 : Formed ms fs bound (id', fn', pc', rg', st', ch', ph', su', fa', he', ()) := x2
  subst x3; subst x4
  rw [← x6]
  have hfn := x2.2.1
  have hpc := x2.2.2.1
  refine ⟨⟨hfn.1, hfn.2, hpc.1⟩, ?_⟩
  show br (!(atR fs fn' pc').2) _ _
  cases ha : atS fs fn' pc' with
  | none =>
    rw [show atR fs fn' pc' = ((0, 0, 0, 0, 0, 0, 0, 0, ()), false) by unfold atR; rw [ha]]
    refine br_iff.2 ⟨fun _ => ⟨trivial, rfl, ?_⟩, fun q => by simp at q⟩
    rw [stl_none ha]; rfl
  | some i =>
    rw [show atR fs fn' pc' = (i, true) by unfold atR; rw [ha]]
    obtain ⟨r1, r2, r3, r4⟩ := chkI_regs (ci_zero (at_ok hc hfn ha)).1
    have h64 := code_short hc hfn
    refine br_iff.2 ⟨fun q => by simp at q, fun _ => ⟨trivial, br_iff.2 ⟨fun hv => ?_, fun hv => ?_⟩⟩⟩
    · have hv : visS i.1 = true := hv
      rw [stl_vis ha hv]
      refine ⟨⟨hhe, hid⟩, br_iff.2 ⟨fun h1 => ?_, fun h1 => br_iff.2 ⟨fun h2 => ?_, fun h2 => ?_⟩⟩⟩
      · have h1 : obsS id' ch' ph' he' i ≠ 0 := by simpa using h1
        rw [if_pos h1]; exact ⟨trivial, rfl, rfl⟩
      · have h1 : ¬ obsS id' ch' ph' he' i ≠ 0 := by simpa using h1
        have h2 : st' = bound := by simpa using h2
        rw [if_neg h1, if_pos h2]; exact ⟨trivial, rfl, rfl⟩
      · have h1 : ¬ obsS id' ch' ph' he' i ≠ 0 := by simpa using h1
        have h2 : ¬ st' = bound := by simpa using h2
        rw [if_neg h1, if_neg h2]; exact ⟨rfl, rfl⟩
    · have hv : visS i.1 = false := hv
      refine br_iff.2 ⟨fun h1 => ?_, fun h1 => ?_⟩
      · have h1 : k = 256 := by have : (k : Int) = 256 := by simpa using h1
                                omega
        rw [h1, show 256 - 256 = 0 from rfl, stl_zero ha hv]
        exact ⟨trivial, rfl, rfl⟩
      · have h1 : ¬ k = 256 := by have : ¬ (k : Int) = 256 := by simpa using h1
                                  omega
        obtain ⟨m, hm⟩ : ∃ m, 256 - k = m + 1 := ⟨255 - k, by omega⟩
        rw [hm, stl_succ ha hv]
        have hk := loc_keep (id', fn', pc', rg', st', ch', ph', su', fa', he', ()) i
        have hlen := loc_len (id', fn', pc', rg', st', ch', ph', su', fa', he', ()) i
        have hfo := loc_formed hc x2 ha hv
        refine ⟨⟨r1, r2, r3, hpc.1, show pc' ≤ 1000000 by omega⟩, br_iff.2 ⟨fun h2 => ?_, fun h2 => ⟨InR_i64.2 (show (-9223372036854775808 : Int) ≤ (k : Int) + 1 ∧ (k : Int) + 1 ≤ 9223372036854775807 by omega), (k + 1, (locS (id', fn', pc', rg', st', ch', ph', su', fa', he', ()) i).1), ⟨show k + 1 ≤ 256 by omega, hfo, hk.2.2.2.2.2.1, hk.1, hlen.trans x5, ?_⟩, ⟨rfl, trivial⟩, rfl, show 257 - (k + 1) < 257 - k by omega⟩⟩⟩
        · have h2 : ¬ (locS (id', fn', pc', rg', st', ch', ph', su', fa', he', ()) i).2 = true := by simpa using h2
          rw [if_neg h2]; exact ⟨rfl, rfl⟩
        · have h2 : (locS (id', fn', pc', rg', st', ch', ph', su', fa', he', ()) i).2 = true := by simpa using h2
          show stlS fs bound (256 - (k + 1)) _ = _
          rw [if_pos h2, show 256 - (k + 1) = m by omega]
set_option maxHeartbeats 2000000 in
set_option maxRecDepth 100000 in
theorem f26_met : Go.Eng.Met Tryz.prog cx0.gd 26 ctStl :=
  (met_all (cx := cx0) (n := 59) (cl := cl26) (il := il26) (hl := hl26) (ml := ml26) (rc := [.data shT]) (lits := []) (suf := []) (by kernel_rfl) tis_ok ⟨f47_met, f32_met, f48_met, f49_met, f50_met, f51_met, trivial⟩ trivial trivial trivial Tryz.func26 (by kernel_rfl) (by kernel_rfl) rfl (by kernel_rfl) (by kernel_rfl) (by simp) fun d hd => by
    obtain ⟨⟨vs, ms, cs, fs, ts, ⟨⟩⟩, bound, ⟨id, fn, pc, rg, st, ch, ph, su, fa, he, ⟨⟩⟩, ⟨⟩⟩ := d
    exact ex_of (ann26 vs ms cs fs ts bound id fn pc rg st ch ph su fa he) (f26_vc vs ms cs fs ts bound id fn pc rg st ch ph su fa he hd) (by kernel_rfl)).met
end Go.Proofs.YtklnffdjhoacoaaGreatDoor
