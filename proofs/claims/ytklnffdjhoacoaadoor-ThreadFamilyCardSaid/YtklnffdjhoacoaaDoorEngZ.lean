/- The engine, part Z: a statement's row from its function's contract. -/
import Derived.Test.YtklnffdjhoacoaaDoorEngY
set_option linter.unusedSimpArgs false
set_option linter.unusedVariables false
namespace Go.Eng
open Go Go.RowKit Go.ChangeShapes Go.WideShapes

section
variable {H : Type} {enc : TypeId × Value → H} {P : Program} {W : World} {sp : Nat → Bool} {held : Bool}

theorem cells_one {v : Value} (h : ∀ cs, v ≠ .agg cs) : v.cells = #[v] := by
  cases v <;> first | rfl | exact absurd rfl (h _)

theorem val_open {s : Sh} {t : TypeId} {v : Value} {d : DataW H} {ps : List MemPlace} {r : Reach} {b0 : Nat} (hs : (SOK P s).1 t = true) (hval : Value.okWide P W r b0 t v) (h : DataW.Trod enc P W 0 sp held t v d ps) :
    ∃ y, rdat s d = some y ∧ CnV (FH.all W) [] (ofDat s y) v ∧ wfD s y := by
  obtain ⟨fuel, hf⟩ := h
  obtain ⟨y, y1, y2, y3⟩ := (sok_open s).1 t hs _ _ _ hf
  refine ⟨y, y1, ?_, y3⟩
  have e : v = mkV s v.cells.toList := by
    have one : s.isAgg = false → (∀ cs, v ≠ .agg cs) → v = mkV s v.cells.toList := by
      intro h1 h2
      rw [cells_one h2]
      simp [mkV, h1]
    cases s with
    | int k =>
      refine one rfl fun cs hc => ?_
      simp only [SOK] at hs
      split at hs
      · rename_i hu; subst hc; simp [Value.okWide, hu, Cell.okWide, Cell.ok] at hval
      · cases hs
    | bool =>
      refine one rfl fun cs hc => ?_
      simp only [SOK] at hs
      split at hs
      · rename_i hu; subst hc; simp [Value.okWide, hu, Cell.okWide, Cell.ok] at hval
      · cases hs
    | str =>
      refine one rfl fun cs hc => ?_
      simp only [SOK] at hs
      split at hs
      · rename_i hu; subst hc; simp [Value.okWide, hu, Cell.okWide, Cell.ok] at hval
      · cases hs
    | any => simp [SOK] at hs
    | sl s =>
      refine one rfl fun cs hc => ?_
      simp only [SOK] at hs
      split at hs
      · rename_i hu; subst hc; simp [Value.okWide, hu, Cell.okWide, Cell.ok] at hval
      · cases hs
    | pair a b =>
      simp only [SOK] at hs
      split at hs
      · rename_i hu
        simp only [Value.okWide, hu] at hval
        obtain ⟨cs, rfl, _⟩ := hval
        simp [mkV, Sh.isAgg, Value.cells]
      · cases hs
    | unit =>
      simp only [SOK] at hs
      split at hs
      · rename_i hu
        simp only [Value.okWide, hu] at hval
        obtain ⟨cs, rfl, _⟩ := hval
        simp [mkV, Sh.isAgg, Value.cells]
      · cases hs
    | arr n s =>
      simp only [SOK] at hs
      split at hs
      · rename_i hu
        simp only [Value.okWide, hu] at hval
        obtain ⟨cs, rfl, _⟩ := hval
        simp [mkV, Sh.isAgg, Value.cells]
      · cases hs
  rw [e]
  exact ofDat_ok s y2

/-- Arguments as typed data. -/
def rdats : (ss : List Sh) → List (DataW H) → Option (dens ss)
  | [], ds => match ds with
    | [] => some ()
    | _ => none
  | s :: ss, ds => match ds with
    | d :: r => match rdat s d with
      | some x => match rdats ss r with
        | some y => some (x, y)
        | none => none
      | none => none
    | [] => none
def wfDs : (ss : List Sh) → dens ss → Prop
  | [], _ => True
  | s :: ss, d => wfD s d.1 ∧ wfDs ss d.2
def sokA (P : Program) : List Sh → List TypeId → Bool
  | [], [] => true
  | s :: ss, t :: ts => (SOK P s).1 t && sokA P ss ts
  | _, _ => false

theorem rdats_len : ∀ {ss : List Sh} {ds : List (DataW H)} {d : dens ss}, rdats ss ds = some d → ds.length = ss.length
  | [], [], _, _ => rfl
  | [], _ :: _, _, h => by simp [rdats] at h
  | _ :: _, [], _, h => by simp [rdats] at h
  | s :: ss, x :: ds, d, h => by
    simp only [rdats] at h
    split at h
    · split at h
      · rename_i hr; simp [rdats_len hr]
      · cases h
    · cases h

theorem args_open {r : Reach} {b0 : Nat} : ∀ {ss : List Sh} {ts : List TypeId} {vs : List Value} {ds : List (DataW H)} {ps : List MemPlace}, sokA P ss ts = true →
    (∀ (j : Nat) t v, ts[j]? = some t → vs[j]? = some v → Value.okWide P W r b0 t v) → DataW.TrodAll enc P W 0 sp held ts vs ds ps →
    ∃ d : dens ss, rdats ss ds = some d ∧ All2 (CnV (FH.all W) []) (ofDats ss d) vs ∧ wfDs ss d
  | [], [], vs, ds, ps, _, _, h => by
    obtain ⟨rfl, rfl, rfl⟩ := trodAll_nil h
    exact ⟨(), rfl, trivial, trivial⟩
  | s :: ss, t :: ts, vs, ds, ps, hs, hval, h => by
    obtain ⟨v, vs, d, ds, p, q, rfl, rfl, rfl, h1, h2⟩ := trodAll_cons h
    simp only [sokA, Bool.and_eq_true] at hs
    obtain ⟨y, y1, y2, y3⟩ := val_open hs.1 (hval 0 t v rfl rfl) h1
    obtain ⟨z, z1, z2, z3⟩ := args_open hs.2 (fun j t v e e' => hval (j + 1) t v (by simpa using e) (by simpa using e')) h2
    exact ⟨(y, z), by simp only [rdats, y1, z1], ⟨y2, z2⟩, y3, z3⟩
  | [], _ :: _, _, _, _, hs, _, _ => by simp [sokA] at hs
  | _ :: _, [], _, _, _, hs, _, _ => by simp [sokA] at hs

/-! Package variables. -/

theorem laid_get : ∀ {laid : List (String × DataW Unit)} {ps : List MemPlace} {n : String} {D : DataW Unit}, DataW.LaidVars P W laid ps → (n, D) ∈ laid →
    ∃ g t cs fuel p, P.globalNamed n = some g ∧ (P.globals[g]?).map (·.type) = some t ∧ W.var? P n = some cs ∧ DataW.trod (fun _ => ()) P W 0 (fun _ => true) false fuel t cs.toList = some (D, p)
  | [], _, _, _, _, hm => by simp at hm
  | (n', D') :: r, ps, n, D, h, hm => by
    obtain ⟨g, t, cs, fuel, p, q, h1, h2, h3, h4, h5, _⟩ := h
    rcases List.mem_cons.1 hm with e | hm
    · cases e; exact ⟨g, t, cs, fuel, p, h1, h2, h3, h4⟩
    · exact laid_get h5 hm

theorem glob_open {laid : List (String × DataW Unit)} (hL : laidMetH P laid W) (hnone : (laid.filter fun x => x.2.handleName?.isSome) = []) {n : String} {D : DataW Unit} (hm : (n, D) ∈ laid) {g : Nat} {t : TypeId} {s : Sh} {y : s.den}
    (hg : P.globalNamed n = some g) (ht : (P.globals[g]?).map (·.type) = some t) (hs : (SOK P s).1 t = true) (hd : rdat s D = some y) : ∃ cs, Rd (FH.all W) s cs y ∧ At (FH.all W) g 0 cs := by
  unfold laidMetH at hL
  rw [hnone] at hL
  obtain ⟨ps, hv, _⟩ := hL
  obtain ⟨g', t', cs, fuel, p, h1, h2, h3, h4⟩ := laid_get hv hm
  rw [hg] at h1; cases h1
  rw [ht] at h2; cases h2
  obtain ⟨y', y1, y2, _⟩ := (sok_open s).1 t hs _ _ _ h4
  simp only at y1
  rw [hd] at y1; cases y1
  refine ⟨_, y2, fun j u hu => ?_⟩
  unfold World.var? at h3
  rw [hg, Option.bind_some] at h3
  split at h3
  · rename_i cs' _ _ he
    cases h3
    show W.cell? ⟨g, 0 + j, none⟩ = some u
    simp only [World.cell?, he, Nat.zero_add]
    simpa using hu
  · cases h3

/-- A block that holds these cells. -/
def lay (cs : Array Value) : Obj → Obj
  | .cells _ t frozen => .cells cs t frozen
  | o => o

/-! Behind the call. -/

theorem below_cell {W' : World} (hB : Below W.heap.size W W') {b o : Nat} (hb : b < W.heap.size) : W'.frozen? ⟨b, o, none⟩ = W.frozen? ⟨b, o, none⟩ := by
  simp only [World.frozen?, hB.block b hb]

theorem below_same {W' : World} (hB : Below W.heap.size W W') {p : MemPlace} (hb : p.block < W.heap.size) : W.sameAt W' p := by
  cases p with
  | cell b o =>
    show W'.cell? ⟨b, o, none⟩ = W.cell? ⟨b, o, none⟩
    simp only [World.cell?]
    rw [hB.block b hb]
  | map b => exact hB.block b hb

theorem trodAll_carry {W' : World} {sp : Nat → Bool} : ∀ {ts : List TypeId} {vs : List Value} {ds : List (DataW H)} {ps : List MemPlace}, DataW.TrodAll enc P W 0 sp held ts vs ds ps → (∀ p ∈ ps, W.sameAt W' p) →
    DataW.TrodAll enc P W' 0 sp held ts vs ds ps
  | [], _, _, _, h, _ => by obtain ⟨rfl, rfl, rfl⟩ := trodAll_nil h; rfl
  | _ :: _, _, _, _, h, hs => by
    obtain ⟨v, vs, d, ds, p, q, rfl, rfl, rfl, ⟨fuel, h1⟩, h2⟩ := trodAll_cons h
    exact ⟨p, q, ⟨fuel, DataW.trod_carry _ _ _ _ h1 fun x hx => hs x (by simp [hx])⟩, trodAll_carry h2 fun x hx => hs x (by simp [hx]), rfl⟩

/-- The row's text behind a call that returned true and wrote nothing that stood. -/
theorem post_true {fn : Func} {s : ChangeSpec} {apart fresh handsOn again : Bool} {W' : World} {args : Array Value} {ds gs : List (DataW H)} {before : List MemPlace} {t : TypeId}
    (hl : laidOutB P = true) (hm : mapsRowed P = true) (hz : ∀ t e, t < P.types.size → P.underlying t = some (.slice e) → 0 < P.cellsOf e) (hts : ∀ t ∈ fn.params.toList, t < P.types.size)
    (hres : fn.resultTypes = #[t]) (ht : P.underlying t = some .bool) (hvars : s.vars = []) (hfn : s.fn H (ds ++ gs) = { results := [.lit (.bool true)], args := ds })
    (hW : DataW.Whole enc P fn.params.toList s.vars apart W args.toList ds gs before) (hB : Below W.heap.size W W') :
    s.post enc P fn apart fresh handsOn again W args (.bool true) W' := by
  have hlt := hW.lt
  have hW' := hW
  obtain ⟨pa, pv, hA, hV, hps, hfz, hnd⟩ := hW
  rw [hvars] at hV
  obtain ⟨rfl, rfl⟩ : gs = [] ∧ pv = [] := by
    cases gs with
    | nil => exact ⟨rfl, hV⟩
    | cons _ _ => exact hV.elim
  rw [List.append_nil] at hps
  subst hps
  have same : ∀ p ∈ before, W.sameAt W' p := fun p hp => below_same hB (hlt p hp)
  have hargs : ∀ sp : Nat → Bool, (∀ p ∈ before, sp p.block = true) → DataW.TrodAll enc P W' 0 sp true fn.params.toList args.toList ds before := fun sp hsp =>
    trodAll_carry (DataW.TrodAll.respare (kids_rows hl hm) hz hts hA hsp) same
  have hresT : ∀ (b : Nat) (sp : Nat → Bool) (hd : Bool), DataW.TrodAll enc P W' b sp hd fn.resultTypes.toList ((Value.bool true).resultList fn.resultTypes.size) [.lit (.bool true)] [] := by
    intro b sp hd
    rw [hres]
    exact trodAll_cons_mk (shut_bool ht true) (ds := []) (p' := []) (show DataW.TrodAll enc P W' b sp hd [] [] [] [] from rfl)
  have hv : ∀ sp : Nat → Bool, DataW.TrodVars enc P W' sp s.vars (s.fn H (ds ++ [])).vars [] := by
    intro sp; rw [hvars, hfn]; rfl
  have hold : ∀ p ∈ before, (fun b => decide (b < W.heap.size)) p.block = true := fun p hp => by simpa using hlt p hp
  refine ⟨ds, [], before, [], before, [], hW', by rw [hfn]; exact hresT _ _ _, by rw [hfn]; exact hargs _ hold, hv _, hB.frame _, fun _ => ?_⟩
  refine ⟨ok_one hres rfl (okWide_bool_mk ht true), [.lit (.bool true)] ++ ds, [], ([] ++ before) ++ [], ⟨[] ++ before, [], trodAll_append (hargs _ (fun _ _ => rfl)) (hresT _ _ _), by rw [hvars]; rfl, rfl, ?_, ?_⟩, ?_⟩
  · intro b off hp
    have hp : MemPlace.cell b off ∈ before := by simpa using hp
    rw [below_cell (b := b) (o := off) hB (hlt _ hp)]
    exact hfz b off hp
  · intro ha
    have := hnd ha
    simpa using this
  · intro p hp _
    simpa using hp

theorem call_true {gd : Nat → Option (Sigma Sh.den)} {f : Nat} {fn : Func} {ct : CT} (met : Met P gd f ct) {s : ChangeSpec} {apart fresh handsOn again : Bool} {args : Array Value} {ds gs : List (DataW H)} {before : List MemPlace} {t : TypeId} {r : Reach} {b0 : Nat}
    (hl : laidOutB P = true) (hm : mapsRowed P = true) (hz : ∀ t e, t < P.types.size → P.underlying t = some (.slice e) → 0 < P.cellsOf e) (hts : ∀ t ∈ fn.params.toList, t < P.types.size)
    (hres : fn.resultTypes = #[t]) (ht : P.underlying t = some .bool) (hvars : s.vars = [])
    (hsok : sokA P ct.ps fn.params.toList = true) (hct : ∀ d, ct.res d = ([], .one (.c (.v (.bool true)))))
    (hfn : ∀ d : dens ct.ps, rdats ct.ps ds = some d → wfDs ct.ps d → s.fn H ds = { results := [.lit (.bool true)], args := ds } ∧ ct.pre d)
    (hval : ∀ (j : Nat) t v, fn.params[j]? = some t → args[j]? = some v → Value.okWide P W r b0 t v)
    (hW : DataW.Whole enc P fn.params.toList s.vars apart W args.toList ds gs before) (hG : GlobOK gd (FH.all W)) :
    Calls P f args W fun e W' => ∃ v, e = .returned v ∧ s.post enc P fn apart fresh handsOn again W args v W' := by
  have hA := hW
  obtain ⟨pa, pv, hA, hV, _⟩ := hA
  rw [hvars] at hV
  obtain rfl : gs = [] := by
    cases gs with
    | nil => rfl
    | cons _ _ => exact hV.elim
  obtain ⟨d, d1, d2, d3⟩ := args_open hsok (fun j t v e e' => hval j t v (by simpa using e) (by simpa using e')) hA
  obtain ⟨h1, h2⟩ := hfn d d1 d3
  have := met.1 d args.toList (FH.all W) W (fun b o v e => e) hG d2 h2
  rw [show args.toList.toArray = args by simp] at this
  refine this.mono ?_
  rintro en W' ⟨h', β, y, rfl, ok, he⟩
  rw [hct] at ok he
  obtain ⟨⟨rfl, _⟩, _⟩ := he
  exact ⟨_, rfl, post_true hl hm hz hts hres ht hvars (by rw [List.append_nil]; exact h1) hW (Bw.bel ok.below)⟩
end
end Go.Eng
