/- The engine, part R: calls that change a row in place. -/
import Derived.Test.YtklnffdjhoacoaaDoorEngS
set_option linter.unusedSimpArgs false
set_option linter.unusedVariables false
namespace Go.Eng
open Go Go.RowKit

/-- A contract of a function that changes its first argument, a slice with a row of its own, in place; with 'back' it returns that slice. -/
structure IP where
  sh : Sh
  ps : List Sh
  pre : List sh.den → dens ps → Prop
  res : List sh.den → dens ps → List sh.den
  back : Bool

def IPOK (P : Program) (gd : Nat → Option (Sigma Sh.den)) (f : FuncId) (ip : IP) : Prop :=
  ∀ (t : TypeId) (l : List ip.sh.den) (d : dens ip.ps) (v : Value) (vs : List Value) (h : FH) (w : World), (∀ b o u, h b o = some u → w.cell? ⟨b, o, none⟩ = some u) → GlobOK gd h →
    Holds h [] w (.row t ip.sh l) (.row v) → (∀ b, rowBlk v = some b → ∀ o, h b o = none) → All2 (CnV h []) (ofDats ip.ps d) vs → ip.pre l d →
    Calls P f (v :: vs).toArray w (fun en w' => ∃ v' y, en = .returned y ∧ Gb w w' (rowBlk v) ∧ (∀ b, rowBlk v' = some b → rowBlk v = some b ∨ (w.heap.size ≤ b ∧ b < w'.heap.size)) ∧
      Holds h [] w' (.row t ip.sh (ip.res l d)) (.row v') ∧ (ip.back = true → y = v') ∧ (ip.back = false → y = .tuple #[] ∧ v' = v))

@[reducible] def ipK (cx : Cx) (ip : IP) (s : St) (d : Option Nat) (args : List Operand) (K : St → Prop) : Prop := match args with
  | [] => False
  | x :: r => match getE cx s [] x with
    | some (.one (.c (.row i))) => match nthL s.T i with
      | some ([], .row t sh l) => match castD (.sl sh) l (.sl ip.sh) with
        | none => False
        | some l => match argsV cx s [] r with
          | none => False
          | some vs => match allL noRow vs with
            | false => False
            | true => match borA s [] vs with
              | none => False
              | some bs => match datA ip.ps bs with
                | none => False
                | some dd => ip.pre l dd ∧ (match ip.back with
                  | false => K ({ s with T := setL s.T i ([], .row t ip.sh (ip.res l dd)) }.put d [] (.tup []))
                  | true => K ({ s with T := setL (jkT i s.T) i ([], .row t ip.sh (ip.res l dd)), env := jkEnv i s.env }.put d [] (.one (.c (.row i)))))
      | _ => False
    | _ => False

/-- One operation is met; nothing is said of what it changes. -/
def OpW (P : Program) (N : Nat) (B : Base) (h0 : FH) (h : FH) (w : World) (a : Act) (o : Oper) (wanted : Bool) (K : St → Prop) : Prop :=
  ∀ (Nx : Act → World → Prop) (Q : Exit → Act → World → Prop),
    (∀ s' h' β' w' v, K s' → h.le h' → Sat N B h0 s' h' β' w' (a.put o.dst v) → Nx (a.put o.dst v) w') →
    if wanted = true then o.wp P a w Nx Q else Nx (a.put o.dst undef) w

theorem OpOK.weak {P : Program} {N : Nat} {B : Base} {h0 h : FH} {w : World} {a : Act} {o : Oper} {b : Bool} {K : St → Prop} (k : OpOK P N B h0 h w a o b K) : OpW P N B h0 h w a o b K :=
  fun Nx Q next => k Nx Q fun s' h' β' w' v k' le _ sat => next s' h' β' w' v k' le sat

section
variable {cx : Cx} {P : Program} {N : Nat} {B : Base} {h0 : FH} {s : St} {h : FH} {β : List RV} {w : World} {a : Act} {o : Oper} {K : St → Prop}

theorem jk_sat (sat : Sat N B h0 s h β w a) {r : Nat} {x x' : Res} {u v : RV} {w' : World} (hT : nthL s.T r = some ([], x)) (hl : x.live = true) (hu : β[r]? = some u)
    (hg : Gb w w' u.block) (hv : ∀ b, v.block = some b → u.block = some b ∨ (w.heap.size ≤ b ∧ b < w'.heap.size)) (hold : Holds h (β.set r v) w' x' v) :
    Sat N B h0 { s with T := setL (jkT r s.T) r ([], x'), env := jkEnv r s.env } h (β.set r v) w' a := by
  have tr : gv s.gl [] = true := rfl
  have hT' := effres hT tr
  have okj := sat.ok.jk r
  have hTj : ((eff s.gl s.T).map (jkR r))[r]? = some (jkR r x) := by rw [List.getElem?_map, hT']; rfl
  have ok : OK B h0 (eff s.gl (setL (jkT r s.T) r ([], x'))) h (β.set r v) w' := by
    rw [eff_set, eff_jk]
    refine okj.upd hTj (by rw [jkR_live]; exact hl) hu hg hv (.inr fun j rj _ ej => ?_) hold
    rw [List.getElem?_map] at ej
    cases hj : (eff s.gl s.T)[j]? with
    | none => rw [hj] at ej; cases ej
    | some q => rw [hj] at ej; cases ej; exact jkR_free r q
  refine ⟨ok, ?_, ?_, sat.defers, sat.sz, ?_, ?_⟩
  · intro t G e ht
    obtain ⟨e0, h1, rfl⟩ := lkE_jk r ht
    obtain ⟨z, q1, q2, q3⟩ := sat.env t G e0 h1
    exact ⟨z, q1, fun hG => (q2 hG).jk v, q3⟩
  · intro d i hi
    obtain ⟨G, b, q1, q2⟩ := sat.gs d i hi
    exact ⟨G, b, lkE_jk' r q1, q2⟩
  · intro t G e ht
    obtain ⟨e0, h1, rfl⟩ := lkE_jk r ht
    exact sat.gb t G e0 h1
  · intro p hp
    simp only at hp
    rw [setL_eq] at hp
    rcases List.mem_or_eq_of_mem_set hp with hp | hp
    · have : ∀ {l : List (Gd × Res)}, p ∈ jkT r l → ∃ q ∈ l, q.1 = p.1 := by
        intro l
        induction l with
        | nil => intro hh; simp [jkT] at hh
        | cons q l ih =>
          obtain ⟨g, q⟩ := q
          intro hh
          simp only [jkT, List.mem_cons] at hh
          rcases hh with rfl | hh
          · exact ⟨(g, q), by simp, rfl⟩
          · obtain ⟨q', h1, h2⟩ := ih hh; exact ⟨q', by simp [h1], h2⟩
      obtain ⟨q, h1, h2⟩ := this hp
      rw [← h2]; exact sat.gT q h1
    · subst hp; rfl

theorem Holds.anyβ {h : FH} {β β' : List RV} {w : World} {t : TypeId} {s : Sh} {l : List s.den} {v : RV} (x : Holds h β w (.row t s l) v) : Holds h β' w (.row t s l) v := by
  cases v <;> exact x

theorem ip_step {f : FuncId} {ip : IP} (hip : IPOK P cx.gd f ip) (hf : ∃ fn, P.funcs[f]? = some fn ∧ fn.body.isSome = true ∧ (fn.name == "runtime.NumGoroutine") = false)
    (sat : Sat N B h0 s h β w a) (hg : GlobOK cx.gd h) (hd : dOK N o.dst = true) {c : Call} (ho : o.op = .call c) (hcal : c.callee = .value (.func f))
    (k : ipK cx ip s o.dst (tl c.args) K) : OpW P N B h0 h w a o true K := by
  have tr : gv s.gl [] = true := rfl
  unfold ipK at k
  split at k
  · exact k.elim
  rename_i x r hargs0
  split at k
  · rename_i i hx
    split at k
    · rename_i t sh l0 hT
      split at k
      · exact k.elim
      rename_i l hl
      split at k
      · exact k.elim
      rename_i vs hvs
      split at k
      · exact k.elim
      rename_i hnr
      split at k
      · exact k.elim
      rename_i bs hbs
      split at k
      · exact k.elim
      rename_i dd hdd
      obtain ⟨hpre, k⟩ := k
      obtain ⟨e1, e2⟩ := castSl hl
      subst e1; simp only at e2; subst e2
      have cr : CnV h β (.c (.row i)) (a.eval x) := getE_ok sat hg tr hx
      have hu : β[i]? = some (.row (a.eval x)) := cr.1
      have hold := sat.ok.holds i _ _ (effres hT tr) hu
      have hav := argsV_ok sat hg tr hvs
      obtain ⟨_, b2⟩ := borA_ok sat tr hbs hav
      intro Nx Q next
      rw [if_pos rfl]
      obtain ⟨fn, hfn, hbody, hname⟩ := hf
      have exec : (execOp a.eval o).run P w = .ok (.enter f (c.args.map a.eval)) w := by
        simp only [execOp, ho, resolve, hcal, Act.eval, Deferred.ofValue, invoke, Sem.run_bind, Sem.run_pure, Result.andThen_ok, callFunc, run_program, hfn, hname]
        simp [hbody]
        cases hb : fn.body with
        | none => rw [hb] at hbody; cases hbody
        | some _ => simp
      have hargs : (c.args.map a.eval) = (a.eval x :: r.map a.eval).toArray := by
        have : c.args = (x :: r).toArray := by
          cases hc : c.args with
          | mk q => rw [hc] at hargs0; simp only [tl] at hargs0; rw [hargs0]
        rw [this]; simp
      unfold Oper.wp
      rw [exec]
      simp only [Oper.upon]
      rw [hargs]
      refine (hip t l0 dd (a.eval x) _ h w sat.ok.hw hg hold.anyβ (fun b hb => (sat.ok.own i _ _ b (effres hT tr) rfl hu hb).2.2) (datA_ok hdd (b2 hnr)) hpre).mono ?_
      rintro en w' ⟨v', y, rfl, hgr, hv, hold', hb1, hb2⟩
      have hi : i < β.length := (List.getElem?_eq_some_iff.1 hu).1
      cases hb : ip.back with
      | false =>
        rw [hb] at k
        obtain ⟨rfl, rfl⟩ := hb2 hb
        have hT' := effres hT tr
        have ok : OK B h0 (eff s.gl (setL s.T i ([], .row t ip.sh (ip.res l0 dd)))) h β w' := by
          rw [effset]
          have := sat.ok.upd (r' := .row t ip.sh (ip.res l0 dd)) (v := .row (a.eval x)) hT' rfl hu hgr (fun b hb => .inl hb) (.inl rfl) hold'.anyβ
          rwa [set_same hu] at this
        exact next _ _ _ _ _ k (FH.le.refl h) ((sat.mem ok (FH.le.refl h) (Ext.refl β) (gT_set sat)).put (dOK_lt hd) rfl (fun _ => ⟨[], rfl, trivial⟩) fun hh => by cases hh)
      | true =>
        rw [hb] at k
        obtain rfl := hb1 hb
        refine next _ _ _ _ _ k (FH.le.refl h) ((jk_sat sat hT rfl hu hgr hv (x' := .row t ip.sh (ip.res l0 dd)) (v := .row y) hold'.anyβ).put (dOK_lt hd) rfl (fun _ => ?_) fun hh => by cases hh)
        refine ⟨?_, ?_⟩
        · show (β.set i (.row y))[i]? = some (.row y)
          rw [List.getElem?_set_self hi]
        · rcases hold' with ⟨rfl, _⟩ | ⟨_, rfl, _⟩ | ⟨g, cap, cur, rfl, _⟩ <;> exact ⟨rfl, rfl⟩
    · exact k.elim
  · exact k.elim
end
end Go.Eng
