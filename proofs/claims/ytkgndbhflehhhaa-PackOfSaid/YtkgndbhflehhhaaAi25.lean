/- Aids for symbolic walks: loops that count up, facts for calls from anywhere. -/
import Derived.Test.YtkgndbhflehhhaaAi24
namespace Go.Proofs.Ytkgndbhflehhhaa.Ai
open Go
set_option linter.unusedVariables false
set_option linter.unusedSimpArgs false

/-- A loop that takes at most len rounds. -/
theorem loop_up {f : St → Option (Out × St)} (Inv : Nat → St → Prop) (Post : Out → St → Prop) (len : Nat)
    (step : ∀ j s, j < len → Inv j s → ∃ o s', f s = some (o, s') ∧ ((o = .normal ∧ Inv (j + 1) s') ∨ (o ≠ .normal ∧ Post o s')))
    (fin : ∀ s, Inv len s → ∃ o s', f s = some (o, s') ∧ o ≠ .normal ∧ Post o s') :
    ∀ (d j : Nat) (s : St) (m : Nat), len = j + d → d < m → Inv j s → ∃ o s', loopN f m s = some (o, s') ∧ o ≠ .normal ∧ Post o s' := by
  have stop : ∀ (s s' : St) (o : Out) (m : Nat), f s = some (o, s') → o ≠ .normal → loopN f (m + 1) s = some (o, s') := fun s s' o m h ho => by
    simp only [loopN, h]
    cases o with
    | normal => exact absurd rfl ho
    | exit j => rfl
    | ret => rfl
  intro d
  induction d with
  | zero =>
    intro j s m hl hm hs
    obtain ⟨m, rfl⟩ : ∃ q, m = q + 1 := ⟨m - 1, by omega⟩
    have hj : j = len := by omega
    subst hj
    obtain ⟨o, s', h1, h2, h3⟩ := fin s hs
    exact ⟨o, s', stop s s' o m h1 h2, h2, h3⟩
  | succ d ih =>
    intro j s m hl hm hs
    obtain ⟨m, rfl⟩ : ∃ q, m = q + 1 := ⟨m - 1, by omega⟩
    obtain ⟨o, s', h1, h2⟩ := step j s (by omega) hs
    rcases h2 with ⟨rfl, h2⟩ | ⟨h2, h3⟩
    · obtain ⟨o', s'', k1, k2⟩ := ih (j + 1) s' m (by omega) (by omega) h2
      exact ⟨o', s'', by simp only [loopN, h1]; exact k1, k2⟩
    · exact ⟨o, s', stop s s' o m h1 h2, h2, h3⟩

/-- What holds of every state that fits, as a function of the state. -/
theorem skolem2 (I : St → Prop) (X : St → Out → St → Prop) (R : Out → St → Prop) (o0 : Out) (r0 : St) (hr0 : R o0 r0) (key : ∀ s, I s → ∃ o s', X s o s' ∧ R o s') :
    ∃ (g : St → Out) (f : St → St), (∀ s, I s → X s (g s) (f s)) ∧ ∀ s, R (g s) (f s) := by
  have h : ∀ s, ∃ p : Out × St, (I s → X s p.1 p.2) ∧ R p.1 p.2 := fun s => by
    by_cases hs : I s
    · obtain ⟨o, s', h1, h2⟩ := key s hs
      exact ⟨(o, s'), fun _ => h1, h2⟩
    · exact ⟨(o0, r0), fun h => absurd h hs, hr0⟩
  obtain ⟨f, hf⟩ := Classical.axiomOfChoice h
  exact ⟨fun s => (f s).1, fun s => (f s).2, fun s => (hf s).1, fun s => (hf s).2⟩

/-- A function apart from its caller's memory, called from anywhere. -/
theorem lim_at {C : Cfg} (hx : C.ix = fun _ => none) {g : Nat} (hp : C.pu g = true) {fn : AFn} (hP : C.P g = some fn) (n : Nat) {a : List AV} (ha : ∀ h, mapO (freeze h 1000) a = some (a.map fun x => (x, true))) {x y : AV} {c : Bool} {h' : AHeap}
    (hr : runFn (lim C) n fn a [] = some (x, h')) (hf : freeze h' 1000 x = some (y, c)) (H : AHeap) : lim C (.func g) a H = some (y, H) := by
  refine lim_pure hp n ?_
  unfold pureCall
  have e1 : (a.map fun x => (x, true)).map (·.1) = a := by rw [List.map_map]; exact List.map_id a
  have e2 : (a.map fun x => (x, true)).all (·.2) = true := by simp
  rw [ha H]
  simp only [e1, e2, Bool.true_or, cond_true, pureRes, hx, hP, hr, hf, Option.map_some]

theorem w64i {n : Int} (h0 : -9223372036854775808 ≤ n) (h1 : n ≤ 9223372036854775807) : IntKind.i64.wrap n = n := by rw [IntKind.wrap_i64]; omega

end Go.Proofs.Ytkgndbhflehhhaa.Ai
