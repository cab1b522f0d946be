/- Readings of arguments, their weights kept. -/
import Derived.Test.YtkgndbhflehhhaaqAi27
import Derived.SizedLaws
import Derived.Test.YtkgndbhflehhhaaqPk1
import Derived.Test.YtkgndbhflehhhaaRows
import Derived.ProofKit
import Derived.WalkKit
import Derived.Test.YtkgndbhflehhhaaqPlv
import Derived.Test.YtkgndbhflehhhaaqPqz
namespace Go.Proofs.Ytkgndbhflehhhaa.Ai
open Go
set_option linter.unusedVariables false
set_option linter.unusedSimpArgs false

section
variable {H : Type} {enc : TypeId × Value → H} {P : Program} {w : World} {n : Nat} {t : TypeId} {cs : List Value} {d : DataW H} {ps : List MemPlace}

end
end Go.Proofs.Ytkgndbhflehhhaa.Ai
namespace Go.Proofs.Ytkgndbhflehhhaa.Ai
def inI64 (n : Int) : Prop := -9223372036854775808 ≤ n ∧ n ≤ 9223372036854775807
end Go.Proofs.Ytkgndbhflehhhaa.Ai
namespace Go.Proofs.Ytkgndbhflehhhaa
open Go.ChangeShapes Go.WideShapes Go.ChangeAt Go.RowKit Ai
set_option linter.unusedVariables false
set_option linter.unusedSimpArgs false
set_option maxRecDepth 100000

theorem own0 : ownKnob Try.prog.godebug = none := by kernel_rfl
theorem laid0 : laidOutB Try.prog = true := by kernel_rfl
theorem cInt : Try.prog.cellsOf 3 = 1 := by kernel_rfl
theorem cInts : Try.prog.cellsOf 26 = 1 := by kernel_rfl
/-- 'post' of a call that turns nothing of what was there. -/
theorem post_below {H : Type} {enc : TypeId × Value → H} {P : Program} {f : Func} {s : ChangeSpec} {apart fresh handsOn : Bool} {W W' : World} {args : Array Value} {v : Value} {ds gs : List (DataW H)} {before pa pv : List MemPlace}
    (hW : DataW.Whole enc P f.params.toList s.vars apart W args.toList ds gs before) (hb : Below W.heap.size W W')
    (hres : ∀ (b : Nat) (sp : Nat → Bool) (hd : Bool), DataW.TrodAll enc P W' b sp hd f.resultTypes.toList (v.resultList f.resultTypes.size) (s.fn H (ds ++ gs)).results [])
    (hargs : DataW.TrodAll enc P W' 0 (fun b => decide (b < W.heap.size)) true f.params.toList args.toList (s.fn H (ds ++ gs)).args pa)
    (hvars : DataW.TrodVars enc P W' (fun b => decide (b < W.heap.size)) s.vars (s.fn H (ds ++ gs)).vars pv) (hps : before = pa ++ pv) : s.post enc P f apart fresh handsOn false W args v W' := by
  refine ⟨ds, gs, before, [], pa, pv, hW, hres _ _ _, hargs, hvars, World.keptBut_mono (fun p hp => ⟨hp, ?_⟩) (Below.frame hb (· ∈ before)), fun h => by cases h⟩
  rw [hps, List.mem_append] at hp
  exact Or.inr hp

section
variable {H : Type} {enc : TypeId × Value → H} {w : World} {n : Nat} {cs : List Value} {d : DataW H} {ps : List MemPlace}

theorem wf64 {k : IntKind} {i : Int} (hk : k = .i64) (h : (Lit.int k i).wf = true) : inI64 i := by
  subst hk
  simp only [Lit.wf,Bool.and_eq_true,decide_eq_true_eq] at h
  exact h

theorem agg_of {v : Value} {l : List AV} {cs : Array Value} (hv : v = .agg cs) (hc : Cs w v.cells.toList l) : PRep (fun _ => True) w v (.agg l) := by
  subst hv
  have hcs : Value.cells (.agg cs) = cs := rfl
  rw [hcs] at hc
  have hc' : PReps (fun _ => True) w cs l := by
    unfold Cs at hc
    simpa using hc
  exact .agg cs _ hc'.1 hc'.2

theorem tr_ints (h : Tr enc Try.prog w n 26 cs d ps) : ∃ l : List Int, Cs w cs [.vsl false (eIs l)] ∧ l.length ≤ maxLen ∧ ∀ s ∈ l, inI64 s := by
  obtain ⟨xs, g, _, hx⟩ := tr_slice (X := {s : Int // inI64 s}) (en := fun x => eI x.1) Try.underlying26 (by rw [cInt]; omega)
    (fun k cs d ps hk hh => by obtain ⟨s, _, b, a⟩ := tr_int Try.underlying3 hh; exact ⟨⟨s, wf64 rfl b⟩, a⟩) h
  refine ⟨xs.map (·.1), ?_, by simpa using hx, fun s hs => ?_⟩
  · have : eIs (xs.map (·.1)) = xs.map fun x => eI x.1 := by simp [eIs]
    rw [this]; exact g
  · obtain ⟨x, _, rfl⟩ := List.mem_map.1 hs
    exact x.2

end
end Go.Proofs.Ytkgndbhflehhhaa
namespace Go.Proofs.Ytkgndbhflehhhaa
open Go.ChangeShapes Go.WideShapes Go.ChangeAt Go.RowKit Ai
set_option linter.unusedVariables false
set_option linter.unusedSimpArgs false
set_option maxRecDepth 100000

variable {H : Type} {enc : TypeId × Value → H} {w : World} {n : Nat} {cs : List Value} {d : DataW H} {ps : List MemPlace}
theorem liR_of (l : List (List Int)) : LiR l (.vsl false (l.map fun r => [.vsl false (eIs r)])) := .inr ⟨false, _, rfl, by simp, fun j hj => ⟨.vsl false (eIs l[j]), by simp [hj], .inr ⟨false, rfl⟩⟩⟩
theorem tr_rows (h : Tr enc Try.prog w n 22 cs d ps) : ∃ l : List (List Int), Cs w cs [.vsl false (l.map fun r => [.vsl false (eIs r)])] ∧ l.length ≤ maxLen := by
  obtain ⟨xs, g, _, hx⟩ := tr_slice (X := List Int) (en := fun r => [.vsl false (eIs r)]) Try.underlying22 (by rw [cInts]; omega)
    (fun k cs d ps hk hh => by obtain ⟨l, a, _, _⟩ := tr_ints hh; exact ⟨l, a⟩) h
  exact ⟨xs, g, hx⟩
end Go.Proofs.Ytkgndbhflehhhaa
namespace Go.Proofs.Ytkgndbhflehhhaa
open Go.ChangeShapes Go.WideShapes Go.ChangeAt Go.RowKit Ai
set_option linter.unusedVariables false
set_option linter.unusedSimpArgs false
set_option maxRecDepth 100000

theorem cAct : Try.prog.cellsOf 55 = 2 := by kernel_rfl
theorem cKind : Try.prog.cellsOf 53 = 1 := by kernel_rfl
theorem cCell : Try.prog.cellsOf 52 = 1 := by kernel_rfl
theorem cARow : Try.prog.cellsOf 56 = 1 := by kernel_rfl
theorem cARows : Try.prog.cellsOf 33 = 1 := by kernel_rfl
theorem cRows : Try.prog.cellsOf 22 = 1 := by kernel_rfl
theorem cTable : Try.prog.cellsOf 35 = 2 := by kernel_rfl
section
variable {H : Type} {enc : TypeId × Value → H} {w : World} {n : Nat} {cs : List Value} {d : DataW H} {ps : List MemPlace}
theorem tr_act (h : Tr enc Try.prog w n 55 cs d ps) : ∃ a : Int × Int, Cs w cs (eAct a) := by
  obtain ⟨m, rfl, hl, hf⟩ := tr_struct Try.underlying55 h
  rw [cAct] at hl
  obtain ⟨a0, a1, rfl⟩ : ∃ a0 a1, cs = [a0, a1] := by
    match cs, hl with
    | [a, b], _ => exact ⟨a, b, rfl⟩
  obtain ⟨d0, p0, h0⟩ := hf 0 _ rfl
  obtain ⟨d1, p1, h1⟩ := hf 1 _ rfl
  replace h0 : Tr enc Try.prog w m 53 (([a0, a1].drop 0).take (Try.prog.cellsOf 53)) d0 p0 := h0
  replace h1 : Tr enc Try.prog w m 3 (([a0, a1].drop 1).take (Try.prog.cellsOf 3)) d1 p1 := h1
  rw [cKind] at h0
  rw [cInt] at h1
  obtain ⟨x, _, _, g0⟩ := tr_int Try.underlying53 h0
  obtain ⟨y, _, _, g1⟩ := tr_int Try.underlying3 h1
  refine ⟨(x, y), ?_⟩
  have := g0.append g1
  simpa [eAct] using this
theorem tr_cell (h : Tr enc Try.prog w n 52 cs d ps) : ∃ l : List (Int × Int), Cs w cs [.vsl false (l.map eAct)] := by
  obtain ⟨xs, g, _, _⟩ := tr_slice (X := Int × Int) (en := eAct) Try.underlying52 (by rw [cAct]; omega) (fun k cs d ps hk hh => tr_act hh) h
  exact ⟨xs, g⟩
def eCell (l : List (Int × Int)) : List AV := [.vsl false (l.map eAct)]
def eARow (l : List (List (Int × Int))) : List AV := [.vsl false (l.map eCell)]
theorem tr_arow (h : Tr enc Try.prog w n 56 cs d ps) : ∃ l : List (List (Int × Int)), Cs w cs (eARow l) ∧ l.length ≤ maxLen := by
  obtain ⟨xs, g, _, hx⟩ := tr_slice (X := List (Int × Int)) (en := eCell) Try.underlying56 (by rw [cCell]; omega) (fun k cs d ps hk hh => tr_cell hh) h
  exact ⟨xs, g, hx⟩
theorem tr_arows (h : Tr enc Try.prog w n 33 cs d ps) : ∃ l : List (List (List (Int × Int))), Cs w cs [.vsl false (l.map eARow)] ∧ l.length ≤ maxLen ∧ ∀ r ∈ l, r.length ≤ maxLen := by
  obtain ⟨xs, g, _, hx⟩ := tr_slice (X := {r : List (List (Int × Int)) // r.length ≤ maxLen}) (en := fun r => eARow r.1) Try.underlying33 (by rw [cARow]; omega) (fun k cs d ps hk hh => by obtain ⟨l, a, b⟩ := tr_arow hh; exact ⟨⟨l, b⟩, a⟩) h
  refine ⟨xs.map (·.1), ?_, by simpa using hx, fun r hr => ?_⟩
  · rw [List.map_map]; exact g
  · obtain ⟨x, _, rfl⟩ := List.mem_map.1 hr
    exact x.2
theorem liA_of (l : List (Int × Int)) : LiA l (.vsl false (l.map eAct)) := .inr ⟨false, rfl⟩
theorem liAR_of (l : List (List (Int × Int))) : LiG LiA l (.vsl false (l.map eCell)) := .inr ⟨false, _, rfl, by simp, fun j hj => ⟨.vsl false (l[j].map eAct), by simp [hj, eCell], liA_of _⟩⟩
theorem liAS_of (l : List (List (List (Int × Int)))) : LiG (LiG LiA) l (.vsl false (l.map eARow)) := .inr ⟨false, _, rfl, by simp, fun j hj => ⟨.vsl false (l[j].map eCell), by simp [hj, eARow], liAR_of _⟩⟩
theorem tr_table (h : Tr enc Try.prog w n 35 cs d ps) : ∃ t : TabD, Cs w cs [.vsl false (t.acts.map eARow), .vsl false (t.gotos.map fun r => [.vsl false (eIs r)])] ∧ t.acts.length ≤ maxLen ∧ t.gotos.length ≤ maxLen ∧ ∀ r ∈ t.acts, r.length ≤ maxLen := by
  obtain ⟨m, rfl, hl, hf⟩ := tr_struct Try.underlying35 h
  rw [cTable] at hl
  obtain ⟨a0, a1, rfl⟩ : ∃ a0 a1, cs = [a0, a1] := by
    match cs, hl with
    | [a, b], _ => exact ⟨a, b, rfl⟩
  obtain ⟨d0, p0, h0⟩ := hf 0 _ rfl
  obtain ⟨d1, p1, h1⟩ := hf 1 _ rfl
  replace h0 : Tr enc Try.prog w m 33 (([a0, a1].drop 0).take (Try.prog.cellsOf 33)) d0 p0 := h0
  replace h1 : Tr enc Try.prog w m 22 (([a0, a1].drop 1).take (Try.prog.cellsOf 22)) d1 p1 := h1
  rw [cARows] at h0
  rw [cRows] at h1
  obtain ⟨x, g0, b0, c0⟩ := tr_arows h0
  obtain ⟨y, g1, b1⟩ := tr_rows h1
  refine ⟨⟨x, y⟩, ?_, b0, b1, c0⟩
  have := g0.append g1
  simpa using this
/-- A table among the arguments. -/
theorem open_table {base : Nat} {v : Value} (hv : Value.okWide Try.prog w .any base 35 v) (h : DataW.Trod enc Try.prog w 0 (fun _ => true) true 35 v d ps) :
    ∃ (t : TabD) (av gv : AV), LiG (LiG LiA) t.acts av ∧ LiR t.gotos gv ∧ t.acts.length ≤ maxLen ∧ t.gotos.length ≤ maxLen ∧ (∀ r ∈ t.acts, r.length ≤ maxLen) ∧ PRep (fun _ => True) w v (.agg [av, gv]) := by
  obtain ⟨n, h⟩ := h
  unfold Value.okWide at hv
  rw [Try.underlying35] at hv
  obtain ⟨cs, rfl, _, _⟩ := hv
  obtain ⟨t, hc, b0, b1, c0⟩ := tr_table h
  exact ⟨t, _, _, liAS_of _, liR_of _, b0, b1, c0, agg_of rfl hc⟩
end
end Go.Proofs.Ytkgndbhflehhhaa
