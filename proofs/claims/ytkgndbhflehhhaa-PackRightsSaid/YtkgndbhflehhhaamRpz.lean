/- Readings of arguments, their weights kept. -/
import Derived.Test.YtkgndbhflehhhaamAi27
import Derived.SizedLaws
import Derived.Test.YtkgndbhflehhhaamPk1
import Derived.Test.YtkgndbhflehhhaaRows
import Derived.ProofKit
import Derived.WalkKit
import Derived.Test.YtkgndbhflehhhaamPlv
import Derived.Test.YtkgndbhflehhhaamPqz
import Derived.Test.YtkgndbhflehhhaamPqv
namespace Go.Proofs.Ytkgndbhflehhhaa.Ai
open Go
set_option linter.unusedVariables false
set_option linter.unusedSimpArgs false
section
variable {H : Type} {enc : TypeId × Value → H} {P : Program} {w : World} {n : Nat} {t : TypeId} {cs : List Value} {d : DataW H} {ps : List MemPlace}
end
end Go.Proofs.Ytkgndbhflehhhaa.Ai
namespace Go.Proofs.Ytkgndbhflehhhaa.Ai
def inI64 (n : Int) : Prop := -9223372036854775808 ≤ n ∧ n ≤ 9223372036854775807
end Go.Proofs.Ytkgndbhflehhhaa.Ai
namespace Go.Proofs.Ytkgndbhflehhhaa
open Go.ChangeShapes Go.WideShapes Go.ChangeAt Go.RowKit Ai
set_option linter.unusedVariables false
set_option linter.unusedSimpArgs false
set_option maxRecDepth 100000
theorem own0 : ownKnob Try.prog.godebug = none := by kernel_rfl
theorem laid0 : laidOutB Try.prog = true := by kernel_rfl
theorem cInt : Try.prog.cellsOf 3 = 1 := by kernel_rfl
theorem cInts : Try.prog.cellsOf 26 = 1 := by kernel_rfl
theorem cRowT : Try.prog.cellsOf 28 = 4 := by kernel_rfl
theorem post_below {H : Type} {enc : TypeId × Value → H} {P : Program} {f : Func} {s : ChangeSpec} {apart fresh handsOn : Bool} {W W' : World} {args : Array Value} {v : Value} {ds gs : List (DataW H)} {before pa pv : List MemPlace}
  (hW : DataW.Whole enc P f.params.toList s.vars apart W args.toList ds gs before) (hb : Below W.heap.size W W')
  (hres : ∀ (b : Nat) (sp : Nat → Bool) (hd : Bool), DataW.TrodAll enc P W' b sp hd f.resultTypes.toList (v.resultList f.resultTypes.size) (s.fn H (ds ++ gs)).results [])
  (hargs : DataW.TrodAll enc P W' 0 (fun b => decide (b < W.heap.size)) true f.params.toList args.toList (s.fn H (ds ++ gs)).args pa)
  (hvars : DataW.TrodVars enc P W' (fun b => decide (b < W.heap.size)) s.vars (s.fn H (ds ++ gs)).vars pv) (hps : before = pa ++ pv) : s.post enc P f apart fresh handsOn false W args v W' := by
 refine ⟨ds, gs, before, [], pa, pv, hW, hres _ _ _, hargs, hvars, World.keptBut_mono (fun p hp => ⟨hp, ?_⟩) (Below.frame hb (· ∈ before)), fun h => by cases h⟩
 rw [hps, List.mem_append] at hp
 exact Or.inr hp
section
variable {H : Type} {enc : TypeId × Value → H} {w : World} {n : Nat} {cs : List Value} {d : DataW H} {ps : List MemPlace}
theorem wf64 {k : IntKind} {i : Int} (hk : k = .i64) (h : (Lit.int k i).wf = true) : inI64 i := by
 subst hk
 simp only [Lit.wf,Bool.and_eq_true,decide_eq_true_eq] at h
 exact h
theorem agg_of {v : Value} {l : List AV} {cs : Array Value} (hv : v = .agg cs) (hc : Cs w v.cells.toList l) : PRep (fun _ => True) w v (.agg l) := by
 subst hv
 have hcs : Value.cells (.agg cs) = cs := rfl
 rw [hcs] at hc
 have hc' : PReps (fun _ => True) w cs l := by
  unfold Cs at hc
  simpa using hc
 exact .agg cs _ hc'.1 hc'.2
theorem tr_ints (h : Tr enc Try.prog w n 26 cs d ps) : ∃ l : List Int, Cs w cs [.vsl false (eIs l)] ∧ l.length ≤ maxLen ∧ ∀ s ∈ l, inI64 s := by
 obtain ⟨xs, g, _, hx⟩ := tr_slice (X := {s : Int // inI64 s}) (en := fun x => eI x.1) Try.underlying26 (by rw [cInt]; omega)
  (fun k cs d ps hk hh => by obtain ⟨s, _, b, a⟩ := tr_int Try.underlying3 hh; exact ⟨⟨s, wf64 rfl b⟩, a⟩) h
 refine ⟨xs.map (·.1), ?_, by simpa using hx, fun s hs => ?_⟩
 ·have : eIs (xs.map (·.1)) = xs.map fun x => eI x.1 := by simp [eIs]
  rw [this]; exact g
 ·obtain ⟨x, _, rfl⟩ := List.mem_map.1 hs
  exact x.2
end
end Go.Proofs.Ytkgndbhflehhhaa
namespace Go.Proofs.Ytkgndbhflehhhaa
open Go.ChangeShapes Go.WideShapes Go.ChangeAt Go.RowKit Ai
set_option linter.unusedVariables false
set_option linter.unusedSimpArgs false
set_option maxRecDepth 100000
variable {H : Type} {enc : TypeId × Value → H} {w : World} {n : Nat} {cs : List Value} {d : DataW H} {ps : List MemPlace}
end Go.Proofs.Ytkgndbhflehhhaa
namespace Go.Proofs.Ytkgndbhflehhhaa
open Go.ChangeShapes Go.WideShapes Go.ChangeAt Go.RowKit Ai
set_option linter.unusedVariables false
set_option linter.unusedSimpArgs false
set_option maxRecDepth 100000
section
variable {H : Type} {enc : TypeId × Value → H} {w : World} {n : Nat} {cs : List Value} {d : DataW H} {ps : List MemPlace}
end
end Go.Proofs.Ytkgndbhflehhhaa
namespace Go.Proofs.Ytkgndbhflehhhaa
open Go.ChangeShapes Go.WideShapes Go.ChangeAt Go.RowKit Ai
set_option linter.unusedVariables false
set_option linter.unusedSimpArgs false
set_option maxRecDepth 100000
theorem cPacked : Try.prog.cellsOf 38 = 10 := by kernel_rfl
section
variable {H : Type} {enc : TypeId × Value → H} {w : World} {n : Nat} {cs : List Value} {d : DataW H} {ps : List MemPlace}
def eRowT (c : RowT) : List AV := [.vsl false (eIs c.row), .vsl false (eIs c.base), .vsl false (eIs c.val), .vsl false (eIs c.own)]
theorem rt_of (c : RowT) : RT c (eRowT c) := ⟨_, _, _, _, rfl, li_vsl _ _, li_vsl _ _, li_vsl _ _, li_vsl _ _⟩
theorem tr_rowT2 (h : Tr enc Try.prog w n 28 cs d ps) : ∃ c : RowT, Cs w cs (eRowT c) ∧ (∀ n ∈ c.base, inI64 n) ∧ ∀ n ∈ c.val, inI64 n := by
 obtain ⟨m, rfl, hl, hf⟩ := tr_struct Try.underlying28 h
 rw [cRowT] at hl
 obtain ⟨a0, a1, a2, a3, rfl⟩ : ∃ a0 a1 a2 a3, cs = [a0, a1, a2, a3] := by
  match cs, hl with
  | [a, b, c, d], _ => exact ⟨a, b, c, d, rfl⟩
 obtain ⟨d0, p0, h0⟩ := hf 0 _ rfl
 obtain ⟨d1, p1, h1⟩ := hf 1 _ rfl
 obtain ⟨d2, p2, h2⟩ := hf 2 _ rfl
 obtain ⟨d3, p3, h3⟩ := hf 3 _ rfl
 replace h0 : Tr enc Try.prog w m 26 (([a0, a1, a2, a3].drop 0).take (Try.prog.cellsOf 26)) d0 p0 := h0
 replace h1 : Tr enc Try.prog w m 26 (([a0, a1, a2, a3].drop 1).take (Try.prog.cellsOf 26)) d1 p1 := h1
 replace h2 : Tr enc Try.prog w m 26 (([a0, a1, a2, a3].drop 2).take (Try.prog.cellsOf 26)) d2 p2 := h2
 replace h3 : Tr enc Try.prog w m 26 (([a0, a1, a2, a3].drop 3).take (Try.prog.cellsOf 26)) d3 p3 := h3
 rw [cInts] at h0 h1 h2 h3
 obtain ⟨x0, g0, b0, c0⟩ := tr_ints h0
 obtain ⟨x1, g1, b1, c1⟩ := tr_ints h1
 obtain ⟨x2, g2, b2, c2⟩ := tr_ints h2
 obtain ⟨x3, g3, b3, c3⟩ := tr_ints h3
 refine ⟨⟨x0, x1, x2, x3⟩, ?_, c1, c2⟩
 have := ((g0.append g1).append g2).append g3
 simpa [eRowT] using this
theorem tr_packed (h : Tr enc Try.prog w n 38 cs d ps) : ∃ p : PackD, Cs w cs ([.int .i64 p.tms, .int .i64 p.nts] ++ eRowT p.a ++ eRowT p.g) ∧ (∀ n ∈ p.a.base, inI64 n) ∧ (∀ n ∈ p.a.val, inI64 n) ∧ (∀ n ∈ p.g.base, inI64 n) ∧ ∀ n ∈ p.g.val, inI64 n := by
 obtain ⟨m, rfl, hl, hf⟩ := tr_struct Try.underlying38 h
 rw [cPacked] at hl
 obtain ⟨a0, a1, a2, a3, a4, a5, a6, a7, a8, a9, rfl⟩ : ∃ a0 a1 a2 a3 a4 a5 a6 a7 a8 a9, cs = [a0, a1, a2, a3, a4, a5, a6, a7, a8, a9] := by
  match cs, hl with
  | [a, b, c, d, e, f, g, h, i, j], _ => exact ⟨a, b, c, d, e, f, g, h, i, j, rfl⟩
 obtain ⟨d0, p0, h0⟩ := hf 0 _ rfl
 obtain ⟨d1, p1, h1⟩ := hf 1 _ rfl
 obtain ⟨d2, p2, h2⟩ := hf 2 _ rfl
 obtain ⟨d3, p3, h3⟩ := hf 3 _ rfl
 replace h0 : Tr enc Try.prog w m 3 (([a0, a1, a2, a3, a4, a5, a6, a7, a8, a9].drop 0).take (Try.prog.cellsOf 3)) d0 p0 := h0
 replace h1 : Tr enc Try.prog w m 3 (([a0, a1, a2, a3, a4, a5, a6, a7, a8, a9].drop 1).take (Try.prog.cellsOf 3)) d1 p1 := h1
 replace h2 : Tr enc Try.prog w m 28 (([a0, a1, a2, a3, a4, a5, a6, a7, a8, a9].drop 2).take (Try.prog.cellsOf 28)) d2 p2 := h2
 replace h3 : Tr enc Try.prog w m 28 (([a0, a1, a2, a3, a4, a5, a6, a7, a8, a9].drop 6).take (Try.prog.cellsOf 28)) d3 p3 := h3
 rw [cInt] at h0 h1
 rw [cRowT] at h2 h3
 obtain ⟨x, _, _, g0⟩ := tr_int Try.underlying3 h0
 obtain ⟨y, _, _, g1⟩ := tr_int Try.underlying3 h1
 obtain ⟨c, g2, b2, c2⟩ := tr_rowT2 h2
 obtain ⟨e, g3, b3, c3⟩ := tr_rowT2 h3
 refine ⟨⟨x, y, c, e⟩, ?_, b2, c2, b3, c3⟩
 have := ((g0.append g1).append g2).append g3
 simpa using this
theorem open_packed {base : Nat} {v : Value} (hv : Value.okWide Try.prog w .any base 38 v) (h : DataW.Trod enc Try.prog w 0 (fun _ => true) true 38 v d ps) :
  ∃ (p : PackD) (cs : List AV), PackV p cs ∧ (∀ n ∈ p.a.base, inI64 n) ∧ (∀ n ∈ p.a.val, inI64 n) ∧ (∀ n ∈ p.g.base, inI64 n) ∧ (∀ n ∈ p.g.val, inI64 n) ∧ PRep (fun _ => True) w v (.agg cs) := by
 obtain ⟨n, h⟩ := h
 unfold Value.okWide at hv
 rw [Try.underlying38] at hv
 obtain ⟨cs, rfl, _, _⟩ := hv
 obtain ⟨p, hc, b0, b1, b2, b3⟩ := tr_packed h
 exact ⟨p, _, ⟨_, _, rfl, rt_of _, rt_of _⟩, b0, b1, b2, b3, agg_of rfl hc⟩
end
end Go.Proofs.Ytkgndbhflehhhaa
