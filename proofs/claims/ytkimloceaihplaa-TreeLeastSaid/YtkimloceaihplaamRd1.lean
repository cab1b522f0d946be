/- Arguments: trees and grammars, read. -/
import Derived.Test.YtkimloceaihplaamGA
import Derived.Test.YtkimloceaihplaamWg1
import Derived.Test.YtkimloceaihplaaRows
import Derived.ProofKit
import Derived.WalkKit
namespace Go.Proofs.Ytkimloceaihplaa.Ai
open List renaming mem_map → Q0
structure NamesOk (g : GramD) : Prop where
 terms : ∀ s ∈ g.terms, s.length ≤ 140737488351232
 nonterms : ∀ s ∈ g.nonterms, s.length ≤ 140737488351232
end Go.Proofs.Ytkimloceaihplaa.Ai
namespace Go.Proofs.Ytkimloceaihplaa
open Go.ChangeShapes Go.WideShapes Go.ChangeAt Go.RowKit Ai
open List renaming mem_map → Q0
set_option linter.unusedVariables false
set_option linter.unusedSimpArgs false
set_option maxRecDepth 100000
theorem own0 : ownKnob Try.prog.godebug = none := by kernel_rfl
theorem laid0 : laidOutB Try.prog = true := by kernel_rfl
theorem cTree : Try.prog.cellsOf 30 = 3 := by kernel_rfl
theorem cTrees : Try.prog.cellsOf 28 = 1 := by kernel_rfl
theorem cInt : Try.prog.cellsOf 3 = 1 := by kernel_rfl
theorem cStr : Try.prog.cellsOf 9 = 1 := by kernel_rfl
theorem cStrs : Try.prog.cellsOf 22 = 1 := by kernel_rfl
theorem cInts : Try.prog.cellsOf 37 = 1 := by kernel_rfl
theorem cOrigin : Try.prog.cellsOf 96 = 1 := by kernel_rfl
theorem cOrigins : Try.prog.cellsOf 23 = 1 := by kernel_rfl
theorem cAssoc : Try.prog.cellsOf 51 = 1 := by kernel_rfl
theorem cRule : Try.prog.cellsOf 50 = 5 := by kernel_rfl
theorem cRules : Try.prog.cellsOf 24 = 1 := by kernel_rfl
theorem cLevel : Try.prog.cellsOf 53 = 2 := by kernel_rfl
theorem cLevels : Try.prog.cellsOf 25 = 1 := by kernel_rfl
theorem cGram : Try.prog.cellsOf 27 = 5 := by kernel_rfl
theorem post_below {H : Type} {enc : TypeId × Value → H} {P : Program} {f : Func} {s : ChangeSpec} {apart fresh handsOn : Bool} {W W' : World} {args : Array Value} {v : Value} {ds gs : List (DataW H)} {before pa pv : List MemPlace}
  (hW : DataW.Whole enc P f.params.toList s.vars apart W args.toList ds gs before) (hb : Below W.heap.size W W')
  (hres : ∀ (b : Nat) (sp : Nat → Bool) (hd : Bool), DataW.TrodAll enc P W' b sp hd f.resultTypes.toList (v.resultList f.resultTypes.size) (s.fn H (ds ++ gs)).results [])
  (hargs : DataW.TrodAll enc P W' 0 (fun b => decide (b < W.heap.size)) true f.params.toList args.toList (s.fn H (ds ++ gs)).args pa)
  (hvars : DataW.TrodVars enc P W' (fun b => decide (b < W.heap.size)) s.vars (s.fn H (ds ++ gs)).vars pv) (hps : before = pa ++ pv) : s.post enc P f apart fresh handsOn false W args v W' := by
 refine ⟨ds, gs, before, [], pa, pv, hW, hres _ _ _, hargs, hvars, World.keptBut_mono (fun p hp => ⟨hp, ?_⟩) (Below.frame hb (· ∈ before)), fun h => by cases h⟩
 rw [hps, List.mem_append] at hp
 exact Or.inr hp
section
variable {H : Type} {enc : TypeId × Value → H} {w : World} {n : Nat} {cs : List Value} {d : DataW H} {ps : List MemPlace}
theorem wf64 {k : IntKind} {i : Int} (hk : k = .i64) (h : (Lit.int k i).wf = true) : inI64 i := by
 subst hk
 simp only [Lit.wf,Bool.and_eq_true,decide_eq_true_eq] at h
 exact h
theorem tr_tree : ∀ (n : Nat) (cs : List Value) (d : DataW H) (ps : List MemPlace), Tr enc Try.prog w n 30 cs d ps → ∃ x : {t : T // okT t}, Cs w cs (cT x.1) := by
 intro n
 induction n using Nat.strongRecOn with
 | _ n ih =>
  intro cs d ps h
  obtain ⟨m, rfl, hl, hf⟩ := tr_struct Try.underlying30 h
  rw [cTree] at hl
  obtain ⟨a0, a1, a2, rfl⟩ : ∃ a0 a1 a2, cs = [a0, a1, a2] := by
   match cs, hl with
   | [a, b, c], _ => exact ⟨a, b, c, rfl⟩
  obtain ⟨d0, p0, h0⟩ := hf 0 _ rfl
  obtain ⟨d1, p1, h1⟩ := hf 1 _ rfl
  obtain ⟨d2, p2, h2⟩ := hf 2 _ rfl
  replace h0 : Tr enc Try.prog w m 3 (([a0, a1, a2].drop 0).take (Try.prog.cellsOf 3)) d0 p0 := h0
  replace h1 : Tr enc Try.prog w m 3 (([a0, a1, a2].drop 1).take (Try.prog.cellsOf 3)) d1 p1 := h1
  replace h2 : Tr enc Try.prog w m 28 (([a0, a1, a2].drop 2).take (Try.prog.cellsOf 28)) d2 p2 := h2
  rw [cInt] at h0 h1
  rw [cTrees] at h2
  obtain ⟨s, e0, w0, g0⟩ := tr_int Try.underlying3 h0
  obtain ⟨r, e1, w1, g1⟩ := tr_int Try.underlying3 h1
  obtain ⟨xs, g2, _, hx⟩ := tr_slice (X := {t : T // okT t}) (en := fun x => cT x.1) Try.underlying28 (by rw [cTree]; omega) (fun k cs d ps hk hh => ih k (by omega) cs d ps hh) h2
  refine ⟨⟨.node s r (xs.map (·.1)), wf64 rfl w0, wf64 rfl w1, by simpa using hx, okTs_of fun t ht => by obtain ⟨x, _, rfl⟩ := Q0.1 ht; exact x.2⟩, ?_⟩
  have e2 : cTs (xs.map (·.1)) = xs.map fun x => cT x.1 := by rw [cTs_map, List.map_map]; rfl
  simp only [cT,e2]
  have := (g0.append g1).append g2
  simpa using this
theorem agg_of {v : Value} {l : List AV} {cs : Array Value} (hv : v = .agg cs) (hc : Cs w v.cells.toList l) : PRep (fun _ => True) w v (.agg l) := by
 subst hv
 have hcs : Value.cells (.agg cs) = cs := rfl
 rw [hcs] at hc
 have hc' : PReps (fun _ => True) w cs l := by
  unfold Cs at hc
  simpa using hc
 exact .agg cs _ hc'.1 hc'.2
theorem open_tree {base : Nat} {v : Value} (hv : Value.okWide Try.prog w .any base 30 v) (h : DataW.Trod enc Try.prog w 0 (fun _ => true) true 30 v d ps) :
  ∃ t : T, okT t ∧ PRep (fun _ => True) w v (.agg (cT t)) := by
 obtain ⟨n, h⟩ := h
 unfold Value.okWide at hv
 rw [Try.underlying30] at hv
 obtain ⟨cs, rfl, _, _⟩ := hv
 obtain ⟨⟨t, ht⟩, hc⟩ := tr_tree n _ d ps h
 exact ⟨t, ht, agg_of rfl hc⟩
theorem tr_strs (h : Tr enc Try.prog w n 22 cs d ps) (hW : ∀ k ∈ d.weights Try.prog 22, k ≤ reachBytes) : ∃ l : List Str, Cs w cs [.vsl false (eSs l)] ∧ l.length ≤ maxLen ∧ ∀ s ∈ l, s.length ≤ 140737488351232 := by
 obtain ⟨xs, g, _, hx⟩ := tr_slice_w (X := {s : Str // s.length ≤ reachBytes}) (en := fun x => eS x.1) Try.underlying22 (by rw [cStr]; omega)
  (fun k cs d ps hk hh hw => by obtain ⟨s, a, _, b⟩ := tr_str_w Try.underlying9 hh hw; exact ⟨⟨s, b⟩, a⟩) h hW
 refine ⟨xs.map (·.1), ?_, by simpa using hx, fun s hs => ?_⟩
 ·have : eSs (xs.map (·.1)) = xs.map fun x => eS x.1 := by simp [eSs]
  rw [this]; exact g
 ·obtain ⟨x, _, rfl⟩ := Q0.1 hs
  exact x.2
theorem tr_ints (h : Tr enc Try.prog w n 37 cs d ps) : ∃ l : List Int, Cs w cs [.vsl false (eIs l)] ∧ l.length ≤ maxLen ∧ ∀ s ∈ l, inI64 s := by
 obtain ⟨xs, g, _, hx⟩ := tr_slice (X := {s : Int // inI64 s}) (en := fun x => eI x.1) Try.underlying37 (by rw [cInt]; omega)
  (fun k cs d ps hk hh => by obtain ⟨s, _, b, a⟩ := tr_int Try.underlying3 hh; exact ⟨⟨s, wf64 rfl b⟩, a⟩) h
 refine ⟨xs.map (·.1), ?_, by simpa using hx, fun s hs => ?_⟩
 ·have : eIs (xs.map (·.1)) = xs.map fun x => eI x.1 := by simp [eIs]
  rw [this]; exact g
 ·obtain ⟨x, _, rfl⟩ := Q0.1 hs
  exact x.2
theorem tr_origins (h : Tr enc Try.prog w n 23 cs d ps) : ∃ l : List Int, Cs w cs [.vsl false (eIs l)] ∧ l.length ≤ maxLen := by
 obtain ⟨xs, g, _, hx⟩ := tr_slice (X := Int) (en := fun x => eI x) Try.underlying23 (by rw [cOrigin]; omega)
  (fun k cs d ps hk hh => by obtain ⟨s, _, b, a⟩ := tr_int Try.underlying96 hh; exact ⟨s, a⟩) h
 exact ⟨xs, g, hx⟩
theorem tr_rule (h : Tr enc Try.prog w n 50 cs d ps) (hW : ∀ k ∈ d.weights Try.prog 50, k ≤ reachBytes) : ∃ x : {r : RuleD // r.Ok}, Cs w cs (eRule x.1) := by
 obtain ⟨m, rfl, hl, hf⟩ := tr_struct_w Try.underlying50 h hW
 rw [cRule] at hl
 obtain ⟨a0, a1, a2, a3, a4, rfl⟩ : ∃ a0 a1 a2 a3 a4, cs = [a0, a1, a2, a3, a4] := by
  match cs, hl with
  | [a, b, c, d, e], _ => exact ⟨a, b, c, d, e, rfl⟩
 obtain ⟨d0, p0, h0, _⟩ := hf 0 _ rfl
 obtain ⟨d1, p1, h1, _⟩ := hf 1 _ rfl
 obtain ⟨d2, p2, h2, u2⟩ := hf 2 _ rfl
 obtain ⟨d3, p3, h3, u3⟩ := hf 3 _ rfl
 obtain ⟨d4, p4, h4, _⟩ := hf 4 _ rfl
 replace h0 : Tr enc Try.prog w m 3 (([a0, a1, a2, a3, a4].drop 0).take (Try.prog.cellsOf 3)) d0 p0 := h0
 replace h1 : Tr enc Try.prog w m 37 (([a0, a1, a2, a3, a4].drop 1).take (Try.prog.cellsOf 37)) d1 p1 := h1
 replace h2 : Tr enc Try.prog w m 22 (([a0, a1, a2, a3, a4].drop 2).take (Try.prog.cellsOf 22)) d2 p2 := h2
 replace h3 : Tr enc Try.prog w m 9 (([a0, a1, a2, a3, a4].drop 3).take (Try.prog.cellsOf 9)) d3 p3 := h3
 replace h4 : Tr enc Try.prog w m 3 (([a0, a1, a2, a3, a4].drop 4).take (Try.prog.cellsOf 3)) d4 p4 := h4
 rw [cInt] at h0 h4
 rw [cInts] at h1
 rw [cStrs] at h2
 rw [cStr] at h3
 obtain ⟨x0, _, w0, g0⟩ := tr_int Try.underlying3 h0
 obtain ⟨x1, g1, b1, _⟩ := tr_ints h1
 obtain ⟨x2, g2, b2, _⟩ := tr_strs h2 u2
 obtain ⟨x3, g3, _⟩ := tr_str Try.underlying9 h3
 obtain ⟨x4, _, _, g4⟩ := tr_int Try.underlying3 h4
 refine ⟨⟨⟨x0, x1, x2, x3, x4⟩, ⟨b1, b2, wf64 rfl w0⟩⟩, ?_⟩
 have := (((g0.append g1).append g2).append g3).append g4
 simpa using this
theorem tr_level (h : Tr enc Try.prog w n 53 cs d ps) : ∃ x : {r : LevelD // r.terms.length ≤ maxLen}, Cs w cs (eLevel x.1) := by
 obtain ⟨m, rfl, hl, hf⟩ := tr_struct Try.underlying53 h
 rw [cLevel] at hl
 obtain ⟨a0, a1, rfl⟩ : ∃ a0 a1, cs = [a0, a1] := by
  match cs, hl with
  | [a, b], _ => exact ⟨a, b, rfl⟩
 obtain ⟨d0, p0, h0⟩ := hf 0 _ rfl
 obtain ⟨d1, p1, h1⟩ := hf 1 _ rfl
 replace h0 : Tr enc Try.prog w m 51 (([a0, a1].drop 0).take (Try.prog.cellsOf 51)) d0 p0 := h0
 replace h1 : Tr enc Try.prog w m 37 (([a0, a1].drop 1).take (Try.prog.cellsOf 37)) d1 p1 := h1
 rw [cAssoc] at h0
 rw [cInts] at h1
 obtain ⟨x0, _, w0, g0⟩ := tr_int Try.underlying51 h0
 obtain ⟨x1, g1, b1, _⟩ := tr_ints h1
 exact ⟨⟨⟨x0, x1⟩, b1⟩, by simpa using g0.append g1⟩
theorem tr_gram (h : Tr enc Try.prog w n 27 cs d ps) (hW : ∀ k ∈ d.weights Try.prog 27, k ≤ reachBytes) : ∃ g : GramD, g.Ok ∧ NamesOk g ∧ Cs w cs (eGram g) := by
 obtain ⟨m, rfl, hl, hf⟩ := tr_struct_w Try.underlying27 h hW
 rw [cGram] at hl
 obtain ⟨a0, a1, a2, a3, a4, rfl⟩ : ∃ a0 a1 a2 a3 a4, cs = [a0, a1, a2, a3, a4] := by
  match cs, hl with
  | [a, b, c, d, e], _ => exact ⟨a, b, c, d, e, rfl⟩
 obtain ⟨d0, p0, h0, u0⟩ := hf 0 _ rfl
 obtain ⟨d1, p1, h1, u1⟩ := hf 1 _ rfl
 obtain ⟨d2, p2, h2, u2⟩ := hf 2 _ rfl
 obtain ⟨d3, p3, h3, u3⟩ := hf 3 _ rfl
 obtain ⟨d4, p4, h4, u4⟩ := hf 4 _ rfl
 replace h0 : Tr enc Try.prog w m 22 (([a0, a1, a2, a3, a4].drop 0).take (Try.prog.cellsOf 22)) d0 p0 := h0
 replace h1 : Tr enc Try.prog w m 22 (([a0, a1, a2, a3, a4].drop 1).take (Try.prog.cellsOf 22)) d1 p1 := h1
 replace h2 : Tr enc Try.prog w m 23 (([a0, a1, a2, a3, a4].drop 2).take (Try.prog.cellsOf 23)) d2 p2 := h2
 replace h3 : Tr enc Try.prog w m 24 (([a0, a1, a2, a3, a4].drop 3).take (Try.prog.cellsOf 24)) d3 p3 := h3
 replace h4 : Tr enc Try.prog w m 25 (([a0, a1, a2, a3, a4].drop 4).take (Try.prog.cellsOf 25)) d4 p4 := h4
 replace u3 : ∀ k ∈ d3.weights Try.prog 24, k ≤ reachBytes := u3
 rw [cStrs] at h0 h1
 rw [cOrigins] at h2
 rw [cRules] at h3
 rw [cLevels] at h4
 obtain ⟨x0, g0, b0, s0⟩ := tr_strs h0 u0
 obtain ⟨x1, g1, b1, s1⟩ := tr_strs h1 u1
 obtain ⟨x2, g2, b2⟩ := tr_origins h2
 obtain ⟨x3, g3, _, b3⟩ := tr_slice_w (X := {r : RuleD // r.Ok}) (en := fun x => eRule x.1) Try.underlying24 (by rw [cRule]; omega) (fun k cs d ps hk hh hw => tr_rule hh hw) h3 u3
 obtain ⟨x4, g4, _, b4⟩ := tr_slice (X := {r : LevelD // r.terms.length ≤ maxLen}) (en := fun x => eLevel x.1) Try.underlying25 (by rw [cLevel]; omega) (fun k cs d ps hk hh => tr_level hh) h4
 refine ⟨⟨x0, x1, x2, x3.map (·.1), x4.map (·.1)⟩, ⟨b0, b1, b2, by simpa using b3, by simpa using b4, fun r hr => ?_, fun r hr => ?_⟩, ⟨s0, s1⟩, ?_⟩
 ·obtain ⟨x, _, rfl⟩ := Q0.1 hr; exact x.2
 ·obtain ⟨x, _, rfl⟩ := Q0.1 hr; exact x.2
 ·have := (((g0.append g1).append g2).append g3).append g4
  simpa [eGram, List.map_map, Function.comp_def] using this
theorem open_gram {base : Nat} {v : Value} (hv : Value.okWide Try.prog w .any base 27 v) (h : DataW.Trod enc Try.prog w 0 (fun _ => true) true 27 v d ps) (hW : ∀ k ∈ d.weights Try.prog 27, k ≤ reachBytes) :
  ∃ g : GramD, g.Ok ∧ NamesOk g ∧ PRep (fun _ => True) w v (.agg (eGram g)) := by
 obtain ⟨n, h⟩ := h
 unfold Value.okWide at hv
 rw [Try.underlying27] at hv
 obtain ⟨cs, rfl, _, _⟩ := hv
 obtain ⟨g, h1, h2, hc⟩ := tr_gram h hW
 exact ⟨g, h1, h2, agg_of rfl hc⟩
end
end Go.Proofs.Ytkimloceaihplaa
