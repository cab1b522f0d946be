/- pack.Lay as a call; r32_SameComb; l32_fewRows. -/
import Derived.Test.YtkgndbhflehhhaaqPmv
import Derived.Test.YtkgndbhflehhhaaqPk2
namespace Go.Proofs.Ytkgndbhflehhhaa.Ai
open Go Go.Proofs
set_option linter.unusedVariables false
set_option linter.unusedSimpArgs false
set_option maxRecDepth 10000
set_option maxHeartbeats 4000000

/-- The table of rows. -/
def layT (rows : List (List Int)) : RowT :=
  ⟨(distD rows).2, (layD (distD rows).1 (orderD (distD rows).1)).1, (layD (distD rows).1 (orderD (distD rows).1)).2.1, (layD (distD rows).1 (orderD (distD rows).1)).2.2⟩

theorem mapO_eIs {h : AHeap} {d : Nat} : ∀ l : List Int, ∃ q, mapO (mapO (freeze h (d + 1))) (eIs l) = some q ∧ q.map (·.map (·.1)) = eIs l := by
  intro l
  induction l with
  | nil => exact ⟨[], rfl, rfl⟩
  | cons a l ih =>
    obtain ⟨q, e1, e2⟩ := ih
    have e3 : mapO (freeze h (d + 1)) [.int .i64 a] = some [(.int .i64 a, true)] := rfl
    have e4 : eIs (a :: l) = [.int .i64 a] :: eIs l := rfl
    exact ⟨[(.int .i64 a, true)] :: q, by rw [e4]; simp only [mapO] at e3 ⊢; simp only [e3,e1], by rw [e4]; simp [e2]⟩
theorem fzH {l : List Int} {i n : Nat} {h : AHeap} {cc : Option Nat} {tl : List (List AV)} {b : Bool} (hi : h[i]? = some (.arr 0 1 b (eIs l ++ tl))) (hn : n = l.length) (d : Nat) : ∃ x c, freeze h (d + 2) (.hsl i 0 0 n cc) = some (x, c) ∧ Li l x := by
  subst hn
  obtain ⟨q, e1, e2⟩ := mapO_eIs (h := h) (d := d) l
  have tk : (eIs l ++ tl).take l.length = eIs l := List.take_left' (Zep l)
  have := freeze_hslG (d := d + 1) (n := l.length) (cc := cc) (q := q) hi (by rw [List.length_append, Zep]; omega) (by rw [tk]; exact e1)
  exact ⟨_, false, this, .inr ⟨false, by rw [e2]⟩⟩
theorem fzG {l : List Int} {w : AV} {h : AHeap} {q : Option Nat} (ho : GrowV l w h q) (d : Nat) : ∃ x c, freeze h (d + 2) w = some (x, c) ∧ Li l x := by
  rcases ho with ⟨h1, h2, _⟩ | ⟨i, c, _, h2, h3, h4⟩
  · subst h2; exact ⟨.nilS, true, rfl, .inl ⟨h1, rfl⟩⟩
  · subst h2; exact fzH h4 rfl d

theorem f_Lay {rows : List (List Int)} {v : AV} (hv : LiR rows v) (hn : rows.length ≤ 1000000) (M : Nat) (hM : ∀ r ∈ rows, r.length ≤ M) (hM1 : M ≤ 1000000) (hM2 : rows.length * M + M ≤ 9000000) : ∃ cs, RT (layT rows) cs ∧ ∀ H, lim G0.cfg (.func 13) [v] H = some (.agg cs, H) := by
  obtain ⟨ord, h, rv, vv, kv, Lb, q1, qv, qk, ho, run, o1, eb, lb, gv, gk⟩ := run_Lay hv hn M hM hM1 hM2
  rw [ho.eq] at eb lb gv gk
  obtain ⟨x1, c1, f1, g1⟩ := fzI o1 997
  have eb' : h[Lb]? = some (.arr 0 1 true (eIs (layD (distD rows).1 (orderD (distD rows).1)).1 ++ [])) := by rw [List.append_nil]; exact eb
  obtain ⟨x2, c2, f2, g2⟩ := fzH (n := (distD rows).1.length) (cc := none) eb' lb.symm 997
  obtain ⟨x3, c3, f3, g3⟩ := fzG gv 997
  obtain ⟨x4, c4, f4, g4⟩ := fzG gk 997
  have fz : freeze h 1000 (.agg [rv, .hsl Lb 0 0 (distD rows).1.length none, vv, kv]) = some (.agg [x1, x2, x3, x4], ([(x1, c1), (x2, c2), (x3, c3), (x4, c4)] : List (AV × Bool)).all (·.2)) := by
    have : freeze h 1000 (.agg [rv, .hsl Lb 0 0 (distD rows).1.length none, vv, kv]) = (mapO (freeze h 999) [rv, .hsl Lb 0 0 (distD rows).1.length none, vv, kv]).map fun l => (.agg (l.map (·.1)), l.all (·.2)) := rfl
    rw [this]
    have m : mapO (freeze h 999) [rv, .hsl Lb 0 0 (distD rows).1.length none, vv, kv] = some [(x1, c1), (x2, c2), (x3, c3), (x4, c4)] := by simp only [mapO,f1,f2,f3,f4]
    rw [m]
    rfl
  exact ⟨[x1, x2, x3, x4], ⟨x1, x2, x3, x4, rfl, g1, g2, g3, g4⟩, fun H => lim_fz rfl rfl P_pack_Lay 9000001 (fz_1 (hv.fz H 999)) run fz rfl⟩

end Go.Proofs.Ytkgndbhflehhhaa.Ai
namespace Go.Proofs.Ytkgndbhflehhhaa.Ai
open Go Go.Proofs
set_option linter.unusedVariables false
set_option linter.unusedSimpArgs false
set_option maxRecDepth 10000
set_option maxHeartbeats 4000000

section
variable {v0 v1 w2 w3 w6 w7 w8 : AV}
end
end Go.Proofs.Ytkgndbhflehhhaa.Ai
namespace Go.Proofs.Ytkgndbhflehhhaa.Ai
open Go Go.Proofs
set_option linter.unusedVariables false
set_option linter.unusedSimpArgs false
set_option maxRecDepth 10000
set_option maxHeartbeats 4000000

section
variable {v0 v1 vv kv w2 w3 w6 w7 rv : AV} {h : AHeap} {chk row : List Int} {qk : Option Nat}
end
end Go.Proofs.Ytkgndbhflehhhaa.Ai
namespace Go.Proofs.Ytkgndbhflehhhaa.Ai
open Go Go.Proofs
set_option linter.unusedVariables false
set_option linter.unusedSimpArgs false
set_option maxRecDepth 10000
set_option maxHeartbeats 4000000

section
variable {v0 v1 w2 w3 rx rv : AV} {row ord : List Int}
end
end Go.Proofs.Ytkgndbhflehhhaa.Ai
namespace Go.Proofs.Ytkgndbhflehhhaa.Ai
open Go Go.Proofs
set_option linter.unusedVariables false
set_option linter.unusedSimpArgs false
set_option maxRecDepth 10000
set_option maxHeartbeats 4000000

section
variable {own : List (List Int)} {ord : List Int} {v0 bv w2 ox rx : AV}
end
end Go.Proofs.Ytkgndbhflehhhaa.Ai
namespace Go.Proofs.Ytkgndbhflehhhaa.Ai
open Go Go.Proofs
set_option linter.unusedVariables false
set_option linter.unusedSimpArgs false
set_option maxRecDepth 10000
set_option maxHeartbeats 4000000

end Go.Proofs.Ytkgndbhflehhhaa.Ai
