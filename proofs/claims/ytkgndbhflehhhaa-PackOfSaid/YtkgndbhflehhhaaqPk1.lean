/- Row tables as data; reading an entry. -/
import Derived.Test.YtkgndbhflehhhaaqGz
import Derived.Test.YtkgndbhflehhhaaqFn
namespace Go.Proofs.Ytkgndbhflehhhaa.Ai
open Go Go.Proofs
set_option linter.unusedVariables false
set_option linter.unusedSimpArgs false
set_option maxRecDepth 10000
set_option maxHeartbeats 4000000

/-- A list of numbers, read only. -/
def Li (l : List Int) (v : AV) : Prop := (l = [] ∧ v = .nilS) ∨ ∃ e, v = .vsl e (eIs l)
theorem Li.len {l : List Int} {v : AV} (hl : Li l v) (h : AHeap) : alen h .slice v = some (.int .i64 l.length) := by
  rcases hl with ⟨rfl, rfl⟩ | ⟨e, rfl⟩
  · rfl
  · simp [alen, Zep]
theorem Li.ix {l : List Int} {v : AV} (hl : Li l v) (h : AHeap) (k : IntKind) (j : Nat) (hj : j < l.length) : aindexAddr h 1 v (.int k j) = some (.vptr (eI l[j]) 0) := by
  rcases hl with ⟨rfl, rfl⟩ | ⟨e, rfl⟩
  · simp at hj
  · exact ix_eIs h e l k j hj
theorem Li.fz {l : List Int} {v : AV} (hl : Li l v) (h : AHeap) (d : Nat) : freeze h (d + 1) v = some (v, true) := by
  rcases hl with ⟨rfl, rfl⟩ | ⟨e, rfl⟩ <;> rfl
theorem Li.cell {l : List Int} {v : AV} (hl : Li l v) : cellsOf v = [v] ∧ cellOk v = true := by
  rcases hl with ⟨rfl, rfl⟩ | ⟨e, rfl⟩ <;> exact ⟨rfl, rfl⟩
structure RowT where
  row : List Int
  base : List Int
  val : List Int
  own : List Int
/-- Cells that are a row table, read only. -/
def RT (c : RowT) (cs : List AV) : Prop := ∃ a b v o, cs = [a, b, v, o] ∧ Li c.row a ∧ Li c.base b ∧ Li c.val v ∧ Li c.own o

def atD (c : RowT) (row col : Int) : Int :=
  if row < 0 ∨ (c.row.length : Int) ≤ row ∨ col < 0 then 0 else
  if c.row.getD row.toNat 0 < 0 ∨ (c.base.length : Int) ≤ c.row.getD row.toNat 0 then 0 else
  if c.base.getD (c.row.getD row.toNat 0).toNat 0 + col < 0 ∨ (c.val.length : Int) ≤ c.base.getD (c.row.getD row.toNat 0).toNat 0 + col ∨ (c.own.length : Int) ≤ c.base.getD (c.row.getD row.toNat 0).toNat 0 + col ∨
    c.own.getD (c.base.getD (c.row.getD row.toNat 0).toNat 0 + col).toNat 0 ≠ c.row.getD row.toNat 0 + 1 then 0
  else c.val.getD (c.base.getD (c.row.getD row.toNat 0).toNat 0 + col).toNat 0

theorem fz_RT {c : RowT} {cs : List AV} (hc : RT c cs) (h : AHeap) : freeze h 1000 (.agg cs) = some (.agg cs, true) := by
  obtain ⟨a, b, v, o, rfl, ha, hb, hv, ho⟩ := hc
  have e : freeze h 1000 (.agg [a, b, v, o]) = (mapO (freeze h 999) [a, b, v, o]).map fun l => (.agg (l.map (·.1)), l.all (·.2)) := rfl
  have hm : mapO (freeze h 999) [a, b, v, o] = some [(a, true), (b, true), (v, true), (o, true)] := by
    simp only [mapO,ha.fz h 998,hb.fz h 998,hv.fz h 998,ho.fz h 998]
  rw [e, hm]; rfl

end Go.Proofs.Ytkgndbhflehhhaa.Ai
