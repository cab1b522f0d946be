/- Maps of the abstract memory as lists of pairs. -/
import Derived.Test.YtkimloceaihplaapAi27
namespace Go.Proofs.Ytkimloceaihplaa.Ai
open Go
set_option linter.unusedVariables false
set_option linter.unusedSimpArgs false

section
variable {K V : Type} [DecidableEq K] (q : Sc) (kf : K → AV) (vf : V → AV)

/-- Keys that are compared as they should be. -/
def KeyFit : Prop := (∀ a b, aeq1 q (kf a) (kf b) = some (decide (a = b))) ∧ ∀ a, keyOk q (kf a) = true
theorem keyFit_int : KeyFit .int (AV.int .i64) := ⟨fun a b => by simp only [aeq1,if_true,beq_dec], fun a => rfl⟩
theorem keyFit_str : KeyFit .str AV.str := ⟨fun a b => by simp only [aeq1,beq_dec], fun a => rfl⟩

def mE (L : List (K × V)) : List (AV × AV) := L.map fun p => (kf p.1, vf p.2)
def mFind (k : K) : List (K × V) → Nat → Option (Nat × V)
  | [], _ => none
  | p :: L, j => if k = p.1 then some (j, p.2) else mFind k L (j + 1)
def mGet (L : List (K × V)) (k : K) : Option V := (mFind k L 0).map (·.2)
def mPut : List (K × V) → K → V → List (K × V)
  | [], k, v => [(k, v)]
  | p :: L, k, v => if k = p.1 then (k, v) :: L else p :: mPut L k v

theorem afind_mE (hk : KeyFit q kf) (k : K) : ∀ (L : List (K × V)) (j : Nat), afind q (kf k) (mE kf vf L) j = some ((mFind k L j).map fun p => (p.1, vf p.2))
  | [], j => rfl
  | p :: L, j => by
    simp only [mE,List.map_cons,afind,hk.1,mFind]
    by_cases h : k = p.1
    · simp [h]
    · simp only [h,decide_false,if_false]
      exact afind_mE hk k L (j + 1)

theorem mFind_shift (k : K) : ∀ (L : List (K × V)) (j : Nat), mFind k L (j + 1) = (mFind k L j).map fun p => (p.1 + 1, p.2)
  | [], j => rfl
  | p :: L, j => by
    simp only [mFind]
    by_cases h : k = p.1
    · simp [h]
    · simp only [h,if_false]; exact mFind_shift k L (j + 1)

theorem updMap_mE (k : K) (v : V) : ∀ (L : List (K × V)), updMap (mE kf vf L) (kf k) (vf v) ((mFind k L 0).map fun p => (p.1, vf p.2)) = mE kf vf (mPut L k v)
  | [] => rfl
  | p :: L => by
    simp only [mFind,mPut]
    by_cases h : k = p.1
    · simp [h, updMap, mE]
    · simp only [h,if_false,mFind_shift k L 0]
      have := updMap_mE k v L
      cases hf : mFind k L 0 with
      | none => rw [hf] at this; simp only [Option.map_none,updMap] at this ⊢; simp only [mE,List.map_cons,List.cons_append] at this ⊢; rw [this]
      | some x => rw [hf] at this; simp only [Option.map_some,updMap] at this ⊢; simp only [mE,List.map_cons,List.set_cons_succ] at this ⊢; rw [this]

theorem mFind_put (k k' : K) (v : V) : ∀ (L : List (K × V)) (j j' : Nat), (mFind k' (mPut L k v) j).map (·.2) = if k' = k then some v else (mFind k' L j').map (·.2)
  | [], j, j' => by
    simp only [mPut,mFind]
    by_cases h : k' = k <;> simp [h]
  | p :: L, j, j' => by
    simp only [mPut]
    by_cases h : k = p.1
    · simp only [h,if_true,mFind]
      by_cases h2 : k' = p.1
      · simp [h2]
      · simp only [h2,if_false]
        have : ∀ (L : List (K × V)) (j j' : Nat), (mFind k' L j).map (·.2) = (mFind k' L j').map (·.2) := by
          intro L
          induction L with
          | nil => intro j j'; rfl
          | cons q L ih =>
            intro j j'
            simp only [mFind]
            by_cases h3 : k' = q.1
            · simp [h3]
            · simp only [h3,if_false]; exact ih _ _
        exact this L _ _
    · simp only [h,if_false,mFind]
      by_cases h2 : k' = p.1
      · have h3 : ¬ k' = k := fun e => h (e ▸ h2)
        simp [h2]
        intro e; exact absurd e.symm (h2 ▸ fun e => h (h2 ▸ e))
      · simp only [h2,if_false]
        exact mFind_put k k' v L (j + 1) (j' + 1)

theorem mGet_put (L : List (K × V)) (k k' : K) (v : V) : mGet (mPut L k v) k' = if k' = k then some v else mGet L k' := mFind_put k k' v L 0 0
theorem mGet_nil (k : K) : mGet ([] : List (K × V)) k = none := rfl

theorem mPut_keys (k : K) (v : V) : ∀ (L : List (K × V)), (mPut L k v).map (·.1) = if k ∈ L.map (·.1) then L.map (·.1) else L.map (·.1) ++ [k]
  | [] => by simp [mPut]
  | p :: L => by
    simp only [mPut]
    by_cases h : k = p.1
    · simp [h]
    · simp only [h,if_false,List.map_cons,mPut_keys k v L,List.mem_cons,false_or]
      by_cases h2 : k ∈ L.map (·.1)
      · simp [h2]
      · simp only [h2,if_false,List.cons_append]

theorem alook_mE (hk : KeyFit q kf) {h : AHeap} {i : Nat} {L : List (K × V)} (hi : h[i]? = some (.map (mE kf vf L))) (z : AV) (k : K) : alook h q z false (.map i) (kf k) = some (((mGet L k).map vf).getD z) := by
  simp only [alook,getMap,hi,hk.2,if_true,afind_mE q kf vf hk,Option.map_some,mGet]
  cases mFind k L 0 <;> rfl
theorem alook_mE2 (hk : KeyFit q kf) {h : AHeap} {i : Nat} {L : List (K × V)} (hi : h[i]? = some (.map (mE kf vf L))) (z : AV) (k : K) : alook h q z true (.map i) (kf k) = some (.tup [((mGet L k).map vf).getD z, .bool (mGet L k).isSome]) := by
  simp only [alook,getMap,hi,hk.2,if_true,afind_mE q kf vf hk,Option.map_some,mGet]
  cases mFind k L 0 <;> rfl
theorem amapUpd_mE (hk : KeyFit q kf) {h : AHeap} {i : Nat} {L : List (K × V)} (hi : h[i]? = some (.map (mE kf vf L))) (k : K) (v : V) : amapUpd h q (.map i) (kf k) (vf v) = some (h.set i (.map (mE kf vf (mPut L k v)))) := by
  simp only [amapUpd,hi,hk.2,if_true,afind_mE q kf vf hk,Option.map_some,updMap_mE]
end
theorem alen_mE {K V : Type} (kf : K → AV) (vf : V → AV) {h : AHeap} {i : Nat} {L : List (K × V)} (hi : h[i]? = some (.map (mE kf vf L))) : alen h .map (.map i) = some (.int .i64 L.length) := by
  simp [alen, getMap, hi, mE]

/-- The elements of a list, each once, in the order of their first coming. -/
def dk {K : Type} [DecidableEq K] : List K → List K → List K
  | acc, [] => acc
  | acc, x :: l => dk (if x ∈ acc then acc else acc ++ [x]) l
theorem dk_len {K : Type} [DecidableEq K] : ∀ (l acc : List K), (dk acc l).length ≤ acc.length + l.length ∧ ((dk acc l).length = acc.length + l.length ↔ l.Nodup ∧ ∀ x ∈ l, x ∉ acc)
  | [], acc => by simp [dk]
  | x :: l, acc => by
    simp only [dk]
    by_cases h : x ∈ acc
    · rw [if_pos h]
      obtain ⟨h1, h2⟩ := dk_len l acc
      refine ⟨by simp; omega, ?_⟩
      constructor
      · intro e; simp at e; omega
      · rintro ⟨_, e⟩; exact absurd h (e x (List.mem_cons_self ..))
    · rw [if_neg h]
      obtain ⟨h1, h2⟩ := dk_len l (acc ++ [x])
      rw [List.length_append, List.length_singleton] at h1 h2
      refine ⟨by simp; omega, ?_⟩
      have e : (dk (acc ++ [x]) l).length = acc.length + (x :: l).length ↔ (dk (acc ++ [x]) l).length = acc.length + 1 + l.length := by simp; omega
      rw [e, h2, List.nodup_cons]
      constructor
      · rintro ⟨a, b⟩
        refine ⟨⟨fun hx => (b x hx) (by simp), a⟩, fun y hy => ?_⟩
        rcases List.mem_cons.1 hy with rfl | hy
        · exact h
        · exact fun hm => b y hy (by simp [hm])
      · rintro ⟨⟨a, b⟩, c⟩
        refine ⟨b, fun y hy hm => ?_⟩
        rcases List.mem_append.1 hm with hm | hm
        · exact c y (List.mem_cons_of_mem _ hy) hm
        · simp at hm; subst hm; exact a hy
theorem dk_lt {K : Type} [DecidableEq K] (l : List K) : decide ((dk [] l).length < l.length) = !decide l.Nodup := by
  obtain ⟨h1, h2⟩ := dk_len l []
  simp at h1 h2
  by_cases h : l.Nodup
  · have := h2.2 h
    simp [h]; omega
  · have : (dk [] l).length ≠ l.length := fun e => h (h2.1 e)
    simp [h]; omega
end Go.Proofs.Ytkimloceaihplaa.Ai
