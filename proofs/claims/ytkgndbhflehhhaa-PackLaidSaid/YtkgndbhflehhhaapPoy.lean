/- Where rows lie: first fit, plain. -/
import Derived.Test.YtkgndbhflehhhaapPoz
import Derived.Test.YtkgndbhflehhhaapPmw
namespace Go.Proofs.Ytkgndbhflehhhaa.Ai
open Go Go.Proofs
set_option linter.unusedVariables false
set_option linter.unusedSimpArgs false

/-- How long a list gets when a row is placed. -/
def lenP : Nat → List Int → Nat → Nat
  | L, [], _ => L
  | L, x :: r, k => if x = 0 then lenP L r (k + 1) else lenP (max L (k + 1)) r (k + 1)
theorem placeD_lenP : ∀ (row : List Int) (s : List Int × List Int) (k : Nat) (r : Int), s.1.length = s.2.length → (placeD s row k r).2.length = lenP s.2.length row k := by
  intro row
  induction row with
  | nil => intro s k r h; rfl
  | cons x row ih =>
    intro s k r h
    rw [placeD, lenP]
    by_cases z : x = 0
    · rw [if_pos z, if_pos z]; exact ih s (k + 1) r h
    · rw [if_neg z, if_neg z, ih _ (k + 1) r (by simp only [setX_len,h])]
      simp only [setX_len]
theorem lenP_ge : ∀ (row : List Int) (L k : Nat), L ≤ lenP L row k ∧ (∀ j, row.getD j 0 ≠ 0 → k + j < lenP L row k) ∧ lenP L row k ≤ max L (k + row.length) := by
  intro row
  induction row with
  | nil => intro L k; exact ⟨Nat.le_refl _, fun j h => by simp at h, by rw [lenP]; omega⟩
  | cons x row ih =>
    intro L k
    rw [lenP, List.length_cons]
    by_cases z : x = 0
    · rw [if_pos z]
      obtain ⟨h1, h2, h3⟩ := ih L (k + 1)
      refine ⟨h1, fun j hj => ?_, by omega⟩
      cases j with
      | zero => rw [List.getD_cons_zero] at hj; exact absurd z hj
      | succ j => rw [List.getD_cons_succ] at hj; have := h2 j hj; omega
    · rw [if_neg z]
      obtain ⟨h1, h2, h3⟩ := ih (max L (k + 1)) (k + 1)
      refine ⟨by omega, fun j hj => ?_, by omega⟩
      cases j with
      | zero => omega
      | succ j => rw [List.getD_cons_succ] at hj; have := h2 j hj; omega
/-- Whether a row meets another one place lower. -/
def hitD (O : List Int) : List Int → Nat → Bool
  | [], _ => false
  | x :: r, k => (decide (x ≠ 0) && decide (O.getD (k - 1) 0 ≠ 0)) || hitD O r (k + 1)
def anyD (l : List Int) : Bool := l.any fun x => decide (x ≠ 0)
theorem hitD_any (O : List Int) : ∀ (r : List Int) (k : Nat), hitD O r k = true → anyD r = true := by
  intro r
  induction r with
  | nil => intro k h; cases h
  | cons x r ih =>
    intro k h
    rw [hitD] at h
    unfold anyD
    rw [List.any_cons]
    by_cases z : x = 0
    · have : decide (x ≠ 0) = false := by simp [z]
      rw [this, Bool.false_and, Bool.false_or] at h
      have := ih (k + 1) h
      unfold anyD at this
      rw [this, Bool.or_true]
    · have : decide (x ≠ 0) = true := by simp [z]
      rw [this, Bool.true_or]
theorem fits_hit (chk O : List Int) (ho : ∀ p, O.getD p 0 = 0 ↔ chk.getD p 0 = 0) : ∀ (r : List Int) (k : Nat), fitsD chk r k = false → hitD O r (k + 1) = true := by
  intro r
  induction r with
  | nil => intro k h; cases h
  | cons x r ih =>
    intro k h
    rw [fitsD] at h
    rw [hitD]
    by_cases z : x = 0
    · have : decide (x ≠ 0) = false := by simp [z]
      rw [this, Bool.false_and, cond_false] at h
      rw [ih (k + 1) h, Bool.or_true]
    · by_cases c : chk.getD k 0 = 0
      · have : decide (chk.getD k 0 ≠ 0) = false := by simp only [c,ne_eq,not_true_eq_false,decide_false]
        rw [this, Bool.and_false, Bool.and_false, cond_false] at h
        rw [ih (k + 1) h, Bool.or_true]
      · have e1 : decide (x ≠ 0) = true := decide_eq_true z
        have e2 : decide (O.getD (k + 1 - 1) 0 ≠ 0) = true := decide_eq_true (fun e => c ((ho k).1 e))
        rw [e1, e2]; rfl
theorem baseGo_low (chk row : List Int) : ∀ (d k : Nat), k < baseGo chk row d k → fitsD chk row (baseGo chk row d k - 1) = false := by
  intro d
  induction d with
  | zero => intro k h; rw [baseGo] at h; omega
  | succ d ih =>
    intro k h
    rw [baseGo] at h ⊢
    cases b : fitsD chk row k with
    | true => rw [b, cond_true] at h; omega
    | false =>
      rw [b, cond_false] at h
      rw [cond_false]
      by_cases c : k + 1 < baseGo chk row d (k + 1)
      · exact ih (k + 1) c
      · have e : baseGo chk row d (k + 1) - 1 = k := by omega
        rw [e]; exact b
theorem baseD_hit (chk O row : List Int) (ho : ∀ p, O.getD p 0 = 0 ↔ chk.getD p 0 = 0) (h : 0 < baseD chk row) : hitD O row (baseD chk row) = true := by
  have := fits_hit chk O ho row (baseD chk row - 1) (baseGo_low chk row _ 0 h)
  have e : baseD chk row - 1 + 1 = baseD chk row := by omega
  rw [e] at this; exact this
/-- A row is marked. -/
def markD : List Int → List Int → Nat → List Int
  | O, [], _ => O
  | O, x :: r, k => if x = 0 then markD O r (k + 1) else markD (O.set k 1) r (k + 1)
theorem markD_len : ∀ (r O : List Int) (k : Nat), (markD O r k).length = O.length := by
  intro r
  induction r with
  | nil => intro O k; rfl
  | cons x r ih => intro O k; rw [markD]; split <;> rw [ih]; rw [List.length_set]
theorem markD_getD : ∀ (row O : List Int) (k p : Nat), (∀ j, row.getD j 0 ≠ 0 → k + j < O.length) → (markD O row k).getD p 0 = if k ≤ p ∧ row.getD (p - k) 0 ≠ 0 then 1 else O.getD p 0 := by
  intro row
  induction row with
  | nil => intro O k p _; simp [markD]
  | cons x row ih =>
    intro O k p hl
    rw [markD]
    have key : k + 1 ≤ p → (x :: row).getD (p - k) 0 = row.getD (p - (k + 1)) 0 := fun h => by
      have : p - k = (p - (k + 1)) + 1 := by omega
      rw [this, List.getD_cons_succ]
    have hl2 : ∀ j, row.getD j 0 ≠ 0 → k + 1 + j < O.length := fun j hj => by
      have := hl (j + 1) (by rw [List.getD_cons_succ]; exact hj)
      omega
    by_cases z : x = 0
    · rw [if_pos z, ih O (k + 1) p hl2]
      by_cases c : k + 1 ≤ p
      · rw [key c]
        have : k ≤ p := by omega
        simp [c, this]
      · by_cases d : p = k
        · subst d
          have e0 : (x :: row).getD (p - p) 0 = x := by simp
          rw [e0]
          simp [c, z]
        · have : ¬ k ≤ p := by omega
          simp [c, this]
    · have hk := hl 0 (by rw [List.getD_cons_zero]; exact z)
      rw [if_neg z, ih (O.set k 1) (k + 1) p (by rw [List.length_set]; exact hl2), getD_set _ _ _ _ (by omega)]
      by_cases c : k + 1 ≤ p
      · rw [key c]
        have c1 : k ≤ p := by omega
        have c2 : ¬ p = k := by omega
        simp [c, c1, c2]
      · by_cases d : p = k
        · subst d
          have e0 : (x :: row).getD (p - p) 0 = x := by simp
          rw [e0]
          simp [c, z]
        · have : ¬ k ≤ p := by omega
          simp [c, this, d]
/-- A base stays what it was made. -/
theorem base_final (own : List (List Int)) : ∀ (suf : List Int) (s : List Int × List Int × List Int) (a : Int), 0 ≤ a → a ∉ suf → (∀ r ∈ suf, 0 ≤ r ∧ r < s.1.length) → (suf.foldl (layStep own) s).1.getD a.toNat 0 = s.1.getD a.toNat 0 := by
  intro suf
  induction suf with
  | nil => intro s a _ _ _; rfl
  | cons b suf ih =>
    intro s a h0 h1 h2
    have hb := h2 b (by simp)
    rw [List.foldl_cons, ih (layStep own s b) a h0 (fun h => h1 (by simp [h])) (fun r hr => by rw [layStep_len1]; exact h2 r (by simp [hr]))]
    have e1 : (layStep own s b).1 = s.1.set b.toNat ((baseD s.2.2 (own.getD b.toNat []) : Nat) : Int) := rfl
    have : ¬ a = b := fun e => h1 (by simp [e])
    rw [e1, getD_set _ _ _ _ (by omega), if_neg (by omega)]
/-- How marks stand to numbers. -/
structure MarkOk (O chk : List Int) : Prop where
  len : O.length = chk.length
  nil : ∀ p, O.getD p 0 = 0 ↔ chk.getD p 0 = 0
theorem MarkOk.step {O : List Int} {own : List (List Int)} {s : List Int × List Int × List Int} (m : MarkOk O s.2.2) (hs : s.2.1.length = s.2.2.length) {a : Int} (ha : 0 ≤ a) {O1 : List Int} (h1 : ∀ p, O1.getD p 0 = O.getD p 0) (h2 : O1.length = lenP O.length (own.getD a.toNat []) (baseD s.2.2 (own.getD a.toNat []))) :
    MarkOk (markD O1 (own.getD a.toNat []) (baseD s.2.2 (own.getD a.toNat []))) (layStep own s a).2.2 := by
  obtain ⟨k, hk⟩ : ∃ k, k = baseD s.2.2 (own.getD a.toNat []) := ⟨_, rfl⟩
  obtain ⟨row, hrow⟩ : ∃ r, r = own.getD a.toNat [] := ⟨_, rfl⟩
  have e2 : (layStep own s a).2 = placeD s.2 row k (a + 1) := by simp only [layStep, ← hrow]; rw [hk, ← hrow]
  rw [e2, ← hrow, hrow, ← hk, ← hrow]
  rw [← hk, ← hrow] at h2
  refine ⟨?_, fun p => ?_⟩
  · rw [markD_len, h2, placeD_lenP _ _ _ _ hs, m.len]
  · rw [markD_getD _ _ _ _ (by rw [h2]; exact (lenP_ge row _ k).2.1), (placeD_getD row s.2 k (a + 1) p).2, h1]
    by_cases c : k ≤ p ∧ row.getD (p - k) 0 ≠ 0
    · rw [if_pos c, if_pos c]; omega
    · rw [if_neg c, if_neg c]; exact m.nil p
end Go.Proofs.Ytkgndbhflehhhaa.Ai
namespace Go.Proofs.Ytkgndbhflehhhaa.Ai
open Go Go.Proofs
set_option linter.unusedVariables false
set_option linter.unusedSimpArgs false
set_option maxRecDepth 10000
set_option maxHeartbeats 4000000

theorem f_ints {a : List Int} {v w : AV} (ha : Li a v) (hb : Li a w) (hm : a.length ≤ 1000000000) (H : AHeap) : lim G0.cfg (.func 27) [v, w] H = some (.bool true, H) := by
  refine lim_flat rfl rfl P_l32_ints (a.length + 1) (fun h => fz_2 (ha.fz h 999) (hb.fz h 999)) ?_ (fun _ => rfl) H
  have la := ha.len
  have lb := hb.len
  have loop : ∀ (d i m : Nat), a.length = i + d → d < m → loopN (evalCode (lim G0.cfg) (a.length + 1) B_l32_ints_0) m ⟨[v, w, .junk,.junk,.junk, .int .i64 i, .junk,.junk,.junk,.junk,.junk,.junk,.junk,.junk,.junk,.junk,.junk,.junk,.junk,.junk,.junk,.junk,.junk,.junk,.junk,.junk], []⟩ = some (.exit 0, ⟨[.junk,.junk,.junk,.junk,.junk,.junk,.junk,.junk,.junk,.junk,.junk,.junk,.junk,.junk,.junk,.junk,.junk,.junk,.junk,.junk,.junk,.junk,.junk,.junk,.junk,.junk], []⟩) := by
    intro d
    induction d with
    | zero =>
      intro i m h1 h2
      obtain ⟨m, rfl⟩ : ∃ q, m = q + 1 := ⟨m - 1, by omega⟩
      have h3 : ¬ ((i : Int) < a.length) := by omega
      simp only [loop_e,EB_l32_ints_0,Zab,Zac,Zad,Zag,Zah,Zaj,Zak,Zal,Zas,Zav,Zay,Zbi,Zbk,Zbq,Zcg,Zcv,Zcx,Zdc,Zdd,List.set_cons_zero,List.set_cons_succ,List.getD_cons_zero,List.getD_cons_succ,Zdh,decide_false,eq_self,la,h3]
    | succ d ih =>
      intro i m h1 h2
      obtain ⟨m, rfl⟩ : ∃ q, m = q + 1 := ⟨m - 1, by omega⟩
      have h3 : i < a.length := by omega
      have h3' : (i : Int) < a.length := by omega
      have hw := w64s (n := i) (by omega)
      have xa := fun h => ha.ix h .i64 i h3
      have xb := fun h => hb.ix h .i64 i h3
      rw [← ih (i + 1) m (by omega) (by omega)]
      simp only [loop_e,EB_l32_ints_0,Zaa,Zab,Zac,Zad,Zae,Zag,Zaj,Zak,Zan,Zar,Zas,Zau,Zay,Zbi,Zbk,Zbo,Zbq,Zcb,Zcg,Zcv,Zcw,Zcx,Zdb,Zdc,Zdd,List.set_cons_zero,List.set_cons_succ,List.getD_cons_zero,List.getD_cons_succ,Option.bind_some,Zde,Zdh,Zdm,Zdz,decide_true,Bool.not_true,List.length_cons,List.length_nil,if_true,Nat.reduceAdd,Nat.reduceLeDiff,eq_self,aload,acells,part,eI,List.drop_zero,List.take_succ_cons,List.take_nil,List.set_cons_zero,la,h3',xa,xb,hw]
  have e := loop a.length 0 (a.length + 1) (by omega) (by omega)
  rw [z0] at e
  rw [R_l32_ints]
  simp only [Zaa,Zab,Zac,Zad,Zae,Zaf,Zag,Zai,Zaj,Zak,Zap,Zas,Zat,Zay,Zbi,Zbk,Zbq,Zcg,Zcu,Zcv,Zcw,Zcx,Zdb,Zdc,Zdd,List.set_cons_zero,List.set_cons_succ,List.getD_cons_zero,List.getD_cons_succ,Option.map_some,Zdm,decide_true,Bool.not_true,List.length_cons,List.length_nil,Nat.reduceAdd,Nat.reduceSub,eq_self,true_and,List.length_cons,List.length_nil,List.replicate_succ,List.replicate_zero,List.cons_append,List.nil_append,la,lb,e,resAll,resVals,resVal,Option.some.injEq,Prod.mk.injEq,true_and,exists_eq']

theorem hitD_congr {O P : List Int} (h : ∀ p, O.getD p 0 = P.getD p 0) : ∀ (r : List Int) (k : Nat), hitD O r k = hitD P r k := by
  intro r
  induction r with
  | nil => intro k; rfl
  | cons x r ih => intro k; rw [hitD, hitD, h, ih]

section
variable {X : AObj} {w4 w7 w8 w10 w11 w12 : AV}
theorem laid_2 (b j N : Nat) (hb : b + j ≤ 900000) : ∀ (d m : Nat) (O : List Int) (h : AHeap) (w : AV) (q : Option Nat), O.length + d = max O.length (b + j + 1) → d < m → O.length ≤ 1000000 → h[0]? = some X → OwnG 1 (eIs O) w h q → (∀ i, q = some i → 1 ≤ i) →
    ∃ (h' : AHeap) (w' : AV) (q' : Option Nat), loopN (evalCode (lim G0.cfg) N B_l32_PackLaid_2) m ⟨(.junk::.junk::.junk :: .ptr 0 0 0 0 :: w4 :: .junk :: w :: w7 :: w8 :: .int .i64 b :: w10 :: w11 :: w12 :: .int .i64 j :: .junk::.junk::.junk::.junk::.junk::.junk::.junk::.junk::.junk::.junk::.junk::.junk::.junk::.junk::.junk::.junk::.junk::.junk::.junk::.junk::.junk::.junk::.junk::.junk::.junk::.junk::.junk::.junk::.junk::.junk::.junk::.junk::.junk::.junk::.junk::.junk::.junk::.junk::.junk::.junk::.junk::.junk::.junk::.junk::.junk::.junk::.junk::.junk::.junk::.junk::.junk::.junk::.junk::.junk::.junk::.junk::.junk::.junk::.junk::.junk::.junk::.junk::.junk::.junk::.junk::.junk::.junk::.junk::.junk::.junk::.junk::.junk::.junk::.junk::.junk::.junk::.junk::.junk::.junk::.junk::.junk::.junk::.junk::.junk::.junk::.junk::.junk::.junk::.junk::.junk::.junk::.junk::.junk::.junk::.junk::.junk::.junk::.junk::.junk::.junk::.junk::.junk::.junk::.junk::.junk::.junk::.junk::.junk::.junk::.junk::.junk::.junk::.junk::.junk::.junk::.junk::.junk::.junk::.junk::.junk::.junk::.junk::.junk::.junk::.junk::.junk::.junk::.junk::.junk::.junk::.junk::.junk::.junk::.junk::.junk::.junk::.junk::.junk::.junk::.junk :: []), h⟩ = some (.exit 4, ⟨(.junk::.junk::.junk :: .ptr 0 0 0 0 :: w4 :: .junk :: w' :: w7 :: w8 :: .int .i64 b :: w10 :: w11 :: w12 :: .int .i64 j :: .junk::.junk::.junk::.junk::.junk::.junk::.junk::.junk::.junk::.junk::.junk::.junk::.junk::.junk::.junk::.junk::.junk::.junk::.junk::.junk::.junk::.junk::.junk::.junk::.junk::.junk::.junk::.junk::.junk::.junk::.junk::.junk::.junk::.junk::.junk::.junk::.junk::.junk::.junk::.junk::.junk::.junk::.junk::.junk::.junk::.junk::.junk::.junk::.junk::.junk::.junk::.junk::.junk::.junk::.junk::.junk::.junk::.junk::.junk::.junk::.junk::.junk::.junk::.junk::.junk::.junk::.junk::.junk::.junk::.junk::.junk::.junk::.junk::.junk::.junk::.junk::.junk::.junk::.junk::.junk::.junk::.junk::.junk::.junk::.junk::.junk::.junk::.junk::.junk::.junk::.junk::.junk::.junk::.junk::.junk::.junk::.junk::.junk::.junk::.junk::.junk::.junk::.junk::.junk::.junk::.junk::.junk::.junk::.junk::.junk::.junk::.junk::.junk::.junk::.junk::.junk::.junk::.junk::.junk::.junk::.junk::.junk::.junk::.junk::.junk::.junk::.junk::.junk::.junk::.junk::.junk::.junk::.junk::.junk::.junk::.junk::.junk::.junk::.junk::.junk :: []), h'⟩) ∧
      h'[0]? = some X ∧ OwnG 1 (eIs (extL O (b + j + 1))) w' h' q' ∧ (∀ i, q' = some i → 1 ≤ i) := by
  intro d
  induction d with
  | zero =>
    intro m O h w q h1 h2 hn e1 ov tv
    obtain ⟨m, rfl⟩ : ∃ q, m = q + 1 := ⟨m - 1, by omega⟩
    have hw := w64a (a := b) (b := j) (by omega)
    have lo := ov.len h
    rw [Zep] at lo
    have h3 : ¬ ((O.length : Int) ≤ ((b + j : Nat) : Int)) := by omega
    refine ⟨h, w, q, ?_, e1, by rw [extL_same (by omega)]; exact ov, tv⟩
    simp only [loop_e,EB_l32_PackLaid_2,Zab,Zac,Zad,Zag,Zah,Zaj,Zak,Zal,Zas,Zav,Zay,Zbi,Zbk,Zbq,Zcg,Zcv,Zcx,Zdb,Zdc,Zdd,List.set_cons_zero,List.set_cons_succ,List.getD_cons_zero,List.getD_cons_succ,Zde,Zdi,decide_false,eq_self,lo,hw,h3]
  | succ d ih =>
    intro m O h w q h1 h2 hn e1 ov tv
    obtain ⟨m, rfl⟩ : ∃ q, m = q + 1 := ⟨m - 1, by omega⟩
    have hw := w64a (a := b) (b := j) (by omega)
    have lo := ov.len h
    rw [Zep] at lo
    have h3 : ((O.length : Int) ≤ ((b + j : Nat) : Int)) := by omega
    have h0 := get_len e1
    obtain ⟨iv, ver1, H1, r1, r2, r3, r4, r5⟩ := ov.push true (c := [.int .i64 0]) rfl rfl (eIs_all _) 8 (by omega) (by rw [Zep]; omega)
    rw [Zep] at r1 r2
    rw [← eIs_snoc] at r2
    have tiv : 1 ≤ iv := by
      rcases r4 with g | ⟨_, g⟩
      · exact tv iv g
      · omega
    have e1' := r3 0 _ e1 (fun e => by have := tv 0 e; omega)
    obtain ⟨vvx, hvx⟩ : ∃ x, x = AV.hsl iv ver1 0 (O.length + 1) none := ⟨_, rfl⟩
    rw [← hvx] at r1 r2
    have le1 : (O ++ [0]).length = O.length + 1 := by simp
    obtain ⟨h', w', q', e, g1, g2, g3⟩ := ih m (O ++ [0]) H1 vvx (some iv) (by omega) (by omega) (by omega) e1' r2 (fun i f => by cases f; exact tiv)
    rw [extL_snoc _ _ (by omega)] at g2
    refine ⟨h', w', q', ?_, g1, g2, g3⟩
    rw [← e]
    have lt2 := fun h : AHeap => lit1' h (.int .i64 0) (.int .i64 0) rfl rfl
    simp only [loop_e,EB_l32_PackLaid_2,Zaa,Zab,Zac,Zad,Zae,Zag,Zaj,Zak,Zan,Zar,Zau,Zay,Zaz,Zbi,Zbk,Zbq,Zcg,Zci,Zcn,Zcv,Zcw,Zcx,Zdb,Zdc,Zdd,List.set_cons_zero,List.set_cons_succ,List.getD_cons_zero,List.getD_cons_succ,Zde,Zdi,decide_true,eq_self,lo,hw,h3,ev2,lt2,r1]

theorem laid_1 {row : List Int} {rv : AV} (hr : Li row rv) (hm : row.length ≤ 1000) (b N : Nat) (hb : b ≤ 100000) (hN : 200000 ≤ N) : ∀ (d i m : Nat) (mt sm : Bool) (O : List Int) (h : AHeap) (w : AV) (q : Option Nat), row.length = i + d → d < m → O.length ≤ 150000 → h[0]? = some X → OwnG 1 (eIs O) w h q → (∀ i, q = some i → 1 ≤ i) → (∀ j, row.getD j 0 ≠ 0 → O.getD (b + j) 0 = 0) →
    ∃ (O' : List Int) (h' : AHeap) (w' : AV) (q' : Option Nat), loopN (evalCode (lim G0.cfg) N B_l32_PackLaid_1) m ⟨(.junk::.junk::.junk :: .ptr 0 0 0 0 :: w4 :: .junk :: w :: w7 :: w8 :: .int .i64 b :: rv :: .bool mt :: .bool sm :: .int .i64 i :: .junk::.junk::.junk::.junk::.junk::.junk::.junk::.junk::.junk::.junk::.junk::.junk::.junk::.junk::.junk::.junk::.junk::.junk::.junk::.junk::.junk::.junk::.junk::.junk::.junk::.junk::.junk::.junk::.junk::.junk::.junk::.junk::.junk::.junk::.junk::.junk::.junk::.junk::.junk::.junk::.junk::.junk::.junk::.junk::.junk::.junk::.junk::.junk::.junk::.junk::.junk::.junk::.junk::.junk::.junk::.junk::.junk::.junk::.junk::.junk::.junk::.junk::.junk::.junk::.junk::.junk::.junk::.junk::.junk::.junk::.junk::.junk::.junk::.junk::.junk::.junk::.junk::.junk::.junk::.junk::.junk::.junk::.junk::.junk::.junk::.junk::.junk::.junk::.junk::.junk::.junk::.junk::.junk::.junk::.junk::.junk::.junk::.junk::.junk::.junk::.junk::.junk::.junk::.junk::.junk::.junk::.junk::.junk::.junk::.junk::.junk::.junk::.junk::.junk::.junk::.junk::.junk::.junk::.junk::.junk::.junk::.junk::.junk::.junk::.junk::.junk::.junk::.junk::.junk::.junk::.junk::.junk::.junk::.junk::.junk::.junk::.junk::.junk::.junk::.junk :: []), h⟩ = some (.exit 2, ⟨(.junk::.junk::.junk :: .ptr 0 0 0 0 :: w4 :: .junk :: w' :: w7 :: w8 :: .int .i64 b :: rv :: .bool (or mt (and (decide (0 < b)) (hitD O (row.drop i) (b + i)))) :: .bool (or sm (anyD (row.drop i))) :: .junk::.junk::.junk::.junk::.junk::.junk::.junk::.junk::.junk::.junk::.junk::.junk::.junk::.junk::.junk::.junk::.junk::.junk::.junk::.junk::.junk::.junk::.junk::.junk::.junk::.junk::.junk::.junk::.junk::.junk::.junk::.junk::.junk::.junk::.junk::.junk::.junk::.junk::.junk::.junk::.junk::.junk::.junk::.junk::.junk::.junk::.junk::.junk::.junk::.junk::.junk::.junk::.junk::.junk::.junk::.junk::.junk::.junk::.junk::.junk::.junk::.junk::.junk::.junk::.junk::.junk::.junk::.junk::.junk::.junk::.junk::.junk::.junk::.junk::.junk::.junk::.junk::.junk::.junk::.junk::.junk::.junk::.junk::.junk::.junk::.junk::.junk::.junk::.junk::.junk::.junk::.junk::.junk::.junk::.junk::.junk::.junk::.junk::.junk::.junk::.junk::.junk::.junk::.junk::.junk::.junk::.junk::.junk::.junk::.junk::.junk::.junk::.junk::.junk::.junk::.junk::.junk::.junk::.junk::.junk::.junk::.junk::.junk::.junk::.junk::.junk::.junk::.junk::.junk::.junk::.junk::.junk::.junk::.junk::.junk::.junk::.junk::.junk::.junk::.junk::.junk :: []), h'⟩) ∧
      (∀ p, O'.getD p 0 = O.getD p 0) ∧ O'.length = lenP O.length (row.drop i) (b + i) ∧ h'[0]? = some X ∧ OwnG 1 (eIs O') w' h' q' ∧ (∀ i, q' = some i → 1 ≤ i) := by
  have lr := hr.len
  have lv : ∀ (h : AHeap) (z : Int), aload h 1 false (.vptr (eI z) 0) = some (.int .i64 z) := fun _ _ => rfl
  intro d
  induction d with
  | zero =>
    intro i m mt sm O h w q h1 h2 hn e1 ov tv hf
    obtain ⟨m, rfl⟩ : ∃ q, m = q + 1 := ⟨m - 1, by omega⟩
    have h3 : ¬ ((i : Int) < row.length) := by omega
    have q1 : row.drop i = [] := List.drop_eq_nil_iff.2 (by omega)
    rw [q1]
    have e2 : (mt || (decide (0 < b) && hitD O [] (b + i))) = mt := by rw [hitD, Bool.and_false, Bool.or_false]
    have e3 : (sm || anyD []) = sm := by unfold anyD; rw [List.any_nil, Bool.or_false]
    rw [e2, e3]
    refine ⟨O, h, w, q, ?_, fun _ => rfl, rfl, e1, ov, tv⟩
    simp only [loop_e,EB_l32_PackLaid_1,Zab,Zac,Zad,Zag,Zah,Zaj,Zak,Zal,Zas,Zav,Zay,Zbi,Zbk,Zbq,Zcg,Zcv,Zcx,Zdb,Zdc,Zdd,List.set_cons_zero,List.set_cons_succ,List.getD_cons_zero,List.getD_cons_succ,Zdh,decide_false,eq_self,lr,h3]
  | succ d ih =>
    intro i m mt sm O h w q h1 h2 hn e1 ov tv hf
    obtain ⟨m, rfl⟩ : ∃ q, m = q + 1 := ⟨m - 1, by omega⟩
    have h3 : i < row.length := by omega
    have h3' : (i : Int) < row.length := by omega
    have hw := w64s (n := i) (by omega)
    have q1 : row.drop i = row[i] :: row.drop (i + 1) := List.drop_eq_getElem_cons h3
    have xa := fun h => hr.ix h .i64 i h3
    obtain ⟨x, hx⟩ : ∃ x, x = row[i] := ⟨_, rfl⟩
    have gx : row.getD i 0 = x := by rw [hx]; simp [h3]
    rw [q1, ← hx, lenP, hitD]
    rw [← hx] at xa
    by_cases z : x = 0
    case pos =>
      rw [if_pos z]
      have b1 : decide (x ≠ 0) = false := by simp [z]
      have b2 : anyD (x :: row.drop (i + 1)) = anyD (row.drop (i + 1)) := by unfold anyD; rw [List.any_cons, b1, Bool.false_or]
      rw [b1, b2, Bool.false_and, Bool.false_or]
      obtain ⟨O', h', w', q', e, r⟩ := ih (i + 1) m mt sm O h w q (by omega) (by omega) hn e1 ov tv hf
      refine ⟨O', h', w', q', ?_, r⟩
      have b3 : b + (i + 1) = b + i + 1 := rfl
      rw [b3] at e
      rw [← e]
      have g2 : decide (x = 0) = true := decide_eq_true z
      simp only [loop_e,EB_l32_PackLaid_1,Zaa,Zab,Zac,Zad,Zae,Zag,Zah,Zaj,Zak,Zal,Zap,Zar,Zau,Zay,Zbi,Zbk,Zbo,Zbq,Zcb,Zcg,Zcv,Zcw,Zcx,Zdb,Zdc,Zdd,List.set_cons_zero,List.set_cons_succ,List.getD_cons_zero,List.getD_cons_succ,Zde,Zdh,Zdl,decide_true,eq_self,lr,h3',xa,lv,g2,hw]
    case neg =>
      rw [if_neg z]
      have b1 : decide (x ≠ 0) = true := decide_eq_true z
      have b2 : anyD (x :: row.drop (i + 1)) = true := by unfold anyD; rw [List.any_cons, b1, Bool.true_or]
      rw [b1, b2, Bool.true_and, Bool.or_true]
      have hw2 := w64a (a := b) (b := i) (by omega)
      obtain ⟨H1, w1, q1', e3, f1, f2, f3⟩ := laid_2 (X := X) (w4 := w4) (w7 := w7) (w8 := w8) (w10 := rv) (w11 := .bool mt) (w12 := .bool true) b i N (by omega) (max O.length (b + i + 1) - O.length) N O h w q (by omega) (by omega) (by omega) e1 ov tv
      obtain ⟨O1, hO1⟩ : ∃ O1, O1 = extL O (b + i + 1) := ⟨_, rfl⟩
      rw [← hO1] at f2
      have g1 : ∀ p, O1.getD p 0 = O.getD p 0 := fun p => by rw [hO1, extL_getD]
      have l1 : O1.length = max O.length (b + i + 1) := by rw [hO1, extL_len]
      have k1 : b + i < O1.length := by omega
      have o1 : O1[b + i] = 0 := by
        have := g1 (b + i)
        rw [hf i (by rw [gx]; exact z)] at this
        simpa [k1] using this
      have c1 : (eIs O1)[b + i]? = some [.int .i64 0] := by rw [eIs_get O1 _ k1, o1]
      obtain ⟨p1, p2, p3⟩ := f2.ix1 c1
      obtain ⟨y, hy⟩ : ∃ y, y = O1.getD (b + i - 1) 0 := ⟨_, rfl⟩
      have k2 : b + i - 1 < O1.length := by omega
      have c2 : (eIs O1)[b + i - 1]? = some [.int .i64 y] := by rw [eIs_get O1 _ k2, hy]; simp [k2]
      obtain ⟨p4, p5, p6⟩ := f2.ix1 c2
      have yo : O.getD (b + i - 1) 0 = y := by rw [hy, g1]
      rw [yo]
      obtain ⟨mt', hmt⟩ : ∃ mt', mt' = (mt || (decide (0 < b) && decide (y ≠ 0))) := ⟨_, rfl⟩
      obtain ⟨O', h', w', q', e, r1, r2, r3, r4, r5⟩ := ih (i + 1) m mt' true O1 H1 w1 q1' (by omega) (by omega) (by omega) f1 f2 f3 (fun j hj => by rw [g1]; exact hf j hj)
      have b3 : b + (i + 1) = b + i + 1 := rfl
      rw [b3, hitD_congr g1, Bool.true_or] at e
      have em : (mt' || (decide (0 < b) && hitD O (row.drop (i + 1)) (b + i + 1))) = (mt || (decide (0 < b) && (decide (y ≠ 0) || hitD O (row.drop (i + 1)) (b + i + 1)))) := by
        rw [hmt]
        cases mt <;> cases decide (0 < b) <;> simp
      rw [em] at e
      refine ⟨O', h', w', q', ?_, fun p => (r1 p).trans (g1 p), by rw [r2, l1]; rfl, r3, r4, r5⟩
      rw [← e, hmt]
      have g2 : decide (x = 0) = false := decide_eq_false z
      cases mt with
      | true =>
        simp only [loop_e,EB_l32_PackLaid_1,Zaa,Zab,Zac,Zad,Zae,Zaf,Zag,Zaj,Zak,Zan,Zap,Zar,Zas,Zat,Zau,Zay,Zbd,Zbf,Zbg,Zbi,Zbj,Zbk,Zbl,Zbo,Zbq,Zcb,Zcg,Zcv,Zcw,Zcx,Zdb,Zdc,Zdd,List.set_cons_zero,List.set_cons_succ,List.getD_cons_zero,List.getD_cons_succ,Zde,Zdh,Zdl,Zdm,decide_true,Bool.not_true,eq_self,lr,h3',xa,lv,g2,hw,e3,hw2,p2,p3,Bool.true_or]
      | false =>
        by_cases cb : 0 < b
        · have cb' : (0 : Int) < b := by omega
          have dz : decide (0 < b) = true := decide_eq_true cb
          have lz : IntKind.i64.wrap (((b + i : Nat) : Int) - 1) = ((b + i - 1 : Nat) : Int) := (w64 (by omega) (by omega)).trans (by omega)
          by_cases yz : y = 0
          · have d2 : decide (y ≠ 0) = false := by simp [yz]
            have d3 : decide (y = 0) = true := decide_eq_true yz
            rw [dz, d2, Bool.and_false, Bool.or_false]
            simp only [loop_e,EB_l32_PackLaid_1,Zaa,Zab,Zac,Zad,Zae,Zaf,Zag,Zaj,Zak,Zan,Zap,Zar,Zas,Zat,Zau,Zay,Zbb,Zbc,Zbg,Zbh,Zbi,Zbj,Zbk,Zbl,Zbo,Zbq,Zcb,Zcg,Zcv,Zcw,Zcx,Zdb,Zdc,Zdd,List.set_cons_zero,List.set_cons_succ,List.getD_cons_zero,List.getD_cons_succ,Zde,Zdf,Zdh,Zdj,Zdl,Zdm,decide_true,Bool.not_true,eq_self,lr,h3',xa,lv,g2,hw,e3,hw2,p2,p3,cb',lz,p5,p6,d3]
          · have d2 : decide (y ≠ 0) = true := decide_eq_true yz
            have d3 : decide (y = 0) = false := decide_eq_false yz
            rw [dz, d2, Bool.and_true, Bool.or_true]
            simp only [loop_e,EB_l32_PackLaid_1,Zaa,Zab,Zac,Zad,Zae,Zaf,Zag,Zaj,Zak,Zan,Zap,Zar,Zas,Zat,Zau,Zay,Zbb,Zbc,Zbg,Zbh,Zbi,Zbj,Zbk,Zbl,Zbo,Zbq,Zcb,Zcg,Zcv,Zcw,Zcx,Zdb,Zdc,Zdd,List.set_cons_zero,List.set_cons_succ,List.getD_cons_zero,List.getD_cons_succ,Zde,Zdf,Zdh,Zdj,Zdl,Zdm,decide_true,Bool.not_true,Bool.not_false,eq_self,lr,h3',xa,lv,g2,hw,e3,hw2,p2,p3,cb',lz,p5,p6,d3]
        · have cb' : ¬ (0 : Int) < b := by omega
          have dz : decide (0 < b) = false := decide_eq_false cb
          rw [dz, Bool.false_and, Bool.or_false]
          simp only [loop_e,EB_l32_PackLaid_1,Zaa,Zab,Zac,Zad,Zae,Zaf,Zag,Zaj,Zak,Zan,Zap,Zar,Zas,Zat,Zau,Zay,Zbc,Zbe,Zbh,Zbi,Zbj,Zbk,Zbl,Zbo,Zbq,Zcb,Zcg,Zcv,Zcw,Zcx,Zdb,Zdc,Zdd,List.set_cons_zero,List.set_cons_succ,List.getD_cons_zero,List.getD_cons_succ,Zde,Zdh,Zdj,Zdl,Zdm,decide_true,decide_false,Bool.not_true,eq_self,lr,h3',xa,lv,g2,hw,e3,hw2,p2,p3,cb']

theorem laid_3 {row : List Int} {rv : AV} (hr : Li row rv) (hm : row.length ≤ 1000) (b N : Nat) (hb : b ≤ 100000) : ∀ (d i m : Nat) (O : List Int) (h : AHeap) (w : AV) (q : Option Nat), row.length = i + d → d < m → h[0]? = some X → OwnG 1 (eIs O) w h q → (∀ i, q = some i → 1 ≤ i) → (∀ j, row.getD j 0 ≠ 0 → b + j < O.length) →
    ∃ (h' : AHeap) (q' : Option Nat), loopN (evalCode (lim G0.cfg) N B_l32_PackLaid_3) m ⟨(.junk::.junk::.junk :: .ptr 0 0 0 0 :: w4 :: .junk :: w :: w7 :: w8 :: .int .i64 b :: rv :: .junk::.junk::.junk :: .int .i64 i :: .junk::.junk::.junk::.junk::.junk::.junk::.junk::.junk::.junk::.junk::.junk::.junk::.junk::.junk::.junk::.junk::.junk::.junk::.junk::.junk::.junk::.junk::.junk::.junk::.junk::.junk::.junk::.junk::.junk::.junk::.junk::.junk::.junk::.junk::.junk::.junk::.junk::.junk::.junk::.junk::.junk::.junk::.junk::.junk::.junk::.junk::.junk::.junk::.junk::.junk::.junk::.junk::.junk::.junk::.junk::.junk::.junk::.junk::.junk::.junk::.junk::.junk::.junk::.junk::.junk::.junk::.junk::.junk::.junk::.junk::.junk::.junk::.junk::.junk::.junk::.junk::.junk::.junk::.junk::.junk::.junk::.junk::.junk::.junk::.junk::.junk::.junk::.junk::.junk::.junk::.junk::.junk::.junk::.junk::.junk::.junk::.junk::.junk::.junk::.junk::.junk::.junk::.junk::.junk::.junk::.junk::.junk::.junk::.junk::.junk::.junk::.junk::.junk::.junk::.junk::.junk::.junk::.junk::.junk::.junk::.junk::.junk::.junk::.junk::.junk::.junk::.junk::.junk::.junk::.junk::.junk::.junk::.junk::.junk::.junk::.junk::.junk::.junk::.junk :: []), h⟩ = some (.exit 6, ⟨(.junk::.junk::.junk :: .ptr 0 0 0 0 :: w4 :: .junk :: w :: w7 :: w8 :: .junk::.junk::.junk::.junk::.junk::.junk::.junk::.junk::.junk::.junk::.junk::.junk::.junk::.junk::.junk::.junk::.junk::.junk::.junk::.junk::.junk::.junk::.junk::.junk::.junk::.junk::.junk::.junk::.junk::.junk::.junk::.junk::.junk::.junk::.junk::.junk::.junk::.junk::.junk::.junk::.junk::.junk::.junk::.junk::.junk::.junk::.junk::.junk::.junk::.junk::.junk::.junk::.junk::.junk::.junk::.junk::.junk::.junk::.junk::.junk::.junk::.junk::.junk::.junk::.junk::.junk::.junk::.junk::.junk::.junk::.junk::.junk::.junk::.junk::.junk::.junk::.junk::.junk::.junk::.junk::.junk::.junk::.junk::.junk::.junk::.junk::.junk::.junk::.junk::.junk::.junk::.junk::.junk::.junk::.junk::.junk::.junk::.junk::.junk::.junk::.junk::.junk::.junk::.junk::.junk::.junk::.junk::.junk::.junk::.junk::.junk::.junk::.junk::.junk::.junk::.junk::.junk::.junk::.junk::.junk::.junk::.junk::.junk::.junk::.junk::.junk::.junk::.junk::.junk::.junk::.junk::.junk::.junk::.junk::.junk::.junk::.junk::.junk::.junk::.junk::.junk::.junk::.junk::.junk::.junk :: []), h'⟩) ∧
      h'[0]? = some X ∧ OwnG 1 (eIs (markD O (row.drop i) (b + i))) w h' q' ∧ (∀ i, q' = some i → 1 ≤ i) := by
  have lr := hr.len
  have lv : ∀ (h : AHeap) (z : Int), aload h 1 false (.vptr (eI z) 0) = some (.int .i64 z) := fun _ _ => rfl
  intro d
  induction d with
  | zero =>
    intro i m O h w q h1 h2 e1 ov tv hf
    obtain ⟨m, rfl⟩ : ∃ q, m = q + 1 := ⟨m - 1, by omega⟩
    have h3 : ¬ ((i : Int) < row.length) := by omega
    have q1 : row.drop i = [] := List.drop_eq_nil_iff.2 (by omega)
    rw [q1]
    refine ⟨h, q, ?_, e1, ov, tv⟩
    simp only [loop_e,EB_l32_PackLaid_3,Zab,Zac,Zad,Zag,Zah,Zaj,Zak,Zal,Zas,Zav,Zay,Zbi,Zbk,Zbq,Zcg,Zcv,Zcx,Zdb,Zdc,Zdd,List.set_cons_zero,List.set_cons_succ,List.getD_cons_zero,List.getD_cons_succ,Zdh,decide_false,eq_self,lr,h3]
  | succ d ih =>
    intro i m O h w q h1 h2 e1 ov tv hf
    obtain ⟨m, rfl⟩ : ∃ q, m = q + 1 := ⟨m - 1, by omega⟩
    have h3 : i < row.length := by omega
    have h3' : (i : Int) < row.length := by omega
    have hw := w64s (n := i) (by omega)
    have q1 : row.drop i = row[i] :: row.drop (i + 1) := List.drop_eq_getElem_cons h3
    have xa := fun h => hr.ix h .i64 i h3
    obtain ⟨x, hx⟩ : ∃ x, x = row[i] := ⟨_, rfl⟩
    have gx : row.getD i 0 = x := by rw [hx]; simp [h3]
    rw [q1, ← hx, markD]
    rw [← hx] at xa
    by_cases z : x = 0
    case pos =>
      rw [if_pos z]
      obtain ⟨h', q', e, r⟩ := ih (i + 1) m O h w q (by omega) (by omega) e1 ov tv hf
      refine ⟨h', q', ?_, r⟩
      rw [← e]
      have g2 : decide (x = 0) = true := decide_eq_true z
      simp only [loop_e,EB_l32_PackLaid_3,Zaa,Zab,Zac,Zad,Zae,Zag,Zaj,Zak,Zan,Zar,Zas,Zau,Zay,Zbi,Zbk,Zbo,Zbq,Zcb,Zcg,Zcv,Zcw,Zcx,Zdb,Zdc,Zdd,List.set_cons_zero,List.set_cons_succ,List.getD_cons_zero,List.getD_cons_succ,Zde,Zdh,Zdm,decide_true,Bool.not_true,eq_self,lr,h3',xa,lv,g2,hw]
    case neg =>
      rw [if_neg z]
      have hw2 := w64a (a := b) (b := i) (by omega)
      obtain ⟨iv, pv, H2, qiv, xv, s5, gv5, fr5, n5⟩ := ov.putI (hf i (by rw [gx]; exact z)) 1
      subst qiv
      obtain ⟨h', q', e, r⟩ := ih (i + 1) m (O.set (b + i) 1) H2 w (some iv) (by omega) (by omega) (fr5 0 _ e1 (by have := tv iv rfl; omega)) gv5 tv (by rw [List.length_set]; exact hf)
      refine ⟨h', q', ?_, r⟩
      rw [← e]
      have g2 : decide (x = 0) = false := decide_eq_false z
      simp only [loop_e,EB_l32_PackLaid_3,Zaa,Zab,Zac,Zad,Zae,Zag,Zaj,Zak,Zan,Zar,Zau,Zay,Zba,Zbi,Zbk,Zbo,Zbp,Zbq,Zcb,Zcg,Zcv,Zcw,Zcx,Zcy,Zdb,Zdc,Zdd,List.set_cons_zero,List.set_cons_succ,List.getD_cons_zero,List.getD_cons_succ,Zde,Zdh,Zdm,decide_true,Bool.not_false,eq_self,lr,h3',xa,lv,g2,hw,hw2,xv,s5]
end
end Go.Proofs.Ytkgndbhflehhhaa.Ai
namespace Go.Proofs.Ytkgndbhflehhhaa.Ai
open Go Go.Proofs
set_option linter.unusedVariables false
set_option linter.unusedSimpArgs false
set_option maxRecDepth 10000
set_option maxHeartbeats 4000000

theorem laid_0 {own : List (List Int)} {bs ord : List Int} {ov ox a b c o : AV} (hv : LiR own ov) (ho : Li ord ox) (hb : Li bs b) (M : Nat) (hM : ∀ r ∈ own, r.length ≤ M) (hM1 : M ≤ 1000) (hM2 : own.length * M ≤ 100000) (hn : own.length ≤ 1000) (hol : ord.length = own.length) (hnd : ord.Nodup) (hom : ∀ x ∈ ord, 0 ≤ x ∧ x < own.length) (hbs : bs = (layD own ord).1) (hbl : bs.length = own.length) :
    ∀ (d n m : Nat) (O : List Int) (h : AHeap) (w : AV) (q : Option Nat), ord.length = n + d → d < m → MarkOk O ((ord.take n).foldl (layStep own) (List.replicate own.length 0, [], [])).2.2 → OwnG 1 (eIs O) w h q → (∀ i, q = some i → 1 ≤ i) → h[0]? = some (.arr 0 4 true [[a, b, c, o]]) →
    ∃ (O' : List Int) (h' : AHeap) (w' : AV) (q' : Option Nat), loopN (evalCode (lim G0.cfg) 200000 B_l32_PackLaid_0) m ⟨(.junk::.junk::.junk :: .ptr 0 0 0 0 :: ov :: .junk :: w :: ox :: .int .i64 n :: .junk::.junk::.junk::.junk::.junk::.junk::.junk::.junk::.junk::.junk::.junk::.junk::.junk::.junk::.junk::.junk::.junk::.junk::.junk::.junk::.junk::.junk::.junk::.junk::.junk::.junk::.junk::.junk::.junk::.junk::.junk::.junk::.junk::.junk::.junk::.junk::.junk::.junk::.junk::.junk::.junk::.junk::.junk::.junk::.junk::.junk::.junk::.junk::.junk::.junk::.junk::.junk::.junk::.junk::.junk::.junk::.junk::.junk::.junk::.junk::.junk::.junk::.junk::.junk::.junk::.junk::.junk::.junk::.junk::.junk::.junk::.junk::.junk::.junk::.junk::.junk::.junk::.junk::.junk::.junk::.junk::.junk::.junk::.junk::.junk::.junk::.junk::.junk::.junk::.junk::.junk::.junk::.junk::.junk::.junk::.junk::.junk::.junk::.junk::.junk::.junk::.junk::.junk::.junk::.junk::.junk::.junk::.junk::.junk::.junk::.junk::.junk::.junk::.junk::.junk::.junk::.junk::.junk::.junk::.junk::.junk::.junk::.junk::.junk::.junk::.junk::.junk::.junk::.junk::.junk::.junk::.junk::.junk::.junk::.junk::.junk::.junk::.junk::.junk::.junk::.junk::.junk::.junk::.junk::.junk :: []), h⟩ = some (.exit 0, ⟨(.junk::.junk::.junk :: .ptr 0 0 0 0 :: .junk::.junk :: w' :: .junk::.junk::.junk::.junk::.junk::.junk::.junk::.junk::.junk::.junk::.junk::.junk::.junk::.junk::.junk::.junk::.junk::.junk::.junk::.junk::.junk::.junk::.junk::.junk::.junk::.junk::.junk::.junk::.junk::.junk::.junk::.junk::.junk::.junk::.junk::.junk::.junk::.junk::.junk::.junk::.junk::.junk::.junk::.junk::.junk::.junk::.junk::.junk::.junk::.junk::.junk::.junk::.junk::.junk::.junk::.junk::.junk::.junk::.junk::.junk::.junk::.junk::.junk::.junk::.junk::.junk::.junk::.junk::.junk::.junk::.junk::.junk::.junk::.junk::.junk::.junk::.junk::.junk::.junk::.junk::.junk::.junk::.junk::.junk::.junk::.junk::.junk::.junk::.junk::.junk::.junk::.junk::.junk::.junk::.junk::.junk::.junk::.junk::.junk::.junk::.junk::.junk::.junk::.junk::.junk::.junk::.junk::.junk::.junk::.junk::.junk::.junk::.junk::.junk::.junk::.junk::.junk::.junk::.junk::.junk::.junk::.junk::.junk::.junk::.junk::.junk::.junk::.junk::.junk::.junk::.junk::.junk::.junk::.junk::.junk::.junk::.junk::.junk::.junk::.junk::.junk::.junk::.junk::.junk::.junk::.junk::.junk :: []), h'⟩) ∧
      OwnG 1 (eIs O') w' h' q' ∧ O'.length = (layD own ord).2.2.length ∧ h'[0]? = some (.arr 0 4 true [[a, b, c, o]]) := by
  have lo := ho.len
  intro d
  induction d with
  | zero =>
    intro n m O h w q h1 h2 mk ow tv e1
    obtain ⟨m, rfl⟩ : ∃ q, m = q + 1 := ⟨m - 1, by omega⟩
    have h3 : ¬ ((n : Int) < ord.length) := by omega
    have q1 : ord.take n = ord := List.take_of_length_le (by omega)
    rw [q1] at mk
    refine ⟨O, h, w, q, ?_, ow, mk.len, e1⟩
    simp only [loop_e,EB_l32_PackLaid_0,Zab,Zac,Zad,Zag,Zah,Zaj,Zak,Zal,Zas,Zav,Zay,Zbi,Zbk,Zbq,Zcg,Zcv,Zcx,Zdb,Zdc,Zdd,List.set_cons_zero,List.set_cons_succ,List.getD_cons_zero,List.getD_cons_succ,Zdh,decide_false,eq_self,lo,h3]
  | succ d ih =>
    intro n m O h w q h1 h2 mk ow tv e1
    obtain ⟨m, rfl⟩ : ∃ q, m = q + 1 := ⟨m - 1, by omega⟩
    have h3 : n < ord.length := by omega
    have h3' : (n : Int) < ord.length := by omega
    have hw := w64s (n := n) (by omega)
    obtain ⟨s, hs⟩ : ∃ s, s = (ord.take n).foldl (layStep own) (List.replicate own.length 0, [], []) := ⟨_, rfl⟩
    rw [← hs] at mk
    obtain ⟨b1, b2, b3⟩ := layFold_len own M hM (ord.take n) (List.replicate own.length 0, [], []) rfl
    rw [← hs] at b1 b2 b3
    have tl : (ord.take n).length ≤ own.length := by rw [List.length_take]; omega
    have hmul : (ord.take n).length * M ≤ own.length * M := Nat.mul_le_mul_right M tl
    simp only [List.length_replicate,List.length_nil,Nat.zero_add] at b1 b3
    have hx := hom _ (List.getElem_mem h3)
    obtain ⟨x, hxx⟩ : ∃ x : Nat, ord[n] = x := ⟨ord[n].toNat, by omega⟩
    have sp : ord = ord.take n ++ ord[n] :: ord.drop (n + 1) := by
      have := List.take_append_drop n ord
      rw [List.drop_eq_getElem_cons h3] at this
      exact this.symm
    have xn : (x : Int) ∉ ord.drop (n + 1) := by
      have := hnd
      rw [sp, hxx, List.nodup_append] at this
      exact (List.nodup_cons.1 this.2.1).1
    rw [hxx] at hx
    have xlt : x < own.length := by omega
    obtain ⟨row, hrow⟩ : ∃ r, r = own[x] := ⟨_, rfl⟩
    have gr : own.getD (x : Int).toNat [] = row := by rw [hrow]; simp [xlt]
    obtain ⟨k, hk⟩ : ∃ k, k = baseD s.2.2 row := ⟨_, rfl⟩
    have kle : k ≤ s.2.2.length := by rw [hk]; exact baseD_le _ _
    have bx : bs.getD x 0 = (k : Int) := by
      rw [hbs]
      unfold layD
      rw [sp, hxx, List.foldl_append, List.foldl_cons, ← hs]
      have := base_final own (ord.drop (n + 1)) (layStep own s x) x hx.1 xn (fun r hr => by rw [layStep_len1, b1]; exact hom r (List.mem_of_mem_drop hr))
      rw [Int.toNat_natCast] at this
      rw [this]
      have gr' : own.getD x [] = row := by rw [hrow]; simp [xlt]
      have e1 : (layStep own s x).1 = s.1.set x (k : Int) := by simp only [layStep,Int.toNat_natCast,gr', ← hk]
      rw [e1, getD_set _ _ _ _ (by omega), if_pos rfl]
    have bx' : bs[x]'(by omega) = (k : Int) := by
      have : x < bs.length := by omega
      simpa [this] using bx
    have rle : row.length ≤ M := hM _ (by rw [hrow]; exact List.getElem_mem xlt)
    have fit := fitsD_iff s.2.2 row k (by rw [hk]; exact baseD_fits _ _)
    obtain ⟨rv, hr, xr⟩ := hv.ix x xlt
    rw [← hrow] at hr
    have xo := fun h => ho.ix h .i64 n h3
    rw [hxx] at xo
    have xb := fun h => hb.ix h .i64 x (by omega)
    rw [bx'] at xb
    have lv : ∀ (h : AHeap) (z : Int), aload h 1 false (.vptr (eI z) 0) = some (.int .i64 z) := fun _ _ => rfl
    have lr : ∀ (h : AHeap), aload h 1 false (.vptr [rv] 0) = some rv := fun _ => rfl
    have l1b : aload h 1 false (.ptr 0 0 0 1) = some b := by rw [ld_p h 1 0 0 0 1 false 4 true _ _ e1 rfl]; rfl
    have k0 : ¬ ((k : Int) < 0) := by omega
    have k1 : ¬ ((100000 : Int) < (k : Int)) := by omega
    obtain ⟨O1, h4, w1, q1, e4, r1, r2, r3, r4, r5⟩ := laid_1 (X := .arr 0 4 true [[a, b, c, o]]) (w4 := ov) (w7 := ox) (w8 := .int .i64 n) hr (by omega) k 200000 (by omega) (Nat.le_refl _) row.length 0 200000 false false O h w q (by omega) (by omega) (by rw [mk.len]; omega) e1 ow tv (fun j hj => (mk.nil _).2 (fit j hj))
    rw [List.drop_zero, Nat.add_zero, Bool.false_or, Bool.false_or] at e4
    rw [List.drop_zero, Nat.add_zero] at r2
    rw [z0] at e4
    have l2 : ∀ j, row.getD j 0 ≠ 0 → k + j < O1.length := by rw [r2]; exact (lenP_ge row _ k).2.1
    obtain ⟨h5, q5, e5, g1, g2, g3⟩ := laid_3 (X := .arr 0 4 true [[a, b, c, o]]) (w4 := ov) (w7 := ox) (w8 := .int .i64 n) hr (by omega) k 200000 (by omega) row.length 0 200000 O1 h4 w1 q1 (by omega) (by omega) r3 r4 r5 (by simpa using l2)
    rw [List.drop_zero, Nat.add_zero] at g2
    rw [z0] at e5
    have mk' : MarkOk (markD O1 row k) (layStep own s x).2.2 := by
      have := mk.step (own := own) (s := s) b2 (a := (x : Int)) (by omega) r1 (by rw [gr, ← hk]; exact r2)
      rw [gr, ← hk] at this
      exact this
    have tk : ord.take (n + 1) = ord.take n ++ [(x : Int)] := by rw [← hxx]; exact (List.take_append_getElem h3).symm
    obtain ⟨O', h', w', q', e, z1, z2, z3⟩ := ih (n + 1) m (markD O1 row k) h5 w1 q5 (by omega) (by omega) (by rw [tk, List.foldl_append, ← hs]; exact mk') g2 g3 g1
    refine ⟨O', h', w', q', ?_, z1, z2, z3⟩
    rw [← e]
    by_cases cb : 0 < k
    · have cb' : (0 : Int) < k := by omega
      have dz : decide (0 < k) = true := decide_eq_true cb
      have ht : hitD O row k = true := by
        rw [hk] at cb ⊢
        exact baseD_hit _ _ _ mk.nil cb
      rw [dz, ht, hitD_any O row k ht, Bool.true_and] at e4
      simp only [loop_e,EB_l32_PackLaid_0,Zaa,Zab,Zac,Zad,Zae,Zaf,Zag,Zaj,Zak,Zan,Zap,Zar,Zas,Zat,Zau,Zay,Zbb,Zbc,Zbg,Zbh,Zbi,Zbj,Zbk,Zbl,Zbo,Zbq,Zbr,Zby,Zcb,Zcg,Zcv,Zcw,Zcx,Zdb,Zdc,Zdd,List.set_cons_zero,List.set_cons_succ,List.getD_cons_zero,List.getD_cons_succ,Zde,Zdh,Zdj,Zdr,Zdx,decide_true,decide_false,Bool.not_true,Nat.reduceAdd,eq_self,lo,h3',l1b,xo,lv,xb,xr,lr,k0,k1,e4,cb',e5,hw]
    · have cb' : ¬ (0 : Int) < k := by omega
      have dz : decide (0 < k) = false := decide_eq_false cb
      rw [dz, Bool.false_and] at e4
      simp only [loop_e,EB_l32_PackLaid_0,Zaa,Zab,Zac,Zad,Zae,Zaf,Zag,Zaj,Zak,Zan,Zap,Zar,Zas,Zat,Zau,Zay,Zbc,Zbe,Zbf,Zbh,Zbi,Zbj,Zbk,Zbl,Zbo,Zbq,Zby,Zcb,Zcg,Zcv,Zcw,Zcx,Zdb,Zdc,Zdd,List.set_cons_zero,List.set_cons_succ,List.getD_cons_zero,List.getD_cons_succ,Zde,Zdh,Zdj,Zdx,decide_true,decide_false,Nat.reduceAdd,eq_self,lo,h3',l1b,xo,lv,xb,xr,lr,k0,k1,e4,cb',e5,hw]

theorem f_PackLaid {rows : List (List Int)} {v : AV} (hv : LiR rows v) (H : AHeap) : lim G0.cfg (.func 9) [v] H = some (.bool true, H) := by
  refine lim_flat rfl rfl P_l32_PackLaid 200000 (fun h => fz_1 (hv.fz h 999)) ?_ (fun _ => rfl) H
  have hk := knows
  have c1 := f_fewRows hv
  by_cases few : (fewGo rows 0 : Int) < 600
  case neg =>
    rw [decide_eq_false few] at c1
    rw [R_l32_PackLaid]
    simp only [Zab,Zac,Zad,Zai,Zaj,Zak,Zam,Zar,Zay,Zaz,Zbi,Zbk,Zbr,Zcp,Zcq,Zcu,Zcv,Zcw,Zcx,Zcz,Zda,List.set_cons_zero,List.set_cons_succ,List.getD_cons_zero,List.getD_cons_succ,Option.map_some,Zdr,Bool.not_false,List.length_cons,List.length_nil,Nat.reduceAdd,Nat.reduceSub,eq_self,true_and,List.length_cons,List.length_nil,List.replicate_succ,List.replicate_zero,List.cons_append,List.nil_append,c1,hk,resAll,resVals,resVal,Option.some.injEq,Prod.mk.injEq,true_and,exists_eq']
  case pos =>
  rw [decide_eq_true few] at c1
  obtain ⟨M, hM, hM2, hM3⟩ := fewGo_ex rows (by omega)
  obtain ⟨s1, s2, s3, s4, s5, s6, s7⟩ := lay_sizes rows M hM
  have s0 : (distD rows).2.length = rows.length := dist_len rows
  obtain ⟨cs, hc, d1⟩ := f_Lay hv (by omega) M hM (by omega) (by omega)
  obtain ⟨ov, rx, hov, hrx, d2⟩ := r_Distinct hv (fun r hr => by have := hM r hr; omega) (by omega)
  obtain ⟨own, hown⟩ : ∃ o, o = (distD rows).1 := ⟨_, rfl⟩
  rw [← hown] at hov s1 s5 s6 s7
  obtain ⟨ox, hox, d3⟩ := r_Order hov (fun r hr => by have := s6 r hr; omega) (by omega)
  obtain ⟨op, _⟩ := orderD_ok own
  obtain ⟨a, b, c, o, rfl, ha, hb, hcc, ho⟩ := hc
  have d4 := f_ints ha hrx (by show (distD rows).2.length ≤ _; omega)
  have hmul : own.length * M ≤ rows.length * M := Nat.mul_le_mul_right M s5
  have hbs : (layT rows).base = (layD own (orderD own)).1 := by rw [hown]; rfl
  have hcs : (layT rows).own = (layD own (orderD own)).2.2 := by rw [hown]; rfl
  obtain ⟨O', h', w', q', e, z1, z2, z3⟩ := laid_0 (a := a) (c := c) (o := o) hov hox hb M s6 (by omega) (by omega) (by omega) s7 (op.nodup_iff.2 (iota_nodup _)) (fun x hx => iotaI_mem.1 (op.mem_iff.1 hx)) hbs s1 (orderD own).length 0 200000 [] [.arr 0 4 true [[a, b, c, o]]] .nilS none (by omega) (by omega) ⟨rfl, fun p => by simp⟩ (OwnG.nil 1 _) (fun _ e => by cases e) rfl
  rw [z0] at e
  have s9 : astore [.arr 0 4 true [[.nilS, .nilS, .nilS, .nilS]]] 4 (.ptr 0 0 0 0) (.agg [a, b, c, o]) = some [.arr 0 4 true [[a, b, c, o]]] := by
    simp [astore, putCells, getArr, cellsOf, ha.cell.2, hb.cell.2, hcc.cell.2, ho.cell.2]
  have l0 : aload [.arr 0 4 true [[a, b, c, o]]] 1 false (.ptr 0 0 0 0) = some a := by rw [ld_p _ 1 0 0 0 0 false 4 true _ _ rfl rfl]; rfl
  have l1 : aload [.arr 0 4 true [[a, b, c, o]]] 1 false (.ptr 0 0 0 1) = some b := by rw [ld_p _ 1 0 0 0 1 false 4 true _ _ rfl rfl]; rfl
  have l2 : aload [.arr 0 4 true [[a, b, c, o]]] 1 false (.ptr 0 0 0 2) = some c := by rw [ld_p _ 1 0 0 0 2 false 4 true _ _ rfl rfl]; rfl
  have l3 : aload [.arr 0 4 true [[a, b, c, o]]] 1 false (.ptr 0 0 0 3) = some o := by rw [ld_p _ 1 0 0 0 3 false 4 true _ _ rfl rfl]; rfl
  have l4 : aload h' 1 false (.ptr 0 0 0 2) = some c := by rw [ld_p h' 1 0 0 0 2 false 4 true _ _ z3 rfl]; rfl
  have n1 := hb.len
  have n2 := hcc.len
  have n3 := ho.len
  have n4 := hov.len
  have n5 := z1.len
  rw [Zep, z2, ← hcs] at n5
  rw [s1] at n1
  rw [s2] at n2
  rw [R_l32_PackLaid]
  simp only [Zaa,Zab,Zac,Zad,Zae,Zaf,Zag,Zai,Zaj,Zak,Zap,Zas,Zat,Zay,Zaz,Zba,Zbb,Zbc,Zbg,Zbh,Zbi,Zbj,Zbk,Zbl,Zbm,Zbo,Zbp,Zbq,Zbr,Zby,Zcf,Zcg,Zcp,Zcq,Zcu,Zcv,Zcw,Zcx,Zcy,Zcz,Zda,Zdb,Zdc,Zdd,List.set_cons_zero,List.set_cons_succ,List.getD_cons_zero,List.getD_cons_succ,Option.map_some,Zdl,Zdm,Zdr,Zdx,Zem,decide_true,Bool.not_true,List.getElem?_cons_zero,List.getElem?_cons_succ,List.length_cons,List.length_nil,Nat.reduceAdd,Nat.reduceSub,eq_self,true_and,List.length_cons,List.length_nil,List.replicate_succ,List.replicate_zero,List.cons_append,List.nil_append,List.nil_append,List.length_nil,c1,d1,d2,d3,d4,s9,l0,l1,l2,l3,l4,n1,n2,n3,n4,n5,e,hk,resAll,resVals,resVal,Option.some.injEq,Prod.mk.injEq,true_and,exists_eq']
end Go.Proofs.Ytkgndbhflehhhaa.Ai
