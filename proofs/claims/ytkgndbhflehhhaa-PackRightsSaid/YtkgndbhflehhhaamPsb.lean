/- slices.SortStableFunc over numbers: symMerge merges. -/
import Derived.Test.YtkgndbhflehhhaamPs4
namespace Go.Proofs.Ytkgndbhflehhhaa.Ai
open Go Go.Proofs
open AV renaming junk → J
open List renaming length_append → Q0, append_nil → Q1, append_assoc → Q2, getD_cons_zero → Q3, getD_cons_succ → Q4, set_cons_zero → Q5, set_cons_succ → Q6, length_nil → Q7, length_eq_zero_iff → Q8, pairwise_append → Q9, nil_append → Z0, flatten_nil → Z1, mem_flatten → Z2, flatten_cons → Z3, length_cons → Z4, mem_of_mem_drop → Z5, mem_of_mem_take → Z6, pairwise_cons → Z7, take_append_drop → Z8, Perm → Z9, mem_cons → Y0, mem_append_right → Y1, length_take → Y2, cons_append → Y3, length_drop → Y4, mem_append_left → Y5, length_pos_iff → Y6, replicate_succ → Y7, replicate_zero → Y8, mem_append → Y9
open Option.some renaming injEq → W0
open Nat renaming le_refl → W1
open Option renaming map_some → W2
set_option linter.unusedVariables false
set_option linter.unusedSimpArgs false
set_option maxRecDepth 10000
set_option maxHeartbeats 4000000
theorem getD_L (A L C : List Int) (q : Nat) (h : q < L.length) : (A ++ L ++ C).getD (A.length + q) 0 = L.getD q 0 := by
 simp only [List.getD_eq_getElem?_getD]
 rw [Q2, List.getElem?_append_right (by omega), Nat.add_sub_cancel_left, List.getElem?_append_left h]
theorem getD_R (A L R B : List Int) (q : Nat) (h : q < R.length) : (A ++ L ++ R ++ B).getD (A.length + L.length + q) 0 = R.getD q 0 := by
 have := getD_L (A ++ L) R B q h
 rw [Q0] at this
 exact this
theorem getD_mem {L : List Int} {q : Nat} (h : q < L.length) : L.getD q 0 ∈ L := by
 simp [h]
theorem mem_take_at {L : List Int} {k : Nat} {x : Int} (h : x ∈ L.take k) : ∃ q, q < k ∧ q < L.length ∧ L.getD q 0 = x := by
 obtain ⟨q, hq, rfl⟩ := List.mem_take_iff_getElem.1 h
 exact ⟨q, by omega, by omega, by simp [show q < L.length by omega]⟩
theorem mem_drop_at {L : List Int} {k : Nat} {x : Int} (h : x ∈ L.drop k) : ∃ q, k ≤ q ∧ q < L.length ∧ L.getD q 0 = x := by
 obtain ⟨q, hq, rfl⟩ := List.mem_drop_iff_getElem.1 h
 exact ⟨k + q, by omega, by omega, by simp [show k + q < L.length by omega]⟩
theorem SortedK.mono {K : Int → Int} {L : List Int} (hs : SortedK K L) {p q : Nat} (hpq : p ≤ q) (hq : q < L.length) : K (L.getD p 0) ≤ K (L.getD q 0) := by
 rcases Nat.lt_or_eq_of_le hpq with h | rfl
 ·have := (List.pairwise_iff_getElem.1 hs) p q (by omega) hq h
  have e1 : L.getD p 0 = L[p] := by simp [show p < L.length by omega]
  have e2 : L.getD q 0 = L[q] := by simp [hq]
  rw [e1, e2]; exact this.le
 ·exact Int.le_refl _
theorem SortedK.take {K : Int → Int} {L : List Int} (hs : SortedK K L) (k : Nat) : SortedK K (L.take k) := List.Pairwise.sublist (List.take_sublist k L) hs
theorem SortedK.drop {K : Int → Int} {L : List Int} (hs : SortedK K L) (k : Nat) : SortedK K (L.drop k) := List.Pairwise.sublist (List.drop_sublist k L) hs
section
variable {i ver n : Nat} {x0 : Bool} {tl : List (List AV)} {g : Nat} {caps : List AV} {K : Int → Int} {D : Int → Prop} {E : AHeap → Prop}
theorem f_symMerge (hC : CmpOk i g caps K D E) (hn : n ≤ 1000000000) : ∀ (sz : Nat) (A L R B : List Int) (h : AHeap), L.length + R.length ≤ sz → L ≠ [] → R ≠ [] → (∀ x ∈ L, D x) → (∀ x ∈ R, D x) → SortedK K L → SortedK K R → (∀ x ∈ L, ∀ y ∈ R, x < y) → (A ++ L ++ R ++ B).length = n → E h → h[i]? = some (.arr ver 1 x0 (eIs (A ++ L ++ R ++ B) ++ tl)) →
  ∃ M, Z9 M (L ++ R) ∧ SortedK K M ∧ lim G0.cfg (.func 57) [.hsl i ver 0 n none, .int .i64 A.length, .int .i64 ((A.length + L.length : Nat) : Int), .int .i64 ((A.length + L.length + R.length : Nat) : Int), .fn (.func g) [] caps] h = some (AV.un, h.set i (.arr ver 1 x0 (eIs (A ++ M ++ B) ++ tl))) := by
 intro sz
 induction sz with
 | zero =>
  intro A L R B h hsz hL
  have := Y6.2 hL
  omega
 | succ sz ih =>
  intro A L R B h hsz hL hR hDL hDR sL sR hLR hl hE hi
  have pL := Y6.2 hL
  have pR := Y6.2 hR
  have hl' : A.length + L.length + R.length + B.length = n := by rw [← hl]; simp; omega
  have gL : ∀ q, q < L.length → (A ++ L ++ R ++ B).getD (A.length + q) 0 = L.getD q 0 := fun q hq => by
   have := getD_L A L (R ++ B) q hq
   simpa using this
  have gR : ∀ q, q < R.length → (A ++ L ++ R ++ B).getD (A.length + L.length + q) 0 = R.getD q 0 := fun q hq => getD_R A L R B q hq
  by_cases c1 : L.length = 1
  case pos =>
   obtain ⟨x, rfl⟩ := List.length_eq_one_iff.1 c1
   have gx : (A ++ [x] ++ R ++ B).getD A.length 0 = x := gL 0 (by simp)
   rw [List.length_singleton] at hl' gR
   have gR' : ∀ c, A.length + 1 ≤ c → c < A.length + 1 + R.length → (A ++ [x] ++ R ++ B).getD c 0 = R.getD (c - (A.length + 1)) 0 := fun c h1 h2 => by
    have := gR (c - (A.length + 1)) (by omega)
    rwa [show A.length + 1 + (c - (A.length + 1)) = c by omega] at this
   obtain ⟨s, s1, s2, s3, s4, e⟩ := f_sm_0 (ver := ver) (x0 := x0) (tl := tl) hC hn (A ++ [x] ++ R ++ B) hl A.length (A.length + 1) (A.length + 1 + R.length) (by omega) (by omega) (by rw [gx]; exact hDL x (by simp)) (fun c h1 h2 => by rw [gR' c h1 h2]; exact hDR _ (getD_mem (by omega)))
    (fun c c' h1 h2 h3 hK => by rw [gR' c h1 (by omega)]; rw [gR' c' (by omega) h3] at hK; have := sR.mono (p := c - (A.length + 1)) (q := c' - (A.length + 1)) (by omega) (by omega); omega) (n + 1) h hE hi R.length (n + 1) (A.length + 1) (A.length + 1 + R.length) (by omega) (by omega) (by omega) (by omega) (by omega) (fun c h1 h2 => by omega) (fun c h1 h2 => by omega)
   rw [gx] at s3 s4
   obtain ⟨k, rfl⟩ : ∃ k, s = A.length + 1 + k := ⟨s - (A.length + 1), by omega⟩
   have hRk : R = R.take k ++ R.drop k := (Z8 k R).symm
   have hRl : (R.take k).length = k := by rw [Y2]; omega
   have ea : A ++ [x] ++ R ++ B = A ++ x :: (R.take k ++ (R.drop k ++ B)) := by rw [← Q2 (R.take k), ← hRk]; simp
   have hi2 := hi
   rw [ea] at hi2
   have e2 := f_sm_up (ver := ver) (x0 := x0) (tl := tl) hn (n + 1) (A.length + 1 + k) x (R.take k) (n + 1) A (R.drop k ++ B) h (by omega) (by omega) (by rw [← ea]; exact hl) hi2
   have lo : ∀ r ∈ R.take k, K r < K x := fun r hr => by
    obtain ⟨q, q1, q2, rfl⟩ := mem_take_at hr
    have := s3 (A.length + 1 + q) (by omega) (by omega)
    rwa [gR q q2] at this
   have up : ∀ r ∈ R.drop k, ¬ K r < K x := fun r hr => by
    obtain ⟨q, q1, q2, rfl⟩ := mem_drop_at hr
    have := s4 (A.length + 1 + q) (by omega) (by omega)
    rwa [gR q q2] at this
   refine ⟨R.take k ++ x :: R.drop k, ?_, ?_, ?_⟩
   ·conv => rhs; rw [hRk]
    exact List.perm_middle
   ·rw [SortedK, Q9, Z7]
    refine ⟨sR.take k, ⟨fun r hr => ?_, sR.drop k⟩, fun r hr y hy => ?_⟩
    ·have hx := hLR x (by simp) r (Z5 hr)
     have := up r hr
     by_cases h : K x < K r
     ·exact .inl h
     ·exact .inr ⟨by omega, hx⟩
    ·rcases Y0.1 hy with rfl | hy
     ·exact .inl (lo r hr)
     ·rw [hRk] at sR
      exact (Q9.1 sR).2.2 r hr y hy
   ·refine lim_func rfl P_slices_symMergeCmpFunc_int (n + 1) ?_
    have w1 : IntKind.i64.wrap (((A.length + 1 : Nat) : Int) - A.length) = 1 := by rw [w64 (by omega) (by omega)]; omega
    have eb : A ++ (R.take k ++ x :: R.drop k) ++ B = A ++ R.take k ++ x :: (R.drop k ++ B) := by simp
    rw [eb, R_slices_symMergeCmpFunc_int]
    simp only [Zab,Zac,Zad,Zae,Zaf,Zag,Zai,Zaj,Zak,Zam,Zap,Zar,Zat,Zay,Zbi,Zbk,Zbq,Zcu,Zcv,Zcw,Zcx,Zdb,Zdc,Zdd,Q5,Q6,Q3,Q4,W2,Zdf,Zdl,decide_true,Z4,Q7,Nat.reduceAdd,Nat.reduceSub,eq_self,and_true,Z4,Q7,Y7,Y8,Y3,Z0,w1,e,e2,resAll,resVals,W0,Prod.mk.injEq,and_true]
    rfl
  case neg =>
  by_cases c2 : R.length = 1
  case pos =>
   obtain ⟨y, rfl⟩ := List.length_eq_one_iff.1 c2
   have gy : (A ++ L ++ [y] ++ B).getD (A.length + L.length) 0 = y := gR 0 (by simp)
   rw [List.length_singleton] at hl'
   have gL' : ∀ c, A.length ≤ c → c < A.length + L.length → (A ++ L ++ [y] ++ B).getD c 0 = L.getD (c - A.length) 0 := fun c h1 h2 => by
    have := gL (c - A.length) (by omega)
    rwa [show A.length + (c - A.length) = c by omega] at this
   obtain ⟨s, s1, s2, s3, s4, e⟩ := f_sm_2 (ver := ver) (x0 := x0) (tl := tl) hC hn (A ++ L ++ [y] ++ B) hl (A.length + L.length) A.length (A.length + L.length) (by omega) (by omega) (by rw [gy]; exact hDR y (by simp)) (fun c h1 h2 => by rw [gL' c h1 h2]; exact hDL _ (getD_mem (by omega)))
    (fun c c' h1 h2 h3 hK => by rw [gL' c' (by omega) h3]; rw [gL' c h1 (by omega)] at hK; have := sL.mono (p := c - A.length) (q := c' - A.length) (by omega) (by omega); omega) (n + 1) h hE hi L.length (n + 1) A.length (A.length + L.length) (by omega) (by omega) (by omega) (by omega) (by omega) (fun c h1 h2 => by omega) (fun c h1 h2 => by omega)
   rw [gy] at s3 s4
   obtain ⟨k, rfl⟩ : ∃ k, s = A.length + k := ⟨s - A.length, by omega⟩
   have hLk : L = L.take k ++ L.drop k := (Z8 k L).symm
   have hLl : (L.take k).length = k := by rw [Y2]; omega
   have hLd : (L.drop k).length = L.length - k := Y4 ..
   have ea : A ++ L ++ [y] ++ B = (A ++ L.take k) ++ L.drop k ++ y :: B := by rw [Q2 A (L.take k), ← hLk]; simp
   have hi2 := hi
   rw [ea] at hi2
   have e2 := f_sm_down (ver := ver) (x0 := x0) (tl := tl) hn (n + 1) y (A ++ L.take k) (L.drop k).length (n + 1) (L.drop k) B h rfl (by omega) (by rw [← ea]; exact hl) hi2
   rw [show (A ++ L.take k).length = A.length + k by rw [Q0, hLl], show A.length + k + (L.drop k).length = A.length + L.length by omega] at e2
   have lo : ∀ r ∈ L.take k, ¬ K y < K r := fun r hr => by
    obtain ⟨q, q1, q2, rfl⟩ := mem_take_at hr
    have := s3 (A.length + q) (by omega) (by omega)
    rwa [gL q q2] at this
   have up : ∀ r ∈ L.drop k, K y < K r := fun r hr => by
    obtain ⟨q, q1, q2, rfl⟩ := mem_drop_at hr
    have := s4 (A.length + q) (by omega) (by omega)
    rwa [gL q q2] at this
   refine ⟨L.take k ++ y :: L.drop k, ?_, ?_, ?_⟩
   ·conv => rhs; rw [hLk]
    rw [Q2]
    exact List.Perm.append_left _ (List.perm_append_comm (l₁ := [y]) (l₂ := L.drop k))
   ·rw [SortedK, Q9, Z7]
    refine ⟨sL.take k, ⟨fun r hr => .inl (up r hr), sL.drop k⟩, fun r hr z hz => ?_⟩
    rcases Y0.1 hz with rfl | hz
    ·have hx := hLR r (Z6 hr) z (by simp)
     have := lo r hr
     by_cases h : K r < K z
     ·exact .inl h
     ·exact .inr ⟨by omega, hx⟩
    ·rw [hLk] at sL
     exact (Q9.1 sL).2.2 r hr z hz
   ·refine lim_func rfl P_slices_symMergeCmpFunc_int (n + 1) ?_
    have w1 : IntKind.i64.wrap (((A.length + L.length : Nat) : Int) - A.length) = (L.length : Int) := by rw [w64 (by omega) (by omega)]; omega
    have d1 : decide ((L.length : Int) = 1) = false := decide_eq_false (by omega)
    have w2 : IntKind.i64.wrap (((A.length + L.length + 1 : Nat) : Int) - ((A.length + L.length : Nat) : Int)) = 1 := by rw [w64 (by omega) (by omega)]; omega
    have eb : A ++ (L.take k ++ y :: L.drop k) ++ B = A ++ L.take k ++ y :: (L.drop k ++ B) := by simp
    rw [eb, R_slices_symMergeCmpFunc_int]
    simp only [Zaa,Zab,Zac,Zad,Zae,Zaf,Zag,Zai,Zaj,Zak,Zam,Zap,Zar,Zas,Zat,Zay,Zbi,Zbk,Zbq,Zcu,Zcv,Zcw,Zcx,Zdb,Zdc,Zdd,Q5,Q6,Q3,Q4,W2,Zdf,Zdl,decide_true,Z4,Q7,Nat.reduceAdd,Nat.reduceSub,eq_self,and_true,Z4,Q7,Y7,Y8,Y3,Z0,w1,d1,w2,e,e2,resAll,resVals,W0,Prod.mk.injEq,and_true]
    rfl
  case neg =>
  obtain ⟨mid, hmid⟩ : ∃ mid, mid = (A.length + (A.length + L.length + R.length)) / 2 := ⟨_, rfl⟩
  obtain ⟨nn, hnn⟩ : ∃ nn, nn = mid + (A.length + L.length) := ⟨_, rfl⟩
  obtain ⟨st0, r0, hst⟩ : ∃ st0 r0, (mid < A.length + L.length ∧ st0 = nn - (A.length + L.length + R.length) ∧ r0 = mid ∧ A.length + L.length + R.length ≤ nn) ∨ (¬ mid < A.length + L.length ∧ st0 = A.length ∧ r0 = A.length + L.length) := by
   by_cases q : mid < A.length + L.length
   ·exact ⟨_, _, .inl ⟨q, rfl, rfl, by omega⟩⟩
   ·exact ⟨_, _, .inr ⟨q, rfl, rfl⟩⟩
  have b1 : A.length ≤ st0 := by omega
  have b2 : st0 ≤ r0 := by omega
  have b3 : r0 ≤ A.length + L.length := by omega
  have b4 : ∀ c, st0 ≤ c → c < r0 → A.length + L.length ≤ nn - 1 - c ∧ nn - 1 - c < A.length + L.length + R.length := fun c h1 h2 => by omega
  have gL' : ∀ c, st0 ≤ c → c < r0 → (A ++ L ++ R ++ B).getD c 0 = L.getD (c - A.length) 0 := fun c h1 h2 => by
   have := gL (c - A.length) (by omega)
   rwa [show A.length + (c - A.length) = c by omega] at this
  have gR' : ∀ c, st0 ≤ c → c < r0 → (A ++ L ++ R ++ B).getD (nn - 1 - c) 0 = R.getD (nn - 1 - c - (A.length + L.length)) 0 := fun c h1 h2 => by
   have h3 := b4 c h1 h2
   have := gR (nn - 1 - c - (A.length + L.length)) (by omega)
   rwa [show A.length + L.length + (nn - 1 - c - (A.length + L.length)) = nn - 1 - c by omega] at this
  obtain ⟨s, s1, s2, s3, s4, loop⟩ := f_sm_4 (ver := ver) (x0 := x0) (tl := tl) hC hn (A ++ L ++ R ++ B) hl (.int .i64 A.length) (.int .i64 ((A.length + L.length : Nat) : Int)) (.int .i64 ((A.length + L.length + R.length : Nat) : Int)) (.int .i64 mid) (.int .i64 nn) (nn - 1) st0 r0 (by omega) (by omega) (by omega)
   (fun c h1 h2 => by rw [gL' c h1 h2]; exact hDL _ (getD_mem (by omega))) (fun c h1 h2 => by rw [gR' c h1 h2]; have := b4 c h1 h2; exact hDR _ (getD_mem (by omega)))
   (fun c c' h1 h2 h3 hK => by
    rw [gR' c h1 (by omega), gL' c h1 (by omega)] at hK
    rw [gR' c' (by omega) h3, gL' c' (by omega) h3]
    have k1 := sL.mono (p := c - A.length) (q := c' - A.length) (by omega) (by omega)
    have k3 := b4 c h1 (by omega)
    have k4 := b4 c' (by omega) h3
    have k2 := sR.mono (p := nn - 1 - c' - (A.length + L.length)) (q := nn - 1 - c - (A.length + L.length)) (by omega) (by omega)
    omega) (n + 1) h hE hi (r0 - st0) (n + 1) st0 r0 (W1 _) (by omega) b2 (W1 _) (W1 _) (fun c h1 h2 => by omega) (fun c h1 h2 => by omega)
  obtain ⟨u, rfl⟩ : ∃ u, s = A.length + u := ⟨s - A.length, by omega⟩
  obtain ⟨w, hw⟩ : ∃ w, nn - (A.length + u) = A.length + L.length + w := ⟨nn - (A.length + u) - (A.length + L.length), by omega⟩
  have hwR : w ≤ R.length := by omega
  have huL : u ≤ L.length := by omega
  have hLu : L = L.take u ++ L.drop u := (Z8 u L).symm
  have hRw : R = R.take w ++ R.drop w := (Z8 w R).symm
  have lU : (L.take u).length = u := by rw [Y2]; omega
  have lW : (R.take w).length = w := by rw [Y2]; omega
  have lV : (L.drop u).length = L.length - u := Y4 ..
  have lZ : (R.drop w).length = R.length - w := Y4 ..
  have cross1 : ∀ a ∈ L.take u, ∀ z ∈ R.drop w, lexlt K a z := fun a ha z hz => by
   have hlt := hLR a (Z6 ha) z (Z5 hz)
   obtain ⟨q, q1, q2, rfl⟩ := mem_take_at ha
   obtain ⟨p, p1, p2, rfl⟩ := mem_drop_at hz
   by_cases hlo : st0 ≤ A.length + (u - 1)
   ·have h1 := s3 (A.length + (u - 1)) hlo (by omega)
    rw [gR' _ hlo (by omega), gL' _ hlo (by omega)] at h1
    have k1 := sL.mono (p := q) (q := A.length + (u - 1) - A.length) (by omega) (by omega)
    have k2 := sR.mono (p := nn - 1 - (A.length + (u - 1)) - (A.length + L.length)) (q := p) (by omega) p2
    by_cases h : K (L.getD q 0) < K (R.getD p 0)
    ·exact .inl h
    ·exact .inr ⟨by omega, hlt⟩
   ·omega
  have cross2 : ∀ a ∈ R.take w, ∀ v ∈ L.drop u, lexlt K a v := fun a ha v hv => by
   obtain ⟨q, q1, q2, rfl⟩ := mem_take_at ha
   obtain ⟨p, p1, p2, rfl⟩ := mem_drop_at hv
   by_cases hhi : A.length + u < r0
   ·have h1 := s4 (A.length + u) (by omega) hhi
    rw [gR' _ (by omega) hhi, gL' _ (by omega) hhi] at h1
    have k1 := sL.mono (p := A.length + u - A.length) (q := p) (by omega) p2
    have k2 := sR.mono (p := q) (q := nn - 1 - (A.length + u) - (A.length + L.length)) (by omega) (by omega)
    exact .inl (by omega)
   ·omega
  have hX0 : A ++ L ++ R ++ B = (A ++ L.take u) ++ L.drop u ++ R.take w ++ (R.drop w ++ B) := by
   have e1 : (A ++ L.take u) ++ L.drop u = A ++ L := by rw [Q2, ← hLu]
   have e2 : R.take w ++ (R.drop w ++ B) = R ++ B := by rw [← Q2, ← hRw]
   rw [e1, Q2 (A ++ L) (R.take w), e2, ← Q2]
  -- the rows after each step
  have st1 : ∃ h1, (A.length + u < A.length + L.length → A.length + L.length < A.length + L.length + w → lim G0.cfg (.func 58) [.hsl i ver 0 n none, .int .i64 ((A.length + u : Nat) : Int), .int .i64 ((A.length + L.length : Nat) : Int), .int .i64 ((A.length + L.length + w : Nat) : Int), .fn (.func g) [] caps] h = some (AV.un, h1)) ∧ (¬ (A.length + u < A.length + L.length ∧ A.length + L.length < A.length + L.length + w) → h1 = h) ∧
    h1 = h.set i (.arr ver 1 x0 (eIs (A ++ L.take u ++ R.take w ++ (L.drop u ++ R.drop w ++ B)) ++ tl)) := by
   refine ⟨_, ?_, ?_, rfl⟩
   ·intro h1 h2
    have hi2 := hi
    rw [hX0] at hi2
    have := f_rotate (ver := ver) (x0 := x0) (tl := tl) hn (A ++ L.take u) (L.drop u) (R.take w) (R.drop w ++ B) h (by intro e; rw [e] at lV; simp at lV; omega) (by intro e; rw [e] at lW; simp at lW; omega) (by rw [← hX0]; exact hl) hi2 (.fn (.func g) [] caps)
    rw [show (A ++ L.take u).length = A.length + u by rw [Q0, lU], lV, lW, show A.length + u + (L.length - u) = A.length + L.length by omega] at this
    rw [this]
    simp
   ·intro hno
    have : L.drop u = [] ∨ R.take w = [] := by
     by_cases q : w = 0
     ·exact .inr (Q8.1 (by omega))
     ·exact .inl (Q8.1 (by omega))
    have e : A ++ L.take u ++ R.take w ++ (L.drop u ++ R.drop w ++ B) = A ++ L ++ R ++ B := by
     rw [hX0]
     rcases this with h | h <;> rw [h] <;> simp only [Q2,Z0,Q1]
    rw [e, set_same hi]
  obtain ⟨h1, rot, rot0, eh1⟩ := st1
  have hi1 : h1[i]? = some (.arr ver 1 x0 (eIs (A ++ L.take u ++ R.take w ++ (L.drop u ++ R.drop w ++ B)) ++ tl)) := by rw [eh1]; exact get_set_eq hi
  have hE1 : E h1 := by rw [eh1]; exact hC.keep _ _ hE
  have hl1 : (A ++ L.take u ++ R.take w ++ (L.drop u ++ R.drop w ++ B)).length = n := by
   simp only [Q0,lU,lW,lV,lZ]; omega
  have hmw : mid = A.length + u + w := by omega
  have st2 : ∃ M1 h2, Z9 M1 (L.take u ++ R.take w) ∧ SortedK K M1 ∧ (A.length < A.length + u → A.length + L.length < A.length + L.length + w → lim G0.cfg (.func 57) [.hsl i ver 0 n none, .int .i64 A.length, .int .i64 ((A.length + u : Nat) : Int), .int .i64 mid, .fn (.func g) [] caps] h1 = some (AV.un, h2)) ∧ (¬ (A.length < A.length + u ∧ A.length + L.length < A.length + L.length + w) → h2 = h1) ∧
    h2 = h1.set i (.arr ver 1 x0 (eIs (A ++ M1 ++ (L.drop u ++ R.drop w ++ B)) ++ tl)) := by
   by_cases q : 0 < u ∧ 0 < w
   ·obtain ⟨M1, m1, m2, m3⟩ := ih A (L.take u) (R.take w) (L.drop u ++ R.drop w ++ B) h1 (by omega) (by intro e; rw [e] at lU; simp at lU; omega) (by intro e; rw [e] at lW; simp at lW; omega) (fun x hx => hDL x (Z6 hx)) (fun x hx => hDR x (Z6 hx)) (sL.take u) (sR.take w) (fun x hx y hy => hLR x (Z6 hx) y (Z6 hy)) hl1 hE1 hi1
    rw [lU, lW, ← hmw] at m3
    exact ⟨M1, _, m1, m2, fun _ _ => m3, fun hno => absurd ⟨by omega, by omega⟩ hno, rfl⟩
   ·have : L.take u = [] ∨ R.take w = [] := by
     by_cases q0 : w = 0
     ·exact .inr (Q8.1 (by omega))
     ·exact .inl (Q8.1 (by omega))
    refine ⟨L.take u ++ R.take w, h1, .refl _, ?_, fun a b => absurd ⟨by omega, by omega⟩ q, fun _ => rfl, ?_⟩
    ·rcases this with h | h <;> rw [h]
     ·rw [Z0]; exact sR.take w
     ·rw [Q1]; exact sL.take u
    ·rw [← Q2 A, set_same hi1]
  obtain ⟨M1, h2, m1, m2, mg1, mg10, eh2⟩ := st2
  have hi2 : h2[i]? = some (.arr ver 1 x0 (eIs ((A ++ M1) ++ L.drop u ++ R.drop w ++ B) ++ tl)) := by
   rw [eh2]
   have := get_set_eq (y := AObj.arr ver 1 x0 (eIs (A ++ M1 ++ (L.drop u ++ R.drop w ++ B)) ++ tl)) hi1
   rw [this]; simp
  have hE2 : E h2 := by rw [eh2]; exact hC.keep _ _ hE1
  have lM1 : M1.length = u + w := by rw [m1.length_eq, Q0, lU, lW]
  have hl2 : ((A ++ M1) ++ L.drop u ++ R.drop w ++ B).length = n := by
   simp only [Q0,lM1,lV,lZ]; omega
  have st3 : ∃ M2 h3, Z9 M2 (L.drop u ++ R.drop w) ∧ SortedK K M2 ∧ (A.length + u < A.length + L.length → A.length + L.length + w < A.length + L.length + R.length → lim G0.cfg (.func 57) [.hsl i ver 0 n none, .int .i64 mid, .int .i64 ((A.length + L.length + w : Nat) : Int), .int .i64 ((A.length + L.length + R.length : Nat) : Int), .fn (.func g) [] caps] h2 = some (AV.un, h3)) ∧ (¬ (A.length + u < A.length + L.length ∧ A.length + L.length + w < A.length + L.length + R.length) → h3 = h2) ∧
    h3 = h2.set i (.arr ver 1 x0 (eIs (A ++ M1 ++ M2 ++ B) ++ tl)) := by
   by_cases q : u < L.length ∧ w < R.length
   ·obtain ⟨M2, k1, k2, k3⟩ := ih (A ++ M1) (L.drop u) (R.drop w) B h2 (by omega) (by intro e; rw [e] at lV; simp at lV; omega) (by intro e; rw [e] at lZ; simp at lZ; omega) (fun x hx => hDL x (Z5 hx)) (fun x hx => hDR x (Z5 hx)) (sL.drop u) (sR.drop w) (fun x hx y hy => hLR x (Z5 hx) y (Z5 hy)) hl2 hE2 hi2
    have z1 : (A ++ M1).length = mid := by rw [Q0, lM1]; omega
    rw [z1, lV, lZ, show mid + (L.length - u) = A.length + L.length + w by omega, show A.length + L.length + w + (R.length - w) = A.length + L.length + R.length by omega] at k3
    exact ⟨M2, _, k1, k2, fun _ _ => k3, fun hno => absurd ⟨by omega, by omega⟩ hno, rfl⟩
   ·have : L.drop u = [] ∨ R.drop w = [] := by
     by_cases q0 : w = R.length
     ·exact .inr (Q8.1 (by omega))
     ·exact .inl (Q8.1 (by omega))
    refine ⟨L.drop u ++ R.drop w, h2, .refl _, ?_, fun a b => absurd ⟨by omega, by omega⟩ q, fun _ => rfl, ?_⟩
    ·rcases this with h | h <;> rw [h]
     ·rw [Z0]; exact sR.drop w
     ·rw [Q1]; exact sL.drop u
    ·rw [← Q2 (A ++ M1), set_same hi2]
  obtain ⟨M2, h3, k1, k2, mg2, mg20, eh3⟩ := st3
  have run := sm_walk A.length (A.length + L.length) (A.length + L.length + R.length) mid nn st0 r0 (A.length + u) (A.length + L.length + w) (.hsl i ver 0 n none) (.fn (.func g) [] caps) h h1 h2 h3 (n + 1) (by omega) (by omega) (by omega) (by omega) (by omega) hmid hnn hst loop hw.symm (by omega) (by omega) (by omega) rot rot0 mg1 mg10 mg2 mg20
  refine ⟨M1 ++ M2, ?_, ?_, lim_func rfl P_slices_symMergeCmpFunc_int (n + 1) ?_⟩
  ·refine (m1.append k1).trans ?_
   conv => rhs; rw [hLu, hRw]
   have := List.perm_append_comm (l₁ := R.take w) (l₂ := L.drop u)
   have h2 := (this.append_left (L.take u)).append_right (R.drop w)
   simp only [Q2] at h2 ⊢
   exact h2
  ·rw [SortedK, Q9]
   refine ⟨m2, k2, fun x hx y hy => ?_⟩
   have hx := (m1.mem_iff).1 hx
   have hy := (k1.mem_iff).1 hy
   rw [hLu] at sL
   rw [hRw] at sR
   rcases Y9.1 hx with hx | hx <;> rcases Y9.1 hy with hy | hy
   ·exact (Q9.1 sL).2.2 x hx y hy
   ·exact cross1 x hx y hy
   ·exact cross2 x hx y hy
   ·exact (Q9.1 sR).2.2 x hx y hy
  ·rw [run, eh3, eh2, eh1, set_set, set_set]
   simp
end
end Go.Proofs.Ytkgndbhflehhhaa.Ai
namespace Go.Proofs.Ytkgndbhflehhhaa.Ai
open Go Go.Proofs
open AV renaming junk → J
open List renaming length_append → Q0, append_nil → Q1, append_assoc → Q2, getD_cons_zero → Q3, getD_cons_succ → Q4, set_cons_zero → Q5, set_cons_succ → Q6, length_nil → Q7, length_eq_zero_iff → Q8, pairwise_append → Q9, nil_append → Z0, flatten_nil → Z1, mem_flatten → Z2, flatten_cons → Z3, length_cons → Z4, mem_of_mem_drop → Z5, mem_of_mem_take → Z6, pairwise_cons → Z7, take_append_drop → Z8, Perm → Z9, mem_cons → Y0, mem_append_right → Y1, length_take → Y2, cons_append → Y3, length_drop → Y4, mem_append_left → Y5, length_pos_iff → Y6, replicate_succ → Y7, replicate_zero → Y8, mem_append → Y9
open Option.some renaming injEq → W0
open Nat renaming le_refl → W1
open Option renaming map_some → W2
set_option linter.unusedVariables false
set_option linter.unusedSimpArgs false
set_option maxRecDepth 10000
set_option maxHeartbeats 4000000
abbrev CrossB (b c : List Int) : Prop := ∀ x ∈ b, ∀ y ∈ c, x < y
structure Blocks (K : Int → Int) (D : Int → Prop) (bs : Nat) (full : List (List Int)) (t : List Int) : Prop where
 len : ∀ b ∈ full, b.length = bs
 tl : t.length < bs
 sf : ∀ b ∈ full, SortedK K b
 st : SortedK K t
 cf : full.Pairwise CrossB
 ct : ∀ b ∈ full, CrossB b t
 df : ∀ b ∈ full, ∀ x ∈ b, D x
 dt : ∀ x ∈ t, D x
section
variable {i ver n : Nat} {x0 : Bool} {tl : List (List AV)} {g : Nat} {caps : List AV} {K : Int → Int} {D : Int → Prop} {E : AHeap → Prop}
theorem f_stable_0 (hC : CmpOk i g caps K D E) (hn : n ≤ 1000000000) (N : Nat) : ∀ (d m : Nat) (A R : List Int) (h : AHeap), R.length ≤ d → d < m → (∀ x ∈ R, D x) → R.Pairwise (· < ·) → (A ++ R).length = n → E h → h[i]? = some (.arr ver 1 x0 (eIs (A ++ R) ++ tl)) →
  ∃ (full : List (List Int)) (t : List Int), (∀ b ∈ full, b.length = 20) ∧ t.length < 20 ∧ (∀ b ∈ full, SortedK K b) ∧ t.Pairwise (· < ·) ∧ full.Pairwise CrossB ∧ (∀ b ∈ full, CrossB b t) ∧ Z9 (full.flatten ++ t) R ∧
   loopN (evalCode (lim G0.cfg) N B_slices_stableCmpFunc_int_0) m ⟨(.hsl i ver 0 n none :: .int .i64 n :: .fn (.func g) [] caps::J::J::J::.int .i64 20 :: .int .i64 A.length :: .int .i64 ((A.length + 20 : Nat) : Int)::J::J::J::J::J::J::J::J::J::J::J::J::J::J::J::J::J::J::J::J::J::J::J::J::J::J::J::J::J::J::J::J::J::J::J::J::J::J::J::J::J::J::J::J::J::J::J::J::J::J::J::J::J::J::[]), h⟩ = some (.exit 0, ⟨(.hsl i ver 0 n none :: .int .i64 n :: .fn (.func g) [] caps::J::J::J::.int .i64 20 :: .int .i64 ((A ++ full.flatten).length : Nat)::J::J::J::J::J::J::J::J::J::J::J::J::J::J::J::J::J::J::J::J::J::J::J::J::J::J::J::J::J::J::J::J::J::J::J::J::J::J::J::J::J::J::J::J::J::J::J::J::J::J::J::J::J::J::J::[]), h.set i (.arr ver 1 x0 (eIs (A ++ full.flatten ++ t) ++ tl))⟩) := by
 intro d
 induction d with
 | zero =>
  intro m A R h h1 h2 hD hR hl hE hi
  obtain ⟨m, rfl⟩ : ∃ q, m = q + 1 := ⟨m - 1, by omega⟩
  have : R = [] := Q8.1 (by omega)
  subst this
  rw [Q0, Q7] at hl
  have h5 : ¬ (((A.length + 20 : Nat) : Int) ≤ n) := by omega
  refine ⟨[], [], by simp, by simp, by simp, .nil, .nil, by simp, .refl _, ?_⟩
  simp only [Z1,Q1] at hi ⊢
  rw [set_same hi]
  simp only [loop_e,EB_slices_stableCmpFunc_int_0,Zab,Zac,Zad,Zag,Zah,Zaj,Zak,Zal,Zas,Zav,Zay,Zbi,Zbk,Zbq,Zcv,Zcx,Zdb,Zdc,Zdd,Q5,Q6,Q3,Q4,Zdi,decide_false,eq_self,h5]
 | succ d ih =>
  intro m A R h h1 h2 hD hR hl hE hi
  obtain ⟨m, rfl⟩ : ∃ q, m = q + 1 := ⟨m - 1, by omega⟩
  have hl' := hl
  rw [Q0] at hl'
  by_cases q : 20 ≤ R.length
  case neg =>
   have h5 : ¬ (((A.length + 20 : Nat) : Int) ≤ n) := by omega
   refine ⟨[], R, by simp, by omega, by simp, hR, .nil, by simp, by simp, ?_⟩
   rw [Z1, Q1, set_same hi]
   simp only [loop_e,EB_slices_stableCmpFunc_int_0,Zab,Zac,Zad,Zag,Zah,Zaj,Zak,Zal,Zas,Zav,Zay,Zbi,Zbk,Zbq,Zcv,Zcx,Zdb,Zdc,Zdd,Q5,Q6,Q3,Q4,Zdi,decide_false,eq_self,h5]
  case pos =>
   have h5 : ((A.length + 20 : Nat) : Int) ≤ n := by omega
   have hRs : R = R.take 20 ++ R.drop 20 := (Z8 20 R).symm
   have l20 : (R.take 20).length = 20 := by rw [Y2]; omega
   have hRp := hR
   rw [hRs, Q9] at hRp
   have ea : A ++ R = A ++ R.take 20 ++ R.drop 20 := by rw [Q2, ← hRs]
   have hi0 := hi
   rw [ea] at hi0
   obtain ⟨M, p1, p2, p3⟩ := f_insertion (ver := ver) (x0 := x0) (tl := tl) hC hn A (R.take 20) (R.drop 20) h (fun x hx => hD x (Z6 hx)) hRp.1 (by rw [← ea]; exact hl) hE hi0
   rw [l20] at p3
   have lM : M.length = 20 := by rw [p1.length_eq, l20]
   have g1 := get_set_eq (y := AObj.arr ver 1 x0 (eIs ((A ++ M) ++ R.drop 20) ++ tl)) hi
   obtain ⟨full, t, k1, k2, k3, k4, k5, k6, k7, e⟩ := ih m (A ++ M) (R.drop 20) _ (by rw [Y4]; omega) (by omega) (fun x hx => hD x (Z5 hx)) hRp.2.1 (by rw [Q0, Q0, lM, Y4]; omega) (hC.keep _ _ hE) g1
   have hcM : ∀ x ∈ M, ∀ y, y ∈ full.flatten ++ t → x < y := fun x hx y hy => hRp.2.2 x (p1.mem_iff.1 hx) y (k7.mem_iff.1 hy)
   refine ⟨M :: full, t, fun b hb => ?_, k2, fun b hb => ?_, k4, ?_, fun b hb => ?_, ?_, ?_⟩
   ·rcases Y0.1 hb with rfl | hb
    ·exact lM
    ·exact k1 b hb
   ·rcases Y0.1 hb with rfl | hb
    ·exact p2
    ·exact k3 b hb
   ·exact Z7.2 ⟨fun b hb x hx y hy => hcM x hx y (Y5 _ (Z2.2 ⟨b, hb, hy⟩)), k5⟩
   ·rcases Y0.1 hb with rfl | hb
    ·exact fun x hx y hy => hcM x hx y (Y1 _ hy)
    ·exact k6 b hb
   ·rw [Z3, Q2]
    conv => rhs; rw [hRs]
    exact p1.append k7
   ·rw [set_set] at e
    have e1 : ((A ++ M).length : Int) = ((A.length + 20 : Nat) : Int) := by rw [Q0, lM]
    have e2 : (((A ++ M).length + 20 : Nat) : Int) = ((A.length + 20 + 20 : Nat) : Int) := by rw [Q0, lM]
    have e3 : A ++ M ++ full.flatten = A ++ (M :: full).flatten := by simp
    rw [e1, e2, e3] at e
    have w1 : IntKind.i64.wrap (((A.length + 20 : Nat) : Int) + 20) = ((A.length + 20 + 20 : Nat) : Int) := by rw [w64 (by omega) (by omega)]; omega
    rw [← e]
    simp only [loop_e,EB_slices_stableCmpFunc_int_0,Zaa,Zab,Zac,Zad,Zae,Zag,Zaj,Zak,Zan,Zar,Zau,Zay,Zaz,Zbi,Zbk,Zbq,Zcp,Zcq,Zcv,Zcw,Zcx,Zcz,Zda,Zdb,Zdc,Zdd,Q5,Q6,Q3,Q4,Zde,Zdi,decide_true,eq_self,h5,p3,Q1,Z0,w1]
theorem f_stable_2 (hC : CmpOk i g caps K D E) (hn : n ≤ 1000000000) (bs : Nat) (hbs : 0 < bs) (hbn : bs ≤ n) (N : Nat) (t : List Int) (ht : t.length < bs) : ∀ (d m : Nat) (A : List Int) (full : List (List Int)) (h : AHeap), full.length ≤ d → d < m → Blocks K D bs full t → (A ++ full.flatten ++ t).length = n → E h → h[i]? = some (.arr ver 1 x0 (eIs (A ++ full.flatten ++ t) ++ tl)) →
  ∃ (full' rest : List (List Int)), (rest = [] ∨ ∃ b, rest = [b] ∧ b ∈ full) ∧ (∀ b ∈ full', b.length = 2 * bs) ∧ (∀ b ∈ full', SortedK K b) ∧ (full' ++ rest).Pairwise CrossB ∧ Z9 (full'.flatten ++ rest.flatten) full.flatten ∧
   loopN (evalCode (lim G0.cfg) N B_slices_stableCmpFunc_int_2) m ⟨(.hsl i ver 0 n none :: .int .i64 n :: .fn (.func g) [] caps::J::J::J::.int .i64 bs :: .int .i64 A.length :: .int .i64 ((A.length + 2 * bs : Nat) : Int)::J::J::J::J::J::J::J::J::J::J::J::J::J::J::J::J::J::J::J::J::J::J::J::J::J::J::J::J::J::J::J::J::J::J::J::J::J::J::J::J::J::J::J::J::J::J::J::J::J::J::J::J::J::J::[]), h⟩ = some (.exit 4, ⟨(.hsl i ver 0 n none :: .int .i64 n :: .fn (.func g) [] caps::J::J::J::.int .i64 bs :: .int .i64 ((A ++ full'.flatten).length : Nat)::J::J::J::J::J::J::J::J::J::J::J::J::J::J::J::J::J::J::J::J::J::J::J::J::J::J::J::J::J::J::J::J::J::J::J::J::J::J::J::J::J::J::J::J::J::J::J::J::J::J::J::J::J::J::J::[]), h.set i (.arr ver 1 x0 (eIs (A ++ full'.flatten ++ rest.flatten ++ t) ++ tl))⟩) := by
 intro d
 induction d with
 | zero =>
  intro m A full h h1 h2 hB hl hE hi
  obtain ⟨m, rfl⟩ : ∃ q, m = q + 1 := ⟨m - 1, by omega⟩
  have : full = [] := Q8.1 (by omega)
  subst this
  simp only [Z1,Q1] at hl hi
  rw [Q0] at hl
  have h5 : ¬ (((A.length + 2 * bs : Nat) : Int) ≤ n) := by omega
  refine ⟨[], [], .inl rfl, by simp, by simp, .nil, .refl _, ?_⟩
  simp only [Z1,Q1]
  rw [set_same hi]
  simp only [loop_e,EB_slices_stableCmpFunc_int_2,Zab,Zac,Zad,Zag,Zah,Zaj,Zak,Zal,Zas,Zav,Zay,Zbi,Zbk,Zbq,Zcv,Zcx,Zdb,Zdc,Zdd,Q5,Q6,Q3,Q4,Zdi,decide_false,eq_self,h5]
 | succ d ih =>
  intro m A full h h1 h2 hB hl hE hi
  obtain ⟨m, rfl⟩ : ∃ q, m = q + 1 := ⟨m - 1, by omega⟩
  match full, hB, hl, hi, h1 with
  | [], hB, hl, hi, h1 =>
   simp only [Z1,Q1] at hl hi
   rw [Q0] at hl
   have h5 : ¬ (((A.length + 2 * bs : Nat) : Int) ≤ n) := by omega
   refine ⟨[], [], .inl rfl, by simp, by simp, .nil, .refl _, ?_⟩
   simp only [Z1,Q1]
   rw [set_same hi]
   simp only [loop_e,EB_slices_stableCmpFunc_int_2,Zab,Zac,Zad,Zag,Zah,Zaj,Zak,Zal,Zas,Zav,Zay,Zbi,Zbk,Zbq,Zcv,Zcx,Zdb,Zdc,Zdd,Q5,Q6,Q3,Q4,Zdi,decide_false,eq_self,h5]
  | [b], hB, hl, hi, h1 =>
   have lb := hB.len b (by simp)
   simp only [Z3,Z1,Q1] at hl hi
   simp only [Q0] at hl
   have h5 : ¬ (((A.length + 2 * bs : Nat) : Int) ≤ n) := by omega
   refine ⟨[], [b], .inr ⟨b, rfl, by simp⟩, by simp, by simp, List.pairwise_singleton _ _, by simp, ?_⟩
   simp only [Z3,Z1,Q1]
   rw [set_same hi]
   simp only [loop_e,EB_slices_stableCmpFunc_int_2,Zab,Zac,Zad,Zag,Zah,Zaj,Zak,Zal,Zas,Zav,Zay,Zbi,Zbk,Zbq,Zcv,Zcx,Zdb,Zdc,Zdd,Q5,Q6,Q3,Q4,Zdi,decide_false,eq_self,h5]
  | b :: c :: r, hB, hl, hi, h1 =>
   have lb := hB.len b (by simp)
   have lc := hB.len c (by simp)
   have hl' := hl
   simp only [Z3,Q0] at hl'
   have h5 : ((A.length + 2 * bs : Nat) : Int) ≤ n := by omega
   have ea : A ++ (b :: c :: r).flatten ++ t = A ++ b ++ c ++ (r.flatten ++ t) := by simp
   rw [ea] at hl hi
   have hcf := hB.cf
   rw [Z7, Z7] at hcf
   obtain ⟨M, p1, p2, p3⟩ := f_symMerge (ver := ver) (x0 := x0) (tl := tl) hC hn (b.length + c.length) A b c (r.flatten ++ t) h (W1 _) (by intro e; rw [e] at lb; simp at lb; omega) (by intro e; rw [e] at lc; simp at lc; omega) (hB.df b (by simp)) (hB.df c (by simp)) (hB.sf b (by simp)) (hB.sf c (by simp)) (hcf.1 c (by simp)) hl hE hi
   have lM : M.length = 2 * bs := by rw [p1.length_eq, Q0, lb, lc]; omega
   have g1 := get_set_eq (y := AObj.arr ver 1 x0 (eIs ((A ++ M) ++ r.flatten ++ t) ++ tl)) hi
   have eb : A ++ M ++ (r.flatten ++ t) = (A ++ M) ++ r.flatten ++ t := by simp
   rw [eb, lb, lc] at p3
   have hB' : Blocks K D bs r t := ⟨fun x hx => hB.len x (by simp [hx]), hB.tl, fun x hx => hB.sf x (by simp [hx]), hB.st, hcf.2.2, fun x hx => hB.ct x (by simp [hx]), fun x hx => hB.df x (by simp [hx]), hB.dt⟩
   obtain ⟨full', rest, k0, k1, k2, k3, k4, e⟩ := ih m (A ++ M) r _ (by simp at h1; omega) (by omega) hB' (by simp only [Q0,lM]; omega) (hC.keep _ _ hE) g1
   refine ⟨M :: full', rest, ?_, fun x hx => ?_, fun x hx => ?_, ?_, ?_, ?_⟩
   ·rcases k0 with k0 | ⟨x, k0, hx⟩
    ·exact .inl k0
    ·exact .inr ⟨x, k0, by simp [hx]⟩
   ·rcases Y0.1 hx with rfl | hx
    ·exact lM
    ·exact k1 x hx
   ·rcases Y0.1 hx with rfl | hx
    ·exact p2
    ·exact k2 x hx
   ·rw [Y3, Z7]
    refine ⟨fun x hx u hu v hv => ?_, k3⟩
    have hv' : v ∈ r.flatten := by
     refine k4.mem_iff.1 ?_
     rw [← List.flatten_append]
     exact Z2.2 ⟨x, hx, hv⟩
    obtain ⟨y, hy, hvy⟩ := Z2.1 hv'
    rcases Y9.1 (p1.mem_iff.1 hu) with hu | hu
    ·exact hcf.1 y (by simp [hy]) u hu v hvy
    ·exact hcf.2.1 y hy u hu v hvy
   ·simp only [Z3,Q2]
    have := p1.append k4
    simpa using this
   ·rw [set_set] at e
    have e1 : ((A ++ M).length : Int) = ((A.length + 2 * bs : Nat) : Int) := by rw [Q0, lM]
    have e2 : (((A ++ M).length + 2 * bs : Nat) : Int) = ((A.length + 2 * bs + 2 * bs : Nat) : Int) := by rw [Q0, lM]
    have e3 : A ++ M ++ full'.flatten = A ++ (M :: full').flatten := by simp
    rw [e1, e2, e3] at e
    have w0 : IntKind.i64.wrap ((A.length : Int) + bs) = ((A.length + bs : Nat) : Int) := by rw [w64 (by omega) (by omega)]; omega
    have w1 : IntKind.i64.wrap (2 * (bs : Int)) = ((2 * bs : Nat) : Int) := by rw [w64 (by omega) (by omega)]; omega
    have w2 : IntKind.i64.wrap (((A.length + 2 * bs : Nat) : Int) + ((2 * bs : Nat) : Int)) = ((A.length + 2 * bs + 2 * bs : Nat) : Int) := by rw [w64 (by omega) (by omega)]; omega
    rw [show A.length + bs + bs = A.length + 2 * bs by omega] at p3
    rw [← e]
    simp only [loop_e,EB_slices_stableCmpFunc_int_2,Zaa,Zab,Zac,Zad,Zae,Zag,Zaj,Zak,Zan,Zar,Zau,Zay,Zaz,Zbi,Zbk,Zbq,Zcp,Zcq,Zcv,Zcw,Zcx,Zcz,Zda,Zdb,Zdc,Zdd,Q5,Q6,Q3,Q4,Zde,Zdg,Zdi,decide_true,eq_self,h5,w0,p3,Q1,Z0,w1,w2]
theorem f_stable_1 (hC : CmpOk i g caps K D E) (hn : n ≤ 1000000000) (N : Nat) (hN : n < N) : ∀ (d m bs : Nat) (full : List (List Int)) (t : List Int) (h : AHeap), n - bs ≤ d → d < m → 0 < bs → bs ≤ 2 * n + 20 → Blocks K D bs full t → (full.flatten ++ t).length = n → E h → h[i]? = some (.arr ver 1 x0 (eIs (full.flatten ++ t) ++ tl)) →
  ∃ l', Z9 l' (full.flatten ++ t) ∧ SortedK K l' ∧
   loopN (evalCode (lim G0.cfg) N B_slices_stableCmpFunc_int_1) m ⟨(.hsl i ver 0 n none :: .int .i64 n :: .fn (.func g) [] caps::J::J::J::.int .i64 bs::J::J::J::J::J::J::J::J::J::J::J::J::J::J::J::J::J::J::J::J::J::J::J::J::J::J::J::J::J::J::J::J::J::J::J::J::J::J::J::J::J::J::J::J::J::J::J::J::J::J::J::J::J::J::J::J::[]), h⟩ = some (.exit 2, ⟨(J::J::J::J::J::J::J::J::J::J::J::J::J::J::J::J::J::J::J::J::J::J::J::J::J::J::J::J::J::J::J::J::J::J::J::J::J::J::J::J::J::J::J::J::J::J::J::J::J::J::J::J::J::J::J::J::J::J::J::J::J::J::J::[]), h.set i (.arr ver 1 x0 (eIs l' ++ tl))⟩) := by
 intro d
 have base : ∀ (m bs : Nat) (full : List (List Int)) (t : List Int) (h : AHeap), n ≤ bs → 0 < m → Blocks K D bs full t → (full.flatten ++ t).length = n → h[i]? = some (.arr ver 1 x0 (eIs (full.flatten ++ t) ++ tl)) →
   ∃ l', Z9 l' (full.flatten ++ t) ∧ SortedK K l' ∧
   loopN (evalCode (lim G0.cfg) N B_slices_stableCmpFunc_int_1) m ⟨(.hsl i ver 0 n none :: .int .i64 n :: .fn (.func g) [] caps::J::J::J::.int .i64 bs::J::J::J::J::J::J::J::J::J::J::J::J::J::J::J::J::J::J::J::J::J::J::J::J::J::J::J::J::J::J::J::J::J::J::J::J::J::J::J::J::J::J::J::J::J::J::J::J::J::J::J::J::J::J::J::J::[]), h⟩ = some (.exit 2, ⟨(J::J::J::J::J::J::J::J::J::J::J::J::J::J::J::J::J::J::J::J::J::J::J::J::J::J::J::J::J::J::J::J::J::J::J::J::J::J::J::J::J::J::J::J::J::J::J::J::J::J::J::J::J::J::J::J::J::J::J::J::J::J::J::[]), h.set i (.arr ver 1 x0 (eIs l' ++ tl))⟩) := by
  intro m bs full t h h1 h2 hB hl hi
  obtain ⟨m, rfl⟩ : ∃ q, m = q + 1 := ⟨m - 1, by omega⟩
  have h5 : ¬ ((bs : Int) < n) := by omega
  refine ⟨full.flatten ++ t, .refl _, ?_, ?_⟩
  ·match full, hB, hl with
   | [], hB, hl => simpa using hB.st
   | [b], hB, hl =>
    have lb := hB.len b (by simp)
    have : t = [] := by
     simp only [Z3,Z1,Q1,Q0] at hl
     exact Q8.1 (by omega)
    subst this
    simpa using hB.sf b (by simp)
   | b :: c :: r, hB, hl =>
    have lb := hB.len b (by simp)
    have lc := hB.len c (by simp)
    have := hB.tl
    simp only [Z3,Q0] at hl
    omega
  ·rw [set_same hi]
   simp only [loop_e,EB_slices_stableCmpFunc_int_1,Zab,Zac,Zad,Zag,Zah,Zaj,Zak,Zal,Zas,Zav,Zay,Zbi,Zbk,Zbq,Zcv,Zcx,Zdc,Zdd,Q5,Q6,Q3,Q4,Zdh,decide_false,eq_self,h5]
 induction d with
 | zero =>
  intro m bs full t h h1 h2 h3 h4 hB hl hE hi
  exact base m bs full t h (by omega) (by omega) hB hl hi
 | succ d ih =>
  intro m bs full t h h1 h2 h3 h4 hB hl hE hi
  by_cases q : bs < n
  case neg => exact base m bs full t h (by omega) (by omega) hB hl hi
  case pos =>
  obtain ⟨m, rfl⟩ : ∃ q, m = q + 1 := ⟨m - 1, by omega⟩
  have h5 : (bs : Int) < n := by omega
  have hfl : full.length ≤ n := by
   have : ∀ fl : List (List Int), (∀ b ∈ fl, b.length = bs) → fl.length ≤ fl.flatten.length := by
    intro fl
    induction fl with
    | nil => intro _; simp
    | cons b r ihr =>
     intro hb
     have := ihr (fun x hx => hb x (by simp [hx]))
     have := hb b (by simp)
     simp only [Z3,Z4,Q0]; omega
   have := this full hB.len
   rw [Q0] at hl; omega
  obtain ⟨full', rest, k0, k1, k2, k3, k4, e⟩ := f_stable_2 (ver := ver) (x0 := x0) (tl := tl) hC hn bs h3 (by omega) N t hB.tl full.length N [] full h (W1 _) (by omega) hB hl hE hi
  simp only [Z0,Q7,z0,Nat.zero_add] at e
  have w1 : IntKind.i64.wrap (2 * (bs : Int)) = ((2 * bs : Nat) : Int) := by rw [w64 (by omega) (by omega)]; omega
  have w3 : IntKind.i64.wrap ((bs : Int) * 2) = ((2 * bs : Nat) : Int) := by rw [w64 (by omega) (by omega)]; omega
  have hlen : (full'.flatten ++ rest.flatten).length = full.flatten.length := k4.length_eq
  have hl' := hl
  rw [Q0] at hl' hlen
  have w2 : IntKind.i64.wrap ((full'.flatten.length : Int) + bs) = ((full'.flatten.length + bs : Nat) : Int) := by rw [w64 (by omega) (by omega)]; omega
  have hdf' : ∀ b ∈ full', ∀ x ∈ b, D x := fun b hb x hx => by
   have : x ∈ full.flatten := k4.mem_iff.1 (Y5 _ (Z2.2 ⟨b, hb, hx⟩))
   obtain ⟨y, hy, hxy⟩ := Z2.1 this
   exact hB.df y hy x hxy
  have hct' : ∀ b ∈ full', CrossB b t := fun b hb x hx z hz => by
   have : x ∈ full.flatten := k4.mem_iff.1 (Y5 _ (Z2.2 ⟨b, hb, hx⟩))
   obtain ⟨y, hy, hxy⟩ := Z2.1 this
   exact hB.ct y hy x hxy z hz
  have g1 := get_set_eq (y := AObj.arr ver 1 x0 (eIs (full'.flatten ++ rest.flatten ++ t) ++ tl)) hi
  -- the last two blocks
  have fin2 : ∃ t' h2, t'.length < 2 * bs ∧ SortedK K t' ∧ Z9 t' (rest.flatten ++ t) ∧ h2 = h.set i (.arr ver 1 x0 (eIs (full'.flatten ++ t') ++ tl)) ∧
    (full'.flatten.length + bs < n → lim G0.cfg (.func 57) [.hsl i ver 0 n none, .int .i64 full'.flatten.length, .int .i64 ((full'.flatten.length + bs : Nat) : Int), .int .i64 n, .fn (.func g) [] caps] (h.set i (.arr ver 1 x0 (eIs (full'.flatten ++ rest.flatten ++ t) ++ tl))) = some (AV.un, h2)) ∧ (¬ full'.flatten.length + bs < n → h2 = h.set i (.arr ver 1 x0 (eIs (full'.flatten ++ rest.flatten ++ t) ++ tl))) := by
   have htl := hB.tl
   rcases k0 with rfl | ⟨b, rfl, hb⟩
   ·refine ⟨t, _, by omega, hB.st, by simp, rfl, fun hh => ?_, fun _ => by simp⟩
    simp only [Z1,Q7] at hlen
    omega
   ·have lb := hB.len b hb
    simp only [Z3,Z1,Q1] at hlen g1 ⊢
    by_cases ht0 : t = []
    ·subst ht0
     refine ⟨b, _, by omega, hB.sf b hb, by simp, rfl, fun hh => ?_, fun _ => by simp⟩
     simp only [Q7] at hl'
     omega
    ·have pt := Y6.2 ht0
     have lg : (full'.flatten ++ b ++ t ++ []).length = n := by simp only [Q0,Q7]; omega
     obtain ⟨M, p1, p2, p3⟩ := f_symMerge (ver := ver) (x0 := x0) (tl := tl) hC hn (b.length + t.length) full'.flatten b t [] _ (W1 _) (by intro e; rw [e] at lb; simp at lb; omega) ht0 (hB.df b hb) hB.dt (hB.sf b hb) hB.st (hB.ct b hb) lg (hC.keep _ (.arr ver 1 x0 (eIs (full'.flatten ++ b ++ t) ++ tl)) hE) (by simpa using g1)
     rw [lb, Q1, set_set, show full'.flatten.length + bs + t.length = n by omega] at p3
     refine ⟨M, _, by rw [p1.length_eq, Q0]; omega, p2, p1, rfl, fun _ => p3, fun hno => absurd (by omega) hno⟩
  obtain ⟨t', h2, f1, f2, f3, f4, f5, f6⟩ := fin2
  have hB2 : Blocks K D (2 * bs) full' t' := ⟨k1, f1, k2, f2, (Q9.1 k3).1, fun b hb x hx y hy => by
   rcases Y9.1 (f3.mem_iff.1 hy) with hy | hy
   ·obtain ⟨z, hz, hyz⟩ := Z2.1 hy
    exact (Q9.1 k3).2.2 b hb z hz x hx y hyz
   ·exact hct' b hb x hx y hy, hdf', fun x hx => by
   rcases Y9.1 (f3.mem_iff.1 hx) with hx | hx
   ·have : x ∈ full.flatten := k4.mem_iff.1 (Y1 _ hx)
    obtain ⟨y, hy, hxy⟩ := Z2.1 this
    exact hB.df y hy x hxy
   ·exact hB.dt x hx⟩
  have hp : Z9 (full'.flatten ++ t') (full.flatten ++ t) := by
   refine (f3.append_left full'.flatten).trans ?_
   rw [← Q2]
   exact k4.append_right t
  obtain ⟨l', j1, j2, j3⟩ := ih m (2 * bs) full' t' h2 (by omega) (by omega) (by omega) (by omega) hB2 (by rw [hp.length_eq]; exact hl) (by rw [f4]; exact hC.keep _ _ hE) (by rw [f4]; exact get_set_eq hi)
  refine ⟨l', j1.trans hp, j2, ?_⟩
  have eh2 : h2.set i (.arr ver 1 x0 (eIs l' ++ tl)) = h.set i (.arr ver 1 x0 (eIs l' ++ tl)) := by rw [f4, set_set]
  rw [eh2] at j3
  rw [← j3]
  have cc : (((full'.flatten.length + bs : Nat) : Int) < n) ↔ full'.flatten.length + bs < n := by omega
  by_cases q2 : full'.flatten.length + bs < n
  ·have r := f5 q2
   simp only [loop_e,EB_slices_stableCmpFunc_int_1,Zaa,Zab,Zac,Zad,Zae,Zaf,Zag,Zaj,Zak,Zan,Zap,Zar,Zat,Zau,Zay,Zaz,Zbi,Zbk,Zbq,Zcp,Zcq,Zcv,Zcw,Zcx,Zcz,Zda,Zdb,Zdc,Zdd,Q5,Q6,Q3,Q4,Zde,Zdg,Zdh,decide_true,eq_self,h5,w1,e,w2,cc,q2,r,Q1,Z0,w3]
  ·have r := f6 q2
   rw [← r] at e
   simp only [loop_e,EB_slices_stableCmpFunc_int_1,Zaa,Zab,Zac,Zad,Zae,Zaf,Zag,Zaj,Zak,Zan,Zap,Zar,Zas,Zat,Zau,Zay,Zbi,Zbk,Zbq,Zcv,Zcw,Zcx,Zdb,Zdc,Zdd,Q5,Q6,Q3,Q4,Zde,Zdg,Zdh,decide_true,decide_false,eq_self,h5,w1,e,w2,cc,q2,w3]
theorem f_SortStable (hC : CmpOk i g caps K D E) (hn : n ≤ 1000000000) (l : List Int) (h : AHeap) (hD : ∀ x ∈ l, D x) (hlt : l.Pairwise (· < ·)) (hl : l.length = n) (hE : E h) (hi : h[i]? = some (.arr ver 1 x0 (eIs l ++ tl))) :
  ∃ l', Z9 l' l ∧ SortedK K l' ∧ lim G0.cfg (.func 35) [.hsl i ver 0 n none, .fn (.func g) [] caps] h = some (AV.un, h.set i (.arr ver 1 x0 (eIs l' ++ tl))) := by
 obtain ⟨full, t, k1, k2, k3, k4, k5, k6, k7, e⟩ := f_stable_0 (ver := ver) (x0 := x0) (tl := tl) hC hn (n + 1) n (n + 1) [] l h (by omega) (by omega) hD hlt (by simpa using hl) hE (by simpa using hi)
 simp only [Z0,Q7,z0,Nat.zero_add] at e
 have z20 : ((20 : Nat) : Int) = 20 := rfl
 rw [z20] at e
 have g1 := get_set_eq (y := AObj.arr ver 1 x0 (eIs (full.flatten ++ t ++ []) ++ tl)) hi
 have hlen := k7.length_eq
 have hlt' : (full.flatten ++ t ++ []).length = n := by rw [Q1, hlen]; exact hl
 have hdt : ∀ x ∈ full.flatten ++ t, D x := fun x hx => hD x (k7.mem_iff.1 hx)
 obtain ⟨t', p1, p2, p3⟩ := f_insertion (ver := ver) (x0 := x0) (tl := tl) hC hn full.flatten t [] _ (fun x hx => hdt x (Y1 _ hx)) k4 hlt' (hC.keep _ (.arr ver 1 x0 (eIs (full.flatten ++ t ++ []) ++ tl)) hE) g1
 rw [Q1, Q1, set_set, show full.flatten.length + t.length = n by rw [← Q0, hlen]; exact hl] at p3
 have hB : Blocks K D 20 full t' := ⟨k1, by rw [p1.length_eq]; exact k2, k3, p2, k5, fun b hb x hx y hy => k6 b hb x hx y (p1.mem_iff.1 hy), fun b hb x hx => hdt x (Y5 _ (Z2.2 ⟨b, hb, hx⟩)), fun x hx => hdt x (Y1 _ (p1.mem_iff.1 hx))⟩
 have hp : Z9 (full.flatten ++ t') l := (p1.append_left _).trans k7
 obtain ⟨l', j1, j2, j3⟩ := f_stable_1 (ver := ver) (x0 := x0) (tl := tl) hC hn (n + 1) (by omega) n (n + 1) 20 full t' (h.set i (.arr ver 1 x0 (eIs (full.flatten ++ t') ++ tl))) (by omega) (by omega) (by omega) (by omega) hB (by rw [hp.length_eq]; exact hl) (hC.keep _ _ hE) (get_set_eq hi)
 rw [set_set, z20] at j3
 refine ⟨l', j1.trans hp, j2, ?_⟩
 have st : lim G0.cfg (.func 49) [.hsl i ver 0 n none, .int .i64 n, .fn (.func g) [] caps] h = some (AV.un, h.set i (.arr ver 1 x0 (eIs l' ++ tl))) := by
  refine lim_func rfl P_slices_stableCmpFunc_int (n + 1) ?_
  rw [R_slices_stableCmpFunc_int]
  simp only [Zab,Zac,Zae,Zaf,Zag,Zaj,Zak,Zap,Zat,Zaz,Zbi,Zbk,Zcp,Zcq,Zct,Zcv,Zcw,Zcx,Zcz,Zda,Zdb,Zdc,Zdd,Q5,Q6,Q3,Q4,W2,Z4,Q7,Nat.reduceAdd,Nat.reduceSub,eq_self,and_true,Z4,Q7,Y7,Y8,Y3,Z0,e,p3,j3,Q1,resAll,resVals,W0,Prod.mk.injEq,and_true]
  rfl
 refine lim_func rfl P_slices_SortStableFunc_sint_int 1 ?_
 rw [R_slices_SortStableFunc_sint_int]
 simp only [Zab,Zaj,Zay,Zaz,Zbi,Zbk,Zcg,Zcp,Zcq,Zct,Zcv,Zcw,Zcx,Zcz,Zda,Q5,Q6,Q3,Q4,W2,Zdv,Z4,Q7,Nat.reduceAdd,Nat.reduceSub,eq_self,and_true,Z4,Q7,Y7,Y8,Y3,Z0,st,Q1,resAll,resVals,W0,Prod.mk.injEq,and_true]
 rfl
end
end Go.Proofs.Ytkgndbhflehhhaa.Ai
