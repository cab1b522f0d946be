/- pack.numbers. -/
import Derived.Test.YtkgndbhflehhhaamPqz
import Derived.Test.YtkgndbhflehhhaamPmu
import Derived.Test.YtkgndbhflehhhaamPnz
namespace Go.Proofs.Ytkgndbhflehhhaa.Ai
open Go Go.Proofs
open AV renaming junk → J
open List renaming getD_cons_zero → Q0, getD_cons_succ → Q1, set_cons_zero → Q2, set_cons_succ → Q3, length_nil → Q4, nil_append → Q5, length_cons → Q6, cons_append → Q7, replicate_succ → Q8, replicate_zero → Q9, drop_eq_getElem_cons → Z1, drop_eq_nil_iff → Z5, drop_zero → Z6, append_assoc → Z7, append_nil → Y0, map_cons → Y2, all_cons → Y4
open Option renaming map_some → Z0
open Bool renaming false_and → Z2, not_true → Z3, true_and → Z8, not_false → Z9, decide_and → Y1
open Option.some renaming injEq → Z4
open Nat renaming le_refl → Y3
set_option linter.unusedVariables false
set_option linter.unusedSimpArgs false
set_option maxRecDepth 10000
set_option maxHeartbeats 4000000
def rowOkT (n : Int) (tm nt : Nat) (a : List (List (Int × Int))) (g : List Int) : Bool := (decide (a.length = tm) && decide (g.length = nt)) && (nonNeg (a.map (numD n)) && nonNeg (g.map (gtoD n)))
def allOk (n : Int) (tm nt : Nat) : List (List (List (Int × Int))) → List (List Int) → Bool
 | a :: al, g :: gl => rowOkT n tm nt a g && allOk n tm nt al gl
 | _, _ => true
def rowsA (n : Int) (l : List (List (List (Int × Int)))) : List (List Int) := l.map fun r => r.map (numD n)
def rowsG (n : Int) (l : List (List Int)) : List (List Int) := l.map fun r => r.map (gtoD n)
section
variable {v2 v3 v7 v6 v8 v9 v10 v55 v56 : AV} {B : Nat}
theorem num_1 {row : List (List (Int × Int))} {rv : AV} (hr : LiG LiA row rv) (hm : row.length ≤ 1000) (n : Nat) (hn : n ≤ 4096) (N : Nat) (hB : 1 ≤ B) : ∀ (d i m : Nat) (xs : List Int) (h : AHeap) (w : AV) (q : Option Nat), row.length = i + d → d < m → OwnG 1 (eIs xs) w h q → (∀ i, q = some i → B ≤ i) → B ≤ h.length → xs.length = i →
  ∃ (h' : AHeap) (w' : AV) (q' : Option Nat), loopN (evalCode (lim G0.cfg) N B_pack_numbers_1) m ⟨(J::.ptr 0 0 0 0 :: v2 :: v3::J::.int .i64 n :: v6 :: v7 :: v8 :: w :: v10::J::J::J::J::J::J::J::J::J::J::J::J::J::J::J::J::J::J::J::J::J::J::J::J::J::J::J::J::J::J::J::J::J::J::J::J::J::J::J::J::J::J::J::J::v55 :: v56::J::J::J::J::J::J::J::J::J::J::J::J::J::J::J::J::J::J::J::J::J::J::J::J::rv :: .int .i64 row.length :: .int .i64 i::J::J::J::J::J::J::J::J::J::J::J::J::J::J::J::J::J::J::J::J::J::J::J::J::J::J::J::J::J::J::J::J::J::J::J::J::J::J::J::J::J::J::J::J::J::J::J::J::J::J::J::J::[]), h⟩ = some (.exit 2, ⟨(J::.ptr 0 0 0 0 :: v2 :: v3::J::.int .i64 n :: v6 :: v7 :: v8 :: w' :: v10::J::J::J::J::J::J::J::J::J::J::J::J::J::J::J::J::J::J::J::J::J::J::J::J::J::J::J::J::J::J::J::J::J::J::J::J::J::J::J::J::J::J::J::J::v55 :: v56::J::J::J::J::J::J::J::J::J::J::J::J::J::J::J::J::J::J::J::J::J::J::J::J::J::J::J::J::J::J::J::J::J::J::J::J::J::J::J::J::J::J::J::J::J::J::J::J::J::J::J::J::J::J::J::J::J::J::J::J::J::J::J::J::J::J::J::J::J::J::J::J::J::J::J::J::J::J::J::[]), h'⟩) ∧
   OwnG 1 (eIs (xs ++ (row.drop i).map (numD n))) w' h' q' ∧ (∀ i, q' = some i → B ≤ i) ∧ B ≤ h'.length ∧ (∀ (j : Nat) (o : AObj), j < B → h[j]? = some o → h'[j]? = some o) := by
 intro d
 induction d with
 | zero =>
  intro i m xs h w q h1 h2 ow tv lb lx
  obtain ⟨m, rfl⟩ : ∃ q, m = q + 1 := ⟨m - 1, by omega⟩
  have h3 : ¬ ((i : Int) < row.length) := by omega
  have q1 : row.drop i = [] := Z5.2 (by omega)
  rw [q1, List.map_nil, Y0]
  refine ⟨h, w, q, ?_, ow, tv, lb, fun _ _ _ e => e⟩
  simp only [loop_e,EB_pack_numbers_1,Zab,Zac,Zad,Zag,Zah,Zaj,Zak,Zal,Zas,Zav,Zay,Zbi,Zbq,Zcv,Zcx,Zdb,Zdc,Zdd,Q2,Q3,Q0,Q1,Zdh,decide_false,eq_self,h3]
 | succ d ih =>
  intro i m xs h w q h1 h2 ow tv lb lx
  obtain ⟨m, rfl⟩ : ∃ q, m = q + 1 := ⟨m - 1, by omega⟩
  have h3 : i < row.length := by omega
  have h3' : (i : Int) < row.length := by omega
  have hw := w64s (n := i) (by omega)
  have q1 : row.drop i = row[i] :: row.drop (i + 1) := Z1 h3
  obtain ⟨cv, hc, xc⟩ := hr.ix i h3
  have lv : ∀ (h : AHeap), aload h 1 false (.vptr [cv] 0) = some cv := fun _ => rfl
  have fc := f_number hc (n : Int) ⟨by omega, by omega⟩
  obtain ⟨y, hy⟩ : ∃ y, y = numD n row[i] := ⟨_, rfl⟩
  rw [← hy] at fc
  obtain ⟨iv, ver1, H1, r1, r2, r3, r4, r5⟩ := ow.push true (c := [.int .i64 y]) rfl rfl (eIs_all _) 8 (by omega) (by rw [Zep]; omega)
  rw [Zep] at r1 r2
  rw [← eIs_snoc] at r2
  have tiv : B ≤ iv := by
   rcases r4 with g | ⟨_, g⟩
   ·exact tv iv g
   ·omega
  obtain ⟨vvx, hvx⟩ : ∃ x, x = AV.hsl iv ver1 0 (xs.length + 1) none := ⟨_, rfl⟩
  rw [← hvx] at r1 r2
  obtain ⟨h', w', q', e, g1, g2, g3, g4⟩ := ih (i + 1) m (xs ++ [y]) H1 vvx (some iv) (by omega) (by omega) r2 (fun i f => by cases f; exact tiv) (by omega) (by simp [lx])
  refine ⟨h', w', q', ?_, ?_, g2, g3, fun j o hj e => g4 j o hj (r3 j o e (fun f => by have := tv j f; omega))⟩
  ·rw [← e]
   have lt2 := fun h : AHeap => lit1' h (.int .i64 0) (.int .i64 y) rfl rfl
   simp only [loop_e,EB_pack_numbers_1,Zaa,Zab,Zac,Zad,Zae,Zag,Zaj,Zak,Zan,Zar,Zau,Zay,Zaz,Zbi,Zbk,Zbo,Zbq,Zcb,Zci,Zcn,Zcp,Zcq,Zcv,Zcw,Zcx,Zcz,Zda,Zdb,Zdc,Zdd,Q2,Q3,Q0,Q1,Zde,Zdh,decide_true,eq_self,Q7,Q5,h3',xc,lv,fc,ev2,lt2,r1,hw]
  ·rw [q1, Y2, ← hy]
   rw [Z7] at g1
   exact g1
theorem num_2 {row : List Int} {rv : AV} (hr : Li row rv) (hm : row.length ≤ 1000) (n : Nat) (hn : n ≤ 4096) (N : Nat) (hB : 1 ≤ B) : ∀ (d i m : Nat) (xs : List Int) (h : AHeap) (w : AV) (q : Option Nat), row.length = i + d → d < m → OwnG 1 (eIs xs) w h q → (∀ i, q = some i → B ≤ i) → B ≤ h.length → xs.length = i →
  ∃ (h' : AHeap) (w' : AV) (q' : Option Nat), loopN (evalCode (lim G0.cfg) N B_pack_numbers_2) m ⟨(J::.ptr 0 0 0 0 :: v2 :: v3::J::.int .i64 n :: v6 :: v7::J::v9 :: w::J::J::J::J::J::J::J::J::J::J::J::J::J::J::J::J::J::J::J::J::J::J::J::J::J::J::J::J::J::J::J::J::J::J::J::J::J::J::J::J::J::J::J::J::v55 :: v56::J::J::J::J::J::J::J::J::J::J::J::J::J::J::J::J::J::J::J::J::J::J::J::J::J::J::J::J::J::J::J::J::J::J::J::J::J::J::J::J::J::rv :: .int .i64 row.length :: .int .i64 i::J::J::J::J::J::J::J::J::J::J::J::J::J::J::J::J::J::J::J::J::J::J::J::J::J::J::J::J::J::J::J::J::J::J::J::[]), h⟩ = some (.exit 4, ⟨(J::.ptr 0 0 0 0 :: v2 :: v3::J::.int .i64 n :: v6 :: v7::J::v9 :: w'::J::J::J::J::J::J::J::J::J::J::J::J::J::J::J::J::J::J::J::J::J::J::J::J::J::J::J::J::J::J::J::J::J::J::J::J::J::J::J::J::J::J::J::J::v55 :: v56::J::J::J::J::J::J::J::J::J::J::J::J::J::J::J::J::J::J::J::J::J::J::J::J::J::J::J::J::J::J::J::J::J::J::J::J::J::J::J::J::J::J::J::J::J::J::J::J::J::J::J::J::J::J::J::J::J::J::J::J::J::J::J::J::J::J::J::J::J::J::J::J::J::J::J::J::J::J::J::[]), h'⟩) ∧
   OwnG 1 (eIs (xs ++ (row.drop i).map (gtoD n))) w' h' q' ∧ (∀ i, q' = some i → B ≤ i) ∧ B ≤ h'.length ∧ (∀ (j : Nat) (o : AObj), j < B → h[j]? = some o → h'[j]? = some o) := by
 intro d
 induction d with
 | zero =>
  intro i m xs h w q h1 h2 ow tv lb lx
  obtain ⟨m, rfl⟩ : ∃ q, m = q + 1 := ⟨m - 1, by omega⟩
  have h3 : ¬ ((i : Int) < row.length) := by omega
  have q1 : row.drop i = [] := Z5.2 (by omega)
  rw [q1, List.map_nil, Y0]
  refine ⟨h, w, q, ?_, ow, tv, lb, fun _ _ _ e => e⟩
  simp only [loop_e,EB_pack_numbers_2,Zab,Zac,Zad,Zag,Zah,Zaj,Zak,Zal,Zas,Zav,Zay,Zbi,Zbq,Zcv,Zcx,Zdb,Zdc,Zdd,Q2,Q3,Q0,Q1,Zdh,decide_false,Int.reduceNeg,eq_self,h3]
 | succ d ih =>
  intro i m xs h w q h1 h2 ow tv lb lx
  obtain ⟨m, rfl⟩ : ∃ q, m = q + 1 := ⟨m - 1, by omega⟩
  have h3 : i < row.length := by omega
  have h3' : (i : Int) < row.length := by omega
  have hw := w64s (n := i) (by omega)
  have q1 : row.drop i = row[i] :: row.drop (i + 1) := Z1 h3
  have xc := fun h => hr.ix h .i64 i h3
  obtain ⟨x, hx⟩ : ∃ x, x = row[i] := ⟨_, rfl⟩
  rw [← hx] at xc
  have lv : ∀ (h : AHeap), aload h 1 false (.vptr (eI x) 0) = some (.int .i64 x) := fun _ => rfl
  obtain ⟨y, hy⟩ : ∃ y, y = gtoD n x := ⟨_, rfl⟩
  obtain ⟨iv, ver1, H1, r1, r2, r3, r4, r5⟩ := ow.push true (c := [.int .i64 y]) rfl rfl (eIs_all _) 8 (by omega) (by rw [Zep]; omega)
  rw [Zep] at r1 r2
  rw [← eIs_snoc] at r2
  have tiv : B ≤ iv := by
   rcases r4 with g | ⟨_, g⟩
   ·exact tv iv g
   ·omega
  obtain ⟨vvx, hvx⟩ : ∃ x, x = AV.hsl iv ver1 0 (xs.length + 1) none := ⟨_, rfl⟩
  rw [← hvx] at r1 r2
  obtain ⟨h', w', q', e, g1, g2, g3, g4⟩ := ih (i + 1) m (xs ++ [y]) H1 vvx (some iv) (by omega) (by omega) r2 (fun i f => by cases f; exact tiv) (by omega) (by simp [lx])
  refine ⟨h', w', q', ?_, ?_, g2, g3, fun j o hj e => g4 j o hj (r3 j o e (fun f => by have := tv j f; omega))⟩
  ·rw [← e]
   have lt2 := fun h : AHeap => lit1' h (.int .i64 0) (.int .i64 y) rfl rfl
   by_cases c1 : x < -1
   ·have ey : y = -1 := by rw [hy, gtoD, if_pos (.inl c1)]
    have w1 : IntKind.i64.wrap (-2 + 1) = y := by rw [ey]; decide
    simp only [loop_e,EB_pack_numbers_2,Zaa,Zab,Zac,Zad,Zae,Zag,Zaj,Zak,Zan,Zar,Zau,Zay,Zaz,Zbd,Zbg,Zbi,Zbj,Zbk,Zbl,Zbo,Zbq,Zcb,Zci,Zcn,Zcv,Zcw,Zcx,Zdb,Zdc,Zdd,Q2,Q3,Q0,Q1,Zde,Zdh,decide_true,Int.reduceNeg,eq_self,h3',xc,lv,c1,w1,ev2,lt2,r1,hw]
   ·by_cases c2 : (n : Int) ≤ x
    ·have ey : y = -1 := by rw [hy, gtoD, if_pos (.inr c2)]
     have w1 : IntKind.i64.wrap (-2 + 1) = y := by rw [ey]; decide
     simp only [loop_e,EB_pack_numbers_2,Zaa,Zab,Zac,Zad,Zae,Zag,Zaj,Zak,Zan,Zar,Zau,Zay,Zaz,Zbc,Zbh,Zbi,Zbj,Zbk,Zbl,Zbo,Zbq,Zcb,Zci,Zcn,Zcv,Zcw,Zcx,Zdb,Zdc,Zdd,Q2,Q3,Q0,Q1,Zde,Zdh,Zdk,decide_true,decide_false,Int.reduceNeg,eq_self,h3',xc,lv,c1,c2,w1,ev2,lt2,r1,hw]
    ·have ey : y = x + 1 := by rw [hy, gtoD, if_neg (by omega)]
     have w1 : IntKind.i64.wrap (x + 1) = y := by rw [ey]; exact w64 (by omega) (by omega)
     simp only [loop_e,EB_pack_numbers_2,Zaa,Zab,Zac,Zad,Zae,Zag,Zaj,Zak,Zan,Zar,Zas,Zau,Zay,Zaz,Zbc,Zbh,Zbi,Zbj,Zbk,Zbl,Zbo,Zbq,Zcb,Zci,Zcn,Zcv,Zcw,Zcx,Zdb,Zdc,Zdd,Q2,Q3,Q0,Q1,Zde,Zdh,Zdk,decide_true,decide_false,Int.reduceNeg,eq_self,h3',xc,lv,c1,c2,w1,ev2,lt2,r1,hw]
  ·rw [q1, Y2, ← hx, ← hy]
   rw [Z7] at g1
   exact g1
end
theorem f_MinO {l : List Int} {v : AV} {h : AHeap} {q : Option Nat} (ho : OwnG 1 (eIs l) v h q) (h0 : l ≠ []) (hm : l.length ≤ 1000000) : lim G0.cfg (.func 52) [v] h = some (.int .i64 (minD l), h) := by
 obtain ⟨x, c, e1, e2⟩ := fzI ho 998
 obtain ⟨h', r⟩ := run_Min e2 h0 hm
 exact lim_fz rfl rfl P_slices_Min_sint_int (l.length + 1) (mapO_1 e1) r (rfl : freeze h' 1000 (.int .i64 _) = some (.int .i64 _, true)) (Bool.or_true _)
theorem num_0 {t : TabD} {av gv : AV} (ha : LiG (LiG LiA) t.acts av) (hg : LiR t.gotos gv) (n : Nat) (hn1 : t.acts.length = n) (hn2 : t.gotos.length = n) (hn : n ≤ 4096) (tm nt : Nat) (htm : 2 ≤ tm ∧ tm ≤ 1000) (hnt : 1 ≤ nt ∧ nt ≤ 1000) (N : Nat) (hN : 5000 ≤ N) :
  ∀ (d s m : Nat) (A G : List (List Int)) (h : AHeap) (w2 w3 : AV) (cs2 cs3 : List (List AV)) (q2 q3 : Option Nat) (S : Nat → Prop), n = s + d → d < m → h[0]? = some (.arr 0 2 true [[av, gv]]) → OwnG 1 cs2 w2 h q2 → Nest eIs A cs2 h S → OwnG 1 cs3 w3 h q3 → Nest eIs G cs3 h S → (∀ i, S i → 1 ≤ i ∧ i < h.length) → (∀ i, q2 = some i → 1 ≤ i ∧ ¬ S i) → (∀ i, q3 = some i → 1 ≤ i ∧ ¬ S i) → (∀ i, q2 = some i → q3 ≠ some i) → A.length = s → G.length = s →
  (allOk n tm nt (t.acts.drop s) (t.gotos.drop s) = true → ∃ (h' : AHeap) (w2' w3' : AV) (cs2' cs3' : List (List AV)) (q2' q3' : Option Nat) (S' : Nat → Prop), loopN (evalCode (lim G0.cfg) N B_pack_numbers_0) m ⟨(J::.ptr 0 0 0 0 :: w2 :: w3::J::.int .i64 n :: .int .i64 tm :: .int .i64 nt::J::J::J::J::J::J::J::J::J::J::J::J::J::J::J::J::J::J::J::J::J::J::J::J::J::J::J::J::J::J::J::J::J::J::J::J::J::J::J::J::J::J::J::J::J::J::J::.int .i64 n :: .int .i64 s::J::J::J::J::J::J::J::J::J::J::J::J::J::J::J::J::J::J::J::J::J::J::J::J::J::J::J::J::J::J::J::J::J::J::J::J::J::J::J::J::J::J::J::J::J::J::J::J::J::J::J::J::J::J::J::J::J::J::J::J::J::J::J::J::J::J::J::J::J::J::J::J::J::J::J::J::J::J::J::[]), h⟩ = some (.exit 0, ⟨(J::J::w2' :: w3'::J::J::J::J::J::J::J::J::J::J::J::J::J::J::J::J::J::J::J::J::J::J::J::J::J::J::J::J::J::J::J::J::J::J::J::J::J::J::J::J::J::J::J::J::J::J::J::J::J::J::J::J::J::J::J::J::J::J::J::J::J::J::J::J::J::J::J::J::J::J::J::J::J::J::J::J::J::J::J::J::J::J::J::J::J::J::J::J::J::J::J::J::J::J::J::J::J::J::J::J::J::J::J::J::J::J::J::J::J::J::J::J::J::J::J::J::J::J::J::J::J::J::J::J::J::J::J::J::J::J::J::J::[]), h'⟩) ∧
   OwnG 1 cs2' w2' h' q2' ∧ Nest eIs (A ++ rowsA n (t.acts.drop s)) cs2' h' S' ∧ OwnG 1 cs3' w3' h' q3' ∧ Nest eIs (G ++ rowsG n (t.gotos.drop s)) cs3' h' S') ∧
  (allOk n tm nt (t.acts.drop s) (t.gotos.drop s) = false → ∃ (h' : AHeap), loopN (evalCode (lim G0.cfg) N B_pack_numbers_0) m ⟨(J::.ptr 0 0 0 0 :: w2 :: w3::J::.int .i64 n :: .int .i64 tm :: .int .i64 nt::J::J::J::J::J::J::J::J::J::J::J::J::J::J::J::J::J::J::J::J::J::J::J::J::J::J::J::J::J::J::J::J::J::J::J::J::J::J::J::J::J::J::J::J::J::J::J::.int .i64 n :: .int .i64 s::J::J::J::J::J::J::J::J::J::J::J::J::J::J::J::J::J::J::J::J::J::J::J::J::J::J::J::J::J::J::J::J::J::J::J::J::J::J::J::J::J::J::J::J::J::J::J::J::J::J::J::J::J::J::J::J::J::J::J::J::J::J::J::J::J::J::J::J::J::J::J::J::J::J::J::J::J::J::J::[]), h⟩ = some (.ret, ⟨(J::J::.nilS :: .nilS :: .bool false::J::J::J::J::J::J::J::J::J::J::J::J::J::J::J::J::J::J::J::J::J::J::J::J::J::J::J::J::J::J::J::J::J::J::J::J::J::J::J::J::J::J::J::J::J::J::J::J::J::J::J::J::J::J::J::J::J::J::J::J::J::J::J::J::J::J::J::J::J::J::J::J::J::J::J::J::J::J::J::J::J::J::J::J::J::J::J::J::J::J::J::J::J::J::J::J::J::J::J::J::J::J::J::J::J::J::J::J::J::J::J::J::J::J::J::J::J::J::J::J::J::J::J::J::J::J::J::J::J::J::J::[]), h'⟩)) := by
 intro d
 induction d with
 | zero =>
  intro s m A G h w2 w3 cs2 cs3 q2 q3 S h1 h2 e0 o2 n2 o3 n3 hS hq2 hq3 hq lA lG
  obtain ⟨m, rfl⟩ : ∃ q, m = q + 1 := ⟨m - 1, by omega⟩
  have h3 : ¬ ((s : Int) < n) := by omega
  have k1 : t.acts.drop s = [] := Z5.2 (by omega)
  have k2 : t.gotos.drop s = [] := Z5.2 (by omega)
  rw [k1, k2]
  refine ⟨fun _ => ⟨h, w2, w3, cs2, cs3, q2, q3, S, ?_, o2, by simpa [rowsA] using n2, o3, by simpa [rowsG] using n3⟩, fun e => (by cases e)⟩
  simp only [loop_e,EB_pack_numbers_0,Zab,Zac,Zad,Zag,Zah,Zaj,Zak,Zal,Zas,Zav,Zay,Zbi,Zbq,Zcv,Zcx,Zdb,Zdc,Zdd,Q2,Q3,Q0,Q1,Zdh,decide_false,eq_self,h3]
 | succ d ih =>
  intro s m A G h w2 w3 cs2 cs3 q2 q3 S h1 h2 e0 o2 n2 o3 n3 hS hq2 hq3 hq lA lG
  obtain ⟨m, rfl⟩ : ∃ q, m = q + 1 := ⟨m - 1, by omega⟩
  have s1 : s < t.acts.length := by omega
  have s2 : s < t.gotos.length := by omega
  have h3' : (s : Int) < n := by omega
  have hw := w64s (n := s) (by omega)
  have k1 : t.acts.drop s = t.acts[s] :: t.acts.drop (s + 1) := Z1 s1
  have k2 : t.gotos.drop s = t.gotos[s] :: t.gotos.drop (s + 1) := Z1 s2
  obtain ⟨ra, hra, xa⟩ := ha.ix s s1
  obtain ⟨rg, hrg, xg⟩ := hg.ix s s2
  obtain ⟨a, haa⟩ : ∃ a, a = t.acts[s] := ⟨_, rfl⟩
  obtain ⟨g, hgg⟩ : ∃ g, g = t.gotos[s] := ⟨_, rfl⟩
  rw [← haa] at hra k1
  rw [← hgg] at hrg k2
  rw [k1, k2, allOk, rowOkT]
  have lv : ∀ (h : AHeap) (w : AV), aload h 1 false (.vptr [w] 0) = some w := fun _ _ => rfl
  have ldA : ∀ h : AHeap, h[0]? = some (.arr 0 2 true [[av, gv]]) → aload h 1 false (.ptr 0 0 0 0) = some av := fun h e => by rw [ld_p h 1 0 0 0 0 false 2 true _ _ e rfl]; rfl
  have ldG : ∀ h : AHeap, h[0]? = some (.arr 0 2 true [[av, gv]]) → aload h 1 false (.ptr 0 0 0 1) = some gv := fun h e => by rw [ld_p h 1 0 0 0 1 false 2 true _ _ e rfl]; rfl
  have la0 := ldA h e0
  have lg0 := ldG h e0
  have na := hra.len
  have ng := hrg.len
  by_cases c1 : a.length = tm
  case neg =>
   have d1 : decide ((a.length : Int) = tm) = false := decide_eq_false (by omega)
   rw [decide_eq_false c1, Z2, Z2, Z2]
   refine ⟨fun e => (by cases e), fun _ => ⟨h, ?_⟩⟩
   simp only [loop_e,EB_pack_numbers_0,Zaa,Zab,Zac,Zad,Zae,Zag,Zai,Zaj,Zak,Zam,Zao,Zar,Zaw,Zay,Zbd,Zbg,Zbi,Zbj,Zbk,Zbl,Zbo,Zbq,Zby,Zcb,Zcg,Zcv,Zcw,Zcx,Zdb,Zdc,Zdd,Q2,Q3,Q0,Q1,Zdh,Zdm,Zdx,decide_true,Z9,Nat.reduceAdd,eq_self,h3',la0,xa,lv,na,d1]
  case pos =>
  have d1 : decide ((a.length : Int) = tm) = true := decide_eq_true (by omega)
  by_cases c2 : g.length = nt
  case neg =>
   have d2 : decide ((g.length : Int) = nt) = false := decide_eq_false (by omega)
   rw [decide_eq_false c2, Bool.and_false, Z2, Z2]
   refine ⟨fun e => (by cases e), fun _ => ⟨h, ?_⟩⟩
   simp only [loop_e,EB_pack_numbers_0,Zaa,Zab,Zac,Zad,Zae,Zag,Zai,Zaj,Zak,Zam,Zao,Zar,Zaw,Zay,Zbc,Zbh,Zbi,Zbj,Zbk,Zbl,Zbo,Zbq,Zby,Zcb,Zcg,Zcv,Zcw,Zcx,Zdb,Zdc,Zdd,Q2,Q3,Q0,Q1,Zdh,Zdm,Zdx,decide_true,Z3,Z9,Nat.reduceAdd,eq_self,h3',la0,lg0,xa,xg,lv,na,ng,d1,d2]
  case pos =>
  have d2 : decide ((g.length : Int) = nt) = true := decide_eq_true (by omega)
  rw [decide_eq_true c1, decide_eq_true c2, Z8, Z8]
  have len1 : 1 ≤ h.length := get_len e0
  obtain ⟨h4, wx, qx, e4, ox, bx, l4, f4⟩ := num_1 (v2 := w2) (v3 := w3) (v6 := .int .i64 tm) (v7 := .int .i64 nt) (v8 := .int .i64 s) (v10 := .nilS) (v55 := .int .i64 n) (v56 := .int .i64 s) (B := h.length) hra (by omega) n hn N len1 a.length 0 N [] h .nilS none (by omega) (by omega) (OwnG.nil 1 _) (fun _ e => by cases e) (Y3 _) rfl
  rw [Z6, Q5] at ox
  rw [z0] at e4
  obtain ⟨h5, wy, qy, e5, oy, by', l5, f5⟩ := num_2 (v2 := w2) (v3 := w3) (v6 := .int .i64 tm) (v7 := .int .i64 nt) (v9 := wx) (v55 := .int .i64 n) (v56 := .int .i64 s) (B := h4.length) hrg (by omega) n hn N (by omega) g.length 0 N [] h4 .nilS none (by omega) (by omega) (OwnG.nil 1 _) (fun _ e => by cases e) (Y3 _) rfl
  rw [Z6, Q5] at oy
  rw [z0] at e5
  have qxl : ∀ i, qx = some i → i < h4.length := fun i e => by rw [e] at ox; exact ox.lt
  have qyl : ∀ i, qy = some i → i < h5.length := fun i e => by rw [e] at oy; exact oy.lt
  have ox5 := ox.frame (h' := h5) fun i o e k => f5 i o (qxl i e) k
  have up5 : ∀ (j : Nat) (o : AObj), j < h.length → h[j]? = some o → h5[j]? = some o := fun j o hj e => f5 j o (by omega) (f4 j o hj e)
  have e04 := f4 0 _ (by omega) e0
  have lg4 := ldG h4 e04
  have m1 := f_MinO ox5 (map_ne (by omega)) (by simp; omega)
  have m2 := f_MinO oy (map_ne (by omega)) (by simp; omega)
  have g1 := minD_neg (a.map (numD n)) (map_ne (by omega))
  have g2 := minD_neg (g.map (gtoD n)) (map_ne (by omega))
  have z : ∀ N, loopN (evalCode (lim G0.cfg) N B_pack_numbers_0) = loopN (evalCode (lim G0.cfg) N B_pack_numbers_0) := fun _ => rfl
  by_cases c3 : nonNeg (a.map (numD n)) = true
  case neg =>
   have c3' : nonNeg (a.map (numD n)) = false := by simpa using c3
   have d3 : minD (a.map (numD n)) < 0 := g1.2 c3'
   rw [c3', Z2, Z2]
   refine ⟨fun e => (by cases e), fun _ => ⟨h5, ?_⟩⟩
   simp only [loop_e,EB_pack_numbers_0,Zaa,Zab,Zac,Zad,Zae,Zaf,Zag,Zai,Zaj,Zak,Zam,Zao,Zap,Zar,Zas,Zat,Zaw,Zay,Zaz,Zbc,Zbd,Zbg,Zbh,Zbi,Zbj,Zbk,Zbl,Zbo,Zbq,Zby,Zcb,Zcg,Zcp,Zcq,Zcv,Zcw,Zcx,Zcz,Zda,Zdb,Zdc,Zdd,Q2,Q3,Q0,Q1,Zdh,Zdm,Zdx,decide_true,Z3,Nat.reduceAdd,eq_self,Q7,Q5,h3',la0,lg0,xa,xg,lv,na,ng,d1,d2,e4,lg4,e5,m1,d3]
  case pos =>
  have d3 : ¬ minD (a.map (numD n)) < 0 := fun e => by have := g1.1 e; rw [c3] at this; cases this
  by_cases c4 : nonNeg (g.map (gtoD n)) = true
  case neg =>
   have c4' : nonNeg (g.map (gtoD n)) = false := by simpa using c4
   have d4 : minD (g.map (gtoD n)) < 0 := g2.2 c4'
   rw [c4', Bool.and_false, Z2]
   refine ⟨fun e => (by cases e), fun _ => ⟨h5, ?_⟩⟩
   simp only [loop_e,EB_pack_numbers_0,Zaa,Zab,Zac,Zad,Zae,Zaf,Zag,Zai,Zaj,Zak,Zam,Zao,Zap,Zar,Zas,Zat,Zaw,Zay,Zaz,Zbc,Zbh,Zbi,Zbj,Zbk,Zbl,Zbo,Zbq,Zby,Zcb,Zcg,Zcp,Zcq,Zcv,Zcw,Zcx,Zcz,Zda,Zdb,Zdc,Zdd,Q2,Q3,Q0,Q1,Zdh,Zdm,Zdx,decide_true,decide_false,Z3,Nat.reduceAdd,eq_self,Q7,Q5,h3',la0,lg0,xa,xg,lv,na,ng,d1,d2,e4,lg4,e5,m1,m2,d3,d4]
  case pos =>
  have d4 : ¬ minD (g.map (gtoD n)) < 0 := fun e => by have := g2.1 e; rw [c4] at this; cases this
  rw [c3, c4, Z8, Z8]
  -- both rows are kept
  have q2l : ∀ i, q2 = some i → i < h.length := fun i e => by rw [e] at o2; exact o2.lt
  have q3l : ∀ i, q3 = some i → i < h.length := fun i e => by rw [e] at o3; exact o3.lt
  obtain ⟨S', hS'⟩ : ∃ S' : Nat → Prop, S' = fun i => S i ∨ qx = some i ∨ qy = some i := ⟨_, rfl⟩
  have o25 := o2.frame (h' := h5) fun i o e k => up5 i o (q2l i e) k
  have o35 := o3.frame (h' := h5) fun i o e k => up5 i o (q3l i e) k
  have n25 := (n2.frame (h' := h5) fun i o e k => up5 i o (hS i e).2 k)
  have n35 := (n3.frame (h' := h5) fun i o e k => up5 i o (hS i e).2 k)
  have nS2 : ∀ i, q2 = some i → ¬ S' i := fun i e hs => by
   rw [hS'] at hs
   rcases hs with hs | hs | hs
   ·exact (hq2 i e).2 hs
   ·have := bx i hs; have := q2l i e; omega
   ·have := by' i hs; have := q2l i e; omega
  have nS3 : ∀ i, q3 = some i → ¬ S' i := fun i e hs => by
   rw [hS'] at hs
   rcases hs with hs | hs | hs
   ·exact (hq3 i e).2 hs
   ·have := bx i hs; have := q3l i e; omega
   ·have := by' i hs; have := q3l i e; omega
  have lS' : ∀ i, S' i → 1 ≤ i ∧ i < h5.length := fun i hs => by
   rw [hS'] at hs
   rcases hs with hs | hs | hs
   ·have := hS i hs; omega
   ·have := bx i hs; have := qxl i hs; omega
   ·have := by' i hs; have := qyl i hs; omega
  obtain ⟨lt2, H6a, i2, ver2, H6, t2, r1, r2, r3, r4, r5⟩ := o25.pushRow ox.cell n25.all 24 (by omega) (by rw [n2.len]; omega) .nilS
  have ns2 : ¬ S' i2 := fun hs => by
   rcases r4 with k | ⟨_, k⟩
   ·exact nS2 i2 k hs
   ·have := (lS' i2 hs).2; omega
  have n26 : Nest eIs (A ++ [a.map (numD n)]) (cs2 ++ [[wx]]) H6 S' := by
   have := (n25.mono (S' := S') (fun i k => by rw [hS']; exact .inl k)).push (x := a.map (numD n)) ox5 (fun i k => by rw [hS']; exact .inr (.inl k))
   exact this.frame fun i o k e => r3 i o e (fun f => nS2 i f k)
  have o36 := o35.frame (h' := H6) fun i o f e => r3 i o e (fun k => hq i k f)
  have n36 : Nest eIs (G ++ [g.map (gtoD n)]) (cs3 ++ [[wy]]) H6 S' := by
   have := (n35.mono (S' := S') (fun i k => by rw [hS']; exact .inl k)).push (x := g.map (gtoD n)) oy (fun i k => by rw [hS']; exact .inr (.inr k))
   exact this.frame fun i o k e => r3 i o e (fun f => nS2 i f k)
  obtain ⟨lt3, H7a, i3, ver3, H7, t3, p1, p2, p3, p4, p5⟩ := o36.pushRow oy.cell n35.all 24 (by omega) (by rw [n3.len]; omega) .nilS
  have ns3 : ¬ S' i3 := fun hs => by
   rcases p4 with k | ⟨_, k⟩
   ·exact nS3 i3 k hs
   ·have := (lS' i3 hs).2; omega
  have hne : i2 ≠ i3 := fun k => by
   rcases p4 with f | ⟨f1, f2⟩
   ·rcases r4 with u | ⟨_, u⟩
    ·exact hq i2 u (by rw [k]; exact f)
    ·have := q3l i3 f; omega
   ·have := r2.lt; omega
  have o27 := r2.frame (h' := H7) fun i o f e => p3 i o e (fun k => by cases f; rcases r4 with u | ⟨_, u⟩; exact hq _ u k; have := q3l _ k; omega)
  have n27 := n26.frame (h' := H7) fun i o k e => p3 i o e (fun f => nS3 i f k)
  have n37 := n36.frame (h' := H7) fun i o k e => p3 i o e (fun f => nS3 i f k)
  have e07 : H7[0]? = some (.arr 0 2 true [[av, gv]]) := p3 0 _ (r3 0 _ (up5 0 _ (by omega) e0) (fun f => by have := (hq2 0 f).1; omega)) (fun f => by have := (hq3 0 f).1; omega)
  obtain ⟨wa, hwa⟩ : ∃ x, x = AV.hsl i2 ver2 0 (cs2.length + 1) none := ⟨_, rfl⟩
  obtain ⟨wg, hwg⟩ : ∃ x, x = AV.hsl i3 ver3 0 (cs3.length + 1) none := ⟨_, rfl⟩
  rw [← hwa] at r1 r2 o27
  rw [← hwg] at p1 p2
  have key := ih (s + 1) m (A ++ [a.map (numD n)]) (G ++ [g.map (gtoD n)]) H7 wa wg (cs2 ++ [[wx]]) (cs3 ++ [[wy]]) (some i2) (some i3) S' (by omega) (by omega) e07 o27 n27 p2 n37 (fun i k => by have := lS' i k; omega)
   (fun i e => by cases e; exact ⟨by rcases r4 with u | ⟨_, u⟩; exact (hq2 _ u).1; omega, ns2⟩) (fun i e => by cases e; exact ⟨by rcases p4 with u | ⟨_, u⟩; exact (hq3 _ u).1; omega, ns3⟩) (fun i e f => by cases e; cases f; exact hne rfl) (by simp [lA]) (by simp [lG])
  have run : loopN (evalCode (lim G0.cfg) N B_pack_numbers_0) (m + 1) ⟨(J::.ptr 0 0 0 0 :: w2 :: w3::J::.int .i64 n :: .int .i64 tm :: .int .i64 nt::J::J::J::J::J::J::J::J::J::J::J::J::J::J::J::J::J::J::J::J::J::J::J::J::J::J::J::J::J::J::J::J::J::J::J::J::J::J::J::J::J::J::J::J::J::J::J::.int .i64 n :: .int .i64 s::J::J::J::J::J::J::J::J::J::J::J::J::J::J::J::J::J::J::J::J::J::J::J::J::J::J::J::J::J::J::J::J::J::J::J::J::J::J::J::J::J::J::J::J::J::J::J::J::J::J::J::J::J::J::J::J::J::J::J::J::J::J::J::J::J::J::J::J::J::J::J::J::J::J::J::J::J::J::J::[]), h⟩ = loopN (evalCode (lim G0.cfg) N B_pack_numbers_0) m ⟨(J::.ptr 0 0 0 0 :: wa :: wg::J::.int .i64 n :: .int .i64 tm :: .int .i64 nt::J::J::J::J::J::J::J::J::J::J::J::J::J::J::J::J::J::J::J::J::J::J::J::J::J::J::J::J::J::J::J::J::J::J::J::J::J::J::J::J::J::J::J::J::J::J::J::.int .i64 n :: .int .i64 (s + 1 : Nat)::J::J::J::J::J::J::J::J::J::J::J::J::J::J::J::J::J::J::J::J::J::J::J::J::J::J::J::J::J::J::J::J::J::J::J::J::J::J::J::J::J::J::J::J::J::J::J::J::J::J::J::J::J::J::J::J::J::J::J::J::J::J::J::J::J::J::J::J::J::J::J::J::J::J::J::J::J::J::J::[]), H7⟩ := by
   simp only [loop_e,EB_pack_numbers_0,Zaa,Zab,Zac,Zad,Zae,Zaf,Zag,Zaj,Zak,Zan,Zap,Zar,Zas,Zat,Zau,Zay,Zaz,Zbc,Zbh,Zbi,Zbj,Zbk,Zbl,Zbo,Zbq,Zby,Zcb,Zcg,Zci,Zcn,Zcp,Zcq,Zcv,Zcw,Zcx,Zcz,Zda,Zdb,Zdc,Zdd,Q2,Q3,Q0,Q1,Zde,Zdh,Zdm,Zdx,decide_true,decide_false,Z3,Nat.reduceAdd,eq_self,Q7,Q5,h3',la0,lg0,xa,xg,lv,na,ng,d1,d2,e4,lg4,e5,m1,m2,d3,d4,ev2,t2,r1,t3,p1,hw]
  rw [run]
  refine ⟨fun hk => ?_, key.2⟩
  obtain ⟨h', w2', w3', cs2', cs3', q2', q3', S2, u1, u2, u3, u4, u5⟩ := key.1 hk
  refine ⟨h', w2', w3', cs2', cs3', q2', q3', S2, u1, u2, ?_, u4, ?_⟩
  ·rw [Z7] at u3; exact u3
  ·rw [Z7] at u5; exact u5
end Go.Proofs.Ytkgndbhflehhhaa.Ai
namespace Go.Proofs.Ytkgndbhflehhhaa.Ai
open Go Go.Proofs
open AV renaming junk → J
open List renaming getD_cons_zero → Q0, getD_cons_succ → Q1, set_cons_zero → Q2, set_cons_succ → Q3, length_nil → Q4, nil_append → Q5, length_cons → Q6, cons_append → Q7, replicate_succ → Q8, replicate_zero → Q9, drop_eq_getElem_cons → Z1, drop_eq_nil_iff → Z5, drop_zero → Z6, append_assoc → Z7, append_nil → Y0, map_cons → Y2, all_cons → Y4
open Option renaming map_some → Z0
open Bool renaming false_and → Z2, not_true → Z3, true_and → Z8, not_false → Z9, decide_and → Y1
open Option.some renaming injEq → Z4
open Nat renaming le_refl → Y3
set_option linter.unusedVariables false
set_option linter.unusedSimpArgs false
set_option maxRecDepth 10000
set_option maxHeartbeats 4000000
def TabD.tm (t : TabD) : Nat := (t.acts.headD []).length
def TabD.nt (t : TabD) : Nat := (t.gotos.headD []).length
def TabD.frame (t : TabD) : Prop := 1 ≤ t.acts.length ∧ t.acts.length ≤ 4096 ∧ t.gotos.length = t.acts.length ∧ 2 ≤ t.tm ∧ t.tm ≤ 256 ∧ 1 ≤ t.nt ∧ t.nt ≤ 512
def TabD.ok (t : TabD) : Prop := t.frame ∧ allOk t.acts.length t.tm t.nt t.acts t.gotos = true
def TabD.numA (t : TabD) : List (List Int) := rowsA t.acts.length t.acts
def TabD.numG (t : TabD) : List (List Int) := rowsG t.acts.length t.gotos
theorem TabD.tm_0 : ∀ (t : TabD) (h : 0 < t.acts.length), t.tm = t.acts[0].length
 | ⟨[], g⟩, h => by simp at h
 | ⟨a :: l, g⟩, h => rfl
theorem TabD.nt_0 : ∀ (t : TabD) (h : 0 < t.gotos.length), t.nt = t.gotos[0].length
 | ⟨a, []⟩, h => by simp at h
 | ⟨a, g :: l⟩, h => rfl
section
variable {t : TabD} {av gv : AV}
theorem tab_box (ha : LiG (LiG LiA) t.acts av) (hg : LiR t.gotos gv) (h : AHeap) : Zcs h 2 (.agg [av, gv]) = some (.ptr h.length 0 0 0, h ++ [.arr 0 2 true [[av, gv]]]) := by
 have e : cellsOf (.agg [av, gv]) = [av, gv] := by simp [cellsOf]
 simp [Zcs, e]
theorem tab_a (h : AHeap) (e : h[0]? = some (.arr 0 2 true [[av, gv]])) : aload h 1 false (.ptr 0 0 0 0) = some av := by rw [ld_p h 1 0 0 0 0 false 2 true _ _ e rfl]; rfl
theorem tab_g (h : AHeap) (e : h[0]? = some (.arr 0 2 true [[av, gv]])) : aload h 1 false (.ptr 0 0 0 1) = some gv := by rw [ld_p h 1 0 0 0 1 false 2 true _ _ e rfl]; rfl
theorem lv_p (h : AHeap) (w : AV) : aload h 1 false (.vptr [w] 0) = some w := rfl
theorem run_numbers (ha : LiG (LiG LiA) t.acts av) (hg : LiR t.gotos gv) :
  (t.ok → ∃ (raw x2 x3 : AV) (c : Bool) (h' : AHeap), runFn (lim G0.cfg) 5000 A_pack_numbers [.agg [av, gv]] [] = some (raw, h') ∧ freeze h' 1000 raw = some (.tup [x2, x3, .bool true], c) ∧ cleanV h' 1000 raw = true ∧ LiR t.numA x2 ∧ LiR t.numG x3) ∧
  (¬ t.ok → ∃ (h' : AHeap), runFn (lim G0.cfg) 5000 A_pack_numbers [.agg [av, gv]] [] = some (.tup [.nilS, .nilS, .bool false], h')) := by
 have bx := tab_box ha hg
 have l0 := tab_a (av := av) (gv := gv) [.arr 0 2 true [[av, gv]]] rfl
 have l1 := tab_g (av := av) (gv := gv) [.arr 0 2 true [[av, gv]]] rfl
 have na := ha.len
 have ng := hg.len
 obtain ⟨n, hn⟩ : ∃ n, n = t.acts.length := ⟨_, rfl⟩
 rw [← hn] at na
 rw [R_pack_numbers]
 by_cases c1 : (n : Int) < 1
 case pos =>
  refine ⟨fun k => by have := k.1.1; omega, fun _ => ?_⟩
  simp only [Zab,Zac,Zad,Zai,Zaj,Zak,Zam,Zar,Zay,Zaz,Zbd,Zbg,Zbi,Zbj,Zbk,Zbl,Zbn,Zbo,Zbq,Zby,Zcg,Zcs,Zcu,Zcv,Zcw,Zcx,Q2,Q3,Q0,Q1,Z0,Zdh,Zdx,Zeb,decide_true,Q6,Q4,if_true,Nat.reduceAdd,Nat.reduceSub,eq_self,true_and,Q6,Q4,Q8,Q9,Q7,Q5,l0,na,c1,resAll,resVals,resVal,Z4,Prod.mk.injEq,true_and,exists_eq']
 case neg =>
 by_cases c2 : (4096 : Int) < n
 case pos =>
  refine ⟨fun k => by have := k.1.2.1; omega, fun _ => ?_⟩
  simp only [Zab,Zac,Zad,Zai,Zaj,Zak,Zam,Zar,Zay,Zaz,Zbc,Zbd,Zbg,Zbh,Zbi,Zbj,Zbk,Zbl,Zbn,Zbo,Zbq,Zby,Zcg,Zcs,Zcu,Zcv,Zcw,Zcx,Q2,Q3,Q0,Q1,Z0,Zdh,Zdj,Zdx,Zeb,decide_true,decide_false,Q6,Q4,if_true,Nat.reduceAdd,Nat.reduceSub,eq_self,true_and,Q6,Q4,Q8,Q9,Q7,Q5,l0,na,c1,c2,resAll,resVals,resVal,Z4,Prod.mk.injEq,true_and,exists_eq']
 case neg =>
 by_cases c3 : t.gotos.length = n
 case neg =>
  have d3 : decide ((t.gotos.length : Int) = n) = false := decide_eq_false (by omega)
  refine ⟨fun k => by have := k.1.2.2.1; omega, fun _ => ?_⟩
  simp only [Zab,Zac,Zad,Zai,Zaj,Zak,Zam,Zar,Zay,Zaz,Zbc,Zbh,Zbi,Zbj,Zbk,Zbl,Zbn,Zbo,Zbq,Zby,Zcg,Zcs,Zcu,Zcv,Zcw,Zcx,Q2,Q3,Q0,Q1,Z0,Zdh,Zdj,Zdm,Zdx,Zeb,decide_false,Z9,Q6,Q4,if_true,Nat.reduceAdd,Nat.reduceSub,eq_self,true_and,Q6,Q4,Q8,Q9,Q7,Q5,l0,l1,na,ng,c1,c2,d3,resAll,resVals,resVal,Z4,Prod.mk.injEq,true_and,exists_eq']
 case pos =>
 have d3 : decide ((t.gotos.length : Int) = n) = true := decide_eq_true (by omega)
 obtain ⟨ra, hra, xa⟩ := ha.ix 0 (by omega)
 obtain ⟨rg, hrg, xg⟩ := hg.ix 0 (by omega)
 rw [z0] at xa xg
 have nra := hra.len
 have nrg := hrg.len
 rw [← t.tm_0 (by omega)] at nra
 rw [← t.nt_0 (by omega)] at nrg
 by_cases c4 : (t.tm : Int) < 2
 case pos =>
  refine ⟨fun k => by have := k.1.2.2.2.1; omega, fun _ => ?_⟩
  simp only [Zaa,Zab,Zac,Zad,Zai,Zaj,Zak,Zam,Zar,Zas,Zay,Zaz,Zbc,Zbd,Zbg,Zbh,Zbi,Zbj,Zbk,Zbl,Zbn,Zbo,Zbq,Zby,Zcb,Zcg,Zcs,Zcu,Zcv,Zcw,Zcx,Q2,Q3,Q0,Q1,Z0,Zdh,Zdj,Zdm,Zdx,Zeb,decide_true,decide_false,Z3,Q6,Q4,if_true,Nat.reduceAdd,Nat.reduceSub,eq_self,true_and,Q6,Q4,Q8,Q9,Q7,Q5,l0,l1,na,ng,c1,c2,d3,xa,xg,lv_p,nra,nrg,c4,resAll,resVals,resVal,Z4,Prod.mk.injEq,true_and,exists_eq']
 case neg =>
 by_cases c5 : (256 : Int) < t.tm
 case pos =>
  refine ⟨fun k => by have := k.1.2.2.2.2.1; omega, fun _ => ?_⟩
  simp only [Zaa,Zab,Zac,Zad,Zai,Zaj,Zak,Zam,Zar,Zas,Zay,Zaz,Zbc,Zbd,Zbg,Zbh,Zbi,Zbj,Zbk,Zbl,Zbn,Zbo,Zbq,Zby,Zcb,Zcg,Zcs,Zcu,Zcv,Zcw,Zcx,Q2,Q3,Q0,Q1,Z0,Zdh,Zdj,Zdm,Zdx,Zeb,decide_true,decide_false,Z3,Q6,Q4,if_true,Nat.reduceAdd,Nat.reduceSub,eq_self,true_and,Q6,Q4,Q8,Q9,Q7,Q5,l0,l1,na,ng,c1,c2,d3,xa,xg,lv_p,nra,nrg,c4,c5,resAll,resVals,resVal,Z4,Prod.mk.injEq,true_and,exists_eq']
 case neg =>
 by_cases c6 : (t.nt : Int) < 1
 case pos =>
  refine ⟨fun k => by have := k.1.2.2.2.2.2.1; omega, fun _ => ?_⟩
  simp only [Zaa,Zab,Zac,Zad,Zai,Zaj,Zak,Zam,Zar,Zas,Zay,Zaz,Zbc,Zbd,Zbg,Zbh,Zbi,Zbj,Zbk,Zbl,Zbn,Zbo,Zbq,Zby,Zcb,Zcg,Zcs,Zcu,Zcv,Zcw,Zcx,Q2,Q3,Q0,Q1,Z0,Zdh,Zdj,Zdm,Zdx,Zeb,decide_true,decide_false,Z3,Q6,Q4,if_true,Nat.reduceAdd,Nat.reduceSub,eq_self,true_and,Q6,Q4,Q8,Q9,Q7,Q5,l0,l1,na,ng,c1,c2,d3,xa,xg,lv_p,nra,nrg,c4,c5,c6,resAll,resVals,resVal,Z4,Prod.mk.injEq,true_and,exists_eq']
 case neg =>
 by_cases c7 : (512 : Int) < t.nt
 case pos =>
  refine ⟨fun k => by have := k.1.2.2.2.2.2.2; omega, fun _ => ?_⟩
  simp only [Zaa,Zab,Zac,Zad,Zai,Zaj,Zak,Zam,Zar,Zas,Zay,Zaz,Zbc,Zbh,Zbi,Zbj,Zbk,Zbl,Zbn,Zbo,Zbq,Zby,Zcb,Zcg,Zcs,Zcu,Zcv,Zcw,Zcx,Q2,Q3,Q0,Q1,Z0,Zdh,Zdj,Zdm,Zdx,Zeb,decide_true,decide_false,Z3,Q6,Q4,if_true,Nat.reduceAdd,Nat.reduceSub,eq_self,true_and,Q6,Q4,Q8,Q9,Q7,Q5,l0,l1,na,ng,c1,c2,d3,xa,xg,lv_p,nra,nrg,c4,c5,c6,c7,resAll,resVals,resVal,Z4,Prod.mk.injEq,true_and,exists_eq']
 case neg =>
 have fr : t.frame := ⟨by omega, by omega, by omega, by omega, by omega, by omega, by omega⟩
 have key := num_0 ha hg n hn.symm c3 (by omega) t.tm t.nt (by omega) (by omega) 5000 (Y3 _) n 0 5000 [] [] [.arr 0 2 true [[av, gv]]] .nilS .nilS [] [] none none (fun _ => False) (by omega) (by omega) rfl (OwnG.nil 1 _) (Nest.nil _ _ _) (OwnG.nil 1 _) (Nest.nil _ _ _) (fun _ e => e.elim) (fun _ e => by cases e) (fun _ e => by cases e) (fun _ e => by cases e) rfl rfl
 rw [Z6, Z6, z0, Q5, Q5] at key
 by_cases c8 : allOk n t.tm t.nt t.acts t.gotos = true
 case neg =>
  have c8' : allOk n t.tm t.nt t.acts t.gotos = false := by simpa using c8
  obtain ⟨h', e⟩ := key.2 c8'
  refine ⟨fun k => absurd (hn ▸ k.2) c8, fun _ => ⟨h', ?_⟩⟩
  simp only [Zaa,Zab,Zac,Zad,Zae,Zaf,Zag,Zaj,Zak,Zam,Zao,Zas,Zat,Zay,Zaz,Zbc,Zbh,Zbi,Zbj,Zbk,Zbl,Zbn,Zbo,Zbq,Zby,Zcb,Zcg,Zcs,Zcu,Zcv,Zcw,Zcx,Zdb,Zdc,Zdd,Q2,Q3,Q0,Q1,Z0,Zdh,Zdj,Zdm,Zdx,Zeb,decide_false,Z3,Q6,Q4,if_true,Nat.reduceAdd,Nat.reduceSub,eq_self,Q6,Q4,Q8,Q9,Q7,Q5,Q5,Q4,l0,l1,na,ng,c1,c2,d3,xa,xg,lv_p,nra,nrg,c4,c5,c6,c7,e,resAll,resVals,resVal]
 case pos =>
  obtain ⟨h', w2', w3', cs2', cs3', q2', q3', S', e, o2, n2, o3, n3⟩ := key.1 c8
  obtain ⟨x2, b2, f2, g2⟩ := n2.fz o2 996
  obtain ⟨x3, b3, f3, g3⟩ := n3.fz o3 996
  have k2 := n2.clean o2 996
  have k3 := n3.clean o3 996
  have fz : freeze h' 1000 (.tup [w2', w3', .bool true]) = some (.tup [x2, x3, .bool true], ([(x2, b2), (x3, b3), (.bool true, true)] : List (AV × Bool)).all (·.2)) := by
   have : freeze h' 1000 (.tup [w2', w3', .bool true]) = (mapO (freeze h' 999) [w2', w3', .bool true]).map fun l => (.tup (l.map (·.1)), l.all (·.2)) := rfl
   rw [this]
   have f4 : freeze h' 999 (.bool true) = some (.bool true, true) := rfl
   have m : mapO (freeze h' 999) [w2', w3', .bool true] = some [(x2, b2), (x3, b3), (.bool true, true)] := by simp only [mapO,f2,f3,f4]
   rw [m]; rfl
  have cl : cleanV h' 1000 (.tup [w2', w3', .bool true]) = true := by
   have : cleanV h' 1000 (.tup [w2', w3', .bool true]) = [w2', w3', .bool true].all (cleanV h' 999) := rfl
   rw [this]
   have f4 : cleanV h' 999 (.bool true) = true := rfl
   simp only [Y4,List.all_nil,k2,k3,f4,Bool.and_self]
  refine ⟨fun _ => ⟨.tup [w2', w3', .bool true], x2, x3, _, h', ?_, fz, cl, by unfold TabD.numA; rw [← hn]; exact g2, by unfold TabD.numG; rw [← hn]; exact g3⟩, fun k => absurd ⟨fr, hn ▸ c8⟩ k⟩
  simp only [Zaa,Zab,Zac,Zad,Zae,Zaf,Zag,Zai,Zaj,Zak,Zap,Zas,Zat,Zay,Zaz,Zbc,Zbh,Zbi,Zbj,Zbk,Zbl,Zbn,Zbo,Zbq,Zby,Zcb,Zcg,Zcs,Zcu,Zcv,Zcw,Zcx,Zdb,Zdc,Zdd,Q2,Q3,Q0,Q1,Z0,Zdh,Zdj,Zdm,Zdx,Zeb,decide_false,Z3,Q6,Q4,if_true,Nat.reduceAdd,Nat.reduceSub,eq_self,Q6,Q4,Q8,Q9,Q7,Q5,Q5,Q4,l0,l1,na,ng,c1,c2,d3,xa,xg,lv_p,nra,nrg,c4,c5,c6,c7,e,resAll,resVals,resVal]
theorem f_numbers (ha : LiG (LiG LiA) t.acts av) (hg : LiR t.gotos gv) :
  (t.ok → ∃ (x2 x3 : AV), LiR t.numA x2 ∧ LiR t.numG x3 ∧ ∀ (H : AHeap) (v : AV) (c : Bool), freeze H 1000 v = some (.agg [av, gv], c) → lim G0.cfg (.func 41) [v] H = some (.tup [x2, x3, .bool true], H)) ∧
  (¬ t.ok → ∀ (H : AHeap) (v : AV) (c : Bool), freeze H 1000 v = some (.agg [av, gv], c) → lim G0.cfg (.func 41) [v] H = some (.tup [.nilS, .nilS, .bool false], H)) := by
 obtain ⟨k1, k2⟩ := run_numbers ha hg
 refine ⟨fun k => ?_, fun k H v c hv => ?_⟩
 ·obtain ⟨raw, x2, x3, c, h', r, f, cl, g2, g3⟩ := k1 k
  exact ⟨x2, x3, g2, g3, fun H v c hv => lim_clean rfl rfl P_pack_numbers 5000 (mapO_1 hv) r f cl⟩
 ·obtain ⟨h', r⟩ := k2 k
  exact lim_clean rfl rfl P_pack_numbers 5000 (mapO_1 hv) r (rfl : freeze h' 1000 (.tup [.nilS, .nilS, .bool false]) = some (.tup [.nilS, .nilS, .bool false], true)) rfl
end
end Go.Proofs.Ytkgndbhflehhhaa.Ai
namespace Go.Proofs.Ytkgndbhflehhhaa.Ai
open Go Go.Proofs
open AV renaming junk → J
open List renaming getD_cons_zero → Q0, getD_cons_succ → Q1, set_cons_zero → Q2, set_cons_succ → Q3, length_nil → Q4, nil_append → Q5, length_cons → Q6, cons_append → Q7, replicate_succ → Q8, replicate_zero → Q9, drop_eq_getElem_cons → Z1, drop_eq_nil_iff → Z5, drop_zero → Z6, append_assoc → Z7, append_nil → Y0, map_cons → Y2, all_cons → Y4
open Option renaming map_some → Z0
open Bool renaming false_and → Z2, not_true → Z3, true_and → Z8, not_false → Z9, decide_and → Y1
open Option.some renaming injEq → Z4
open Nat renaming le_refl → Y3
set_option linter.unusedVariables false
set_option linter.unusedSimpArgs false
set_option maxRecDepth 10000
set_option maxHeartbeats 4000000
def lenOk (tm nt : Nat) : List (List (List (Int × Int))) → List (List Int) → Bool
 | a :: al, g :: gl => (decide (a.length = tm) && decide (g.length = nt)) && lenOk tm nt al gl
 | _, _ => true
theorem allOk_parts (n : Int) (tm nt : Nat) : ∀ (al : List (List (List (Int × Int)))) (gl : List (List Int)), al.length = gl.length → allOk n tm nt al gl = (lenOk tm nt al gl && ((rowsA n al).all nonNeg && (rowsG n gl).all nonNeg)) := by
 intro al
 induction al with
 | nil => intro gl h; have : gl = [] := List.length_eq_zero_iff.1 (by simpa using h.symm); subst this; rfl
 | cons a al ih =>
  intro gl h
  cases gl with
  | nil => simp at h
  | cons g gl =>
   have e := ih gl (by simpa using h)
   have e1 : rowsA n (a :: al) = a.map (numD n) :: rowsA n al := rfl
   have e2 : rowsG n (g :: gl) = g.map (gtoD n) :: rowsG n gl := rfl
   rw [allOk, lenOk, e, rowOkT, e1, e2, Y4, Y4]
   cases (decide (a.length = tm) && decide (g.length = nt)) <;> cases nonNeg (a.map (numD n)) <;> cases nonNeg (g.map (gtoD n)) <;> cases lenOk tm nt al gl <;> cases (rowsA n al).all nonNeg <;> cases (rowsG n gl).all nonNeg <;> rfl
section
variable {t : TabD} {av gv : AV}
theorem r_shape (ha : LiG (LiG LiA) t.acts av) (hg : LiR t.gotos gv) (H : AHeap) :
  (t.frame ∧ lenOk t.tm t.nt t.acts t.gotos = true → lim G0.cfg (.func 42) [.agg [av, gv]] H = some (.bool true, H)) ∧
  (¬ (t.frame ∧ lenOk t.tm t.nt t.acts t.gotos = true) → lim G0.cfg (.func 42) [.agg [av, gv]] H = some (.bool false, H)) := by
 have fzs : ∀ h, mapO (freeze h 1000) [.agg [av, gv]] = some ([AV.agg [av, gv]].map fun x => (x, true)) := fun h => fz_1 (by
  have : freeze h 1000 (.agg [av, gv]) = (mapO (freeze h 999) [av, gv]).map fun l => (.agg (l.map (·.1)), l.all (·.2)) := rfl
  rw [this]
  simp only [mapO,ha.fz h 998,hg.fz h 998]; rfl)
 have bx := tab_box ha hg
 have l0 := tab_a (av := av) (gv := gv) [.arr 0 2 true [[av, gv]]] rfl
 have l1 := tab_g (av := av) (gv := gv) [.arr 0 2 true [[av, gv]]] rfl
 have na := ha.len
 have ng := hg.len
 obtain ⟨n, hn⟩ : ∃ n, n = t.acts.length := ⟨_, rfl⟩
 rw [← hn] at na
 have key : (t.frame ∧ lenOk t.tm t.nt t.acts t.gotos = true → ∃ h', runFn (lim G0.cfg) 5000 A_r32_shape [.agg [av, gv]] [] = some (.bool true, h')) ∧ (¬ (t.frame ∧ lenOk t.tm t.nt t.acts t.gotos = true) → ∃ h', runFn (lim G0.cfg) 5000 A_r32_shape [.agg [av, gv]] [] = some (.bool false, h')) := by
  rw [R_r32_shape]
  have w1 := r_within n 1 4096
  by_cases c1 : 1 ≤ n ∧ n ≤ 4096
  case neg =>
   have d1 : (decide ((1 : Int) ≤ n) && decide ((n : Int) ≤ 4096)) = false := by rw [← Y1]; exact decide_eq_false (by omega)
   rw [d1] at w1
   refine ⟨fun k => by have := k.1.1; have := k.1.2.1; omega, fun _ => ?_⟩
   simp only [Zab,Zac,Zad,Zai,Zaj,Zak,Zam,Zar,Zay,Zaz,Zbd,Zbg,Zbi,Zbj,Zbk,Zbl,Zbn,Zbo,Zbr,Zby,Zcg,Zcp,Zcq,Zcs,Zcu,Zcv,Zcw,Zcx,Zcz,Zda,Q2,Q3,Q0,Q1,Z0,Zdr,Zdx,Zeb,Z9,Q6,Q4,if_true,Nat.reduceAdd,Nat.reduceSub,eq_self,true_and,Q6,Q4,Q8,Q9,Q7,Q5,l0,na,w1,resAll,resVals,resVal,Z4,Prod.mk.injEq,true_and,exists_eq']
  case pos =>
  have d1 : (decide ((1 : Int) ≤ n) && decide ((n : Int) ≤ 4096)) = true := by rw [← Y1]; exact decide_eq_true (by omega)
  rw [d1] at w1
  by_cases c3 : t.gotos.length = n
  case neg =>
   have d3 : decide ((t.gotos.length : Int) = n) = false := decide_eq_false (by omega)
   refine ⟨fun k => by have := k.1.2.2.1; omega, fun _ => ?_⟩
   simp only [Zab,Zac,Zad,Zai,Zaj,Zak,Zam,Zar,Zay,Zaz,Zbc,Zbh,Zbi,Zbj,Zbk,Zbl,Zbn,Zbo,Zbq,Zbr,Zby,Zcg,Zcp,Zcq,Zcs,Zcu,Zcv,Zcw,Zcx,Zcz,Zda,Q2,Q3,Q0,Q1,Z0,Zdm,Zdr,Zdx,Zeb,Z3,Z9,Q6,Q4,if_true,Nat.reduceAdd,Nat.reduceSub,eq_self,true_and,Q6,Q4,Q8,Q9,Q7,Q5,l0,l1,na,ng,w1,d3,resAll,resVals,resVal,Z4,Prod.mk.injEq,true_and,exists_eq']
  case pos =>
  have d3 : decide ((t.gotos.length : Int) = n) = true := decide_eq_true (by omega)
  obtain ⟨ra, hra, xa⟩ := ha.ix 0 (by omega)
  obtain ⟨rg, hrg, xg⟩ := hg.ix 0 (by omega)
  rw [z0] at xa xg
  have nra := hra.len
  have nrg := hrg.len
  rw [← t.tm_0 (by omega)] at nra
  rw [← t.nt_0 (by omega)] at nrg
  have w2 := r_within t.tm 2 256
  have w3 := r_within t.nt 1 512
  by_cases c4 : 2 ≤ t.tm ∧ t.tm ≤ 256
  case neg =>
   have d4 : (decide ((2 : Int) ≤ t.tm) && decide ((t.tm : Int) ≤ 256)) = false := by rw [← Y1]; exact decide_eq_false (by omega)
   rw [d4] at w2
   refine ⟨fun k => by have := k.1.2.2.2.1; have := k.1.2.2.2.2.1; omega, fun _ => ?_⟩
   simp only [Zaa,Zab,Zac,Zad,Zai,Zaj,Zak,Zam,Zar,Zas,Zay,Zaz,Zbc,Zbd,Zbg,Zbh,Zbi,Zbj,Zbk,Zbl,Zbn,Zbo,Zbq,Zbr,Zby,Zcb,Zcg,Zcp,Zcq,Zcs,Zcu,Zcv,Zcw,Zcx,Zcz,Zda,Q2,Q3,Q0,Q1,Z0,Zdm,Zdr,Zdx,Zeb,Z3,Z9,Q6,Q4,if_true,Nat.reduceAdd,Nat.reduceSub,eq_self,true_and,Q6,Q4,Q8,Q9,Q7,Q5,l0,l1,na,ng,w1,d3,xa,lv_p,nra,w2,resAll,resVals,resVal,Z4,Prod.mk.injEq,true_and,exists_eq']
  case pos =>
  have d4 : (decide ((2 : Int) ≤ t.tm) && decide ((t.tm : Int) ≤ 256)) = true := by rw [← Y1]; exact decide_eq_true (by omega)
  rw [d4] at w2
  by_cases c6 : 1 ≤ t.nt ∧ t.nt ≤ 512
  case neg =>
   have d6 : (decide ((1 : Int) ≤ t.nt) && decide ((t.nt : Int) ≤ 512)) = false := by rw [← Y1]; exact decide_eq_false (by omega)
   rw [d6] at w3
   refine ⟨fun k => by have := k.1.2.2.2.2.2.1; have := k.1.2.2.2.2.2.2; omega, fun _ => ?_⟩
   simp only [Zaa,Zab,Zac,Zad,Zai,Zaj,Zak,Zam,Zar,Zas,Zay,Zaz,Zbc,Zbh,Zbi,Zbj,Zbk,Zbl,Zbn,Zbo,Zbq,Zbr,Zby,Zcb,Zcg,Zcp,Zcq,Zcs,Zcu,Zcv,Zcw,Zcx,Zcz,Zda,Q2,Q3,Q0,Q1,Z0,Zdm,Zdr,Zdx,Zeb,Z3,Z9,Q6,Q4,if_true,Nat.reduceAdd,Nat.reduceSub,eq_self,true_and,Q6,Q4,Q8,Q9,Q7,Q5,l0,l1,na,ng,w1,d3,xa,xg,lv_p,nra,nrg,w2,w3,resAll,resVals,resVal,Z4,Prod.mk.injEq,true_and,exists_eq']
  case pos =>
  have d6 : (decide ((1 : Int) ≤ t.nt) && decide ((t.nt : Int) ≤ 512)) = true := by rw [← Y1]; exact decide_eq_true (by omega)
  rw [d6] at w3
  have fr : t.frame := ⟨by omega, by omega, by omega, by omega, by omega, by omega, by omega⟩
  obtain ⟨h1, hh1⟩ : ∃ h1 : AHeap, h1 = [.arr 0 2 true [[av, gv]]] := ⟨_, rfl⟩
  rw [← hh1] at l0 l1
  have loop : ∀ (d s m : Nat), n = s + d → d < m → loopN (evalCode (lim G0.cfg) 5000 B_r32_shape_0) m ⟨(J::.ptr 0 0 0 0::J::.int .i64 s::J::J::J::J::J::J::J::J::J::J::J::J::J::J::J::J::J::J::J::J::J::J::J::J::J::J::J::J::J::J::J::J::J::J::J::J::J::J::J::J::J::J::J::J::J::J::J::J::J::J::J::J::J::J::J::J::J::J::J::J::J::J::J::[]), h1⟩ = bif lenOk t.tm t.nt (t.acts.drop s) (t.gotos.drop s) then some (.exit 0, ⟨(J::J::J::J::J::J::J::J::J::J::J::J::J::J::J::J::J::J::J::J::J::J::J::J::J::J::J::J::J::J::J::J::J::J::J::J::J::J::J::J::J::J::J::J::J::J::J::J::J::J::J::J::J::J::J::J::J::J::J::J::J::J::J::J::J::J::J::[]), h1⟩) else some (.ret, ⟨(J::J::.bool false::J::J::J::J::J::J::J::J::J::J::J::J::J::J::J::J::J::J::J::J::J::J::J::J::J::J::J::J::J::J::J::J::J::J::J::J::J::J::J::J::J::J::J::J::J::J::J::J::J::J::J::J::J::J::J::J::J::J::J::J::J::J::J::J::[]), h1⟩) := by
   intro d
   induction d with
   | zero =>
    intro s m h2 h3
    obtain ⟨m, rfl⟩ : ∃ q, m = q + 1 := ⟨m - 1, by omega⟩
    have h4 : ¬ ((s : Int) < n) := by omega
    have k1 : t.acts.drop s = [] := Z5.2 (by omega)
    rw [k1, lenOk, cond_true]
    ·simp only [loop_e,EB_r32_shape_0,Zab,Zac,Zad,Zag,Zah,Zaj,Zak,Zal,Zas,Zav,Zay,Zbi,Zbk,Zbo,Zbq,Zby,Zcg,Zcv,Zcx,Zdc,Zdd,Q2,Q3,Q0,Q1,Zdh,Zdx,decide_false,Nat.reduceAdd,eq_self,l0,na,h4]
    ·intros; simp_all
   | succ d ih =>
    intro s m h2 h3
    obtain ⟨m, rfl⟩ : ∃ q, m = q + 1 := ⟨m - 1, by omega⟩
    have s1 : s < t.acts.length := by omega
    have s2 : s < t.gotos.length := by omega
    have h4 : (s : Int) < n := by omega
    have hw := w64s (n := s) (by omega)
    have k1 : t.acts.drop s = t.acts[s] :: t.acts.drop (s + 1) := Z1 s1
    have k2 : t.gotos.drop s = t.gotos[s] :: t.gotos.drop (s + 1) := Z1 s2
    obtain ⟨qa, hqa, ya⟩ := ha.ix s s1
    obtain ⟨qg, hqg, yg⟩ := hg.ix s s2
    have mra := hqa.len
    have mrg := hqg.len
    rw [k1, k2, lenOk]
    by_cases e1 : t.acts[s].length = t.tm
    ·have f1 : decide ((t.acts[s].length : Int) = t.tm) = true := decide_eq_true (by omega)
     by_cases e2 : t.gotos[s].length = t.nt
     ·have f2 : decide ((t.gotos[s].length : Int) = t.nt) = true := decide_eq_true (by omega)
      rw [decide_eq_true e1, decide_eq_true e2, Z8, Z8, ← ih (s + 1) m (by omega) (by omega)]
      simp only [loop_e,EB_r32_shape_0,Zaa,Zab,Zac,Zad,Zae,Zag,Zaj,Zak,Zan,Zar,Zas,Zau,Zay,Zbc,Zbh,Zbi,Zbj,Zbk,Zbl,Zbo,Zbq,Zby,Zcb,Zcg,Zcv,Zcw,Zcx,Zdb,Zdc,Zdd,Q2,Q3,Q0,Q1,Zde,Zdh,Zdm,Zdx,decide_true,Z3,Nat.reduceAdd,eq_self,l0,l1,na,h4,xa,xg,ya,yg,lv_p,nra,nrg,mra,mrg,f1,f2,hw]
     ·have f2 : decide ((t.gotos[s].length : Int) = t.nt) = false := decide_eq_false (by omega)
      rw [decide_eq_false e2, Bool.and_false, Z2, cond_false]
      simp only [loop_e,EB_r32_shape_0,Zaa,Zab,Zac,Zad,Zae,Zag,Zai,Zaj,Zak,Zam,Zao,Zar,Zaw,Zay,Zbc,Zbh,Zbi,Zbj,Zbk,Zbl,Zbo,Zbq,Zby,Zcb,Zcg,Zcv,Zcw,Zcx,Zdb,Zdc,Zdd,Q2,Q3,Q0,Q1,Zdh,Zdm,Zdx,decide_true,Z3,Z9,Nat.reduceAdd,eq_self,l0,l1,na,h4,xa,xg,ya,yg,lv_p,nra,nrg,mra,mrg,f1,f2]
    ·have f1 : decide ((t.acts[s].length : Int) = t.tm) = false := decide_eq_false (by omega)
     rw [decide_eq_false e1, Z2, Z2, cond_false]
     simp only [loop_e,EB_r32_shape_0,Zaa,Zab,Zac,Zad,Zae,Zag,Zai,Zaj,Zak,Zam,Zao,Zar,Zaw,Zay,Zbd,Zbg,Zbi,Zbj,Zbk,Zbl,Zbo,Zbq,Zby,Zcb,Zcg,Zcv,Zcw,Zcx,Zdb,Zdc,Zdd,Q2,Q3,Q0,Q1,Zdh,Zdm,Zdx,decide_true,Z9,Nat.reduceAdd,eq_self,l0,na,h4,xa,ya,lv_p,nra,mra,f1]
  have e := loop n 0 5000 (by omega) (by omega)
  rw [Z6, Z6, z0, hh1] at e
  rw [hh1] at l0 l1
  by_cases c8 : lenOk t.tm t.nt t.acts t.gotos = true
  ·rw [c8, cond_true] at e
   refine ⟨fun _ => ?_, fun k => absurd ⟨fr, c8⟩ k⟩
   simp only [Zaa,Zab,Zac,Zad,Zae,Zaf,Zag,Zai,Zaj,Zak,Zap,Zas,Zat,Zay,Zaz,Zbc,Zbh,Zbi,Zbj,Zbk,Zbl,Zbn,Zbo,Zbq,Zbr,Zby,Zcb,Zcg,Zcp,Zcq,Zcs,Zcu,Zcv,Zcw,Zcx,Zcz,Zda,Zdb,Zdc,Zdd,Q2,Q3,Q0,Q1,Z0,Zdm,Zdr,Zdx,Zeb,Z3,Q6,Q4,if_true,Nat.reduceAdd,Nat.reduceSub,eq_self,true_and,Q6,Q4,Q8,Q9,Q7,Q5,Q5,Q4,l0,l1,na,ng,w1,d3,xa,xg,lv_p,nra,nrg,w2,w3,e,resAll,resVals,resVal,Z4,Prod.mk.injEq,true_and,exists_eq']
  ·have c8' : lenOk t.tm t.nt t.acts t.gotos = false := by simpa using c8
   rw [c8', cond_false] at e
   refine ⟨fun k => absurd k.2 c8, fun _ => ?_⟩
   simp only [Zaa,Zab,Zac,Zad,Zae,Zaf,Zag,Zaj,Zak,Zam,Zao,Zas,Zat,Zay,Zaz,Zbc,Zbh,Zbi,Zbj,Zbk,Zbl,Zbn,Zbo,Zbq,Zbr,Zby,Zcb,Zcg,Zcp,Zcq,Zcs,Zcu,Zcv,Zcw,Zcx,Zcz,Zda,Zdb,Zdc,Zdd,Q2,Q3,Q0,Q1,Z0,Zdm,Zdr,Zdx,Zeb,Z3,Q6,Q4,if_true,Nat.reduceAdd,Nat.reduceSub,eq_self,true_and,Q6,Q4,Q8,Q9,Q7,Q5,Q5,Q4,l0,l1,na,ng,w1,d3,xa,xg,lv_p,nra,nrg,w2,w3,e,resAll,resVals,resVal,Z4,Prod.mk.injEq,true_and,exists_eq']
 exact ⟨fun k => lim_flat rfl rfl P_r32_shape 5000 fzs (key.1 k) (fun _ => rfl) H, fun k => lim_flat rfl rfl P_r32_shape 5000 fzs (key.2 k) (fun _ => rfl) H⟩
variable {B : Nat}
theorem acts_1 (ha : LiG (LiG LiA) t.acts av) (hn : t.acts.length ≤ 4096) (s : Nat) (hs : s < t.acts.length) (w4 : AV) (hm : t.acts[s].length ≤ 1000) (N : Nat) (hB : 1 ≤ B) : ∀ (d i m : Nat) (xs : List Int) (h : AHeap) (w : AV) (q : Option Nat), t.acts[s].length = i + d → d < m → h[0]? = some (.arr 0 2 true [[av, gv]]) → OwnG 1 (eIs xs) w h q → (∀ i, q = some i → B ≤ i) → B ≤ h.length → xs.length = i →
  (nonNeg ((t.acts[s].drop i).map (numD t.acts.length)) = true → ∃ (h' : AHeap) (w' : AV) (q' : Option Nat), loopN (evalCode (lim G0.cfg) N B_r32_acts_1) m ⟨(J::.ptr 0 0 0 0::J::J::w4 :: .int .i64 s :: w :: .int .i64 i::J::J::J::J::J::J::J::J::J::J::J::J::J::J::J::J::J::J::J::J::J::J::J::J::J::J::J::J::J::J::J::J::J::J::J::J::J::J::J::J::J::[]), h⟩ = some (.exit 2, ⟨(J::.ptr 0 0 0 0::J::J::w4 :: .int .i64 s :: w'::J::J::J::J::J::J::J::J::J::J::J::J::J::J::J::J::J::J::J::J::J::J::J::J::J::J::J::J::J::J::J::J::J::J::J::J::J::J::J::J::J::J::[]), h'⟩) ∧
   OwnG 1 (eIs (xs ++ (t.acts[s].drop i).map (numD t.acts.length))) w' h' q' ∧ (∀ i, q' = some i → B ≤ i) ∧ B ≤ h'.length ∧ (∀ (j : Nat) (o : AObj), j < B → h[j]? = some o → h'[j]? = some o)) ∧
  (nonNeg ((t.acts[s].drop i).map (numD t.acts.length)) = false → ∃ h', loopN (evalCode (lim G0.cfg) N B_r32_acts_1) m ⟨(J::.ptr 0 0 0 0::J::J::w4 :: .int .i64 s :: w :: .int .i64 i::J::J::J::J::J::J::J::J::J::J::J::J::J::J::J::J::J::J::J::J::J::J::J::J::J::J::J::J::J::J::J::J::J::J::J::J::J::J::J::J::J::[]), h⟩ = some (.ret, ⟨(J::J::.nilS :: .bool false::J::J::J::J::J::J::J::J::J::J::J::J::J::J::J::J::J::J::J::J::J::J::J::J::J::J::J::J::J::J::J::J::J::J::J::J::J::J::J::J::J::J::J::J::J::[]), h'⟩)) := by
 obtain ⟨rv, hr, xr⟩ := ha.ix s hs
 obtain ⟨row, hrow⟩ : ∃ r, r = t.acts[s] := ⟨_, rfl⟩
 rw [← hrow] at hr hm ⊢
 have na := ha.len
 have nr := hr.len
 obtain ⟨n, hnn⟩ : ∃ n, n = t.acts.length := ⟨_, rfl⟩
 rw [← hnn] at na hn ⊢
 intro d
 induction d with
 | zero =>
  intro i m xs h w q h1 h2 e0 ow tv lb lx
  obtain ⟨m, rfl⟩ : ∃ q, m = q + 1 := ⟨m - 1, by omega⟩
  have h3 : ¬ ((i : Int) < row.length) := by omega
  have q1 : row.drop i = [] := Z5.2 (by omega)
  have la0 := tab_a h e0
  rw [q1, List.map_nil, Y0]
  refine ⟨fun _ => ⟨h, w, q, ?_, ow, tv, lb, fun _ _ _ e => e⟩, fun e => (by cases e)⟩
  simp only [loop_e,EB_r32_acts_1,Zab,Zac,Zad,Zag,Zah,Zaj,Zak,Zal,Zas,Zav,Zay,Zbi,Zbk,Zbo,Zbq,Zby,Zcb,Zcg,Zcv,Zcx,Zdb,Zdc,Zdd,Q2,Q3,Q0,Q1,Zdh,Zdx,decide_false,Nat.reduceAdd,eq_self,la0,xr,lv_p,nr,h3]
 | succ d ih =>
  intro i m xs h w q h1 h2 e0 ow tv lb lx
  obtain ⟨m, rfl⟩ : ∃ q, m = q + 1 := ⟨m - 1, by omega⟩
  have h3 : i < row.length := by omega
  have h3' : (i : Int) < row.length := by omega
  have hw := w64s (n := i) (by omega)
  have q1 : row.drop i = row[i] :: row.drop (i + 1) := Z1 h3
  obtain ⟨cv, hc, xc⟩ := hr.ix i h3
  have la0 := tab_a h e0
  have fc := r_number hc (n : Int) ⟨by omega, by omega⟩
  obtain ⟨y, hy⟩ : ∃ y, y = numD n row[i] := ⟨_, rfl⟩
  rw [← hy] at fc
  have e1 : nonNeg ((row[i] :: row.drop (i + 1)).map (numD n)) = (decide (0 ≤ y) && nonNeg ((row.drop (i + 1)).map (numD n))) := by rw [Y2, ← hy]; rfl
  rw [q1, e1]
  by_cases yz : y < 0
  case pos =>
   rw [decide_eq_false (by omega : ¬ 0 ≤ y), Z2]
   refine ⟨fun e => (by cases e), fun _ => ⟨h, ?_⟩⟩
   simp only [loop_e,EB_r32_acts_1,Zaa,Zab,Zac,Zad,Zae,Zag,Zai,Zaj,Zak,Zam,Zao,Zar,Zaw,Zay,Zaz,Zbi,Zbk,Zbo,Zbq,Zby,Zcb,Zcg,Zcp,Zcq,Zcv,Zcw,Zcx,Zcz,Zda,Zdb,Zdc,Zdd,Q2,Q3,Q0,Q1,Zdh,Zdx,decide_true,Nat.reduceAdd,eq_self,Q7,Q5,la0,xr,lv_p,nr,h3',xc,na,fc,yz]
  case neg =>
  rw [decide_eq_true (by omega : 0 ≤ y), Z8]
  obtain ⟨iv, ver1, H1, r1, r2, r3, r4, r5⟩ := ow.push true (c := [.int .i64 y]) rfl rfl (eIs_all _) 8 (by omega) (by rw [Zep]; omega)
  rw [Zep] at r1 r2
  rw [← eIs_snoc] at r2
  have tiv : B ≤ iv := by
   rcases r4 with g | ⟨_, g⟩
   ·exact tv iv g
   ·omega
  obtain ⟨vvx, hvx⟩ : ∃ x, x = AV.hsl iv ver1 0 (xs.length + 1) none := ⟨_, rfl⟩
  rw [← hvx] at r1 r2
  have key := ih (i + 1) m (xs ++ [y]) H1 vvx (some iv) (by omega) (by omega) (r3 0 _ e0 (fun f => by have := tv 0 f; omega)) r2 (fun i f => by cases f; exact tiv) (by omega) (by simp [lx])
  have run : loopN (evalCode (lim G0.cfg) N B_r32_acts_1) (m + 1) ⟨(J::.ptr 0 0 0 0::J::J::w4 :: .int .i64 s :: w :: .int .i64 i::J::J::J::J::J::J::J::J::J::J::J::J::J::J::J::J::J::J::J::J::J::J::J::J::J::J::J::J::J::J::J::J::J::J::J::J::J::J::J::J::J::[]), h⟩ = loopN (evalCode (lim G0.cfg) N B_r32_acts_1) m ⟨(J::.ptr 0 0 0 0::J::J::w4 :: .int .i64 s :: vvx :: .int .i64 (i + 1 : Nat)::J::J::J::J::J::J::J::J::J::J::J::J::J::J::J::J::J::J::J::J::J::J::J::J::J::J::J::J::J::J::J::J::J::J::J::J::J::J::J::J::J::[]), H1⟩ := by
   have lt2 := fun h : AHeap => lit1' h (.int .i64 0) (.int .i64 y) rfl rfl
   simp only [loop_e,EB_r32_acts_1,Zaa,Zab,Zac,Zad,Zae,Zag,Zaj,Zak,Zan,Zar,Zas,Zau,Zay,Zaz,Zbi,Zbk,Zbo,Zbq,Zby,Zcb,Zcg,Zci,Zcn,Zcp,Zcq,Zcv,Zcw,Zcx,Zcz,Zda,Zdb,Zdc,Zdd,Q2,Q3,Q0,Q1,Zde,Zdh,Zdx,decide_true,decide_false,Nat.reduceAdd,eq_self,Q7,Q5,la0,xr,lv_p,nr,h3',xc,na,fc,yz,ev2,lt2,r1,hw]
  rw [run]
  refine ⟨fun hk => ?_, key.2⟩
  obtain ⟨h', w', q', e, g1, g2, g3, g4⟩ := key.1 hk
  refine ⟨h', w', q', e, ?_, g2, g3, fun j o hj e => g4 j o hj (r3 j o e (fun f => by have := tv j f; omega))⟩
  rw [Y2, ← hy]
  rw [Z7] at g1
  exact g1
theorem gotos_1 (hg : LiR t.gotos gv) (hn : t.gotos.length ≤ 4096) (s : Nat) (hs : s < t.gotos.length) (w4 : AV) (hm : t.gotos[s].length ≤ 1000) (N : Nat) (hB : 1 ≤ B) : ∀ (d i m : Nat) (xs : List Int) (h : AHeap) (w : AV) (q : Option Nat), t.gotos[s].length = i + d → d < m → h[0]? = some (.arr 0 2 true [[av, gv]]) → OwnG 1 (eIs xs) w h q → (∀ i, q = some i → B ≤ i) → B ≤ h.length → xs.length = i →
  (nonNeg ((t.gotos[s].drop i).map (gtoD t.gotos.length)) = true → ∃ (h' : AHeap) (w' : AV) (q' : Option Nat), loopN (evalCode (lim G0.cfg) N B_r32_gotos_1) m ⟨(J::.ptr 0 0 0 0::J::J::w4 :: .int .i64 s :: w :: .int .i64 i::J::J::J::J::J::J::J::J::J::J::J::J::J::J::J::J::J::J::J::J::J::J::J::J::J::J::J::J::J::J::J::J::J::J::J::J::J::J::J::J::J::J::J::J::J::[]), h⟩ = some (.exit 2, ⟨(J::.ptr 0 0 0 0::J::J::w4 :: .int .i64 s :: w'::J::J::J::J::J::J::J::J::J::J::J::J::J::J::J::J::J::J::J::J::J::J::J::J::J::J::J::J::J::J::J::J::J::J::J::J::J::J::J::J::J::J::J::J::J::J::[]), h'⟩) ∧
   OwnG 1 (eIs (xs ++ (t.gotos[s].drop i).map (gtoD t.gotos.length))) w' h' q' ∧ (∀ i, q' = some i → B ≤ i) ∧ B ≤ h'.length ∧ (∀ (j : Nat) (o : AObj), j < B → h[j]? = some o → h'[j]? = some o)) ∧
  (nonNeg ((t.gotos[s].drop i).map (gtoD t.gotos.length)) = false → ∃ h', loopN (evalCode (lim G0.cfg) N B_r32_gotos_1) m ⟨(J::.ptr 0 0 0 0::J::J::w4 :: .int .i64 s :: w :: .int .i64 i::J::J::J::J::J::J::J::J::J::J::J::J::J::J::J::J::J::J::J::J::J::J::J::J::J::J::J::J::J::J::J::J::J::J::J::J::J::J::J::J::J::J::J::J::J::[]), h⟩ = some (.ret, ⟨(J::J::.nilS :: .bool false::J::J::J::J::J::J::J::J::J::J::J::J::J::J::J::J::J::J::J::J::J::J::J::J::J::J::J::J::J::J::J::J::J::J::J::J::J::J::J::J::J::J::J::J::J::J::J::J::J::[]), h'⟩)) := by
 obtain ⟨rv, hr, xr⟩ := hg.ix s hs
 obtain ⟨row, hrow⟩ : ∃ r, r = t.gotos[s] := ⟨_, rfl⟩
 rw [← hrow] at hr hm ⊢
 have na := hg.len
 have nr := hr.len
 obtain ⟨n, hnn⟩ : ∃ n, n = t.gotos.length := ⟨_, rfl⟩
 rw [← hnn] at na hn ⊢
 intro d
 induction d with
 | zero =>
  intro i m xs h w q h1 h2 e0 ow tv lb lx
  obtain ⟨m, rfl⟩ : ∃ q, m = q + 1 := ⟨m - 1, by omega⟩
  have h3 : ¬ ((i : Int) < row.length) := by omega
  have q1 : row.drop i = [] := Z5.2 (by omega)
  have la0 := tab_g h e0
  rw [q1, List.map_nil, Y0]
  refine ⟨fun _ => ⟨h, w, q, ?_, ow, tv, lb, fun _ _ _ e => e⟩, fun e => (by cases e)⟩
  simp only [loop_e,EB_r32_gotos_1,Zab,Zac,Zad,Zag,Zah,Zaj,Zak,Zal,Zas,Zav,Zay,Zbi,Zbk,Zbo,Zbq,Zby,Zcb,Zcg,Zcv,Zcx,Zdb,Zdc,Zdd,Q2,Q3,Q0,Q1,Zdh,Zdx,decide_false,Nat.reduceAdd,Int.reduceNeg,eq_self,la0,xr,lv_p,nr,h3]
 | succ d ih =>
  intro i m xs h w q h1 h2 e0 ow tv lb lx
  obtain ⟨m, rfl⟩ : ∃ q, m = q + 1 := ⟨m - 1, by omega⟩
  have h3 : i < row.length := by omega
  have h3' : (i : Int) < row.length := by omega
  have hw := w64s (n := i) (by omega)
  have q1 : row.drop i = row[i] :: row.drop (i + 1) := Z1 h3
  have xc := fun h => hr.ix h .i64 i h3
  have la0 := tab_g h e0
  obtain ⟨x, hx⟩ : ∃ x, x = row[i] := ⟨_, rfl⟩
  rw [← hx] at xc
  have lv : ∀ (h : AHeap), aload h 1 false (.vptr (eI x) 0) = some (.int .i64 x) := fun _ => rfl
  obtain ⟨y, hy⟩ : ∃ y, y = gtoD n x := ⟨_, rfl⟩
  have e1 : nonNeg ((row[i] :: row.drop (i + 1)).map (gtoD n)) = (decide (0 ≤ y) && nonNeg ((row.drop (i + 1)).map (gtoD n))) := by rw [Y2, ← hx, ← hy]; rfl
  rw [q1, e1]
  by_cases c1 : x < -1
  case pos =>
   have ey : y = -1 := by rw [hy, gtoD, if_pos (.inl c1)]
   rw [decide_eq_false (by omega : ¬ 0 ≤ y), Z2]
   refine ⟨fun e => (by cases e), fun _ => ⟨h, ?_⟩⟩
   simp only [loop_e,EB_r32_gotos_1,Zaa,Zab,Zac,Zad,Zae,Zag,Zai,Zaj,Zak,Zam,Zao,Zar,Zaw,Zay,Zbd,Zbg,Zbi,Zbj,Zbk,Zbl,Zbo,Zbq,Zby,Zcb,Zcg,Zcv,Zcw,Zcx,Zdb,Zdc,Zdd,Q2,Q3,Q0,Q1,Zdh,Zdx,decide_true,Nat.reduceAdd,Int.reduceNeg,eq_self,la0,xr,lv_p,nr,h3',xc,lv,c1]
  case neg =>
  by_cases c2 : (n : Int) ≤ x
  case pos =>
   have ey : y = -1 := by rw [hy, gtoD, if_pos (.inr c2)]
   rw [decide_eq_false (by omega : ¬ 0 ≤ y), Z2]
   refine ⟨fun e => (by cases e), fun _ => ⟨h, ?_⟩⟩
   simp only [loop_e,EB_r32_gotos_1,Zaa,Zab,Zac,Zad,Zae,Zag,Zai,Zaj,Zak,Zam,Zao,Zar,Zaw,Zay,Zbc,Zbh,Zbi,Zbj,Zbk,Zbl,Zbo,Zbq,Zby,Zcb,Zcg,Zcv,Zcw,Zcx,Zdb,Zdc,Zdd,Q2,Q3,Q0,Q1,Zdh,Zdk,Zdx,decide_true,decide_false,Nat.reduceAdd,Int.reduceNeg,eq_self,la0,xr,lv_p,nr,h3',xc,lv,na,c1,c2]
  case neg =>
  have ey : y = x + 1 := by rw [hy, gtoD, if_neg (by omega)]
  have w1 : IntKind.i64.wrap (x + 1) = y := by rw [ey]; exact w64 (by omega) (by omega)
  rw [decide_eq_true (by omega : 0 ≤ y), Z8]
  obtain ⟨iv, ver1, H1, r1, r2, r3, r4, r5⟩ := ow.push true (c := [.int .i64 y]) rfl rfl (eIs_all _) 8 (by omega) (by rw [Zep]; omega)
  rw [Zep] at r1 r2
  rw [← eIs_snoc] at r2
  have tiv : B ≤ iv := by
   rcases r4 with g | ⟨_, g⟩
   ·exact tv iv g
   ·omega
  obtain ⟨vvx, hvx⟩ : ∃ x, x = AV.hsl iv ver1 0 (xs.length + 1) none := ⟨_, rfl⟩
  rw [← hvx] at r1 r2
  have key := ih (i + 1) m (xs ++ [y]) H1 vvx (some iv) (by omega) (by omega) (r3 0 _ e0 (fun f => by have := tv 0 f; omega)) r2 (fun i f => by cases f; exact tiv) (by omega) (by simp [lx])
  have run : loopN (evalCode (lim G0.cfg) N B_r32_gotos_1) (m + 1) ⟨(J::.ptr 0 0 0 0::J::J::w4 :: .int .i64 s :: w :: .int .i64 i::J::J::J::J::J::J::J::J::J::J::J::J::J::J::J::J::J::J::J::J::J::J::J::J::J::J::J::J::J::J::J::J::J::J::J::J::J::J::J::J::J::J::J::J::J::[]), h⟩ = loopN (evalCode (lim G0.cfg) N B_r32_gotos_1) m ⟨(J::.ptr 0 0 0 0::J::J::w4 :: .int .i64 s :: vvx :: .int .i64 (i + 1 : Nat)::J::J::J::J::J::J::J::J::J::J::J::J::J::J::J::J::J::J::J::J::J::J::J::J::J::J::J::J::J::J::J::J::J::J::J::J::J::J::J::J::J::J::J::J::J::[]), H1⟩ := by
   have lt2 := fun h : AHeap => lit1' h (.int .i64 0) (.int .i64 y) rfl rfl
   simp only [loop_e,EB_r32_gotos_1,Zaa,Zab,Zac,Zad,Zae,Zag,Zaj,Zak,Zan,Zar,Zas,Zau,Zay,Zaz,Zbc,Zbh,Zbi,Zbj,Zbk,Zbl,Zbo,Zbq,Zby,Zcb,Zcg,Zci,Zcn,Zcv,Zcw,Zcx,Zdb,Zdc,Zdd,Q2,Q3,Q0,Q1,Zde,Zdh,Zdk,Zdx,decide_true,decide_false,Nat.reduceAdd,Int.reduceNeg,eq_self,la0,xr,lv_p,nr,h3',xc,lv,na,c1,c2,w1,ev2,lt2,r1,hw]
  rw [run]
  refine ⟨fun hk => ?_, key.2⟩
  obtain ⟨h', w', q', e, g1, g2, g3, g4⟩ := key.1 hk
  refine ⟨h', w', q', e, ?_, g2, g3, fun j o hj e => g4 j o hj (r3 j o e (fun f => by have := tv j f; omega))⟩
  rw [Y2, ← hx, ← hy]
  rw [Z7] at g1
  exact g1
end
end Go.Proofs.Ytkgndbhflehhhaa.Ai
namespace Go.Proofs.Ytkgndbhflehhhaa.Ai
open Go Go.Proofs
open AV renaming junk → J
open List renaming getD_cons_zero → Q0, getD_cons_succ → Q1, set_cons_zero → Q2, set_cons_succ → Q3, length_nil → Q4, nil_append → Q5, length_cons → Q6, cons_append → Q7, replicate_succ → Q8, replicate_zero → Q9, drop_eq_getElem_cons → Z1, drop_eq_nil_iff → Z5, drop_zero → Z6, append_assoc → Z7, append_nil → Y0, map_cons → Y2, all_cons → Y4
open Option renaming map_some → Z0
open Bool renaming false_and → Z2, not_true → Z3, true_and → Z8, not_false → Z9, decide_and → Y1
open Option.some renaming injEq → Z4
open Nat renaming le_refl → Y3
set_option linter.unusedVariables false
set_option linter.unusedSimpArgs false
set_option maxRecDepth 10000
set_option maxHeartbeats 4000000
section
variable {t : TabD} {av gv : AV}
theorem tab_fz (ha : LiG (LiG LiA) t.acts av) (hg : LiR t.gotos gv) : ∀ h, mapO (freeze h 1000) [.agg [av, gv]] = some ([AV.agg [av, gv]].map fun x => (x, true)) := fun h => fz_1 (by
 have : freeze h 1000 (.agg [av, gv]) = (mapO (freeze h 999) [av, gv]).map fun l => (.agg (l.map (·.1)), l.all (·.2)) := rfl
 rw [this]
 simp only [mapO,ha.fz h 998,hg.fz h 998]; rfl)
theorem acts_0 (hl : LiG (LiG LiA) t.acts av) (hn : t.acts.length ≤ 4096) (hm : ∀ r ∈ t.acts, r.length ≤ 1000) (N : Nat) (hN : 5000 ≤ N) : ∀ (d s m : Nat) (A : List (List Int)) (h : AHeap) (w : AV) (cs : List (List AV)) (q : Option Nat) (S : Nat → Prop), t.acts.length = s + d → d < m → h[0]? = some (.arr 0 2 true [[av, gv]]) → OwnG 1 cs w h q → Nest eIs A cs h S → (∀ i, S i → 1 ≤ i ∧ i < h.length) → (∀ i, q = some i → 1 ≤ i ∧ ¬ S i) → A.length = s →
  ((rowsA t.acts.length (t.acts.drop s)).all nonNeg = true → ∃ (h' : AHeap) (w' : AV) (cs' : List (List AV)) (q' : Option Nat) (S' : Nat → Prop), loopN (evalCode (lim G0.cfg) N B_r32_acts_0) m ⟨(J::.ptr 0 0 0 0::J::J::w :: .int .i64 s::J::J::J::J::J::J::J::J::J::J::J::J::J::J::J::J::J::J::J::J::J::J::J::J::J::J::J::J::J::J::J::J::J::J::J::J::J::J::J::J::J::J::J::[]), h⟩ = some (.exit 0, ⟨(J::J::J::J::w'::J::J::J::J::J::J::J::J::J::J::J::J::J::J::J::J::J::J::J::J::J::J::J::J::J::J::J::J::J::J::J::J::J::J::J::J::J::J::J::J::J::J::J::J::[]), h'⟩) ∧ OwnG 1 cs' w' h' q' ∧ Nest eIs (A ++ rowsA t.acts.length (t.acts.drop s)) cs' h' S') ∧
  ((rowsA t.acts.length (t.acts.drop s)).all nonNeg = false → ∃ h', loopN (evalCode (lim G0.cfg) N B_r32_acts_0) m ⟨(J::.ptr 0 0 0 0::J::J::w :: .int .i64 s::J::J::J::J::J::J::J::J::J::J::J::J::J::J::J::J::J::J::J::J::J::J::J::J::J::J::J::J::J::J::J::J::J::J::J::J::J::J::J::J::J::J::J::[]), h⟩ = some (.ret, ⟨(J::J::.nilS :: .bool false::J::J::J::J::J::J::J::J::J::J::J::J::J::J::J::J::J::J::J::J::J::J::J::J::J::J::J::J::J::J::J::J::J::J::J::J::J::J::J::J::J::J::J::J::J::[]), h'⟩)) := by
 have na := hl.len
 intro d
 induction d with
 | zero =>
  intro s m A h w cs q S h1 h2 e0 ow nw hS hq lA
  obtain ⟨m, rfl⟩ : ∃ q, m = q + 1 := ⟨m - 1, by omega⟩
  have h3 : ¬ ((s : Int) < t.acts.length) := by omega
  have q1 : t.acts.drop s = [] := Z5.2 (by omega)
  have la0 := tab_a h e0
  have r0 : rowsA t.acts.length [] = [] := rfl
  rw [q1, r0, Y0]
  refine ⟨fun _ => ⟨h, w, cs, q, S, ?_, ow, nw⟩, fun e => (by cases e)⟩
  simp only [loop_e,EB_r32_acts_0,Zab,Zac,Zad,Zag,Zah,Zaj,Zak,Zal,Zas,Zav,Zay,Zbi,Zbk,Zbo,Zbq,Zby,Zcg,Zcv,Zcx,Zdb,Zdc,Zdd,Q2,Q3,Q0,Q1,Zdh,Zdx,decide_false,Nat.reduceAdd,eq_self,la0,na,h3]
 | succ d ih =>
  intro s m A h w cs q S h1 h2 e0 ow nw hS hq lA
  obtain ⟨m, rfl⟩ : ∃ q, m = q + 1 := ⟨m - 1, by omega⟩
  have s1 : s < t.acts.length := by omega
  have h3' : (s : Int) < t.acts.length := by omega
  have hw := w64s (n := s) (by omega)
  have q1 : t.acts.drop s = t.acts[s] :: t.acts.drop (s + 1) := Z1 s1
  have la0 := tab_a h e0
  have len1 : 1 ≤ h.length := get_len e0
  have r0 : rowsA t.acts.length (t.acts[s] :: t.acts.drop (s + 1)) = t.acts[s].map (numD t.acts.length) :: rowsA t.acts.length (t.acts.drop (s + 1)) := rfl
  rw [q1, r0, Y4]
  have rl := hm _ (List.getElem_mem s1)
  obtain ⟨k1, k2⟩ := acts_1 (B := h.length) (gv := gv) (av := av) hl hn s s1 w rl N len1 t.acts[s].length 0 N [] h .nilS none (by omega) (by omega) e0 (OwnG.nil 1 _) (fun _ e => by cases e) (Y3 _) rfl
  rw [Z6, Q5] at k1
  rw [Z6] at k2
  rw [z0] at k1 k2
  by_cases c : nonNeg (t.acts[s].map (numD t.acts.length)) = true
  case neg =>
   have c' : nonNeg (t.acts[s].map (numD t.acts.length)) = false := by simpa using c
   obtain ⟨h', e⟩ := k2 c'
   rw [c', Z2]
   refine ⟨fun e => (by cases e), fun _ => ⟨h', ?_⟩⟩
   simp only [loop_e,EB_r32_acts_0,Zaa,Zab,Zac,Zad,Zae,Zaf,Zag,Zaj,Zak,Zam,Zao,Zar,Zat,Zaw,Zay,Zbi,Zbk,Zbo,Zbq,Zby,Zcg,Zcv,Zcw,Zcx,Zdb,Zdc,Zdd,Q2,Q3,Q0,Q1,Zdh,Zdx,decide_true,Nat.reduceAdd,eq_self,la0,na,h3',e]
  case pos =>
  obtain ⟨h5, wx, qx, e4, ox, bx, l5, f5⟩ := k1 c
  rw [c, Z8]
  have ql : ∀ i, q = some i → i < h.length := fun i e => by rw [e] at ow; exact ow.lt
  have qxl : ∀ i, qx = some i → i < h5.length := fun i e => by rw [e] at ox; exact ox.lt
  obtain ⟨S', hS'⟩ : ∃ S' : Nat → Prop, S' = fun i => S i ∨ qx = some i := ⟨_, rfl⟩
  have ow5 := ow.frame (h' := h5) fun i o e k => f5 i o (ql i e) k
  have nw5 := nw.frame (h' := h5) fun i o e k => f5 i o (hS i e).2 k
  have nS : ∀ i, q = some i → ¬ S' i := fun i e hs => by
   rw [hS'] at hs
   rcases hs with hs | hs
   ·exact (hq i e).2 hs
   ·have := bx i hs; have := ql i e; omega
  have lS' : ∀ i, S' i → 1 ≤ i ∧ i < h5.length := fun i hs => by
   rw [hS'] at hs
   rcases hs with hs | hs
   ·have := hS i hs; omega
   ·have := bx i hs; have := qxl i hs; omega
  obtain ⟨lt2, H6a, i2, ver2, H6, t2, r1, r2, r3, r4, r5⟩ := ow5.pushRow ox.cell nw5.all 24 (by omega) (by rw [nw.len]; omega) .nilS
  have ns2 : ¬ S' i2 := fun hs => by
   rcases r4 with k | ⟨_, k⟩
   ·exact nS i2 k hs
   ·have := (lS' i2 hs).2; omega
  have nw6 : Nest eIs (A ++ [t.acts[s].map (numD t.acts.length)]) (cs ++ [[wx]]) H6 S' := by
   have := (nw5.mono (S' := S') (fun i k => by rw [hS']; exact .inl k)).push (x := t.acts[s].map (numD t.acts.length)) ox (fun i k => by rw [hS']; exact .inr k)
   exact this.frame fun i o k e => r3 i o e (fun f => nS i f k)
  have e06 : H6[0]? = some (.arr 0 2 true [[av, gv]]) := r3 0 _ (f5 0 _ (by omega) e0) (fun f => by have := (hq 0 f).1; omega)
  obtain ⟨wa, hwa⟩ : ∃ x, x = AV.hsl i2 ver2 0 (cs.length + 1) none := ⟨_, rfl⟩
  rw [← hwa] at r1 r2
  have key := ih (s + 1) m (A ++ [t.acts[s].map (numD t.acts.length)]) H6 wa (cs ++ [[wx]]) (some i2) S' (by omega) (by omega) e06 r2 nw6 (fun i k => by have := lS' i k; omega)
   (fun i e => by cases e; exact ⟨by rcases r4 with u | ⟨_, u⟩; exact (hq _ u).1; omega, ns2⟩) (by simp [lA])
  have run : loopN (evalCode (lim G0.cfg) N B_r32_acts_0) (m + 1) ⟨(J::.ptr 0 0 0 0::J::J::w :: .int .i64 s::J::J::J::J::J::J::J::J::J::J::J::J::J::J::J::J::J::J::J::J::J::J::J::J::J::J::J::J::J::J::J::J::J::J::J::J::J::J::J::J::J::J::J::[]), h⟩ = loopN (evalCode (lim G0.cfg) N B_r32_acts_0) m ⟨(J::.ptr 0 0 0 0::J::J::wa :: .int .i64 (s + 1 : Nat)::J::J::J::J::J::J::J::J::J::J::J::J::J::J::J::J::J::J::J::J::J::J::J::J::J::J::J::J::J::J::J::J::J::J::J::J::J::J::J::J::J::J::J::[]), H6⟩ := by
   simp only [loop_e,EB_r32_acts_0,Zaa,Zab,Zac,Zad,Zae,Zaf,Zag,Zaj,Zak,Zan,Zap,Zar,Zat,Zau,Zay,Zaz,Zbi,Zbk,Zbo,Zbq,Zby,Zcg,Zci,Zcn,Zcv,Zcw,Zcx,Zdb,Zdc,Zdd,Q2,Q3,Q0,Q1,Zde,Zdh,Zdx,decide_true,Nat.reduceAdd,eq_self,la0,na,h3',e4,ev2,t2,r1,hw]
  rw [run]
  refine ⟨fun hk => ?_, key.2⟩
  obtain ⟨h', w', cs', q', S2, u1, u2, u3⟩ := key.1 hk
  refine ⟨h', w', cs', q', S2, u1, u2, ?_⟩
  rw [Z7] at u3; exact u3
theorem r_acts (ha : LiG (LiG LiA) t.acts av) (hg : LiR t.gotos gv) (hn : t.acts.length ≤ 4096) (hm : ∀ r ∈ t.acts, r.length ≤ 1000) :
  ((rowsA t.acts.length t.acts).all nonNeg = true → ∃ x, LiR (rowsA t.acts.length t.acts) x ∧ ∀ H, lim G0.cfg (.func 43) [.agg [av, gv]] H = some (.tup [x, .bool true], H)) ∧
  ((rowsA t.acts.length t.acts).all nonNeg = false → ∀ H, lim G0.cfg (.func 43) [.agg [av, gv]] H = some (.tup [.nilS, .bool false], H)) := by
 have bx := tab_box ha hg
 obtain ⟨k1, k2⟩ := acts_0 (t := t) (av := av) (gv := gv) ha hn hm 5000 (Y3 _) t.acts.length 0 5000 [] [.arr 0 2 true [[av, gv]]] .nilS [] none (fun _ => False) (by omega) (by omega) rfl (OwnG.nil 1 _) (Nest.nil _ _ _) (fun _ e => e.elim) (fun _ e => by cases e) rfl
 rw [Z6, z0] at k1 k2
 rw [Q5] at k1
 refine ⟨fun k => ?_, fun k H => ?_⟩
 ·obtain ⟨h', w', cs', q', S', e, o2, n2⟩ := k1 k
  obtain ⟨x2, b2, f2, g2⟩ := n2.fz o2 996
  have fz : freeze h' 1000 (.tup [w', .bool true]) = some (.tup [x2, .bool true], ([(x2, b2), (.bool true, true)] : List (AV × Bool)).all (·.2)) := by
   have : freeze h' 1000 (.tup [w', .bool true]) = (mapO (freeze h' 999) [w', .bool true]).map fun l => (.tup (l.map (·.1)), l.all (·.2)) := rfl
   rw [this]
   have f4 : freeze h' 999 (.bool true) = some (.bool true, true) := rfl
   have m : mapO (freeze h' 999) [w', .bool true] = some [(x2, b2), (.bool true, true)] := by simp only [mapO,f2,f4]
   rw [m]; rfl
  refine ⟨x2, g2, fun H => lim_at rfl rfl P_r32_acts 5000 (tab_fz ha hg) ?_ fz H⟩
  rw [R_r32_acts]
  simp only [Zab,Zac,Zae,Zaf,Zag,Zai,Zaj,Zak,Zap,Zat,Zaz,Zbi,Zbk,Zbn,Zcs,Zcu,Zcv,Zcw,Zcx,Zdb,Zdc,Zdd,Q2,Q3,Q0,Q1,Z0,Zeb,Q6,Q4,if_true,Nat.reduceAdd,Nat.reduceSub,eq_self,Q6,Q4,Q8,Q9,Q7,Q5,Q5,Q4,e,resAll,resVals,resVal]
 ·obtain ⟨h', e⟩ := k2 k
  refine lim_at rfl rfl P_r32_acts 5000 (tab_fz ha hg) (x := .tup [.nilS, .bool false]) (h' := h') ?_ (rfl : freeze h' 1000 (.tup [.nilS, .bool false]) = some (.tup [.nilS, .bool false], true)) H
  rw [R_r32_acts]
  simp only [Zab,Zac,Zae,Zaf,Zag,Zaj,Zak,Zam,Zao,Zat,Zaz,Zbi,Zbk,Zbn,Zcs,Zcu,Zcv,Zcw,Zcx,Zdb,Zdc,Zdd,Q2,Q3,Q0,Q1,Z0,Zeb,Q6,Q4,if_true,Nat.reduceAdd,Nat.reduceSub,eq_self,Q6,Q4,Q8,Q9,Q7,Q5,Q5,Q4,e,resAll,resVals,resVal]
theorem gotos_0 (hl : LiR t.gotos gv) (hn : t.gotos.length ≤ 4096) (hm : ∀ r ∈ t.gotos, r.length ≤ 1000) (N : Nat) (hN : 5000 ≤ N) : ∀ (d s m : Nat) (A : List (List Int)) (h : AHeap) (w : AV) (cs : List (List AV)) (q : Option Nat) (S : Nat → Prop), t.gotos.length = s + d → d < m → h[0]? = some (.arr 0 2 true [[av, gv]]) → OwnG 1 cs w h q → Nest eIs A cs h S → (∀ i, S i → 1 ≤ i ∧ i < h.length) → (∀ i, q = some i → 1 ≤ i ∧ ¬ S i) → A.length = s →
  ((rowsG t.gotos.length (t.gotos.drop s)).all nonNeg = true → ∃ (h' : AHeap) (w' : AV) (cs' : List (List AV)) (q' : Option Nat) (S' : Nat → Prop), loopN (evalCode (lim G0.cfg) N B_r32_gotos_0) m ⟨(J::.ptr 0 0 0 0::J::J::w :: .int .i64 s::J::J::J::J::J::J::J::J::J::J::J::J::J::J::J::J::J::J::J::J::J::J::J::J::J::J::J::J::J::J::J::J::J::J::J::J::J::J::J::J::J::J::J::J::J::J::J::[]), h⟩ = some (.exit 0, ⟨(J::J::J::J::w'::J::J::J::J::J::J::J::J::J::J::J::J::J::J::J::J::J::J::J::J::J::J::J::J::J::J::J::J::J::J::J::J::J::J::J::J::J::J::J::J::J::J::J::J::J::J::J::J::[]), h'⟩) ∧ OwnG 1 cs' w' h' q' ∧ Nest eIs (A ++ rowsG t.gotos.length (t.gotos.drop s)) cs' h' S') ∧
  ((rowsG t.gotos.length (t.gotos.drop s)).all nonNeg = false → ∃ h', loopN (evalCode (lim G0.cfg) N B_r32_gotos_0) m ⟨(J::.ptr 0 0 0 0::J::J::w :: .int .i64 s::J::J::J::J::J::J::J::J::J::J::J::J::J::J::J::J::J::J::J::J::J::J::J::J::J::J::J::J::J::J::J::J::J::J::J::J::J::J::J::J::J::J::J::J::J::J::J::[]), h⟩ = some (.ret, ⟨(J::J::.nilS :: .bool false::J::J::J::J::J::J::J::J::J::J::J::J::J::J::J::J::J::J::J::J::J::J::J::J::J::J::J::J::J::J::J::J::J::J::J::J::J::J::J::J::J::J::J::J::J::J::J::J::J::[]), h'⟩)) := by
 have na := hl.len
 intro d
 induction d with
 | zero =>
  intro s m A h w cs q S h1 h2 e0 ow nw hS hq lA
  obtain ⟨m, rfl⟩ : ∃ q, m = q + 1 := ⟨m - 1, by omega⟩
  have h3 : ¬ ((s : Int) < t.gotos.length) := by omega
  have q1 : t.gotos.drop s = [] := Z5.2 (by omega)
  have la0 := tab_g h e0
  have r0 : rowsG t.gotos.length [] = [] := rfl
  rw [q1, r0, Y0]
  refine ⟨fun _ => ⟨h, w, cs, q, S, ?_, ow, nw⟩, fun e => (by cases e)⟩
  simp only [loop_e,EB_r32_gotos_0,Zab,Zac,Zad,Zag,Zah,Zaj,Zak,Zal,Zas,Zav,Zay,Zbi,Zbk,Zbo,Zbq,Zby,Zcg,Zcv,Zcx,Zdb,Zdc,Zdd,Q2,Q3,Q0,Q1,Zdh,Zdx,decide_false,Nat.reduceAdd,eq_self,la0,na,h3]
 | succ d ih =>
  intro s m A h w cs q S h1 h2 e0 ow nw hS hq lA
  obtain ⟨m, rfl⟩ : ∃ q, m = q + 1 := ⟨m - 1, by omega⟩
  have s1 : s < t.gotos.length := by omega
  have h3' : (s : Int) < t.gotos.length := by omega
  have hw := w64s (n := s) (by omega)
  have q1 : t.gotos.drop s = t.gotos[s] :: t.gotos.drop (s + 1) := Z1 s1
  have la0 := tab_g h e0
  have len1 : 1 ≤ h.length := get_len e0
  have r0 : rowsG t.gotos.length (t.gotos[s] :: t.gotos.drop (s + 1)) = t.gotos[s].map (gtoD t.gotos.length) :: rowsG t.gotos.length (t.gotos.drop (s + 1)) := rfl
  rw [q1, r0, Y4]
  have rl := hm _ (List.getElem_mem s1)
  obtain ⟨k1, k2⟩ := gotos_1 (B := h.length) (gv := gv) (av := av) hl hn s s1 w rl N len1 t.gotos[s].length 0 N [] h .nilS none (by omega) (by omega) e0 (OwnG.nil 1 _) (fun _ e => by cases e) (Y3 _) rfl
  rw [Z6, Q5] at k1
  rw [Z6] at k2
  rw [z0] at k1 k2
  by_cases c : nonNeg (t.gotos[s].map (gtoD t.gotos.length)) = true
  case neg =>
   have c' : nonNeg (t.gotos[s].map (gtoD t.gotos.length)) = false := by simpa using c
   obtain ⟨h', e⟩ := k2 c'
   rw [c', Z2]
   refine ⟨fun e => (by cases e), fun _ => ⟨h', ?_⟩⟩
   simp only [loop_e,EB_r32_gotos_0,Zaa,Zab,Zac,Zad,Zae,Zaf,Zag,Zaj,Zak,Zam,Zao,Zar,Zat,Zaw,Zay,Zbi,Zbk,Zbo,Zbq,Zby,Zcg,Zcv,Zcw,Zcx,Zdb,Zdc,Zdd,Q2,Q3,Q0,Q1,Zdh,Zdx,decide_true,Nat.reduceAdd,eq_self,la0,na,h3',e]
  case pos =>
  obtain ⟨h5, wx, qx, e4, ox, bx, l5, f5⟩ := k1 c
  rw [c, Z8]
  have ql : ∀ i, q = some i → i < h.length := fun i e => by rw [e] at ow; exact ow.lt
  have qxl : ∀ i, qx = some i → i < h5.length := fun i e => by rw [e] at ox; exact ox.lt
  obtain ⟨S', hS'⟩ : ∃ S' : Nat → Prop, S' = fun i => S i ∨ qx = some i := ⟨_, rfl⟩
  have ow5 := ow.frame (h' := h5) fun i o e k => f5 i o (ql i e) k
  have nw5 := nw.frame (h' := h5) fun i o e k => f5 i o (hS i e).2 k
  have nS : ∀ i, q = some i → ¬ S' i := fun i e hs => by
   rw [hS'] at hs
   rcases hs with hs | hs
   ·exact (hq i e).2 hs
   ·have := bx i hs; have := ql i e; omega
  have lS' : ∀ i, S' i → 1 ≤ i ∧ i < h5.length := fun i hs => by
   rw [hS'] at hs
   rcases hs with hs | hs
   ·have := hS i hs; omega
   ·have := bx i hs; have := qxl i hs; omega
  obtain ⟨lt2, H6a, i2, ver2, H6, t2, r1, r2, r3, r4, r5⟩ := ow5.pushRow ox.cell nw5.all 24 (by omega) (by rw [nw.len]; omega) .nilS
  have ns2 : ¬ S' i2 := fun hs => by
   rcases r4 with k | ⟨_, k⟩
   ·exact nS i2 k hs
   ·have := (lS' i2 hs).2; omega
  have nw6 : Nest eIs (A ++ [t.gotos[s].map (gtoD t.gotos.length)]) (cs ++ [[wx]]) H6 S' := by
   have := (nw5.mono (S' := S') (fun i k => by rw [hS']; exact .inl k)).push (x := t.gotos[s].map (gtoD t.gotos.length)) ox (fun i k => by rw [hS']; exact .inr k)
   exact this.frame fun i o k e => r3 i o e (fun f => nS i f k)
  have e06 : H6[0]? = some (.arr 0 2 true [[av, gv]]) := r3 0 _ (f5 0 _ (by omega) e0) (fun f => by have := (hq 0 f).1; omega)
  obtain ⟨wa, hwa⟩ : ∃ x, x = AV.hsl i2 ver2 0 (cs.length + 1) none := ⟨_, rfl⟩
  rw [← hwa] at r1 r2
  have key := ih (s + 1) m (A ++ [t.gotos[s].map (gtoD t.gotos.length)]) H6 wa (cs ++ [[wx]]) (some i2) S' (by omega) (by omega) e06 r2 nw6 (fun i k => by have := lS' i k; omega)
   (fun i e => by cases e; exact ⟨by rcases r4 with u | ⟨_, u⟩; exact (hq _ u).1; omega, ns2⟩) (by simp [lA])
  have run : loopN (evalCode (lim G0.cfg) N B_r32_gotos_0) (m + 1) ⟨(J::.ptr 0 0 0 0::J::J::w :: .int .i64 s::J::J::J::J::J::J::J::J::J::J::J::J::J::J::J::J::J::J::J::J::J::J::J::J::J::J::J::J::J::J::J::J::J::J::J::J::J::J::J::J::J::J::J::J::J::J::J::[]), h⟩ = loopN (evalCode (lim G0.cfg) N B_r32_gotos_0) m ⟨(J::.ptr 0 0 0 0::J::J::wa :: .int .i64 (s + 1 : Nat)::J::J::J::J::J::J::J::J::J::J::J::J::J::J::J::J::J::J::J::J::J::J::J::J::J::J::J::J::J::J::J::J::J::J::J::J::J::J::J::J::J::J::J::J::J::J::J::[]), H6⟩ := by
   simp only [loop_e,EB_r32_gotos_0,Zaa,Zab,Zac,Zad,Zae,Zaf,Zag,Zaj,Zak,Zan,Zap,Zar,Zat,Zau,Zay,Zaz,Zbi,Zbk,Zbo,Zbq,Zby,Zcg,Zci,Zcn,Zcv,Zcw,Zcx,Zdb,Zdc,Zdd,Q2,Q3,Q0,Q1,Zde,Zdh,Zdx,decide_true,Nat.reduceAdd,eq_self,la0,na,h3',e4,ev2,t2,r1,hw]
  rw [run]
  refine ⟨fun hk => ?_, key.2⟩
  obtain ⟨h', w', cs', q', S2, u1, u2, u3⟩ := key.1 hk
  refine ⟨h', w', cs', q', S2, u1, u2, ?_⟩
  rw [Z7] at u3; exact u3
theorem r_gotos (ha : LiG (LiG LiA) t.acts av) (hg : LiR t.gotos gv) (hn : t.gotos.length ≤ 4096) (hm : ∀ r ∈ t.gotos, r.length ≤ 1000) :
  ((rowsG t.gotos.length t.gotos).all nonNeg = true → ∃ x, LiR (rowsG t.gotos.length t.gotos) x ∧ ∀ H, lim G0.cfg (.func 44) [.agg [av, gv]] H = some (.tup [x, .bool true], H)) ∧
  ((rowsG t.gotos.length t.gotos).all nonNeg = false → ∀ H, lim G0.cfg (.func 44) [.agg [av, gv]] H = some (.tup [.nilS, .bool false], H)) := by
 have bx := tab_box ha hg
 obtain ⟨k1, k2⟩ := gotos_0 (t := t) (av := av) (gv := gv) hg hn hm 5000 (Y3 _) t.gotos.length 0 5000 [] [.arr 0 2 true [[av, gv]]] .nilS [] none (fun _ => False) (by omega) (by omega) rfl (OwnG.nil 1 _) (Nest.nil _ _ _) (fun _ e => e.elim) (fun _ e => by cases e) rfl
 rw [Z6, z0] at k1 k2
 rw [Q5] at k1
 refine ⟨fun k => ?_, fun k H => ?_⟩
 ·obtain ⟨h', w', cs', q', S', e, o2, n2⟩ := k1 k
  obtain ⟨x2, b2, f2, g2⟩ := n2.fz o2 996
  have fz : freeze h' 1000 (.tup [w', .bool true]) = some (.tup [x2, .bool true], ([(x2, b2), (.bool true, true)] : List (AV × Bool)).all (·.2)) := by
   have : freeze h' 1000 (.tup [w', .bool true]) = (mapO (freeze h' 999) [w', .bool true]).map fun l => (.tup (l.map (·.1)), l.all (·.2)) := rfl
   rw [this]
   have f4 : freeze h' 999 (.bool true) = some (.bool true, true) := rfl
   have m : mapO (freeze h' 999) [w', .bool true] = some [(x2, b2), (.bool true, true)] := by simp only [mapO,f2,f4]
   rw [m]; rfl
  refine ⟨x2, g2, fun H => lim_at rfl rfl P_r32_gotos 5000 (tab_fz ha hg) ?_ fz H⟩
  rw [R_r32_gotos]
  simp only [Zab,Zac,Zae,Zaf,Zag,Zai,Zaj,Zak,Zap,Zat,Zaz,Zbi,Zbk,Zbn,Zcs,Zcu,Zcv,Zcw,Zcx,Zdb,Zdc,Zdd,Q2,Q3,Q0,Q1,Z0,Zeb,Q6,Q4,if_true,Nat.reduceAdd,Nat.reduceSub,eq_self,Q6,Q4,Q8,Q9,Q7,Q5,Q5,Q4,e,resAll,resVals,resVal]
 ·obtain ⟨h', e⟩ := k2 k
  refine lim_at rfl rfl P_r32_gotos 5000 (tab_fz ha hg) (x := .tup [.nilS, .bool false]) (h' := h') ?_ (rfl : freeze h' 1000 (.tup [.nilS, .bool false]) = some (.tup [.nilS, .bool false], true)) H
  rw [R_r32_gotos]
  simp only [Zab,Zac,Zae,Zaf,Zag,Zaj,Zak,Zam,Zao,Zat,Zaz,Zbi,Zbk,Zbn,Zcs,Zcu,Zcv,Zcw,Zcx,Zdb,Zdc,Zdd,Q2,Q3,Q0,Q1,Z0,Zeb,Q6,Q4,if_true,Nat.reduceAdd,Nat.reduceSub,eq_self,Q6,Q4,Q8,Q9,Q7,Q5,Q5,Q4,e,resAll,resVals,resVal]
end
end Go.Proofs.Ytkgndbhflehhhaa.Ai
namespace Go.Proofs.Ytkgndbhflehhhaa.Ai
open Go Go.Proofs
open List renaming length_cons → Q0, length_nil → Q1, cons_append → Q2, nil_append → Q4
open Nat renaming mul_le_mul_right → Q3
open Bool renaming and_eq_true → Q5
set_option linter.unusedVariables false
set_option linter.unusedSimpArgs false
set_option maxRecDepth 10000
set_option maxHeartbeats 4000000
structure PackD where
 tms : Int
 nts : Int
 a : RowT
 g : RowT
def PackV (p : PackD) (cs : List AV) : Prop := ∃ ca cg, cs = [.int .i64 p.tms, .int .i64 p.nts] ++ ca ++ cg ∧ RT p.a ca ∧ RT p.g cg
def packD (t : TabD) : PackD := ⟨t.tm, t.nt, layT t.numA, layT t.numG⟩
def packZ : PackD := ⟨0, 0, ⟨[], [], [], []⟩, ⟨[], [], [], []⟩⟩
def zeroP : List AV := [.int .i64 0, .int .i64 0, .nilS, .nilS, .nilS, .nilS, .nilS, .nilS, .nilS, .nilS]
theorem rt_nil : RT ⟨[], [], [], []⟩ [.nilS, .nilS, .nilS, .nilS] := ⟨.nilS, .nilS, .nilS, .nilS, rfl, .inl ⟨rfl, rfl⟩, .inl ⟨rfl, rfl⟩, .inl ⟨rfl, rfl⟩, .inl ⟨rfl, rfl⟩⟩
theorem packZ_v : PackV packZ zeroP := ⟨[.nilS, .nilS, .nilS, .nilS], [.nilS, .nilS, .nilS, .nilS], rfl, rt_nil, rt_nil⟩
theorem PackV.fz {p : PackD} {cs : List AV} (hp : PackV p cs) (h : AHeap) (d : Nat) : freeze h (d + 2) (.agg cs) = some (.agg cs, true) := by
 obtain ⟨ca, cg, rfl, ⟨a1, a2, a3, a4, rfl, ha1, ha2, ha3, ha4⟩, ⟨b1, b2, b3, b4, rfl, hb1, hb2, hb3, hb4⟩⟩ := hp
 have e : freeze h (d + 2) (.agg ([.int .i64 p.tms, .int .i64 p.nts] ++ [a1, a2, a3, a4] ++ [b1, b2, b3, b4])) = (mapO (freeze h (d + 1)) [.int .i64 p.tms, .int .i64 p.nts, a1, a2, a3, a4, b1, b2, b3, b4]).map fun l => (.agg (l.map (·.1)), l.all (·.2)) := rfl
 have i1 : ∀ n : Int, freeze h (d + 1) (.int .i64 n) = some (.int .i64 n, true) := fun _ => rfl
 rw [e]
 simp only [mapO,i1,ha1.fz h d,ha2.fz h d,ha3.fz h d,ha4.fz h d,hb1.fz h d,hb2.fz h d,hb3.fz h d,hb4.fz h d]
 rfl
theorem PackV.cells {p : PackD} {cs : List AV} (hp : PackV p cs) : cellsOf (.agg cs) = cs ∧ cs.all cellOk = true ∧ cs.length = 10 := by
 obtain ⟨ca, cg, rfl, ⟨a1, a2, a3, a4, rfl, ha1, ha2, ha3, ha4⟩, ⟨b1, b2, b3, b4, rfl, hb1, hb2, hb3, hb4⟩⟩ := hp
 refine ⟨?_, ?_, rfl⟩
 ·simp [cellsOf]
 ·simp only [Q2,Q4,List.all_cons,List.all_nil,ko_i,ha1.cell.2,ha2.cell.2,ha3.cell.2,ha4.cell.2,hb1.cell.2,hb2.cell.2,hb3.cell.2,hb4.cell.2,Bool.and_self]
theorem st_full {h : AHeap} {i ver n : Nat} {b : Bool} {z l : List AV} (e : h[i]? = some (.arr ver n b [z])) (hz : z.length = n) (hl : l.length = n) (hc : cellsOf (.agg l) = l) (hk : l.all cellOk = true) : astore h n (.ptr i ver 0 0) (.agg l) = some (h.set i (.arr ver n b [l])) := by
 rw [st_p h n i ver 0 0 _ n b _ _ e rfl (by rw [hc]; exact hl) (by rw [hz]; omega) (by rw [hc]; exact hk)]
 have : putCells z 0 (cellsOf (.agg l)) = l := by
  rw [hc]; simp [putCells]; omega
 rw [this]; rfl
theorem ld_full {h : AHeap} {i ver n : Nat} {b : Bool} {l : List AV} (e : h[i]? = some (.arr ver n b [l])) (hl : l.length = n) : aload h n true (.ptr i ver 0 0) = some (.agg l) := by
 rw [ld_p h n i ver 0 0 true n b _ _ e rfl]
 simp [part, packV, ← hl]
theorem box_full (h : AHeap) {n : Nat} {l : List AV} (hl : l.length = n) (hc : cellsOf (.agg l) = l) : Zcs h n (.agg l) = some (.ptr h.length 0 0 0, h ++ [.arr 0 n true [l]]) := by
 simp [Zcs, hc, hl]
theorem allOk_len (n : Int) (tm nt : Nat) : ∀ (al : List (List (List (Int × Int)))) (gl : List (List Int)), al.length = gl.length → lenOk tm nt al gl = true → (∀ a ∈ al, a.length = tm) ∧ (∀ g ∈ gl, g.length = nt) := by
 intro al
 induction al with
 | nil => intro gl h _; have : gl = [] := List.length_eq_zero_iff.1 (by simpa using h.symm); subst this; exact ⟨fun _ h => by simp at h, fun _ h => by simp at h⟩
 | cons a al ih =>
  intro gl h k
  cases gl with
  | nil => simp at h
  | cons g gl =>
   rw [lenOk, Q5, Q5, decide_eq_true_eq, decide_eq_true_eq] at k
   obtain ⟨h1, h2⟩ := ih gl (by simpa using h) k.2
   exact ⟨fun x hx => by
    rcases List.mem_cons.1 hx with rfl | hx
    ·exact k.1.1
    ·exact h1 x hx, fun x hx => by
    rcases List.mem_cons.1 hx with rfl | hx
    ·exact k.1.2
    ·exact h2 x hx⟩
section
variable {t : TabD} {av gv : AV}
theorem TabD.ok_len (h : t.ok) : lenOk t.tm t.nt t.acts t.gotos = true ∧ t.numA.all nonNeg = true ∧ t.numG.all nonNeg = true := by
 obtain ⟨fr, h⟩ := h
 rw [allOk_parts _ _ _ _ _ fr.2.2.1.symm, Q5, Q5] at h
 exact ⟨h.1, h.2.1, h.2.2⟩
theorem TabD.ok_iff (fr : t.frame) (h1 : lenOk t.tm t.nt t.acts t.gotos = true) (h2 : t.numA.all nonNeg = true) (h3 : t.numG.all nonNeg = true) : t.ok := by
 refine ⟨fr, ?_⟩
 rw [allOk_parts _ _ _ _ _ fr.2.2.1.symm, h1]
 have e2 : (rowsA t.acts.length t.acts).all nonNeg = true := h2
 have e3 : (rowsG t.acts.length t.gotos).all nonNeg = true := h3
 rw [e2, e3]; rfl
theorem TabD.sizes (h : t.ok) : t.numA.length = t.acts.length ∧ t.numG.length = t.acts.length ∧ (∀ r ∈ t.numA, r.length = t.tm) ∧ (∀ r ∈ t.numG, r.length = t.nt) := by
 obtain ⟨h1, _, _⟩ := TabD.ok_len h
 have fr := h.1
 obtain ⟨h2, h3⟩ := allOk_len 0 t.tm t.nt t.acts t.gotos fr.2.2.1.symm h1
 refine ⟨by simp [TabD.numA, rowsA], by simp [TabD.numG, rowsG]; exact fr.2.2.1, fun r hr => ?_, fun r hr => ?_⟩
 ·simp only [TabD.numA,rowsA,List.mem_map] at hr
  obtain ⟨a, ha, rfl⟩ := hr
  rw [List.length_map]; exact h2 a ha
 ·simp only [TabD.numG,rowsG,List.mem_map] at hr
  obtain ⟨a, ha, rfl⟩ := hr
  rw [List.length_map]; exact h3 a ha
end
end Go.Proofs.Ytkgndbhflehhhaa.Ai
namespace Go.Proofs.Ytkgndbhflehhhaa.Ai
open Go Go.Proofs
open List renaming length_cons → Q0, length_nil → Q1, cons_append → Q2, nil_append → Q4
open Nat renaming mul_le_mul_right → Q3
open Bool renaming and_eq_true → Q5
set_option linter.unusedVariables false
set_option linter.unusedSimpArgs false
set_option maxRecDepth 10000
set_option maxHeartbeats 4000000
theorem get_2a (h : AHeap) (a b : AObj) : (h ++ [a, b])[h.length]? = some a := by rw [hap_get0]; rfl
theorem get_2b (h : AHeap) (a b : AObj) : (h ++ [a, b])[h.length + 1]? = some b := by rw [hap_get]; rfl
theorem get_3b (h : AHeap) (a b c : AObj) : (h ++ [a, b, c])[h.length + 1]? = some b := by rw [hap_get]; rfl
theorem get_3c (h : AHeap) (a b c : AObj) : (h ++ [a, b, c])[h.length + 2]? = some c := by rw [hap_get]; rfl
theorem of_parts {t : TabD} (hk : t.ok) (hn : t.acts.length ≤ 1500) {x2 x3 : AV} (h2 : LiR t.numA x2) (h3 : LiR t.numG x3) :
  ∃ ca cg, RT (packD t).a ca ∧ RT (packD t).g cg ∧ (∀ H, lim G0.cfg (.func 13) [x2] H = some (.agg ca, H)) ∧ (∀ H, lim G0.cfg (.func 13) [x3] H = some (.agg cg, H)) ∧ (packD t).a.val.length ≤ 1048576 ∧ (packD t).g.val.length ≤ 1048576 := by
 obtain ⟨s1, s2, s3, s4⟩ := TabD.sizes hk
 have fr := hk.1
 obtain ⟨f1, f2, f3, f4, f5, f6, f7⟩ := fr
 have m1 : t.numA.length * 256 ≤ 1500 * 256 := Q3 256 (by omega)
 have m2 : t.numG.length * 512 ≤ 1500 * 512 := Q3 512 (by omega)
 have b1 : ∀ r ∈ t.numA, r.length ≤ 256 := fun r hr => by rw [s3 r hr]; omega
 have b2 : ∀ r ∈ t.numG, r.length ≤ 512 := fun r hr => by rw [s4 r hr]; omega
 obtain ⟨ca, hca, e1⟩ := f_Lay h2 (by omega) 256 b1 (by omega) (by omega)
 obtain ⟨cg, hcg, e2⟩ := f_Lay h3 (by omega) 512 b2 (by omega) (by omega)
 have z1 := (lay_sizes t.numA 256 b1).2.2.1
 have z2 := (lay_sizes t.numG 512 b2).2.2.1
 exact ⟨ca, cg, hca, hcg, e1, e2, by show (layT t.numA).val.length ≤ _; omega, by show (layT t.numG).val.length ≤ _; omega⟩
theorem of_partsR {t : TabD} (hk : t.ok) (hn : t.acts.length ≤ 1500) {x2 x3 : AV} (h2 : LiR t.numA x2) (h3 : LiR t.numG x3) :
  ∃ ca cg, RT (packD t).a ca ∧ RT (packD t).g cg ∧ (∀ H, lim G0.cfg (.func 14) [x2] H = some (.agg ca, H)) ∧ (∀ H, lim G0.cfg (.func 14) [x3] H = some (.agg cg, H)) ∧ (packD t).a.val.length ≤ 1048576 ∧ (packD t).g.val.length ≤ 1048576 := by
 obtain ⟨s1, s2, s3, s4⟩ := TabD.sizes hk
 have fr := hk.1
 obtain ⟨f1, f2, f3, f4, f5, f6, f7⟩ := fr
 have m1 : t.numA.length * 256 ≤ 1500 * 256 := Q3 256 (by omega)
 have m2 : t.numG.length * 512 ≤ 1500 * 512 := Q3 512 (by omega)
 have b1 : ∀ r ∈ t.numA, r.length ≤ 256 := fun r hr => by rw [s3 r hr]; omega
 have b2 : ∀ r ∈ t.numG, r.length ≤ 512 := fun r hr => by rw [s4 r hr]; omega
 obtain ⟨ca, hca, e1⟩ := r_Lay h2 256 b1 (by omega) (by omega) (by omega)
 obtain ⟨cg, hcg, e2⟩ := r_Lay h3 512 b2 (by omega) (by omega) (by omega)
 have z1 := (lay_sizes t.numA 256 b1).2.2.1
 have z2 := (lay_sizes t.numG 512 b2).2.2.1
 exact ⟨ca, cg, hca, hcg, e1, e2, by show (layT t.numA).val.length ≤ _; omega, by show (layT t.numG).val.length ≤ _; omega⟩
theorem fill_P {a g : RowT} {ca cg : List AV} (ha : RT a ca) (hg : RT g cg) (x y : Int) : afill zeroP [(0, 1, .int .i64 x), (1, 1, .int .i64 y), (2, 4, .agg ca), (6, 4, .agg cg)] = some (.agg ([.int .i64 x, .int .i64 y] ++ ca ++ cg)) ∧ PackV ⟨x, y, a, g⟩ ([.int .i64 x, .int .i64 y] ++ ca ++ cg) := by
 refine ⟨?_, ca, cg, rfl, ha, hg⟩
 obtain ⟨a1, a2, a3, a4, rfl, ha1, ha2, ha3, ha4⟩ := ha
 obtain ⟨b1, b2, b3, b4, rfl, hb1, hb2, hb3, hb4⟩ := hg
 simp [afill, zeroP, fillCells, putCells, cellsOf]
section
variable {t : TabD} {av gv a' g' : AV} {h : AHeap} {c : Bool}
theorem f_Of (ha : LiG (LiG LiA) t.acts av) (hg : LiR t.gotos gv) (hn : t.ok → t.acts.length ≤ 1500) (hv : freeze h 1000 (.agg [a', g']) = some (.agg [av, gv], c)) (hc : cellsOf (.agg [a', g']) = [a', g']) :
  (t.ok → ∃ cs h', PackV (packD t) cs ∧ lim G0.cfg (.func 19) [.agg [a', g']] h = some (.tup [.agg cs, .int .i64 0], h ++ h')) ∧
  (¬ t.ok → ∃ h', lim G0.cfg (.func 19) [.agg [a', g']] h = some (.tup [.agg zeroP, .int .i64 34], h ++ h')) := by
 obtain ⟨k1, k2⟩ := f_numbers ha hg
 have bx := box_full h (n := 2) (l := [a', g']) rfl hc
 obtain ⟨A, hA⟩ : ∃ A, A = AObj.arr 0 2 true [[a', g']] := ⟨_, rfl⟩
 obtain ⟨B, hB⟩ : ∃ B, B = AObj.arr 0 10 true [zeroP] := ⟨_, rfl⟩
 have fz : freeze (h ++ [A, B]) 1000 (.agg [a', g']) = some (.agg [av, gv], c) := by
  have := freeze_app B 1000 _ _ (freeze_app A 1000 _ _ hv)
  rw [List.append_assoc] at this
  exact this
 have lT : aload (h ++ [A, B]) 2 true (.ptr h.length 0 0 0) = some (.agg [a', g']) := ld_full (by rw [get_2a, hA]) rfl
 have zc : cellsOf (.agg zeroP) = zeroP := rfl
 have sZ : astore (h ++ [A, B]) 10 (.ptr (h.length + 1) 0 0 0) (.agg zeroP) = some (h ++ [A, B]) := by
  have s := st_full (h := h ++ [A, B]) (i := h.length + 1) (ver := 0) (n := 10) (b := true) (z := zeroP) (l := zeroP) ((get_2b h A B).trans (by rw [hB])) rfl rfl zc rfl
  rw [hap_set, ← hB] at s
  exact s
 have lZ : aload (h ++ [A, B]) 10 true (.ptr (h.length + 1) 0 0 0) = some (.agg zeroP) := ld_full (b := true) (by rw [get_2b, hB]) rfl
 have fill0 : afill zeroP [] = some (.agg zeroP) := rfl
 have zl : zeroP.length = 10 := rfl
 have zz : [AV.int .i64 0, .int .i64 0, .nilS, .nilS, .nilS, .nilS, .nilS, .nilS, .nilS, .nilS] = zeroP := rfl
 refine ⟨fun hk => ?_, fun hk => ?_⟩
 ·obtain ⟨x2, x3, h2, h3, e⟩ := k1 hk
  replace e := e (h ++ [A, B]) _ c fz
  obtain ⟨ca, cg, hca, hcg, d1, d2, b1, b2⟩ := of_parts hk (hn hk) h2 h3
  obtain ⟨s1, s2, s3, s4⟩ := TabD.sizes hk
  obtain ⟨f1, f2, f3, f4, f5, f6, f7⟩ := hk.1
  obtain ⟨r2, hr2, y2⟩ := h2.ix 0 (by omega)
  obtain ⟨r3, hr3, y3⟩ := h3.ix 0 (by omega)
  have n2 := hr2.len
  have n3 := hr3.len
  rw [s3 _ (List.getElem_mem _)] at n2
  rw [s4 _ (List.getElem_mem _)] at n3
  rw [z0] at y2 y3
  obtain ⟨fl, pv⟩ := fill_P hca hcg t.tm t.nt
  obtain ⟨cs, hcs⟩ : ∃ cs, cs = [.int .i64 (t.tm : Int), .int .i64 (t.nt : Int)] ++ ca ++ cg := ⟨_, rfl⟩
  rw [← hcs] at fl pv
  obtain ⟨p1, p2, p3⟩ := pv.cells
  obtain ⟨C, hC⟩ : ∃ C, C = AObj.arr 0 10 true [cs] := ⟨_, rfl⟩
  have sC : astore (h ++ [A, B, B]) 10 (.ptr (h.length + 2) 0 0 0) (.agg cs) = some (h ++ [A, B, C]) := by
   have s := st_full (h := h ++ [A, B, B]) (i := h.length + 2) (ver := 0) (n := 10) (b := true) (z := zeroP) (l := cs) ((get_3c h A B B).trans (by rw [hB])) rfl p3 p1 p2
   rw [hap_set, ← hC] at s
   exact s
  have lC : aload (h ++ [A, B, C]) 10 true (.ptr (h.length + 2) 0 0 0) = some (.agg cs) := ld_full (b := true) (by rw [get_3c, hC]) p3
  have sB : astore (h ++ [A, B, C]) 10 (.ptr (h.length + 1) 0 0 0) (.agg cs) = some (h ++ [A, C, C]) := by
   have s := st_full (h := h ++ [A, B, C]) (i := h.length + 1) (ver := 0) (n := 10) (b := true) (z := zeroP) (l := cs) ((get_3b h A B C).trans (by rw [hB])) rfl p3 p1 p2
   rw [hap_set, ← hC] at s
   exact s
  have lB : aload (h ++ [A, C, C]) 10 true (.ptr (h.length + 1) 0 0 0) = some (.agg cs) := ld_full (b := true) (by rw [get_3b, hC]) p3
  have va : ∃ w, aload (h ++ [A, B, C]) 1 false (.ptr (h.length + 2) 0 0 4) = some w ∧ Li (packD t).a.val w := by
   obtain ⟨a1, a2, a3, a4, rfl, _, _, q3, _⟩ := hca
   refine ⟨a3, ?_, q3⟩
   obtain ⟨b1, b2, b3, b4, rfl, _, _, _, _⟩ := hcg
   rw [ld_p _ 1 _ 0 0 4 false 10 true _ cs (by rw [get_3c, hC]) rfl, hcs]; rfl
  have vg : ∃ w, aload (h ++ [A, B, C]) 1 false (.ptr (h.length + 2) 0 0 8) = some w ∧ Li (packD t).g.val w := by
   obtain ⟨b1, b2, b3, b4, rfl, _, _, q3, _⟩ := hcg
   refine ⟨b3, ?_, q3⟩
   obtain ⟨a1, a2, a3, a4, rfl, _, _, _, _⟩ := hca
   rw [ld_p _ 1 _ 0 0 8 false 10 true _ cs (by rw [get_3c, hC]) rfl, hcs]; rfl
  obtain ⟨wa, la, qa⟩ := va
  obtain ⟨wg, lg, qg⟩ := vg
  have na := qa.len
  have ng := qg.len
  have c1 : ¬ (1048576 : Int) < (packD t).a.val.length := by omega
  have c2 : ¬ (1048576 : Int) < (packD t).g.val.length := by omega
  refine ⟨cs, [A, C, C], pv, lim_func rfl P_pack_Of 1 ?_⟩
  rw [R_pack_Of]
  simp only [Zaa,Zab,Zac,Zad,Zai,Zaj,Zak,Zas,Zay,Zaz,Zba,Zbc,Zbh,Zbi,Zbj,Zbk,Zbl,Zbm,Zbn,Zbo,Zbp,Zbq,Zbr,Zby,Zcb,Zcf,Zcg,Zcm,Zcp,Zcq,Zcs,Zcu,Zcv,Zcw,Zcx,Zcy,Zcz,Zda,List.set_cons_zero,List.set_cons_succ,List.getD_cons_zero,List.getD_cons_succ,Option.map_some,Zdj,Zdr,Zdx,Zeb,Zem,decide_false,Bool.not_true,List.getElem?_cons_zero,List.getElem?_cons_succ,Q0,Q1,if_true,Nat.reduceAdd,Nat.reduceSub,eq_self,Q0,Q1,List.replicate_succ,List.replicate_zero,Q2,Q4,List.length_append,Q0,Q1,Nat.zero_add,List.append_assoc,Q2,Q4,zz,zl,evp, ← hA, ← hB,lT,e,y2,y3,lv_p,n2,n3,d1,d2,fl,sC,la,lg,na,ng,c1,c2,lC,sB,lB,resAll,resVals,resVal]
 ·have e := k2 hk (h ++ [A, B]) _ c fz
  refine ⟨[A, B], lim_func rfl P_pack_Of 1 ?_⟩
  rw [R_pack_Of]
  simp only [Zab,Zac,Zad,Zai,Zaj,Zak,Zam,Zar,Zay,Zaz,Zba,Zbi,Zbk,Zbm,Zbn,Zbo,Zbp,Zbr,Zcf,Zcm,Zcp,Zcq,Zcs,Zcu,Zcv,Zcw,Zcx,Zcy,Zcz,Zda,List.set_cons_zero,List.set_cons_succ,List.getD_cons_zero,List.getD_cons_succ,Option.map_some,Zdr,Zeb,Zem,Bool.not_false,List.getElem?_cons_zero,List.getElem?_cons_succ,Q0,Q1,if_true,Nat.reduceAdd,Nat.reduceSub,eq_self,Q0,Q1,List.replicate_succ,List.replicate_zero,Q2,Q4,List.length_append,Q0,Q1,Nat.zero_add,List.append_assoc,Q2,Q4,zz,zl,evp, ← hA, ← hB,lT,e,fill0,sZ,lZ,resAll,resVals,resVal]
end
end Go.Proofs.Ytkgndbhflehhhaa.Ai
