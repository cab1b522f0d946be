/- The reference's table: read out of a packed one. -/
import Derived.Test.YtkgndbhflehhhaamPr9
namespace Go.Proofs.Ytkgndbhflehhhaa.Ai
open Go Go.Proofs
open AV renaming junk → J
open List renaming length_cons → Q0, length_nil → Q1, getD_cons_zero → Q2, getD_cons_succ → Q3, set_cons_zero → Q4, set_cons_succ → Q5, nil_append → Q6, cons_append → Q7, replicate_succ → Q8, replicate_zero → Q9, getElem?_cons_zero → Z3, getElem?_cons_succ → Z4, range'_succ → Z8, all_eq_true → Z9, all_cons → Y0, append_assoc → Y2, append_nil → Y3
open Option renaming map_some → Z0
open Option.some renaming injEq → Z1
open Bool renaming not_true → Z2, not_false → Z5, true_and → Z6, false_and → Z7, decide_and → Y1
set_option linter.unusedVariables false
set_option linter.unusedSimpArgs false
set_option maxRecDepth 10000
set_option maxHeartbeats 4000000
def okG (p : PackD) (s i d : Nat) : Bool := (List.range' i d).all fun (k : Nat) => decide (0 ≤ atD p.g s k) && decide (atD p.g s k ≤ (p.n : Int))
def okAllR (p : PackD) (tm nt s d : Nat) : Bool := (List.range' s d).all fun k => okA p k 0 tm && okG p k 0 nt
section
variable {p : PackD} {ca cg : List AV} {B : Nat}
theorem back_row (hA : RT p.a ca) (hG : RT p.g cg) (h : AHeap) (e : h[0]? = some (.arr 0 10 true [[.int .i64 p.tms, .int .i64 p.nts] ++ ca ++ cg])) : (∃ w, aload h 1 false (.ptr 0 0 0 2) = some w ∧ Li p.a.row w) ∧ ∃ w, aload h 1 false (.ptr 0 0 0 6) = some w ∧ Li p.g.row w := by
 obtain ⟨a1, a2, a3, a4, rfl, q1, _, _, _⟩ := hA
 obtain ⟨b1, b2, b3, b4, rfl, q2, _, _, _⟩ := hG
 exact ⟨⟨a1, by rw [ld_p h 1 0 0 0 2 false 10 true _ _ e rfl]; rfl, q1⟩, b1, by rw [ld_p h 1 0 0 0 6 false 10 true _ _ e rfl]; rfl, q2⟩
theorem table_1 (hA : RT p.a ca) (hG : RT p.g cg) (ok : RtOk p.a) (s tm N : Nat) (htm : tm ≤ 1000) (etm : p.tms = tm) (hB : 3 ≤ B) : ∀ (d i m : Nat) (xs : List (List (Int × Int))) (h : AHeap) (w : AV) (q : Option Nat), tm = i + d → d < m → h[0]? = some (.arr 0 10 true [[.int .i64 p.tms, .int .i64 p.nts] ++ ca ++ cg]) → h[1]? = some (.arr 0 2 true [[.nilS, .nilS]]) → OwnG 1 (eCs xs) w h q → (∀ i, q = some i → B ≤ i) → B ≤ h.length → xs.length = i →
  (okA p s i d = true → ∃ (h' : AHeap) (w' : AV) (q' : Option Nat), loopN (evalCode (lim G0.cfg) N B_r32_table_1) m ⟨(J::.ptr 0 0 0 0 :: .ptr 1 0 0 0::J::.ptr 2 0 0 0 :: .int .i64 s :: w :: .int .i64 i::J::J::J::J::J::J::J::J::J::J::J::J::J::J::J::J::J::J::J::J::J::J::J::J::J::J::J::J::J::J::J::J::J::J::J::J::J::J::J::J::J::J::J::J::J::J::J::J::J::J::J::J::J::J::J::J::J::J::J::J::J::J::J::J::J::J::J::J::J::J::J::J::J::J::J::J::J::J::J::J::J::J::J::J::J::J::J::J::J::J::J::J::J::J::J::J::J::J::J::J::J::J::J::J::J::[]), h⟩ = some (.exit 2, ⟨(J::.ptr 0 0 0 0 :: .ptr 1 0 0 0::J::.ptr 2 0 0 0 :: .int .i64 s :: w'::J::J::J::J::J::J::J::J::J::J::J::J::J::J::J::J::J::J::J::J::J::J::J::J::J::J::J::J::J::J::J::J::J::J::J::J::J::J::J::J::J::J::J::J::J::J::J::J::J::J::J::J::J::J::J::J::J::J::J::J::J::J::J::J::J::J::J::J::J::J::J::J::J::J::J::J::J::J::J::J::J::J::J::J::J::J::J::J::J::J::J::J::J::J::J::J::J::J::J::J::J::J::J::J::J::J::[]), h'⟩) ∧
   OwnG 1 (eCs (xs ++ rowA p s i d)) w' h' q' ∧ (∀ i, q' = some i → B ≤ i) ∧ B ≤ h'.length ∧ (∀ (j : Nat) (o : AObj), j < B → h[j]? = some o → h'[j]? = some o)) ∧
  (okA p s i d = false → ∃ h', loopN (evalCode (lim G0.cfg) N B_r32_table_1) m ⟨(J::.ptr 0 0 0 0 :: .ptr 1 0 0 0::J::.ptr 2 0 0 0 :: .int .i64 s :: w :: .int .i64 i::J::J::J::J::J::J::J::J::J::J::J::J::J::J::J::J::J::J::J::J::J::J::J::J::J::J::J::J::J::J::J::J::J::J::J::J::J::J::J::J::J::J::J::J::J::J::J::J::J::J::J::J::J::J::J::J::J::J::J::J::J::J::J::J::J::J::J::J::J::J::J::J::J::J::J::J::J::J::J::J::J::J::J::J::J::J::J::J::J::J::J::J::J::J::J::J::J::J::J::J::J::J::J::J::J::[]), h⟩ = some (.ret, ⟨(J::J::.ptr 1 0 0 0 :: .bool false::J::J::J::J::J::J::J::J::J::J::J::J::J::J::J::J::J::J::J::J::J::J::J::J::J::J::J::J::J::J::J::J::J::J::J::J::J::J::J::J::J::J::J::J::J::J::J::J::J::J::J::J::J::J::J::J::J::J::J::J::J::J::J::J::J::J::J::J::J::J::J::J::J::J::J::J::J::J::J::J::J::J::J::J::J::J::J::J::J::J::J::J::J::J::J::J::J::J::J::J::J::J::J::J::J::J::J::J::J::[]), h'⟩) ∧ h'[1]? = some (.arr 0 2 true [[.nilS, .nilS]])) := by
 intro d
 induction d with
 | zero =>
  intro i m xs h w q h1 h2 e0 e1 ow tv lb lx
  obtain ⟨m, rfl⟩ : ∃ q, m = q + 1 := ⟨m - 1, by omega⟩
  have h3 : ¬ ((i : Int) < tm) := by omega
  have lt := (back_box hA hG h e0).2.2.1
  rw [etm] at lt
  have r0 : rowA p s i 0 = [] := rfl
  rw [r0, Y3]
  refine ⟨fun _ => ⟨h, w, q, ?_, ow, tv, lb, fun _ _ _ e => e⟩, fun e => (by cases e)⟩
  simp only [loop_e,EB_r32_table_1,Zab,Zac,Zad,Zag,Zah,Zaj,Zak,Zal,Zas,Zav,Zay,Zbi,Zbk,Zbo,Zbq,Zby,Zcv,Zcx,Zdb,Zdc,Zdd,Q4,Q5,Q2,Q3,Zdh,Zdx,decide_false,Nat.reduceAdd,eq_self,lt,h3]
 | succ d ih =>
  intro i m xs h w q h1 h2 e0 e1 ow tv lb lx
  obtain ⟨m, rfl⟩ : ∃ q, m = q + 1 := ⟨m - 1, by omega⟩
  have h3' : (i : Int) < tm := by omega
  have hw := w64s (n := i) (by omega)
  have fat := fun H => r_At hA ok.l1 ok.l2 ok.l3 ok.b1 s i (by omega) H
  have lt := (back_box hA hG h e0).2.2.1
  rw [etm] at lt
  have la := (back_box hA hG h e0).1
  obtain ⟨x, hx⟩ : ∃ x, x = atD p.a s i := ⟨_, rfl⟩
  have xb := ok.at s i
  rw [← hx] at fat xb
  have fac := r_act x xb
  have o1 : okA p s i (d + 1) = ((actD x).isSome && okA p s (i + 1) d) := by unfold okA; rw [Z8, Y0, ← hx]
  have o2 : rowA p s i (d + 1) = (actD x).getD [] :: rowA p s (i + 1) d := by unfold rowA; rw [Z8, List.map_cons, ← hx]
  rw [o1, o2]
  cases ea : actD x with
  | none =>
   rw [ea] at fac
   have fac' : ∀ H, lim G0.cfg (.func 55) [.int .i64 x] H = some (.tup [.nilS, .bool false], H) := fac
   have f0 : afill [.nilS, .nilS] [] = some (.agg [.nilS, .nilS]) := rfl
   have st : astore h 2 (.ptr 1 0 0 0) (.agg [.nilS, .nilS]) = some (h.set 1 (.arr 0 2 true [[.nilS, .nilS]])) := st_full (b := true) e1 rfl rfl rfl rfl
   refine ⟨fun e => (by cases e), fun _ => ⟨h.set 1 (.arr 0 2 true [[.nilS, .nilS]]), ?_, get_set_eq e1⟩⟩
   simp only [loop_e,EB_r32_table_1,Zaa,Zab,Zac,Zad,Zae,Zag,Zai,Zaj,Zak,Zam,Zao,Zar,Zaw,Zay,Zaz,Zba,Zbi,Zbk,Zbo,Zbp,Zbq,Zbr,Zby,Zcf,Zcm,Zcp,Zcq,Zcv,Zcw,Zcx,Zcy,Zcz,Zda,Zdb,Zdc,Zdd,Q4,Q5,Q2,Q3,Zdh,Zdr,Zdx,Zem,decide_true,Z5,Z3,Z4,Nat.reduceAdd,eq_self,Q7,Q6,lt,h3',la,fat,fac',evp,f0,st]
  | some l =>
   rw [ea, actV_some] at fac
   obtain ⟨iv, ver1, H1, r1, r2, r3, r4, r5⟩ := ow.push true (c := [cellV l]) rfl (by simp [(cellV_li l).cell.2]) (eCs_all _) 24 (by omega) (by rw [eCs_len]; omega)
   rw [eCs_len] at r1 r2
   rw [← eCs_snoc] at r2
   have tiv : B ≤ iv := by
    rcases r4 with g | ⟨_, g⟩
    ·exact tv iv g
    ·omega
   obtain ⟨vvx, hvx⟩ : ∃ x, x = AV.hsl iv ver1 0 (xs.length + 1) none := ⟨_, rfl⟩
   rw [← hvx] at r1 r2
   obtain ⟨k1, k2⟩ := ih (i + 1) m (xs ++ [l]) H1 vvx (some iv) (by omega) (by omega) (r3 0 _ e0 (fun f => by have := tv 0 f; omega)) (r3 1 _ e1 (fun f => by have := tv 1 f; omega)) r2 (fun i f => by cases f; exact tiv) (by omega) (by simp [lx])
   have t1 := fun h : AHeap => lit1' h .nilS (cellV l) (cellV_pure l) (cellV_li l).cell.1
   have run : loopN (evalCode (lim G0.cfg) N B_r32_table_1) (m + 1) ⟨(J::.ptr 0 0 0 0 :: .ptr 1 0 0 0::J::.ptr 2 0 0 0 :: .int .i64 s :: w :: .int .i64 i::J::J::J::J::J::J::J::J::J::J::J::J::J::J::J::J::J::J::J::J::J::J::J::J::J::J::J::J::J::J::J::J::J::J::J::J::J::J::J::J::J::J::J::J::J::J::J::J::J::J::J::J::J::J::J::J::J::J::J::J::J::J::J::J::J::J::J::J::J::J::J::J::J::J::J::J::J::J::J::J::J::J::J::J::J::J::J::J::J::J::J::J::J::J::J::J::J::J::J::J::J::J::J::J::J::[]), h⟩ = loopN (evalCode (lim G0.cfg) N B_r32_table_1) m ⟨(J::.ptr 0 0 0 0 :: .ptr 1 0 0 0::J::.ptr 2 0 0 0 :: .int .i64 s :: vvx :: .int .i64 (i + 1 : Nat)::J::J::J::J::J::J::J::J::J::J::J::J::J::J::J::J::J::J::J::J::J::J::J::J::J::J::J::J::J::J::J::J::J::J::J::J::J::J::J::J::J::J::J::J::J::J::J::J::J::J::J::J::J::J::J::J::J::J::J::J::J::J::J::J::J::J::J::J::J::J::J::J::J::J::J::J::J::J::J::J::J::J::J::J::J::J::J::J::J::J::J::J::J::J::J::J::J::J::J::J::J::J::J::J::J::[]), H1⟩ := by
    simp only [loop_e,EB_r32_table_1,Zaa,Zab,Zac,Zad,Zae,Zag,Zaj,Zak,Zan,Zar,Zas,Zau,Zay,Zaz,Zbi,Zbk,Zbo,Zbq,Zbr,Zby,Zcf,Zci,Zcn,Zcp,Zcq,Zcv,Zcw,Zcx,Zcz,Zda,Zdb,Zdc,Zdd,Q4,Q5,Q2,Q3,Zde,Zdh,Zdr,Zdx,Zem,decide_true,Z2,Z3,Z4,Nat.reduceAdd,eq_self,Q7,Q6,lt,h3',la,fat,fac,ev2,t1,r1,hw]
   rw [run, Option.isSome_some, Z6, Option.getD_some]
   refine ⟨fun hk => ?_, k2⟩
   obtain ⟨h', w', q', e, g1, g2, g3, g4⟩ := k1 hk
   refine ⟨h', w', q', e, ?_, g2, g3, fun j o hj e => g4 j o hj (r3 j o e (fun f => by have := tv j f; omega))⟩
   rw [Y2] at g1
   exact g1
theorem table_2 (hA : RT p.a ca) (hG : RT p.g cg) (ok : RtOk p.g) (s tm N : Nat) (htm : tm ≤ 1000) (etm : p.nts = tm) (hn : p.n ≤ 100000) (hB : 3 ≤ B) (w6 : AV) : ∀ (d i m : Nat) (xs : List Int) (h : AHeap) (w : AV) (q : Option Nat), tm = i + d → d < m → h[0]? = some (.arr 0 10 true [[.int .i64 p.tms, .int .i64 p.nts] ++ ca ++ cg]) → h[1]? = some (.arr 0 2 true [[.nilS, .nilS]]) → OwnG 1 (eIs xs) w h q → (∀ i, q = some i → B ≤ i) → B ≤ h.length → xs.length = i →
  (okG p s i d = true → ∃ (h' : AHeap) (w' : AV) (q' : Option Nat), loopN (evalCode (lim G0.cfg) N B_r32_table_2) m ⟨(J::.ptr 0 0 0 0 :: .ptr 1 0 0 0::J::.ptr 2 0 0 0 :: .int .i64 s :: w6::J::J::J::w :: .int .i64 i::J::J::J::J::J::J::J::J::J::J::J::J::J::J::J::J::J::J::J::J::J::J::J::J::J::J::J::J::J::J::J::J::J::J::J::J::J::J::J::J::J::J::J::J::J::J::J::J::J::J::J::J::J::J::J::J::J::J::J::J::J::J::J::J::J::J::J::J::J::J::J::J::J::J::J::J::J::J::J::J::J::J::J::J::J::J::J::J::J::J::J::J::J::J::J::J::J::J::J::J::J::[]), h⟩ = some (.exit 4, ⟨(J::.ptr 0 0 0 0 :: .ptr 1 0 0 0::J::.ptr 2 0 0 0 :: .int .i64 s :: w6::J::J::J::w'::J::J::J::J::J::J::J::J::J::J::J::J::J::J::J::J::J::J::J::J::J::J::J::J::J::J::J::J::J::J::J::J::J::J::J::J::J::J::J::J::J::J::J::J::J::J::J::J::J::J::J::J::J::J::J::J::J::J::J::J::J::J::J::J::J::J::J::J::J::J::J::J::J::J::J::J::J::J::J::J::J::J::J::J::J::J::J::J::J::J::J::J::J::J::J::J::J::J::J::J::J::J::[]), h'⟩) ∧
   OwnG 1 (eIs (xs ++ rowG p s i d)) w' h' q' ∧ (∀ i, q' = some i → B ≤ i) ∧ B ≤ h'.length ∧ (∀ (j : Nat) (o : AObj), j < B → h[j]? = some o → h'[j]? = some o)) ∧
  (okG p s i d = false → ∃ h', loopN (evalCode (lim G0.cfg) N B_r32_table_2) m ⟨(J::.ptr 0 0 0 0 :: .ptr 1 0 0 0::J::.ptr 2 0 0 0 :: .int .i64 s :: w6::J::J::J::w :: .int .i64 i::J::J::J::J::J::J::J::J::J::J::J::J::J::J::J::J::J::J::J::J::J::J::J::J::J::J::J::J::J::J::J::J::J::J::J::J::J::J::J::J::J::J::J::J::J::J::J::J::J::J::J::J::J::J::J::J::J::J::J::J::J::J::J::J::J::J::J::J::J::J::J::J::J::J::J::J::J::J::J::J::J::J::J::J::J::J::J::J::J::J::J::J::J::J::J::J::J::J::J::J::J::[]), h⟩ = some (.ret, ⟨(J::J::.ptr 1 0 0 0 :: .bool false::J::J::J::J::J::J::J::J::J::J::J::J::J::J::J::J::J::J::J::J::J::J::J::J::J::J::J::J::J::J::J::J::J::J::J::J::J::J::J::J::J::J::J::J::J::J::J::J::J::J::J::J::J::J::J::J::J::J::J::J::J::J::J::J::J::J::J::J::J::J::J::J::J::J::J::J::J::J::J::J::J::J::J::J::J::J::J::J::J::J::J::J::J::J::J::J::J::J::J::J::J::J::J::J::J::J::J::J::J::[]), h'⟩) ∧ h'[1]? = some (.arr 0 2 true [[.nilS, .nilS]])) := by
 intro d
 induction d with
 | zero =>
  intro i m xs h w q h1 h2 e0 e1 ow tv lb lx
  obtain ⟨m, rfl⟩ : ∃ q, m = q + 1 := ⟨m - 1, by omega⟩
  have h3 : ¬ ((i : Int) < tm) := by omega
  have lt := (back_box hA hG h e0).2.2.2
  rw [etm] at lt
  have r0 : rowG p s i 0 = [] := rfl
  rw [r0, Y3]
  refine ⟨fun _ => ⟨h, w, q, ?_, ow, tv, lb, fun _ _ _ e => e⟩, fun e => (by cases e)⟩
  simp only [loop_e,EB_r32_table_2,Zab,Zac,Zad,Zag,Zah,Zaj,Zak,Zal,Zas,Zav,Zay,Zbi,Zbk,Zbo,Zbq,Zby,Zcv,Zcx,Zdb,Zdc,Zdd,Q4,Q5,Q2,Q3,Zdh,Zdx,decide_false,Nat.reduceAdd,eq_self,lt,h3]
 | succ d ih =>
  intro i m xs h w q h1 h2 e0 e1 ow tv lb lx
  obtain ⟨m, rfl⟩ : ∃ q, m = q + 1 := ⟨m - 1, by omega⟩
  have h3' : (i : Int) < tm := by omega
  have hw := w64s (n := i) (by omega)
  have fat := fun H => r_At hG ok.l1 ok.l2 ok.l3 ok.b1 s i (by omega) H
  have lt := (back_box hA hG h e0).2.2.2
  rw [etm] at lt
  have la := (back_box hA hG h e0).2.1
  obtain ⟨⟨wr, lr, qr⟩, _⟩ := back_row hA hG h e0
  have nr := qr.len
  have hnr : p.a.row.length = p.n := rfl
  rw [hnr] at nr
  obtain ⟨x, hx⟩ : ∃ x, x = atD p.g s i := ⟨_, rfl⟩
  rw [← hx] at fat
  have o1 : okG p s i (d + 1) = ((decide (0 ≤ x) && decide (x ≤ (p.n : Int))) && okG p s (i + 1) d) := by unfold okG; rw [Z8, Y0, ← hx]
  have o2 : rowG p s i (d + 1) = IntKind.i64.wrap (x - 1) :: rowG p s (i + 1) d := by unfold rowG; rw [Z8, List.map_cons, ← hx]
  rw [o1, o2]
  have f0 : afill [.nilS, .nilS] [] = some (.agg [.nilS, .nilS]) := rfl
  have st : astore h 2 (.ptr 1 0 0 0) (.agg [.nilS, .nilS]) = some (h.set 1 (.arr 0 2 true [[.nilS, .nilS]])) := st_full (b := true) e1 rfl rfl rfl rfl
  by_cases c1 : x < 0
  case pos =>
   rw [decide_eq_false (by omega : ¬ 0 ≤ x), Z7, Z7]
   refine ⟨fun e => (by cases e), fun _ => ⟨h.set 1 (.arr 0 2 true [[.nilS, .nilS]]), ?_, get_set_eq e1⟩⟩
   simp only [loop_e,EB_r32_table_2,Zaa,Zab,Zac,Zad,Zae,Zag,Zai,Zaj,Zak,Zam,Zao,Zar,Zaw,Zay,Zaz,Zba,Zbd,Zbg,Zbi,Zbj,Zbk,Zbl,Zbo,Zbp,Zbq,Zby,Zcm,Zcp,Zcq,Zcv,Zcw,Zcx,Zcy,Zcz,Zda,Zdb,Zdc,Zdd,Q4,Q5,Q2,Q3,Zdh,Zdx,decide_true,Nat.reduceAdd,eq_self,Q7,Q6,lt,h3',la,fat,c1,evp,f0,st]
  case neg =>
  by_cases c2 : (p.n : Int) < x
  case pos =>
   rw [decide_eq_false (by omega : ¬ x ≤ (p.n : Int)), Bool.and_false, Z7]
   refine ⟨fun e => (by cases e), fun _ => ⟨h.set 1 (.arr 0 2 true [[.nilS, .nilS]]), ?_, get_set_eq e1⟩⟩
   simp only [loop_e,EB_r32_table_2,Zaa,Zab,Zac,Zad,Zae,Zag,Zai,Zaj,Zak,Zam,Zao,Zar,Zaw,Zay,Zaz,Zba,Zbc,Zbh,Zbi,Zbj,Zbk,Zbl,Zbo,Zbp,Zbq,Zby,Zcg,Zcm,Zcp,Zcq,Zcv,Zcw,Zcx,Zcy,Zcz,Zda,Zdb,Zdc,Zdd,Q4,Q5,Q2,Q3,Zdh,Zdj,Zdx,decide_true,decide_false,Nat.reduceAdd,eq_self,Q7,Q6,lt,h3',la,fat,c1,lr,nr,c2,evp,f0,st]
  case neg =>
  rw [decide_eq_true (by omega : 0 ≤ x), decide_eq_true (by omega : x ≤ (p.n : Int)), Z6, Z6]
  obtain ⟨y, hy⟩ : ∃ y, y = IntKind.i64.wrap (x - 1) := ⟨_, rfl⟩
  rw [← hy]
  obtain ⟨iv, ver1, H1, r1, r2, r3, r4, r5⟩ := ow.push true (c := [.int .i64 y]) rfl rfl (eIs_all _) 8 (by omega) (by rw [Zep]; omega)
  rw [Zep] at r1 r2
  rw [← eIs_snoc] at r2
  have tiv : B ≤ iv := by
   rcases r4 with g | ⟨_, g⟩
   ·exact tv iv g
   ·omega
  obtain ⟨vvx, hvx⟩ : ∃ x, x = AV.hsl iv ver1 0 (xs.length + 1) none := ⟨_, rfl⟩
  rw [← hvx] at r1 r2
  obtain ⟨k1, k2⟩ := ih (i + 1) m (xs ++ [y]) H1 vvx (some iv) (by omega) (by omega) (r3 0 _ e0 (fun f => by have := tv 0 f; omega)) (r3 1 _ e1 (fun f => by have := tv 1 f; omega)) r2 (fun i f => by cases f; exact tiv) (by omega) (by simp [lx])
  have t1 := fun h : AHeap => lit1' h (.int .i64 0) (.int .i64 y) rfl rfl
  have run : loopN (evalCode (lim G0.cfg) N B_r32_table_2) (m + 1) ⟨(J::.ptr 0 0 0 0 :: .ptr 1 0 0 0::J::.ptr 2 0 0 0 :: .int .i64 s :: w6::J::J::J::w :: .int .i64 i::J::J::J::J::J::J::J::J::J::J::J::J::J::J::J::J::J::J::J::J::J::J::J::J::J::J::J::J::J::J::J::J::J::J::J::J::J::J::J::J::J::J::J::J::J::J::J::J::J::J::J::J::J::J::J::J::J::J::J::J::J::J::J::J::J::J::J::J::J::J::J::J::J::J::J::J::J::J::J::J::J::J::J::J::J::J::J::J::J::J::J::J::J::J::J::J::J::J::J::J::J::[]), h⟩ = loopN (evalCode (lim G0.cfg) N B_r32_table_2) m ⟨(J::.ptr 0 0 0 0 :: .ptr 1 0 0 0::J::.ptr 2 0 0 0 :: .int .i64 s :: w6::J::J::J::vvx :: .int .i64 (i + 1 : Nat)::J::J::J::J::J::J::J::J::J::J::J::J::J::J::J::J::J::J::J::J::J::J::J::J::J::J::J::J::J::J::J::J::J::J::J::J::J::J::J::J::J::J::J::J::J::J::J::J::J::J::J::J::J::J::J::J::J::J::J::J::J::J::J::J::J::J::J::J::J::J::J::J::J::J::J::J::J::J::J::J::J::J::J::J::J::J::J::J::J::J::J::J::J::J::J::J::J::J::J::J::J::[]), H1⟩ := by
   simp only [loop_e,EB_r32_table_2,Zaa,Zab,Zac,Zad,Zae,Zag,Zaj,Zak,Zan,Zar,Zas,Zau,Zay,Zaz,Zbc,Zbh,Zbi,Zbj,Zbk,Zbl,Zbo,Zbq,Zby,Zcg,Zci,Zcn,Zcp,Zcq,Zcv,Zcw,Zcx,Zcz,Zda,Zdb,Zdc,Zdd,Q4,Q5,Q2,Q3,Zde,Zdf,Zdh,Zdj,Zdx,decide_true,decide_false,Nat.reduceAdd,eq_self,Q7,Q6,lt,h3',la,fat,c1,lr,nr,c2, ← hy,ev2,t1,r1,hw]
  rw [run]
  refine ⟨fun hk => ?_, k2⟩
  obtain ⟨h', w', q', e, g1, g2, g3, g4⟩ := k1 hk
  refine ⟨h', w', q', e, ?_, g2, g3, fun j o hj e => g4 j o hj (r3 j o e (fun f => by have := tv j f; omega))⟩
  rw [Y2] at g1
  exact g1
theorem table_0 (hA : RT p.a ca) (hG : RT p.g cg) (kA : RtOk p.a) (kG : RtOk p.g) (tm nt N : Nat) (htm : p.tms = tm) (hnt : p.nts = nt) (tm1 : tm ≤ 1000) (nt1 : nt ≤ 1000) (hn : p.n ≤ 100000) (hN : 2000 ≤ N) :
  ∀ (d s m : Nat) (A : List (List (List (Int × Int)))) (G : List (List Int)) (h : AHeap) (wA wG : AV) (csA csG : List (List AV)) (qA qG : Option Nat) (S : Nat → Prop), p.n = s + d → d < m → h[0]? = some (.arr 0 10 true [[.int .i64 p.tms, .int .i64 p.nts] ++ ca ++ cg]) → h[1]? = some (.arr 0 2 true [[.nilS, .nilS]]) → h[2]? = some (.arr 0 2 true [[wA, wG]]) →
   OwnG 1 csA wA h qA → Nest eCs A csA h S → OwnG 1 csG wG h qG → Nest eIs G csG h S → (∀ i, S i → 3 ≤ i ∧ i < h.length) → (∀ i, qA = some i → 3 ≤ i ∧ ¬ S i) → (∀ i, qG = some i → 3 ≤ i ∧ ¬ S i) → (∀ i, qA = some i → qG ≠ some i) → A.length = s → G.length = s →
  (okAllR p tm nt s d = true → ∃ (h' : AHeap) (wA' wG' : AV) (csA' csG' : List (List AV)) (qA' qG' : Option Nat) (S' : Nat → Prop), loopN (evalCode (lim G0.cfg) N B_r32_table_0) m ⟨(J::.ptr 0 0 0 0 :: .ptr 1 0 0 0::J::.ptr 2 0 0 0 :: .int .i64 s::J::J::J::J::J::J::J::J::J::J::J::J::J::J::J::J::J::J::J::J::J::J::J::J::J::J::J::J::J::J::J::J::J::J::J::J::J::J::J::J::J::J::J::J::J::J::J::J::J::J::J::J::J::J::J::J::J::J::J::J::J::J::J::J::J::J::J::J::J::J::J::J::J::J::J::J::J::J::J::J::J::J::J::J::J::J::J::J::J::J::J::J::J::J::J::J::J::J::J::J::J::J::J::J::J::J::J::[]), h⟩ = some (.exit 0, ⟨(J::J::.ptr 1 0 0 0::J::.ptr 2 0 0 0::J::J::J::J::J::J::J::J::J::J::J::J::J::J::J::J::J::J::J::J::J::J::J::J::J::J::J::J::J::J::J::J::J::J::J::J::J::J::J::J::J::J::J::J::J::J::J::J::J::J::J::J::J::J::J::J::J::J::J::J::J::J::J::J::J::J::J::J::J::J::J::J::J::J::J::J::J::J::J::J::J::J::J::J::J::J::J::J::J::J::J::J::J::J::J::J::J::J::J::J::J::J::J::J::J::J::J::J::[]), h'⟩) ∧
   h'[1]? = some (.arr 0 2 true [[.nilS, .nilS]]) ∧ h'[2]? = some (.arr 0 2 true [[wA', wG']]) ∧ OwnG 1 csA' wA' h' qA' ∧ Nest eCs (A ++ actsB p tm s d) csA' h' S' ∧ OwnG 1 csG' wG' h' qG' ∧ Nest eIs (G ++ gotosB p nt s d) csG' h' S' ∧ (∀ i, S' i → 3 ≤ i) ∧ (∀ i, qA' = some i → 3 ≤ i) ∧ (∀ i, qG' = some i → 3 ≤ i)) ∧
  (okAllR p tm nt s d = false → ∃ h', loopN (evalCode (lim G0.cfg) N B_r32_table_0) m ⟨(J::.ptr 0 0 0 0 :: .ptr 1 0 0 0::J::.ptr 2 0 0 0 :: .int .i64 s::J::J::J::J::J::J::J::J::J::J::J::J::J::J::J::J::J::J::J::J::J::J::J::J::J::J::J::J::J::J::J::J::J::J::J::J::J::J::J::J::J::J::J::J::J::J::J::J::J::J::J::J::J::J::J::J::J::J::J::J::J::J::J::J::J::J::J::J::J::J::J::J::J::J::J::J::J::J::J::J::J::J::J::J::J::J::J::J::J::J::J::J::J::J::J::J::J::J::J::J::J::J::J::J::J::J::J::[]), h⟩ = some (.ret, ⟨(J::J::.ptr 1 0 0 0 :: .bool false::J::J::J::J::J::J::J::J::J::J::J::J::J::J::J::J::J::J::J::J::J::J::J::J::J::J::J::J::J::J::J::J::J::J::J::J::J::J::J::J::J::J::J::J::J::J::J::J::J::J::J::J::J::J::J::J::J::J::J::J::J::J::J::J::J::J::J::J::J::J::J::J::J::J::J::J::J::J::J::J::J::J::J::J::J::J::J::J::J::J::J::J::J::J::J::J::J::J::J::J::J::J::J::J::J::J::J::J::J::[]), h'⟩) ∧ h'[1]? = some (.arr 0 2 true [[.nilS, .nilS]])) := by
 intro d
 induction d with
 | zero =>
  intro s m A G h wA wG csA csG qA qG S h1 h2 e0 e1 e2 oA nA oG nG hS hqA hqG hq lA lG
  obtain ⟨m, rfl⟩ : ∃ q, m = q + 1 := ⟨m - 1, by omega⟩
  have h3 : ¬ ((s : Int) < p.n) := by omega
  obtain ⟨⟨wr, lr, qr⟩, _⟩ := back_row hA hG h e0
  have nr := qr.len
  have hnr : p.a.row.length = p.n := rfl
  rw [hnr] at nr
  have r1 : actsB p tm s 0 = [] := rfl
  have r2 : gotosB p nt s 0 = [] := rfl
  rw [r1, r2, Y3, Y3]
  refine ⟨fun _ => ⟨h, wA, wG, csA, csG, qA, qG, S, ?_, e1, e2, oA, nA, oG, nG, fun i k => (hS i k).1, fun i k => (hqA i k).1, fun i k => (hqG i k).1⟩, fun e => (by cases e)⟩
  simp only [loop_e,EB_r32_table_0,Zab,Zac,Zad,Zag,Zah,Zaj,Zak,Zal,Zas,Zav,Zay,Zbi,Zbk,Zbo,Zbq,Zby,Zcg,Zcv,Zcx,Zdb,Zdc,Zdd,Q4,Q5,Q2,Q3,Zdh,Zdx,decide_false,Nat.reduceAdd,eq_self,lr,nr,h3]
 | succ d ih =>
  intro s m A G h wA wG csA csG qA qG S h1 h2 e0 e1 e2 oA nA oG nG hS hqA hqG hq lA lG
  obtain ⟨m, rfl⟩ : ∃ q, m = q + 1 := ⟨m - 1, by omega⟩
  have h3' : (s : Int) < p.n := by omega
  have hw := w64s (n := s) (by omega)
  obtain ⟨⟨wr, lr, qr⟩, _⟩ := back_row hA hG h e0
  have nr := qr.len
  have hnr : p.a.row.length = p.n := rfl
  rw [hnr] at nr
  have len3 : 3 ≤ h.length := by have := get_len e2; omega
  have o1 : okAllR p tm nt s (d + 1) = ((okA p s 0 tm && okG p s 0 nt) && okAllR p tm nt (s + 1) d) := by unfold okAllR; rw [Z8, Y0]
  have o2 : actsB p tm s (d + 1) = rowA p s 0 tm :: actsB p tm (s + 1) d := by unfold actsB; rw [Z8, List.map_cons]
  have o3 : gotosB p nt s (d + 1) = rowG p s 0 nt :: gotosB p nt (s + 1) d := by unfold gotosB; rw [Z8, List.map_cons]
  rw [o1, o2, o3]
  obtain ⟨k1, k2⟩ := table_1 (B := h.length) hA hG kA s tm N tm1 htm len3 tm 0 N [] h .nilS none (by omega) (by omega) e0 e1 (OwnG.nil 1 _) (fun _ e => by cases e) (Nat.le_refl _) rfl
  rw [z0, Q6] at k1
  rw [z0] at k2
  by_cases c : okA p s 0 tm = true
  case neg =>
   have c' : okA p s 0 tm = false := by simpa using c
   obtain ⟨h', e, e1'⟩ := k2 c'
   rw [c', Z7, Z7]
   refine ⟨fun e => (by cases e), fun _ => ⟨h', ?_, e1'⟩⟩
   simp only [loop_e,EB_r32_table_0,Zaa,Zab,Zac,Zad,Zae,Zaf,Zag,Zaj,Zak,Zam,Zao,Zar,Zat,Zaw,Zay,Zbi,Zbk,Zbo,Zbq,Zby,Zcg,Zcv,Zcw,Zcx,Zdb,Zdc,Zdd,Q4,Q5,Q2,Q3,Zdh,Zdx,decide_true,Nat.reduceAdd,eq_self,lr,nr,h3',e]
  case pos =>
  obtain ⟨h4, wx, qx, e4, ox, bx, l4, f4⟩ := k1 c
  rw [c, Z6]
  obtain ⟨j1, j2⟩ := table_2 (B := h4.length) hA hG kG s nt N nt1 hnt hn (by omega) wx nt 0 N [] h4 .nilS none (by omega) (by omega) (f4 0 _ (by omega) e0) (f4 1 _ (by omega) e1) (OwnG.nil 1 _) (fun _ e => by cases e) (Nat.le_refl _) rfl
  rw [z0, Q6] at j1
  rw [z0] at j2
  by_cases c2 : okG p s 0 nt = true
  case neg =>
   have c' : okG p s 0 nt = false := by simpa using c2
   obtain ⟨h', e, e1'⟩ := j2 c'
   rw [c', Z7]
   refine ⟨fun e => (by cases e), fun _ => ⟨h', ?_, e1'⟩⟩
   simp only [loop_e,EB_r32_table_0,Zaa,Zab,Zac,Zad,Zae,Zaf,Zag,Zaj,Zak,Zam,Zao,Zap,Zar,Zat,Zaw,Zay,Zbi,Zbk,Zbo,Zbq,Zby,Zcg,Zcv,Zcw,Zcx,Zdb,Zdc,Zdd,Q4,Q5,Q2,Q3,Zdh,Zdx,decide_true,Nat.reduceAdd,eq_self,lr,nr,h3',e4,e]
  case pos =>
  obtain ⟨h5, wy, qy, e5, oy, by', l5, f5⟩ := j1 c2
  rw [c2, Z6]
  have up5 : ∀ (j : Nat) (o : AObj), j < h.length → h[j]? = some o → h5[j]? = some o := fun j o hj e => f5 j o (by omega) (f4 j o hj e)
  have qxl : ∀ i, qx = some i → i < h4.length := fun i e => by rw [e] at ox; exact ox.lt
  have qyl : ∀ i, qy = some i → i < h5.length := fun i e => by rw [e] at oy; exact oy.lt
  have ox5 := ox.frame (h' := h5) fun i o e k => f5 i o (qxl i e) k
  have qAl : ∀ i, qA = some i → i < h.length := fun i e => by rw [e] at oA; exact oA.lt
  have qGl : ∀ i, qG = some i → i < h.length := fun i e => by rw [e] at oG; exact oG.lt
  have oA5 := oA.frame (h' := h5) fun i o e k => up5 i o (qAl i e) k
  have oG5 := oG.frame (h' := h5) fun i o e k => up5 i o (qGl i e) k
  have nA5 := nA.frame (h' := h5) fun i o e k => up5 i o (hS i e).2 k
  have nG5 := nG.frame (h' := h5) fun i o e k => up5 i o (hS i e).2 k
  have e25 := up5 2 _ (by omega) e2
  obtain ⟨S', hS'⟩ : ∃ S' : Nat → Prop, S' = fun i => S i ∨ qx = some i ∨ qy = some i := ⟨_, rfl⟩
  have lS' : ∀ i, S' i → 3 ≤ i ∧ i < h5.length := fun i hs => by
   rw [hS'] at hs
   rcases hs with hs | hs | hs
   ·have := hS i hs; omega
   ·have := bx i hs; have := qxl i hs; omega
   ·have := by' i hs; have := qyl i hs; omega
  have nSA : ∀ i, qA = some i → ¬ S' i := fun i e hs => by
   rw [hS'] at hs
   rcases hs with hs | hs | hs
   ·exact (hqA i e).2 hs
   ·have := bx i hs; have := qAl i e; omega
   ·have := by' i hs; have := qAl i e; omega
  have nSG : ∀ i, qG = some i → ¬ S' i := fun i e hs => by
   rw [hS'] at hs
   rcases hs with hs | hs | hs
   ·exact (hqG i e).2 hs
   ·have := bx i hs; have := qGl i e; omega
   ·have := by' i hs; have := qGl i e; omega
  have nq0 : ∀ k, k < 3 → qA ≠ some k ∧ qG ≠ some k := fun k hk => ⟨fun e => by have := (hqA k e).1; omega, fun e => by have := (hqG k e).1; omega⟩
  -- the actions' row
  obtain ⟨lt2, H5a, iA, verA, H6, t2, r1, r2, r3, r4, r5⟩ := oA5.pushRow ox5.cell nA5.all 24 (by omega) (by rw [nA.len]; omega) .nilS
  obtain ⟨wA', hwA⟩ : ∃ x, x = AV.hsl iA verA 0 (csA.length + 1) none := ⟨_, rfl⟩
  rw [← hwA] at r1 r2
  have e26 := r3 2 _ e25 (nq0 2 (by omega)).1
  have lA6 : aload h5 1 false (.ptr 2 0 0 0) = some wA := by rw [ld_p h5 1 2 0 0 0 false 2 true _ _ e25 rfl]; rfl
  have sA : astore H6 1 (.ptr 2 0 0 0) wA' = some (H6.set 2 (.arr 0 2 true [[wA', wG]])) := by
   have := r2.cell
   simp [astore, putCells, getArr, e26, this.1, this.2]
  obtain ⟨H7, hH7⟩ : ∃ H, H = H6.set 2 (.arr 0 2 true [[wA', wG]]) := ⟨_, rfl⟩
  rw [← hH7] at sA
  have e27 : H7[2]? = some (.arr 0 2 true [[wA', wG]]) := by rw [hH7]; exact get_set_eq e26
  have f67 : ∀ (i : Nat) (o : AObj), i ≠ 2 → H6[i]? = some o → H7[i]? = some o := fun i o n e => by rw [hH7]; exact get_set_ne e n.symm
  have f57 : ∀ (i : Nat) (o : AObj), i ≠ 2 → qA ≠ some i → h5[i]? = some o → H7[i]? = some o := fun i o n k e => f67 i o n (r3 i o e k)
  have iA3 : 3 ≤ iA := by
   rcases r4 with k | ⟨_, k⟩
   ·exact (hqA _ k).1
   ·omega
  have oA7 := r2.frame (h' := H7) fun i o f e => f67 i o (by cases f; omega) e
  have nA7 := ((nA5.mono (S' := S') (fun i k => by rw [hS']; exact .inl k)).push (x := rowA p s 0 tm) ox5 (fun i k => by rw [hS']; exact .inr (.inl k))).frame (h' := H7) fun i o k e => f57 i o (by have := (lS' i k).1; omega) (fun f => nSA i f k) e
  have oG7 := oG5.frame (h' := H7) fun i o f e => f57 i o (by have := (hqG i f).1; omega) (fun k => hq i k f) e
  have nG7 := ((nG5.mono (S' := S') (fun i k => by rw [hS']; exact .inl k)).push (x := rowG p s 0 nt) oy (fun i k => by rw [hS']; exact .inr (.inr k))).frame (h' := H7) fun i o k e => f57 i o (by have := (lS' i k).1; omega) (fun f => nSA i f k) e
  have nG7' := (nG5.frame (h' := H7) fun i o k e => f57 i o (by have := (hS i k).1; omega) (fun f => (hqA i f).2 k) e)
  have l7 : H7.length = H6.length := by rw [hH7, List.length_set]
  -- the gotos' row
  obtain ⟨lt3, H7a, iG, verG, H8, t3, p1, p2, p3, p4, p5⟩ := oG7.pushRow oy.cell nG7'.all 24 (by omega) (by rw [nG.len]; omega) .nilS
  obtain ⟨wG', hwG⟩ : ∃ x, x = AV.hsl iG verG 0 (csG.length + 1) none := ⟨_, rfl⟩
  rw [← hwG] at p1 p2
  have e28 := p3 2 _ e27 (nq0 2 (by omega)).2
  have lG7 : aload H7 1 false (.ptr 2 0 0 1) = some wG := by rw [ld_p H7 1 2 0 0 1 false 2 true _ _ e27 rfl]; rfl
  have sG : astore H8 1 (.ptr 2 0 0 1) wG' = some (H8.set 2 (.arr 0 2 true [[wA', wG']])) := by
   have := p2.cell
   simp [astore, putCells, getArr, e28, this.1, this.2]
  obtain ⟨H9, hH9⟩ : ∃ H, H = H8.set 2 (.arr 0 2 true [[wA', wG']]) := ⟨_, rfl⟩
  rw [← hH9] at sG
  have e29 : H9[2]? = some (.arr 0 2 true [[wA', wG']]) := by rw [hH9]; exact get_set_eq e28
  have f89 : ∀ (i : Nat) (o : AObj), i ≠ 2 → H8[i]? = some o → H9[i]? = some o := fun i o n e => by rw [hH9]; exact get_set_ne e n.symm
  have f79 : ∀ (i : Nat) (o : AObj), i ≠ 2 → qG ≠ some i → H7[i]? = some o → H9[i]? = some o := fun i o n k e => f89 i o n (p3 i o e k)
  have iG3 : 3 ≤ iG := by
   rcases p4 with k | ⟨_, k⟩
   ·exact (hqG _ k).1
   ·omega
  have neAG : qG ≠ some iA := fun k => by
   rcases r4 with u | ⟨_, u⟩
   ·exact hq iA u k
   ·have := qGl iA k; omega
  have oA9 := oA7.frame (h' := H9) fun i o f e => f79 i o (by cases f; omega) (by cases f; exact neAG) e
  have nA9 := nA7.frame (h' := H9) fun i o k e => f79 i o (by have := (lS' i k).1; omega) (fun f => nSG i f k) e
  have oG9 := p2.frame (h' := H9) fun i o f e => f89 i o (by cases f; omega) e
  have nG9 := nG7.frame (h' := H9) fun i o k e => f79 i o (by have := (lS' i k).1; omega) (fun f => nSG i f k) e
  have l9 : H9.length = H8.length := by rw [hH9, List.length_set]
  have gne : iA ≠ iG := fun k => by
   rcases p4 with u | ⟨_, u⟩
   ·exact neAG (by rw [k]; exact u)
   ·have := oA7.lt; omega
  have g0 := f79 0 _ (by omega) (nq0 0 (by omega)).2 (f57 0 _ (by omega) (nq0 0 (by omega)).1 (up5 0 _ (by omega) e0))
  have g1 := f79 1 _ (by omega) (nq0 1 (by omega)).2 (f57 1 _ (by omega) (nq0 1 (by omega)).1 (up5 1 _ (by omega) e1))
  obtain ⟨k1, k2⟩ := ih (s + 1) m (A ++ [rowA p s 0 tm]) (G ++ [rowG p s 0 nt]) H9 wA' wG' (csA ++ [[wx]]) (csG ++ [[wy]]) (some iA) (some iG) S' (by omega) (by omega) g0 g1 e29 oA9 nA9 oG9 nG9 (fun i hs => by have := lS' i hs; omega)
   (fun i e => by
    cases e
    rcases r4 with k | ⟨_, k⟩
    ·exact ⟨iA3, nSA _ k⟩
    ·exact ⟨iA3, fun hs => by have := lS' _ hs; omega⟩)
   (fun i e => by
    cases e
    rcases p4 with k | ⟨_, k⟩
    ·exact ⟨iG3, nSG _ k⟩
    ·exact ⟨iG3, fun hs => by have := lS' _ hs; omega⟩)
   (fun i e f => by cases e; cases f; exact gne rfl) (by simp [lA]) (by simp [lG])
  have run : loopN (evalCode (lim G0.cfg) N B_r32_table_0) (m + 1) ⟨(J::.ptr 0 0 0 0 :: .ptr 1 0 0 0::J::.ptr 2 0 0 0 :: .int .i64 s::J::J::J::J::J::J::J::J::J::J::J::J::J::J::J::J::J::J::J::J::J::J::J::J::J::J::J::J::J::J::J::J::J::J::J::J::J::J::J::J::J::J::J::J::J::J::J::J::J::J::J::J::J::J::J::J::J::J::J::J::J::J::J::J::J::J::J::J::J::J::J::J::J::J::J::J::J::J::J::J::J::J::J::J::J::J::J::J::J::J::J::J::J::J::J::J::J::J::J::J::J::J::J::J::J::J::J::[]), h⟩ = loopN (evalCode (lim G0.cfg) N B_r32_table_0) m ⟨(J::.ptr 0 0 0 0 :: .ptr 1 0 0 0::J::.ptr 2 0 0 0 :: .int .i64 (s + 1 : Nat)::J::J::J::J::J::J::J::J::J::J::J::J::J::J::J::J::J::J::J::J::J::J::J::J::J::J::J::J::J::J::J::J::J::J::J::J::J::J::J::J::J::J::J::J::J::J::J::J::J::J::J::J::J::J::J::J::J::J::J::J::J::J::J::J::J::J::J::J::J::J::J::J::J::J::J::J::J::J::J::J::J::J::J::J::J::J::J::J::J::J::J::J::J::J::J::J::J::J::J::J::J::J::J::J::J::J::J::[]), H9⟩ := by
   simp only [loop_e,EB_r32_table_0,Zaa,Zab,Zac,Zad,Zae,Zaf,Zag,Zaj,Zak,Zan,Zap,Zar,Zat,Zau,Zay,Zaz,Zba,Zbi,Zbk,Zbo,Zbp,Zbq,Zby,Zcg,Zci,Zcn,Zcv,Zcw,Zcx,Zcy,Zdb,Zdc,Zdd,Q4,Q5,Q2,Q3,Zde,Zdh,Zdx,decide_true,Nat.reduceAdd,eq_self,lr,nr,h3',e4,e5,lA6,ev2,t2,r1,sA,lG7,t3,p1,sG,hw]
  rw [run]
  refine ⟨fun hk => ?_, k2⟩
  obtain ⟨h', a1, a2, a3, a4, a5, a6, a7, b1, b2, b3, b4, b5, b6, b7, b8⟩ := k1 hk
  refine ⟨h', a1, a2, a3, a4, a5, a6, a7, b1, b2, b3, b4, ?_, b6, ?_, b8⟩
  ·rw [Y2] at b5; exact b5
  ·rw [Y2] at b7; exact b7
end
end Go.Proofs.Ytkgndbhflehhhaa.Ai
namespace Go.Proofs.Ytkgndbhflehhhaa.Ai
open Go Go.Proofs
open AV renaming junk → J
open List renaming length_cons → Q0, length_nil → Q1, getD_cons_zero → Q2, getD_cons_succ → Q3, set_cons_zero → Q4, set_cons_succ → Q5, nil_append → Q6, cons_append → Q7, replicate_succ → Q8, replicate_zero → Q9, getElem?_cons_zero → Z3, getElem?_cons_succ → Z4, range'_succ → Z8, all_eq_true → Z9, all_cons → Y0, append_assoc → Y2, append_nil → Y3
open Option renaming map_some → Z0
open Option.some renaming injEq → Z1
open Bool renaming not_true → Z2, not_false → Z5, true_and → Z6, false_and → Z7, decide_and → Y1
set_option linter.unusedVariables false
set_option linter.unusedSimpArgs false
set_option maxRecDepth 10000
set_option maxHeartbeats 4000000
def tableOk (p : PackD) : Prop := frameB p ∧ okAllR p p.tm p.nt 0 p.n = true
section
variable {p : PackD} {cs : List AV}
theorem run_table (hp : PackV p cs) (kA : RtOk p.a) (kG : RtOk p.g) :
  (tableOk p → ∃ (raw av gv : AV) (c : Bool) (h' : AHeap), runFn (lim G0.cfg) 5000 A_r32_table [.agg cs] [] = some (raw, h') ∧ freeze h' 1000 raw = some (.tup [.agg [av, gv], .bool true], c) ∧ LiG (LiG LiA) (tabB p).acts av ∧ LiR (tabB p).gotos gv) ∧
  (¬ tableOk p → ∃ (h' : AHeap), runFn (lim G0.cfg) 5000 A_r32_table [.agg cs] [] = some (.tup [.agg [.nilS, .nilS], .bool false], h')) := by
 obtain ⟨p1, p2, p3⟩ := hp.cells
 have bx := box_full [] p3 p1
 obtain ⟨ca, cg, hcs, hA, hG⟩ := hp
 obtain ⟨X, hX⟩ : ∃ X, X = AObj.arr 0 10 true [cs] := ⟨_, rfl⟩
 obtain ⟨Y, hY⟩ : ∃ Y, Y = AObj.arr 0 2 true [[AV.nilS, .nilS]] := ⟨_, rfl⟩
 have e0 : ∀ l : AHeap, (X :: l)[0]? = some (.arr 0 10 true [[.int .i64 p.tms, .int .i64 p.nts] ++ ca ++ cg]) := fun l => by rw [hX, hcs]; rfl
 have f0 : afill [.nilS, .nilS] [] = some (.agg [.nilS, .nilS]) := rfl
 have ldt : aload [X, Y] 1 false (.ptr 0 0 0 0) = some (.int .i64 p.tms) := (back_box hA hG _ (e0 [Y])).2.2.1
 have ldn : aload [X, Y] 1 false (.ptr 0 0 0 1) = some (.int .i64 p.nts) := (back_box hA hG _ (e0 [Y])).2.2.2
 obtain ⟨⟨w1, l1, q1⟩, w2, l2, q2⟩ := back_row hA hG _ (e0 [Y])
 have n1 := q1.len
 have n2 := q2.len
 have hnr : p.a.row.length = p.n := rfl
 rw [hnr] at n1
 obtain ⟨z1, z2, z3⟩ := zero_2 [X, Y] [] (by rw [hY]; rfl)
 have zs : ([X, Y] : AHeap).set 1 (.arr 0 2 true [[.nilS, .nilS]]) = [X, Y] := by rw [hY]; rfl
 rw [zs] at z1 z2
 have v1 := r_within p.tms 2 256
 have v2 := r_within p.nts 1 512
 have v3 := r_within p.n 1 4096
 rw [R_r32_table]
 by_cases c1 : 2 ≤ p.tms ∧ p.tms ≤ 256
 case neg =>
  have d1 : (decide (2 ≤ p.tms) && decide (p.tms ≤ 256)) = false := by rw [← Y1]; exact decide_eq_false c1
  rw [d1] at v1
  refine ⟨fun k => absurd ⟨k.1.1, k.1.2.1⟩ c1, fun _ => ⟨[X, Y], ?_⟩⟩
  simp only [Zab,Zac,Zad,Zai,Zaj,Zak,Zam,Zar,Zay,Zaz,Zba,Zbd,Zbg,Zbi,Zbj,Zbk,Zbl,Zbm,Zbn,Zbo,Zbp,Zbr,Zby,Zcm,Zcp,Zcq,Zcs,Zcu,Zcv,Zcw,Zcx,Zcy,Zcz,Zda,Q4,Q5,Q2,Q3,Z0,Zdr,Zdx,Z5,Q0,Q1,if_true,Nat.reduceAdd,Nat.reduceSub,eq_self,Q0,Q1,Q8,Q9,Q7,Q6,p1,p3,eq_self,if_true,evp, ← hX, ← hY,ldt,v1,f0,z1,z2,resAll,resVals,resVal]
 case pos =>
 have d1 : (decide (2 ≤ p.tms) && decide (p.tms ≤ 256)) = true := by rw [← Y1]; exact decide_eq_true c1
 rw [d1] at v1
 by_cases c2 : 1 ≤ p.nts ∧ p.nts ≤ 512
 case neg =>
  have d2 : (decide (1 ≤ p.nts) && decide (p.nts ≤ 512)) = false := by rw [← Y1]; exact decide_eq_false c2
  rw [d2] at v2
  refine ⟨fun k => absurd ⟨k.1.2.2.1, k.1.2.2.2.1⟩ c2, fun _ => ⟨[X, Y], ?_⟩⟩
  simp only [Zab,Zac,Zad,Zai,Zaj,Zak,Zam,Zar,Zay,Zaz,Zba,Zbc,Zbd,Zbg,Zbh,Zbi,Zbj,Zbk,Zbl,Zbm,Zbn,Zbo,Zbp,Zbr,Zby,Zcm,Zcp,Zcq,Zcs,Zcu,Zcv,Zcw,Zcx,Zcy,Zcz,Zda,Q4,Q5,Q2,Q3,Z0,Zdr,Zdx,Z2,Z5,Q0,Q1,if_true,Nat.reduceAdd,Nat.reduceSub,eq_self,Q0,Q1,Q8,Q9,Q7,Q6,p1,p3,eq_self,if_true,evp, ← hX, ← hY,ldt,ldn,v1,v2,f0,z1,z2,resAll,resVals,resVal]
 case pos =>
 have d2 : (decide (1 ≤ p.nts) && decide (p.nts ≤ 512)) = true := by rw [← Y1]; exact decide_eq_true c2
 rw [d2] at v2
 by_cases c3 : 1 ≤ p.n ∧ p.n ≤ 4096
 case neg =>
  have d3 : (decide ((1 : Int) ≤ p.n) && decide ((p.n : Int) ≤ 4096)) = false := by rw [← Y1]; exact decide_eq_false (by omega)
  rw [d3] at v3
  refine ⟨fun k => absurd ⟨k.1.2.2.2.2.1, k.1.2.2.2.2.2.1⟩ c3, fun _ => ⟨[X, Y], ?_⟩⟩
  simp only [Zab,Zac,Zad,Zai,Zaj,Zak,Zam,Zar,Zay,Zaz,Zba,Zbc,Zbd,Zbg,Zbh,Zbi,Zbj,Zbk,Zbl,Zbm,Zbn,Zbo,Zbp,Zbr,Zby,Zcg,Zcm,Zcp,Zcq,Zcs,Zcu,Zcv,Zcw,Zcx,Zcy,Zcz,Zda,Q4,Q5,Q2,Q3,Z0,Zdr,Zdx,Z2,Z5,Q0,Q1,if_true,Nat.reduceAdd,Nat.reduceSub,eq_self,Q0,Q1,Q8,Q9,Q7,Q6,p1,p3,eq_self,if_true,evp, ← hX, ← hY,ldt,ldn,l1,n1,v1,v2,v3,f0,z1,z2,resAll,resVals,resVal]
 case pos =>
 have d3 : (decide ((1 : Int) ≤ p.n) && decide ((p.n : Int) ≤ 4096)) = true := by rw [← Y1]; exact decide_eq_true (by omega)
 rw [d3] at v3
 by_cases c7 : p.g.row.length = p.n
 case neg =>
  have d7 : decide ((p.g.row.length : Int) = p.n) = false := decide_eq_false (by omega)
  refine ⟨fun k => absurd k.1.2.2.2.2.2.2 c7, fun _ => ⟨[X, Y], ?_⟩⟩
  simp only [Zab,Zac,Zad,Zai,Zaj,Zak,Zam,Zar,Zay,Zaz,Zba,Zbc,Zbh,Zbi,Zbj,Zbk,Zbl,Zbm,Zbn,Zbo,Zbp,Zbq,Zbr,Zby,Zcg,Zcm,Zcp,Zcq,Zcs,Zcu,Zcv,Zcw,Zcx,Zcy,Zcz,Zda,Q4,Q5,Q2,Q3,Z0,Zdm,Zdr,Zdx,Z2,Z5,Q0,Q1,if_true,Nat.reduceAdd,Nat.reduceSub,eq_self,Q0,Q1,Q8,Q9,Q7,Q6,p1,p3,eq_self,if_true,evp, ← hX, ← hY,l1,l2,n1,n2,ldt,ldn,v1,v2,v3,d7,f0,z1,z2,resAll,resVals,resVal]
 case pos =>
 have d7 : decide ((p.g.row.length : Int) = p.n) = true := decide_eq_true (by omega)
 have fr : frameB p := ⟨c1.1, c1.2, c2.1, c2.2, c3.1, c3.2, c7⟩
 have tmE : p.tms = (p.tm : Int) := by unfold PackD.tm; omega
 have ntE : p.nts = (p.nt : Int) := by unfold PackD.nt; omega
 obtain ⟨k1, k2⟩ := table_0 hA hG kA kG p.tm p.nt 5000 tmE ntE (by omega) (by omega) (by omega) (by omega) p.n 0 5000 [] [] [X, Y, Y] .nilS .nilS [] [] none none (fun _ => False) (by omega) (by omega) (e0 [Y, Y]) (by rw [hY]; rfl) (by rw [hY]; rfl) (OwnG.nil 1 _) (Nest.nil _ _ _) (OwnG.nil 1 _) (Nest.nil _ _ _) (fun _ e => e.elim) (fun _ e => by cases e) (fun _ e => by cases e) (fun _ e => by cases e) rfl rfl
 rw [z0] at k1 k2
 rw [Q6, Q6] at k1
 by_cases c8 : okAllR p p.tm p.nt 0 p.n = true
 case neg =>
  obtain ⟨h', e, e1⟩ := k2 (by simpa using c8)
  have z4 := (zero_2 h' [] e1).2.2
  refine ⟨fun k => absurd k.2 c8, fun _ => ⟨h', ?_⟩⟩
  simp only [Zaa,Zab,Zac,Zad,Zae,Zaf,Zag,Zaj,Zak,Zam,Zao,Zas,Zat,Zay,Zaz,Zbc,Zbh,Zbi,Zbj,Zbk,Zbl,Zbm,Zbn,Zbo,Zbq,Zbr,Zby,Zcg,Zcp,Zcq,Zcs,Zcu,Zcv,Zcw,Zcx,Zcz,Zda,Zdb,Zdc,Zdd,Q4,Q5,Q2,Q3,Z0,Zdm,Zdr,Zdx,Z2,Q0,Q1,if_true,Nat.reduceAdd,Nat.reduceSub,eq_self,Q0,Q1,Q8,Q9,Q7,Q6,p1,p3,eq_self,if_true,← hX, ← hY,l1,l2,n1,n2,ldt,ldn,v1,v2,v3,d7,e,z4,resAll,resVals,resVal]
 case pos =>
 obtain ⟨h', wA, wG, csA, csG, qA, qG, S, e, g1, g2, oA, nA, oG, nG, hS, hqA, hqG⟩ := k1 c8
 have cc : cellsOf (.agg [wA, wG]) = [wA, wG] := by simp [cellsOf]
 have ck : [wA, wG].all cellOk = true := by simp only [Y0,List.all_nil,oA.cell.2,oG.cell.2,Bool.and_self]
 have lt5 : aload h' 2 true (.ptr 2 0 0 0) = some (.agg [wA, wG]) := ld_full (b := true) g2 rfl
 have y3 : astore h' 2 (.ptr 1 0 0 0) (.agg [wA, wG]) = some (h'.set 1 (.arr 0 2 true [[wA, wG]])) := st_full (b := true) g1 rfl rfl cc ck
 have y4 : aload (h'.set 1 (.arr 0 2 true [[wA, wG]])) 2 true (.ptr 1 0 0 0) = some (.agg [wA, wG]) := ld_full (b := true) (get_set_eq g1) rfl
 obtain ⟨F, hF⟩ : ∃ F, F = h'.set 1 (.arr 0 2 true [[wA, wG]]) := ⟨_, rfl⟩
 rw [← hF] at y3 y4
 have upF : ∀ (i : Nat) (o : AObj), 3 ≤ i → h'[i]? = some o → F[i]? = some o := fun i o hi e => by rw [hF]; exact get_set_ne e (by omega)
 obtain ⟨av2, ba2, fa2, ga2⟩ := (nA.frame (h' := F) (fun i o k e => upF i o (hS i k) e)).fzA (oA.frame (h' := F) (fun i o k e => upF i o (hqA i k) e)) 995
 obtain ⟨gv2, bg2, fg2, gg2⟩ := (nG.frame (h' := F) (fun i o k e => upF i o (hS i k) e)).fz (oG.frame (h' := F) (fun i o k e => upF i o (hqG i k) e)) 995
 have fz2 := fz_tup2 (k := 999) (fz_agg2 (k := 998) fa2 fg2) (rfl : freeze F 999 (.bool true) = some (.bool true, true))
 refine ⟨fun _ => ⟨.tup [.agg [wA, wG], .bool true], av2, gv2, _, F, ?_, fz2, ga2, gg2⟩, fun k => absurd ⟨fr, c8⟩ k⟩
 simp only [Zaa,Zab,Zac,Zad,Zae,Zaf,Zag,Zai,Zaj,Zak,Zap,Zas,Zat,Zay,Zaz,Zba,Zbc,Zbh,Zbi,Zbj,Zbk,Zbl,Zbm,Zbn,Zbo,Zbp,Zbq,Zbr,Zby,Zcg,Zcp,Zcq,Zcs,Zcu,Zcv,Zcw,Zcx,Zcy,Zcz,Zda,Zdb,Zdc,Zdd,Q4,Q5,Q2,Q3,Z0,Zdm,Zdr,Zdx,Z2,Q0,Q1,if_true,Nat.reduceAdd,Nat.reduceSub,eq_self,Q0,Q1,Q8,Q9,Q7,Q6,p1,p3,eq_self,if_true,← hX, ← hY,l1,l2,n1,n2,ldt,ldn,v1,v2,v3,d7,e,lt5,y3,y4,resAll,resVals,resVal]
theorem r_table (hp : PackV p cs) (kA : RtOk p.a) (kG : RtOk p.g) :
  (tableOk p → ∃ (av gv : AV), LiG (LiG LiA) (tabB p).acts av ∧ LiR (tabB p).gotos gv ∧ ∀ H, lim G0.cfg (.func 47) [.agg cs] H = some (.tup [.agg [av, gv], .bool true], H)) ∧
  (¬ tableOk p → ∀ H, lim G0.cfg (.func 47) [.agg cs] H = some (.tup [.agg [.nilS, .nilS], .bool false], H)) := by
 obtain ⟨k1, k2⟩ := run_table hp kA kG
 refine ⟨fun k => ?_, fun k H => ?_⟩
 ·obtain ⟨raw, av, gv, c, h', r, f, g1, g2⟩ := k1 k
  exact ⟨av, gv, g1, g2, fun H => lim_at rfl rfl P_r32_table 5000 (fun h => fz_1 (hp.fz h 998)) r f H⟩
 ·obtain ⟨h', r⟩ := k2 k
  exact lim_at rfl rfl P_r32_table 5000 (fun h => fz_1 (hp.fz h 998)) r (rfl : freeze h' 1000 (.tup [.agg [.nilS, .nilS], .bool false]) = some (.tup [.agg [.nilS, .nilS], .bool false], true)) H
end
def eqP (p q : PackD) : Bool := decide (p.tms = q.tms) && (decide (p.nts = q.nts) && (eqR p.a q.a && eqR p.g q.g))
theorem eqP_iff (p q : PackD) : eqP p q = true ↔ p = q := by
 obtain ⟨a1, a2, a3, a4⟩ := p
 obtain ⟨b1, b2, b3, b4⟩ := q
 simp [eqP, eqR_iff]
theorem r_SameG {p q : PackD} {cs ds : List AV} (hc : PackV p cs) (hd : PackV q ds) (l1 : RtOk p.a) (l2 : RtOk p.g) (H : AHeap) : lim G0.cfg (.func 21) [.agg cs, .agg ds] H = some (.bool (eqP p q), H) := by
 refine lim_flat rfl rfl P_r32_Same 1 (fun h => fz_2 (hc.fz h 998) (hd.fz h 998)) ?_ (fun _ => rfl) H
 obtain ⟨p1, p2, p3⟩ := hc.cells
 obtain ⟨q1, q2, q3⟩ := hd.cells
 have bx1 := box_full [] p3 p1
 obtain ⟨A, hA⟩ : ∃ A, A = AObj.arr 0 10 true [cs] := ⟨_, rfl⟩
 rw [← hA] at bx1
 have bx2 := box_full [A] q3 q1
 obtain ⟨B, hB⟩ : ∃ B, B = AObj.arr 0 10 true [ds] := ⟨_, rfl⟩
 rw [← hB] at bx2
 obtain ⟨ca, cg, e1, ha, hg⟩ := hc
 obtain ⟨da, dg, e2, ka, kg⟩ := hd
 have s1 := r_SameCombG ha ka l1.l4 l1.l1 l1.l2 l1.l3
 have s2 := r_SameCombG hg kg l2.l4 l2.l1 l2.l2 l2.l3
 obtain ⟨a1, a2, a3, a4, rfl, _, _, _, _⟩ := ha
 obtain ⟨b1, b2, b3, b4, rfl, _, _, _, _⟩ := hg
 obtain ⟨x1, x2, x3, x4, rfl, _, _, _, _⟩ := ka
 obtain ⟨y1, y2, y3, y4, rfl, _, _, _, _⟩ := kg
 have g0 : ([A, B] : AHeap)[0]? = some (.arr 0 10 true [cs]) := by rw [hA]; rfl
 have g1 : ([A, B] : AHeap)[1]? = some (.arr 0 10 true [ds]) := by rw [hB]; rfl
 have t1 : aload [A, B] 1 false (.ptr 0 0 0 0) = some (.int .i64 p.tms) := by rw [ld_p _ 1 0 0 0 0 false 10 true _ cs g0 rfl, e1]; rfl
 have t2 : aload [A, B] 1 false (.ptr 0 0 0 1) = some (.int .i64 p.nts) := by rw [ld_p _ 1 0 0 0 1 false 10 true _ cs g0 rfl, e1]; rfl
 have t3 : aload [A, B] 4 true (.ptr 0 0 0 2) = some (.agg [a1, a2, a3, a4]) := by rw [ld_p _ 4 0 0 0 2 true 10 true _ cs g0 rfl, e1]; rfl
 have t4 : aload [A, B] 4 true (.ptr 0 0 0 6) = some (.agg [b1, b2, b3, b4]) := by rw [ld_p _ 4 0 0 0 6 true 10 true _ cs g0 rfl, e1]; rfl
 have u1 : aload [A, B] 1 false (.ptr 1 0 0 0) = some (.int .i64 q.tms) := by rw [ld_p _ 1 1 0 0 0 false 10 true _ ds g1 rfl, e2]; rfl
 have u2 : aload [A, B] 1 false (.ptr 1 0 0 1) = some (.int .i64 q.nts) := by rw [ld_p _ 1 1 0 0 1 false 10 true _ ds g1 rfl, e2]; rfl
 have u3 : aload [A, B] 4 true (.ptr 1 0 0 2) = some (.agg [x1, x2, x3, x4]) := by rw [ld_p _ 4 1 0 0 2 true 10 true _ ds g1 rfl, e2]; rfl
 have u4 : aload [A, B] 4 true (.ptr 1 0 0 6) = some (.agg [y1, y2, y3, y4]) := by rw [ld_p _ 4 1 0 0 6 true 10 true _ ds g1 rfl, e2]; rfl
 rw [R_r32_Same]
 unfold eqP
 by_cases c1 : p.tms = q.tms
 case neg =>
  have d1 : decide (p.tms = q.tms) = false := decide_eq_false c1
  rw [d1, Z7]
  simp only [Zab,Zac,Zai,Zaj,Zak,Zay,Zaz,Zbe,Zbh,Zbi,Zbj,Zbk,Zbl,Zbn,Zbo,Zbq,Zby,Zcs,Zcu,Zcv,Zcw,Zcx,Q4,Q5,Q2,Q3,Z0,Zdl,Zdx,Q0,Q1,if_true,Nat.reduceAdd,Nat.reduceSub,eq_self,true_and,Q0,Q1,Q8,Q9,Q7,Q6,Q0,Q1,Nat.zero_add,Q7,Q6,p1,q1,p3,q3,eq_self,if_true, ← hA, ← hB,t1,u1,d1,resAll,resVals,resVal,Z1,Prod.mk.injEq,true_and,exists_eq']
 case pos =>
 have d1 : decide (p.tms = q.tms) = true := decide_eq_true c1
 by_cases c2 : p.nts = q.nts
 case neg =>
  have d2 : decide (p.nts = q.nts) = false := decide_eq_false c2
  rw [d1, d2, Z6, Z7]
  simp only [Zab,Zac,Zai,Zaj,Zak,Zay,Zaz,Zbb,Zbe,Zbg,Zbh,Zbi,Zbj,Zbk,Zbl,Zbn,Zbo,Zbq,Zby,Zcs,Zcu,Zcv,Zcw,Zcx,Q4,Q5,Q2,Q3,Z0,Zdl,Zdx,Q0,Q1,if_true,Nat.reduceAdd,Nat.reduceSub,eq_self,true_and,Q0,Q1,Q8,Q9,Q7,Q6,Q0,Q1,Nat.zero_add,Q7,Q6,p1,q1,p3,q3,eq_self,if_true, ← hA, ← hB,t1,t2,u1,u2,d1,d2,resAll,resVals,resVal,Z1,Prod.mk.injEq,true_and,exists_eq']
 case pos =>
 have d2 : decide (p.nts = q.nts) = true := decide_eq_true c2
 rw [d1, d2, Z6, Z6]
 generalize eqR p.a q.a = b1 at s1 ⊢
 generalize eqR p.g q.g = b2 at s2 ⊢
 cases b1
 ·rw [Z7]
  simp only [Zab,Zac,Zai,Zaj,Zak,Zay,Zaz,Zbb,Zbe,Zbg,Zbh,Zbi,Zbj,Zbk,Zbl,Zbn,Zbo,Zbq,Zby,Zcp,Zcq,Zcs,Zcu,Zcv,Zcw,Zcx,Zcz,Zda,Q4,Q5,Q2,Q3,Z0,Zdl,Zdx,Q0,Q1,if_true,Nat.reduceAdd,Nat.reduceSub,eq_self,true_and,Q0,Q1,Q8,Q9,Q7,Q6,Q0,Q1,Nat.zero_add,Q7,Q6,p1,q1,p3,q3,eq_self,if_true, ← hA, ← hB,t1,t2,t3,u1,u2,u3,s1,d1,d2,resAll,resVals,resVal,Z1,Prod.mk.injEq,true_and,exists_eq']
 ·rw [Z6]
  simp only [Zab,Zac,Zai,Zaj,Zak,Zay,Zaz,Zbb,Zbg,Zbi,Zbj,Zbk,Zbl,Zbn,Zbo,Zbq,Zby,Zcp,Zcq,Zcs,Zcu,Zcv,Zcw,Zcx,Zcz,Zda,Q4,Q5,Q2,Q3,Z0,Zdl,Zdx,Q0,Q1,if_true,Nat.reduceAdd,Nat.reduceSub,eq_self,true_and,Q0,Q1,Q8,Q9,Q7,Q6,Q0,Q1,Nat.zero_add,Q7,Q6,p1,q1,p3,q3,eq_self,if_true, ← hA, ← hB,t1,t2,t3,t4,u1,u2,u3,u4,s1,s2,d1,d2,resAll,resVals,resVal,Z1,Prod.mk.injEq,true_and,exists_eq']
section
variable {p : PackD} {cs : List AV}
theorem wrap_goto {x : Int} (hx : -9223372036854775808 ≤ x ∧ x ≤ 9223372036854775807) {n : Nat} (hn : n ≤ 4096) (h : 0 ≤ gtoD n (IntKind.i64.wrap (x - 1))) : 0 ≤ x ∧ x ≤ n := by
 obtain ⟨_, h2, h3⟩ := goto_num _ _ h
 by_cases c : -9223372036854775807 ≤ x
 ·have w : IntKind.i64.wrap (x - 1) = x - 1 := w64 (by omega) (by omega)
  rw [w] at h2 h3
  omega
 ·have e : x = -9223372036854775808 := by omega
  subst e
  have w : IntKind.i64.wrap (-9223372036854775808 - 1) = 9223372036854775807 := by decide
  rw [w] at h3
  omega
theorem back_iff (kG : RtOk p.g) : backOk p ↔ (tableOk p ∧ (tabB p).ok ∧ p = packD (tabB p)) := by
 constructor
 ·rintro ⟨fr, h1, h2, h3⟩
  refine ⟨⟨fr, ?_⟩, h2, h3.symm⟩
  obtain ⟨f1, f2, f3, f4, f5, f6, f7⟩ := fr
  unfold okAllR
  rw [Z9]
  intro s hs
  have a1 : okA p s 0 p.tm = true := Z9.1 h1 s hs
  rw [a1, Z6]
  unfold okG
  rw [Z9]
  intro k hk
  obtain ⟨_, _, o3⟩ := TabD.ok_len h2
  have m1 : rowG p s 0 p.nt ∈ (tabB p).gotos := List.mem_map.2 ⟨s, hs, rfl⟩
  have m2 : IntKind.i64.wrap (atD p.g s k - 1) ∈ rowG p s 0 p.nt := List.mem_map.2 ⟨k, hk, rfl⟩
  have nn := nonNeg_mem (Z9.1 o3 _ (List.mem_map.2 ⟨_, m1, rfl⟩)) _ (List.mem_map.2 ⟨_, m2, rfl⟩)
  rw [(tabB_len p).1] at nn
  obtain ⟨g1, g2⟩ := wrap_goto (kG.at s k) f6 nn
  rw [decide_eq_true g1, decide_eq_true g2]; rfl
 ·rintro ⟨⟨fr, h1⟩, h2, h3⟩
  refine ⟨fr, ?_, h2, h3.symm⟩
  unfold okAll
  rw [Z9]
  intro s hs
  have := Z9.1 h1 s hs
  rw [Bool.and_eq_true] at this
  exact this.1
theorem r_Back (hp : PackV p cs) (kA : RtOk p.a) (kG : RtOk p.g) (hn : p.n ≤ 1500) :
  (backOk p → ∃ (av gv : AV), LiG (LiG LiA) (tabB p).acts av ∧ LiR (tabB p).gotos gv ∧ ∀ H, lim G0.cfg (.func 23) [.agg cs] H = some (.tup [.agg [av, gv], .int .i64 0], H)) ∧
  (¬ backOk p → ∀ H, lim G0.cfg (.func 23) [.agg cs] H = some (.tup [.agg [.nilS, .nilS], .int .i64 34], H)) := by
 rw [back_iff kG]
 obtain ⟨k1, k2⟩ := r_table hp kA kG
 have hp' := hp
 obtain ⟨p1, p2, p3⟩ := hp.cells
 have bx := box_full [] p3 p1
 obtain ⟨X, hX⟩ : ∃ X, X = AObj.arr 0 10 true [cs] := ⟨_, rfl⟩
 obtain ⟨Y, hY⟩ : ∃ Y, Y = AObj.arr 0 2 true [[AV.nilS, .nilS]] := ⟨_, rfl⟩
 obtain ⟨B, hB⟩ : ∃ B, B = AObj.arr 0 10 true [zeroP] := ⟨_, rfl⟩
 have f0 : afill [.nilS, .nilS] [] = some (.agg [.nilS, .nilS]) := rfl
 have lX : ∀ l : AHeap, aload (X :: l) 10 true (.ptr 0 0 0 0) = some (.agg cs) := fun l => ld_full (b := true) (by rw [hX]; rfl) p3
 have z1 : ∀ l : AHeap, astore (X :: Y :: l) 2 (.ptr 1 0 0 0) (.agg [.nilS, .nilS]) = some (X :: Y :: l) := fun l => by
  have := st_full (h := X :: Y :: l) (i := 1) (ver := 0) (n := 2) (b := true) (z := [.nilS, .nilS]) (l := [.nilS, .nilS]) (by rw [hY]; rfl) rfl rfl rfl rfl
  rw [← hY] at this
  exact this
 have z2 : ∀ l : AHeap, aload (X :: Y :: l) 2 true (.ptr 1 0 0 0) = some (.agg [.nilS, .nilS]) := fun l => ld_full (b := true) (by rw [hY]; rfl) rfl
 have z3 : astore [X, Y, Y] 2 (.ptr 2 0 0 0) (.agg [.nilS, .nilS]) = some [X, Y, Y] := by
  have := st_full (h := [X, Y, Y]) (i := 2) (ver := 0) (n := 2) (b := true) (z := [.nilS, .nilS]) (l := [.nilS, .nilS]) (by rw [hY]; rfl) rfl rfl rfl rfl
  rw [← hY] at this
  exact this
 have bad : ∀ (h' : AHeap) (N : Nat), runFn (lim G0.cfg) N A_r32_Back [.agg cs] [] = some (.tup [.agg [.nilS, .nilS], .int .i64 34], h') → ∀ H, lim G0.cfg (.func 23) [.agg cs] H = some (.tup [.agg [.nilS, .nilS], .int .i64 34], H) := fun h' N r H =>
  lim_at rfl rfl P_r32_Back N (fun h => fz_1 (hp.fz h 998)) r (rfl : freeze h' 1000 (.tup [.agg [.nilS, .nilS], .int .i64 34]) = some (.tup [.agg [.nilS, .nilS], .int .i64 34], true)) H
 by_cases c1 : tableOk p
 case neg =>
  have e := k2 c1
  refine ⟨fun k => absurd k.1 c1, fun _ => bad [X, Y, Y] 1 ?_⟩
  rw [R_r32_Back]
  simp only [Zab,Zac,Zad,Zai,Zaj,Zak,Zam,Zar,Zay,Zaz,Zba,Zbi,Zbk,Zbm,Zbn,Zbo,Zbp,Zbr,Zcf,Zcm,Zcp,Zcq,Zcs,Zcu,Zcv,Zcw,Zcx,Zcy,Zcz,Zda,Q4,Q5,Q2,Q3,Z0,Zdr,Zem,Z5,Z3,Z4,Q0,Q1,if_true,Nat.reduceAdd,Nat.reduceSub,eq_self,Q0,Q1,Q8,Q9,Q7,Q6,p1,p3,eq_self,if_true,evp, ← hX, ← hY,lX,e,z3,f0,z1,z2,resAll,resVals,resVal]
 case pos =>
 obtain ⟨av, gv, g1, g2, e⟩ := k1 c1
 have tl := (tabB_len p).1
 obtain ⟨q1, q2⟩ := r_Of g1 g2 (fun _ => by omega)
 have cc : cellsOf (.agg [av, gv]) = [av, gv] := by simp [cellsOf]
 have ck : [av, gv].all cellOk = true := by simp only [Y0,List.all_nil,g1.cell.2,g2.cell.2,Bool.and_self]
 obtain ⟨T, hT⟩ : ∃ T, T = AObj.arr 0 2 true [[av, gv]] := ⟨_, rfl⟩
 have y1 : astore [X, Y, Y] 2 (.ptr 2 0 0 0) (.agg [av, gv]) = some [X, Y, T] := by
  have := st_full (h := [X, Y, Y]) (i := 2) (ver := 0) (n := 2) (b := true) (z := [.nilS, .nilS]) (l := [av, gv]) (by rw [hY]; rfl) rfl rfl cc ck
  rw [← hT] at this
  exact this
 have y2 : ∀ l : AHeap, aload (X :: Y :: T :: l) 2 true (.ptr 2 0 0 0) = some (.agg [av, gv]) := fun l => ld_full (b := true) (by rw [hT]; rfl) rfl
 have y3 : ∀ l : AHeap, astore (X :: Y :: T :: l) 2 (.ptr 1 0 0 0) (.agg [av, gv]) = some (X :: T :: T :: l) := fun l => by
  have := st_full (h := X :: Y :: T :: l) (i := 1) (ver := 0) (n := 2) (b := true) (z := [.nilS, .nilS]) (l := [av, gv]) (by rw [hY]; rfl) rfl rfl cc ck
  rw [← hT] at this
  exact this
 have y4 : ∀ l : AHeap, aload (X :: T :: l) 2 true (.ptr 1 0 0 0) = some (.agg [av, gv]) := fun l => ld_full (b := true) (by rw [hT]; rfl) rfl
 have zz : [AV.int .i64 0, .int .i64 0, .nilS, .nilS, .nilS, .nilS, .nilS, .nilS, .nilS, .nilS] = zeroP := rfl
 have zl : zeroP.length = 10 := rfl
 have s6 : ∀ (q : PackD) (qs : List AV) (hq : PackV q qs), astore [X, Y, T, B] 10 (.ptr 3 0 0 0) (.agg qs) = some [X, Y, T, .arr 0 10 true [qs]] := fun q qs hq => by
  obtain ⟨u1, u2, u3⟩ := hq.cells
  exact st_full (h := [X, Y, T, B]) (i := 3) (ver := 0) (n := 10) (b := true) (z := zeroP) (l := qs) (by rw [hB]; rfl) rfl u3 u1 u2
 have d34 : decide ((34 : Int) = 0) = false := rfl
 have d0 : decide ((0 : Int) = 0) = true := rfl
 by_cases c2 : (tabB p).ok
 case neg =>
  have eo := q2 c2
  have s := s6 packZ zeroP packZ_v
  rw [← hB] at s
  refine ⟨fun k => absurd k.2.1 c2, fun _ => bad [X, Y, T, B] 1 ?_⟩
  rw [R_r32_Back]
  simp only [Zaa,Zab,Zac,Zad,Zai,Zaj,Zak,Zam,Zar,Zas,Zay,Zaz,Zba,Zbd,Zbg,Zbi,Zbj,Zbk,Zbl,Zbm,Zbn,Zbo,Zbp,Zbq,Zbr,Zcf,Zcm,Zcp,Zcq,Zcs,Zcu,Zcv,Zcw,Zcx,Zcy,Zcz,Zda,Q4,Q5,Q2,Q3,Z0,Zdm,Zdr,Zem,decide_false,Z2,Z5,Z3,Z4,Q0,Q1,if_true,Nat.reduceAdd,Nat.reduceSub,Int.reduceEq,eq_self,Q0,Q1,Q8,Q9,Q7,Q6,p1,p3,eq_self,if_true,evp, ← hX, ← hY,lX,e,y1,y2,eo,zz,zl, ← hB,s,f0,z1,z2,resAll,resVals,resVal]
 case pos =>
 obtain ⟨qs, hq, eo⟩ := q1 c2
 have s := s6 _ qs hq
 obtain ⟨Q, hQ⟩ : ∃ Q, Q = AObj.arr 0 10 true [qs] := ⟨_, rfl⟩
 rw [← hQ] at s
 have lQ : aload [X, Y, T, Q] 10 true (.ptr 3 0 0 0) = some (.agg qs) := ld_full (b := true) (by rw [hQ]; rfl) hq.cells.2.2
 have sm := r_SameG hp' hq kA kG
 by_cases c3 : p = packD (tabB p)
 case neg =>
  have dm : eqP p (packD (tabB p)) = false := by
   cases x : eqP p (packD (tabB p)) with
   | false => rfl
   | true => exact absurd ((eqP_iff _ _).1 x) c3
  rw [dm] at sm
  refine ⟨fun k => absurd k.2.2 c3, fun _ => bad [X, Y, T, Q] 1 ?_⟩
  rw [R_r32_Back]
  simp only [Zaa,Zab,Zac,Zad,Zai,Zaj,Zak,Zam,Zar,Zas,Zay,Zaz,Zba,Zbc,Zbh,Zbi,Zbj,Zbk,Zbl,Zbm,Zbn,Zbo,Zbp,Zbq,Zbr,Zcf,Zcm,Zcp,Zcq,Zcs,Zcu,Zcv,Zcw,Zcx,Zcy,Zcz,Zda,Q4,Q5,Q2,Q3,Z0,Zdm,Zdr,Zem,decide_true,Z2,Z5,Z3,Z4,Q0,Q1,if_true,Nat.reduceAdd,Nat.reduceSub,eq_self,Q0,Q1,Q8,Q9,Q7,Q6,p1,p3,eq_self,if_true,evp, ← hX, ← hY,lX,e,y1,y2,eo,zz,zl, ← hB,s,lQ,sm,f0,z1,z2,resAll,resVals,resVal]
 case pos =>
 have dm : eqP p (packD (tabB p)) = true := (eqP_iff _ _).2 c3
 rw [dm] at sm
 have fz2 := fun h => fz_tup2 (h := h) (k := 999) (fz_agg2 (k := 998) (g1.fz h 997) (g2.fz h 997)) (rfl : freeze h 999 (.int .i64 0) = some (.int .i64 0, true))
 refine ⟨fun _ => ⟨av, gv, g1, g2, fun H => lim_at rfl rfl P_r32_Back 1 (fun h => fz_1 (hp.fz h 998)) (h' := [X, T, T, Q]) ?_ (fz2 _) H⟩, fun k => absurd ⟨c1, c2, c3⟩ k⟩
 rw [R_r32_Back]
 simp only [Zaa,Zab,Zac,Zad,Zai,Zaj,Zak,Zas,Zay,Zaz,Zba,Zbc,Zbh,Zbi,Zbj,Zbk,Zbl,Zbm,Zbn,Zbo,Zbp,Zbq,Zbr,Zcf,Zcp,Zcq,Zcs,Zcu,Zcv,Zcw,Zcx,Zcy,Zcz,Zda,Q4,Q5,Q2,Q3,Z0,Zdm,Zdr,Zem,decide_true,Z2,Z3,Z4,Q0,Q1,if_true,Nat.reduceAdd,Nat.reduceSub,eq_self,Q0,Q1,Q8,Q9,Q7,Q6,p1,p3,eq_self,if_true,← hX, ← hY,lX,e,y1,y2,eo,zz,zl, ← hB,s,lQ,sm,y3,y4,resAll,resVals,resVal]
end
end Go.Proofs.Ytkgndbhflehhhaa.Ai
namespace Go.Proofs.Ytkgndbhflehhhaa.Ai
open Go Go.Proofs
open AV renaming junk → J
open List renaming length_cons → Q0, length_nil → Q1, getD_cons_zero → Q2, getD_cons_succ → Q3, set_cons_zero → Q4, set_cons_succ → Q5, nil_append → Q6, cons_append → Q7, replicate_succ → Q8, replicate_zero → Q9, getElem?_cons_zero → Z3, getElem?_cons_succ → Z4, range'_succ → Z8, all_eq_true → Z9, all_cons → Y0, append_assoc → Y2, append_nil → Y3
open Option renaming map_some → Z0
open Option.some renaming injEq → Z1
open Bool renaming not_true → Z2, not_false → Z5, true_and → Z6, false_and → Z7, decide_and → Y1
set_option linter.unusedVariables false
set_option linter.unusedSimpArgs false
set_option maxRecDepth 10000
set_option maxHeartbeats 4000000
section
variable {p : PackD} {cs : List AV}
theorem few_b {c : RowT} {b : Bool} (h : b = (decide ((c.row.length : Int) ≤ 60) && (decide ((c.base.length : Int) ≤ 60) && (decide ((c.val.length : Int) ≤ 1500) && decide ((c.own.length : Int) ≤ 1500))))) (hb : b = true) : c.row.length ≤ 60 ∧ c.base.length ≤ 60 ∧ c.val.length ≤ 1500 ∧ c.own.length ≤ 1500 := by
 rw [hb] at h
 have h := h.symm
 simp only [Bool.and_eq_true,decide_eq_true_eq] at h
 omega
theorem f_PackRights (hp : PackV p cs) (ba : ∀ x ∈ p.a.base, -9223372036854775808 ≤ x ∧ x ≤ 9223372036854775807) (va : ∀ x ∈ p.a.val, -9223372036854775808 ≤ x ∧ x ≤ 9223372036854775807) (bg : ∀ x ∈ p.g.base, -9223372036854775808 ≤ x ∧ x ≤ 9223372036854775807) (vg : ∀ x ∈ p.g.val, -9223372036854775808 ≤ x ∧ x ≤ 9223372036854775807) (H : AHeap) :
  lim G0.cfg (.func 6) [.agg cs] H = some (.bool true, H) := by
 refine lim_flat rfl rfl P_l32_PackRights 1 (fun h => fz_1 (hp.fz h 998)) ?_ (fun _ => rfl) H
 have hk := knows
 have hp' := hp
 obtain ⟨p1, p2, p3⟩ := hp.cells
 have bx := box_full [] p3 p1
 obtain ⟨ca, cg, hcs, hA, hG⟩ := hp
 obtain ⟨X, hX⟩ : ∃ X, X = AObj.arr 0 10 true [cs] := ⟨_, rfl⟩
 obtain ⟨Y, hY⟩ : ∃ Y, Y = AObj.arr 0 2 true [[AV.nilS, .nilS]] := ⟨_, rfl⟩
 have e0 : ∀ l : AHeap, (X :: l)[0]? = some (.arr 0 10 true [[.int .i64 p.tms, .int .i64 p.nts] ++ ca ++ cg]) := fun l => by rw [hX, hcs]; rfl
 obtain ⟨b1, b2, b3, b4⟩ := back_box hA hG [X] (e0 [])
 have lX : ∀ l : AHeap, aload (X :: l) 10 true (.ptr 0 0 0 0) = some (.agg cs) := fun l => ld_full (b := true) (by rw [hX]; rfl) p3
 have fA := f_fewComb hA
 have fG := f_fewComb hG
 obtain ⟨qa, hqa⟩ : ∃ qa : Bool, qa = (decide ((p.a.row.length : Int) ≤ 60) && (decide ((p.a.base.length : Int) ≤ 60) && (decide ((p.a.val.length : Int) ≤ 1500) && decide ((p.a.own.length : Int) ≤ 1500)))) := ⟨_, rfl⟩
 obtain ⟨qg, hqg⟩ : ∃ qg : Bool, qg = (decide ((p.g.row.length : Int) ≤ 60) && (decide ((p.g.base.length : Int) ≤ 60) && (decide ((p.g.val.length : Int) ≤ 1500) && decide ((p.g.own.length : Int) ≤ 1500)))) := ⟨_, rfl⟩
 rw [← hqa] at fA
 rw [← hqg] at fG
 rw [R_l32_PackRights]
 cases qa
 case false => simp only [Zab,Zac,Zad,Zai,Zaj,Zak,Zam,Zar,Zay,Zaz,Zbd,Zbf,Zbg,Zbi,Zbj,Zbk,Zbl,Zbn,Zbo,Zbr,Zby,Zcp,Zcq,Zcs,Zcu,Zcv,Zcw,Zcx,Zcz,Zda,Q4,Q5,Q2,Q3,Z0,Zdr,Zdx,Z5,Q0,Q1,if_true,Nat.reduceAdd,Nat.reduceSub,eq_self,true_and,Q0,Q1,Q8,Q9,Q7,Q6,p1,p3,eq_self,if_true, ← hX,b1,fA,hk,resAll,resVals,resVal,Z1,Prod.mk.injEq,true_and,exists_eq']
 case true =>
 cases qg
 case false => simp only [Zab,Zac,Zad,Zai,Zaj,Zak,Zam,Zar,Zay,Zaz,Zbc,Zbd,Zbf,Zbg,Zbh,Zbi,Zbj,Zbk,Zbl,Zbn,Zbo,Zbr,Zby,Zcp,Zcq,Zcs,Zcu,Zcv,Zcw,Zcx,Zcz,Zda,Q4,Q5,Q2,Q3,Z0,Zdr,Zdx,Z2,Z5,Q0,Q1,if_true,Nat.reduceAdd,Nat.reduceSub,eq_self,true_and,Q0,Q1,Q8,Q9,Q7,Q6,p1,p3,eq_self,if_true, ← hX,b1,b2,fA,fG,hk,resAll,resVals,resVal,Z1,Prod.mk.injEq,true_and,exists_eq']
 case true =>
 obtain ⟨x1, x2, x3, x4⟩ := few_b hqa rfl
 obtain ⟨y1, y2, y3, y4⟩ := few_b hqg rfl
 have kA : RtOk p.a := ⟨by omega, by omega, by omega, by omega, ba, va⟩
 have kG : RtOk p.g := ⟨by omega, by omega, by omega, by omega, bg, vg⟩
 have hn : p.n ≤ 1500 := by unfold PackD.n; omega
 obtain ⟨k1, k2⟩ := f_Back hp' kA kG hn
 obtain ⟨r1, r2⟩ := r_Back hp' kA kG hn
 obtain ⟨w1, w2⟩ := f_Right hp' kA kG hn
 have d0 : decide ((0 : Int) = 0) = true := rfl
 have d1 : decide ((34 : Int) = 34) = true := rfl
 have d2 : decide ((34 : Int) = 0) = false := rfl
 have e1 : abin .eql .bool (.bool true) (.bool true) = some (.bool true) := rfl
 have e2 : abin .eql .bool (.bool false) (.bool false) = some (.bool true) := rfl
 -- what is stored and read again
 have key : ∀ (a g a' g' : AV), cellsOf (.agg [a, g]) = [a, g] → [a, g].all cellOk = true → cellsOf (.agg [a', g']) = [a', g'] → [a', g'].all cellOk = true →
   astore [X, Y] 2 (.ptr 1 0 0 0) (.agg [a, g]) = some [X, .arr 0 2 true [[a, g]]] ∧ astore [X, .arr 0 2 true [[a, g]], Y] 2 (.ptr 2 0 0 0) (.agg [a', g']) = some [X, .arr 0 2 true [[a, g]], .arr 0 2 true [[a', g']]] ∧
   aload [X, .arr 0 2 true [[a, g]], .arr 0 2 true [[a', g']]] 2 true (.ptr 1 0 0 0) = some (.agg [a, g]) ∧ aload [X, .arr 0 2 true [[a, g]], .arr 0 2 true [[a', g']]] 2 true (.ptr 2 0 0 0) = some (.agg [a', g']) := by
  intro a g a' g' h1 h2 h3 h4
  refine ⟨?_, ?_, ld_full (b := true) rfl rfl, ld_full (b := true) rfl rfl⟩
  ·exact st_full (h := [X, Y]) (i := 1) (ver := 0) (n := 2) (b := true) (z := [.nilS, .nilS]) (l := [a, g]) (by rw [hY]; rfl) rfl rfl h1 h2
  ·exact st_full (h := [X, .arr 0 2 true [[a, g]], Y]) (i := 2) (ver := 0) (n := 2) (b := true) (z := [.nilS, .nilS]) (l := [a', g']) (by rw [hY]; rfl) rfl rfl h3 h4
 have guard : ∀ (c1 c2 : Prop), True := fun _ _ => trivial
 by_cases bk : backOk p
 case pos =>
  obtain ⟨av, gv, g1, g2, e⟩ := k1 bk
  obtain ⟨av', gv', g1', g2', e'⟩ := r1 bk
  have rt := w1 bk
  obtain ⟨f1, f2, f3, f4, f5, f6, f7⟩ := bk.1
  have ok := bk.2.2.1
  have tl := tabB_len p
  obtain ⟨ol, _, _⟩ := TabD.ok_len ok
  obtain ⟨l1, l2⟩ := allOk_len 0 (tabB p).tm (tabB p).nt (tabB p).acts (tabB p).gotos ok.1.2.2.1.symm ol
  obtain ⟨z1, z2, z3, z4, z5, z6, z7⟩ := ok.1
  have sm := r_SameTable g1 g2 g1' g2' (by omega) (by omega) (fun r hr => by rw [l1 r hr]; omega) (fun r hr c hc => by have := ok_short ok r hr c hc; omega) (fun r hr => by rw [l2 r hr]; omega)
  obtain ⟨s1, s2, s3, s4⟩ := key av gv av' gv' (by simp [cellsOf]) (by simp only [Y0,List.all_nil,g1.cell.2,g2.cell.2,Bool.and_self]) (by simp [cellsOf]) (by simp only [Y0,List.all_nil,g1'.cell.2,g2'.cell.2,Bool.and_self])
  have c3 : p.tms ≤ 256 := f2
  have c4 : p.nts ≤ 512 := f4
  by_cases c1 : 40 < p.tms
  ·simp only [Zab,Zac,Zad,Zai,Zaj,Zak,Zam,Zar,Zay,Zaz,Zbb,Zbc,Zbd,Zbf,Zbg,Zbh,Zbi,Zbj,Zbk,Zbl,Zbn,Zbo,Zbq,Zbr,Zby,Zcp,Zcq,Zcs,Zcu,Zcv,Zcw,Zcx,Zcz,Zda,Q4,Q5,Q2,Q3,Z0,Zdi,Zdj,Zdr,Zdx,decide_true,Z2,Q0,Q1,if_true,Nat.reduceAdd,Nat.reduceSub,eq_self,true_and,Q0,Q1,Q8,Q9,Q7,Q6,p1,p3,eq_self,if_true, ← hX,b1,b2,b3,fA,fG,c1,c3,hk,resAll,resVals,resVal,Z1,Prod.mk.injEq,true_and,exists_eq']
  ·by_cases c2 : 40 < p.nts
   ·simp only [Zab,Zac,Zad,Zai,Zaj,Zak,Zam,Zar,Zay,Zaz,Zbb,Zbc,Zbe,Zbg,Zbh,Zbi,Zbj,Zbk,Zbl,Zbn,Zbo,Zbq,Zbr,Zby,Zcp,Zcq,Zcs,Zcu,Zcv,Zcw,Zcx,Zcz,Zda,Q4,Q5,Q2,Q3,Z0,Zdi,Zdj,Zdr,Zdx,decide_true,decide_false,Z2,Q0,Q1,if_true,Nat.reduceAdd,Nat.reduceSub,eq_self,true_and,Q0,Q1,Q8,Q9,Q7,Q6,p1,p3,eq_self,if_true, ← hX,b1,b2,b3,b4,fA,fG,c1,c2,c4,hk,resAll,resVals,resVal,Z1,Prod.mk.injEq,true_and,exists_eq']
   ·simp only [Zaa,Zab,Zac,Zad,Zai,Zaj,Zak,Zas,Zay,Zaz,Zba,Zbb,Zbc,Zbe,Zbg,Zbh,Zbi,Zbj,Zbk,Zbl,Zbm,Zbn,Zbo,Zbp,Zbq,Zbr,Zby,Zcf,Zcp,Zcq,Zcs,Zcu,Zcv,Zcw,Zcx,Zcy,Zcz,Zda,Q4,Q5,Q2,Q3,Z0,Zdj,Zdl,Zdr,Zdx,Zem,decide_true,decide_false,Z2,Z3,Z4,Q0,Q1,if_true,Nat.reduceAdd,Nat.reduceSub,eq_self,true_and,Q0,Q1,Q8,Q9,Q7,Q6,p1,p3,eq_self,if_true, ← hX, ← hY,b1,b2,b3,b4,fA,fG,c1,c2,lX,e,e',s1,s2,s3,s4,sm,rt,e1,hk,resAll,resVals,resVal,Z1,Prod.mk.injEq,true_and,exists_eq']
 case neg =>
  have e := k2 bk
  have e' := r2 bk
  have rt := w2 bk
  have nl : LiG (LiG LiA) ([] : List (List (List (Int × Int)))) .nilS := .inl ⟨rfl, rfl⟩
  have nr : LiR [] .nilS := .inl ⟨rfl, rfl⟩
  have sm := r_SameTable (t := ⟨[], []⟩) nl nr nl nr (by decide) (by decide) (fun r hr => by simp at hr) (fun r hr => by simp at hr) (fun r hr => by simp at hr)
  obtain ⟨s1, s2, s3, s4⟩ := key .nilS .nilS .nilS .nilS rfl rfl rfl rfl
  rw [← hY] at s1 s2 s3 s4
  by_cases c1 : 40 < p.tms
  ·by_cases c3 : p.tms ≤ 256
   ·simp only [Zab,Zac,Zad,Zai,Zaj,Zak,Zam,Zar,Zay,Zaz,Zbb,Zbc,Zbd,Zbf,Zbg,Zbh,Zbi,Zbj,Zbk,Zbl,Zbn,Zbo,Zbq,Zbr,Zby,Zcp,Zcq,Zcs,Zcu,Zcv,Zcw,Zcx,Zcz,Zda,Q4,Q5,Q2,Q3,Z0,Zdi,Zdj,Zdr,Zdx,decide_true,Z2,Q0,Q1,if_true,Nat.reduceAdd,Nat.reduceSub,eq_self,true_and,Q0,Q1,Q8,Q9,Q7,Q6,p1,p3,eq_self,if_true, ← hX,b1,b2,b3,fA,fG,c1,c3,hk,resAll,resVals,resVal,Z1,Prod.mk.injEq,true_and,exists_eq']
   ·by_cases c2 : 40 < p.nts
    ·by_cases c4 : p.nts ≤ 512
     ·simp only [Zab,Zac,Zad,Zai,Zaj,Zak,Zam,Zar,Zay,Zaz,Zbb,Zbc,Zbg,Zbh,Zbi,Zbj,Zbk,Zbl,Zbn,Zbo,Zbq,Zbr,Zby,Zcp,Zcq,Zcs,Zcu,Zcv,Zcw,Zcx,Zcz,Zda,Q4,Q5,Q2,Q3,Z0,Zdi,Zdj,Zdr,Zdx,decide_true,decide_false,Z2,Q0,Q1,if_true,Nat.reduceAdd,Nat.reduceSub,eq_self,true_and,Q0,Q1,Q8,Q9,Q7,Q6,p1,p3,eq_self,if_true, ← hX,b1,b2,b3,b4,fA,fG,c1,c3,c2,c4,hk,resAll,resVals,resVal,Z1,Prod.mk.injEq,true_and,exists_eq']
     ·simp only [Zaa,Zab,Zac,Zad,Zai,Zaj,Zak,Zas,Zay,Zaz,Zba,Zbb,Zbc,Zbg,Zbh,Zbi,Zbj,Zbk,Zbl,Zbm,Zbn,Zbo,Zbp,Zbq,Zbr,Zby,Zcf,Zcp,Zcq,Zcs,Zcu,Zcv,Zcw,Zcx,Zcy,Zcz,Zda,Q4,Q5,Q2,Q3,Z0,Zdi,Zdj,Zdl,Zdr,Zdx,Zem,decide_true,decide_false,Z2,Z3,Z4,Q0,Q1,if_true,Nat.reduceAdd,Nat.reduceSub,Int.reduceEq,eq_self,true_and,Q0,Q1,Q8,Q9,Q7,Q6,p1,p3,eq_self,if_true, ← hX, ← hY,b1,b2,b3,b4,fA,fG,c1,c3,c2,c4,lX,e,e',s1,s2,s3,s4,sm,rt,e2,hk,resAll,resVals,resVal,Z1,Prod.mk.injEq,true_and,exists_eq']
    ·simp only [Zaa,Zab,Zac,Zad,Zai,Zaj,Zak,Zas,Zay,Zaz,Zba,Zbb,Zbc,Zbe,Zbg,Zbh,Zbi,Zbj,Zbk,Zbl,Zbm,Zbn,Zbo,Zbp,Zbq,Zbr,Zby,Zcf,Zcp,Zcq,Zcs,Zcu,Zcv,Zcw,Zcx,Zcy,Zcz,Zda,Q4,Q5,Q2,Q3,Z0,Zdi,Zdj,Zdl,Zdr,Zdx,Zem,decide_true,decide_false,Z2,Z3,Z4,Q0,Q1,if_true,Nat.reduceAdd,Nat.reduceSub,Int.reduceEq,eq_self,true_and,Q0,Q1,Q8,Q9,Q7,Q6,p1,p3,eq_self,if_true, ← hX, ← hY,b1,b2,b3,b4,fA,fG,c1,c3,c2,lX,e,e',s1,s2,s3,s4,sm,rt,e2,hk,resAll,resVals,resVal,Z1,Prod.mk.injEq,true_and,exists_eq']
  ·by_cases c2 : 40 < p.nts
   ·by_cases c4 : p.nts ≤ 512
    ·simp only [Zab,Zac,Zad,Zai,Zaj,Zak,Zam,Zar,Zay,Zaz,Zbb,Zbc,Zbe,Zbg,Zbh,Zbi,Zbj,Zbk,Zbl,Zbn,Zbo,Zbq,Zbr,Zby,Zcp,Zcq,Zcs,Zcu,Zcv,Zcw,Zcx,Zcz,Zda,Q4,Q5,Q2,Q3,Z0,Zdi,Zdj,Zdr,Zdx,decide_true,decide_false,Z2,Q0,Q1,if_true,Nat.reduceAdd,Nat.reduceSub,eq_self,true_and,Q0,Q1,Q8,Q9,Q7,Q6,p1,p3,eq_self,if_true, ← hX,b1,b2,b3,b4,fA,fG,c1,c2,c4,hk,resAll,resVals,resVal,Z1,Prod.mk.injEq,true_and,exists_eq']
    ·simp only [Zaa,Zab,Zac,Zad,Zai,Zaj,Zak,Zas,Zay,Zaz,Zba,Zbb,Zbc,Zbe,Zbg,Zbh,Zbi,Zbj,Zbk,Zbl,Zbm,Zbn,Zbo,Zbp,Zbq,Zbr,Zby,Zcf,Zcp,Zcq,Zcs,Zcu,Zcv,Zcw,Zcx,Zcy,Zcz,Zda,Q4,Q5,Q2,Q3,Z0,Zdi,Zdj,Zdl,Zdr,Zdx,Zem,decide_true,decide_false,Z2,Z3,Z4,Q0,Q1,if_true,Nat.reduceAdd,Nat.reduceSub,Int.reduceEq,eq_self,true_and,Q0,Q1,Q8,Q9,Q7,Q6,p1,p3,eq_self,if_true, ← hX, ← hY,b1,b2,b3,b4,fA,fG,c1,c2,c4,lX,e,e',s1,s2,s3,s4,sm,rt,e2,hk,resAll,resVals,resVal,Z1,Prod.mk.injEq,true_and,exists_eq']
   ·simp only [Zaa,Zab,Zac,Zad,Zai,Zaj,Zak,Zas,Zay,Zaz,Zba,Zbb,Zbc,Zbe,Zbg,Zbh,Zbi,Zbj,Zbk,Zbl,Zbm,Zbn,Zbo,Zbp,Zbq,Zbr,Zby,Zcf,Zcp,Zcq,Zcs,Zcu,Zcv,Zcw,Zcx,Zcy,Zcz,Zda,Q4,Q5,Q2,Q3,Z0,Zdj,Zdl,Zdr,Zdx,Zem,decide_true,decide_false,Z2,Z3,Z4,Q0,Q1,if_true,Nat.reduceAdd,Nat.reduceSub,Int.reduceEq,eq_self,true_and,Q0,Q1,Q8,Q9,Q7,Q6,p1,p3,eq_self,if_true, ← hX, ← hY,b1,b2,b3,b4,fA,fG,c1,c2,lX,e,e',s1,s2,s3,s4,sm,rt,e2,hk,resAll,resVals,resVal,Z1,Prod.mk.injEq,true_and,exists_eq']
end
end Go.Proofs.Ytkgndbhflehhhaa.Ai
