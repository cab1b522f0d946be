/- Memories that no exchange of later places touches; drawn orders that differ by such an exchange. -/
import Derived.Test.YtkgndbhflehhhaamPqz
import Derived.Test.YtkgndbhflehhhaamPqv
namespace Go.Proofs.Ytkgndbhflehhhaa.Ai
open Go Go.Proofs
open AV renaming junk → J
open List renaming length_cons → Q0, length_nil → Q1, getD_cons_zero → Q2, getD_cons_succ → Q3, set_cons_zero → Q4, set_cons_succ → Q5, nil_append → Q6, map_cons → Q7, cons_append → Q8, replicate_succ → Q9, replicate_zero → Z0, length_set → Z3, map_nil → Z5, append_assoc → Z6, set_append_left → Z7, range'_succ → Z9, append_nil → Y0, map_append → Y1, length_append → Y2, range' → Y3
open Option.some renaming injEq → Z1
open Option renaming map_some → Z2
open Nat renaming ble_eq_true_of_le → Z4, le_refl → Z8
set_option linter.unusedVariables false
set_option linter.unusedSimpArgs false
set_option maxRecDepth 10000
set_option maxHeartbeats 4000000
theorem tr2_lt {i j k m : Nat} (hi : m ≤ i) (hj : m ≤ j) (hk : k < m) : tr2 i j k = k := by
 unfold tr2
 rw [if_neg (by omega), if_neg (by omega)]
def RenV (m : Nat) (x : AV) : Prop := ∀ i j, m ≤ i → m ≤ j → renV i j x = x
def RenC (m : Nat) (cs : List (List AV)) : Prop := ∀ i j, m ≤ i → m ≤ j → cs.map (renVs i j) = cs
def RenO (m : Nat) (o : AObj) : Prop := ∀ i j, m ≤ i → m ≤ j → renO i j o = o
def Ren (m : Nat) (h : AHeap) : Prop := ∀ i j, m ≤ i → m ≤ j → h.map (renO i j) = h
theorem RenV.mono {m m' : Nat} {x : AV} (h : RenV m x) (hm : m ≤ m') : RenV m' x := fun i j hi hj => h i j (by omega) (by omega)
theorem RenC.mono {m m' : Nat} {x : List (List AV)} (h : RenC m x) (hm : m ≤ m') : RenC m' x := fun i j hi hj => h i j (by omega) (by omega)
theorem RenO.mono {m m' : Nat} {x : AObj} (h : RenO m x) (hm : m ≤ m') : RenO m' x := fun i j hi hj => h i j (by omega) (by omega)
theorem Ren.mono {m m' : Nat} {x : AHeap} (h : Ren m x) (hm : m ≤ m') : Ren m' x := fun i j hi hj => h i j (by omega) (by omega)
theorem renO_arr {m v sz : Nat} {x : Bool} {cs : List (List AV)} : RenO m (.arr v sz x cs) ↔ RenC m cs := by
 constructor
 ·intro h i j hi hj
  have := h i j hi hj
  simp only [renO,AObj.arr.injEq,true_and] at this
  exact this
 ·intro h i j hi hj
  simp only [renO,h i j hi hj]
theorem RenC.append {m : Nat} {a b : List (List AV)} (ha : RenC m a) (hb : RenC m b) : RenC m (a ++ b) := fun i j hi hj => by rw [Y1, ha i j hi hj, hb i j hi hj]
theorem renVs_cons {m : Nat} {x : AV} (hx : RenV m x) : RenC m [[x]] := fun i j hi hj => by simp [renVs, hx i j hi hj]
theorem Ren.push {m : Nat} {h : AHeap} (hr : Ren m h) {o : AObj} (ho : RenO m o) : Ren m (h ++ [o]) := fun i j hi hj => by rw [Y1, hr i j hi hj, Q7, Z5, ho i j hi hj]
theorem Ren.set {m : Nat} {h : AHeap} (hr : Ren m h) {o : AObj} (ho : RenO m o) (k : Nat) : Ren m (h.set k o) := fun i j hi hj => by rw [List.map_set, hr i j hi hj, ho i j hi hj]
theorem Ren.get {m k : Nat} {h : AHeap} (hr : Ren m h) {o : AObj} (e : h[k]? = some o) : RenO m o := fun i j hi hj => by
 have := congrArg (fun l : AHeap => l[k]?) (hr i j hi hj)
 simp only [List.getElem?_map,e,Z2,Z1] at this
 exact this
theorem renV_hsl {m k v o n : Nat} {c : Option Nat} (hk : k < m) : RenV m (.hsl k v o n c) := fun i j hi hj => by simp [renV, tr2_lt hi hj hk]
theorem renV_ptr {m k v o n : Nat} (hk : k < m) : RenV m (.ptr k v o n) := fun i j hi hj => by simp [renV, tr2_lt hi hj hk]
theorem renV_int (m : Nat) (k : IntKind) (n : Int) : RenV m (.int k n) := fun i j hi hj => by simp [renV]
theorem renV_nil (m : Nat) : RenV m .nilS := fun i j hi hj => by simp [renV]
theorem renV_vsl (m : Nat) (e : Bool) (l : List (List AV)) : RenV m (.vsl e l) := fun i j hi hj => by simp [renV]
theorem OwnG.pushX {sz : Nat} {rows : List (List AV)} {c : List AV} {v w : AV} {h : AHeap} {q : Option Nat} (hel : elemsOf h sz w = some [c]) (ho : OwnG sz rows v h q) (hsz : c.length = sz) (hc : c.all cellOk = true) (hall : rows.all (fun c => c.length == sz && c.all cellOk) = true) (bytes : Nat) (hb : bytes ≤ 1000) (hl : rows.length ≤ 1000000) :
  ∃ i ver h', aapp h sz bytes v w = some (.hsl i ver 0 (rows.length + 1) none, h') ∧ OwnG sz (rows ++ [c]) (.hsl i ver 0 (rows.length + 1) none) h' (some i) ∧
   ((rows = [] ∧ q = none ∧ i = h.length ∧ ver = 0 ∧ h' = h ++ [.arr 0 sz false [c]]) ∨ (∃ v0, q = some i ∧ ver = v0 + 1 ∧ v = .hsl i v0 0 rows.length none ∧ h[i]? = some (.arr v0 sz false rows) ∧ h' = h.set i (.arr (v0 + 1) sz false (rows ++ [c])))) := by
 have hc1 : (c.length == sz && c.all cellOk) = true := by rw [hc, hsz]; simp
 unfold aapp
 rw [hel]
 simp only [Option.elim_some,aappend,Q0,Q1]
 rcases ho with ⟨rfl, rfl, rfl⟩ | ⟨h1, i, ver, rfl, rfl, h3⟩
 ·have hcd : [c].length * (bytes + 1) ≤ 68719476736 ∧ [c].all (fun c => c.length == sz && c.all cellOk) = true := ⟨by simp; omega, by simp only [List.all_cons,List.all_nil,hc1]; rfl⟩
  refine ⟨h.length, 0, h ++ [.arr 0 sz false [c]], by simp only [aappendN,freshArr]; rw [if_pos hcd]; rfl, .inr ⟨by simp, h.length, 0, rfl, by simp, by simp⟩, .inl ⟨rfl, rfl, rfl, rfl, rfl⟩⟩
 ·have hne : ¬ (0 + rows.length + [c].length ≤ rows.length ∧ inRoom (rows.length + [c].length) none = true) := by
   simp only [Q0,Q1]; omega
  have hc2 : True ∧ 0 + rows.length ≤ rows.length := ⟨trivial, by omega⟩
  have htk : (List.drop 0 rows).take rows.length = rows := by rw [List.drop_zero]; exact List.take_of_length_le (Z8 _)
  have hall2 : (rows ++ [c]).all (fun c => c.length == sz && c.all cellOk) = true := by rw [List.all_append, hall]; simp only [List.all_cons,List.all_nil,hc1]; rfl
  have hlen : (rows ++ [c]).length = rows.length + 1 := by simp
  have hcd : (rows ++ [c]).length * (bytes + 1) ≤ 68719476736 ∧ (rows ++ [c]).all (fun c => c.length == sz && c.all cellOk) = true := by
   refine ⟨?_, hall2⟩
   rw [hlen]
   have : (rows.length + 1) * (bytes + 1) ≤ 1000001 * 1001 := Nat.mul_le_mul (by omega) (by omega)
   omega
  refine ⟨i, ver + 1, h.set i (.arr (ver + 1) sz false (rows ++ [c])), ?_, .inr ⟨by simp, i, ver + 1, rfl, by simp, get_set_eq h3⟩, .inr ⟨ver, rfl, rfl, rfl, h3, rfl⟩⟩
  simp only [aappendN,getArr,h3,if_true]
  rw [if_pos hc2, if_neg hne]
  simp only [htk]
  rw [if_pos hcd, hlen]
  rfl
theorem OwnG.pushL {rows : List (List AV)} {v w : AV} {h : AHeap} {q : Option Nat} (ho : OwnG 1 rows v h q) (hp : pure1 w = true) (hw : cellsOf w = [w] ∧ cellOk w = true) (hR : ∀ m, RenV m w) (hall : rows.all (fun c => c.length == 1 && c.all cellOk) = true) (bytes : Nat) (hb : bytes ≤ 1000) (hl : rows.length ≤ 1000000) (z : AV) (hr : Ren h.length h) :
  ∃ i ver h', (∀ h, abs0 h false 1 1 [z] [(0, w)] = some (.vsl true [[w]], h)) ∧ aapp h 1 bytes v (.vsl true [[w]]) = some (.hsl i ver 0 (rows.length + 1) none, h') ∧ OwnG 1 (rows ++ [[w]]) (.hsl i ver 0 (rows.length + 1) none) h' (some i) ∧ (∀ j o, h[j]? = some o → q ≠ some j → h'[j]? = some o) ∧ (q = some i ∨ (q = none ∧ i = h.length)) ∧ h.length ≤ h'.length ∧ Ren h'.length h' := by
 have hc : ([w] : List AV).all cellOk = true := by simp [hw.2]
 have e2 : elemsOf h 1 (.vsl true [[w]]) = some [[w]] := by simp [elemsOf]
 obtain ⟨i, ver, h', r1, r2, r3⟩ := OwnG.pushX (c := [w]) e2 ho rfl hc hall bytes hb hl
 refine ⟨i, ver, h', fun h => lit1' h z w hp hw.1, r1, r2, ?_⟩
 rcases r3 with ⟨g1, g2, g3, g4, g5⟩ | ⟨v0, g1, g2, g3, g4, g5⟩
 ·subst g5
  refine ⟨fun j o e _ => get_app e _, .inr ⟨g2, g3⟩, by simp, ?_⟩
  rw [Y2]
  exact (hr.push (renO_arr.2 (renVs_cons (hR _)))).mono (by omega)
 ·subst g5
  refine ⟨fun j o e hn => get_set_ne e (fun he => hn (by rw [g1, he])), .inl g1, by simp, ?_⟩
  rw [Z3]
  exact hr.set (renO_arr.2 ((renO_arr.1 (hr.get g4)).append (renVs_cons (hR _)))) i
theorem sameI_of {m : Nat} {a b : St} {ps : List (Nat × Nat)} (h1 : fixP m a.h.length a.t b.t [] = ps) (h2 : swapA m ps a = some b) : sameI m (some a) (some b) = true := by
 have : sameO (some b) (some b) = true := by rw [sameO_dec]; simp
 simp only [sameI,h1,h2,this,Bool.or_true]
end Go.Proofs.Ytkgndbhflehhhaa.Ai
namespace Go.Proofs.Ytkgndbhflehhhaa.Ai
open Go Go.Proofs
open AV renaming junk → J
open List renaming length_cons → Q0, length_nil → Q1, getD_cons_zero → Q2, getD_cons_succ → Q3, set_cons_zero → Q4, set_cons_succ → Q5, nil_append → Q6, map_cons → Q7, cons_append → Q8, replicate_succ → Q9, replicate_zero → Z0, length_set → Z3, map_nil → Z5, append_assoc → Z6, set_append_left → Z7, range'_succ → Z9, append_nil → Y0, map_append → Y1, length_append → Y2, range' → Y3
open Option.some renaming injEq → Z1
open Option renaming map_some → Z2
open Nat renaming ble_eq_true_of_le → Z4, le_refl → Z8
set_option linter.unusedVariables false
set_option linter.unusedSimpArgs false
set_option maxRecDepth 10000
set_option maxHeartbeats 4000000
def actD (n : Int) : Option (List (Int × Int)) := if n = 0 then some [] else if n = 3 then some [(3, 0)] else if 0 < n ∧ n % 4 = 1 then some [(1, n / 4)] else if 0 < n ∧ n % 4 = 2 then some [(2, n / 4)] else none
def actV : Option (List (Int × Int)) → AV
 | none => .tup [.nilS, .bool false]
 | some [] => .tup [.nilS, .bool true]
 | some l => .tup [.vsl true (l.map eAct), .bool true]
theorem lit_act (h : AHeap) (a b : Int) : abs0 h false 2 1 [.int .i64 0, .int .i64 0] [(0, .agg [.int .i64 a, .int .i64 b])] = some (.vsl true [[.int .i64 a, .int .i64 b]], h) := by
 simp [abs0, fillCells, flatParts, putCells, cellsOf, chop, pure1]
theorem act_walk (n : Int) (hn : -9223372036854775808 ≤ n ∧ n ≤ 9223372036854775807) : ∃ h', runFn (lim G0.cfg) 1 A_pack_act [.int .i64 n] [] = some (actV (actD n), h') := by
 rw [R_pack_act]
 unfold actD
 have f3 : afill [.int .i64 0, .int .i64 0] [(0, 1, .int .i64 3)] = some (.agg [.int .i64 3, .int .i64 0]) := rfl
 have f2 : ∀ a b : Int, afill [.int .i64 0, .int .i64 0] [(0, 1, .int .i64 a), (1, 1, .int .i64 b)] = some (.agg [.int .i64 a, .int .i64 b]) := fun _ _ => rfl
 by_cases c0 : n = 0
 ·have d0 : decide (n = 0) = true := decide_eq_true c0
  rw [if_pos c0]
  simp only [Zab,Zac,Zad,Zae,Zai,Zaj,Zak,Zam,Zao,Zar,Zay,Zbi,Zbk,Zbq,Zcu,Zcv,Zcw,Zcx,Q4,Q5,Q2,Q3,Z2,Zdl,Q0,Q1,Nat.reduceAdd,Nat.reduceSub,eq_self,true_and,Q0,Q1,Q9,Z0,Q8,Q6,d0,actV,resAll,resVals,resVal,Z1,Prod.mk.injEq,true_and,exists_eq']
 have d0 : decide (n = 0) = false := decide_eq_false c0
 rw [if_neg c0]
 by_cases c1 : n = 3
 ·have d1 : decide (n = 3) = true := decide_eq_true c1
  rw [if_pos c1]
  simp only [Zab,Zac,Zad,Zae,Zai,Zaj,Zak,Zam,Zao,Zar,Zas,Zay,Zaz,Zbi,Zbk,Zbq,Zcm,Zcn,Zcu,Zcv,Zcw,Zcx,Q4,Q5,Q2,Q3,Z2,Zdl,Q0,Q1,Nat.reduceAdd,Nat.reduceSub,eq_self,true_and,Q0,Q1,Q9,Z0,Q8,Q6,d0,d1,evp,f3,ev2,lit_act,actV,Q7,Z5,eAct,resAll,resVals,resVal,Z1,Prod.mk.injEq,true_and,exists_eq']
 have d1 : decide (n = 3) = false := decide_eq_false c1
 rw [if_neg c1]
 by_cases c2 : 0 < n
 case neg =>
  rw [if_neg (fun h => c2 h.1), if_neg (fun h => c2 h.1)]
  simp only [Zaa,Zab,Zac,Zad,Zae,Zai,Zaj,Zak,Zan,Zas,Zay,Zbe,Zbh,Zbi,Zbj,Zbk,Zbl,Zbq,Zcu,Zcv,Zcw,Zcx,Q4,Q5,Q2,Q3,Z2,Zdj,Zdl,decide_false,Q0,Q1,Nat.reduceAdd,Nat.reduceSub,eq_self,true_and,Q0,Q1,Q9,Z0,Q8,Q6,d0,d1,c2,actV,resAll,resVals,resVal,Z1,Prod.mk.injEq,true_and,exists_eq']
 case pos =>
 have t1 : n.tmod 4 = n % 4 := Int.tmod_eq_emod_of_nonneg (by omega)
 have t2 : n.tdiv 4 = n / 4 := Int.tdiv_eq_ediv_of_nonneg (by omega)
 have w1 : IntKind.i64.wrap (n / 4) = n / 4 := w64 (by omega) (by omega)
 have rm : abin .rem .num (.int .i64 n) (.int .i64 4) = some (.int .i64 (n % 4)) := by simp [abin, aint, t1]
 have qu : abin .quo .num (.int .i64 n) (.int .i64 4) = some (.int .i64 (n / 4)) := by simp [abin, aint, t2, w1]
 by_cases c3 : n % 4 = 1
 ·have d3 : decide (n % 4 = 1) = true := decide_eq_true c3
  rw [if_pos ⟨c2, c3⟩]
  simp only [Zab,Zac,Zad,Zae,Zai,Zaj,Zak,Zam,Zao,Zar,Zas,Zay,Zaz,Zbb,Zbg,Zbi,Zbj,Zbk,Zbl,Zbq,Zcm,Zcn,Zcu,Zcv,Zcw,Zcx,Q4,Q5,Q2,Q3,Z2,Zdj,Zdl,decide_true,Q0,Q1,Nat.reduceAdd,Nat.reduceSub,eq_self,true_and,Q0,Q1,Q9,Z0,Q8,Q6,d0,d1,c2,rm,qu,d3,evp,f2,ev2,lit_act,actV,Q7,Z5,eAct,resAll,resVals,resVal,Z1,Prod.mk.injEq,true_and,exists_eq']
 have d3 : decide (n % 4 = 1) = false := decide_eq_false c3
 rw [if_neg (fun h => c3 h.2)]
 by_cases c4 : n % 4 = 2
 ·have d4 : decide (n % 4 = 2) = true := decide_eq_true c4
  rw [if_pos ⟨c2, c4⟩]
  simp only [Zab,Zac,Zad,Zae,Zai,Zaj,Zak,Zam,Zao,Zar,Zas,Zay,Zaz,Zbb,Zbg,Zbi,Zbj,Zbk,Zbl,Zbq,Zcm,Zcn,Zcu,Zcv,Zcw,Zcx,Q4,Q5,Q2,Q3,Z2,Zdj,Zdl,decide_true,Q0,Q1,Nat.reduceAdd,Nat.reduceSub,eq_self,true_and,Q0,Q1,Q9,Z0,Q8,Q6,d0,d1,c2,rm,qu,d3,d4,evp,f2,ev2,lit_act,actV,Q7,Z5,eAct,resAll,resVals,resVal,Z1,Prod.mk.injEq,true_and,exists_eq']
 have d4 : decide (n % 4 = 2) = false := decide_eq_false c4
 rw [if_neg (fun h => c4 h.2)]
 simp only [Zaa,Zab,Zac,Zad,Zae,Zai,Zaj,Zak,Zan,Zas,Zay,Zbb,Zbg,Zbi,Zbj,Zbk,Zbl,Zbq,Zcu,Zcv,Zcw,Zcx,Q4,Q5,Q2,Q3,Z2,Zdj,Zdl,decide_true,Q0,Q1,Nat.reduceAdd,Nat.reduceSub,eq_self,true_and,Q0,Q1,Q9,Z0,Q8,Q6,d0,d1,c2,rm,d3,d4,actV,resAll,resVals,resVal,Z1,Prod.mk.injEq,true_and,exists_eq']
theorem act_walkR (n : Int) (hn : -9223372036854775808 ≤ n ∧ n ≤ 9223372036854775807) : ∃ h', runFn (lim G0.cfg) 1 A_r32_act [.int .i64 n] [] = some (actV (actD n), h') := by
 rw [R_r32_act]
 unfold actD
 have f3 : afill [.int .i64 0, .int .i64 0] [(0, 1, .int .i64 3)] = some (.agg [.int .i64 3, .int .i64 0]) := rfl
 have f2 : ∀ a b : Int, afill [.int .i64 0, .int .i64 0] [(0, 1, .int .i64 a), (1, 1, .int .i64 b)] = some (.agg [.int .i64 a, .int .i64 b]) := fun _ _ => rfl
 by_cases c0 : n = 0
 ·have d0 : decide (n = 0) = true := decide_eq_true c0
  rw [if_pos c0]
  simp only [Zab,Zac,Zad,Zae,Zai,Zaj,Zak,Zam,Zao,Zar,Zay,Zbi,Zbk,Zbq,Zcu,Zcv,Zcw,Zcx,Q4,Q5,Q2,Q3,Z2,Zdl,Q0,Q1,Nat.reduceAdd,Nat.reduceSub,eq_self,true_and,Q0,Q1,Q9,Z0,Q8,Q6,d0,actV,resAll,resVals,resVal,Z1,Prod.mk.injEq,true_and,exists_eq']
 have d0 : decide (n = 0) = false := decide_eq_false c0
 rw [if_neg c0]
 by_cases c1 : n = 3
 ·have d1 : decide (n = 3) = true := decide_eq_true c1
  rw [if_pos c1]
  simp only [Zab,Zac,Zad,Zae,Zai,Zaj,Zak,Zam,Zao,Zar,Zas,Zay,Zaz,Zbi,Zbk,Zbq,Zcm,Zcn,Zcu,Zcv,Zcw,Zcx,Q4,Q5,Q2,Q3,Z2,Zdl,Q0,Q1,Nat.reduceAdd,Nat.reduceSub,eq_self,true_and,Q0,Q1,Q9,Z0,Q8,Q6,d0,d1,evp,f3,ev2,lit_act,actV,Q7,Z5,eAct,resAll,resVals,resVal,Z1,Prod.mk.injEq,true_and,exists_eq']
 have d1 : decide (n = 3) = false := decide_eq_false c1
 rw [if_neg c1]
 by_cases c2 : 0 < n
 case neg =>
  rw [if_neg (fun h => c2 h.1), if_neg (fun h => c2 h.1)]
  simp only [Zaa,Zab,Zac,Zad,Zae,Zai,Zaj,Zak,Zan,Zas,Zay,Zbe,Zbh,Zbi,Zbj,Zbk,Zbl,Zbq,Zcu,Zcv,Zcw,Zcx,Q4,Q5,Q2,Q3,Z2,Zdj,Zdl,decide_false,Q0,Q1,Nat.reduceAdd,Nat.reduceSub,eq_self,true_and,Q0,Q1,Q9,Z0,Q8,Q6,d0,d1,c2,actV,resAll,resVals,resVal,Z1,Prod.mk.injEq,true_and,exists_eq']
 case pos =>
 have t1 : n.tmod 4 = n % 4 := Int.tmod_eq_emod_of_nonneg (by omega)
 have t2 : n.tdiv 4 = n / 4 := Int.tdiv_eq_ediv_of_nonneg (by omega)
 have w1 : IntKind.i64.wrap (n / 4) = n / 4 := w64 (by omega) (by omega)
 have rm : abin .rem .num (.int .i64 n) (.int .i64 4) = some (.int .i64 (n % 4)) := by simp [abin, aint, t1]
 have qu : abin .quo .num (.int .i64 n) (.int .i64 4) = some (.int .i64 (n / 4)) := by simp [abin, aint, t2, w1]
 by_cases c3 : n % 4 = 1
 ·have d3 : decide (n % 4 = 1) = true := decide_eq_true c3
  rw [if_pos ⟨c2, c3⟩]
  simp only [Zab,Zac,Zad,Zae,Zai,Zaj,Zak,Zam,Zao,Zar,Zas,Zay,Zaz,Zbb,Zbg,Zbi,Zbj,Zbk,Zbl,Zbq,Zcm,Zcn,Zcu,Zcv,Zcw,Zcx,Q4,Q5,Q2,Q3,Z2,Zdj,Zdl,decide_true,Q0,Q1,Nat.reduceAdd,Nat.reduceSub,eq_self,true_and,Q0,Q1,Q9,Z0,Q8,Q6,d0,d1,c2,rm,qu,d3,evp,f2,ev2,lit_act,actV,Q7,Z5,eAct,resAll,resVals,resVal,Z1,Prod.mk.injEq,true_and,exists_eq']
 have d3 : decide (n % 4 = 1) = false := decide_eq_false c3
 rw [if_neg (fun h => c3 h.2)]
 by_cases c4 : n % 4 = 2
 ·have d4 : decide (n % 4 = 2) = true := decide_eq_true c4
  rw [if_pos ⟨c2, c4⟩]
  simp only [Zab,Zac,Zad,Zae,Zai,Zaj,Zak,Zam,Zao,Zar,Zas,Zay,Zaz,Zbb,Zbg,Zbi,Zbj,Zbk,Zbl,Zbq,Zcm,Zcn,Zcu,Zcv,Zcw,Zcx,Q4,Q5,Q2,Q3,Z2,Zdj,Zdl,decide_true,Q0,Q1,Nat.reduceAdd,Nat.reduceSub,eq_self,true_and,Q0,Q1,Q9,Z0,Q8,Q6,d0,d1,c2,rm,qu,d3,d4,evp,f2,ev2,lit_act,actV,Q7,Z5,eAct,resAll,resVals,resVal,Z1,Prod.mk.injEq,true_and,exists_eq']
 have d4 : decide (n % 4 = 2) = false := decide_eq_false c4
 rw [if_neg (fun h => c4 h.2)]
 simp only [Zaa,Zab,Zac,Zad,Zae,Zai,Zaj,Zak,Zan,Zas,Zay,Zbb,Zbg,Zbi,Zbj,Zbk,Zbl,Zbq,Zcu,Zcv,Zcw,Zcx,Q4,Q5,Q2,Q3,Z2,Zdj,Zdl,decide_true,Q0,Q1,Nat.reduceAdd,Nat.reduceSub,eq_self,true_and,Q0,Q1,Q9,Z0,Q8,Q6,d0,d1,c2,rm,d3,d4,actV,resAll,resVals,resVal,Z1,Prod.mk.injEq,true_and,exists_eq']
theorem actV_fz (o : Option (List (Int × Int))) (h : AHeap) : freeze h 1000 (actV o) = some (actV o, true) := by
 match o with
 | none => rfl
 | some [] => rfl
 | some (a :: l) => rfl
theorem f_act (n : Int) (hn : -9223372036854775808 ≤ n ∧ n ≤ 9223372036854775807) (H : AHeap) : lim G0.cfg (.func 45) [.int .i64 n] H = some (actV (actD n), H) :=
 lim_flat rfl rfl P_pack_act 1 (fun h => fz_1 rfl) (act_walk n hn) (actV_fz _) H
theorem r_act (n : Int) (hn : -9223372036854775808 ≤ n ∧ n ≤ 9223372036854775807) (H : AHeap) : lim G0.cfg (.func 55) [.int .i64 n] H = some (actV (actD n), H) :=
 lim_flat rfl rfl P_r32_act 1 (fun h => fz_1 rfl) (act_walkR n hn) (actV_fz _) H
def cellV (l : List (Int × Int)) : AV := match l with
 | [] => .nilS
 | l => .vsl true (l.map eAct)
theorem actV_some (l : List (Int × Int)) : actV (some l) = .tup [cellV l, .bool true] := by cases l <;> rfl
theorem cellV_li (l : List (Int × Int)) : LiA l (cellV l) := by
 cases l with
 | nil => exact .inl ⟨rfl, rfl⟩
 | cons a l => exact .inr ⟨true, rfl⟩
theorem cellV_pure (l : List (Int × Int)) : pure1 (cellV l) = true := by cases l <;> rfl
theorem cellV_ren (l : List (Int × Int)) (m : Nat) : RenV m (cellV l) := by
 cases l with
 | nil => exact renV_nil m
 | cons a l => exact renV_vsl m _ _
def eCs (xs : List (List (Int × Int))) : List (List AV) := xs.map fun l => [cellV l]
theorem eCs_len (xs : List (List (Int × Int))) : (eCs xs).length = xs.length := by simp [eCs]
theorem eCs_snoc (xs : List (List (Int × Int))) (l : List (Int × Int)) : eCs (xs ++ [l]) = eCs xs ++ [[cellV l]] := by simp [eCs]
theorem eCs_all (xs : List (List (Int × Int))) : (eCs xs).all (fun c => c.length == 1 && c.all cellOk) = true := by
 simp only [eCs,List.all_map,List.all_eq_true,Function.comp_apply]
 intro l _
 simp [(cellV_li l).cell.2]
def okA (p : PackD) (s i d : Nat) : Bool := (Y3 i d).all fun (k : Nat) => (actD (atD p.a s k)).isSome
def rowA (p : PackD) (s i d : Nat) : List (List (Int × Int)) := (Y3 i d).map fun (k : Nat) => (actD (atD p.a s k)).getD []
def rowG (p : PackD) (s i d : Nat) : List Int := (Y3 i d).map fun (k : Nat) => IntKind.i64.wrap (atD p.g s k - 1)
structure RtOk (c : RowT) : Prop where
 l1 : c.base.length ≤ 1000000000
 l2 : c.val.length ≤ 1000000000
 l3 : c.own.length ≤ 1000000000
 l4 : c.row.length ≤ 1000000000
 b1 : ∀ x ∈ c.base, -9223372036854775808 ≤ x ∧ x ≤ 9223372036854775807
 b2 : ∀ x ∈ c.val, -9223372036854775808 ≤ x ∧ x ≤ 9223372036854775807
theorem RtOk.at {c : RowT} (h : RtOk c) (row col : Int) : -9223372036854775808 ≤ atD c row col ∧ atD c row col ≤ 9223372036854775807 := by
 unfold atD
 split
 ·omega
 ·split
  ·omega
  ·split
   ·omega
   ·rename_i n1 n2 n3
    refine h.b2 _ ?_
    have : (c.base.getD (c.row.getD row.toNat 0).toNat 0 + col).toNat < c.val.length := by omega
    rw [List.getD_eq_getElem?_getD, List.getElem?_eq_getElem this, Option.getD_some]
    exact List.getElem_mem _
section
variable {p : PackD} {ca cg : List AV} {w7 w54 w55 : AV} {B : Nat}
theorem back_box (hA : RT p.a ca) (hG : RT p.g cg) (h : AHeap) (e : h[0]? = some (.arr 0 10 true [[.int .i64 p.tms, .int .i64 p.nts] ++ ca ++ cg])) : aload h 4 true (.ptr 0 0 0 2) = some (.agg ca) ∧ aload h 4 true (.ptr 0 0 0 6) = some (.agg cg) ∧ aload h 1 false (.ptr 0 0 0 0) = some (.int .i64 p.tms) ∧ aload h 1 false (.ptr 0 0 0 1) = some (.int .i64 p.nts) := by
 obtain ⟨a1, a2, a3, a4, rfl, _, _, _, _⟩ := hA
 obtain ⟨b1, b2, b3, b4, rfl, _, _, _, _⟩ := hG
 refine ⟨?_, ?_, ?_, ?_⟩
 ·rw [ld_p h 4 0 0 0 2 true 10 true _ _ e rfl]; rfl
 ·rw [ld_p h 4 0 0 0 6 true 10 true _ _ e rfl]; rfl
 ·rw [ld_p h 1 0 0 0 0 false 10 true _ _ e rfl]; rfl
 ·rw [ld_p h 1 0 0 0 1 false 10 true _ _ e rfl]; rfl
theorem back_1 (hA : RT p.a ca) (hG : RT p.g cg) (ok : RtOk p.a) (s tm N : Nat) (htm : tm ≤ 1000) (hB : 3 ≤ B) : ∀ (d i m : Nat) (xs : List (List (Int × Int))) (h : AHeap) (w : AV) (q : Option Nat), tm = i + d → d < m → h[0]? = some (.arr 0 10 true [[.int .i64 p.tms, .int .i64 p.nts] ++ ca ++ cg]) → h[1]? = some (.arr 0 2 true [[.nilS, .nilS]]) → OwnG 1 (eCs xs) w h q → (∀ i, q = some i → B ≤ i) → B ≤ h.length → xs.length = i → Ren h.length h →
  (okA p s i d = true → ∃ (h' : AHeap) (w' : AV) (q' : Option Nat), loopN (evalCode (lim G0.cfg) N B_pack_Back_1) m ⟨(J::.ptr 0 0 0 0 :: .ptr 1 0 0 0::J::J::.ptr 2 0 0 0 :: .int .i64 s :: w::J::J::J::J::J::J::J::J::J::J::J::J::J::J::J::J::J::J::J::J::J::J::J::J::J::J::J::J::J::J::J::J::J::J::J::J::J::J::J::J::J::J::J::J::J::J::w54 :: w55::J::J::J::.int .i64 tm :: .int .i64 i::J::J::J::J::J::J::J::J::J::J::J::J::J::J::J::J::J::J::J::J::J::J::J::J::J::J::J::J::J::J::J::J::J::J::J::J::J::J::J::J::J::J::J::J::J::J::J::J::J::J::J::J::J::J::J::J::J::J::J::J::J::J::J::J::J::J::J::J::J::J::J::J::J::J::J::J::J::J::J::J::J::J::J::J::J::J::[]), h⟩ = some (.exit 2, ⟨(J::.ptr 0 0 0 0 :: .ptr 1 0 0 0::J::J::.ptr 2 0 0 0 :: .int .i64 s :: w'::J::J::J::J::J::J::J::J::J::J::J::J::J::J::J::J::J::J::J::J::J::J::J::J::J::J::J::J::J::J::J::J::J::J::J::J::J::J::J::J::J::J::J::J::J::J::w54 :: w55::J::J::J::J::J::J::J::J::J::J::J::J::J::J::J::J::J::J::J::J::J::J::J::J::J::J::J::J::J::J::J::J::J::J::J::J::J::J::J::J::J::J::J::J::J::J::J::J::J::J::J::J::J::J::J::J::J::J::J::J::J::J::J::J::J::J::J::J::J::J::J::J::J::J::J::J::J::J::J::J::J::J::J::J::J::J::J::J::J::J::J::[]), h'⟩) ∧
   OwnG 1 (eCs (xs ++ rowA p s i d)) w' h' q' ∧ (∀ i, q' = some i → B ≤ i) ∧ B ≤ h'.length ∧ (∀ (j : Nat) (o : AObj), j < B → h[j]? = some o → h'[j]? = some o) ∧ Ren h'.length h') ∧
  (okA p s i d = false → ∃ h', loopN (evalCode (lim G0.cfg) N B_pack_Back_1) m ⟨(J::.ptr 0 0 0 0 :: .ptr 1 0 0 0::J::J::.ptr 2 0 0 0 :: .int .i64 s :: w::J::J::J::J::J::J::J::J::J::J::J::J::J::J::J::J::J::J::J::J::J::J::J::J::J::J::J::J::J::J::J::J::J::J::J::J::J::J::J::J::J::J::J::J::J::J::w54 :: w55::J::J::J::.int .i64 tm :: .int .i64 i::J::J::J::J::J::J::J::J::J::J::J::J::J::J::J::J::J::J::J::J::J::J::J::J::J::J::J::J::J::J::J::J::J::J::J::J::J::J::J::J::J::J::J::J::J::J::J::J::J::J::J::J::J::J::J::J::J::J::J::J::J::J::J::J::J::J::J::J::J::J::J::J::J::J::J::J::J::J::J::J::J::J::J::J::J::J::[]), h⟩ = some (.ret, ⟨(J::J::.ptr 1 0 0 0 :: .int .i64 34::J::J::J::J::J::J::J::J::J::J::J::J::J::J::J::J::J::J::J::J::J::J::J::J::J::J::J::J::J::J::J::J::J::J::J::J::J::J::J::J::J::J::J::J::J::J::J::J::J::J::J::J::J::J::J::J::J::J::J::J::J::J::J::J::J::J::J::J::J::J::J::J::J::J::J::J::J::J::J::J::J::J::J::J::J::J::J::J::J::J::J::J::J::J::J::J::J::J::J::J::J::J::J::J::J::J::J::J::J::J::J::J::J::J::J::J::J::J::J::J::J::J::J::J::J::J::J::J::J::J::J::J::J::J::J::J::J::J::J::J::J::J::J::[]), h'⟩) ∧ h'[1]? = some (.arr 0 2 true [[.nilS, .nilS]])) := by
 intro d
 induction d with
 | zero =>
  intro i m xs h w q h1 h2 e0 e1 ow tv lb lx hr
  obtain ⟨m, rfl⟩ : ∃ q, m = q + 1 := ⟨m - 1, by omega⟩
  have h3 : ¬ ((i : Int) < tm) := by omega
  have r0 : rowA p s i 0 = [] := rfl
  rw [r0, Y0]
  refine ⟨fun _ => ⟨h, w, q, ?_, ow, tv, lb, fun _ _ _ e => e, hr⟩, fun e => (by cases e)⟩
  simp only [loop_e,EB_pack_Back_1,Zab,Zac,Zad,Zag,Zah,Zaj,Zak,Zal,Zas,Zav,Zay,Zbi,Zbq,Zcv,Zcx,Zdb,Zdc,Zdd,Q4,Q5,Q2,Q3,Zdh,decide_false,eq_self,h3]
 | succ d ih =>
  intro i m xs h w q h1 h2 e0 e1 ow tv lb lx hr
  obtain ⟨m, rfl⟩ : ∃ q, m = q + 1 := ⟨m - 1, by omega⟩
  have h3' : (i : Int) < tm := by omega
  have hw := w64s (n := i) (by omega)
  have fat := fun H => f_At hA ok.l1 ok.l2 ok.l3 ok.b1 s i (by omega) H
  have la := (back_box hA hG h e0).1
  obtain ⟨x, hx⟩ : ∃ x, x = atD p.a s i := ⟨_, rfl⟩
  have xb := ok.at s i
  rw [← hx] at fat xb
  have fac := f_act x xb
  have o1 : okA p s i (d + 1) = ((actD x).isSome && okA p s (i + 1) d) := by unfold okA; rw [Z9, List.all_cons, ← hx]
  have o2 : rowA p s i (d + 1) = (actD x).getD [] :: rowA p s (i + 1) d := by unfold rowA; rw [Z9, Q7, ← hx]
  rw [o1, o2]
  cases ea : actD x with
  | none =>
   rw [ea] at fac
   have fac' : ∀ H, lim G0.cfg (.func 45) [.int .i64 x] H = some (.tup [.nilS, .bool false], H) := fac
   have f0 : afill [.nilS, .nilS] [] = some (.agg [.nilS, .nilS]) := rfl
   have st : astore h 2 (.ptr 1 0 0 0) (.agg [.nilS, .nilS]) = some (h.set 1 (.arr 0 2 true [[.nilS, .nilS]])) := st_full (b := true) e1 rfl rfl rfl rfl
   refine ⟨fun e => (by cases e), fun _ => ⟨h.set 1 (.arr 0 2 true [[.nilS, .nilS]]), ?_, get_set_eq e1⟩⟩
   simp only [loop_e,EB_pack_Back_1,Zaa,Zab,Zac,Zad,Zae,Zag,Zai,Zaj,Zak,Zam,Zao,Zar,Zaw,Zay,Zaz,Zba,Zbi,Zbk,Zbo,Zbp,Zbq,Zbr,Zby,Zcf,Zcm,Zcp,Zcq,Zcv,Zcw,Zcx,Zcy,Zcz,Zda,Zdb,Zdc,Zdd,Q4,Q5,Q2,Q3,Zdh,Zdr,Zdx,Zem,decide_true,Bool.not_false,List.getElem?_cons_zero,List.getElem?_cons_succ,Nat.reduceAdd,eq_self,Q8,Q6,h3',la,fat,fac',evp,f0,st]
  | some l =>
   rw [ea, actV_some] at fac
   obtain ⟨iv, ver1, H1, t1, r1, r2, r3, r4, r5, r6⟩ := ow.pushL (cellV_pure l) (cellV_li l).cell (cellV_ren l) (eCs_all _) 24 (by omega) (by rw [eCs_len]; omega) .nilS hr
   rw [eCs_len] at r1 r2
   rw [← eCs_snoc] at r2
   have tiv : B ≤ iv := by
    rcases r4 with g | ⟨_, g⟩
    ·exact tv iv g
    ·omega
   obtain ⟨vvx, hvx⟩ : ∃ x, x = AV.hsl iv ver1 0 (xs.length + 1) none := ⟨_, rfl⟩
   rw [← hvx] at r1 r2
   obtain ⟨k1, k2⟩ := ih (i + 1) m (xs ++ [l]) H1 vvx (some iv) (by omega) (by omega) (r3 0 _ e0 (fun f => by have := tv 0 f; omega)) (r3 1 _ e1 (fun f => by have := tv 1 f; omega)) r2 (fun i f => by cases f; exact tiv) (by omega) (by simp [lx]) r6
   have run : loopN (evalCode (lim G0.cfg) N B_pack_Back_1) (m + 1) ⟨(J::.ptr 0 0 0 0 :: .ptr 1 0 0 0::J::J::.ptr 2 0 0 0 :: .int .i64 s :: w::J::J::J::J::J::J::J::J::J::J::J::J::J::J::J::J::J::J::J::J::J::J::J::J::J::J::J::J::J::J::J::J::J::J::J::J::J::J::J::J::J::J::J::J::J::J::w54 :: w55::J::J::J::.int .i64 tm :: .int .i64 i::J::J::J::J::J::J::J::J::J::J::J::J::J::J::J::J::J::J::J::J::J::J::J::J::J::J::J::J::J::J::J::J::J::J::J::J::J::J::J::J::J::J::J::J::J::J::J::J::J::J::J::J::J::J::J::J::J::J::J::J::J::J::J::J::J::J::J::J::J::J::J::J::J::J::J::J::J::J::J::J::J::J::J::J::J::J::[]), h⟩ = loopN (evalCode (lim G0.cfg) N B_pack_Back_1) m ⟨(J::.ptr 0 0 0 0 :: .ptr 1 0 0 0::J::J::.ptr 2 0 0 0 :: .int .i64 s :: vvx::J::J::J::J::J::J::J::J::J::J::J::J::J::J::J::J::J::J::J::J::J::J::J::J::J::J::J::J::J::J::J::J::J::J::J::J::J::J::J::J::J::J::J::J::J::J::w54 :: w55::J::J::J::.int .i64 tm :: .int .i64 (i + 1 : Nat)::J::J::J::J::J::J::J::J::J::J::J::J::J::J::J::J::J::J::J::J::J::J::J::J::J::J::J::J::J::J::J::J::J::J::J::J::J::J::J::J::J::J::J::J::J::J::J::J::J::J::J::J::J::J::J::J::J::J::J::J::J::J::J::J::J::J::J::J::J::J::J::J::J::J::J::J::J::J::J::J::J::J::J::J::J::J::[]), H1⟩ := by
    simp only [loop_e,EB_pack_Back_1,Zaa,Zab,Zac,Zad,Zae,Zag,Zaj,Zak,Zan,Zar,Zas,Zau,Zay,Zaz,Zbi,Zbk,Zbo,Zbq,Zbr,Zby,Zcf,Zci,Zcn,Zcp,Zcq,Zcv,Zcw,Zcx,Zcz,Zda,Zdb,Zdc,Zdd,Q4,Q5,Q2,Q3,Zde,Zdh,Zdr,Zdx,Zem,decide_true,Bool.not_true,List.getElem?_cons_zero,List.getElem?_cons_succ,Nat.reduceAdd,eq_self,Q8,Q6,h3',la,fat,fac,ev2,t1,r1,hw]
   rw [run, Option.isSome_some, Bool.true_and, Option.getD_some]
   refine ⟨fun hk => ?_, k2⟩
   obtain ⟨h', w', q', e, g1, g2, g3, g4, g5⟩ := k1 hk
   refine ⟨h', w', q', e, ?_, g2, g3, fun j o hj e => g4 j o hj (r3 j o e (fun f => by have := tv j f; omega)), g5⟩
   rw [Z6] at g1
   exact g1
theorem back_2 (hA : RT p.a ca) (hG : RT p.g cg) (ok : RtOk p.g) (s tm N : Nat) (htm : tm ≤ 1000) (hB : 3 ≤ B) : ∀ (d i m : Nat) (xs : List Int) (h : AHeap) (w : AV) (q : Option Nat), tm = i + d → d < m → h[0]? = some (.arr 0 10 true [[.int .i64 p.tms, .int .i64 p.nts] ++ ca ++ cg]) → OwnG 1 (eIs xs) w h q → (∀ i, q = some i → B ≤ i) → B ≤ h.length → xs.length = i → Ren h.length h →
  ∃ (h' : AHeap) (w' : AV) (q' : Option Nat), loopN (evalCode (lim G0.cfg) N B_pack_Back_2) m ⟨(J::.ptr 0 0 0 0 :: .ptr 1 0 0 0::J::J::.ptr 2 0 0 0 :: .int .i64 s :: w7::J::J::J::w::J::J::J::J::J::J::J::J::J::J::J::J::J::J::J::J::J::J::J::J::J::J::J::J::J::J::J::J::J::J::J::J::J::J::J::J::J::J::J::J::J::J::w54 :: w55::J::J::J::J::J::J::J::J::J::J::J::J::J::J::J::J::J::J::J::J::J::J::J::J::J::.int .i64 tm :: .int .i64 i::J::J::J::J::J::J::J::J::J::J::J::J::J::J::J::J::J::J::J::J::J::J::J::J::J::J::J::J::J::J::J::J::J::J::J::J::J::J::J::J::J::J::J::J::J::J::J::J::J::J::J::J::J::J::J::J::J::J::J::J::J::J::J::J::[]), h⟩ = some (.exit 4, ⟨(J::.ptr 0 0 0 0 :: .ptr 1 0 0 0::J::J::.ptr 2 0 0 0::J::w7::J::J::J::w'::J::J::J::J::J::J::J::J::J::J::J::J::J::J::J::J::J::J::J::J::J::J::J::J::J::J::J::J::J::J::J::J::J::J::J::J::J::J::J::J::J::J::w54 :: w55::J::J::J::J::J::J::J::J::J::J::J::J::J::J::J::J::J::J::J::J::J::J::J::J::J::J::J::J::J::J::J::J::J::J::J::J::J::J::J::J::J::J::J::J::J::J::J::J::J::J::J::J::J::J::J::J::J::J::J::J::J::J::J::J::J::J::J::J::J::J::J::J::J::J::J::J::J::J::J::J::J::J::J::J::J::J::J::J::J::J::J::[]), h'⟩) ∧
   OwnG 1 (eIs (xs ++ rowG p s i d)) w' h' q' ∧ (∀ i, q' = some i → B ≤ i) ∧ B ≤ h'.length ∧ (∀ (j : Nat) (o : AObj), j < B → h[j]? = some o → h'[j]? = some o) ∧ Ren h'.length h' := by
 intro d
 induction d with
 | zero =>
  intro i m xs h w q h1 h2 e0 ow tv lb lx hr
  obtain ⟨m, rfl⟩ : ∃ q, m = q + 1 := ⟨m - 1, by omega⟩
  have h3 : ¬ ((i : Int) < tm) := by omega
  have r0 : rowG p s i 0 = [] := rfl
  rw [r0, Y0]
  refine ⟨h, w, q, ?_, ow, tv, lb, fun _ _ _ e => e, hr⟩
  simp only [loop_e,EB_pack_Back_2,Zab,Zac,Zad,Zag,Zah,Zaj,Zak,Zal,Zas,Zav,Zay,Zbi,Zbq,Zcv,Zcx,Zdb,Zdc,Zdd,Q4,Q5,Q2,Q3,Zdh,decide_false,eq_self,h3]
 | succ d ih =>
  intro i m xs h w q h1 h2 e0 ow tv lb lx hr
  obtain ⟨m, rfl⟩ : ∃ q, m = q + 1 := ⟨m - 1, by omega⟩
  have h3' : (i : Int) < tm := by omega
  have hw := w64s (n := i) (by omega)
  have fat := fun H => f_At hG ok.l1 ok.l2 ok.l3 ok.b1 s i (by omega) H
  have la := (back_box hA hG h e0).2.1
  obtain ⟨x, hx⟩ : ∃ x, x = atD p.g s i := ⟨_, rfl⟩
  rw [← hx] at fat
  have o2 : rowG p s i (d + 1) = IntKind.i64.wrap (x - 1) :: rowG p s (i + 1) d := by unfold rowG; rw [Z9, Q7, ← hx]
  rw [o2]
  obtain ⟨y, hy⟩ : ∃ y, y = IntKind.i64.wrap (x - 1) := ⟨_, rfl⟩
  rw [← hy]
  obtain ⟨iv, ver1, H1, t1, r1, r2, r3, r4, r5, r6⟩ := ow.pushL (w := .int .i64 y) rfl ⟨rfl, rfl⟩ (fun m => renV_int m _ _) (eIs_all _) 8 (by omega) (by rw [Zep]; omega) (.int .i64 0) hr
  rw [Zep] at r1 r2
  rw [← eIs_snoc] at r2
  have tiv : B ≤ iv := by
   rcases r4 with g | ⟨_, g⟩
   ·exact tv iv g
   ·omega
  obtain ⟨vvx, hvx⟩ : ∃ x, x = AV.hsl iv ver1 0 (xs.length + 1) none := ⟨_, rfl⟩
  rw [← hvx] at r1 r2
  obtain ⟨h', w', q', e, g1, g2, g3, g4, g5⟩ := ih (i + 1) m (xs ++ [y]) H1 vvx (some iv) (by omega) (by omega) (r3 0 _ e0 (fun f => by have := tv 0 f; omega)) r2 (fun i f => by cases f; exact tiv) (by omega) (by simp [lx]) r6
  refine ⟨h', w', q', ?_, ?_, g2, g3, fun j o hj e => g4 j o hj (r3 j o e (fun f => by have := tv j f; omega)), g5⟩
  ·rw [← e]
   simp only [loop_e,EB_pack_Back_2,Zaa,Zab,Zac,Zad,Zae,Zag,Zaj,Zak,Zan,Zar,Zau,Zay,Zaz,Zbi,Zbk,Zbo,Zbq,Zby,Zci,Zcn,Zcp,Zcq,Zcv,Zcw,Zcx,Zcz,Zda,Zdb,Zdc,Zdd,Q4,Q5,Q2,Q3,Zde,Zdf,Zdh,Zdx,decide_true,Nat.reduceAdd,eq_self,Q8,Q6,h3',la,fat, ← hy,ev2,t1,r1,hw]
  ·rw [Z6] at g1
   exact g1
end
end Go.Proofs.Ytkgndbhflehhhaa.Ai
namespace Go.Proofs.Ytkgndbhflehhhaa.Ai
open Go Go.Proofs
open AV renaming junk → J
open List renaming length_cons → Q0, length_nil → Q1, getD_cons_zero → Q2, getD_cons_succ → Q3, set_cons_zero → Q4, set_cons_succ → Q5, nil_append → Q6, map_cons → Q7, cons_append → Q8, replicate_succ → Q9, replicate_zero → Z0, length_set → Z3, map_nil → Z5, append_assoc → Z6, set_append_left → Z7, range'_succ → Z9, append_nil → Y0, map_append → Y1, length_append → Y2, range' → Y3
open Option.some renaming injEq → Z1
open Option renaming map_some → Z2
open Nat renaming ble_eq_true_of_le → Z4, le_refl → Z8
set_option linter.unusedVariables false
set_option linter.unusedSimpArgs false
set_option maxRecDepth 10000
set_option maxHeartbeats 4000000
theorem nbeq_self (k : Nat) : Nat.beq k k = true := by induction k with | zero => rfl | succ k ih => exact ih
theorem nbeq_ne {a b : Nat} (h : a ≠ b) : Nat.beq a b = false := by
 cases e : Nat.beq a b with
 | false => rfl
 | true => exact absurd (Nat.eq_of_beq_eq_true e) h
def lowP (m : Nat) (x : AV) : Prop := ∀ k, plc x = some k → k < m
theorem appP_low {m k : Nat} : ∀ {ps : List (Nat × Nat)}, (∀ p ∈ ps, m ≤ p.1 ∧ m ≤ p.2) → k < m → appP ps k = k := by
 intro ps
 induction ps with
 | nil => intro _ _; rfl
 | cons p ps ih =>
  intro h hk
  have hp := h p (by simp)
  rw [appP, tr2_lt hp.1 hp.2 hk]
  exact ih (fun q hq => h q (by simp [hq])) hk
theorem fix_nil (m n : Nat) (ps : List (Nat × Nat)) : fixP m n [] [] ps = ps := rfl
theorem fix0 (m n : Nat) (x : AV) (xs ys : List AV) : fixP m n (x :: xs) (x :: ys) [] = fixP m n xs ys [] := by
 simp only [fixP]
 cases plc x with
 | none => rfl
 | some k => simp [appP]
theorem fix1 {m n : Nat} {x : AV} {xs ys : List AV} {ps : List (Nat × Nat)} (hp : ∀ p ∈ ps, m ≤ p.1 ∧ m ≤ p.2) (hx : lowP m x) : fixP m n (x :: xs) (x :: ys) ps = fixP m n xs ys ps := by
 simp only [fixP]
 cases e : plc x with
 | none => rfl
 | some k =>
  simp only [appP_low hp (hx k e),nbeq_self,Bool.true_or,if_true]
theorem fixJ {m n i j v o l v' o' l' : Nat} {c c' : Option Nat} {xs ys : List AV} {ps : List (Nat × Nat)} (h : appP ps i = j) : fixP m n (.hsl i v o l c :: xs) (.hsl j v' o' l' c' :: ys) ps = fixP m n xs ys ps := by
 simp only [fixP,plc,h,nbeq_self,Bool.true_or,if_true]
theorem fixN {m n i i' j v o l v' o' l' : Nat} {c c' : Option Nat} {xs ys : List AV} {ps : List (Nat × Nat)} (h : appP ps i = i') (h1 : i' ≠ j) (h2 : m ≤ i') (h3 : m ≤ j) (h4 : i' + 1 ≤ n) (h5 : j + 1 ≤ n) : fixP m n (.hsl i v o l c :: xs) (.hsl j v' o' l' c' :: ys) ps = fixP m n xs ys (ps ++ [(i', j)]) := by
 simp only [fixP,plc,h,nbeq_ne h1,Z4 h2,Z4 h3,Z4 h4,Z4 h5,Bool.and_self,Bool.not_true,Bool.or_self,if_neg Bool.false_ne_true]
theorem low_junk (m : Nat) : lowP m J := fun _ e => by cases e
theorem low_int (m : Nat) (k : IntKind) (n : Int) : lowP m (.int k n) := fun _ e => by cases e
theorem low_nil (m : Nat) : lowP m .nilS := fun _ e => by cases e
theorem low_ptr {m k v o n : Nat} (h : k < m) : lowP m (.ptr k v o n) := fun _ e => by cases e; exact h
theorem low_hsl {m k v o n : Nat} {c : Option Nat} (h : k < m) : lowP m (.hsl k v o n c) := fun _ e => by cases e; exact h
theorem swap_step {m i j : Nat} {r : List (Nat × Nat)} {a b : St} (h1 : m ≤ i) (h2 : m ≤ j) (h3 : i ≠ j) (h4 : i < a.h.length) (h5 : j < a.h.length) (hb : swapS i j a = b) : swapA m ((i, j) :: r) a = swapA m r b := by
 rw [swapA, nbeq_ne h3, Z4 h1, Z4 h2, Z4 (show i + 1 ≤ a.h.length by omega), Z4 (show j + 1 ≤ a.h.length by omega), hb]
 rfl
theorem swapL_2 {α : Type} (h : List α) (a b : α) (r : List α) : swapL (h.length + 1) h.length (h ++ a :: b :: r) = h ++ b :: a :: r := by
 have e1 : (h ++ a :: b :: r)[h.length + 1]? = some b := by rw [hap_get]; rfl
 have e0 : (h ++ a :: b :: r)[h.length]? = some a := by rw [hap_get0]; rfl
 simp only [swapL,e1,e0]
 rw [hap_set, hap_set0]
 rfl
theorem swapL_3 {α : Type} (h : List α) (a b c : α) (r : List α) : swapL (h.length + 2) (h.length + 1) (h ++ a :: b :: c :: r) = h ++ a :: c :: b :: r := by
 have e1 : (h ++ a :: b :: c :: r)[h.length + 2]? = some c := by rw [hap_get]; rfl
 have e0 : (h ++ a :: b :: c :: r)[h.length + 1]? = some b := by rw [hap_get]; rfl
 simp only [swapL,e1,e0]
 rw [hap_set, hap_set]
 rfl
theorem tr2_a (i j : Nat) : tr2 i j i = j := by unfold tr2; rw [if_pos rfl]
theorem tr2_b {i j : Nat} (h : j ≠ i) : tr2 i j j = i := by unfold tr2; rw [if_neg h, if_pos rfl]
theorem tr2_c {i j k : Nat} (h1 : k ≠ i) (h2 : k ≠ j) : tr2 i j k = k := by unfold tr2; rw [if_neg h1, if_neg h2]
section
variable {wx wy w54 w55 : AV} {h : AHeap} {c5 : AObj}
theorem draw_n {csA csG : List (List AV)} {iA iG vA vG : Nat} (hA : h[iA]? = some (.arr vA 1 false csA)) (hG : h[iG]? = some (.arr vG 1 false csG)) (e2 : h[2]? = some (.arr 0 2 true [[.hsl iA vA 0 csA.length none, .hsl iG vG 0 csG.length none]])) (hne : iA ≠ iG) (h2A : iA ≠ 2) (h2G : iG ≠ 2)
  (nA : csA ≠ []) (nG : csG ≠ []) (allA : csA.all (fun c => c.length == 1 && c.all cellOk) = true) (allG : csG.all (fun c => c.length == 1 && c.all cellOk) = true) (lA : csA.length ≤ 1000000) (lG : csG.length ≤ 1000000)
  (px : pure1 wx = false) (py : pure1 wy = false) (hx : cellsOf wx = [wx] ∧ cellOk wx = true) (hy : cellsOf wy = [wy] ∧ cellOk wy = true) (rx : RenV h.length wx) (ry : RenV h.length wy) (ox : lowP h.length wx) (oy : lowP h.length wy) (r54 : RenV h.length w54) (r55 : RenV h.length w55) (o54 : lowP h.length w54) (o55 : lowP h.length w55) (hr : Ren h.length h) :
  ∃ (t' : List AV), t' = (J::.ptr 0 0 0 0 :: .ptr 1 0 0 0::J::J::.ptr 2 0 0 0::J::wx::J::J::J::wy::J::J::J::J::J::J::J::J::J::J::J::J::J::J::J::J::J::J::J::J::J::J::J::J::J::J::J::J::J::J::J::J::J::J::J::J::J::J::J::J::J::J::w54 :: w55::J::J::J::J::J::J::J::J::J::J::J::J::J::J::J::J::J::J::J::J::J::J::J::J::J::J::J::J::J::J::J::J::J::J::J::J::J::J::J::.ptr 2 0 0 0 :: .hsl iA vA 0 csA.length none :: wx :: .hsl h.length 0 0 1 none :: .hsl iA (vA + 1) 0 (csA.length + 1) none :: .ptr 2 0 0 1 :: .hsl iG vG 0 csG.length none :: wy :: .hsl (h.length + 1) 0 0 1 none :: .hsl iG (vG + 1) 0 (csG.length + 1) none :: .ptr 2 0 0 0 :: .ptr 2 0 0 1::J::J::J::J::J::J::J::J::J::J::J::J::J::J::J::J::J::J::J::J::J::J::J::J::J::J::J::J::J::J::J::J::J::J::J::J::J::J::J::J::[]) ∧
   eq3 (lim G0.cfg) DL_pack_Back_0 DW_pack_Back_0 DS_pack_Back_0 h.length 14 [false, false, false, false, false, false, false, false, false, false, false, false, false, false] (J::.ptr 0 0 0 0 :: .ptr 1 0 0 0::J::J::.ptr 2 0 0 0::J::wx::J::J::J::wy::J::J::J::J::J::J::J::J::J::J::J::J::J::J::J::J::J::J::J::J::J::J::J::J::J::J::J::J::J::J::J::J::J::J::J::J::J::J::J::J::J::J::w54 :: w55::J::J::J::J::J::J::J::J::J::J::J::J::J::J::J::J::J::J::J::J::J::J::J::J::J::J::J::J::J::J::J::J::J::J::J::J::J::J::J::J::J::J::J::J::J::J::J::J::J::J::J::J::J::J::J::J::J::J::J::J::J::J::J::J::J::J::J::J::J::J::J::J::J::J::J::J::J::J::J::J::J::J::J::J::J::J::J::J::J::J::J::[]) h =
   some ⟨t', ((h.set iA (.arr (vA + 1) 1 false (csA ++ [[wx]]))).set iG (.arr (vG + 1) 1 false (csG ++ [[wy]]))).set 2 (.arr 0 2 true [[.hsl iA (vA + 1) 0 (csA.length + 1) none, .hsl iG (vG + 1) 0 (csG.length + 1) none]]) ++ [.arr 0 1 true [[wx]], .arr 0 1 true [[wy]]]⟩ := by
 obtain ⟨LA, hLA⟩ : ∃ o, o = AObj.arr 0 1 true [[wx]] := ⟨_, rfl⟩
 obtain ⟨LG, hLG⟩ : ∃ o, o = AObj.arr 0 1 true [[wy]] := ⟨_, rfl⟩
 have lit : ∀ (H : AHeap) (w : AV), pure1 w = false → cellsOf w = [w] → abs0 H false 1 1 [.nilS] [(0, w)] = some (.hsl H.length 0 0 1 none, H ++ [.arr 0 1 true [[w]]]) := fun H w p c => by
  simp [abs0, fillCells, flatParts, putCells, c, chop, p]
 have litA := fun H => lit H wx px hx.1
 have litG := fun H => lit H wy py hy.1
 rw [← hLA] at litA
 rw [← hLG] at litG
 obtain ⟨oA, hoA⟩ : ∃ o, o = AObj.arr (vA + 1) 1 false (csA ++ [[wx]]) := ⟨_, rfl⟩
 obtain ⟨oG, hoG⟩ : ∃ o, o = AObj.arr (vG + 1) 1 false (csG ++ [[wy]]) := ⟨_, rfl⟩
 obtain ⟨h1, hh1⟩ : ∃ H, H = h.set iA oA := ⟨_, rfl⟩
 obtain ⟨h2, hh2⟩ : ∃ H, H = h1.set iG oG := ⟨_, rfl⟩
 have ln1 : h1.length = h.length := by rw [hh1, Z3]
 have ln2 : h2.length = h.length := by rw [hh2, Z3, ln1]
 have ltA := get_len hA
 have ltG := get_len hG
 have lt2 := get_len e2
 -- appending where the literal lies
 have app : ∀ (H : AHeap) (i v : Nat) (cs : List (List AV)) (w wl : AV) (L : AHeap), H[i]? = some (.arr v 1 false cs) → cs ≠ [] → cs.all (fun c => c.length == 1 && c.all cellOk) = true → cs.length ≤ 1000000 → cellOk w = true → elemsOf (H ++ L) 1 wl = some [[w]] → aapp (H ++ L) 1 24 (.hsl i v 0 cs.length none) wl = some (.hsl i (v + 1) 0 (cs.length + 1) none, H.set i (.arr (v + 1) 1 false (cs ++ [[w]])) ++ L) := by
  intro H i v cs w wl L e ne al ll ok el
  have ho : OwnG 1 cs (.hsl i v 0 cs.length none) (H ++ L) (some i) := .inr ⟨ne, i, v, rfl, rfl, get_app e L⟩
  obtain ⟨i', ver, h', r1, r2, r3⟩ := OwnG.pushX (c := [w]) el ho rfl (by simp [ok]) al 24 (by omega) ll
  rcases r3 with ⟨g, _⟩ | ⟨v0, g1, g2, g3, g4, g5⟩
  ·exact absurd g ne
  ·cases g1
   simp only [AV.hsl.injEq,true_and,and_true] at g3
   subst g2; subst g3; subst g5
   rw [r1, Z7 _ _ (get_len e)]
 have el : ∀ (H : AHeap) (w : AV) (L : AHeap), elemsOf (H ++ AObj.arr 0 1 true [[w]] :: L) 1 (.hsl H.length 0 0 1 none) = some [[w]] := fun H w L => by simp [elemsOf, getArr]
 have el1 : ∀ (H : AHeap) (o : AObj) (w : AV) (L : AHeap), elemsOf (H ++ o :: AObj.arr 0 1 true [[w]] :: L) 1 (.hsl (H.length + 1) 0 0 1 none) = some [[w]] := fun H o w L => by
  have : (H ++ o :: AObj.arr 0 1 true [[w]] :: L)[H.length + 1]? = some (.arr 0 1 true [[w]]) := by rw [hap_get]; rfl
  simp [elemsOf, getArr]
 have aA1 := app h iA vA csA wx (.hsl h.length 0 0 1 none) [LA] hA nA allA lA hx.2 (by rw [hLA]; exact el h wx [])
 have aA2 := app h iA vA csA wx (.hsl h.length 0 0 1 none) [LA, LG] hA nA allA lA hx.2 (by rw [hLA]; exact el h wx [LG])
 have aA3 := app h iA vA csA wx (.hsl (h.length + 1) 0 0 1 none) [LG, LA] hA nA allA lA hx.2 (by rw [hLA]; exact el1 h LG wx [])
 rw [← hoA, ← hh1] at aA1 aA2 aA3
 have hG1 : h1[iG]? = some (.arr vG 1 false csG) := by rw [hh1]; exact get_set_ne hG hne
 have aG1 := app h1 iG vG csG wy (.hsl (h.length + 1) 0 0 1 none) [LA, LG] hG1 nG allG lG hy.2 (by rw [hLG, ← ln1]; exact el1 h1 LA wy [])
 have aG2 := app h1 iG vG csG wy (.hsl h.length 0 0 1 none) [LG, LA] hG1 nG allG lG hy.2 (by rw [hLG, ← ln1]; exact el h1 wy [LA])
 rw [← hoG, ← hh2] at aG1 aG2
 -- the table's cells
 have e21 : h1[2]? = some (.arr 0 2 true [[.hsl iA vA 0 csA.length none, .hsl iG vG 0 csG.length none]]) := by rw [hh1]; exact get_set_ne e2 h2A
 have e22 : h2[2]? = some (.arr 0 2 true [[.hsl iA vA 0 csA.length none, .hsl iG vG 0 csG.length none]]) := by rw [hh2]; exact get_set_ne e21 h2G
 have ld0 : ∀ (H : AHeap) (a b : AV), H[2]? = some (.arr 0 2 true [[a, b]]) → ∀ L, aload (H ++ L) 1 false (.ptr 2 0 0 0) = some a := fun H a b e L => by rw [ld_p _ 1 2 0 0 0 false 2 true _ _ (get_app e L) rfl]; rfl
 have ld1 : ∀ (H : AHeap) (a b : AV), H[2]? = some (.arr 0 2 true [[a, b]]) → ∀ L, aload (H ++ L) 1 false (.ptr 2 0 0 1) = some b := fun H a b e L => by rw [ld_p _ 1 2 0 0 1 false 2 true _ _ (get_app e L) rfl]; rfl
 have a0 := ld0 h _ _ e2
 have a1 := ld1 h _ _ e2
 have a0n := a0 []
 have a1n := a1 []
 rw [Y0] at a0n a1n
 have b0 := ld0 h1 _ _ e21
 have b1 := ld1 h1 _ _ e21
 obtain ⟨wA', hwA⟩ : ∃ w, w = AV.hsl iA (vA + 1) 0 (csA.length + 1) none := ⟨_, rfl⟩
 obtain ⟨wG', hwG⟩ : ∃ w, w = AV.hsl iG (vG + 1) 0 (csG.length + 1) none := ⟨_, rfl⟩
 obtain ⟨h3, hh3⟩ : ∃ H, H = h2.set 2 (.arr 0 2 true [[wA', .hsl iG vG 0 csG.length none]]) := ⟨_, rfl⟩
 obtain ⟨h4, hh4⟩ : ∃ H, H = h2.set 2 (.arr 0 2 true [[wA', wG']]) := ⟨_, rfl⟩
 have ln4 : h4.length = h.length := by rw [hh4, Z3, ln2]
 have s0 : ∀ L, astore (h2 ++ L) 1 (.ptr 2 0 0 0) wA' = some (h3 ++ L) := fun L => by
  have e := get_app e22 L
  have : (h2 ++ L).set 2 (.arr 0 2 true [[wA', .hsl iG vG 0 csG.length none]]) = h3 ++ L := by rw [hh3, Z7 _ _ (by omega)]
  rw [← this, hwA]
  simp [astore, putCells, getArr, e, cellsOf, cellOk]
 have e23 : h3[2]? = some (.arr 0 2 true [[wA', .hsl iG vG 0 csG.length none]]) := by rw [hh3]; exact get_set_eq e22
 have s1 : ∀ L, astore (h3 ++ L) 1 (.ptr 2 0 0 1) wG' = some (h4 ++ L) := fun L => by
  have e := get_app e23 L
  have ln3 : h3.length = h.length := by rw [hh3, Z3, ln2]
  have : (h3 ++ L).set 2 (.arr 0 2 true [[wA', wG']]) = h4 ++ L := by rw [Z7 _ _ (by omega), hh3, hh4, set_set]
  rw [← this, hwG]
  simp [astore, putCells, getArr, e, cellsOf, cellOk]
 rw [← hwA] at aA1 aA2 aA3
 rw [← hwG] at aG1 aG2
 obtain ⟨wA, hwA0⟩ : ∃ w, w = AV.hsl iA vA 0 csA.length none := ⟨_, rfl⟩
 obtain ⟨wG, hwG0⟩ : ∃ w, w = AV.hsl iG vG 0 csG.length none := ⟨_, rfl⟩
 rw [← hwA0] at aA1 aA2 aA3 a0 a0n b0
 rw [← hwG0] at aG1 aG2 a1 a1n b1
 -- the orders end alike
 have rO : ∀ (v : Nat) (x : Bool) (w : AV), RenV h.length w → RenO h.length (.arr v 1 x [[w]]) := fun v x w hw => renO_arr.2 (renVs_cons hw)
 have R4 : Ren h.length h4 := by
  rw [hh4, hh2, hh1, hoA, hoG, hwA, hwG]
  refine ((hr.set (renO_arr.2 ((renO_arr.1 (hr.get hA)).append (renVs_cons rx))) iA).set (renO_arr.2 ((renO_arr.1 (hr.get hG)).append (renVs_cons ry))) iG).set (renO_arr.2 (fun i j hi hj => ?_)) 2
  simp [renVs, renV, tr2_lt hi hj ltA, tr2_lt hi hj ltG]
 have same : sameI h.length (some ⟨(J::.ptr 0 0 0 0 :: .ptr 1 0 0 0::J::J::.ptr 2 0 0 0::J::wx::J::J::J::wy::J::J::J::J::J::J::J::J::J::J::J::J::J::J::J::J::J::J::J::J::J::J::J::J::J::J::J::J::J::J::J::J::J::J::J::J::J::J::J::J::J::J::w54 :: w55::J::J::J::J::J::J::J::J::J::J::J::J::J::J::J::J::J::J::J::J::J::J::J::J::J::J::J::J::J::J::J::J::J::J::J::J::J::J::J::.ptr 2 0 0 0 :: wA :: wx :: .hsl (h.length + 1) 0 0 1 none :: wA' :: .ptr 2 0 0 1 :: wG :: wy :: .hsl h.length 0 0 1 none :: wG' :: .ptr 2 0 0 0 :: .ptr 2 0 0 1::J::J::J::J::J::J::J::J::J::J::J::J::J::J::J::J::J::J::J::J::J::J::J::J::J::J::J::J::J::J::J::J::J::J::J::J::J::J::J::J::[]), h4 ++ [LG, LA]⟩)
   (some ⟨(J::.ptr 0 0 0 0 :: .ptr 1 0 0 0::J::J::.ptr 2 0 0 0::J::wx::J::J::J::wy::J::J::J::J::J::J::J::J::J::J::J::J::J::J::J::J::J::J::J::J::J::J::J::J::J::J::J::J::J::J::J::J::J::J::J::J::J::J::J::J::J::J::w54 :: w55::J::J::J::J::J::J::J::J::J::J::J::J::J::J::J::J::J::J::J::J::J::J::J::J::J::J::J::J::J::J::J::J::J::J::J::J::J::J::J::.ptr 2 0 0 0 :: wA :: wx :: .hsl h.length 0 0 1 none :: wA' :: .ptr 2 0 0 1 :: wG :: wy :: .hsl (h.length + 1) 0 0 1 none :: wG' :: .ptr 2 0 0 0 :: .ptr 2 0 0 1::J::J::J::J::J::J::J::J::J::J::J::J::J::J::J::J::J::J::J::J::J::J::J::J::J::J::J::J::J::J::J::J::J::J::J::J::J::J::J::J::[]), h4 ++ [LA, LG]⟩) = true := by
  have ps1 : ∀ p ∈ [(h.length + 1, h.length)], h.length ≤ p.1 ∧ h.length ≤ p.2 := fun p hp => by rw [List.mem_singleton] at hp; subst hp; exact ⟨by omega, Z8 _⟩
  have lj := low_junk h.length
  have l0 : ∀ a b c, lowP h.length (.ptr 0 a b c) := fun a b c => low_ptr (by omega)
  have l1 : ∀ a b c, lowP h.length (.ptr 1 a b c) := fun a b c => low_ptr (by omega)
  have l2 : ∀ a b c, lowP h.length (.ptr 2 a b c) := fun a b c => low_ptr (by omega)
  have lwA : lowP h.length wA' := by rw [hwA]; exact low_hsl ltA
  have lwG : lowP h.length wG' := by rw [hwG]; exact low_hsl ltG
  have lwG0 : lowP h.length wG := by rw [hwG0]; exact low_hsl ltG
  have rv := fun (x : AV) (hx : RenV h.length x) => hx (h.length + 1) h.length (by omega) (Z8 _)
  have v1 := rv wx rx
  have v2 := rv wy ry
  have v3 := rv wA (by rw [hwA0]; exact renV_hsl ltA)
  have v4 := rv wA' (by rw [hwA]; exact renV_hsl ltA)
  have v5 := rv wG (by rw [hwG0]; exact renV_hsl ltG)
  have v6 := rv wG' (by rw [hwG]; exact renV_hsl ltG)
  have v7 := rv w54 r54
  have v8 := rv w55 r55
  have q0 : ∀ a b c, renV (h.length + 1) h.length (.ptr 0 a b c) = .ptr 0 a b c := fun a b c => rv _ (renV_ptr (by omega))
  have q1 : ∀ a b c, renV (h.length + 1) h.length (.ptr 1 a b c) = .ptr 1 a b c := fun a b c => rv _ (renV_ptr (by omega))
  have q2 : ∀ a b c, renV (h.length + 1) h.length (.ptr 2 a b c) = .ptr 2 a b c := fun a b c => rv _ (renV_ptr (by omega))
  have q3 : renV (h.length + 1) h.length J = J := rfl
  have q4 : renV (h.length + 1) h.length (.hsl (h.length + 1) 0 0 1 none) = .hsl h.length 0 0 1 none := by simp [renV, tr2_a]
  have q5 : renV (h.length + 1) h.length (.hsl h.length 0 0 1 none) = .hsl (h.length + 1) 0 0 1 none := by
   have := tr2_b (i := h.length + 1) (j := h.length) (by omega)
   simp [renV, this]
  refine sameI_of (ps := [(h.length + 1, h.length)]) ?_ ?_
  ·have lnZ : (h4 ++ [LG, LA]).length = h.length + 2 := by simp [ln4]
   simp only [lnZ,fix0]
   rw [fixN (i' := h.length + 1) rfl (by omega) (by omega) (by omega) (by omega) (by omega), Q6]
   have ap : appP [(h.length + 1, h.length)] h.length = h.length + 1 := by
    simp only [appP]; exact tr2_b (by omega)
   simp only [fix1 ps1 lwA,fix1 ps1 (l2 _ _ _),fix1 ps1 lwG0,fix1 ps1 oy,fixJ ap,fix1 ps1 lwG,fix1 ps1 lj,fix_nil]
  ·rw [swap_step (b := ⟨(J::.ptr 0 0 0 0 :: .ptr 1 0 0 0::J::J::.ptr 2 0 0 0::J::wx::J::J::J::wy::J::J::J::J::J::J::J::J::J::J::J::J::J::J::J::J::J::J::J::J::J::J::J::J::J::J::J::J::J::J::J::J::J::J::J::J::J::J::J::J::J::J::w54 :: w55::J::J::J::J::J::J::J::J::J::J::J::J::J::J::J::J::J::J::J::J::J::J::J::J::J::J::J::J::J::J::J::J::J::J::J::J::J::J::J::.ptr 2 0 0 0 :: wA :: wx :: .hsl h.length 0 0 1 none :: wA' :: .ptr 2 0 0 1 :: wG :: wy :: .hsl (h.length + 1) 0 0 1 none :: wG' :: .ptr 2 0 0 0 :: .ptr 2 0 0 1::J::J::J::J::J::J::J::J::J::J::J::J::J::J::J::J::J::J::J::J::J::J::J::J::J::J::J::J::J::J::J::J::J::J::J::J::J::J::J::J::[]), h4 ++ [LA, LG]⟩) (by omega) (Z8 _) (by omega) (by simp [ln4]) (by simp [ln4]) ?_]
   ·rfl
   ·simp only [swapS,renVs,v1,v2,v3,v4,v5,v6,v7,v8,q0,q1,q2,q3,q4,q5]
    have e1 : (h4 ++ [LG, LA]).map (renO (h.length + 1) h.length) = h4 ++ [LG, LA] := by
     rw [Y1, R4 _ _ (by omega) (Z8 _), Q7, Q7, Z5, hLA, hLG, rO 0 true wx rx _ _ (by omega) (Z8 _), rO 0 true wy ry _ _ (by omega) (Z8 _)]
    rw [e1]
    have := swapL_2 h4 LG LA []
    rw [ln4] at this
    rw [this]
 refine ⟨_, rfl, ?_⟩
 rw [← hoA, ← hh1, ← hoG, ← hh2, ← hwA, ← hwG, ← hh4, ← hwA0, ← hwG0, ← hLA, ← hLG]
 simp only [Zaj,Zay,Zaz,Zba,Zbi,Zbk,Zbo,Zbp,Zby,Zci,Zcn,Zcv,Zcx,Zcy,Q4,Q5,Q2,Q3,Zdx,Q0,Q1,eq_self,Q0,Q1,Q8,Q6,EQ_pack_Back_0_0,EQ_pack_Back_0_1,EQ_pack_Back_0_2,EQ_pack_Back_0_3,EQ_pack_Back_0_4,EQ_pack_Back_0_5,EQ_pack_Back_0_6,EQ_pack_Back_0_7,EQ_pack_Back_0_8,EQ_pack_Back_0_9,EQ_pack_Back_0_10,EQ_pack_Back_0_11,EQ_pack_Back_0_12,EQ_pack_Back_0_13,EQ_pack_Back_0_14,EQ_pack_Back_0_15,EQ_pack_Back_0_16,EQ_pack_Back_0_17,EQ_pack_Back_0_18,EQ_pack_Back_0_19,EQ_pack_Back_0_20,EQ_pack_Back_0_21,EQ_pack_Back_0_22,EQ_pack_Back_0_23,EQ_pack_Back_0_24,EQ_pack_Back_0_25,EQ_pack_Back_0_26,EQ_pack_Back_0_27,EQ_pack_Back_0_28,EQ_pack_Back_0_29,EQ_pack_Back_0_30,dq_s,ds_n,ds_c,Fst_eq,Y2,Nat.zero_add,Z6,ln1,ev2,litA,litG,a0,a1,a0n,a1n,b1,aA1,aA2,aA3,aG1,aG2,s0,s1,ds_i _ _ _ _ same]
end
end Go.Proofs.Ytkgndbhflehhhaa.Ai
namespace Go.Proofs.Ytkgndbhflehhhaa.Ai
open Go Go.Proofs
open AV renaming junk → J
open List renaming length_cons → Q0, length_nil → Q1, getD_cons_zero → Q2, getD_cons_succ → Q3, set_cons_zero → Q4, set_cons_succ → Q5, nil_append → Q6, map_cons → Q7, cons_append → Q8, replicate_succ → Q9, replicate_zero → Z0, length_set → Z3, map_nil → Z5, append_assoc → Z6, set_append_left → Z7, range'_succ → Z9, append_nil → Y0, map_append → Y1, length_append → Y2, range' → Y3
open Option.some renaming injEq → Z1
open Option renaming map_some → Z2
open Nat renaming ble_eq_true_of_le → Z4, le_refl → Z8
set_option linter.unusedVariables false
set_option linter.unusedSimpArgs false
set_option maxRecDepth 10000
set_option maxHeartbeats 4000000
section
variable {wx wy w54 w55 : AV} {h : AHeap}
theorem draw_0 (e2 : h[2]? = some (.arr 0 2 true [[.nilS, .nilS]]))
  (px : pure1 wx = false) (py : pure1 wy = false) (hx : cellsOf wx = [wx] ∧ cellOk wx = true) (hy : cellsOf wy = [wy] ∧ cellOk wy = true) (rx : RenV h.length wx) (ry : RenV h.length wy) (ox : lowP h.length wx) (oy : lowP h.length wy) (r54 : RenV h.length w54) (r55 : RenV h.length w55) (o54 : lowP h.length w54) (o55 : lowP h.length w55) (hr : Ren h.length h) :
  ∃ (t' : List AV), t' = (J::.ptr 0 0 0 0 :: .ptr 1 0 0 0::J::J::.ptr 2 0 0 0::J::wx::J::J::J::wy::J::J::J::J::J::J::J::J::J::J::J::J::J::J::J::J::J::J::J::J::J::J::J::J::J::J::J::J::J::J::J::J::J::J::J::J::J::J::J::J::J::J::w54 :: w55::J::J::J::J::J::J::J::J::J::J::J::J::J::J::J::J::J::J::J::J::J::J::J::J::J::J::J::J::J::J::J::J::J::J::J::J::J::J::J::.ptr 2 0 0 0 :: .nilS :: wx :: .hsl h.length 0 0 1 none :: .hsl (h.length + 1) 0 0 1 none :: .ptr 2 0 0 1 :: .nilS :: wy :: .hsl (h.length + 2) 0 0 1 none :: .hsl (h.length + 3) 0 0 1 none :: .ptr 2 0 0 0 :: .ptr 2 0 0 1::J::J::J::J::J::J::J::J::J::J::J::J::J::J::J::J::J::J::J::J::J::J::J::J::J::J::J::J::J::J::J::J::J::J::J::J::J::J::J::J::[]) ∧
   eq3 (lim G0.cfg) DL_pack_Back_0 DW_pack_Back_0 DS_pack_Back_0 h.length 14 [false, false, false, false, false, false, false, false, false, false, false, false, false, false] (J::.ptr 0 0 0 0 :: .ptr 1 0 0 0::J::J::.ptr 2 0 0 0::J::wx::J::J::J::wy::J::J::J::J::J::J::J::J::J::J::J::J::J::J::J::J::J::J::J::J::J::J::J::J::J::J::J::J::J::J::J::J::J::J::J::J::J::J::J::J::J::J::w54 :: w55::J::J::J::J::J::J::J::J::J::J::J::J::J::J::J::J::J::J::J::J::J::J::J::J::J::J::J::J::J::J::J::J::J::J::J::J::J::J::J::J::J::J::J::J::J::J::J::J::J::J::J::J::J::J::J::J::J::J::J::J::J::J::J::J::J::J::J::J::J::J::J::J::J::J::J::J::J::J::J::J::J::J::J::J::J::J::J::J::J::J::J::[]) h =
   some ⟨t', h.set 2 (.arr 0 2 true [[.hsl (h.length + 1) 0 0 1 none, .hsl (h.length + 3) 0 0 1 none]]) ++ [.arr 0 1 true [[wx]], .arr 0 1 false [[wx]], .arr 0 1 true [[wy]], .arr 0 1 false [[wy]]]⟩ := by
 obtain ⟨LA, hLA⟩ : ∃ o, o = AObj.arr 0 1 true [[wx]] := ⟨_, rfl⟩
 obtain ⟨LG, hLG⟩ : ∃ o, o = AObj.arr 0 1 true [[wy]] := ⟨_, rfl⟩
 obtain ⟨NA, hNA⟩ : ∃ o, o = AObj.arr 0 1 false [[wx]] := ⟨_, rfl⟩
 obtain ⟨NG, hNG⟩ : ∃ o, o = AObj.arr 0 1 false [[wy]] := ⟨_, rfl⟩
 have lit : ∀ (H : AHeap) (w : AV), pure1 w = false → cellsOf w = [w] → abs0 H false 1 1 [.nilS] [(0, w)] = some (.hsl H.length 0 0 1 none, H ++ [.arr 0 1 true [[w]]]) := fun H w p c => by
  simp [abs0, fillCells, flatParts, putCells, c, chop, p]
 have litA := fun H => lit H wx px hx.1
 have litG := fun H => lit H wy py hy.1
 rw [← hLA] at litA
 rw [← hLG] at litG
 have lt2 := get_len e2
 have app : ∀ (H : AHeap) (w wl : AV), cellOk w = true → elemsOf H 1 wl = some [[w]] → aapp H 1 24 .nilS wl = some (.hsl H.length 0 0 1 none, H ++ [.arr 0 1 false [[w]]]) := by
  intro H w wl ok el
  obtain ⟨i', ver, h', r1, r2, r3⟩ := OwnG.pushX (c := [w]) el (OwnG.nil 1 H) rfl (by simp [ok]) rfl 24 (by omega) (by simp)
  rcases r3 with ⟨_, _, g1, g2, g3⟩ | ⟨v0, g1, _⟩
  ·subst g1; subst g2; subst g3; exact r1
  ·cases g1
 have el0 : ∀ (w : AV) (L : AHeap), elemsOf (h ++ AObj.arr 0 1 true [[w]] :: L) 1 (.hsl h.length 0 0 1 none) = some [[w]] := fun w L => by simp [elemsOf, getArr]
 have el1 : ∀ (o : AObj) (w : AV) (L : AHeap), elemsOf (h ++ o :: AObj.arr 0 1 true [[w]] :: L) 1 (.hsl (h.length + 1) 0 0 1 none) = some [[w]] := fun o w L => by
  have : (h ++ o :: AObj.arr 0 1 true [[w]] :: L)[h.length + 1]? = some (.arr 0 1 true [[w]]) := by rw [hap_get]; rfl
  simp [elemsOf, getArr]
 have el2 : ∀ (o o' : AObj) (w : AV) (L : AHeap), elemsOf (h ++ o :: o' :: AObj.arr 0 1 true [[w]] :: L) 1 (.hsl (h.length + 2) 0 0 1 none) = some [[w]] := fun o o' w L => by
  have : (h ++ o :: o' :: AObj.arr 0 1 true [[w]] :: L)[h.length + 2]? = some (.arr 0 1 true [[w]]) := by rw [hap_get]; rfl
  simp [elemsOf, getArr]
 have aA1 := app (h ++ [LA]) wx (.hsl h.length 0 0 1 none) hx.2 (by rw [hLA]; exact el0 wx [])
 have aA2 := app (h ++ [LA, LG]) wx (.hsl h.length 0 0 1 none) hx.2 (by rw [hLA]; exact el0 wx [LG])
 have aA3 := app (h ++ [LG, LA]) wx (.hsl (h.length + 1) 0 0 1 none) hx.2 (by rw [hLA]; exact el1 LG wx [])
 have aG1 := app (h ++ [LA, NA, LG]) wy (.hsl (h.length + 2) 0 0 1 none) hy.2 (by rw [hLG]; exact el2 LA NA wy [])
 have aG2 := app (h ++ [LA, LG, NA]) wy (.hsl (h.length + 1) 0 0 1 none) hy.2 (by rw [hLG]; exact el1 LA wy [NA])
 have aG3 := app (h ++ [LG, LA, NA]) wy (.hsl h.length 0 0 1 none) hy.2 (by rw [hLG]; exact el0 wy [LA, NA])
 rw [← hNA] at aA1 aA2 aA3
 rw [← hNG] at aG1 aG2 aG3
 simp only [Y2,Q0,Q1,Nat.zero_add,Z6,Q8,Q6,Nat.reduceAdd] at aA1 aA2 aA3 aG1 aG2 aG3
 have ld0 : ∀ (H : AHeap) (a b : AV), H[2]? = some (.arr 0 2 true [[a, b]]) → ∀ L, aload (H ++ L) 1 false (.ptr 2 0 0 0) = some a := fun H a b e L => by rw [ld_p _ 1 2 0 0 0 false 2 true _ _ (get_app e L) rfl]; rfl
 have ld1 : ∀ (H : AHeap) (a b : AV), H[2]? = some (.arr 0 2 true [[a, b]]) → ∀ L, aload (H ++ L) 1 false (.ptr 2 0 0 1) = some b := fun H a b e L => by rw [ld_p _ 1 2 0 0 1 false 2 true _ _ (get_app e L) rfl]; rfl
 have a0 := ld0 h _ _ e2
 have a1 := ld1 h _ _ e2
 have a0n := a0 []
 have a1n := a1 []
 rw [Y0] at a0n a1n
 have s0 : ∀ (L : AHeap) (k : Nat), astore (h ++ L) 1 (.ptr 2 0 0 0) (.hsl k 0 0 1 none) = some (h.set 2 (.arr 0 2 true [[.hsl k 0 0 1 none, .nilS]]) ++ L) := fun L k => by
  have e := get_app e2 L
  rw [← Z7 _ _ lt2]
  simp [astore, putCells, getArr, e, cellsOf, cellOk]
 have s1 : ∀ (L : AHeap) (k j : Nat), astore (h.set 2 (.arr 0 2 true [[.hsl k 0 0 1 none, .nilS]]) ++ L) 1 (.ptr 2 0 0 1) (.hsl j 0 0 1 none) = some (h.set 2 (.arr 0 2 true [[.hsl k 0 0 1 none, .hsl j 0 0 1 none]]) ++ L) := fun L k j => by
  have e := get_app (get_set_eq (y := AObj.arr 0 2 true [[.hsl k 0 0 1 none, .nilS]]) e2) L
  have : h.set 2 (.arr 0 2 true [[.hsl k 0 0 1 none, .hsl j 0 0 1 none]]) ++ L = (h.set 2 (.arr 0 2 true [[.hsl k 0 0 1 none, .nilS]]) ++ L).set 2 (.arr 0 2 true [[.hsl k 0 0 1 none, .hsl j 0 0 1 none]]) := by
   rw [Z7 _ _ (by rw [Z3]; exact lt2), set_set]
  rw [this]
  simp [astore, putCells, getArr, e, cellsOf, cellOk]
 obtain ⟨HX, hHX⟩ : ∃ H, H = h.set 2 (.arr 0 2 true [[.hsl (h.length + 1) 0 0 1 none, .hsl (h.length + 3) 0 0 1 none]]) := ⟨_, rfl⟩
 obtain ⟨HY, hHY⟩ : ∃ H, H = h.set 2 (.arr 0 2 true [[.hsl (h.length + 2) 0 0 1 none, .hsl (h.length + 3) 0 0 1 none]]) := ⟨_, rfl⟩
 have s0X := fun L => s0 L (h.length + 1)
 have s0Y := fun L => s0 L (h.length + 2)
 have s1X := fun L => s1 L (h.length + 1) (h.length + 3)
 have s1Y := fun L => s1 L (h.length + 2) (h.length + 3)
 rw [← hHX] at s1X
 rw [← hHY] at s1Y
 have lX : HX.length = h.length := by rw [hHX, Z3]
 have lY : HY.length = h.length := by rw [hHY, Z3]
 have rO : ∀ (x : Bool) (w : AV), RenV h.length w → RenO h.length (.arr 0 1 x [[w]]) := fun x w hw => renO_arr.2 (renVs_cons hw)
 have lj := low_junk h.length
 have lni := low_nil h.length
 have l0 : ∀ a b c, lowP h.length (.ptr 0 a b c) := fun a b c => low_ptr (by omega)
 have l1 : ∀ a b c, lowP h.length (.ptr 1 a b c) := fun a b c => low_ptr (by omega)
 have l2 : ∀ a b c, lowP h.length (.ptr 2 a b c) := fun a b c => low_ptr (by omega)
 -- one exchange: the second literal and the first list
 have stepYX : swapS (h.length + 2) (h.length + 1) ⟨(J::.ptr 0 0 0 0 :: .ptr 1 0 0 0::J::J::.ptr 2 0 0 0::J::wx::J::J::J::wy::J::J::J::J::J::J::J::J::J::J::J::J::J::J::J::J::J::J::J::J::J::J::J::J::J::J::J::J::J::J::J::J::J::J::J::J::J::J::J::J::J::J::w54 :: w55::J::J::J::J::J::J::J::J::J::J::J::J::J::J::J::J::J::J::J::J::J::J::J::J::J::J::J::J::J::J::J::J::J::J::J::J::J::J::J::.ptr 2 0 0 0 :: .nilS :: wx :: .hsl h.length 0 0 1 none :: .hsl (h.length + 2) 0 0 1 none :: .ptr 2 0 0 1 :: .nilS :: wy :: .hsl (h.length + 1) 0 0 1 none :: .hsl (h.length + 3) 0 0 1 none :: .ptr 2 0 0 0 :: .ptr 2 0 0 1::J::J::J::J::J::J::J::J::J::J::J::J::J::J::J::J::J::J::J::J::J::J::J::J::J::J::J::J::J::J::J::J::J::J::J::J::J::J::J::J::[]), HY ++ [LA, LG, NA, NG]⟩ = ⟨(J::.ptr 0 0 0 0 :: .ptr 1 0 0 0::J::J::.ptr 2 0 0 0::J::wx::J::J::J::wy::J::J::J::J::J::J::J::J::J::J::J::J::J::J::J::J::J::J::J::J::J::J::J::J::J::J::J::J::J::J::J::J::J::J::J::J::J::J::J::J::J::J::w54 :: w55::J::J::J::J::J::J::J::J::J::J::J::J::J::J::J::J::J::J::J::J::J::J::J::J::J::J::J::J::J::J::J::J::J::J::J::J::J::J::J::.ptr 2 0 0 0 :: .nilS :: wx :: .hsl h.length 0 0 1 none :: .hsl (h.length + 1) 0 0 1 none :: .ptr 2 0 0 1 :: .nilS :: wy :: .hsl (h.length + 2) 0 0 1 none :: .hsl (h.length + 3) 0 0 1 none :: .ptr 2 0 0 0 :: .ptr 2 0 0 1::J::J::J::J::J::J::J::J::J::J::J::J::J::J::J::J::J::J::J::J::J::J::J::J::J::J::J::J::J::J::J::J::J::J::J::J::J::J::J::J::[]), HX ++ [LA, NA, LG, NG]⟩ := by
  have rv := fun (x : AV) (hx : RenV h.length x) => hx (h.length + 2) (h.length + 1) (by omega) (by omega)
  have v1 := rv wx rx
  have v2 := rv wy ry
  have v7 := rv w54 r54
  have v8 := rv w55 r55
  have q0 : ∀ a b c, renV (h.length + 2) (h.length + 1) (.ptr 0 a b c) = .ptr 0 a b c := fun a b c => rv _ (renV_ptr (by omega))
  have q1 : ∀ a b c, renV (h.length + 2) (h.length + 1) (.ptr 1 a b c) = .ptr 1 a b c := fun a b c => rv _ (renV_ptr (by omega))
  have q2 : ∀ a b c, renV (h.length + 2) (h.length + 1) (.ptr 2 a b c) = .ptr 2 a b c := fun a b c => rv _ (renV_ptr (by omega))
  have q3 : renV (h.length + 2) (h.length + 1) J = J := rfl
  have q3n : renV (h.length + 2) (h.length + 1) .nilS = .nilS := rfl
  have q4 : renV (h.length + 2) (h.length + 1) (.hsl (h.length + 2) 0 0 1 none) = .hsl (h.length + 1) 0 0 1 none := by simp [renV, tr2_a]
  have q5 : renV (h.length + 2) (h.length + 1) (.hsl (h.length + 1) 0 0 1 none) = .hsl (h.length + 2) 0 0 1 none := by
   have := tr2_b (i := h.length + 2) (j := h.length + 1) (by omega)
   simp [renV, this]
  have q6 : renV (h.length + 2) (h.length + 1) (.hsl h.length 0 0 1 none) = .hsl h.length 0 0 1 none := by
   have := tr2_c (i := h.length + 2) (j := h.length + 1) (k := h.length) (by omega) (by omega)
   simp [renV, this]
  have q7 : renV (h.length + 2) (h.length + 1) (.hsl (h.length + 3) 0 0 1 none) = .hsl (h.length + 3) 0 0 1 none := by
   have := tr2_c (i := h.length + 2) (j := h.length + 1) (k := h.length + 3) (by omega) (by omega)
   simp [renV, this]
  have e0 : HY.map (renO (h.length + 2) (h.length + 1)) = HX := by
   rw [hHY, List.map_set, hr _ _ (by omega) (by omega), hHX]
   congr 1
   simp only [renO,Q7,Z5,renVs,q4,q7]
  have e1 : (HY ++ [LA, LG, NA, NG]).map (renO (h.length + 2) (h.length + 1)) = HX ++ [LA, LG, NA, NG] := by
   rw [Y1, e0, Q7, Q7, Q7, Q7, Z5, hLA, hLG, hNA, hNG, rO true wx rx _ _ (by omega) (by omega), rO true wy ry _ _ (by omega) (by omega), rO false wx rx _ _ (by omega) (by omega), rO false wy ry _ _ (by omega) (by omega)]
  simp only [swapS,renVs,v1,v2,v7,v8,q0,q1,q2,q3,q3n,q4,q5,q6,q7]
  rw [e1]
  have := swapL_3 HX LA LG NA [NG]
  rw [lX] at this
  rw [this]
 -- the two literals
 have stepZY : swapS (h.length + 1) h.length ⟨(J::.ptr 0 0 0 0 :: .ptr 1 0 0 0::J::J::.ptr 2 0 0 0::J::wx::J::J::J::wy::J::J::J::J::J::J::J::J::J::J::J::J::J::J::J::J::J::J::J::J::J::J::J::J::J::J::J::J::J::J::J::J::J::J::J::J::J::J::J::J::J::J::w54 :: w55::J::J::J::J::J::J::J::J::J::J::J::J::J::J::J::J::J::J::J::J::J::J::J::J::J::J::J::J::J::J::J::J::J::J::J::J::J::J::J::.ptr 2 0 0 0 :: .nilS :: wx :: .hsl (h.length + 1) 0 0 1 none :: .hsl (h.length + 2) 0 0 1 none :: .ptr 2 0 0 1 :: .nilS :: wy :: .hsl h.length 0 0 1 none :: .hsl (h.length + 3) 0 0 1 none :: .ptr 2 0 0 0 :: .ptr 2 0 0 1::J::J::J::J::J::J::J::J::J::J::J::J::J::J::J::J::J::J::J::J::J::J::J::J::J::J::J::J::J::J::J::J::J::J::J::J::J::J::J::J::[]), HY ++ [LG, LA, NA, NG]⟩ = ⟨(J::.ptr 0 0 0 0 :: .ptr 1 0 0 0::J::J::.ptr 2 0 0 0::J::wx::J::J::J::wy::J::J::J::J::J::J::J::J::J::J::J::J::J::J::J::J::J::J::J::J::J::J::J::J::J::J::J::J::J::J::J::J::J::J::J::J::J::J::J::J::J::J::w54 :: w55::J::J::J::J::J::J::J::J::J::J::J::J::J::J::J::J::J::J::J::J::J::J::J::J::J::J::J::J::J::J::J::J::J::J::J::J::J::J::J::.ptr 2 0 0 0 :: .nilS :: wx :: .hsl h.length 0 0 1 none :: .hsl (h.length + 2) 0 0 1 none :: .ptr 2 0 0 1 :: .nilS :: wy :: .hsl (h.length + 1) 0 0 1 none :: .hsl (h.length + 3) 0 0 1 none :: .ptr 2 0 0 0 :: .ptr 2 0 0 1::J::J::J::J::J::J::J::J::J::J::J::J::J::J::J::J::J::J::J::J::J::J::J::J::J::J::J::J::J::J::J::J::J::J::J::J::J::J::J::J::[]), HY ++ [LA, LG, NA, NG]⟩ := by
  have rv := fun (x : AV) (hx : RenV h.length x) => hx (h.length + 1) h.length (by omega) (by omega)
  have v1 := rv wx rx
  have v2 := rv wy ry
  have v7 := rv w54 r54
  have v8 := rv w55 r55
  have q0 : ∀ a b c, renV (h.length + 1) h.length (.ptr 0 a b c) = .ptr 0 a b c := fun a b c => rv _ (renV_ptr (by omega))
  have q1 : ∀ a b c, renV (h.length + 1) h.length (.ptr 1 a b c) = .ptr 1 a b c := fun a b c => rv _ (renV_ptr (by omega))
  have q2 : ∀ a b c, renV (h.length + 1) h.length (.ptr 2 a b c) = .ptr 2 a b c := fun a b c => rv _ (renV_ptr (by omega))
  have q3 : renV (h.length + 1) h.length J = J := rfl
  have q3n : renV (h.length + 1) h.length .nilS = .nilS := rfl
  have q4 : renV (h.length + 1) h.length (.hsl (h.length + 1) 0 0 1 none) = .hsl h.length 0 0 1 none := by simp [renV, tr2_a]
  have q5 : renV (h.length + 1) h.length (.hsl h.length 0 0 1 none) = .hsl (h.length + 1) 0 0 1 none := by
   have := tr2_b (i := h.length + 1) (j := h.length) (by omega)
   simp [renV, this]
  have q6 : renV (h.length + 1) h.length (.hsl (h.length + 2) 0 0 1 none) = .hsl (h.length + 2) 0 0 1 none := by
   have := tr2_c (i := h.length + 1) (j := h.length) (k := h.length + 2) (by omega) (by omega)
   simp [renV, this]
  have q7 : renV (h.length + 1) h.length (.hsl (h.length + 3) 0 0 1 none) = .hsl (h.length + 3) 0 0 1 none := by
   have := tr2_c (i := h.length + 1) (j := h.length) (k := h.length + 3) (by omega) (by omega)
   simp [renV, this]
  have e0 : HY.map (renO (h.length + 1) h.length) = HY := by
   rw [hHY, List.map_set, hr _ _ (by omega) (by omega)]
   congr 1
   simp only [renO,Q7,Z5,renVs,q6,q7]
  have e1 : (HY ++ [LG, LA, NA, NG]).map (renO (h.length + 1) h.length) = HY ++ [LG, LA, NA, NG] := by
   rw [Y1, e0, Q7, Q7, Q7, Q7, Z5, hLA, hLG, hNA, hNG, rO true wx rx _ _ (by omega) (by omega), rO true wy ry _ _ (by omega) (by omega), rO false wx rx _ _ (by omega) (by omega), rO false wy ry _ _ (by omega) (by omega)]
  simp only [swapS,renVs,v1,v2,v7,v8,q0,q1,q2,q3,q3n,q4,q5,q6,q7]
  rw [e1]
  have := swapL_2 HY LG LA [NA, NG]
  rw [lY] at this
  rw [this]
 have ps1 : ∀ p ∈ [(h.length + 2, h.length + 1)], h.length ≤ p.1 ∧ h.length ≤ p.2 := fun p hp => by rw [List.mem_singleton] at hp; subst hp; exact ⟨by omega, by omega⟩
 have ps2 : ∀ p ∈ [(h.length + 1, h.length)], h.length ≤ p.1 ∧ h.length ≤ p.2 := fun p hp => by rw [List.mem_singleton] at hp; subst hp; exact ⟨by omega, by omega⟩
 have ps3 : ∀ p ∈ [(h.length + 1, h.length), (h.length + 2, h.length + 1)], h.length ≤ p.1 ∧ h.length ≤ p.2 := fun p hp => by
  rcases List.mem_cons.1 hp with rfl | hp
  ·exact ⟨by omega, by omega⟩
  ·exact ps1 p hp
 have sameY : sameI h.length (some ⟨(J::.ptr 0 0 0 0 :: .ptr 1 0 0 0::J::J::.ptr 2 0 0 0::J::wx::J::J::J::wy::J::J::J::J::J::J::J::J::J::J::J::J::J::J::J::J::J::J::J::J::J::J::J::J::J::J::J::J::J::J::J::J::J::J::J::J::J::J::J::J::J::J::w54 :: w55::J::J::J::J::J::J::J::J::J::J::J::J::J::J::J::J::J::J::J::J::J::J::J::J::J::J::J::J::J::J::J::J::J::J::J::J::J::J::J::.ptr 2 0 0 0 :: .nilS :: wx :: .hsl h.length 0 0 1 none :: .hsl (h.length + 2) 0 0 1 none :: .ptr 2 0 0 1 :: .nilS :: wy :: .hsl (h.length + 1) 0 0 1 none :: .hsl (h.length + 3) 0 0 1 none :: .ptr 2 0 0 0 :: .ptr 2 0 0 1::J::J::J::J::J::J::J::J::J::J::J::J::J::J::J::J::J::J::J::J::J::J::J::J::J::J::J::J::J::J::J::J::J::J::J::J::J::J::J::J::[]), HY ++ [LA, LG, NA, NG]⟩) (some ⟨(J::.ptr 0 0 0 0 :: .ptr 1 0 0 0::J::J::.ptr 2 0 0 0::J::wx::J::J::J::wy::J::J::J::J::J::J::J::J::J::J::J::J::J::J::J::J::J::J::J::J::J::J::J::J::J::J::J::J::J::J::J::J::J::J::J::J::J::J::J::J::J::J::w54 :: w55::J::J::J::J::J::J::J::J::J::J::J::J::J::J::J::J::J::J::J::J::J::J::J::J::J::J::J::J::J::J::J::J::J::J::J::J::J::J::J::.ptr 2 0 0 0 :: .nilS :: wx :: .hsl h.length 0 0 1 none :: .hsl (h.length + 1) 0 0 1 none :: .ptr 2 0 0 1 :: .nilS :: wy :: .hsl (h.length + 2) 0 0 1 none :: .hsl (h.length + 3) 0 0 1 none :: .ptr 2 0 0 0 :: .ptr 2 0 0 1::J::J::J::J::J::J::J::J::J::J::J::J::J::J::J::J::J::J::J::J::J::J::J::J::J::J::J::J::J::J::J::J::J::J::J::J::J::J::J::J::[]), HX ++ [LA, NA, LG, NG]⟩) = true := by
  refine sameI_of (ps := [(h.length + 2, h.length + 1)]) ?_ ?_
  ·have lnZ : (HY ++ [LA, LG, NA, NG]).length = h.length + 4 := by simp [lY]
   simp only [lnZ,fix0]
   rw [fixN (i' := h.length + 2) rfl (by omega) (by omega) (by omega) (by omega) (by omega), Q6]
   have ap : appP [(h.length + 2, h.length + 1)] (h.length + 1) = h.length + 2 := by
    simp only [appP]; exact tr2_b (by omega)
   have ap3 : appP [(h.length + 2, h.length + 1)] (h.length + 3) = h.length + 3 := by
    simp only [appP]; exact tr2_c (by omega) (by omega)
   simp only [fix1 ps1 (l2 _ _ _),fix1 ps1 lni,fix1 ps1 oy,fixJ ap,fixJ ap3,fix1 ps1 lj,fix_nil]
  ·rw [swap_step (by omega) (by omega) (by omega) (by simp [lY]) (by simp [lY]) stepYX]
   rfl
 have sameZ : sameI h.length (some ⟨(J::.ptr 0 0 0 0 :: .ptr 1 0 0 0::J::J::.ptr 2 0 0 0::J::wx::J::J::J::wy::J::J::J::J::J::J::J::J::J::J::J::J::J::J::J::J::J::J::J::J::J::J::J::J::J::J::J::J::J::J::J::J::J::J::J::J::J::J::J::J::J::J::w54 :: w55::J::J::J::J::J::J::J::J::J::J::J::J::J::J::J::J::J::J::J::J::J::J::J::J::J::J::J::J::J::J::J::J::J::J::J::J::J::J::J::.ptr 2 0 0 0 :: .nilS :: wx :: .hsl (h.length + 1) 0 0 1 none :: .hsl (h.length + 2) 0 0 1 none :: .ptr 2 0 0 1 :: .nilS :: wy :: .hsl h.length 0 0 1 none :: .hsl (h.length + 3) 0 0 1 none :: .ptr 2 0 0 0 :: .ptr 2 0 0 1::J::J::J::J::J::J::J::J::J::J::J::J::J::J::J::J::J::J::J::J::J::J::J::J::J::J::J::J::J::J::J::J::J::J::J::J::J::J::J::J::[]), HY ++ [LG, LA, NA, NG]⟩) (some ⟨(J::.ptr 0 0 0 0 :: .ptr 1 0 0 0::J::J::.ptr 2 0 0 0::J::wx::J::J::J::wy::J::J::J::J::J::J::J::J::J::J::J::J::J::J::J::J::J::J::J::J::J::J::J::J::J::J::J::J::J::J::J::J::J::J::J::J::J::J::J::J::J::J::w54 :: w55::J::J::J::J::J::J::J::J::J::J::J::J::J::J::J::J::J::J::J::J::J::J::J::J::J::J::J::J::J::J::J::J::J::J::J::J::J::J::J::.ptr 2 0 0 0 :: .nilS :: wx :: .hsl h.length 0 0 1 none :: .hsl (h.length + 1) 0 0 1 none :: .ptr 2 0 0 1 :: .nilS :: wy :: .hsl (h.length + 2) 0 0 1 none :: .hsl (h.length + 3) 0 0 1 none :: .ptr 2 0 0 0 :: .ptr 2 0 0 1::J::J::J::J::J::J::J::J::J::J::J::J::J::J::J::J::J::J::J::J::J::J::J::J::J::J::J::J::J::J::J::J::J::J::J::J::J::J::J::J::[]), HX ++ [LA, NA, LG, NG]⟩) = true := by
  refine sameI_of (ps := [(h.length + 1, h.length), (h.length + 2, h.length + 1)]) ?_ ?_
  ·have lnZ : (HY ++ [LG, LA, NA, NG]).length = h.length + 4 := by simp [lY]
   simp only [lnZ,fix0]
   rw [fixN (i' := h.length + 1) rfl (by omega) (by omega) (by omega) (by omega) (by omega), Q6]
   have a2 : appP [(h.length + 1, h.length)] (h.length + 2) = h.length + 2 := by
    simp only [appP]; exact tr2_c (by omega) (by omega)
   rw [fixN (i' := h.length + 2) a2 (by omega) (by omega) (by omega) (by omega) (by omega)]
   have e : [(h.length + 1, h.length)] ++ [(h.length + 2, h.length + 1)] = [(h.length + 1, h.length), (h.length + 2, h.length + 1)] := rfl
   rw [e]
   have ap : appP [(h.length + 1, h.length), (h.length + 2, h.length + 1)] h.length = h.length + 2 := by
    simp only [appP]; rw [tr2_b (by omega), tr2_b (by omega)]
   have ap3 : appP [(h.length + 1, h.length), (h.length + 2, h.length + 1)] (h.length + 3) = h.length + 3 := by
    simp only [appP]; rw [tr2_c (i := h.length + 1) (j := h.length) (k := h.length + 3) (by omega) (by omega)]; exact tr2_c (by omega) (by omega)
   simp only [fix1 ps3 (l2 _ _ _),fix1 ps3 lni,fix1 ps3 oy,fixJ ap,fixJ ap3,fix1 ps3 lj,fix_nil]
  ·rw [swap_step (by omega) (by omega) (by omega) (by simp [lY]) (by simp [lY]) stepZY, swap_step (by omega) (by omega) (by omega) (by simp [lY]) (by simp [lY]) stepYX]
   rfl
 refine ⟨_, rfl, ?_⟩
 rw [← hHX, ← hLA, ← hLG, ← hNA, ← hNG]
 simp only [Zaj,Zay,Zaz,Zba,Zbi,Zbk,Zbo,Zbp,Zby,Zci,Zcn,Zcv,Zcx,Zcy,Q4,Q5,Q2,Q3,Zdx,Q0,Q1,Nat.reduceAdd,eq_self,Q0,Q1,Q8,Q6,EQ_pack_Back_0_0,EQ_pack_Back_0_1,EQ_pack_Back_0_2,EQ_pack_Back_0_3,EQ_pack_Back_0_4,EQ_pack_Back_0_5,EQ_pack_Back_0_6,EQ_pack_Back_0_7,EQ_pack_Back_0_8,EQ_pack_Back_0_9,EQ_pack_Back_0_10,EQ_pack_Back_0_11,EQ_pack_Back_0_12,EQ_pack_Back_0_13,EQ_pack_Back_0_14,EQ_pack_Back_0_15,EQ_pack_Back_0_16,EQ_pack_Back_0_17,EQ_pack_Back_0_18,EQ_pack_Back_0_19,EQ_pack_Back_0_20,EQ_pack_Back_0_21,EQ_pack_Back_0_22,EQ_pack_Back_0_23,EQ_pack_Back_0_24,EQ_pack_Back_0_25,EQ_pack_Back_0_26,EQ_pack_Back_0_27,EQ_pack_Back_0_28,EQ_pack_Back_0_29,EQ_pack_Back_0_30,dq_s,ds_n,ds_c,Fst_eq,Y2,Nat.zero_add,Z6,Nat.reduceAdd,ev2,litA,litG,a0,a1,a0n,a1n,aA1,aA2,aA3,aG1,aG2,aG3,s0X,s0Y,s1X,s1Y,ds_i _ _ _ _ sameY,ds_i _ _ _ _ sameZ]
end
end Go.Proofs.Ytkgndbhflehhhaa.Ai
namespace Go.Proofs.Ytkgndbhflehhhaa.Ai
open Go Go.Proofs
open AV renaming junk → J
open List renaming length_cons → Q0, length_nil → Q1, getD_cons_zero → Q2, getD_cons_succ → Q3, set_cons_zero → Q4, set_cons_succ → Q5, nil_append → Q6, map_cons → Q7, cons_append → Q8, replicate_succ → Q9, replicate_zero → Z0, length_set → Z3, map_nil → Z5, append_assoc → Z6, set_append_left → Z7, range'_succ → Z9, append_nil → Y0, map_append → Y1, length_append → Y2, range' → Y3
open Option.some renaming injEq → Z1
open Option renaming map_some → Z2
open Nat renaming ble_eq_true_of_le → Z4, le_refl → Z8
set_option linter.unusedVariables false
set_option linter.unusedSimpArgs false
set_option maxRecDepth 10000
set_option maxHeartbeats 4000000
theorem OwnG.hsl {rows : List (List AV)} {v : AV} {h : AHeap} {q : Option Nat} (ho : OwnG 1 rows v h q) (hne : rows ≠ []) : ∃ i ver, q = some i ∧ v = .hsl i ver 0 rows.length none ∧ h[i]? = some (.arr ver 1 false rows) := by
 rcases ho with ⟨h1, _⟩ | ⟨_, i, ver, h2, h3, h4⟩
 ·exact absurd h1 hne
 ·exact ⟨i, ver, h2, h3, h4⟩
section
variable {wx wy w54 w55 : AV} {h : AHeap}
theorem draw_any {csA csG : List (List AV)} {wA wG : AV} {qA qG : Option Nat} (oA : OwnG 1 csA wA h qA) (oG : OwnG 1 csG wG h qG) (hs : csA = [] ↔ csG = []) (e2 : h[2]? = some (.arr 0 2 true [[wA, wG]])) (hne : ∀ i, qA = some i → qG ≠ some i) (h2A : qA ≠ some 2) (h2G : qG ≠ some 2)
  (allA : csA.all (fun c => c.length == 1 && c.all cellOk) = true) (allG : csG.all (fun c => c.length == 1 && c.all cellOk) = true) (lA : csA.length ≤ 1000000) (lG : csG.length ≤ 1000000)
  (px : pure1 wx = false) (py : pure1 wy = false) (hx : cellsOf wx = [wx] ∧ cellOk wx = true) (hy : cellsOf wy = [wy] ∧ cellOk wy = true) (rx : RenV h.length wx) (ry : RenV h.length wy) (ox : lowP h.length wx) (oy : lowP h.length wy) (r54 : RenV h.length w54) (r55 : RenV h.length w55) (o54 : lowP h.length w54) (o55 : lowP h.length w55) (hr : Ren h.length h) :
  ∃ (x95 x96 x97 x98 x99 x100 x101 x102 x103 x104 x105 x106 : AV) (h' : AHeap) (wA' wG' : AV) (iA iG : Nat),
   eq3 (lim G0.cfg) DL_pack_Back_0 DW_pack_Back_0 DS_pack_Back_0 h.length 14 [false, false, false, false, false, false, false, false, false, false, false, false, false, false] (J::.ptr 0 0 0 0 :: .ptr 1 0 0 0::J::J::.ptr 2 0 0 0::J::wx::J::J::J::wy::J::J::J::J::J::J::J::J::J::J::J::J::J::J::J::J::J::J::J::J::J::J::J::J::J::J::J::J::J::J::J::J::J::J::J::J::J::J::J::J::J::J::w54 :: w55::J::J::J::J::J::J::J::J::J::J::J::J::J::J::J::J::J::J::J::J::J::J::J::J::J::J::J::J::J::J::J::J::J::J::J::J::J::J::J::J::J::J::J::J::J::J::J::J::J::J::J::J::J::J::J::J::J::J::J::J::J::J::J::J::J::J::J::J::J::J::J::J::J::J::J::J::J::J::J::J::J::J::J::J::J::J::J::J::J::J::J::[]) h =
    some ⟨(J::.ptr 0 0 0 0 :: .ptr 1 0 0 0::J::J::.ptr 2 0 0 0::J::wx::J::J::J::wy::J::J::J::J::J::J::J::J::J::J::J::J::J::J::J::J::J::J::J::J::J::J::J::J::J::J::J::J::J::J::J::J::J::J::J::J::J::J::J::J::J::J::w54 :: w55::J::J::J::J::J::J::J::J::J::J::J::J::J::J::J::J::J::J::J::J::J::J::J::J::J::J::J::J::J::J::J::J::J::J::J::J::J::J::J::x95 :: x96 :: x97 :: x98 :: x99 :: x100 :: x101 :: x102 :: x103 :: x104 :: x105 :: x106::J::J::J::J::J::J::J::J::J::J::J::J::J::J::J::J::J::J::J::J::J::J::J::J::J::J::J::J::J::J::J::J::J::J::J::J::J::J::J::J::[]), h'⟩ ∧
   h'[2]? = some (.arr 0 2 true [[wA', wG']]) ∧ OwnG 1 (csA ++ [[wx]]) wA' h' (some iA) ∧ OwnG 1 (csG ++ [[wy]]) wG' h' (some iG) ∧ (∀ (j : Nat) (o : AObj), h[j]? = some o → j ≠ 2 → qA ≠ some j → qG ≠ some j → h'[j]? = some o) ∧ (qA = some iA ∨ (qA = none ∧ h.length ≤ iA)) ∧ (qG = some iG ∨ (qG = none ∧ h.length ≤ iG)) ∧ iA ≠ iG ∧ h.length ≤ h'.length ∧ Ren h'.length h' := by
 have lt2 := get_len e2
 have rO : ∀ (v : Nat) (x : Bool) (w : AV), RenV h.length w → RenO h.length (.arr v 1 x [[w]]) := fun v x w hw => renO_arr.2 (renVs_cons hw)
 by_cases cA : csA = []
 ·have cG := hs.1 cA
  subst cA; subst cG
  obtain ⟨rfl, rfl⟩ : wA = .nilS ∧ qA = none := by
   rcases oA with ⟨_, a, b⟩ | ⟨a, _⟩
   ·exact ⟨a, b⟩
   ·exact absurd rfl a
  obtain ⟨rfl, rfl⟩ : wG = .nilS ∧ qG = none := by
   rcases oG with ⟨_, a, b⟩ | ⟨a, _⟩
   ·exact ⟨a, b⟩
   ·exact absurd rfl a
  obtain ⟨t', ht, e⟩ := draw_0 e2 px py hx hy rx ry ox oy r54 r55 o54 o55 hr
  rw [ht] at e
  obtain ⟨hX, hhX⟩ : ∃ H, H = h.set 2 (.arr 0 2 true [[.hsl (h.length + 1) 0 0 1 none, .hsl (h.length + 3) 0 0 1 none]]) := ⟨_, rfl⟩
  have lX : hX.length = h.length := by rw [hhX, Z3]
  rw [← hhX] at e
  refine ⟨_, _, _, _, _, _, _, _, _, _, _, _, _, .hsl (h.length + 1) 0 0 1 none, .hsl (h.length + 3) 0 0 1 none, h.length + 1, h.length + 3, e, ?_, ?_, ?_, ?_, .inr ⟨rfl, by omega⟩, .inr ⟨rfl, by omega⟩, by omega, by simp [lX], ?_⟩
  ·refine get_app ?_ _
   rw [hhX]; exact get_set_eq e2
  ·refine .inr ⟨by simp, h.length + 1, 0, rfl, rfl, ?_⟩
   rw [← lX, hap_get]; rfl
  ·refine .inr ⟨by simp, h.length + 3, 0, rfl, rfl, ?_⟩
   rw [← lX, hap_get]; rfl
  ·intro j o ej n2 _ _
   refine get_app ?_ _
   rw [hhX]; exact get_set_ne ej n2.symm
  ·have R0 : Ren (h.length + 4) hX := by
    rw [hhX]
    refine (hr.mono (by omega)).set (renO_arr.2 (fun i j hi hj => ?_)) 2
    simp [renVs, renV, tr2_lt hi hj (show h.length + 1 < h.length + 4 by omega), tr2_lt hi hj (show h.length + 3 < h.length + 4 by omega)]
   have e4 : (hX ++ [AObj.arr 0 1 true [[wx]], .arr 0 1 false [[wx]], .arr 0 1 true [[wy]], .arr 0 1 false [[wy]]]).length = h.length + 4 := by simp [lX]
   rw [e4]
   have := (((R0.push ((rO 0 true wx rx).mono (by omega))).push ((rO 0 false wx rx).mono (by omega))).push ((rO 0 true wy ry).mono (by omega))).push ((rO 0 false wy ry).mono (by omega))
   simpa using this
 ·have cG : csG ≠ [] := fun k => cA (hs.2 k)
  obtain ⟨iA, vA, rfl, rfl, hA⟩ := oA.hsl cA
  obtain ⟨iG, vG, rfl, rfl, hG⟩ := oG.hsl cG
  have nAG : iA ≠ iG := fun k => hne iA rfl (by rw [k])
  have n2A : iA ≠ 2 := fun k => h2A (by rw [k])
  have n2G : iG ≠ 2 := fun k => h2G (by rw [k])
  obtain ⟨t', ht, e⟩ := draw_n hA hG e2 nAG n2A n2G cA cG allA allG lA lG px py hx hy rx ry ox oy r54 r55 o54 o55 hr
  rw [ht] at e
  have ltA := get_len hA
  have ltG := get_len hG
  obtain ⟨h1, hh1⟩ : ∃ H, H = h.set iA (.arr (vA + 1) 1 false (csA ++ [[wx]])) := ⟨_, rfl⟩
  obtain ⟨h2, hh2⟩ : ∃ H, H = h1.set iG (.arr (vG + 1) 1 false (csG ++ [[wy]])) := ⟨_, rfl⟩
  obtain ⟨h3, hh3⟩ : ∃ H, H = h2.set 2 (.arr 0 2 true [[.hsl iA (vA + 1) 0 (csA.length + 1) none, .hsl iG (vG + 1) 0 (csG.length + 1) none]]) := ⟨_, rfl⟩
  rw [← hh1, ← hh2, ← hh3] at e
  have l3 : h3.length = h.length := by rw [hh3, Z3, hh2, Z3, hh1, Z3]
  have e21 : h1[2]? = some (.arr 0 2 true [[.hsl iA vA 0 csA.length none, .hsl iG vG 0 csG.length none]]) := by rw [hh1]; exact get_set_ne e2 n2A
  have e22 : h2[2]? = some (.arr 0 2 true [[.hsl iA vA 0 csA.length none, .hsl iG vG 0 csG.length none]]) := by rw [hh2]; exact get_set_ne e21 n2G
  have hA1 : h1[iA]? = some (.arr (vA + 1) 1 false (csA ++ [[wx]])) := by rw [hh1]; exact get_set_eq hA
  have hA3 : h3[iA]? = some (.arr (vA + 1) 1 false (csA ++ [[wx]])) := by rw [hh3, hh2]; exact get_set_ne (get_set_ne hA1 nAG.symm) n2A.symm
  have hG1 : h1[iG]? = some (.arr vG 1 false csG) := by rw [hh1]; exact get_set_ne hG nAG
  have hG3 : h3[iG]? = some (.arr (vG + 1) 1 false (csG ++ [[wy]])) := by rw [hh3, hh2]; exact get_set_ne (get_set_eq hG1) n2G.symm
  refine ⟨_, _, _, _, _, _, _, _, _, _, _, _, _, .hsl iA (vA + 1) 0 (csA.length + 1) none, .hsl iG (vG + 1) 0 (csG.length + 1) none, iA, iG, e, ?_, ?_, ?_, ?_, .inl rfl, .inl rfl, nAG, by simp [l3], ?_⟩
  ·refine get_app ?_ _
   rw [hh3]; exact get_set_eq e22
  ·exact .inr ⟨by simp, iA, vA + 1, rfl, by simp, get_app hA3 _⟩
  ·exact .inr ⟨by simp, iG, vG + 1, rfl, by simp, get_app hG3 _⟩
  ·intro j o ej n2 nA nG
   refine get_app ?_ _
   rw [hh3, hh2, hh1]
   exact get_set_ne (get_set_ne (get_set_ne ej (fun k => nA (by rw [k]))) (fun k => nG (by rw [k]))) n2.symm
  ·have R3 : Ren h.length h3 := by
    rw [hh3, hh2, hh1]
    refine ((hr.set (renO_arr.2 ((renO_arr.1 (hr.get hA)).append (renVs_cons rx))) iA).set (renO_arr.2 ((renO_arr.1 (hr.get hG)).append (renVs_cons ry))) iG).set (renO_arr.2 (fun i j hi hj => ?_)) 2
    simp [renVs, renV, tr2_lt hi hj ltA, tr2_lt hi hj ltG]
   have e4 : (h3 ++ [AObj.arr 0 1 true [[wx]], .arr 0 1 true [[wy]]]).length = h.length + 2 := by simp [l3]
   rw [e4]
   have := ((R3.mono (show h.length ≤ h.length + 2 by omega)).push ((rO 0 true wx rx).mono (by omega))).push ((rO 0 true wy ry).mono (by omega))
   simpa using this
end
def okAll (p : PackD) (tm s d : Nat) : Bool := (Y3 s d).all fun k => okA p k 0 tm
def actsB (p : PackD) (tm s d : Nat) : List (List (List (Int × Int))) := (Y3 s d).map fun k => rowA p k 0 tm
def gotosB (p : PackD) (nt s d : Nat) : List (List Int) := (Y3 s d).map fun k => rowG p k 0 nt
theorem rowA_len (p : PackD) (s i d : Nat) : (rowA p s i d).length = d := by simp [rowA]
theorem rowG_len (p : PackD) (s i d : Nat) : (rowG p s i d).length = d := by simp [rowG]
section
variable {p : PackD} {ca cg : List AV}
theorem back_0 (hA : RT p.a ca) (hG : RT p.g cg) (kA : RtOk p.a) (kG : RtOk p.g) (tm nt n N : Nat) (htm : p.tms = tm) (hnt : p.nts = nt) (tm1 : 1 ≤ tm ∧ tm ≤ 1000) (nt1 : 1 ≤ nt ∧ nt ≤ 1000) (hn : n ≤ 100000) (hN : 2000 ≤ N) :
  ∀ (d s m : Nat) (A : List (List (List (Int × Int)))) (G : List (List Int)) (h : AHeap) (wA wG : AV) (csA csG : List (List AV)) (qA qG : Option Nat) (S : Nat → Prop), n = s + d → d < m → h[0]? = some (.arr 0 10 true [[.int .i64 p.tms, .int .i64 p.nts] ++ ca ++ cg]) → h[1]? = some (.arr 0 2 true [[.nilS, .nilS]]) → h[2]? = some (.arr 0 2 true [[wA, wG]]) →
   OwnG 1 csA wA h qA → Nest eCs A csA h S → OwnG 1 csG wG h qG → Nest eIs G csG h S → (∀ i, S i → 3 ≤ i ∧ i < h.length) → (∀ i, qA = some i → 3 ≤ i ∧ ¬ S i) → (∀ i, qG = some i → 3 ≤ i ∧ ¬ S i) → (∀ i, qA = some i → qG ≠ some i) → A.length = s → G.length = s → Ren h.length h →
  (okAll p tm s d = true → ∃ (h' : AHeap) (wA' wG' : AV) (csA' csG' : List (List AV)) (qA' qG' : Option Nat) (S' : Nat → Prop), loopN (evalCode (lim G0.cfg) N B_pack_Back_0) m ⟨(J::.ptr 0 0 0 0 :: .ptr 1 0 0 0::J::J::.ptr 2 0 0 0::J::J::J::J::J::J::J::J::J::J::J::J::J::J::J::J::J::J::J::J::J::J::J::J::J::J::J::J::J::J::J::J::J::J::J::J::J::J::J::J::J::J::J::J::J::J::J::J::.int .i64 n :: .int .i64 s::J::J::J::J::J::J::J::J::J::J::J::J::J::J::J::J::J::J::J::J::J::J::J::J::J::J::J::J::J::J::J::J::J::J::J::J::J::J::J::J::J::J::J::J::J::J::J::J::J::J::J::J::J::J::J::J::J::J::J::J::J::J::J::J::J::J::J::J::J::J::J::J::J::J::J::J::J::J::J::J::J::J::J::J::J::J::J::J::J::J::J::[]), h⟩ = some (.exit 0, ⟨(J::.ptr 0 0 0 0 :: .ptr 1 0 0 0::J::J::.ptr 2 0 0 0::J::J::J::J::J::J::J::J::J::J::J::J::J::J::J::J::J::J::J::J::J::J::J::J::J::J::J::J::J::J::J::J::J::J::J::J::J::J::J::J::J::J::J::J::J::J::J::J::J::J::J::J::J::J::J::J::J::J::J::J::J::J::J::J::J::J::J::J::J::J::J::J::J::J::J::J::J::J::J::J::J::J::J::J::J::J::J::J::J::J::J::J::J::J::J::J::J::J::J::J::J::J::J::J::J::J::J::J::J::J::J::J::J::J::J::J::J::J::J::J::J::J::J::J::J::J::J::J::J::J::J::J::J::J::J::J::J::J::J::J::J::[]), h'⟩) ∧
   h'[0]? = some (.arr 0 10 true [[.int .i64 p.tms, .int .i64 p.nts] ++ ca ++ cg]) ∧ h'[1]? = some (.arr 0 2 true [[.nilS, .nilS]]) ∧ h'[2]? = some (.arr 0 2 true [[wA', wG']]) ∧ OwnG 1 csA' wA' h' qA' ∧ Nest eCs (A ++ actsB p tm s d) csA' h' S' ∧ OwnG 1 csG' wG' h' qG' ∧ Nest eIs (G ++ gotosB p nt s d) csG' h' S' ∧ (∀ i, S' i → 3 ≤ i) ∧ (∀ i, qA' = some i → 3 ≤ i) ∧ (∀ i, qG' = some i → 3 ≤ i)) ∧
  (okAll p tm s d = false → ∃ h', loopN (evalCode (lim G0.cfg) N B_pack_Back_0) m ⟨(J::.ptr 0 0 0 0 :: .ptr 1 0 0 0::J::J::.ptr 2 0 0 0::J::J::J::J::J::J::J::J::J::J::J::J::J::J::J::J::J::J::J::J::J::J::J::J::J::J::J::J::J::J::J::J::J::J::J::J::J::J::J::J::J::J::J::J::J::J::J::J::.int .i64 n :: .int .i64 s::J::J::J::J::J::J::J::J::J::J::J::J::J::J::J::J::J::J::J::J::J::J::J::J::J::J::J::J::J::J::J::J::J::J::J::J::J::J::J::J::J::J::J::J::J::J::J::J::J::J::J::J::J::J::J::J::J::J::J::J::J::J::J::J::J::J::J::J::J::J::J::J::J::J::J::J::J::J::J::J::J::J::J::J::J::J::J::J::J::J::J::[]), h⟩ = some (.ret, ⟨(J::J::.ptr 1 0 0 0 :: .int .i64 34::J::J::J::J::J::J::J::J::J::J::J::J::J::J::J::J::J::J::J::J::J::J::J::J::J::J::J::J::J::J::J::J::J::J::J::J::J::J::J::J::J::J::J::J::J::J::J::J::J::J::J::J::J::J::J::J::J::J::J::J::J::J::J::J::J::J::J::J::J::J::J::J::J::J::J::J::J::J::J::J::J::J::J::J::J::J::J::J::J::J::J::J::J::J::J::J::J::J::J::J::J::J::J::J::J::J::J::J::J::J::J::J::J::J::J::J::J::J::J::J::J::J::J::J::J::J::J::J::J::J::J::J::J::J::J::J::J::J::J::J::J::J::J::[]), h'⟩) ∧ h'[1]? = some (.arr 0 2 true [[.nilS, .nilS]])) := by
 intro d
 induction d with
 | zero =>
  intro s m A G h wA wG csA csG qA qG S h1 h2 e0 e1 e2 oA nA oG nG hS hqA hqG hq lA lG hr
  obtain ⟨m, rfl⟩ : ∃ q, m = q + 1 := ⟨m - 1, by omega⟩
  have h3 : ¬ ((s : Int) < n) := by omega
  have r1 : actsB p tm s 0 = [] := rfl
  have r2 : gotosB p nt s 0 = [] := rfl
  rw [r1, r2, Y0, Y0]
  refine ⟨fun _ => ⟨h, wA, wG, csA, csG, qA, qG, S, ?_, e0, e1, e2, oA, nA, oG, nG, fun i k => (hS i k).1, fun i k => (hqA i k).1, fun i k => (hqG i k).1⟩, fun e => (by cases e)⟩
  simp only [loop_e,EB_pack_Back_0,Zab,Zac,Zad,Zag,Zah,Zaj,Zak,Zal,Zas,Zav,Zay,Zbi,Zbq,Zcv,Zcx,Zdb,Zdc,Zdd,Q4,Q5,Q2,Q3,Zdh,decide_false,eq_self,h3]
 | succ d ih =>
  intro s m A G h wA wG csA csG qA qG S h1 h2 e0 e1 e2 oA nA oG nG hS hqA hqG hq lA lG hr
  obtain ⟨m, rfl⟩ : ∃ q, m = q + 1 := ⟨m - 1, by omega⟩
  have h3' : (s : Int) < n := by omega
  have hw := w64s (n := s) (by omega)
  have len3 : 3 ≤ h.length := by have := get_len e2; omega
  have o1 : okAll p tm s (d + 1) = (okA p s 0 tm && okAll p tm (s + 1) d) := by unfold okAll; rw [Z9, List.all_cons]
  have o2 : actsB p tm s (d + 1) = rowA p s 0 tm :: actsB p tm (s + 1) d := by unfold actsB; rw [Z9, Q7]
  have o3 : gotosB p nt s (d + 1) = rowG p s 0 nt :: gotosB p nt (s + 1) d := by unfold gotosB; rw [Z9, Q7]
  rw [o1, o2, o3]
  obtain ⟨_, _, lt, ln⟩ := back_box hA hG h e0
  rw [htm] at lt
  obtain ⟨k1, k2⟩ := back_1 (w54 := .int .i64 n) (w55 := .int .i64 s) (B := h.length) hA hG kA s tm N tm1.2 len3 tm 0 N [] h .nilS none (by omega) (by omega) e0 e1 (OwnG.nil 1 _) (fun _ e => by cases e) (Z8 _) rfl hr
  rw [z0, Q6] at k1
  rw [z0] at k2
  by_cases c : okA p s 0 tm = true
  case neg =>
   have c' : okA p s 0 tm = false := by simpa using c
   obtain ⟨h', e, e1'⟩ := k2 c'
   rw [c', Bool.false_and]
   refine ⟨fun e => (by cases e), fun _ => ⟨h', ?_, e1'⟩⟩
   simp only [loop_e,EB_pack_Back_0,Zaa,Zab,Zac,Zad,Zae,Zaf,Zag,Zaj,Zak,Zam,Zao,Zar,Zat,Zaw,Zay,Zbi,Zbk,Zbo,Zbq,Zby,Zcv,Zcw,Zcx,Zdb,Zdc,Zdd,Q4,Q5,Q2,Q3,Zdh,Zdx,decide_true,Nat.reduceAdd,eq_self,lt,h3',e]
  case pos =>
  obtain ⟨h4, wx, qx, e4, ox, bx, l4, f4, r4⟩ := k1 c
  rw [c, Bool.true_and]
  obtain ⟨_, _, _, ln4⟩ := back_box hA hG h4 (f4 0 _ (by omega) e0)
  rw [hnt] at ln4
  obtain ⟨h5, wy, qy, e5, oy, by', l5, f5, r5⟩ := back_2 (w7 := wx) (w54 := .int .i64 n) (w55 := .int .i64 s) (B := h4.length) hA hG kG s nt N nt1.2 (by omega) nt 0 N [] h4 .nilS none (by omega) (by omega) (f4 0 _ (by omega) e0) (OwnG.nil 1 _) (fun _ e => by cases e) (Z8 _) rfl r4
  rw [z0] at e5
  rw [Q6] at oy
  have up5 : ∀ (j : Nat) (o : AObj), j < h.length → h[j]? = some o → h5[j]? = some o := fun j o hj e => f5 j o (by omega) (f4 j o hj e)
  have qxl : ∀ i, qx = some i → i < h4.length := fun i e => by rw [e] at ox; exact ox.lt
  have qyl : ∀ i, qy = some i → i < h5.length := fun i e => by rw [e] at oy; exact oy.lt
  have ox5 := ox.frame (h' := h5) fun i o e k => f5 i o (qxl i e) k
  have qAl : ∀ i, qA = some i → i < h.length := fun i e => by rw [e] at oA; exact oA.lt
  have qGl : ∀ i, qG = some i → i < h.length := fun i e => by rw [e] at oG; exact oG.lt
  have oA5 := oA.frame (h' := h5) fun i o e k => up5 i o (qAl i e) k
  have oG5 := oG.frame (h' := h5) fun i o e k => up5 i o (qGl i e) k
  have nA5 := nA.frame (h' := h5) fun i o e k => up5 i o (hS i e).2 k
  have nG5 := nG.frame (h' := h5) fun i o e k => up5 i o (hS i e).2 k
  obtain ⟨ix, vx, qxe, wxe, _⟩ := ox5.hsl (by intro k; have := congrArg List.length k; rw [eCs_len, rowA_len] at this; simp at this; omega)
  obtain ⟨iy, vy, qye, wye, _⟩ := oy.hsl (by intro k; have := congrArg List.length k; rw [Zep, rowG_len] at this; simp at this; omega)
  have ltx : ix < h5.length := by have := qxl ix qxe; omega
  have lty : iy < h5.length := qyl iy qye
  obtain ⟨x95, x96, x97, x98, x99, x100, x101, x102, x103, x104, x105, x106, h6, wA', wG', iA, iG, ed, g2, gA, gG, gf, gqA, gqG, gne, gl, gr⟩ := draw_any (wx := wx) (wy := wy) (w54 := .int .i64 n) (w55 := .int .i64 s) oA5 oG5 (by rw [← List.length_eq_zero_iff, ← List.length_eq_zero_iff, nA.len, nG.len, lA, lG]) (up5 2 _ (by omega) e2) hq (fun k => by have := (hqA 2 k).1; omega) (fun k => by have := (hqG 2 k).1; omega) nA5.all nG5.all (by rw [nA.len]; omega) (by rw [nG.len]; omega)
   (by rw [wxe]; rfl) (by rw [wye]; rfl) ox5.cell oy.cell (by rw [wxe]; exact renV_hsl ltx) (by rw [wye]; exact renV_hsl lty) (by rw [wxe]; exact low_hsl ltx) (by rw [wye]; exact low_hsl lty) (renV_int _ _ _) (renV_int _ _ _) (low_int _ _ _) (low_int _ _ _) r5
  obtain ⟨S', hS'⟩ : ∃ S' : Nat → Prop, S' = fun i => S i ∨ qx = some i ∨ qy = some i := ⟨_, rfl⟩
  have lS' : ∀ i, S' i → 3 ≤ i ∧ i < h5.length := fun i hs => by
   rw [hS'] at hs
   rcases hs with hs | hs | hs
   ·have := hS i hs; omega
   ·have := bx i hs; have := qxl i hs; omega
   ·have := by' i hs; have := qyl i hs; omega
  have nSA : ∀ i, qA = some i → ¬ S' i := fun i e hs => by
   rw [hS'] at hs
   rcases hs with hs | hs | hs
   ·exact (hqA i e).2 hs
   ·have := bx i hs; have := qAl i e; omega
   ·have := by' i hs; have := qAl i e; omega
  have nSG : ∀ i, qG = some i → ¬ S' i := fun i e hs => by
   rw [hS'] at hs
   rcases hs with hs | hs | hs
   ·exact (hqG i e).2 hs
   ·have := bx i hs; have := qGl i e; omega
   ·have := by' i hs; have := qGl i e; omega
  have fS : ∀ (i : Nat) (o : AObj), S' i → h5[i]? = some o → h6[i]? = some o := fun i o hs e => gf i o e (by have := (lS' i hs).1; omega) (fun k => nSA i k hs) (fun k => nSG i k hs)
  have nA6 := ((nA5.mono (S' := S') (fun i k => by rw [hS']; exact .inl k)).push (x := rowA p s 0 tm) ox5 (fun i k => by rw [hS']; exact .inr (.inl k))).frame fS
  have nG6 := ((nG5.mono (S' := S') (fun i k => by rw [hS']; exact .inl k)).push (x := rowG p s 0 nt) oy (fun i k => by rw [hS']; exact .inr (.inr k))).frame fS
  have nq0 : ∀ k, k < 3 → qA ≠ some k ∧ qG ≠ some k := fun k hk => ⟨fun e => by have := (hqA k e).1; omega, fun e => by have := (hqG k e).1; omega⟩
  obtain ⟨k1, k2⟩ := ih (s + 1) m (A ++ [rowA p s 0 tm]) (G ++ [rowG p s 0 nt]) h6 wA' wG' (csA ++ [[wx]]) (csG ++ [[wy]]) (some iA) (some iG) S' (by omega) (by omega) (gf 0 _ (up5 0 _ (by omega) e0) (by omega) (nq0 0 (by omega)).1 (nq0 0 (by omega)).2) (gf 1 _ (up5 1 _ (by omega) e1) (by omega) (nq0 1 (by omega)).1 (nq0 1 (by omega)).2) g2 gA nA6 gG nG6 (fun i hs => by have := lS' i hs; omega)
   (fun i e => by
    cases e
    rcases gqA with k | ⟨_, k⟩
    ·exact ⟨(hqA _ k).1, nSA _ k⟩
    ·exact ⟨by omega, fun hs => by have := lS' _ hs; omega⟩)
   (fun i e => by
    cases e
    rcases gqG with k | ⟨_, k⟩
    ·exact ⟨(hqG _ k).1, nSG _ k⟩
    ·exact ⟨by omega, fun hs => by have := lS' _ hs; omega⟩)
   (fun i e f => by cases e; cases f; exact gne rfl) (by simp [lA]) (by simp [lG]) gr
  have run : loopN (evalCode (lim G0.cfg) N B_pack_Back_0) (m + 1) ⟨(J::.ptr 0 0 0 0 :: .ptr 1 0 0 0::J::J::.ptr 2 0 0 0::J::J::J::J::J::J::J::J::J::J::J::J::J::J::J::J::J::J::J::J::J::J::J::J::J::J::J::J::J::J::J::J::J::J::J::J::J::J::J::J::J::J::J::J::J::J::J::J::.int .i64 n :: .int .i64 s::J::J::J::J::J::J::J::J::J::J::J::J::J::J::J::J::J::J::J::J::J::J::J::J::J::J::J::J::J::J::J::J::J::J::J::J::J::J::J::J::J::J::J::J::J::J::J::J::J::J::J::J::J::J::J::J::J::J::J::J::J::J::J::J::J::J::J::J::J::J::J::J::J::J::J::J::J::J::J::J::J::J::J::J::J::J::J::J::J::J::J::[]), h⟩ = loopN (evalCode (lim G0.cfg) N B_pack_Back_0) m ⟨(J::.ptr 0 0 0 0 :: .ptr 1 0 0 0::J::J::.ptr 2 0 0 0::J::J::J::J::J::J::J::J::J::J::J::J::J::J::J::J::J::J::J::J::J::J::J::J::J::J::J::J::J::J::J::J::J::J::J::J::J::J::J::J::J::J::J::J::J::J::J::J::.int .i64 n :: .int .i64 (s + 1 : Nat)::J::J::J::J::J::J::J::J::J::J::J::J::J::J::J::J::J::J::J::J::J::J::J::J::J::J::J::J::J::J::J::J::J::J::J::J::J::J::J::J::J::J::J::J::J::J::J::J::J::J::J::J::J::J::J::J::J::J::J::J::J::J::J::J::J::J::J::J::J::J::J::J::J::J::J::J::J::J::J::J::J::J::J::J::J::J::J::J::J::J::J::[]), h6⟩ := by
   simp only [loop_e,EB_pack_Back_0,Zaa,Zab,Zac,Zad,Zae,Zaf,Zag,Zaj,Zak,Zan,Zap,Zar,Zat,Zau,Zay,Zbi,Zbk,Zbo,Zbq,Zby,Zcv,Zcw,Zcx,Zdb,Zdc,Zdd,Q4,Q5,Q2,Q3,Zde,Zdh,Zdx,decide_true,Nat.reduceAdd,eq_self,lt,h3',e4,ln4,e5,ED_pack_Back_0,ed,dwf_s,hw]
  rw [run]
  refine ⟨fun hk => ?_, k2⟩
  obtain ⟨h', a1, a2, a3, a4, a5, a6, a7, b1, b2, b3, b4, b5, b6, b7, b8, b9⟩ := k1 hk
  refine ⟨h', a1, a2, a3, a4, a5, a6, a7, b1, b2, b3, b4, b5, ?_, b7, ?_, b9⟩
  ·rw [Z6] at b6; exact b6
  ·rw [Z6] at b8; exact b8
end
end Go.Proofs.Ytkgndbhflehhhaa.Ai
