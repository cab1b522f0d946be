/- pack.Lay: the order in which the rows are placed. -/
import Derived.Test.YtkgndbhflehhhaapPlz
namespace Go.Proofs.Ytkgndbhflehhhaa.Ai
open Go Go.Proofs
set_option linter.unusedVariables false
set_option linter.unusedSimpArgs false
set_option maxRecDepth 10000
set_option maxHeartbeats 4000000

def iotaI (n : Nat) : List Int := (List.range n).map fun (k : Nat) => (k : Int)
theorem iotaI_len (n : Nat) : (iotaI n).length = n := by simp [iotaI]
theorem iotaI_succ (n : Nat) : iotaI (n + 1) = iotaI n ++ [(n : Int)] := by simp [iotaI, List.range_succ]
theorem iotaI_lt (n : Nat) : (iotaI n).Pairwise (· < ·) := by
  unfold iotaI
  rw [List.pairwise_map]
  exact List.Pairwise.imp (fun h => by omega) List.pairwise_lt_range
theorem iotaI_mem {n : Nat} {x : Int} : x ∈ iotaI n ↔ 0 ≤ x ∧ x < n := by
  unfold iotaI
  simp only [List.mem_map,List.mem_range]
  constructor
  · rintro ⟨k, h1, rfl⟩; omega
  · rintro ⟨h1, h2⟩; exact ⟨x.toNat, by omega, by omega⟩

theorem f_Lay_fill (n L : Nat) (hn : n ≤ 1000000) (N : Nat) : ∀ (d i m : Nat) (h : AHeap), n = i + d → d < m → h[L]? = some (.arr 0 1 true (eIs (iotaI i ++ List.replicate d 0))) →
    loopN (evalCode (lim G0.cfg) N B_pack_Lay_1) m ⟨(.junk::.junk :: .ptr 0 0 0 0 :: .ptr 1 0 0 0 :: .ptr 2 0 0 0 :: .junk::.junk::.junk :: .hsl L 0 0 n none :: .junk::.junk::.junk::.junk::.junk::.junk::.junk::.junk::.junk::.junk::.junk::.junk::.junk::.junk::.junk::.junk::.junk::.junk::.junk::.junk::.junk::.junk::.junk::.junk::.junk::.junk::.junk::.junk::.junk::.junk::.junk::.junk::.junk::.junk::.junk::.junk :: .int .i64 n :: .int .i64 i :: .junk::.junk::.junk::.junk::.junk::.junk::.junk::.junk::.junk::.junk::.junk::.junk::.junk::.junk::.junk::.junk::.junk::.junk::.junk::.junk::.junk::.junk::.junk::.junk::.junk::.junk::.junk::.junk::.junk::.junk::.junk::.junk::.junk::.junk::.junk::.junk::.junk::.junk::.junk::.junk::.junk::.junk::.junk::.junk::.junk::.junk::.junk::.junk::.junk::.junk::.junk::.junk::.junk::.junk::.junk::.junk::.junk::.junk::.junk::.junk::.junk::.junk::.junk::.junk::.junk::.junk::.junk::.junk::.junk::.junk::.junk::.junk::.junk::.junk::.junk::.junk::.junk::.junk::.junk :: []), h⟩ = some (.exit 2, ⟨(.junk::.junk :: .ptr 0 0 0 0 :: .ptr 1 0 0 0 :: .ptr 2 0 0 0 :: .junk::.junk::.junk :: .hsl L 0 0 n none :: .junk::.junk::.junk::.junk::.junk::.junk::.junk::.junk::.junk::.junk::.junk::.junk::.junk::.junk::.junk::.junk::.junk::.junk::.junk::.junk::.junk::.junk::.junk::.junk::.junk::.junk::.junk::.junk::.junk::.junk::.junk::.junk::.junk::.junk::.junk::.junk::.junk::.junk::.junk::.junk::.junk::.junk::.junk::.junk::.junk::.junk::.junk::.junk::.junk::.junk::.junk::.junk::.junk::.junk::.junk::.junk::.junk::.junk::.junk::.junk::.junk::.junk::.junk::.junk::.junk::.junk::.junk::.junk::.junk::.junk::.junk::.junk::.junk::.junk::.junk::.junk::.junk::.junk::.junk::.junk::.junk::.junk::.junk::.junk::.junk::.junk::.junk::.junk::.junk::.junk::.junk::.junk::.junk::.junk::.junk::.junk::.junk::.junk::.junk::.junk::.junk::.junk::.junk::.junk::.junk::.junk::.junk::.junk::.junk::.junk::.junk::.junk::.junk::.junk::.junk::.junk::.junk :: []), h.set L (.arr 0 1 true (eIs (iotaI n)))⟩) := by
  intro d
  induction d with
  | zero =>
    intro i m h h1 h2 hL
    obtain ⟨m, rfl⟩ : ∃ q, m = q + 1 := ⟨m - 1, by omega⟩
    have h3 : ¬ ((i : Int) < n) := by omega
    have : i = n := by omega
    subst this
    rw [List.replicate_zero, List.append_nil] at hL
    rw [set_same hL]
    simp only [loop_e,EB_pack_Lay_1,Zab,Zac,Zad,Zag,Zah,Zaj,Zak,Zal,Zas,Zav,Zay,Zbi,Zbq,Zcv,Zcx,Zdb,Zdc,Zdd,List.set_cons_zero,List.set_cons_succ,List.getD_cons_zero,List.getD_cons_succ,Zdh,decide_false,eq_self,h3]
  | succ d ih =>
    intro i m h h1 h2 hL
    obtain ⟨m, rfl⟩ : ∃ q, m = q + 1 := ⟨m - 1, by omega⟩
    have h3 : (i : Int) < n := by omega
    have hw := w64s (n := i) (by omega)
    have hL' : h[L]? = some (.arr 0 1 true (eIs (iotaI i ++ List.replicate (d + 1) 0) ++ [])) := by rw [List.append_nil]; exact hL
    have x1 := ix_hv (n := n) (c := none) hL (k := .i64) (j := i) (by omega)
    have s1 := stI hL' (j := i) (by simp [iotaI_len]) (i : Int)
    rw [List.append_nil] at s1
    have e1 : (iotaI i ++ List.replicate (d + 1) 0).set i (i : Int) = iotaI (i + 1) ++ List.replicate d 0 := by
      rw [List.set_append_right _ _ (by rw [iotaI_len]; exact Nat.le_refl _), iotaI_len, Nat.sub_self, List.replicate_succ, List.set_cons_zero, iotaI_succ]
      simp
    rw [e1] at s1
    have e := ih (i + 1) m (h.set L (.arr 0 1 true (eIs (iotaI (i + 1) ++ List.replicate d 0)))) (by omega) (by omega) (get_set_eq hL)
    rw [set_set] at e
    rw [← e]
    simp only [loop_e,EB_pack_Lay_1,Zaa,Zab,Zac,Zad,Zae,Zag,Zaj,Zak,Zan,Zar,Zau,Zay,Zba,Zbi,Zbk,Zbp,Zbq,Zcb,Zcv,Zcw,Zcx,Zcy,Zdb,Zdc,Zdd,List.set_cons_zero,List.set_cons_succ,List.getD_cons_zero,List.getD_cons_succ,Zde,Zdh,decide_true,eq_self,h3,x1,s1,hw]

theorem f_isNaN (x : Int) (H : AHeap) : lim G0.cfg (.func 50) [.int .i64 x] H = some (.bool false, H) := by
  refine lim_flat rfl rfl P_cmp_isNaN_int 1 (fun h => fz_1 rfl) ?_ (fun _ => rfl) H
  rw [R_cmp_isNaN_int]
  simp only [Zab,Zac,Zai,Zaj,Zak,Zay,Zbi,Zbk,Zbq,Zcu,Zcv,Zcw,Zcx,List.set_cons_zero,List.set_cons_succ,List.getD_cons_zero,List.getD_cons_succ,Option.map_some,Zdm,decide_true,Bool.not_true,List.length_cons,List.length_nil,Nat.reduceAdd,Nat.reduceSub,eq_self,true_and,List.length_cons,List.length_nil,List.replicate_succ,List.replicate_zero,List.cons_append,List.nil_append,resAll,resVals,resVal,Option.some.injEq,Prod.mk.injEq,true_and,exists_eq']
def cmpD (x y : Int) : Int := if x < y then -1 else if y < x then 1 else 0
theorem f_Compare (x y : Int) (H : AHeap) : lim G0.cfg (.func 37) [.int .i64 x, .int .i64 y] H = some (.int .i64 (cmpD x y), H) := by
  refine lim_flat rfl rfl P_cmp_Compare_int 1 (fun h => fz_2 rfl rfl) ?_ (fun _ => rfl) H
  have n1 := f_isNaN x
  have n2 := f_isNaN y
  rw [R_cmp_Compare_int]
  unfold cmpD
  by_cases q1 : x < y
  · simp only [Zaa,Zab,Zac,Zad,Zai,Zaj,Zak,Zam,Zar,Zas,Zay,Zaz,Zbi,Zbk,Zbq,Zcp,Zcq,Zcu,Zcv,Zcw,Zcx,Zcz,Zda,List.set_cons_zero,List.set_cons_succ,List.getD_cons_zero,List.getD_cons_succ,Option.map_some,Zdh,decide_true,List.length_cons,List.length_nil,if_true,Nat.reduceAdd,Nat.reduceSub,Int.reduceNeg,eq_self,true_and,List.length_cons,List.length_nil,List.replicate_succ,List.replicate_zero,List.cons_append,List.nil_append,n1,n2,q1,resAll,resVals,resVal,Option.some.injEq,Prod.mk.injEq,true_and,exists_eq']
  · by_cases q2 : y < x
    · simp only [Zaa,Zab,Zac,Zad,Zai,Zaj,Zak,Zam,Zar,Zas,Zay,Zaz,Zbi,Zbk,Zbq,Zcp,Zcq,Zcu,Zcv,Zcw,Zcx,Zcz,Zda,List.set_cons_zero,List.set_cons_succ,List.getD_cons_zero,List.getD_cons_succ,Option.map_some,Zdh,Zdj,decide_true,decide_false,List.length_cons,List.length_nil,if_true,if_false,Nat.reduceAdd,Nat.reduceSub,Int.reduceNeg,eq_self,true_and,List.length_cons,List.length_nil,List.replicate_succ,List.replicate_zero,List.cons_append,List.nil_append,n1,n2,q1,q2,resAll,resVals,resVal,Option.some.injEq,Prod.mk.injEq,true_and,exists_eq']
    · simp only [Zaa,Zab,Zac,Zad,Zai,Zaj,Zak,Zas,Zay,Zaz,Zbi,Zbk,Zbq,Zcp,Zcq,Zcu,Zcv,Zcw,Zcx,Zcz,Zda,List.set_cons_zero,List.set_cons_succ,List.getD_cons_zero,List.getD_cons_succ,Option.map_some,Zdh,Zdj,decide_false,List.length_cons,List.length_nil,if_false,Nat.reduceAdd,Nat.reduceSub,Int.reduceNeg,eq_self,true_and,List.length_cons,List.length_nil,List.replicate_succ,List.replicate_zero,List.cons_append,List.nil_append,n1,n2,q1,q2,resAll,resVals,resVal,Option.some.injEq,Prod.mk.injEq,true_and,exists_eq']

/-- One of the rows, read. -/
theorem OwnG.ix1 {cs : List (List AV)} {v : AV} {h : AHeap} {q : Option Nat} (ho : OwnG 1 cs v h q) {j : Nat} {rv : AV} (hj : cs[j]? = some [rv]) : ∃ p, (∀ k : IntKind, aindexAddr h 1 v (.int k j) = some p) ∧ aload h 1 false p = some rv := by
  have hl := (List.getElem?_eq_some_iff.1 hj).1
  rcases ho with ⟨h1, _⟩ | ⟨h1, i, ver, h2, h3, h4⟩
  · subst h1; simp at hl
  · subst h3
    refine ⟨.ptr i ver j 0, fun k => ix_hv h4 hl, ?_⟩
    rw [ld_p h 1 i ver j 0 false 1 false _ _ h4 hj]
    rfl

section
variable {own : List (List Int)} {cs : List (List AV)} {ov : AV} {h : AHeap} {q : Option Nat}
theorem f_count (e2 : h[2]? = some (.arr 0 1 true [[ov]])) (ho : OwnG 1 cs ov h q) (hc : RowsC own cs) (hm : ∀ r ∈ own, r.length ≤ 1000000) (x : Nat) (hx : x < own.length) : lim G0.cfg (.func 33) [.int .i64 x, .ptr 2 0 0 0] h = some (.int .i64 (cntD own[x]), h) := by
  refine lim_func rfl P_pack_Lay_2 1 ?_
  obtain ⟨rv, h1, h2⟩ := hc.2 x hx
  obtain ⟨p, p1, p2⟩ := ho.ix1 h1
  have ff := f_full h2 (by have := hm _ (List.getElem_mem hx); omega)
  have l2 : aload h 1 false (.ptr 2 0 0 0) = some ov := by rw [ld_p h 1 2 0 0 0 false 1 true _ _ e2 rfl]; rfl
  rw [R_pack_Lay_2]
  simp only [Zab,Zac,Zai,Zaj,Zak,Zay,Zaz,Zbi,Zbk,Zbo,Zcb,Zcp,Zcq,Zcu,Zcv,Zcw,Zcx,Zcz,Zda,List.set_cons_zero,List.set_cons_succ,List.getD_cons_zero,List.getD_cons_succ,Option.map_some,List.length_cons,List.length_nil,Nat.reduceAdd,Nat.reduceSub,eq_self,List.length_cons,List.length_nil,List.replicate_succ,List.replicate_zero,List.cons_append,List.nil_append,l2,p1,p2,ff,resAll,resVals,resVal]

/-- The key by which the rows are ordered: the fullest first. -/
def keyD (own : List (List Int)) (x : Int) : Int := -(cntD (own.getD x.toNat []) : Int)

theorem cmp_ok (L : Nat) (hL : 3 ≤ L) (hq : ∀ i, q = some i → i < L) (hc : RowsC own cs) (hm : ∀ r ∈ own, r.length ≤ 1000000) :
    CmpOk L 36 [.ptr (L + 1) 0 0 0] (keyD own) (fun x => 0 ≤ x ∧ x < own.length) (fun h => h[2]? = some (.arr 0 1 true [[ov]]) ∧ OwnG 1 cs ov h q ∧ h[L + 1]? = some (.arr 0 1 true [[.fn (.func 33) [] [.ptr 2 0 0 0]]])) := by
  refine ⟨fun x y h hx hy hE => ?_, fun h o hE => ?_⟩
  · obtain ⟨e2, ho, e3⟩ := hE
    obtain ⟨a, rfl⟩ : ∃ a : Nat, x = (a : Int) := ⟨x.toNat, by omega⟩
    obtain ⟨b, rfl⟩ : ∃ b : Nat, y = (b : Int) := ⟨y.toNat, by omega⟩
    have ha : a < own.length := by omega
    have hb : b < own.length := by omega
    have c1 := f_count e2 ho hc hm a ha
    have c2 := f_count e2 ho hc hm b hb
    have c3 := f_Compare (cntD own[b]) (cntD own[a])
    have l3 : aload h 1 false (.ptr (L + 1) 0 0 0) = some (.fn (.func 33) [] [.ptr 2 0 0 0]) := by rw [ld_p h 1 (L + 1) 0 0 0 false 1 true _ _ e3 rfl]; rfl
    refine ⟨cmpD (cntD own[b]) (cntD own[a]), lim_func rfl P_pack_Lay_3 1 ?_, ?_⟩
    · rw [R_pack_Lay_3]
      simp only [Zab,Zac,Zai,Zaj,Zak,Zay,Zaz,Zbi,Zbk,Zbo,Zcp,Zcq,Zcu,Zcv,Zcw,Zcx,Zcz,Zda,List.set_cons_zero,List.set_cons_succ,List.getD_cons_zero,List.getD_cons_succ,Option.map_some,List.length_cons,List.length_nil,Nat.reduceAdd,Nat.reduceSub,eq_self,List.length_cons,List.length_nil,List.replicate_succ,List.replicate_zero,List.cons_append,List.nil_append,ED_pack_Lay_3_0,EQ_pack_Lay_3_0_0,EQ_pack_Lay_3_0_1,EQ_pack_Lay_3_0_2,EQ_pack_Lay_3_0_3,EQ_pack_Lay_3_0_4,EQ_pack_Lay_3_0_5,EQ_pack_Lay_3_0_6,EQ_pack_Lay_3_0_7,EQ_pack_Lay_3_0_8,EQ_pack_Lay_3_0_9,EQ_pack_Lay_3_0_10,dq_s,ds_n,ds_c,dwf_s,Fst_eq,l3,c1,c2,c3,List.append_nil,resAll,resVals,resVal]
    · have g1 : own.getD ((a : Int).toNat) [] = own[a] := by simp [ha]
      have g2 : own.getD ((b : Int).toNat) [] = own[b] := by simp [hb]
      unfold keyD cmpD
      rw [g1, g2]
      split
      · omega
      · split <;> omega
  · obtain ⟨e2, ho, e3⟩ := hE
    exact ⟨get_set_ne e2 (by omega), ho.frame fun i o e1 e2 => get_set_ne e2 (by have := hq i e1; omega), get_set_ne e3 (by omega)⟩
end
end Go.Proofs.Ytkgndbhflehhhaa.Ai
namespace Go.Proofs.Ytkgndbhflehhhaa.Ai
open Go Go.Proofs
set_option linter.unusedVariables false
set_option linter.unusedSimpArgs false
set_option maxRecDepth 10000
set_option maxHeartbeats 4000000

/-- Whether a row may lie at a place. -/
def fitsD (chk : List Int) : List Int → Nat → Bool
  | [], _ => true
  | x :: r, k => bif decide (x ≠ 0) && (decide (k < chk.length) && decide (chk.getD k 0 ≠ 0)) then false else fitsD chk r (k + 1)
theorem fitsD_end (chk : List Int) : ∀ (r : List Int) (k : Nat), chk.length ≤ k → fitsD chk r k = true := by
  intro r
  induction r with
  | nil => intros; rfl
  | cons x r ih =>
    intro k hk
    have h1 : decide (k < chk.length) = false := decide_eq_false (by omega)
    rw [fitsD, h1, Bool.false_and, Bool.and_false, cond_false]
    exact ih (k + 1) (by omega)
/-- The least place, from a place on. -/
def baseGo (chk row : List Int) : Nat → Nat → Nat
  | 0, k => k
  | d + 1, k => bif fitsD chk row k then k else baseGo chk row d (k + 1)
def baseD (chk row : List Int) : Nat := baseGo chk row chk.length 0
theorem baseGo_le (chk row : List Int) : ∀ (d k : Nat), baseGo chk row d k ≤ k + d := by
  intro d
  induction d with
  | zero => intro k; exact Nat.le_refl _
  | succ d ih =>
    intro k
    rw [baseGo]
    cases fitsD chk row k with
    | true => simp
    | false => have := ih (k + 1); simp; omega
theorem baseD_le (chk row : List Int) : baseD chk row ≤ chk.length := by have := baseGo_le chk row chk.length 0; unfold baseD; omega

theorem w64a {a b : Nat} (h : a + b < 9223372036854775807) : IntKind.i64.wrap ((a : Int) + b) = ((a + b : Nat) : Int) := by
  rw [w64 (by omega) (by omega)]; omega

section
variable {own : List (List Int)} {cs : List (List AV)} {ov kv v0 v1 v2 : AV} {h : AHeap} {q qk : Option Nat} {chk : List Int}
theorem f_free (e2 : h[2]? = some (.arr 0 1 true [[ov]])) (ho : OwnG 1 cs ov h q) (hc : RowsC own cs) (x : Nat) (hx : x < own.length) (hm : own[x].length ≤ 1000000) {p : Nat} (e3 : h[p]? = some (.arr 0 1 true [[.int .i64 x]]))
    (e1 : h[1]? = some (.arr 0 4 true [[v0, v1, v2, kv]])) (hk : GrowV chk kv h qk) (k : Nat) (hk1 : k ≤ 1000000000) (hk2 : chk.length ≤ 1000000000) :
    lim G0.cfg (.func 38) [.int .i64 k, .ptr 2 0 0 0, .ptr p 0 0 0, .ptr 1 0 0 0] h = some (.bool (fitsD chk own[x] k), h) := by
  obtain ⟨row, hrow⟩ : ∃ r, r = own[x] := ⟨_, rfl⟩
  obtain ⟨rv, h1, h2⟩ := hc.2 x hx
  rw [← hrow] at h2 hm ⊢
  obtain ⟨pp, p1, p2⟩ := ho.ix1 h1
  have l2 : aload h 1 false (.ptr 2 0 0 0) = some ov := by rw [ld_p h 1 2 0 0 0 false 1 true _ _ e2 rfl]; rfl
  have l3 : aload h 1 false (.ptr p 0 0 0) = some (.int .i64 x) := by rw [ld_p h 1 p 0 0 0 false 1 true _ _ e3 rfl]; rfl
  have l1 : aload h 1 false (.ptr 1 0 0 3) = some kv := by rw [ld_p h 1 1 0 0 3 false 4 true _ _ e1 rfl]; rfl
  have lr := h2.len h
  have lk := hk.len h
  refine lim_func rfl P_pack_Lay_4 (row.length + 1) ?_
  have loop : ∀ (d i m : Nat), row.length = i + d → d < m → loopN (evalCode (lim G0.cfg) (row.length + 1) B_pack_Lay_4_0) m ⟨(.int .i64 k :: .junk::.junk :: .ptr 1 0 0 0 :: .junk::.junk::.junk::.junk::.junk::.junk::.junk :: rv :: .int .i64 row.length :: .int .i64 i :: .junk::.junk::.junk::.junk::.junk::.junk::.junk::.junk::.junk::.junk::.junk::.junk::.junk::.junk::.junk::.junk::.junk::.junk::.junk::.junk::.junk::.junk::.junk::.junk::.junk::.junk :: []), h⟩ = bif fitsD chk (row.drop i) (k + i) then some (.exit 0, ⟨(.junk::.junk::.junk::.junk::.junk::.junk::.junk::.junk::.junk::.junk::.junk::.junk::.junk::.junk::.junk::.junk::.junk::.junk::.junk::.junk::.junk::.junk::.junk::.junk::.junk::.junk::.junk::.junk::.junk::.junk::.junk::.junk::.junk::.junk::.junk::.junk::.junk::.junk::.junk::.junk :: []), h⟩) else some (.ret, ⟨(.junk::.junk::.junk::.junk::.junk :: .bool false::.junk::.junk::.junk::.junk::.junk::.junk::.junk::.junk::.junk::.junk::.junk::.junk::.junk::.junk::.junk::.junk::.junk::.junk::.junk::.junk::.junk::.junk::.junk::.junk::.junk::.junk::.junk::.junk::.junk::.junk::.junk::.junk::.junk::.junk :: []), h⟩) := by
    intro d
    induction d with
    | zero =>
      intro i m h1 h2
      obtain ⟨m, rfl⟩ : ∃ q, m = q + 1 := ⟨m - 1, by omega⟩
      have h3 : ¬ ((i : Int) < row.length) := by omega
      have q1 : row.drop i = [] := List.drop_eq_nil_iff.2 (by omega)
      rw [q1, fitsD, cond_true]
      simp only [loop_e,EB_pack_Lay_4_0,Zab,Zac,Zad,Zag,Zah,Zaj,Zak,Zal,Zas,Zav,Zay,Zbi,Zbq,Zcv,Zcx,Zdc,Zdd,List.set_cons_zero,List.set_cons_succ,List.getD_cons_zero,List.getD_cons_succ,Zdh,decide_false,eq_self,h3]
    | succ d ih =>
      intro i m h1' h2'
      obtain ⟨m, rfl⟩ : ∃ q, m = q + 1 := ⟨m - 1, by omega⟩
      have h3 : i < row.length := by omega
      have h3' : (i : Int) < row.length := by omega
      have hw := w64s (n := i) (by omega)
      have hw2 := w64a (a := k) (b := i) (by omega)
      have q1 : row.drop i = row[i] :: row.drop (i + 1) := List.drop_eq_getElem_cons h3
      have xa := fun h => h2.ix h .i64 i h3
      have lv : ∀ z : Int, aload h 1 false (.vptr [.int .i64 z] 0) = some (.int .i64 z) := fun _ => rfl
      have e := ih (i + 1) m (by omega) (by omega)
      rw [q1, fitsD]
      rw [← Nat.add_assoc] at e
      by_cases z : row[i] = 0
      case pos =>
        have d1 : decide (row[i] ≠ 0) = false := decide_eq_false (by simp [z])
        have d2 : decide (row[i] = 0) = true := decide_eq_true z
        rw [d1, Bool.false_and, cond_false, ← e]
        simp only [loop_e,EB_pack_Lay_4_0,Zaa,Zab,Zac,Zad,Zae,Zag,Zaj,Zak,Zan,Zar,Zas,Zau,Zay,Zbe,Zbh,Zbi,Zbj,Zbk,Zbl,Zbo,Zbq,Zcb,Zcv,Zcw,Zcx,Zdb,Zdc,Zdd,List.set_cons_zero,List.set_cons_succ,List.getD_cons_zero,List.getD_cons_succ,Zde,Zdh,Zdm,Zen,decide_true,Bool.not_true,eq_self,h3',xa,d2,hw]
      case neg =>
      have d1 : decide (row[i] ≠ 0) = true := decide_eq_true z
      have d2 : decide (row[i] = 0) = false := decide_eq_false z
      rw [d1, Bool.true_and]
      by_cases y : k + i < chk.length
      case neg =>
        have d3 : decide (k + i < chk.length) = false := decide_eq_false y
        have d4 : ¬ (((k + i : Nat) : Int) < chk.length) := by omega
        rw [d3, Bool.false_and, cond_false, ← e]
        simp only [loop_e,EB_pack_Lay_4_0,Zaa,Zab,Zac,Zad,Zae,Zag,Zaj,Zak,Zan,Zar,Zas,Zau,Zay,Zbb,Zbe,Zbg,Zbh,Zbi,Zbj,Zbk,Zbl,Zbo,Zbq,Zby,Zcb,Zcg,Zcv,Zcw,Zcx,Zdb,Zdc,Zdd,List.set_cons_zero,List.set_cons_succ,List.getD_cons_zero,List.getD_cons_succ,Zde,Zdh,Zdm,Zdx,Zen,decide_true,decide_false,Bool.not_false,Nat.reduceAdd,eq_self,h3',xa,d2,hw,hw2,l1,lk,d4]
      case pos =>
        have d3 : decide (k + i < chk.length) = true := decide_eq_true y
        have d4 : ((k + i : Nat) : Int) < chk.length := by omega
        obtain ⟨ii, k1, k2, k3⟩ := hk.ix y
        have gd : chk.getD (k + i) 0 = chk[k + i] := by simp [y]
        rw [d3, Bool.true_and, gd]
        by_cases u : chk[k + i] = 0
        · have d5 : decide (chk[k + i] = 0) = true := decide_eq_true u
          have d6 : decide (chk[k + i] ≠ 0) = false := decide_eq_false (by simp [u])
          rw [d6, cond_false, ← e]
          simp only [loop_e,EB_pack_Lay_4_0,Zaa,Zab,Zac,Zad,Zae,Zag,Zaj,Zak,Zan,Zar,Zas,Zau,Zay,Zbb,Zbg,Zbi,Zbj,Zbk,Zbl,Zbo,Zbq,Zby,Zcb,Zcg,Zcv,Zcw,Zcx,Zdb,Zdc,Zdd,List.set_cons_zero,List.set_cons_succ,List.getD_cons_zero,List.getD_cons_succ,Zde,Zdh,Zdm,Zdx,Zen,decide_true,Bool.not_true,Bool.not_false,Nat.reduceAdd,eq_self,h3',xa,d2,hw,hw2,l1,lk,d4,k2,k3,d5]
        · have d5 : decide (chk[k + i] = 0) = false := decide_eq_false u
          have d6 : decide (chk[k + i] ≠ 0) = true := decide_eq_true u
          rw [d6, cond_true, cond_false]
          simp only [loop_e,EB_pack_Lay_4_0,Zaa,Zab,Zac,Zad,Zae,Zag,Zai,Zaj,Zak,Zam,Zao,Zar,Zaw,Zay,Zbb,Zbg,Zbi,Zbj,Zbk,Zbl,Zbo,Zbq,Zby,Zcb,Zcg,Zcv,Zcw,Zcx,Zdb,Zdc,Zdd,List.set_cons_zero,List.set_cons_succ,List.getD_cons_zero,List.getD_cons_succ,Zde,Zdh,Zdm,Zdx,Zen,decide_true,Bool.not_false,Nat.reduceAdd,eq_self,h3',xa,d2,hw2,l1,lk,d4,k2,k3,d5]
  have e := loop row.length 0 (row.length + 1) (by omega) (by omega)
  obtain ⟨bb, hbb⟩ : ∃ b, b = fitsD chk row k := ⟨_, rfl⟩
  rw [List.drop_zero, show fitsD chk row (k + 0) = bb from hbb.symm, z0] at e
  rw [R_pack_Lay_4, ← hbb]
  cases bb with
  | true =>
    rw [cond_true] at e
    simp only [Zab,Zac,Zae,Zaf,Zag,Zai,Zaj,Zak,Zap,Zat,Zay,Zbi,Zbk,Zbo,Zcb,Zcg,Zcu,Zcv,Zcw,Zcx,Zdb,Zdc,Zdd,List.set_cons_zero,List.set_cons_succ,List.getD_cons_zero,List.getD_cons_succ,Option.map_some,List.length_cons,List.length_nil,Nat.reduceAdd,Nat.reduceSub,eq_self,List.length_cons,List.length_nil,List.replicate_succ,List.replicate_zero,List.cons_append,List.nil_append,l2,l3,p1,p2,lr,e,resAll,resVals,resVal]
  | false =>
    rw [cond_false] at e
    simp only [Zab,Zac,Zae,Zaf,Zag,Zaj,Zak,Zam,Zao,Zat,Zay,Zbi,Zbk,Zbo,Zcb,Zcg,Zcu,Zcv,Zcw,Zcx,Zdb,Zdc,Zdd,List.set_cons_zero,List.set_cons_succ,List.getD_cons_zero,List.getD_cons_succ,Option.map_some,List.length_cons,List.length_nil,Nat.reduceAdd,Nat.reduceSub,eq_self,List.length_cons,List.length_nil,List.replicate_succ,List.replicate_zero,List.cons_append,List.nil_append,l2,l3,p1,p2,lr,e,resAll,resVals,resVal]

/-- The search for the least place. -/
theorem f_Lay_base (e2 : h[2]? = some (.arr 0 1 true [[ov]])) (ho : OwnG 1 cs ov h q) (hc : RowsC own cs) (x : Nat) (hx : x < own.length) (hm : own[x].length ≤ 1000000) {p : Nat} (e3 : h[p]? = some (.arr 0 1 true [[.int .i64 x]]))
    (e1 : h[1]? = some (.arr 0 4 true [[v0, v1, v2, kv]])) (hk : GrowV chk kv h qk) (hk2 : chk.length ≤ 1000000000) (N : Nat) (w62 w63 w64' : AV) : ∀ (d k m : Nat), chk.length ≤ k + d → k ≤ chk.length → d < m →
    loopN (evalCode (lim G0.cfg) N B_pack_Lay_3) m ⟨(.junk::.junk :: .ptr 0 0 0 0 :: .ptr 1 0 0 0 :: .ptr 2 0 0 0 :: .junk::.junk::.junk::.junk::.junk::.junk::.junk :: .ptr p 0 0 0 :: .fn (.func 38) [] [.ptr 2 0 0 0, .ptr p 0 0 0, .ptr 1 0 0 0] :: .int .i64 k :: .junk::.junk::.junk::.junk::.junk::.junk::.junk::.junk::.junk::.junk::.junk::.junk::.junk::.junk::.junk::.junk::.junk::.junk::.junk::.junk::.junk::.junk::.junk::.junk::.junk::.junk::.junk::.junk::.junk::.junk::.junk::.junk::.junk::.junk::.junk::.junk::.junk::.junk::.junk::.junk::.junk::.junk::.junk::.junk::.junk::.junk::.junk :: w62 :: w63 :: w64' :: .junk::.junk::.junk::.junk::.junk::.junk::.junk::.junk::.junk::.junk::.junk::.junk::.junk::.junk::.junk::.junk::.junk::.junk::.junk::.junk::.junk::.junk::.junk::.junk::.junk::.junk::.junk::.junk::.junk::.junk::.junk::.junk::.junk::.junk::.junk::.junk::.junk::.junk::.junk::.junk::.junk::.junk::.junk::.junk::.junk::.junk::.junk::.junk::.junk::.junk::.junk::.junk::.junk::.junk::.junk::.junk::.junk::.junk::.junk::.junk::.junk :: []), h⟩ = some (.exit 6, ⟨(.junk::.junk :: .ptr 0 0 0 0 :: .ptr 1 0 0 0 :: .ptr 2 0 0 0 :: .junk::.junk::.junk::.junk::.junk::.junk::.junk :: .ptr p 0 0 0 :: .junk :: .int .i64 (baseGo chk own[x] d k) :: .junk::.junk::.junk::.junk::.junk::.junk::.junk::.junk::.junk::.junk::.junk::.junk::.junk::.junk::.junk::.junk::.junk::.junk::.junk::.junk::.junk::.junk::.junk::.junk::.junk::.junk::.junk::.junk::.junk::.junk::.junk::.junk::.junk::.junk::.junk::.junk::.junk::.junk::.junk::.junk::.junk::.junk::.junk::.junk::.junk::.junk::.junk :: w62 :: w63 :: w64' :: .junk::.junk::.junk::.junk::.junk::.junk::.junk::.junk::.junk::.junk::.junk::.junk::.junk::.junk::.junk::.junk::.junk::.junk::.junk::.junk::.junk::.junk::.junk::.junk::.junk::.junk::.junk::.junk::.junk::.junk::.junk::.junk::.junk::.junk::.junk::.junk::.junk::.junk::.junk::.junk::.junk::.junk::.junk::.junk::.junk::.junk::.junk::.junk::.junk::.junk::.junk::.junk::.junk::.junk::.junk::.junk::.junk::.junk::.junk::.junk::.junk :: []), h⟩) := by
  intro d
  induction d with
  | zero =>
    intro k m h1 h2 h3
    obtain ⟨m, rfl⟩ : ∃ q, m = q + 1 := ⟨m - 1, by omega⟩
    have f := f_free e2 ho hc x hx hm e3 e1 hk k (by omega) hk2
    rw [fitsD_end chk _ k (by omega)] at f
    rw [baseGo]
    simp only [loop_e,EB_pack_Lay_3,Zab,Zac,Zad,Zag,Zah,Zaj,Zak,Zal,Zas,Zav,Zay,Zaz,Zbi,Zbk,Zbr,Zcp,Zcq,Zcv,Zcx,Zcz,Zda,Zdb,Zdc,Zdd,List.set_cons_zero,List.set_cons_succ,List.getD_cons_zero,List.getD_cons_succ,Zdr,Bool.not_true,eq_self,List.cons_append,List.nil_append,List.nil_append,List.cons_append,f]
  | succ d ih =>
    intro k m h1 h2 h3
    obtain ⟨m, rfl⟩ : ∃ q, m = q + 1 := ⟨m - 1, by omega⟩
    have f := f_free e2 ho hc x hx hm e3 e1 hk k (by omega) hk2
    have hw := w64s (n := k) (by omega)
    rw [baseGo]
    cases fb : fitsD chk own[x] k with
    | true =>
      rw [fb] at f
      rw [cond_true]
      simp only [loop_e,EB_pack_Lay_3,Zab,Zac,Zad,Zag,Zah,Zaj,Zak,Zal,Zas,Zav,Zay,Zaz,Zbi,Zbk,Zbr,Zcp,Zcq,Zcv,Zcx,Zcz,Zda,Zdb,Zdc,Zdd,List.set_cons_zero,List.set_cons_succ,List.getD_cons_zero,List.getD_cons_succ,Zdr,Bool.not_true,eq_self,List.cons_append,List.nil_append,List.nil_append,List.cons_append,f]
    | false =>
      have hlt : k < chk.length := by
        rcases Nat.lt_or_ge k chk.length with h | h
        · exact h
        · rw [fitsD_end chk _ k h] at fb; cases fb
      rw [fb] at f
      rw [cond_false, ← ih (k + 1) m (by omega) (by omega) (by omega)]
      simp only [loop_e,EB_pack_Lay_3,Zaa,Zab,Zac,Zad,Zae,Zag,Zaj,Zak,Zan,Zar,Zau,Zay,Zaz,Zbi,Zbk,Zbq,Zbr,Zcp,Zcq,Zcv,Zcw,Zcx,Zcz,Zda,Zdb,Zdc,Zdd,List.set_cons_zero,List.set_cons_succ,List.getD_cons_zero,List.getD_cons_succ,Zde,Zdr,Bool.not_false,eq_self,List.cons_append,List.nil_append,List.nil_append,List.cons_append,f,hw]
end
end Go.Proofs.Ytkgndbhflehhhaa.Ai
