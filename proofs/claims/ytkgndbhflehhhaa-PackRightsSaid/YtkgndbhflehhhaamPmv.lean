/- The reference of pack.Lay: the distinct rows. -/
import Derived.Test.YtkgndbhflehhhaamPm1
import Derived.Test.YtkgndbhflehhhaamPlw
namespace Go.Proofs.Ytkgndbhflehhhaa.Ai
open Go Go.Proofs
open AV renaming junk → J
open List renaming getD_cons_zero → Q0, getD_cons_succ → Q1, set_cons_zero → Q2, set_cons_succ → Q3, drop_eq_getElem_cons → Q4, drop_eq_nil_iff → Q5, getElem_mem → Q6, cons_append → Q7, nil_append → Q8
set_option linter.unusedVariables false
set_option linter.unusedSimpArgs false
set_option maxRecDepth 10000
set_option maxHeartbeats 4000000
section
variable {rows : List (List Int)} {v : AV}
theorem r_find (hv : LiR rows v) (hm : ∀ r ∈ rows, r.length ≤ 1000000) (hn : rows.length ≤ 1000000) (j : Nat) (hj : j < rows.length) {own : List (List Int)} {cs : List (List AV)} {ov rv : AV} {h : AHeap} {q : Option Nat} (ho : OwnG 1 cs ov h q) (hc : RowsC own cs) (hon : own.length ≤ 1000000) (hom : ∀ r ∈ own, r.length ≤ 1000000) (N : Nat) :
  ∀ (d k m : Nat), own.length = k + d → d < m → loopN (evalCode (lim G0.cfg) N B_r32_Distinct_1) m ⟨(v::J::J::J::ov :: rv :: .int .i64 j :: .int .i64 k::J::J::J::J::J::J::J::J::J::J::J::J::J::J::J::J::J::J::J::J::J::J::J::J::J::J::J::J::J::J::J::J::J::J::J::J::J::J::J::J::J::[]), h⟩ = some (.exit 2, ⟨(v::J::J::J::ov :: rv :: .int .i64 j :: .int .i64 ((k + (own.drop k).findIdx (fun x => decide (x = rows[j])) : Nat) : Int)::J::J::J::J::J::J::J::J::J::J::J::J::J::J::J::J::J::J::J::J::J::J::J::J::J::J::J::J::J::J::J::J::J::J::J::J::J::J::J::J::J::[]), h⟩) := by
 have lo := ho.len h
 rw [hc.1] at lo
 obtain ⟨w, hw1, xw⟩ := hv.ix j hj
 have lv : ∀ (h : AHeap), aload h 1 false (.vptr [w] 0) = some w := fun _ => rfl
 intro d
 induction d with
 | zero =>
  intro k m h1 h2
  obtain ⟨m, rfl⟩ : ∃ q, m = q + 1 := ⟨m - 1, by omega⟩
  have h3 : ¬ ((k : Int) < own.length) := by omega
  have q1 : own.drop k = [] := Q5.2 (by omega)
  have z : ((k + 0 : Nat) : Int) = k := rfl
  rw [q1, List.findIdx_nil, z]
  simp only [loop_e,EB_r32_Distinct_1,Zab,Zac,Zad,Zag,Zah,Zaj,Zak,Zal,Zas,Zav,Zay,Zbe,Zbh,Zbi,Zbj,Zbk,Zbl,Zbq,Zcg,Zcv,Zcw,Zcx,Zdb,Zdc,Zdd,Q2,Q3,Q0,Q1,Zdh,decide_false,eq_self,lo,h3]
 | succ d ih =>
  intro k m h1 h2
  obtain ⟨m, rfl⟩ : ∃ q, m = q + 1 := ⟨m - 1, by omega⟩
  have h3 : k < own.length := by omega
  have h3' : (k : Int) < own.length := by omega
  have hw := w64s (n := k) (by omega)
  have q1 : own.drop k = own[k] :: own.drop (k + 1) := Q4 h3
  obtain ⟨x, x1, x2⟩ := hc.2 k h3
  obtain ⟨p, p1, p2⟩ := ho.ix1 x1
  have fs := r_same x2 hw1 (by have := hom _ (Q6 h3); omega)
  rw [q1, List.findIdx_cons]
  by_cases e : own[k] = rows[j]
  ·have e2 : decide (own[k] = rows[j]) = true := decide_eq_true e
   rw [e2] at fs
   have z : ((k + 0 : Nat) : Int) = k := rfl
   rw [e2, cond_true, z]
   simp only [loop_e,EB_r32_Distinct_1,Zab,Zac,Zad,Zag,Zah,Zaj,Zak,Zal,Zas,Zav,Zay,Zaz,Zbb,Zbg,Zbi,Zbj,Zbk,Zbl,Zbo,Zbq,Zbr,Zcb,Zcg,Zcp,Zcq,Zcv,Zcw,Zcx,Zcz,Zda,Zdb,Zdc,Zdd,Q2,Q3,Q0,Q1,Zdh,Zdr,decide_true,Bool.not_true,eq_self,Q7,Q8,lo,h3',p1,p2,xw,lv,fs]
  ·have e2 : decide (own[k] = rows[j]) = false := decide_eq_false e
   rw [e2] at fs
   have e3 : k + (List.findIdx (fun x => decide (x = rows[j])) (own.drop (k + 1)) + 1) = (k + 1) + List.findIdx (fun x => decide (x = rows[j])) (own.drop (k + 1)) := by omega
   rw [e2, cond_false, e3, ← ih (k + 1) m (by omega) (by omega)]
   simp only [loop_e,EB_r32_Distinct_1,Zaa,Zab,Zac,Zad,Zae,Zag,Zaj,Zak,Zan,Zar,Zau,Zay,Zaz,Zbb,Zbg,Zbi,Zbj,Zbk,Zbl,Zbo,Zbq,Zbr,Zcb,Zcg,Zcp,Zcq,Zcv,Zcw,Zcx,Zcz,Zda,Zdb,Zdc,Zdd,Q2,Q3,Q0,Q1,Zde,Zdh,Zdr,decide_true,Bool.not_false,eq_self,Q7,Q8,lo,h3',p1,p2,xw,lv,fs,hw]
theorem r_Dist_0 (hv : LiR rows v) (hm : ∀ r ∈ rows, r.length ≤ 1000000) (hn : rows.length ≤ 1000000) (N : Nat) (hN : 1000001 ≤ N) :
  ∀ (d j m : Nat) (s : List (List Int) × List Int) (h : AHeap) (ov rv : AV) (cs : List (List AV)) (q1 q2 : Option Nat), rows.length = j + d → d < m → OwnG 1 cs ov h q1 → RowsC s.1 cs → OwnG 1 (eIs s.2) rv h q2 → (∀ i, q1 = some i → q2 ≠ some i) → s.1.length ≤ j → s.2.length = j → (∀ r ∈ s.1, r.length ≤ 1000000) →
   ∃ (h' : AHeap) (ov' rv' : AV) (cs' : List (List AV)) (q1' q2' : Option Nat), loopN (evalCode (lim G0.cfg) N B_r32_Distinct_0) m ⟨(v::J::J::J::ov :: rv :: .int .i64 j::J::J::J::J::J::J::J::J::J::J::J::J::J::J::J::J::J::J::J::J::J::J::J::J::J::J::J::J::J::J::J::J::J::J::J::J::J::J::J::J::J::J::[]), h⟩ = some (.exit 0, ⟨(J::J::J::J::ov' :: rv'::J::J::J::J::J::J::J::J::J::J::J::J::J::J::J::J::J::J::J::J::J::J::J::J::J::J::J::J::J::J::J::J::J::J::J::J::J::J::J::J::J::J::J::[]), h'⟩) ∧ OwnG 1 cs' ov' h' q1' ∧ RowsC ((rows.drop j).foldl dStep s).1 cs' ∧ OwnG 1 (eIs ((rows.drop j).foldl dStep s).2) rv' h' q2' := by
 have lv0 := hv.len
 intro d
 induction d with
 | zero =>
  intro j m s h ov rv cs q1 q2 h1 h2 o1 hc o2 hq h4 h5 h6
  obtain ⟨m, rfl⟩ : ∃ q, m = q + 1 := ⟨m - 1, by omega⟩
  have h7 : ¬ ((j : Int) < rows.length) := by omega
  have e1 : rows.drop j = [] := Q5.2 (by omega)
  rw [e1]
  refine ⟨h, ov, rv, cs, q1, q2, ?_, o1, hc, o2⟩
  simp only [loop_e,EB_r32_Distinct_0,Zab,Zac,Zad,Zag,Zah,Zaj,Zak,Zal,Zas,Zav,Zay,Zbi,Zbk,Zbq,Zcg,Zcv,Zcx,Zdb,Zdc,Zdd,Q2,Q3,Q0,Q1,Zdh,decide_false,eq_self,lv0,h7]
 | succ d ih =>
  intro j m s h ov rv cs q1 q2 h1 h2 o1 hc o2 hq h4 h5 h6
  obtain ⟨m, rfl⟩ : ∃ q, m = q + 1 := ⟨m - 1, by omega⟩
  have h7 : j < rows.length := by omega
  have h7' : (j : Int) < rows.length := by omega
  have hw := w64s (n := j) (by omega)
  have e1 : rows.drop j = rows[j] :: rows.drop (j + 1) := Q4 h7
  obtain ⟨w, hw1, xw⟩ := hv.ix j h7
  have lv : ∀ (h : AHeap), aload h 1 false (.vptr [w] 0) = some w := fun _ => rfl
  obtain ⟨wc1, wc2⟩ := hw1.cell
  have hrm := hm _ (Q6 h7)
  have f := r_find hv hm hn j h7 o1 hc (by omega) h6 N (rv := rv) s.1.length 0 N (by omega) (by omega)
  rw [List.drop_zero, Nat.zero_add, z0] at f
  have lo := o1.len
  have lenc : cs.length = s.1.length := hc.1
  rw [lenc] at lo
  obtain ⟨k, hk⟩ : ∃ k, k = s.1.findIdx (fun x => decide (x = rows[j])) := ⟨_, rfl⟩
  rw [← hk] at f
  rw [e1, List.foldl_cons]
  have lt1 := fun h : AHeap => lit1' h .nilS w hw1.pure1 wc1
  have lt2 := fun h : AHeap => lit1' h (.int .i64 0) (.int .i64 ((k : Nat) : Int)) rfl rfl
  have eI1 : eIs (s.2 ++ [((k : Nat) : Int)]) = eIs s.2 ++ [[.int .i64 ((k : Nat) : Int)]] := by rw [eIs_append]; rfl
  by_cases q : k = s.1.length
  case pos =>
   have es : dStep s rows[j] = (s.1 ++ [rows[j]], s.2 ++ [((k : Nat) : Int)]) := by simp only [dStep, ← hk]; rw [if_pos q]
   have d1 : ((k : Nat) : Int) = s.1.length := by omega
   obtain ⟨i1, ver1, H1, p1, p2, p3, p4, p5⟩ := o1.push true (c := [w]) rfl (by simp [wc2]) hc.all 24 (by omega) (by omega)
   rw [lenc] at p1 p2
   have o2' : OwnG 1 (eIs s.2) rv H1 q2 := o2.frame fun i o f e => p3 i o e (fun g => hq i g f)
   have hq1 : q2 ≠ some i1 := fun f => by
    rcases p4 with g | ⟨_, g⟩
    ·exact hq i1 g f
    ·rw [f] at o2; have := o2.lt; omega
   obtain ⟨i2, ver2, H2, r1, r2, r3, r4, r5⟩ := o2'.push true (c := [.int .i64 ((k : Nat) : Int)]) rfl rfl (eIs_all _) 8 (by omega) (by rw [Zep]; omega)
   rw [Zep] at r1 r2
   have o1' := p2.frame (h' := H2) fun i o f e => r3 i o e (by cases f; exact hq1)
   have hq2 : i1 ≠ i2 := fun f => by
    rcases r4 with g | ⟨_, g⟩
    ·rw [← f] at g; exact hq1 g
    ·have := p2.lt; omega
   obtain ⟨h', ov', rv', cs', q1', q2', e, r⟩ := ih (j + 1) m (dStep s rows[j]) H2 _ _ (cs ++ [[w]]) (some i1) (some i2) (by omega) (by omega) o1' (by rw [es]; exact hc.push hw1) (by rw [es, eI1]; exact r2) (fun i f g => by cases f; cases g; exact hq2 rfl) (by rw [es]; simp; omega) (by rw [es]; simp; omega) (by
    rw [es]; intro r hr
    rcases List.mem_append.1 hr with hr | hr
    ·exact h6 r hr
    ·rw [List.mem_singleton] at hr; subst hr; exact hrm)
   refine ⟨h', ov', rv', cs', q1', q2', ?_, r⟩
   rw [← e]
   have d2 : decide (((k : Nat) : Int) = s.1.length) = true := decide_eq_true d1
   simp only [loop_e,EB_r32_Distinct_0,Zaa,Zab,Zac,Zad,Zae,Zaf,Zag,Zaj,Zak,Zan,Zap,Zar,Zat,Zau,Zay,Zaz,Zbi,Zbk,Zbo,Zbq,Zcb,Zcg,Zci,Zcn,Zcv,Zcw,Zcx,Zdb,Zdc,Zdd,Q2,Q3,Q0,Q1,Zde,Zdh,Zdl,decide_true,eq_self,lv0,h7',f,lo,d2,xw,lv,ev2,lt1,p1,lt2,r1,hw]
  case neg =>
   have es : dStep s rows[j] = (s.1, s.2 ++ [((k : Nat) : Int)]) := by simp only [dStep, ← hk]; rw [if_neg q]
   have d2 : decide (((k : Nat) : Int) = s.1.length) = false := decide_eq_false (by omega)
   obtain ⟨i2, ver2, H2, r1, r2, r3, r4, r5⟩ := o2.push true (c := [.int .i64 ((k : Nat) : Int)]) rfl rfl (eIs_all _) 8 (by omega) (by rw [Zep]; omega)
   rw [Zep] at r1 r2
   have o1' := o1.frame (h' := H2) fun i o f e => r3 i o e (fun g => hq i f g)
   have hq2 : q1 ≠ some i2 := fun f => by
    rcases r4 with g | ⟨_, g⟩
    ·exact hq i2 f g
    ·rw [f] at o1; have := o1.lt; omega
   obtain ⟨h', ov', rv', cs', q1', q2', e, r⟩ := ih (j + 1) m (dStep s rows[j]) H2 _ _ cs q1 (some i2) (by omega) (by omega) o1' (by rw [es]; exact hc) (by rw [es, eI1]; exact r2) (fun i f g => by cases g; exact hq2 f) (by rw [es]; simp; omega) (by rw [es]; simp; omega) (by rw [es]; exact h6)
   refine ⟨h', ov', rv', cs', q1', q2', ?_, r⟩
   rw [← e]
   simp only [loop_e,EB_r32_Distinct_0,Zaa,Zab,Zac,Zad,Zae,Zaf,Zag,Zaj,Zak,Zan,Zap,Zar,Zas,Zat,Zau,Zay,Zaz,Zbi,Zbk,Zbq,Zcg,Zci,Zcn,Zcv,Zcw,Zcx,Zdb,Zdc,Zdd,Q2,Q3,Q0,Q1,Zde,Zdh,Zdl,decide_true,eq_self,lv0,h7',f,lo,d2,ev2,lt2,r1,hw]
theorem fzI {l : List Int} {w : AV} {h : AHeap} {q : Option Nat} (ho : OwnG 1 (eIs l) w h q) (d : Nat) : ∃ x c, freeze h (d + 2) w = some (x, c) ∧ Li l x := by
 rcases ho with ⟨h1, h2, _⟩ | ⟨h1, i, ver, _, h3, h4⟩
 ·subst h2
  have : l = [] := by cases l with | nil => rfl | cons a l => simp [eIs] at h1
  exact ⟨.nilS, true, rfl, .inl ⟨this, rfl⟩⟩
 ·subst h3
  have hm : ∀ l : List Int, ∃ q, mapO (mapO (freeze h (d + 1))) (eIs l) = some q ∧ q.map (·.map (·.1)) = eIs l := by
   intro l
   induction l with
   | nil => exact ⟨[], rfl, rfl⟩
   | cons a l ih =>
    obtain ⟨q, e1, e2⟩ := ih
    have e3 : mapO (freeze h (d + 1)) [.int .i64 a] = some [(.int .i64 a, true)] := rfl
    have e4 : eIs (a :: l) = [.int .i64 a] :: eIs l := rfl
    exact ⟨[(.int .i64 a, true)] :: q, by rw [e4]; simp only [mapO] at e3 ⊢; simp only [e3,e1], by rw [e4]; simp [e2]⟩
  obtain ⟨q, e1, e2⟩ := hm l
  have := freeze_hslG (d := d + 1) (n := (eIs l).length) (cc := none) (q := q) h4 (Nat.le_refl _) (by rw [List.take_length]; exact e1)
  exact ⟨_, false, this, .inr ⟨false, by rw [e2]⟩⟩
theorem fzR {own : List (List Int)} {cs : List (List AV)} {w : AV} {h : AHeap} {q : Option Nat} (ho : OwnG 1 cs w h q) (hc : RowsC own cs) (d : Nat) : ∃ x c, freeze h (d + 2) w = some (x, c) ∧ LiR own x := by
 rcases ho with ⟨h1, h2, _⟩ | ⟨h1, i, ver, _, h3, h4⟩
 ·subst h1 h2
  have : own = [] := List.length_eq_zero_iff.1 (by have := hc.1; simpa using this.symm)
  exact ⟨.nilS, true, rfl, .inl ⟨this, rfl⟩⟩
 ·subst h3
  obtain ⟨q, e1, e2⟩ := mapO_cells (h := h) (d := d) own cs hc
  have := freeze_hslG (d := d + 1) (n := cs.length) (cc := none) (q := q) h4 (Nat.le_refl _) (by rw [List.take_length]; exact e1)
  refine ⟨_, false, this, .inr ⟨false, cs, by rw [e2], hc⟩⟩
theorem r_Distinct (hv : LiR rows v) (hm : ∀ r ∈ rows, r.length ≤ 1000000) (hn : rows.length ≤ 1000000) : ∃ ox rx, LiR (distD rows).1 ox ∧ Li (distD rows).2 rx ∧ ∀ H, lim G0.cfg (.func 26) [v] H = some (.tup [ox, rx], H) := by
 obtain ⟨h', ov, rv, cs, q1, q2, e, o1, hc, o2⟩ := r_Dist_0 hv hm hn 1000001 (by omega) rows.length 0 1000001 ([], []) [] .nilS .nilS [] none none (by omega) (by omega) (OwnG.nil 1 _) ⟨rfl, fun j hj => (by simp at hj)⟩ (OwnG.nil 1 _) (fun _ e => (by cases e)) (by simp) rfl (by simp)
 rw [List.drop_zero] at hc o2
 rw [z0] at e
 have hD : rows.foldl dStep ([], []) = distD rows := rfl
 rw [hD] at hc o2
 have run : runFn (lim G0.cfg) 1000001 A_r32_Distinct [v] [] = some (.tup [ov, rv], h') := by
  rw [R_r32_Distinct]
  simp only [Zab,Zac,Zae,Zaf,Zag,Zai,Zaj,Zak,Zap,Zat,Zbi,Zbk,Zcu,Zcv,Zcw,Zcx,Zdb,Zdc,Zdd,Q2,Q3,Q0,Q1,Option.map_some,List.length_cons,List.length_nil,Nat.reduceAdd,Nat.reduceSub,eq_self,List.length_cons,List.length_nil,List.replicate_succ,List.replicate_zero,Q7,Q8,e,resAll,resVals,resVal]
 obtain ⟨ox, c1, f1, g1⟩ := fzR o1 hc 997
 obtain ⟨rx, c2, f2, g2⟩ := fzI o2 997
 have fz : freeze h' 1000 (.tup [ov, rv]) = some (.tup [ox, rx], ([(ox, c1), (rx, c2)] : List (AV × Bool)).all (·.2)) := by
  have : freeze h' 1000 (.tup [ov, rv]) = (mapO (freeze h' 999) [ov, rv]).map fun l => (.tup (l.map (·.1)), l.all (·.2)) := rfl
  rw [this, mapO_2 f1 f2]
  rfl
 exact ⟨ox, rx, g1, g2, fun H => lim_fz rfl rfl P_r32_Distinct 1000001 (fz_1 (hv.fz H 999)) run fz rfl⟩
end
end Go.Proofs.Ytkgndbhflehhhaa.Ai
namespace Go.Proofs.Ytkgndbhflehhhaa.Ai
open Go Go.Proofs
open AV renaming junk → J
open List renaming getD_cons_zero → Q0, getD_cons_succ → Q1, set_cons_zero → Q2, set_cons_succ → Q3, drop_eq_getElem_cons → Q4, drop_eq_nil_iff → Q5, getElem_mem → Q6, cons_append → Q7, nil_append → Q8
set_option linter.unusedVariables false
set_option linter.unusedSimpArgs false
set_option maxRecDepth 10000
set_option maxHeartbeats 4000000
def cntX (own : List (List Int)) (x : Int) : Nat := cntD (own.getD x.toNat [])
def notLess (own : List (List Int)) (i x : Int) : Bool := decide (cntX own i ≤ cntX own x)
def ordStep (own : List (List Int)) (l : List Int) (i : Int) : List Int := l.takeWhile (notLess own i) ++ i :: l.dropWhile (notLess own i)
def orderD (own : List (List Int)) : List Int := (iotaI own.length).foldl (ordStep own) []
theorem eIs_get2 {l : List Int} {j : Nat} (hj : j < l.length) : (eIs l)[j]? = some [.int .i64 l[j]] := by simp [eIs, eI, hj]
theorem eIs_snoc (l : List Int) (x : Int) : eIs (l ++ [x]) = eIs l ++ [[.int .i64 x]] := by rw [eIs_append]; rfl
section
variable {own : List (List Int)} {v : AV}
theorem r_Ord_1 (hv : LiR own v) (hm : ∀ r ∈ own, r.length ≤ 1000000) (hn : own.length ≤ 1000000) (i : Nat) (hi : i < own.length) (l : List Int) (hl : l.length ≤ 1000000) (hlm : ∀ x ∈ l, 0 ≤ x ∧ x < own.length) (t3 : AV) (q3 : Option Nat) (N : Nat) :
  ∀ (d k m : Nat) (pre : List Int) (h : AHeap) (t5 : AV) (q5 : Option Nat), l.length = k + d → d < m → OwnG 1 (eIs l) t3 h q3 → OwnG 1 (eIs pre) t5 h q5 → (∀ i, q5 = some i → q3 ≠ some i) → pre.length ≤ k →
   ∃ (h' : AHeap) (t5' : AV) (q5' : Option Nat), loopN (evalCode (lim G0.cfg) N B_r32_Order_1) m ⟨(v::J::J::t3 :: .int .i64 i :: t5 :: .int .i64 k::J::J::J::J::J::J::J::J::J::J::J::J::J::J::J::J::J::J::J::J::J::J::J::J::J::J::J::J::J::J::J::J::J::J::J::J::J::J::J::J::J::J::J::J::J::J::J::J::J::J::J::J::J::J::[]), h⟩ = some (.exit 2, ⟨(v::J::J::t3 :: .int .i64 i :: t5' :: .int .i64 ((k + ((l.drop k).takeWhile (notLess own i)).length : Nat) : Int)::J::J::J::J::J::J::J::J::J::J::J::J::J::J::J::J::J::J::J::J::J::J::J::J::J::J::J::J::J::J::J::J::J::J::J::J::J::J::J::J::J::J::J::J::J::J::J::J::J::J::J::J::J::J::[]), h'⟩) ∧ OwnG 1 (eIs (pre ++ (l.drop k).takeWhile (notLess own i))) t5' h' q5' ∧ OwnG 1 (eIs l) t3 h' q3 ∧ (∀ i, q5' = some i → q3 ≠ some i) := by
 obtain ⟨wi, hwi, xwi⟩ := hv.ix i hi
 have fi := r_some hwi (by have := hm _ (Q6 hi); omega)
 have lv : ∀ (w : AV) (h : AHeap), aload h 1 false (.vptr [w] 0) = some w := fun _ _ => rfl
 have gi : cntX own i = cntD own[i] := by simp [cntX, hi]
 intro d
 induction d with
 | zero =>
  intro k m pre h t5 q5 h1 h2 o3 o5 hq hp
  obtain ⟨m, rfl⟩ : ∃ q, m = q + 1 := ⟨m - 1, by omega⟩
  have lo := o3.len h
  rw [Zep] at lo
  have h3 : ¬ ((k : Int) < l.length) := by omega
  have q1 : l.drop k = [] := Q5.2 (by omega)
  have z : ((k + ([] : List Int).length : Nat) : Int) = k := rfl
  rw [q1, List.takeWhile_nil, z, List.append_nil]
  refine ⟨h, t5, q5, ?_, o5, o3, hq⟩
  simp only [loop_e,EB_r32_Order_1,Zab,Zac,Zad,Zag,Zah,Zaj,Zak,Zal,Zas,Zav,Zay,Zbe,Zbh,Zbi,Zbj,Zbk,Zbl,Zbq,Zcg,Zcv,Zcw,Zcx,Zdb,Zdc,Zdd,Q2,Q3,Q0,Q1,Zdh,decide_false,eq_self,lo,h3]
 | succ d ih =>
  intro k m pre h t5 q5 h1 h2 o3 o5 hq hp
  obtain ⟨m, rfl⟩ : ∃ q, m = q + 1 := ⟨m - 1, by omega⟩
  have lo := o3.len h
  rw [Zep] at lo
  have h3 : k < l.length := by omega
  have h3' : (k : Int) < l.length := by omega
  have hw := w64s (n := k) (by omega)
  have q1 : l.drop k = l[k] :: l.drop (k + 1) := Q4 h3
  have hx := hlm _ (Q6 h3)
  obtain ⟨a, ha⟩ : ∃ a : Nat, l[k] = (a : Int) := ⟨l[k].toNat, by omega⟩
  obtain ⟨p, p1, p2⟩ := o3.ix1 (eIs_get2 h3)
  rw [ha] at p2 hx
  have hao : a < own.length := by omega
  obtain ⟨wa, hwa, xwa⟩ := hv.ix a hao
  have fa := r_some hwa (by have := hm _ (Q6 hao); omega)
  have ga : cntX own a = cntD own[a] := by simp [cntX, hao]
  have lt2 := fun h : AHeap => lit1' h (.int .i64 0) (.int .i64 ((a : Nat) : Int)) rfl rfl
  rw [q1, ha]
  by_cases e : cntD own[i] ≤ cntD own[a]
  ·have e2 : notLess own i a = true := decide_eq_true (by rw [gi, ga]; exact e)
   have e3 : ((cntD own[i] : Nat) : Int) ≤ (cntD own[a] : Nat) := by omega
   rw [List.takeWhile_cons_of_pos e2]
   obtain ⟨j5, ver5, H2, r1, r2, r3, r4, r5⟩ := o5.push true (c := [.int .i64 ((a : Nat) : Int)]) rfl rfl (eIs_all _) 8 (by omega) (by rw [Zep]; omega)
   rw [Zep] at r1 r2
   rw [← eIs_snoc] at r2
   have o3' := o3.frame (h' := H2) fun i o f e => r3 i o e (fun g => hq i g f)
   have hq' : q3 ≠ some j5 := fun f => by
    rcases r4 with g | ⟨_, g⟩
    ·exact hq j5 g f
    ·rw [f] at o3; have := o3.lt; omega
   obtain ⟨h', t5', q5', e', g1, g2, g3⟩ := ih (k + 1) m (pre ++ [(a : Int)]) H2 _ (some j5) (by omega) (by omega) o3' r2 (fun i f => by cases f; exact hq') (by simp; omega)
   have e4 : k + ((a : Int) :: (l.drop (k + 1)).takeWhile (notLess own i)).length = (k + 1) + ((l.drop (k + 1)).takeWhile (notLess own i)).length := by rw [List.length_cons]; omega
   rw [List.append_assoc, List.singleton_append] at g1
   refine ⟨h', t5', q5', ?_, g1, g2, g3⟩
   rw [e4, ← e']
   simp only [loop_e,EB_r32_Order_1,Zaa,Zab,Zac,Zad,Zae,Zag,Zaj,Zak,Zan,Zar,Zau,Zay,Zaz,Zbb,Zbg,Zbi,Zbj,Zbk,Zbl,Zbo,Zbq,Zcb,Zcg,Zci,Zcn,Zcp,Zcq,Zcv,Zcw,Zcx,Zcz,Zda,Zdb,Zdc,Zdd,Q2,Q3,Q0,Q1,Zde,Zdh,Zdk,decide_true,eq_self,Q7,Q8,lo,h3',p1,p2,xwa,xwi,lv,fa,fi,e3,ev2,lt2,r1,hw]
  ·have e2 : ¬ notLess own i a = true := by simp only [notLess,gi,ga,decide_eq_true_eq]; exact e
   have e3 : ¬ ((cntD own[i] : Nat) : Int) ≤ (cntD own[a] : Nat) := by omega
   have z : ((k + ([] : List Int).length : Nat) : Int) = k := rfl
   rw [List.takeWhile_cons_of_neg e2, List.append_nil, z]
   refine ⟨h, t5, q5, ?_, o5, o3, hq⟩
   simp only [loop_e,EB_r32_Order_1,Zab,Zac,Zad,Zag,Zah,Zaj,Zak,Zal,Zas,Zav,Zay,Zaz,Zbb,Zbg,Zbi,Zbj,Zbk,Zbl,Zbo,Zbq,Zcb,Zcg,Zcp,Zcq,Zcv,Zcw,Zcx,Zcz,Zda,Zdb,Zdc,Zdd,Q2,Q3,Q0,Q1,Zdh,Zdk,decide_true,decide_false,eq_self,Q7,Q8,lo,h3',p1,p2,xwa,xwi,lv,fa,fi,e3]
theorem r_Ord_2 (i : Nat) (l : List Int) (hl : l.length ≤ 1000000) (t3 : AV) (q3 : Option Nat) (N : Nat) :
  ∀ (d k m : Nat) (pre : List Int) (h : AHeap) (t5 : AV) (q5 : Option Nat), l.length = k + d → d < m → OwnG 1 (eIs l) t3 h q3 → OwnG 1 (eIs pre) t5 h q5 → (∀ i, q5 = some i → q3 ≠ some i) → pre.length ≤ k + 1 →
   ∃ (h' : AHeap) (t5' : AV) (q5' : Option Nat), loopN (evalCode (lim G0.cfg) N B_r32_Order_2) m ⟨(v::J::J::t3 :: .int .i64 i :: t5 :: .int .i64 k::J::J::J::J::J::J::J::J::J::J::J::J::J::J::J::J::J::J::J::J::J::J::J::J::J::J::J::J::J::J::J::J::J::J::J::J::J::J::J::J::J::J::J::J::J::J::J::J::J::J::J::J::J::J::[]), h⟩ = some (.exit 4, ⟨(v::J::J::J::.int .i64 i :: t5'::J::J::J::J::J::J::J::J::J::J::J::J::J::J::J::J::J::J::J::J::J::J::J::J::J::J::J::J::J::J::J::J::J::J::J::J::J::J::J::J::J::J::J::J::J::J::J::J::J::J::J::J::J::J::J::[]), h'⟩) ∧ OwnG 1 (eIs (pre ++ l.drop k)) t5' h' q5' := by
 intro d
 induction d with
 | zero =>
  intro k m pre h t5 q5 h1 h2 o3 o5 hq hp
  obtain ⟨m, rfl⟩ : ∃ q, m = q + 1 := ⟨m - 1, by omega⟩
  have lo := o3.len h
  rw [Zep] at lo
  have h3 : ¬ ((k : Int) < l.length) := by omega
  have q1 : l.drop k = [] := Q5.2 (by omega)
  rw [q1, List.append_nil]
  refine ⟨h, t5, q5, ?_, o5⟩
  simp only [loop_e,EB_r32_Order_2,Zab,Zac,Zad,Zag,Zah,Zaj,Zak,Zal,Zas,Zav,Zay,Zbi,Zbk,Zbq,Zcg,Zcv,Zcx,Zdb,Zdc,Zdd,Q2,Q3,Q0,Q1,Zdh,decide_false,eq_self,lo,h3]
 | succ d ih =>
  intro k m pre h t5 q5 h1 h2 o3 o5 hq hp
  obtain ⟨m, rfl⟩ : ∃ q, m = q + 1 := ⟨m - 1, by omega⟩
  have lo := o3.len h
  rw [Zep] at lo
  have h3 : k < l.length := by omega
  have h3' : (k : Int) < l.length := by omega
  have hw := w64s (n := k) (by omega)
  have q1 : l.drop k = l[k] :: l.drop (k + 1) := Q4 h3
  obtain ⟨p, p1, p2⟩ := o3.ix1 (eIs_get2 h3)
  obtain ⟨a, ha⟩ : ∃ a, a = l[k] := ⟨_, rfl⟩
  rw [← ha] at p2
  have lt2 := fun h : AHeap => lit1' h (.int .i64 0) (.int .i64 a) rfl rfl
  rw [q1, ← ha]
  obtain ⟨j5, ver5, H2, r1, r2, r3, r4, r5⟩ := o5.push true (c := [.int .i64 a]) rfl rfl (eIs_all _) 8 (by omega) (by rw [Zep]; omega)
  rw [Zep] at r1 r2
  rw [← eIs_snoc] at r2
  have o3' := o3.frame (h' := H2) fun i o f e => r3 i o e (fun g => hq i g f)
  have hq' : q3 ≠ some j5 := fun f => by
   rcases r4 with g | ⟨_, g⟩
   ·exact hq j5 g f
   ·rw [f] at o3; have := o3.lt; omega
  obtain ⟨h', t5', q5', e', g1⟩ := ih (k + 1) m (pre ++ [a]) H2 _ (some j5) (by omega) (by omega) o3' r2 (fun i f => by cases f; exact hq') (by simp; omega)
  rw [List.append_assoc, List.singleton_append] at g1
  refine ⟨h', t5', q5', ?_, g1⟩
  rw [← e']
  simp only [loop_e,EB_r32_Order_2,Zaa,Zab,Zac,Zad,Zae,Zag,Zaj,Zak,Zan,Zar,Zau,Zay,Zaz,Zbi,Zbk,Zbo,Zbq,Zcb,Zcg,Zci,Zcn,Zcv,Zcw,Zcx,Zdb,Zdc,Zdd,Q2,Q3,Q0,Q1,Zde,Zdh,decide_true,eq_self,lo,h3',p1,p2,ev2,lt2,r1,hw]
end
end Go.Proofs.Ytkgndbhflehhhaa.Ai
namespace Go.Proofs.Ytkgndbhflehhhaa.Ai
open Go Go.Proofs
open AV renaming junk → J
open List renaming length_cons → Q0, takeWhile_append_dropWhile → Q1, takeWhile_cons_of_pos → Q2, takeWhile_cons_of_neg → Q3, getD_cons_zero → Q4, getD_cons_succ → Q5
set_option linter.unusedVariables false
set_option linter.unusedSimpArgs false
set_option maxRecDepth 10000
set_option maxHeartbeats 4000000
theorem ordStep_perm (own : List (List Int)) (l : List Int) (i : Int) : List.Perm (ordStep own l i) (i :: l) := by
 unfold ordStep
 exact List.perm_middle.trans (by rw [Q1])
theorem ordStep_len (own : List (List Int)) (l : List Int) (i : Int) : (ordStep own l i).length = l.length + 1 := by rw [(ordStep_perm own l i).length_eq, Q0]
section
variable {own : List (List Int)} {v : AV}
theorem drop_tw (p : Int → Bool) : ∀ l : List Int, l.drop (l.takeWhile p).length = l.dropWhile p := by
 intro l
 induction l with
 | nil => rfl
 | cons a l ih =>
  by_cases e : p a = true
  ·rw [Q2 e, List.dropWhile_cons_of_pos e, Q0, List.drop_succ_cons, ih]
  ·rw [Q3 e, List.dropWhile_cons_of_neg e]; rfl
theorem tw_le (p : Int → Bool) : ∀ l : List Int, (l.takeWhile p).length ≤ l.length := by
 intro l
 induction l with
 | nil => exact Nat.le_refl _
 | cons a l ih =>
  by_cases e : p a = true
  ·rw [Q2 e, Q0, Q0]; omega
  ·rw [Q3 e]; simp
theorem r_Ord_0 (hv : LiR own v) (hm : ∀ r ∈ own, r.length ≤ 1000000) (hn : own.length ≤ 900000) (N : Nat) (hN : 1000001 ≤ N) :
  ∀ (d i m : Nat) (l : List Int) (h : AHeap) (t3 : AV) (q3 : Option Nat), own.length = i + d → d < m → OwnG 1 (eIs l) t3 h q3 → l.length = i → (∀ x ∈ l, 0 ≤ x ∧ x < own.length) →
   ∃ (h' : AHeap) (t3' : AV) (q3' : Option Nat), loopN (evalCode (lim G0.cfg) N B_r32_Order_0) m ⟨(v::J::J::t3 :: .int .i64 i::J::J::J::J::J::J::J::J::J::J::J::J::J::J::J::J::J::J::J::J::J::J::J::J::J::J::J::J::J::J::J::J::J::J::J::J::J::J::J::J::J::J::J::J::J::J::J::J::J::J::J::J::J::J::J::J::[]), h⟩ = some (.exit 0, ⟨(J::J::J::t3'::J::J::J::J::J::J::J::J::J::J::J::J::J::J::J::J::J::J::J::J::J::J::J::J::J::J::J::J::J::J::J::J::J::J::J::J::J::J::J::J::J::J::J::J::J::J::J::J::J::J::J::J::J::J::J::J::J::[]), h'⟩) ∧ OwnG 1 (eIs (((iotaI own.length).drop i).foldl (ordStep own) l)) t3' h' q3' := by
 have lv0 := hv.len
 intro d
 induction d with
 | zero =>
  intro i m l h t3 q3 h1 h2 o3 hl hlm
  obtain ⟨m, rfl⟩ : ∃ q, m = q + 1 := ⟨m - 1, by omega⟩
  have h3 : ¬ ((i : Int) < own.length) := by omega
  have q1 : (iotaI own.length).drop i = [] := List.drop_eq_nil_iff.2 (by rw [iotaI_len]; omega)
  rw [q1]
  refine ⟨h, t3, q3, ?_, o3⟩
  simp only [loop_e,EB_r32_Order_0,Zab,Zac,Zad,Zag,Zah,Zaj,Zak,Zal,Zas,Zav,Zay,Zbi,Zbk,Zbq,Zcg,Zcv,Zcx,Zdb,Zdc,Zdd,List.set_cons_zero,List.set_cons_succ,Q4,Q5,Zdh,decide_false,eq_self,lv0,h3]
 | succ d ih =>
  intro i m l h t3 q3 h1 h2 o3 hl hlm
  obtain ⟨m, rfl⟩ : ∃ q, m = q + 1 := ⟨m - 1, by omega⟩
  have h3 : i < own.length := by omega
  have h3' : (i : Int) < own.length := by omega
  have hw := w64s (n := i) (by omega)
  have hi' : i < (iotaI own.length).length := by rw [iotaI_len]; exact h3
  have q1 : (iotaI own.length).drop i = ((i : Nat) : Int) :: (iotaI own.length).drop (i + 1) := by
   rw [List.drop_eq_getElem_cons hi']
   congr 1
   simp [iotaI]
  obtain ⟨h4, t5, q5, e1, o5, o3', hq⟩ := r_Ord_1 hv hm (by omega) i h3 l (by omega) hlm t3 q3 N l.length 0 N [] h .nilS none (by omega) (by omega) o3 (OwnG.nil 1 _) (fun _ e => (by cases e)) (by simp)
  rw [List.drop_zero, List.nil_append] at o5
  rw [List.drop_zero, Nat.zero_add, z0] at e1
  have tl := tw_le (notLess own i) l
  obtain ⟨j5, ver5, H2, r1, r2, r3, r4, r5⟩ := o5.push true (c := [.int .i64 ((i : Nat) : Int)]) rfl rfl (eIs_all _) 8 (by omega) (by rw [Zep]; omega)
  rw [Zep] at r1 r2
  rw [← eIs_snoc] at r2
  have o3'' := o3'.frame (h' := H2) fun i o f e => r3 i o e (fun g => hq i g f)
  have hq' : q3 ≠ some j5 := fun f => by
   rcases r4 with g | ⟨_, g⟩
   ·exact hq j5 g f
   ·rw [f] at o3'; have := o3'.lt; omega
  obtain ⟨H3, t6, q6, e2, o6⟩ := r_Ord_2 (v := v) i l (by omega) t3 q3 N (l.length - (l.takeWhile (notLess own i)).length) (l.takeWhile (notLess own i)).length N (l.takeWhile (notLess own i) ++ [(i : Int)]) H2 _ (some j5) (by omega) (by omega) o3'' r2 (fun i f => by cases f; exact hq') (by simp)
  have es : l.takeWhile (notLess own i) ++ [(i : Int)] ++ l.drop (l.takeWhile (notLess own i)).length = ordStep own l i := by rw [drop_tw, List.append_assoc, List.singleton_append]; rfl
  rw [es] at o6
  obtain ⟨h', t3', q3', e', g⟩ := ih (i + 1) m (ordStep own l i) H3 t6 q6 (by omega) (by omega) o6 (by rw [ordStep_len]; omega) (fun x hx => by
   rcases List.mem_cons.1 ((ordStep_perm own l i).mem_iff.1 hx) with h | h
   ·subst h; omega
   ·exact hlm x h)
  rw [q1, List.foldl_cons]
  refine ⟨h', t3', q3', ?_, g⟩
  rw [← e']
  have lt2 := fun h : AHeap => lit1' h (.int .i64 0) (.int .i64 ((i : Nat) : Int)) rfl rfl
  simp only [loop_e,EB_r32_Order_0,Zaa,Zab,Zac,Zad,Zae,Zaf,Zag,Zaj,Zak,Zan,Zap,Zar,Zat,Zau,Zay,Zaz,Zbi,Zbk,Zbq,Zcg,Zci,Zcn,Zcv,Zcw,Zcx,Zdb,Zdc,Zdd,List.set_cons_zero,List.set_cons_succ,Q4,Q5,Zde,Zdh,decide_true,eq_self,lv0,h3',e1,ev2,lt2,r1,e2,hw]
theorem r_Order (hv : LiR own v) (hm : ∀ r ∈ own, r.length ≤ 1000000) (hn : own.length ≤ 900000) : ∃ x, Li (orderD own) x ∧ ∀ H, lim G0.cfg (.func 28) [v] H = some (x, H) := by
 obtain ⟨h', t3, q3, e, o⟩ := r_Ord_0 hv hm hn 1000001 (by omega) own.length 0 1000001 [] [] .nilS none (by omega) (by omega) (OwnG.nil 1 _) rfl (fun _ h => (by simp at h))
 rw [List.drop_zero] at o
 rw [z0] at e
 have hO : (iotaI own.length).foldl (ordStep own) [] = orderD own := rfl
 rw [hO] at o
 have run : runFn (lim G0.cfg) 1000001 A_r32_Order [v] [] = some (t3, h') := by
  rw [R_r32_Order]
  simp only [Zab,Zac,Zae,Zaf,Zag,Zai,Zaj,Zak,Zap,Zat,Zbi,Zbk,Zcu,Zcv,Zcw,Zcx,Zdb,Zdc,Zdd,List.set_cons_zero,List.set_cons_succ,Q4,Q5,Option.map_some,Q0,List.length_nil,Nat.reduceAdd,Nat.reduceSub,eq_self,Q0,List.length_nil,List.replicate_succ,List.replicate_zero,List.cons_append,List.nil_append,e,resAll,resVals,resVal]
 obtain ⟨x, c, f1, f2⟩ := fzI o 998
 exact ⟨x, f2, fun H => lim_fz rfl rfl P_r32_Order 1000001 (fz_1 (hv.fz H 999)) run f1 rfl⟩
end
end Go.Proofs.Ytkgndbhflehhhaa.Ai
namespace Go.Proofs.Ytkgndbhflehhhaa.Ai
open Go Go.Proofs
open AV renaming junk → J
open List renaming length_cons → Q0, takeWhile_append_dropWhile → Q1, takeWhile_cons_of_pos → Q2, takeWhile_cons_of_neg → Q3, getD_cons_zero → Q4, getD_cons_succ → Q5
set_option linter.unusedVariables false
set_option linter.unusedSimpArgs false
theorem key_lt (own : List (List Int)) (i x : Int) : keyD own i < keyD own x ↔ ¬ notLess own i x = true := by
 unfold keyD notLess cntX
 rw [decide_eq_true_eq]
 generalize cntD (own.getD x.toNat []) = a
 generalize cntD (own.getD i.toNat []) = b
 constructor <;> intro h <;> omega
theorem dw_head (p : Int → Bool) : ∀ l : List Int, l.dropWhile p = [] ∨ ∃ a r, l.dropWhile p = a :: r ∧ ¬ p a = true := by
 intro l
 induction l with
 | nil => exact .inl rfl
 | cons a l ih =>
  by_cases e : p a = true
  ·rw [List.dropWhile_cons_of_pos e]; exact ih
  ·rw [List.dropWhile_cons_of_neg e]; exact .inr ⟨a, l, rfl, e⟩
theorem tw_all (p : Int → Bool) : ∀ (l : List Int) (x : Int), x ∈ l.takeWhile p → p x = true := by
 intro l
 induction l with
 | nil => intro x h; simp at h
 | cons a l ih =>
  intro x h
  by_cases e : p a = true
  ·rw [Q2 e] at h
   rcases List.mem_cons.1 h with h | h
   ·subst h; exact e
   ·exact ih x h
  ·rw [Q3 e] at h; simp at h
theorem snoc_cases (l : List Int) : l = [] ∨ ∃ l1 x, l = l1 ++ [x] := by
 rcases List.eq_nil_or_concat l with h | ⟨a, b, h⟩
 ·exact .inl h
 ·exact .inr ⟨a, b, by rw [h]; try simp⟩
theorem ordStep_sorted (own : List (List Int)) (l : List Int) (i : Int) (hs : SortedK (keyD own) l) (hl : ∀ s ∈ l, s < i) : SortedK (keyD own) (ordStep own l i) := by
 have hs' : SortedK (keyD own) (l.takeWhile (notLess own i) ++ l.dropWhile (notLess own i)) := by rw [Q1]; exact hs
 refine insert_sorted hs' (by rw [Q1]; exact hl) ?_ ?_
 ·intro q hq
  rcases dw_head (notLess own i) l with h | ⟨a, r, h, ha⟩
  ·rw [h] at hq; simp at hq
  ·have h2 := (List.pairwise_append.1 hs').2.1
   rw [h] at hq h2
   have ka := (key_lt own i a).2 ha
   rcases List.mem_cons.1 hq with e | e
   ·subst e; exact ka
   ·have := (List.pairwise_cons.1 h2).1 q e
    unfold lexlt at this
    omega
 ·rcases snoc_cases (l.takeWhile (notLess own i)) with h | ⟨l1, x, h⟩
  ·exact .inl h
  ·refine .inr ⟨l1, x, h, fun hk => ?_⟩
   exact (key_lt own i x).1 hk (tw_all _ l x (by rw [h]; simp))
theorem foldO_perm (own : List (List Int)) : ∀ (xs l : List Int), List.Perm (xs.foldl (ordStep own) l) (l ++ xs) := by
 intro xs
 induction xs with
 | nil => intro l; rw [List.append_nil]; exact List.Perm.refl _
 | cons x xs ih =>
  intro l
  rw [List.foldl_cons]
  refine (ih _).trans ?_
  exact ((ordStep_perm own l x).append_right xs).trans List.perm_middle.symm
theorem foldO_sorted (own : List (List Int)) : ∀ (xs l : List Int), SortedK (keyD own) l → xs.Pairwise (· < ·) → (∀ s ∈ l, ∀ x ∈ xs, s < x) → SortedK (keyD own) (xs.foldl (ordStep own) l) := by
 intro xs
 induction xs with
 | nil => intro l h _ _; exact h
 | cons x xs ih =>
  intro l h1 h2 h3
  rw [List.foldl_cons]
  rw [List.pairwise_cons] at h2
  refine ih _ (ordStep_sorted own l x h1 fun s hs => h3 s hs x (by simp)) h2.2 fun s hs y hy => ?_
  rcases List.mem_cons.1 ((ordStep_perm own l x).mem_iff.1 hs) with e | e
  ·subst e; exact h2.1 y hy
  ·exact h3 s e y (by simp [hy])
theorem orderD_ok (own : List (List Int)) : OrdOk own (orderD own) := by
 refine ⟨?_, foldO_sorted own _ [] List.Pairwise.nil (iotaI_lt _) (by simp)⟩
 have := foldO_perm own (iotaI own.length) []
 rwa [List.nil_append] at this
theorem OrdOk.eq {own : List (List Int)} {ord : List Int} (h : OrdOk own ord) : ord = orderD own := by
 obtain ⟨p1, s1⟩ := h
 obtain ⟨p2, s2⟩ := orderD_ok own
 refine List.Perm.eq_of_pairwise (fun a b _ _ h1 h2 => ?_) s1 s2 (p1.trans p2.symm)
 unfold lexlt at h1 h2
 omega
end Go.Proofs.Ytkgndbhflehhhaa.Ai
