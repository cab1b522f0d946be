/- pack.Lay as a call; r32_SameComb; l32_fewRows. -/
import Derived.Test.YtkgndbhflehhhaamPmv
import Derived.Test.YtkgndbhflehhhaamPk2
namespace Go.Proofs.Ytkgndbhflehhhaa.Ai
open Go Go.Proofs
open AV renaming junk → J
open List renaming getD_cons_zero → Q0, getD_cons_succ → Q1, set_cons_zero → Q2, set_cons_succ → Q3
set_option linter.unusedVariables false
set_option linter.unusedSimpArgs false
set_option maxRecDepth 10000
set_option maxHeartbeats 4000000
def layT (rows : List (List Int)) : RowT :=
 ⟨(distD rows).2, (layD (distD rows).1 (orderD (distD rows).1)).1, (layD (distD rows).1 (orderD (distD rows).1)).2.1, (layD (distD rows).1 (orderD (distD rows).1)).2.2⟩
theorem mapO_eIs {h : AHeap} {d : Nat} : ∀ l : List Int, ∃ q, mapO (mapO (freeze h (d + 1))) (eIs l) = some q ∧ q.map (·.map (·.1)) = eIs l := by
 intro l
 induction l with
 | nil => exact ⟨[], rfl, rfl⟩
 | cons a l ih =>
  obtain ⟨q, e1, e2⟩ := ih
  have e3 : mapO (freeze h (d + 1)) [.int .i64 a] = some [(.int .i64 a, true)] := rfl
  have e4 : eIs (a :: l) = [.int .i64 a] :: eIs l := rfl
  exact ⟨[(.int .i64 a, true)] :: q, by rw [e4]; simp only [mapO] at e3 ⊢; simp only [e3,e1], by rw [e4]; simp [e2]⟩
theorem fzH {l : List Int} {i n : Nat} {h : AHeap} {cc : Option Nat} {tl : List (List AV)} {b : Bool} (hi : h[i]? = some (.arr 0 1 b (eIs l ++ tl))) (hn : n = l.length) (d : Nat) : ∃ x c, freeze h (d + 2) (.hsl i 0 0 n cc) = some (x, c) ∧ Li l x := by
 subst hn
 obtain ⟨q, e1, e2⟩ := mapO_eIs (h := h) (d := d) l
 have tk : (eIs l ++ tl).take l.length = eIs l := List.take_left' (Zep l)
 have := freeze_hslG (d := d + 1) (n := l.length) (cc := cc) (q := q) hi (by rw [List.length_append, Zep]; omega) (by rw [tk]; exact e1)
 exact ⟨_, false, this, .inr ⟨false, by rw [e2]⟩⟩
theorem fzG {l : List Int} {w : AV} {h : AHeap} {q : Option Nat} (ho : GrowV l w h q) (d : Nat) : ∃ x c, freeze h (d + 2) w = some (x, c) ∧ Li l x := by
 rcases ho with ⟨h1, h2, _⟩ | ⟨i, c, _, h2, h3, h4⟩
 ·subst h2; exact ⟨.nilS, true, rfl, .inl ⟨h1, rfl⟩⟩
 ·subst h2; exact fzH h4 rfl d
theorem f_Lay {rows : List (List Int)} {v : AV} (hv : LiR rows v) (hn : rows.length ≤ 1000000) (M : Nat) (hM : ∀ r ∈ rows, r.length ≤ M) (hM1 : M ≤ 1000000) (hM2 : rows.length * M + M ≤ 9000000) : ∃ cs, RT (layT rows) cs ∧ ∀ H, lim G0.cfg (.func 13) [v] H = some (.agg cs, H) := by
 obtain ⟨ord, h, rv, vv, kv, Lb, q1, qv, qk, ho, run, o1, eb, lb, gv, gk⟩ := run_Lay hv hn M hM hM1 hM2
 rw [ho.eq] at eb lb gv gk
 obtain ⟨x1, c1, f1, g1⟩ := fzI o1 997
 have eb' : h[Lb]? = some (.arr 0 1 true (eIs (layD (distD rows).1 (orderD (distD rows).1)).1 ++ [])) := by rw [List.append_nil]; exact eb
 obtain ⟨x2, c2, f2, g2⟩ := fzH (n := (distD rows).1.length) (cc := none) eb' lb.symm 997
 obtain ⟨x3, c3, f3, g3⟩ := fzG gv 997
 obtain ⟨x4, c4, f4, g4⟩ := fzG gk 997
 have fz : freeze h 1000 (.agg [rv, .hsl Lb 0 0 (distD rows).1.length none, vv, kv]) = some (.agg [x1, x2, x3, x4], ([(x1, c1), (x2, c2), (x3, c3), (x4, c4)] : List (AV × Bool)).all (·.2)) := by
  have : freeze h 1000 (.agg [rv, .hsl Lb 0 0 (distD rows).1.length none, vv, kv]) = (mapO (freeze h 999) [rv, .hsl Lb 0 0 (distD rows).1.length none, vv, kv]).map fun l => (.agg (l.map (·.1)), l.all (·.2)) := rfl
  rw [this]
  have m : mapO (freeze h 999) [rv, .hsl Lb 0 0 (distD rows).1.length none, vv, kv] = some [(x1, c1), (x2, c2), (x3, c3), (x4, c4)] := by simp only [mapO,f1,f2,f3,f4]
  rw [m]
  rfl
 exact ⟨[x1, x2, x3, x4], ⟨x1, x2, x3, x4, rfl, g1, g2, g3, g4⟩, fun H => lim_fz rfl rfl P_pack_Lay 9000001 (fz_1 (hv.fz H 999)) run fz rfl⟩
end Go.Proofs.Ytkgndbhflehhhaa.Ai
namespace Go.Proofs.Ytkgndbhflehhhaa.Ai
open Go Go.Proofs
open AV renaming junk → J
open List renaming getD_cons_zero → Q0, getD_cons_succ → Q1, set_cons_zero → Q2, set_cons_succ → Q3
set_option linter.unusedVariables false
set_option linter.unusedSimpArgs false
set_option maxRecDepth 10000
set_option maxHeartbeats 4000000
theorem extL_snoc (l : List Int) (n : Nat) (h : l.length < n) : extL (l ++ [0]) n = extL l n := by
 have e : n - l.length = (n - (l ++ [0]).length) + 1 := by simp; omega
 rw [extL, extL, e, List.replicate_succ, List.append_assoc, List.singleton_append]
section
variable {v0 v1 w2 w3 w6 w7 w8 : AV}
theorem r_Lay_3 (T b j N : Nat) (hT : 2 ≤ T) (hb : b + j ≤ 900000) : ∀ (d m : Nat) (vals chk : List Int) (h : AHeap) (vv kv : AV) (qv qk : Option Nat), vals.length + d = max vals.length (b + j + 1) → d < m → chk.length = vals.length → vals.length ≤ 1000000 → h[1]? = some (.arr 0 4 true [[v0, v1, vv, kv]]) → OwnG 1 (eIs vals) vv h qv → OwnG 1 (eIs chk) kv h qk → (∀ i, qv = some i → T ≤ i) → (∀ i, qk = some i → T ≤ i) → (∀ i, qv = some i → qk ≠ some i) → T ≤ h.length →
  ∃ (h' : AHeap) (vv' kv' : AV) (qv' qk' : Option Nat), loopN (evalCode (lim G0.cfg) N B_r32_Lay_3) m ⟨(J::J::w2 :: w3::J::.ptr 1 0 0 0 :: w6 :: w7 :: w8 :: .int .i64 b :: .int .i64 j::J::J::J::J::J::J::J::J::J::J::J::J::J::J::J::J::J::J::J::J::J::J::J::J::J::J::J::J::J::J::J::J::J::J::J::J::J::J::J::J::J::J::J::J::J::J::J::J::J::J::J::J::J::J::J::J::J::J::J::J::J::J::J::J::J::J::J::J::J::J::J::J::J::J::J::J::J::J::J::J::J::J::J::J::J::J::J::J::J::J::J::J::J::J::[]), h⟩ = some (.exit 6, ⟨(J::J::w2 :: w3::J::.ptr 1 0 0 0 :: w6 :: w7 :: w8 :: .int .i64 b :: .int .i64 j::J::J::J::J::J::J::J::J::J::J::J::J::J::J::J::J::J::J::J::J::J::J::J::J::J::J::J::J::J::J::J::J::J::J::J::J::J::J::J::J::J::J::J::J::J::J::J::J::J::J::J::J::J::J::J::J::J::J::J::J::J::J::J::J::J::J::J::J::J::J::J::J::J::J::J::J::J::J::J::J::J::J::J::J::J::J::J::J::J::J::J::J::J::J::[]), h'⟩) ∧
   h'[1]? = some (.arr 0 4 true [[v0, v1, vv', kv']]) ∧ OwnG 1 (eIs (extL vals (b + j + 1))) vv' h' qv' ∧ OwnG 1 (eIs (extL chk (b + j + 1))) kv' h' qk' ∧ (∀ (p : Nat) (o : AObj), p < T → p ≠ 1 → h[p]? = some o → h'[p]? = some o) ∧ (∀ i, qv' = some i → T ≤ i) ∧ (∀ i, qk' = some i → T ≤ i) ∧ (∀ i, qv' = some i → qk' ≠ some i) ∧ T ≤ h'.length := by
 intro d
 induction d with
 | zero =>
  intro m vals chk h vv kv qv qk h1 h2 hl hn e1 ov ok tv tk hq hT2
  obtain ⟨m, rfl⟩ : ∃ q, m = q + 1 := ⟨m - 1, by omega⟩
  have hw := w64a (a := b) (b := j) (by omega)
  have lo := ov.len h
  rw [Zep] at lo
  have l2 := c_ld2 e1
  have h3 : ¬ ((vals.length : Int) ≤ ((b + j : Nat) : Int)) := by omega
  refine ⟨h, vv, kv, qv, qk, ?_, e1, by rw [extL_same (by omega)]; exact ov, by rw [extL_same (by omega)]; exact ok, fun _ _ _ _ e => e, tv, tk, hq, hT2⟩
  simp only [loop_e,EB_r32_Lay_3,Zab,Zac,Zad,Zag,Zah,Zaj,Zak,Zal,Zas,Zav,Zay,Zbi,Zbk,Zbo,Zbq,Zby,Zcg,Zcv,Zcx,Zdb,Zdc,Zdd,Q2,Q3,Q0,Q1,Zde,Zdi,Zdx,decide_false,Nat.reduceAdd,eq_self,l2,lo,hw,h3]
 | succ d ih =>
  intro m vals chk h vv kv qv qk h1 h2 hl hn e1 ov ok tv tk hq hT2
  obtain ⟨m, rfl⟩ : ∃ q, m = q + 1 := ⟨m - 1, by omega⟩
  have hw := w64a (a := b) (b := j) (by omega)
  have lo := ov.len h
  rw [Zep] at lo
  have l2 := c_ld2 e1
  have h3 : ((vals.length : Int) ≤ ((b + j : Nat) : Int)) := by omega
  obtain ⟨iv, ver1, H1, r1, r2, r3, r4, r5⟩ := ov.push true (c := [.int .i64 0]) rfl rfl (eIs_all _) 8 (by omega) (by rw [Zep]; omega)
  rw [Zep] at r1 r2
  rw [← eIs_snoc] at r2
  have n1 : qv ≠ some 1 := fun e => by have := tv 1 e; omega
  have e1' := r3 1 _ e1 n1
  have tiv : T ≤ iv := by
   rcases r4 with g | ⟨_, g⟩
   ·exact tv iv g
   ·omega
  have ok1 := ok.frame (h' := H1) fun i o f e => r3 i o e (fun g => hq i g f)
  have hne : qk ≠ some iv := fun f => by
   rcases r4 with g | ⟨_, g⟩
   ·exact hq iv g f
   ·rw [f] at ok; have := ok.lt; omega
  have s2 := c_st2 e1' r2.cell
  obtain ⟨vvx, hvx⟩ : ∃ x, x = AV.hsl iv ver1 0 (vals.length + 1) none := ⟨_, rfl⟩
  rw [← hvx] at r1 r2 s2
  obtain ⟨H2, hH2⟩ : ∃ H, H = H1.set 1 (.arr 0 4 true [[v0, v1, vvx, kv]]) := ⟨_, rfl⟩
  rw [← hH2] at s2
  have e2 : H2[1]? = some (.arr 0 4 true [[v0, v1, vvx, kv]]) := by rw [hH2]; exact get_set_eq e1'
  have fr2 : ∀ (p : Nat) (o : AObj), p ≠ 1 → H1[p]? = some o → H2[p]? = some o := fun p o n e => by rw [hH2]; exact get_set_ne e n.symm
  have ov2 := r2.frame (h' := H2) fun i o f e => fr2 i o (by cases f; omega) e
  have ok2 := ok1.frame (h' := H2) fun i o f e => fr2 i o (by have := tk i f; omega) e
  have l3 := c_ld3 e2
  obtain ⟨ik, ver2, H3, p1, p2, p3, p4, p5⟩ := ok2.push true (c := [.int .i64 0]) rfl rfl (eIs_all _) 8 (by omega) (by rw [Zep]; omega)
  rw [Zep] at p1 p2
  rw [← eIs_snoc] at p2
  have n2 : qk ≠ some 1 := fun e => by have := tk 1 e; omega
  have e3 := p3 1 _ e2 n2
  have lenH2 : H2.length = H1.length := by rw [hH2, List.length_set]
  have tik : T ≤ ik := by
   rcases p4 with g | ⟨_, g⟩
   ·exact tk ik g
   ·omega
  have ov3 := ov2.frame (h' := H3) fun i o f e => p3 i o e (fun g => by cases f; exact hne g)
  have hne2 : iv ≠ ik := fun f => by
   rcases p4 with g | ⟨_, g⟩
   ·rw [← f] at g; exact hne g
   ·have := ov2.lt; omega
  have s3 := c_st3 e3 p2.cell
  obtain ⟨kvx, hkx⟩ : ∃ x, x = AV.hsl ik ver2 0 (chk.length + 1) none := ⟨_, rfl⟩
  rw [← hkx] at p1 p2 s3
  obtain ⟨H4, hH4⟩ : ∃ H, H = H3.set 1 (.arr 0 4 true [[v0, v1, vvx, kvx]]) := ⟨_, rfl⟩
  rw [← hH4] at s3
  have e4 : H4[1]? = some (.arr 0 4 true [[v0, v1, vvx, kvx]]) := by rw [hH4]; exact get_set_eq e3
  have fr4 : ∀ (p : Nat) (o : AObj), p ≠ 1 → H3[p]? = some o → H4[p]? = some o := fun p o n e => by rw [hH4]; exact get_set_ne e n.symm
  have ov4 := ov3.frame (h' := H4) fun i o f e => fr4 i o (by cases f; omega) e
  have ok4 := p2.frame (h' := H4) fun i o f e => fr4 i o (by cases f; omega) e
  have lenH4 : H4.length = H3.length := by rw [hH4, List.length_set]
  have le1 : (vals ++ [0]).length = vals.length + 1 := by simp
  have le2 : (chk ++ [0]).length = chk.length + 1 := by simp
  obtain ⟨h', vv', kv', qv', qk', e, g1, g2, g3, g4, g5, g6, g7, g8⟩ := ih m (vals ++ [0]) (chk ++ [0]) H4 vvx kvx (some iv) (some ik) (by omega) (by omega) (by omega) (by omega) e4 ov4 ok4 (fun i f => by cases f; exact tiv) (fun i f => by cases f; exact tik) (fun i f g => by cases f; cases g; exact hne2 rfl) (by omega)
  rw [extL_snoc _ _ (by omega)] at g2 g3
  refine ⟨h', vv', kv', qv', qk', ?_, g1, g2, g3, fun p o t1 t2 eo => g4 p o t1 t2 (fr4 p o t2 (p3 p o (fr2 p o t2 (r3 p o eo fun f => by have := tv p f; omega)) fun f => by have := tk p f; omega)), g5, g6, g7, g8⟩
  rw [← e]
  have lt2 := fun h : AHeap => lit1' h (.int .i64 0) (.int .i64 0) rfl rfl
  simp only [loop_e,EB_r32_Lay_3,Zaa,Zab,Zac,Zad,Zae,Zag,Zaj,Zak,Zan,Zar,Zau,Zay,Zaz,Zba,Zbi,Zbk,Zbo,Zbp,Zbq,Zby,Zcg,Zci,Zcn,Zcv,Zcw,Zcx,Zcy,Zdb,Zdc,Zdd,Q2,Q3,Q0,Q1,Zde,Zdi,Zdx,decide_true,Nat.reduceAdd,eq_self,l2,lo,hw,h3,ev2,lt2,r1,s2,l3,p1,s3]
end
end Go.Proofs.Ytkgndbhflehhhaa.Ai
namespace Go.Proofs.Ytkgndbhflehhhaa.Ai
open Go Go.Proofs
open AV renaming junk → J
open List renaming getD_cons_zero → Q0, getD_cons_succ → Q1, set_cons_zero → Q2, set_cons_succ → Q3
set_option linter.unusedVariables false
set_option linter.unusedSimpArgs false
set_option maxRecDepth 10000
set_option maxHeartbeats 4000000
theorem r_fitsO {chk row : List Int} {kv rv : AV} {H : AHeap} {q : Option Nat} (ho : OwnG 1 (eIs chk) kv H q) (h2 : Li row rv) (k : Nat) (hk1 : k ≤ 1000000000) (hk2 : chk.length ≤ 1000000000) (hm : row.length ≤ 1000000) :
  lim G0.cfg (.func 40) [kv, rv, .int .i64 k] H = some (.bool (fitsD chk row k), H) := by
 obtain ⟨x, c, f1, f2⟩ := fzI ho 998
 obtain ⟨h', run⟩ := run_fits f2 h2 k hk1 hk2 hm
 have ha : mapO (freeze H 1000) [kv, rv, .int .i64 k] = some [(x, c), (rv, true), (.int .i64 k, true)] := by
  have e1 := h2.fz H 999
  have e2 : freeze H 1000 (.int .i64 k) = some (.int .i64 k, true) := rfl
  simp only [mapO,f1,e1,e2]
 exact lim_fz rfl rfl P_r32_fits (row.length + 1) ha run (rfl : freeze h' 1000 (.bool _) = some (.bool _, true)) (Bool.or_true _)
section
variable {v0 v1 vv kv w2 w3 w6 w7 rv : AV} {h : AHeap} {chk row : List Int} {qk : Option Nat}
theorem r_Lay_1 (e1 : h[1]? = some (.arr 0 4 true [[v0, v1, vv, kv]])) (ho : OwnG 1 (eIs chk) kv h qk) (hr : Li row rv) (hk2 : chk.length ≤ 1000000) (hm : row.length ≤ 1000000) (N : Nat) : ∀ (d k m : Nat), chk.length ≤ k + d → k ≤ chk.length → d < m →
  loopN (evalCode (lim G0.cfg) N B_r32_Lay_1) m ⟨(J::J::w2 :: w3::J::.ptr 1 0 0 0 :: w6 :: w7 :: rv :: .int .i64 k::J::J::J::J::J::J::J::J::J::J::J::J::J::J::J::J::J::J::J::J::J::J::J::J::J::J::J::J::J::J::J::J::J::J::J::J::J::J::J::J::J::J::J::J::J::J::J::J::J::J::J::J::J::J::J::J::J::J::J::J::J::J::J::J::J::J::J::J::J::J::J::J::J::J::J::J::J::J::J::J::J::J::J::J::J::J::J::J::J::J::J::J::J::J::J::[]), h⟩ = some (.exit 2, ⟨(J::J::w2 :: w3::J::.ptr 1 0 0 0 :: w6 :: w7 :: rv :: .int .i64 (baseGo chk row d k)::J::J::J::J::J::J::J::J::J::J::J::J::J::J::J::J::J::J::J::J::J::J::J::J::J::J::J::J::J::J::J::J::J::J::J::J::J::J::J::J::J::J::J::J::J::J::J::J::J::J::J::J::J::J::J::J::J::J::J::J::J::J::J::J::J::J::J::J::J::J::J::J::J::J::J::J::J::J::J::J::J::J::J::J::J::J::J::J::J::J::J::J::J::J::J::[]), h⟩) := by
 have l3 := c_ld3 e1
 intro d
 induction d with
 | zero =>
  intro k m h1 h2 h3
  obtain ⟨m, rfl⟩ : ∃ q, m = q + 1 := ⟨m - 1, by omega⟩
  have f := r_fitsO ho hr k (by omega) (by omega) hm
  rw [fitsD_end chk _ k (by omega)] at f
  rw [baseGo]
  simp only [loop_e,EB_r32_Lay_1,Zab,Zac,Zad,Zag,Zah,Zaj,Zak,Zal,Zas,Zav,Zay,Zaz,Zbi,Zbk,Zbo,Zbr,Zby,Zcp,Zcq,Zcv,Zcw,Zcx,Zcz,Zda,Zdb,Zdc,Zdd,Q2,Q3,Q0,Q1,Zdr,Zdx,Bool.not_true,Nat.reduceAdd,eq_self,List.cons_append,List.nil_append,l3,f]
 | succ d ih =>
  intro k m h1 h2 h3
  obtain ⟨m, rfl⟩ : ∃ q, m = q + 1 := ⟨m - 1, by omega⟩
  have f := r_fitsO ho hr k (by omega) (by omega) hm
  have hw := w64s (n := k) (by omega)
  rw [baseGo]
  cases fb : fitsD chk row k with
  | true =>
   rw [fb] at f
   rw [cond_true]
   simp only [loop_e,EB_r32_Lay_1,Zab,Zac,Zad,Zag,Zah,Zaj,Zak,Zal,Zas,Zav,Zay,Zaz,Zbi,Zbk,Zbo,Zbr,Zby,Zcp,Zcq,Zcv,Zcw,Zcx,Zcz,Zda,Zdb,Zdc,Zdd,Q2,Q3,Q0,Q1,Zdr,Zdx,Bool.not_true,Nat.reduceAdd,eq_self,List.cons_append,List.nil_append,l3,f]
  | false =>
   have hlt : k < chk.length := by
    rcases Nat.lt_or_ge k chk.length with h | h
    ·exact h
    ·rw [fitsD_end chk _ k h] at fb; cases fb
   rw [fb] at f
   rw [cond_false, ← ih (k + 1) m (by omega) (by omega) (by omega)]
   simp only [loop_e,EB_r32_Lay_1,Zaa,Zab,Zac,Zad,Zae,Zag,Zaj,Zak,Zan,Zar,Zau,Zay,Zaz,Zbi,Zbk,Zbo,Zbq,Zbr,Zby,Zcp,Zcq,Zcv,Zcw,Zcx,Zcz,Zda,Zdb,Zdc,Zdd,Q2,Q3,Q0,Q1,Zde,Zdr,Zdx,Bool.not_false,Nat.reduceAdd,eq_self,List.cons_append,List.nil_append,l3,f,hw]
end
end Go.Proofs.Ytkgndbhflehhhaa.Ai
namespace Go.Proofs.Ytkgndbhflehhhaa.Ai
open Go Go.Proofs
open AV renaming junk → J
open List renaming getD_cons_zero → Q0, getD_cons_succ → Q1, set_cons_zero → Q2, set_cons_succ → Q3, replicate → Q4, length_set → Q5
set_option linter.unusedVariables false
set_option linter.unusedSimpArgs false
set_option maxRecDepth 10000
set_option maxHeartbeats 4000000
theorem OwnG.putI {l : List Int} {v : AV} {h : AHeap} {q : Option Nat} (ho : OwnG 1 (eIs l) v h q) {j : Nat} (hj : j < l.length) (n : Int) : ∃ (i : Nat) (p : AV) (h' : AHeap), q = some i ∧ (∀ k : IntKind, aindexAddr h 1 v (.int k j) = some p) ∧ astore h 1 p (.int .i64 n) = some h' ∧ OwnG 1 (eIs (l.set j n)) v h' (some i) ∧ (∀ (r : Nat) (o : AObj), h[r]? = some o → r ≠ i → h'[r]? = some o) ∧ h'.length = h.length := by
 rcases ho with ⟨h1, _⟩ | ⟨h1, i, ver, h2, h3, h4⟩
 ·have : l = [] := by cases l with | nil => rfl | cons a l => simp [eIs] at h1
  subst this; simp at hj
 ·subst h3
  have hi' : h[i]? = some (.arr ver 1 false (eIs l ++ [])) := by rw [List.append_nil]; exact h4
  have s := stI hi' hj n
  rw [List.append_nil] at s
  refine ⟨i, .ptr i ver j 0, _, h2, fun k => ix_hv h4 (by rw [Zep]; exact hj), s, .inr ⟨?_, i, ver, rfl, by rw [Zep, Zep, Q5], get_set_eq h4⟩, fun r o e hne => get_set_ne e (Ne.symm hne), by simp⟩
  intro e
  have := congrArg List.length e
  rw [Zep, Q5] at this
  simp at this
  subst this; simp at hj
section
variable {v0 v1 w2 w3 rx rv : AV} {row ord : List Int}
theorem r_Lay_2 (hr : Li row rv) (hm : row.length ≤ 1000000) (ho : Li ord rx) (ip a : Nat) (hip : ip < ord.length) (hao : ord[ip] = (a : Int)) (ha : a ≤ 1000000) (b T N : Nat) (hb : b + row.length ≤ 900000) (hT : 2 ≤ T) (hN : 1000001 ≤ N) :
  ∀ (d i m : Nat) (s : List Int × List Int) (h : AHeap) (vv kv : AV) (qv qk : Option Nat), row.length = i + d → d < m → h[1]? = some (.arr 0 4 true [[v0, v1, vv, kv]]) → OwnG 1 (eIs s.1) vv h qv → OwnG 1 (eIs s.2) kv h qk → s.2.length = s.1.length → s.1.length ≤ 1000000 → (∀ i, qv = some i → T ≤ i) → (∀ i, qk = some i → T ≤ i) → (∀ i, qv = some i → qk ≠ some i) → T ≤ h.length →
  ∃ (h' : AHeap) (vv' kv' : AV) (qv' qk' : Option Nat), loopN (evalCode (lim G0.cfg) N B_r32_Lay_2) m ⟨(J::J::w2 :: w3::J::.ptr 1 0 0 0 :: rx :: .int .i64 ip :: rv :: .int .i64 b :: .int .i64 i::J::J::J::J::J::J::J::J::J::J::J::J::J::J::J::J::J::J::J::J::J::J::J::J::J::J::J::J::J::J::J::J::J::J::J::J::J::J::J::J::J::J::J::J::J::J::J::J::J::J::J::J::J::J::J::J::J::J::J::J::J::J::J::J::J::J::J::J::J::J::J::J::J::J::J::J::J::J::J::J::J::J::J::J::J::J::J::J::J::J::J::J::J::J::[]), h⟩ = some (.exit 4, ⟨(J::J::w2 :: w3::J::.ptr 1 0 0 0 :: rx :: .int .i64 ip::J::J::J::J::J::J::J::J::J::J::J::J::J::J::J::J::J::J::J::J::J::J::J::J::J::J::J::J::J::J::J::J::J::J::J::J::J::J::J::J::J::J::J::J::J::J::J::J::J::J::J::J::J::J::J::J::J::J::J::J::J::J::J::J::J::J::J::J::J::J::J::J::J::J::J::J::J::J::J::J::J::J::J::J::J::J::J::J::J::J::J::J::J::J::J::J::J::[]), h'⟩) ∧
   h'[1]? = some (.arr 0 4 true [[v0, v1, vv', kv']]) ∧ OwnG 1 (eIs (placeD s (row.drop i) (b + i) ((a + 1 : Nat) : Int)).1) vv' h' qv' ∧ OwnG 1 (eIs (placeD s (row.drop i) (b + i) ((a + 1 : Nat) : Int)).2) kv' h' qk' ∧ (∀ (p : Nat) (o : AObj), p < T → p ≠ 1 → h[p]? = some o → h'[p]? = some o) ∧ (∀ i, qv' = some i → T ≤ i) ∧ (∀ i, qk' = some i → T ≤ i) ∧ (∀ i, qv' = some i → qk' ≠ some i) ∧ T ≤ h'.length := by
 have lr := hr.len
 have xo := fun h => ho.ix h .i64 ip hip
 have lv : ∀ (h : AHeap) (z : Int), aload h 1 false (.vptr [.int .i64 z] 0) = some (.int .i64 z) := fun _ _ => rfl
 have hw4 := w64s (n := a) (by omega)
 intro d
 induction d with
 | zero =>
  intro i m s h vv kv qv qk h1 h2 e1 gv gk l0 l1 d1 d2 d3 hT2
  obtain ⟨m, rfl⟩ : ∃ q, m = q + 1 := ⟨m - 1, by omega⟩
  have h3 : ¬ ((i : Int) < row.length) := by omega
  have q1 : row.drop i = [] := List.drop_eq_nil_iff.2 (by omega)
  rw [q1]
  refine ⟨h, vv, kv, qv, qk, ?_, e1, gv, gk, fun _ _ _ _ e => e, d1, d2, d3, hT2⟩
  simp only [loop_e,EB_r32_Lay_2,Zab,Zac,Zad,Zag,Zah,Zaj,Zak,Zal,Zas,Zav,Zay,Zbi,Zbk,Zbq,Zcg,Zcv,Zcx,Zdb,Zdc,Zdd,Q2,Q3,Q0,Q1,Zdh,decide_false,eq_self,lr,h3]
 | succ d ih =>
  intro i m s h vv kv qv qk h1 h2 e1 gv gk l0 l1 d1 d2 d3 hT2
  obtain ⟨m, rfl⟩ : ∃ q, m = q + 1 := ⟨m - 1, by omega⟩
  have h3 : i < row.length := by omega
  have h3' : (i : Int) < row.length := by omega
  have hw := w64s (n := i) (by omega)
  have hw2 := w64a (a := b) (b := i) (by omega)
  have q1 : row.drop i = row[i] :: row.drop (i + 1) := List.drop_eq_getElem_cons h3
  have xa := fun h => hr.ix h .i64 i h3
  rw [q1, placeD]
  by_cases z : row[i] = 0
  case pos =>
   have g2 : decide (row[i] = 0) = true := decide_eq_true z
   rw [if_pos z]
   obtain ⟨h', vv', kv', qv', qk', e, r⟩ := ih (i + 1) m s h vv kv qv qk (by omega) (by omega) e1 gv gk l0 l1 d1 d2 d3 hT2
   refine ⟨h', vv', kv', qv', qk', ?_, r⟩
   rw [← e]
   simp only [loop_e,EB_r32_Lay_2,Zaa,Zab,Zac,Zad,Zae,Zag,Zah,Zaj,Zak,Zal,Zap,Zar,Zau,Zay,Zbi,Zbk,Zbo,Zbq,Zcb,Zcg,Zcv,Zcw,Zcx,Zdb,Zdc,Zdd,Q2,Q3,Q0,Q1,Zde,Zdh,Zdl,Zen,decide_true,eq_self,lr,h3',xa,g2,hw]
  case neg =>
   have g2 : decide (row[i] = 0) = false := decide_eq_false z
   rw [if_neg z]
   obtain ⟨H1, vv1, kv1, qv1, qk1, e3, f1, f2, f3, f4, f5, f6, f7, f8⟩ := r_Lay_3 (v0 := v0) (v1 := v1) (w2 := w2) (w3 := w3) (w6 := rx) (w7 := .int .i64 ip) (w8 := rv) T b i N hT (by omega) (max s.1.length (b + i + 1) - s.1.length) N s.1 s.2 h vv kv qv qk (by omega) (by omega) l0 l1 e1 gv gk d1 d2 d3 hT2
   have lv4 : b + i < (extL s.1 (b + i + 1)).length := by rw [extL_len]; omega
   have lk4 : b + i < (extL s.2 (b + i + 1)).length := by rw [extL_len]; omega
   obtain ⟨iv, pv, H2, qiv, xv, s5, gv5, fr5, n5⟩ := f2.putI lv4 row[i]
   subst qiv
   have b1 := fr5 1 _ f1 (by have := f5 iv rfl; omega)
   have gk5 : OwnG 1 (eIs (extL s.2 (b + i + 1))) kv1 H2 qk1 := f3.frame fun j o f e => fr5 j o e (fun g => f7 iv rfl (by rw [← g]; exact f))
   obtain ⟨ik, pk, H3, qik, xk, s6, gk6, fr6, n6⟩ := gk5.putI lk4 ((a + 1 : Nat) : Int)
   subst qik
   have hne : iv ≠ ik := fun g => f7 iv rfl (by rw [g])
   have gv6 : OwnG 1 (eIs (setX s.1 (b + i) row[i])) vv1 H3 (some iv) := gv5.frame fun j o f e => fr6 j o e (by cases f; exact hne)
   have c1 := fr6 1 _ b1 (by have := f6 ik rfl; omega)
   obtain ⟨h', vv', kv', qv', qk', e, r1, r2, r3, r4, r5, r6, r7, r8⟩ := ih (i + 1) m (setX s.1 (b + i) row[i], setX s.2 (b + i) ((a + 1 : Nat) : Int)) H3 vv1 kv1 (some iv) (some ik) (by omega) (by omega) c1 gv6 gk6 (by simp only [setX_len,l0]) (by rw [setX_len]; omega) f5 f6 f7 (by omega)
   refine ⟨h', vv', kv', qv', qk', ?_, r1, r2, r3, fun p o t1 t2 eo => r4 p o t1 t2 (fr6 p o (fr5 p o (f4 p o t1 t2 eo) (by have := f5 iv rfl; omega)) (by have := f6 ik rfl; omega)), r5, r6, r7, r8⟩
   rw [← e]
   have la := c_ld2 f1
   have lb := c_ld3 b1
   simp only [loop_e,EB_r32_Lay_2,Zaa,Zab,Zac,Zad,Zae,Zaf,Zag,Zaj,Zak,Zan,Zap,Zar,Zas,Zat,Zau,Zay,Zba,Zbi,Zbk,Zbo,Zbp,Zbq,Zby,Zcb,Zcg,Zcv,Zcw,Zcx,Zcy,Zdb,Zdc,Zdd,Q2,Q3,Q0,Q1,Zde,Zdh,Zdl,Zdx,Zen,decide_true,Nat.reduceAdd,eq_self,lr,h3',xa,xo,hao,g2,hw,hw2,hw4,e3,la,lb,xv,xk,s5,s6]
end
end Go.Proofs.Ytkgndbhflehhhaa.Ai
namespace Go.Proofs.Ytkgndbhflehhhaa.Ai
open Go Go.Proofs
open AV renaming junk → J
open List renaming getD_cons_zero → Q0, getD_cons_succ → Q1, set_cons_zero → Q2, set_cons_succ → Q3, replicate → Q4, length_set → Q5
set_option linter.unusedVariables false
set_option linter.unusedSimpArgs false
set_option maxRecDepth 10000
set_option maxHeartbeats 4000000
section
variable {own : List (List Int)} {ord : List Int} {v0 bv w2 ox rx : AV}
theorem r_Lay_0 (hv : LiR own ox) (ho : Li ord rx) (M : Nat) (hM : ∀ r ∈ own, r.length ≤ M) (hM1 : M ≤ 1000000) (hM2 : own.length * M + M ≤ 900000) (hn : own.length ≤ 1000000) (hol : ord.length = own.length) (hom : ∀ x ∈ ord, 0 ≤ x ∧ x < own.length) (T N : Nat) (hT : 2 ≤ T) (hN : 1000001 ≤ N) (qb : Option Nat) (hqb : ∀ i, qb = some i → i < T ∧ 2 ≤ i) :
  ∀ (d i m : Nat) (s : List Int × List Int × List Int) (h : AHeap) (vv kv : AV) (qv qk : Option Nat), ord.length = i + d → d < m → h[1]? = some (.arr 0 4 true [[v0, bv, vv, kv]]) → OwnG 1 (eIs s.1) bv h qb → s.1.length = own.length →
   OwnG 1 (eIs s.2.1) vv h qv → OwnG 1 (eIs s.2.2) kv h qk → s.2.1.length = s.2.2.length → s.2.1.length ≤ i * M → (∀ i, qv = some i → T ≤ i) → (∀ i, qk = some i → T ≤ i) → (∀ i, qv = some i → qk ≠ some i) → T ≤ h.length →
   ∃ (h' : AHeap) (vv' kv' : AV) (qv' qk' : Option Nat), loopN (evalCode (lim G0.cfg) N B_r32_Lay_0) m ⟨(J::J::w2 :: ox::J::.ptr 1 0 0 0 :: rx :: .int .i64 i::J::J::J::J::J::J::J::J::J::J::J::J::J::J::J::J::J::J::J::J::J::J::J::J::J::J::J::J::J::J::J::J::J::J::J::J::J::J::J::J::J::J::J::J::J::J::J::J::J::J::J::J::J::J::J::J::J::J::J::J::J::J::J::J::J::J::J::J::J::J::J::J::J::J::J::J::J::J::J::J::J::J::J::J::J::J::J::J::J::J::J::J::J::J::J::J::J::[]), h⟩ = some (.exit 0, ⟨(J::J::w2::J::J::.ptr 1 0 0 0::J::J::J::J::J::J::J::J::J::J::J::J::J::J::J::J::J::J::J::J::J::J::J::J::J::J::J::J::J::J::J::J::J::J::J::J::J::J::J::J::J::J::J::J::J::J::J::J::J::J::J::J::J::J::J::J::J::J::J::J::J::J::J::J::J::J::J::J::J::J::J::J::J::J::J::J::J::J::J::J::J::J::J::J::J::J::J::J::J::J::J::J::J::J::J::J::J::J::J::[]), h'⟩) ∧
    h'[1]? = some (.arr 0 4 true [[v0, bv, vv', kv']]) ∧ OwnG 1 (eIs ((ord.drop i).foldl (layStep own) s).1) bv h' qb ∧ OwnG 1 (eIs ((ord.drop i).foldl (layStep own) s).2.1) vv' h' qv' ∧ OwnG 1 (eIs ((ord.drop i).foldl (layStep own) s).2.2) kv' h' qk' ∧
    (∀ (j : Nat) (o : AObj), j < T → j ≠ 1 → qb ≠ some j → h[j]? = some o → h'[j]? = some o) := by
 have lo := ho.len
 intro d
 induction d with
 | zero =>
  intro i m s h vv kv qv qk h1 h2 e1 ob lb gv gk l1 l2 d1 d2 d3 hl
  obtain ⟨m, rfl⟩ : ∃ q, m = q + 1 := ⟨m - 1, by omega⟩
  have h3 : ¬ ((i : Int) < ord.length) := by omega
  have q1 : ord.drop i = [] := List.drop_eq_nil_iff.2 (by omega)
  rw [q1, List.foldl_nil]
  refine ⟨h, vv, kv, qv, qk, ?_, e1, ob, gv, gk, fun _ _ _ _ _ e => e⟩
  simp only [loop_e,EB_r32_Lay_0,Zab,Zac,Zad,Zag,Zah,Zaj,Zak,Zal,Zas,Zav,Zay,Zbi,Zbk,Zbq,Zcg,Zcv,Zcx,Zdb,Zdc,Zdd,Q2,Q3,Q0,Q1,Zdh,decide_false,eq_self,lo,h3]
 | succ d ih =>
  intro i m s h vv kv qv qk h1 h2 e1 ob lb gv gk l1 l2 d1 d2 d3 hl
  obtain ⟨m, rfl⟩ : ∃ q, m = q + 1 := ⟨m - 1, by omega⟩
  have h3 : i < ord.length := by omega
  have h3' : (i : Int) < ord.length := by omega
  have hw := w64s (n := i) (by omega)
  have q1 : ord.drop i = ord[i] :: ord.drop (i + 1) := List.drop_eq_getElem_cons h3
  have hx := hom _ (List.getElem_mem h3)
  obtain ⟨a, ha⟩ : ∃ a : Nat, ord[i] = (a : Int) := ⟨ord[i].toNat, by omega⟩
  have xo := fun h => ho.ix h .i64 i h3
  rw [ha] at hx xo
  have hao : a < own.length := by omega
  have gd : own.getD a [] = own[a] := by simp [hao]
  have hmr := hM _ (List.getElem_mem hao)
  have hmul : (i + 1) * M ≤ own.length * M := Nat.mul_le_mul_right M (by omega)
  have hsucc : (i + 1) * M = i * M + M := Nat.succ_mul i M
  rw [q1, List.foldl_cons, ha]
  obtain ⟨rv, r2, xr⟩ := hv.ix a hao
  have lvI : ∀ (h : AHeap) (z : Int), aload h 1 false (.vptr [.int .i64 z] 0) = some (.int .i64 z) := fun _ _ => rfl
  have lvR : ∀ (h : AHeap), aload h 1 false (.vptr [rv] 0) = some rv := fun _ => rfl
  have bs := r_Lay_1 (v0 := v0) (v1 := bv) (w2 := w2) (w3 := ox) (w6 := rx) (w7 := .int .i64 i) e1 gk r2 (by omega) (by omega) N s.2.2.length 0 N (by omega) (by omega) (by omega)
  rw [z0] at bs
  obtain ⟨b, hb⟩ : ∃ b, b = baseD s.2.2 own[a] := ⟨_, rfl⟩
  have bs' : baseGo s.2.2 own[a] s.2.2.length 0 = b := hb.symm
  rw [bs'] at bs
  have hb1 : b ≤ s.2.2.length := by rw [hb]; exact baseD_le _ _
  have lb1 := c_ld1 e1
  obtain ⟨ib, pb, H2, qib, xb, sb, ob2, fr2, n2⟩ := ob.putI (j := a) (by omega) (b : Int)
  subst qib
  have hib := hqb ib rfl
  have b1 := fr2 1 _ e1 (by omega)
  have gv2 := gv.frame (h' := H2) fun j o f e => fr2 j o e (by have := d1 j f; omega)
  have gk2 := gk.frame (h' := H2) fun j o f e => fr2 j o e (by have := d2 j f; omega)
  obtain ⟨H3, vv3, kv3, qv3, qk3, e, c1, c2, c3, c4, c5, c6, c7, c8⟩ := r_Lay_2 (v0 := v0) (v1 := bv) (w2 := w2) (w3 := ox) r2 (by omega) ho i a h3 ha (by omega) b T N (by omega) hT hN own[a].length 0 N s.2 H2 vv kv qv qk (by omega) (by omega) b1 gv2 gk2 l1.symm (by omega) d1 d2 d3 (by omega)
  rw [z0] at e
  rw [List.drop_zero, Nat.add_zero] at c2 c3
  have es : layStep own s ((a : Nat) : Int) = (s.1.set a (b : Int), placeD s.2 own[a] b ((a + 1 : Nat) : Int)) := by
   simp only [layStep,Int.toNat_natCast,gd, ← hb]
   rfl
  have pl := placeD_len own[a] s.2 b ((a + 1 : Nat) : Int) l1
  have ob3 := ob2.frame (h' := H3) fun j o f e => c4 j o (by cases f; omega) (by cases f; omega) e
  obtain ⟨h', vv', kv', qv', qk', e', g1, g2, g3, g4, g5⟩ := ih (i + 1) m (layStep own s ((a : Nat) : Int)) H3 vv3 kv3 qv3 qk3 (by omega) (by omega) c1 (by rw [es]; exact ob3) (by rw [es, Q5]; exact lb) (by rw [es]; exact c2) (by rw [es]; exact c3) (by rw [es]; exact pl.1) (by rw [es]; exact Nat.le_trans pl.2 (Nat.max_le.2 ⟨by omega, by omega⟩)) c5 c6 c7 c8
  refine ⟨h', vv', kv', qv', qk', ?_, g1, g2, g3, g4, fun j o t1 t2 t3 eo => g5 j o t1 t2 t3 (c4 j o t1 t2 (fr2 j o eo fun f => t3 (by rw [f])))⟩
  rw [← e']
  simp only [loop_e,EB_r32_Lay_0,Zaa,Zab,Zac,Zad,Zae,Zaf,Zag,Zaj,Zak,Zan,Zap,Zar,Zat,Zau,Zay,Zba,Zbi,Zbk,Zbo,Zbp,Zbq,Zby,Zcb,Zcg,Zcv,Zcw,Zcx,Zcy,Zdb,Zdc,Zdd,Q2,Q3,Q0,Q1,Zde,Zdh,Zdx,Zen,decide_true,Nat.reduceAdd,eq_self,lo,h3',xo,xr,lvR,bs,lb1,xb,sb,e,hw]
end
end Go.Proofs.Ytkgndbhflehhhaa.Ai
namespace Go.Proofs.Ytkgndbhflehhhaa.Ai
open Go Go.Proofs
open AV renaming junk → J
open List renaming getD_cons_zero → Q0, getD_cons_succ → Q1, set_cons_zero → Q2, set_cons_succ → Q3, replicate → Q4, length_set → Q5
set_option linter.unusedVariables false
set_option linter.unusedSimpArgs false
set_option maxRecDepth 10000
set_option maxHeartbeats 4000000
theorem zeros_own (h : AHeap) (n : Nat) (hn : n ≤ 1000000) : ∃ (bv : AV) (h' : AHeap) (qb : Option Nat), aapz h 1 8 [.int .i64 0] .nilS (.int .i64 n) = some (bv, h') ∧ OwnG 1 (eIs (Q4 n 0)) bv h' qb ∧ (∀ i, qb = some i → i = h.length ∧ h.length < h'.length) ∧ (∀ (j : Nat) (o : AObj), h[j]? = some o → h'[j]? = some o) ∧ h.length ≤ h'.length := by
 by_cases z : n = 0
 ·subst z
  exact ⟨.nilS, h, none, rfl, OwnG.nil 1 h, fun _ e => (by cases e), fun _ _ e => e, Nat.le_refl _⟩
 ·have c : (Q4 n [AV.int .i64 0]).length * (8 + 1) ≤ 68719476736 ∧ (Q4 n [AV.int .i64 0]).all (fun c => c.length == 1 && c.all cellOk) = true := ⟨by simp; omega, zeros_all n⟩
  refine ⟨.hsl h.length 0 0 n none, h ++ [.arr 0 1 false (eIs (Q4 n 0))], some h.length, ?_, .inr ⟨?_, h.length, 0, rfl, by rw [Zep]; simp, get_new _ _⟩, fun i e => (by cases e; simp), fun j o e => get_app e _, by simp⟩
  ·have z1 : ¬ ((n : Int) = 0) := by omega
   have z2 : (0 : Int) < n := by omega
   simp only [aapz]
   rw [if_neg z1, if_pos z2, Int.toNat_natCast, freshArr, if_pos c, eIs_zeros, List.length_replicate]
  ·rw [eIs_zeros]
   intro e
   have := congrArg List.length e
   simp at this
   exact z this
theorem r_Lay {rows : List (List Int)} {v : AV} (hv : LiR rows v) (M : Nat) (hM : ∀ r ∈ rows, r.length ≤ M) (hM1 : M ≤ 1000000) (hn : rows.length ≤ 900000) (hM2 : rows.length * M + M ≤ 900000) : ∃ cs, RT (layT rows) cs ∧ ∀ H, lim G0.cfg (.func 14) [v] H = some (.agg cs, H) := by
 obtain ⟨ox, ix, hox, hix, fD⟩ := r_Distinct hv (fun r hr => Nat.le_trans (hM r hr) hM1) (by omega)
 have dl := foldD_len rows ([], [])
 have hD : rows.foldl dStep ([], []) = distD rows := rfl
 rw [hD] at dl
 simp only [List.length_nil,Nat.zero_add] at dl
 have dm : ∀ r ∈ (distD rows).1, r.length ≤ M := fun r hr => by
  rcases foldD_mem rows ([], []) r (by rw [hD]; exact hr) with h | h
  ·simp at h
  ·exact hM r h
 have hmulo : (distD rows).1.length * M ≤ rows.length * M := Nat.mul_le_mul_right M dl.1
 obtain ⟨rx, hrx, fO⟩ := r_Order hox (fun r hr => Nat.le_trans (dm r hr) hM1) (by omega)
 obtain ⟨op, _⟩ := orderD_ok (distD rows).1
 obtain ⟨h1, hh1⟩ : ∃ H : AHeap, H = [.arr 0 4 true [[.nilS, .nilS, .nilS, .nilS]], .arr 0 4 true [[ix, .nilS, .nilS, .nilS]]] := ⟨_, rfl⟩
 obtain ⟨bv, h2, qb, az, ob, hqb, fr2, l2⟩ := zeros_own h1 (distD rows).1.length (by omega)
 have len1 : h1.length = 2 := by rw [hh1]; rfl
 have e1 : h1[1]? = some (.arr 0 4 true [[ix, .nilS, .nilS, .nilS]]) := by rw [hh1]; rfl
 have e12 := fr2 1 _ e1
 have sb := c_st1 e12 ob.cell
 obtain ⟨h3, hh3⟩ : ∃ H, H = h2.set 1 (.arr 0 4 true [[ix, bv, .nilS, .nilS]]) := ⟨_, rfl⟩
 rw [← hh3] at sb
 have e13 : h3[1]? = some (.arr 0 4 true [[ix, bv, .nilS, .nilS]]) := by rw [hh3]; exact get_set_eq e12
 have ob3 := ob.frame (h' := h3) fun i o f e => by rw [hh3]; exact get_set_ne e (by have := hqb i f; omega)
 have e03 : h3[0]? = some (.arr 0 4 true [[.nilS, .nilS, .nilS, .nilS]]) := by
  rw [hh3]; exact get_set_ne (fr2 0 _ (by rw [hh1]; rfl)) (by omega)
 have len3 : h3.length = h2.length := by rw [hh3, Q5]
 have hol : (orderD (distD rows).1).length = (distD rows).1.length := by rw [op.length_eq, iotaI_len]
 obtain ⟨h4, vv, kv, qv, qk, e, g1, g2, g3, g4, g5⟩ := r_Lay_0 (v0 := ix) (bv := bv) (w2 := .ptr 0 0 0 0) hox hrx M dm hM1 (by omega) (by omega) hol (fun x hx => iotaI_mem.1 (op.mem_iff.1 hx)) h3.length 1000001 (by omega) (by omega) qb (fun i f => by have := hqb i f; omega)
  (orderD (distD rows).1).length 0 1000001 (Q4 (distD rows).1.length 0, [], []) h3 .nilS .nilS none none (by omega) (by omega) e13 ob3 (by simp) (OwnG.nil 1 _) (OwnG.nil 1 _) rfl (by simp) (fun _ e => (by cases e)) (fun _ e => (by cases e)) (fun _ e => (by cases e)) (Nat.le_refl _)
 rw [z0] at e
 rw [List.drop_zero] at g2 g3 g4
 have hlay : (orderD (distD rows).1).foldl (layStep (distD rows).1) (Q4 (distD rows).1.length 0, [], []) = layD (distD rows).1 (orderD (distD rows).1) := rfl
 rw [hlay] at g2 g3 g4
 have e04 := g5 0 _ (by omega) (by omega) (fun f => by have := hqb 0 f; omega) e03
 have ic := hix.cell
 have l9 : aload h4 4 true (.ptr 1 0 0 0) = some (.agg [ix, bv, vv, kv]) := by rw [ld_p h4 4 1 0 0 0 true 4 true _ _ g1 rfl]; rfl
 have s9 : astore h4 4 (.ptr 0 0 0 0) (.agg [ix, bv, vv, kv]) = some (h4.set 0 (.arr 0 4 true [[ix, bv, vv, kv]])) := by
  simp [astore, putCells, getArr, e04, cellsOf, ic.2, g2.cell.2, g3.cell.2, g4.cell.2]
 have e05 := get_set_eq (y := AObj.arr 0 4 true [[ix, bv, vv, kv]]) e04
 have l0 : aload (h4.set 0 (.arr 0 4 true [[ix, bv, vv, kv]])) 4 true (.ptr 0 0 0 0) = some (.agg [ix, bv, vv, kv]) := by rw [ld_p _ 4 0 0 0 0 true 4 true _ _ e05 rfl]; rfl
 have lo := hox.len
 have lb1 := c_ld1 e1
 have st1 : astore [.arr 0 4 true [[.nilS, .nilS, .nilS, .nilS]], .arr 0 4 true [[.nilS, .nilS, .nilS, .nilS]]] 4 (.ptr 1 0 0 0) (.agg [ix, .nilS, .nilS, .nilS]) = some h1 := by
  rw [hh1]; simp [astore, putCells, getArr, cellsOf, ic.2, ko_n]
 have run : runFn (lim G0.cfg) 1000001 A_r32_Lay [v] [] = some (.agg [ix, bv, vv, kv], h4.set 0 (.arr 0 4 true [[ix, bv, vv, kv]])) := by
  rw [R_r32_Lay]
  simp only [Zab,Zac,Zae,Zaf,Zag,Zai,Zaj,Zak,Zap,Zat,Zay,Zaz,Zba,Zbi,Zbk,Zbm,Zbo,Zbp,Zby,Zcf,Zcg,Zcj,Zcm,Zcp,Zcq,Zcu,Zcv,Zcw,Zcx,Zcy,Zcz,Zda,Zdb,Zdc,Zdd,Q2,Q3,Q0,Q1,Option.map_some,Zdx,List.getElem?_cons_zero,List.getElem?_cons_succ,List.length_cons,List.length_nil,if_true,Nat.reduceAdd,Nat.reduceSub,Nat.reduceLeDiff,eq_self,and_self,List.length_cons,List.length_nil,List.replicate_succ,List.replicate_zero,List.cons_append,List.nil_append,List.nil_append,fD,fO,aext,afill,evp,ic.1,fillCells,Nat.zero_lt_one,if_true,Option.map_some,List.take_zero,List.drop_succ_cons,List.drop_zero,putCells,st1,lb1,lo,az,sb,e,l9,s9,l0,resAll,resVals,resVal]
 have fr0 : ∀ (l : List Int) (w : AV) (q : Option Nat), OwnG 1 (eIs l) w h4 q → OwnG 1 (eIs l) w (h4.set 0 (.arr 0 4 true [[ix, bv, vv, kv]])) q := fun l w q o => by
  rcases o with o | ⟨a, i, ver, b, c, d⟩
  ·exact .inl o
  ·exact .inr ⟨a, i, ver, b, c, get_set_ne d (fun f => by subst f; rw [e04] at d; cases d)⟩
 obtain ⟨x2, c2, f2, y2⟩ := fzI (fr0 _ _ _ g2) 997
 obtain ⟨x3, c3, f3, y3⟩ := fzI (fr0 _ _ _ g3) 997
 obtain ⟨x4, c4, f4, y4⟩ := fzI (fr0 _ _ _ g4) 997
 have f1 := hix.fz (h4.set 0 (.arr 0 4 true [[ix, bv, vv, kv]])) 998
 have fz : freeze (h4.set 0 (.arr 0 4 true [[ix, bv, vv, kv]])) 1000 (.agg [ix, bv, vv, kv]) = some (.agg [ix, x2, x3, x4], ([(ix, true), (x2, c2), (x3, c3), (x4, c4)] : List (AV × Bool)).all (·.2)) := by
  have : freeze (h4.set 0 (.arr 0 4 true [[ix, bv, vv, kv]])) 1000 (.agg [ix, bv, vv, kv]) = (mapO (freeze (h4.set 0 (.arr 0 4 true [[ix, bv, vv, kv]])) 999) [ix, bv, vv, kv]).map fun l => (.agg (l.map (·.1)), l.all (·.2)) := rfl
  rw [this]
  have m : mapO (freeze (h4.set 0 (.arr 0 4 true [[ix, bv, vv, kv]])) 999) [ix, bv, vv, kv] = some [(ix, true), (x2, c2), (x3, c3), (x4, c4)] := by simp only [mapO,f1,f2,f3,f4]
  rw [m]
  rfl
 exact ⟨[ix, x2, x3, x4], ⟨ix, x2, x3, x4, rfl, hix, y2, y3, y4⟩, fun H => lim_fz rfl rfl P_r32_Lay 1000001 (fz_1 (hv.fz H 999)) run fz rfl⟩
end Go.Proofs.Ytkgndbhflehhhaa.Ai
