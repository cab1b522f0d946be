/- pack.Lay as a call; r32_SameComb; l32_fewRows. -/
import Derived.Test.YtkgndbhflehhhaapPmy
import Derived.Test.YtkgndbhflehhhaapPk2
namespace Go.Proofs.Ytkgndbhflehhhaa.Ai
open Go Go.Proofs
set_option linter.unusedVariables false
set_option linter.unusedSimpArgs false
set_option maxRecDepth 10000
set_option maxHeartbeats 4000000

/-- The table of rows. -/
def layT (rows : List (List Int)) : RowT :=
  ⟨(distD rows).2, (layD (distD rows).1 (orderD (distD rows).1)).1, (layD (distD rows).1 (orderD (distD rows).1)).2.1, (layD (distD rows).1 (orderD (distD rows).1)).2.2⟩

theorem mapO_eIs {h : AHeap} {d : Nat} : ∀ l : List Int, ∃ q, mapO (mapO (freeze h (d + 1))) (eIs l) = some q ∧ q.map (·.map (·.1)) = eIs l := by
  intro l
  induction l with
  | nil => exact ⟨[], rfl, rfl⟩
  | cons a l ih =>
    obtain ⟨q, e1, e2⟩ := ih
    have e3 : mapO (freeze h (d + 1)) [.int .i64 a] = some [(.int .i64 a, true)] := rfl
    have e4 : eIs (a :: l) = [.int .i64 a] :: eIs l := rfl
    exact ⟨[(.int .i64 a, true)] :: q, by rw [e4]; simp only [mapO] at e3 ⊢; simp only [e3,e1], by rw [e4]; simp [e2]⟩
theorem fzH {l : List Int} {i n : Nat} {h : AHeap} {cc : Option Nat} {tl : List (List AV)} {b : Bool} (hi : h[i]? = some (.arr 0 1 b (eIs l ++ tl))) (hn : n = l.length) (d : Nat) : ∃ x c, freeze h (d + 2) (.hsl i 0 0 n cc) = some (x, c) ∧ Li l x := by
  subst hn
  obtain ⟨q, e1, e2⟩ := mapO_eIs (h := h) (d := d) l
  have tk : (eIs l ++ tl).take l.length = eIs l := List.take_left' (Zep l)
  have := freeze_hslG (d := d + 1) (n := l.length) (cc := cc) (q := q) hi (by rw [List.length_append, Zep]; omega) (by rw [tk]; exact e1)
  exact ⟨_, false, this, .inr ⟨false, by rw [e2]⟩⟩
theorem fzG {l : List Int} {w : AV} {h : AHeap} {q : Option Nat} (ho : GrowV l w h q) (d : Nat) : ∃ x c, freeze h (d + 2) w = some (x, c) ∧ Li l x := by
  rcases ho with ⟨h1, h2, _⟩ | ⟨i, c, _, h2, h3, h4⟩
  · subst h2; exact ⟨.nilS, true, rfl, .inl ⟨h1, rfl⟩⟩
  · subst h2; exact fzH h4 rfl d

theorem f_Lay {rows : List (List Int)} {v : AV} (hv : LiR rows v) (hn : rows.length ≤ 1000000) (M : Nat) (hM : ∀ r ∈ rows, r.length ≤ M) (hM1 : M ≤ 1000000) (hM2 : rows.length * M + M ≤ 9000000) : ∃ cs, RT (layT rows) cs ∧ ∀ H, lim G0.cfg (.func 13) [v] H = some (.agg cs, H) := by
  obtain ⟨ord, h, rv, vv, kv, Lb, q1, qv, qk, ho, run, o1, eb, lb, gv, gk⟩ := run_Lay hv hn M hM hM1 hM2
  rw [ho.eq] at eb lb gv gk
  obtain ⟨x1, c1, f1, g1⟩ := fzI o1 997
  have eb' : h[Lb]? = some (.arr 0 1 true (eIs (layD (distD rows).1 (orderD (distD rows).1)).1 ++ [])) := by rw [List.append_nil]; exact eb
  obtain ⟨x2, c2, f2, g2⟩ := fzH (n := (distD rows).1.length) (cc := none) eb' lb.symm 997
  obtain ⟨x3, c3, f3, g3⟩ := fzG gv 997
  obtain ⟨x4, c4, f4, g4⟩ := fzG gk 997
  have fz : freeze h 1000 (.agg [rv, .hsl Lb 0 0 (distD rows).1.length none, vv, kv]) = some (.agg [x1, x2, x3, x4], ([(x1, c1), (x2, c2), (x3, c3), (x4, c4)] : List (AV × Bool)).all (·.2)) := by
    have : freeze h 1000 (.agg [rv, .hsl Lb 0 0 (distD rows).1.length none, vv, kv]) = (mapO (freeze h 999) [rv, .hsl Lb 0 0 (distD rows).1.length none, vv, kv]).map fun l => (.agg (l.map (·.1)), l.all (·.2)) := rfl
    rw [this]
    have m : mapO (freeze h 999) [rv, .hsl Lb 0 0 (distD rows).1.length none, vv, kv] = some [(x1, c1), (x2, c2), (x3, c3), (x4, c4)] := by simp only [mapO,f1,f2,f3,f4]
    rw [m]
    rfl
  exact ⟨[x1, x2, x3, x4], ⟨x1, x2, x3, x4, rfl, g1, g2, g3, g4⟩, fun H => lim_fz rfl rfl P_pack_Lay 9000001 (fz_1 (hv.fz H 999)) run fz rfl⟩

theorem r_SameComb {c : RowT} {cs ds : List AV} (hc : RT c cs) (hd : RT c ds) (l1 : c.row.length ≤ 1000000000) (l2 : c.base.length ≤ 1000000000) (l3 : c.val.length ≤ 1000000000) (l4 : c.own.length ≤ 1000000000) (H : AHeap) : lim G0.cfg (.func 12) [.agg cs, .agg ds] H = some (.bool true, H) := by
  refine lim_flat rfl rfl P_r32_SameComb 1 (fun h => fz_2 (fz_RT hc h) (fz_RT hd h)) ?_ (fun _ => rfl) H
  obtain ⟨a, b, v, o, rfl, ha, hb, hv, ho⟩ := hc
  obtain ⟨a', b', v', o', rfl, ha', hb', hv', ho'⟩ := hd
  have f1 := r_same ha ha' l1
  have f2 := r_same hb hb' l2
  have f3 := r_same hv hv' l3
  have f4 := r_same ho ho' l4
  rw [decide_eq_true rfl] at f1 f2 f3 f4
  rw [R_r32_SameComb]
  simp only [Zab,Zac,Zai,Zaj,Zak,Zay,Zaz,Zbb,Zbg,Zbi,Zbj,Zbk,Zbl,Zbn,Zbo,Zby,Zcp,Zcq,Zcs,Zcu,Zcv,Zcw,Zcx,Zcz,Zda,List.set_cons_zero,List.set_cons_succ,List.getD_cons_zero,List.getD_cons_succ,Option.bind_some,Option.map_some,Zdx,Zdz,Zeb,List.getElem?_cons_zero,List.getElem?_cons_succ,List.length_cons,List.length_nil,if_true,Nat.reduceAdd,Nat.reduceSub,Nat.reduceLeDiff,eq_self,true_and,List.length_cons,List.length_nil,List.replicate_succ,List.replicate_zero,List.cons_append,List.nil_append,aload,acells,getArr,part,List.drop_zero,List.drop_succ_cons,List.take_succ_cons,List.take_zero,List.take_nil,List.cons_append,List.nil_append,List.set_cons_zero,f1,f2,f3,f4,resAll,resVals,resVal,Option.some.injEq,Prod.mk.injEq,true_and,exists_eq']

/-- How much the rows weigh. -/
def fewGo : List (List Int) → Nat → Nat
  | [], s => s
  | r :: l, s => if s < 600 then fewGo l (s + 1 + min r.length 1000) else s
theorem fewGo_le : ∀ (l : List (List Int)) (s : Nat), s ≤ fewGo l s ∧ (fewGo l s < 600 → s + l.length ≤ fewGo l s ∧ ∀ r ∈ l, r.length ≤ 600) := by
  intro l
  induction l with
  | nil => intro s; exact ⟨Nat.le_refl _, fun _ => ⟨Nat.le_refl _, fun _ h => (by simp at h)⟩⟩
  | cons r l ih =>
    intro s
    rw [fewGo]
    split
    · obtain ⟨h1, h2⟩ := ih (s + 1 + min r.length 1000)
      refine ⟨by omega, fun h => ?_⟩
      obtain ⟨h3, h4⟩ := h2 h
      rw [List.length_cons]
      refine ⟨by omega, fun x hx => ?_⟩
      rcases List.mem_cons.1 hx with e | e
      · subst e; omega
      · exact h4 x e
    · exact ⟨Nat.le_refl _, fun h => absurd h (by assumption)⟩

theorem f_fewRows {rows : List (List Int)} {v : AV} (hv : LiR rows v) (H : AHeap) : lim G0.cfg (.func 10) [v] H = some (.bool (decide ((fewGo rows 0 : Nat) < (600 : Int))), H) := by
  refine lim_flat rfl rfl P_l32_fewRows (rows.length + 1) (fun h => fz_1 (hv.fz h 999)) ?_ (fun _ => rfl) H
  have la := hv.len
  have loop : ∀ (d i m s : Nat), rows.length = i + d → d < m → i ≤ s → s ≤ 2000 → loopN (evalCode (lim G0.cfg) (rows.length + 1) B_l32_fewRows_0) m ⟨[v, .junk,.junk, .int .i64 s, .int .i64 i, .junk,.junk,.junk,.junk,.junk,.junk,.junk,.junk,.junk,.junk,.junk,.junk,.junk,.junk,.junk,.junk,.junk,.junk,.junk,.junk,.junk], []⟩ = some (.exit 0, ⟨[.junk,.junk,.junk, .int .i64 (fewGo (rows.drop i) s : Nat), .junk,.junk,.junk,.junk,.junk,.junk,.junk,.junk,.junk,.junk,.junk,.junk,.junk,.junk,.junk,.junk,.junk,.junk,.junk,.junk,.junk,.junk], []⟩) := by
    intro d
    induction d with
    | zero =>
      intro i m s h1 h2 his hs
      obtain ⟨m, rfl⟩ : ∃ q, m = q + 1 := ⟨m - 1, by omega⟩
      have h3 : ¬ ((i : Int) < rows.length) := by omega
      have q1 : rows.drop i = [] := List.drop_eq_nil_iff.2 (by omega)
      rw [q1, fewGo]
      simp only [loop_e,EB_l32_fewRows_0,Zab,Zac,Zad,Zag,Zah,Zaj,Zak,Zal,Zas,Zav,Zay,Zbe,Zbh,Zbi,Zbj,Zbk,Zbl,Zbq,Zcg,Zcv,Zcw,Zcx,Zdb,Zdc,Zdd,List.set_cons_zero,List.set_cons_succ,List.getD_cons_zero,List.getD_cons_succ,Zdh,decide_false,eq_self,la,h3]
    | succ d ih =>
      intro i m s h1 h2 his hs
      obtain ⟨m, rfl⟩ : ∃ q, m = q + 1 := ⟨m - 1, by omega⟩
      have h3 : i < rows.length := by omega
      have h3' : (i : Int) < rows.length := by omega
      have hw := w64s (n := i) (by omega)
      have hw1 := w64s (n := s) (by omega)
      have q1 : rows.drop i = rows[i] :: rows.drop (i + 1) := List.drop_eq_getElem_cons h3
      obtain ⟨w, hwl, xw⟩ := hv.ix i h3
      have lv : ∀ (h : AHeap), aload h 1 false (.vptr [w] 0) = some w := fun _ => rfl
      have lw := hwl.len
      rw [q1, fewGo]
      by_cases e : s < 600
      · have e' : (s : Int) < 600 := by omega
        have em : ammx false [.int .i64 ((rows[i].length : Nat) : Int), .int .i64 1000] = some (.int .i64 ((min rows[i].length 1000 : Nat) : Int)) := by
          have : ammx false [.int .i64 ((rows[i].length : Nat) : Int), .int .i64 1000] = some (.int .i64 (if (1000 : Int) < rows[i].length then 1000 else rows[i].length)) := by simp [ammx, amm]
          rw [this]
          congr 2
          split <;> omega
        have hw2 := w64a (a := s + 1) (b := min rows[i].length 1000) (by omega)
        have ee := ih (i + 1) m (s + 1 + min rows[i].length 1000) (by omega) (by omega) (by omega) (by omega)
        rw [if_pos e, ← ee]
        simp only [loop_e,EB_l32_fewRows_0,Zaa,Zab,Zac,Zad,Zae,Zag,Zaj,Zak,Zan,Zar,Zau,Zay,Zbb,Zbg,Zbi,Zbj,Zbk,Zbl,Zbo,Zbq,Zcb,Zcg,Zcl,Zcv,Zcw,Zcx,Zcz,Zda,Zdb,Zdc,Zdd,List.set_cons_zero,List.set_cons_succ,List.getD_cons_zero,List.getD_cons_succ,Zde,Zdh,decide_true,eq_self,la,h3',e',xw,lv,lw,hw1,em,hw2,hw]
      · have e' : ¬ (s : Int) < 600 := by omega
        rw [if_neg e]
        simp only [loop_e,EB_l32_fewRows_0,Zab,Zac,Zad,Zag,Zah,Zaj,Zak,Zal,Zas,Zav,Zay,Zbb,Zbg,Zbi,Zbj,Zbk,Zbl,Zbq,Zcg,Zcv,Zcw,Zcx,Zdb,Zdc,Zdd,List.set_cons_zero,List.set_cons_succ,List.getD_cons_zero,List.getD_cons_succ,Zdh,decide_true,decide_false,eq_self,la,h3',e']
  have e := loop rows.length 0 (rows.length + 1) 0 (by omega) (by omega) (by omega) (by omega)
  rw [List.drop_zero, z0] at e
  rw [R_l32_fewRows]
  simp only [Zab,Zac,Zae,Zaf,Zag,Zai,Zaj,Zak,Zap,Zat,Zay,Zbi,Zbk,Zbq,Zcu,Zcv,Zcw,Zcx,Zdb,Zdc,Zdd,List.set_cons_zero,List.set_cons_succ,List.getD_cons_zero,List.getD_cons_succ,Option.map_some,Zdh,List.length_cons,List.length_nil,Nat.reduceAdd,Nat.reduceSub,eq_self,true_and,List.length_cons,List.length_nil,List.replicate_succ,List.replicate_zero,List.cons_append,List.nil_append,e,resAll,resVals,resVal,Option.some.injEq,Prod.mk.injEq,true_and,exists_eq']
end Go.Proofs.Ytkgndbhflehhhaa.Ai
namespace Go.Proofs.Ytkgndbhflehhhaa.Ai
open Go Go.Proofs
set_option linter.unusedVariables false
set_option linter.unusedSimpArgs false
set_option maxRecDepth 10000
set_option maxHeartbeats 4000000

theorem extL_snoc (l : List Int) (n : Nat) (h : l.length < n) : extL (l ++ [0]) n = extL l n := by
  have e : n - l.length = (n - (l ++ [0]).length) + 1 := by simp; omega
  rw [extL, extL, e, List.replicate_succ, List.append_assoc, List.singleton_append]
section
variable {v0 v1 w2 w3 w6 w7 w8 : AV}
theorem r_Lay_3 (T b j N : Nat) (hT : 2 ≤ T) (hb : b + j ≤ 900000) : ∀ (d m : Nat) (vals chk : List Int) (h : AHeap) (vv kv : AV) (qv qk : Option Nat), vals.length + d = max vals.length (b + j + 1) → d < m → chk.length = vals.length → vals.length ≤ 1000000 → h[1]? = some (.arr 0 4 true [[v0, v1, vv, kv]]) → OwnG 1 (eIs vals) vv h qv → OwnG 1 (eIs chk) kv h qk → (∀ i, qv = some i → T ≤ i) → (∀ i, qk = some i → T ≤ i) → (∀ i, qv = some i → qk ≠ some i) → T ≤ h.length →
    ∃ (h' : AHeap) (vv' kv' : AV) (qv' qk' : Option Nat), loopN (evalCode (lim G0.cfg) N B_r32_Lay_3) m ⟨(.junk::.junk :: w2 :: w3 :: .junk :: .ptr 1 0 0 0 :: w6 :: w7 :: w8 :: .int .i64 b :: .int .i64 j :: .junk::.junk::.junk::.junk::.junk::.junk::.junk::.junk::.junk::.junk::.junk::.junk::.junk::.junk::.junk::.junk::.junk::.junk::.junk::.junk::.junk::.junk::.junk::.junk::.junk::.junk::.junk::.junk::.junk::.junk::.junk::.junk::.junk::.junk::.junk::.junk::.junk::.junk::.junk::.junk::.junk::.junk::.junk::.junk::.junk::.junk::.junk::.junk::.junk::.junk::.junk::.junk::.junk::.junk::.junk::.junk::.junk::.junk::.junk::.junk::.junk::.junk::.junk::.junk::.junk::.junk::.junk::.junk::.junk::.junk::.junk::.junk::.junk::.junk::.junk::.junk::.junk::.junk::.junk::.junk::.junk::.junk::.junk::.junk::.junk::.junk::.junk::.junk::.junk::.junk::.junk::.junk::.junk::.junk :: []), h⟩ = some (.exit 6, ⟨(.junk::.junk :: w2 :: w3 :: .junk :: .ptr 1 0 0 0 :: w6 :: w7 :: w8 :: .int .i64 b :: .int .i64 j :: .junk::.junk::.junk::.junk::.junk::.junk::.junk::.junk::.junk::.junk::.junk::.junk::.junk::.junk::.junk::.junk::.junk::.junk::.junk::.junk::.junk::.junk::.junk::.junk::.junk::.junk::.junk::.junk::.junk::.junk::.junk::.junk::.junk::.junk::.junk::.junk::.junk::.junk::.junk::.junk::.junk::.junk::.junk::.junk::.junk::.junk::.junk::.junk::.junk::.junk::.junk::.junk::.junk::.junk::.junk::.junk::.junk::.junk::.junk::.junk::.junk::.junk::.junk::.junk::.junk::.junk::.junk::.junk::.junk::.junk::.junk::.junk::.junk::.junk::.junk::.junk::.junk::.junk::.junk::.junk::.junk::.junk::.junk::.junk::.junk::.junk::.junk::.junk::.junk::.junk::.junk::.junk::.junk::.junk :: []), h'⟩) ∧
      h'[1]? = some (.arr 0 4 true [[v0, v1, vv', kv']]) ∧ OwnG 1 (eIs (extL vals (b + j + 1))) vv' h' qv' ∧ OwnG 1 (eIs (extL chk (b + j + 1))) kv' h' qk' ∧ (∀ (p : Nat) (o : AObj), p < T → p ≠ 1 → h[p]? = some o → h'[p]? = some o) ∧ (∀ i, qv' = some i → T ≤ i) ∧ (∀ i, qk' = some i → T ≤ i) ∧ (∀ i, qv' = some i → qk' ≠ some i) ∧ T ≤ h'.length := by
  intro d
  induction d with
  | zero =>
    intro m vals chk h vv kv qv qk h1 h2 hl hn e1 ov ok tv tk hq hT2
    obtain ⟨m, rfl⟩ : ∃ q, m = q + 1 := ⟨m - 1, by omega⟩
    have hw := w64a (a := b) (b := j) (by omega)
    have lo := ov.len h
    rw [Zep] at lo
    have l2 := c_ld2 e1
    have h3 : ¬ ((vals.length : Int) ≤ ((b + j : Nat) : Int)) := by omega
    refine ⟨h, vv, kv, qv, qk, ?_, e1, by rw [extL_same (by omega)]; exact ov, by rw [extL_same (by omega)]; exact ok, fun _ _ _ _ e => e, tv, tk, hq, hT2⟩
    simp only [loop_e,EB_r32_Lay_3,Zab,Zac,Zad,Zag,Zah,Zaj,Zak,Zal,Zas,Zav,Zay,Zbi,Zbk,Zbo,Zbq,Zby,Zcg,Zcv,Zcx,Zdb,Zdc,Zdd,List.set_cons_zero,List.set_cons_succ,List.getD_cons_zero,List.getD_cons_succ,Zde,Zdi,Zdx,decide_false,Nat.reduceAdd,eq_self,l2,lo,hw,h3]
  | succ d ih =>
    intro m vals chk h vv kv qv qk h1 h2 hl hn e1 ov ok tv tk hq hT2
    obtain ⟨m, rfl⟩ : ∃ q, m = q + 1 := ⟨m - 1, by omega⟩
    have hw := w64a (a := b) (b := j) (by omega)
    have lo := ov.len h
    rw [Zep] at lo
    have l2 := c_ld2 e1
    have h3 : ((vals.length : Int) ≤ ((b + j : Nat) : Int)) := by omega
    obtain ⟨iv, ver1, H1, r1, r2, r3, r4, r5⟩ := ov.push true (c := [.int .i64 0]) rfl rfl (eIs_all _) 8 (by omega) (by rw [Zep]; omega)
    rw [Zep] at r1 r2
    rw [← eIs_snoc] at r2
    have n1 : qv ≠ some 1 := fun e => by have := tv 1 e; omega
    have e1' := r3 1 _ e1 n1
    have tiv : T ≤ iv := by
      rcases r4 with g | ⟨_, g⟩
      · exact tv iv g
      · omega
    have ok1 := ok.frame (h' := H1) fun i o f e => r3 i o e (fun g => hq i g f)
    have hne : qk ≠ some iv := fun f => by
      rcases r4 with g | ⟨_, g⟩
      · exact hq iv g f
      · rw [f] at ok; have := ok.lt; omega
    have s2 := c_st2 e1' r2.cell
    obtain ⟨vvx, hvx⟩ : ∃ x, x = AV.hsl iv ver1 0 (vals.length + 1) none := ⟨_, rfl⟩
    rw [← hvx] at r1 r2 s2
    obtain ⟨H2, hH2⟩ : ∃ H, H = H1.set 1 (.arr 0 4 true [[v0, v1, vvx, kv]]) := ⟨_, rfl⟩
    rw [← hH2] at s2
    have e2 : H2[1]? = some (.arr 0 4 true [[v0, v1, vvx, kv]]) := by rw [hH2]; exact get_set_eq e1'
    have fr2 : ∀ (p : Nat) (o : AObj), p ≠ 1 → H1[p]? = some o → H2[p]? = some o := fun p o n e => by rw [hH2]; exact get_set_ne e n.symm
    have ov2 := r2.frame (h' := H2) fun i o f e => fr2 i o (by cases f; omega) e
    have ok2 := ok1.frame (h' := H2) fun i o f e => fr2 i o (by have := tk i f; omega) e
    have l3 := c_ld3 e2
    obtain ⟨ik, ver2, H3, p1, p2, p3, p4, p5⟩ := ok2.push true (c := [.int .i64 0]) rfl rfl (eIs_all _) 8 (by omega) (by rw [Zep]; omega)
    rw [Zep] at p1 p2
    rw [← eIs_snoc] at p2
    have n2 : qk ≠ some 1 := fun e => by have := tk 1 e; omega
    have e3 := p3 1 _ e2 n2
    have lenH2 : H2.length = H1.length := by rw [hH2, List.length_set]
    have tik : T ≤ ik := by
      rcases p4 with g | ⟨_, g⟩
      · exact tk ik g
      · omega
    have ov3 := ov2.frame (h' := H3) fun i o f e => p3 i o e (fun g => by cases f; exact hne g)
    have hne2 : iv ≠ ik := fun f => by
      rcases p4 with g | ⟨_, g⟩
      · rw [← f] at g; exact hne g
      · have := ov2.lt; omega
    have s3 := c_st3 e3 p2.cell
    obtain ⟨kvx, hkx⟩ : ∃ x, x = AV.hsl ik ver2 0 (chk.length + 1) none := ⟨_, rfl⟩
    rw [← hkx] at p1 p2 s3
    obtain ⟨H4, hH4⟩ : ∃ H, H = H3.set 1 (.arr 0 4 true [[v0, v1, vvx, kvx]]) := ⟨_, rfl⟩
    rw [← hH4] at s3
    have e4 : H4[1]? = some (.arr 0 4 true [[v0, v1, vvx, kvx]]) := by rw [hH4]; exact get_set_eq e3
    have fr4 : ∀ (p : Nat) (o : AObj), p ≠ 1 → H3[p]? = some o → H4[p]? = some o := fun p o n e => by rw [hH4]; exact get_set_ne e n.symm
    have ov4 := ov3.frame (h' := H4) fun i o f e => fr4 i o (by cases f; omega) e
    have ok4 := p2.frame (h' := H4) fun i o f e => fr4 i o (by cases f; omega) e
    have lenH4 : H4.length = H3.length := by rw [hH4, List.length_set]
    have le1 : (vals ++ [0]).length = vals.length + 1 := by simp
    have le2 : (chk ++ [0]).length = chk.length + 1 := by simp
    obtain ⟨h', vv', kv', qv', qk', e, g1, g2, g3, g4, g5, g6, g7, g8⟩ := ih m (vals ++ [0]) (chk ++ [0]) H4 vvx kvx (some iv) (some ik) (by omega) (by omega) (by omega) (by omega) e4 ov4 ok4 (fun i f => by cases f; exact tiv) (fun i f => by cases f; exact tik) (fun i f g => by cases f; cases g; exact hne2 rfl) (by omega)
    rw [extL_snoc _ _ (by omega)] at g2 g3
    refine ⟨h', vv', kv', qv', qk', ?_, g1, g2, g3, fun p o t1 t2 eo => g4 p o t1 t2 (fr4 p o t2 (p3 p o (fr2 p o t2 (r3 p o eo fun f => by have := tv p f; omega)) fun f => by have := tk p f; omega)), g5, g6, g7, g8⟩
    rw [← e]
    have lt2 := fun h : AHeap => lit1' h (.int .i64 0) (.int .i64 0) rfl rfl
    simp only [loop_e,EB_r32_Lay_3,Zaa,Zab,Zac,Zad,Zae,Zag,Zaj,Zak,Zan,Zar,Zau,Zay,Zaz,Zba,Zbi,Zbk,Zbo,Zbp,Zbq,Zby,Zcg,Zci,Zcn,Zcv,Zcw,Zcx,Zcy,Zdb,Zdc,Zdd,List.set_cons_zero,List.set_cons_succ,List.getD_cons_zero,List.getD_cons_succ,Zde,Zdi,Zdx,decide_true,Nat.reduceAdd,eq_self,l2,lo,hw,h3,ev2,lt2,r1,s2,l3,p1,s3]
end
end Go.Proofs.Ytkgndbhflehhhaa.Ai
namespace Go.Proofs.Ytkgndbhflehhhaa.Ai
open Go Go.Proofs
set_option linter.unusedVariables false
set_option linter.unusedSimpArgs false
set_option maxRecDepth 10000
set_option maxHeartbeats 4000000

theorem r_fitsO {chk row : List Int} {kv rv : AV} {H : AHeap} {q : Option Nat} (ho : OwnG 1 (eIs chk) kv H q) (h2 : Li row rv) (k : Nat) (hk1 : k ≤ 1000000000) (hk2 : chk.length ≤ 1000000000) (hm : row.length ≤ 1000000) :
    lim G0.cfg (.func 40) [kv, rv, .int .i64 k] H = some (.bool (fitsD chk row k), H) := by
  obtain ⟨x, c, f1, f2⟩ := fzI ho 998
  obtain ⟨h', run⟩ := run_fits f2 h2 k hk1 hk2 hm
  have ha : mapO (freeze H 1000) [kv, rv, .int .i64 k] = some [(x, c), (rv, true), (.int .i64 k, true)] := by
    have e1 := h2.fz H 999
    have e2 : freeze H 1000 (.int .i64 k) = some (.int .i64 k, true) := rfl
    simp only [mapO,f1,e1,e2]
  exact lim_fz rfl rfl P_r32_fits (row.length + 1) ha run (rfl : freeze h' 1000 (.bool _) = some (.bool _, true)) (Bool.or_true _)

section
variable {v0 v1 vv kv w2 w3 w6 w7 rv : AV} {h : AHeap} {chk row : List Int} {qk : Option Nat}
theorem r_Lay_1 (e1 : h[1]? = some (.arr 0 4 true [[v0, v1, vv, kv]])) (ho : OwnG 1 (eIs chk) kv h qk) (hr : Li row rv) (hk2 : chk.length ≤ 1000000) (hm : row.length ≤ 1000000) (N : Nat) : ∀ (d k m : Nat), chk.length ≤ k + d → k ≤ chk.length → d < m →
    loopN (evalCode (lim G0.cfg) N B_r32_Lay_1) m ⟨(.junk::.junk :: w2 :: w3 :: .junk :: .ptr 1 0 0 0 :: w6 :: w7 :: rv :: .int .i64 k :: .junk::.junk::.junk::.junk::.junk::.junk::.junk::.junk::.junk::.junk::.junk::.junk::.junk::.junk::.junk::.junk::.junk::.junk::.junk::.junk::.junk::.junk::.junk::.junk::.junk::.junk::.junk::.junk::.junk::.junk::.junk::.junk::.junk::.junk::.junk::.junk::.junk::.junk::.junk::.junk::.junk::.junk::.junk::.junk::.junk::.junk::.junk::.junk::.junk::.junk::.junk::.junk::.junk::.junk::.junk::.junk::.junk::.junk::.junk::.junk::.junk::.junk::.junk::.junk::.junk::.junk::.junk::.junk::.junk::.junk::.junk::.junk::.junk::.junk::.junk::.junk::.junk::.junk::.junk::.junk::.junk::.junk::.junk::.junk::.junk::.junk::.junk::.junk::.junk::.junk::.junk::.junk::.junk::.junk::.junk :: []), h⟩ = some (.exit 2, ⟨(.junk::.junk :: w2 :: w3 :: .junk :: .ptr 1 0 0 0 :: w6 :: w7 :: rv :: .int .i64 (baseGo chk row d k) :: .junk::.junk::.junk::.junk::.junk::.junk::.junk::.junk::.junk::.junk::.junk::.junk::.junk::.junk::.junk::.junk::.junk::.junk::.junk::.junk::.junk::.junk::.junk::.junk::.junk::.junk::.junk::.junk::.junk::.junk::.junk::.junk::.junk::.junk::.junk::.junk::.junk::.junk::.junk::.junk::.junk::.junk::.junk::.junk::.junk::.junk::.junk::.junk::.junk::.junk::.junk::.junk::.junk::.junk::.junk::.junk::.junk::.junk::.junk::.junk::.junk::.junk::.junk::.junk::.junk::.junk::.junk::.junk::.junk::.junk::.junk::.junk::.junk::.junk::.junk::.junk::.junk::.junk::.junk::.junk::.junk::.junk::.junk::.junk::.junk::.junk::.junk::.junk::.junk::.junk::.junk::.junk::.junk::.junk::.junk :: []), h⟩) := by
  have l3 := c_ld3 e1
  intro d
  induction d with
  | zero =>
    intro k m h1 h2 h3
    obtain ⟨m, rfl⟩ : ∃ q, m = q + 1 := ⟨m - 1, by omega⟩
    have f := r_fitsO ho hr k (by omega) (by omega) hm
    rw [fitsD_end chk _ k (by omega)] at f
    rw [baseGo]
    simp only [loop_e,EB_r32_Lay_1,Zab,Zac,Zad,Zag,Zah,Zaj,Zak,Zal,Zas,Zav,Zay,Zaz,Zbi,Zbk,Zbo,Zbr,Zby,Zcp,Zcq,Zcv,Zcw,Zcx,Zcz,Zda,Zdb,Zdc,Zdd,List.set_cons_zero,List.set_cons_succ,List.getD_cons_zero,List.getD_cons_succ,Zdr,Zdx,Bool.not_true,Nat.reduceAdd,eq_self,List.cons_append,List.nil_append,l3,f]
  | succ d ih =>
    intro k m h1 h2 h3
    obtain ⟨m, rfl⟩ : ∃ q, m = q + 1 := ⟨m - 1, by omega⟩
    have f := r_fitsO ho hr k (by omega) (by omega) hm
    have hw := w64s (n := k) (by omega)
    rw [baseGo]
    cases fb : fitsD chk row k with
    | true =>
      rw [fb] at f
      rw [cond_true]
      simp only [loop_e,EB_r32_Lay_1,Zab,Zac,Zad,Zag,Zah,Zaj,Zak,Zal,Zas,Zav,Zay,Zaz,Zbi,Zbk,Zbo,Zbr,Zby,Zcp,Zcq,Zcv,Zcw,Zcx,Zcz,Zda,Zdb,Zdc,Zdd,List.set_cons_zero,List.set_cons_succ,List.getD_cons_zero,List.getD_cons_succ,Zdr,Zdx,Bool.not_true,Nat.reduceAdd,eq_self,List.cons_append,List.nil_append,l3,f]
    | false =>
      have hlt : k < chk.length := by
        rcases Nat.lt_or_ge k chk.length with h | h
        · exact h
        · rw [fitsD_end chk _ k h] at fb; cases fb
      rw [fb] at f
      rw [cond_false, ← ih (k + 1) m (by omega) (by omega) (by omega)]
      simp only [loop_e,EB_r32_Lay_1,Zaa,Zab,Zac,Zad,Zae,Zag,Zaj,Zak,Zan,Zar,Zau,Zay,Zaz,Zbi,Zbk,Zbo,Zbq,Zbr,Zby,Zcp,Zcq,Zcv,Zcw,Zcx,Zcz,Zda,Zdb,Zdc,Zdd,List.set_cons_zero,List.set_cons_succ,List.getD_cons_zero,List.getD_cons_succ,Zde,Zdr,Zdx,Bool.not_false,Nat.reduceAdd,eq_self,List.cons_append,List.nil_append,l3,f,hw]
end
end Go.Proofs.Ytkgndbhflehhhaa.Ai
