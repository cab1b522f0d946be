/- Trees in any form (read through), and in memory; comparison. -/
import Derived.Test.YtkimloceaihplaamTB
import Derived.Test.YtkimloceaihplaamTA
import Derived.Test.YtkimloceaihplaamGA
namespace Go.Proofs.Ytkimloceaihplaa.Ai
open Go Go.Proofs
open AV renaming junk → J
open List renaming set_cons_zero → Q0, getD_cons_zero → Q1, getD_cons_succ → Q2, set_cons_succ → Q3, length_cons → Q4, length_nil → Q5, drop_zero → Q6
set_option linter.unusedVariables false
set_option linter.unusedSimpArgs false
set_option maxRecDepth 10000
set_option maxHeartbeats 4000000
mutual
def Enc : T → List AV → Prop
 | .node s r ks, c => ∃ kv, c = [.int .i64 s, .int .i64 r, kv] ∧ ((ks = [] ∧ kv = .nilS) ∨ ∃ e rows, kv = .vsl e rows ∧ Encs ks rows)
def Encs : List T → List (List AV) → Prop
 | [], rows => rows = []
 | t :: ks, rows => ∃ c rest, rows = c :: rest ∧ Enc t c ∧ Encs ks rest
end
theorem Encs.len : ∀ {ks : List T} {rows : List (List AV)}, Encs ks rows → rows.length = ks.length
 | [], _, h => by cases h; rfl
 | t :: ks, _, ⟨c, rest, e, _, h⟩ => by subst e; simp [h.len]
theorem Encs.get : ∀ {ks : List T} {rows : List (List AV)}, Encs ks rows → ∀ (j : Nat) (hj : j < ks.length), ∃ c, rows[j]? = some c ∧ Enc ks[j] c
 | [], _, h, j, hj => by simp at hj
 | t :: ks, _, ⟨c, rest, e, h1, h⟩, j, hj => by
  subst e
  cases j with
  | zero => exact ⟨c, rfl, h1⟩
  | succ j => exact h.get j (by simpa using hj)
theorem Enc.cells {t : T} {c : List AV} (h : Enc t c) : ∃ kv, c = [.int .i64 t.sym, .int .i64 t.rule, kv] := by
 obtain ⟨s, r, ks⟩ := t
 obtain ⟨kv, h, _⟩ := h
 exact ⟨kv, h⟩
theorem Enc.length {t : T} {c : List AV} (h : Enc t c) : c.length = 3 := by obtain ⟨kv, rfl⟩ := h.cells; rfl
theorem Enc.open {s r : Int} {ks : List T} {c : List AV} (hc : Enc (.node s r ks) c) : ∃ kv, c = [.int .i64 s, .int .i64 r, kv] ∧ (∀ h : AHeap, alen h .slice kv = some (.int .i64 ks.length)) ∧
  (∀ (j : Nat) (hj : j < ks.length), ∃ cj, Enc ks[j] cj ∧ ∀ h : AHeap, aindexAddr h 3 kv (.int .i64 j) = some (.vptr cj 0)) ∧ cellsOf kv = [kv] ∧ cellOk kv = true ∧ ∀ (h : AHeap) (d : Nat), freeze h (d + 1) kv = some (kv, true) := by
 obtain ⟨kv, rfl, hk⟩ := hc
 rcases hk with ⟨rfl, rfl⟩ | ⟨e, rows, rfl, hk⟩
 ·exact ⟨_, rfl, fun h => rfl, fun j hj => by simp at hj, rfl, rfl, fun h d => rfl⟩
 ·refine ⟨_, rfl, fun h => by simp [alen, hk.len], fun j hj => ?_, rfl, rfl, fun h d => rfl⟩
  obtain ⟨c, h1, h2⟩ := hk.get j hj
  exact ⟨c, h2, fun h => by simp [aindexAddr, h1, h2.length]⟩
theorem fz_enc {t : T} {c : List AV} (hc : Enc t c) (h : AHeap) : freeze h 1000 (.agg c) = some (.agg c, true) := by
 obtain ⟨s, r, ks⟩ := t
 obtain ⟨kv, rfl, _, _, _, _, hf⟩ := hc.open
 have e : freeze h 1000 (.agg [.int .i64 s, .int .i64 r, kv]) = (mapO (freeze h 999) [.int .i64 s, .int .i64 r, kv]).map fun l => (.agg (l.map (·.1)), l.all (·.2)) := rfl
 rw [e, mapO_3 (rfl : freeze h 999 (.int .i64 s) = some (.int .i64 s, true)) (rfl : freeze h 999 (.int .i64 r) = some (.int .i64 r, true)) (hf h 998)]
 rfl
def wholeB (t : T) : Bool := (yieldT t).all fun s => decide (0 ≤ s)
theorem r_Whole (t : T) (ht : okT t) (hs : sizeN t ≤ 1000000) (H : AHeap) : lim G0.cfg (.func 30) [.agg (cT t)] H = some (.bool (wholeB t), H) := by
 refine lim_flat rfl rfl P_r20_Whole ((yieldT t).length + 1) (fun h => fz_1 (fz_tree t h)) ?_ (fun _ => rfl) H
 have c1 := r_Yield t ht hs
 have hyl := yieldT_len t
 have hct := cT_len t
 have htk : List.take 3 (cT t) = cT t := List.take_of_length_le (Nat.le_of_eq hct)
 unfold wholeB
 generalize yieldT t = ys at *
 have ll := fun h => len_encL h ys
 have loop : ∀ (d i m : Nat) (h : AHeap), ys.length = i + d → d < m →
   loopN (evalCode (lim G0.cfg) (ys.length + 1) B_r20_Whole_0) m ⟨[J,J,J, encL ys, .int .i64 i, J,J,J,J,J,J,J,J,J,J,J,J,J], h⟩ =
    (bif (ys.drop i).all (fun s => decide (0 ≤ s)) then some (.exit 0, ⟨[J,J,J,J,J,J,J,J,J,J,J,J,J,J,J,J,J,J], h⟩) else some (.ret, ⟨[J,J, .bool false, J,J,J,J,J,J,J,J,J,J,J,J,J,J,J], h⟩)) := by
  intro d
  induction d with
  | zero =>
   intro i m h h1 h3
   obtain ⟨m, rfl⟩ : ∃ q, m = q + 1 := ⟨m - 1, by omega⟩
   have e1 : ys.drop i = [] := List.drop_eq_nil_iff.2 (by omega)
   have h5 : ¬ ((i : Int) < ys.length) := by omega
   rw [e1]
   simp only [loop_e,EB_r20_Whole_0,Zab,Zac,Zad,Zag,Zah,Zaj,Zak,Zal,Zas,Zav,Zay,Zbi,Zbk,Zbq,Zcg,Zcv,Zcx,Zdc,Zdd,Q0,Q3,Q1,Q2,Zdh,decide_false,eq_self,cond_true,List.all_nil,Q0,ll,h5,List.all_nil]
  | succ d ihd =>
   intro i m h h1 h3
   obtain ⟨m, rfl⟩ : ∃ q, m = q + 1 := ⟨m - 1, by omega⟩
   have h5 : i < ys.length := by omega
   have h5' : (i : Int) < ys.length := by omega
   have e1 : ys.drop i = ys[i] :: ys.drop (i + 1) := List.drop_eq_getElem_cons h5
   have hw := w64s (n := i) (by omega)
   have xx := fun h => ix_encL h ys .i64 i h5
   rw [e1]
   by_cases q : ys[i] < 0
   case pos =>
    have q' : ¬ (0 ≤ ys[i]) := by omega
    simp only [loop_e,EB_r20_Whole_0,Zaa,Zab,Zac,Zad,Zae,Zag,Zai,Zaj,Zak,Zam,Zao,Zar,Zaw,Zay,Zbi,Zbk,Zbo,Zbq,Zcb,Zcg,Zcv,Zcw,Zcx,Zdb,Zdc,Zdd,Q0,Q3,Q1,Q2,Option.bind_some,Zdh,Zdz,decide_true,decide_false,Q4,Q5,if_true,Nat.reduceAdd,Nat.reduceLeDiff,eq_self,cond_false,aload,acells,part,eI,List.all_cons,Q6,List.take_succ_cons,List.take_nil,Q0,ll,h5',xx,q,q',List.all_cons,Bool.false_and]
   case neg =>
    have q' : 0 ≤ ys[i] := by omega
    have e := ihd (i + 1) m h (by omega) (by omega)
    simp only [List.all_cons,q',decide_true,Bool.true_and]
    rw [← e]
    simp only [loop_e,EB_r20_Whole_0,Zaa,Zab,Zac,Zad,Zae,Zag,Zaj,Zak,Zan,Zar,Zas,Zau,Zay,Zbi,Zbk,Zbo,Zbq,Zcb,Zcg,Zcv,Zcw,Zcx,Zdb,Zdc,Zdd,Q0,Q3,Q1,Q2,Option.bind_some,Zde,Zdh,Zdz,decide_true,decide_false,Q4,Q5,if_true,Nat.reduceAdd,Nat.reduceLeDiff,eq_self,aload,acells,part,eI,Q6,List.take_succ_cons,List.take_nil,Q0,ll,h5',xx,q,hw]
 have e := fun h => loop ys.length 0 (ys.length + 1) h (by omega) (by omega)
 simp only [Q6,z0] at e
 rw [R_r20_Whole]
 cases q : ys.all (fun s => decide (0 ≤ s))
 all_goals
  rw [q] at e
  simp only [cond_true,cond_false] at e
  simp only [Zab,Zac,Zae,Zaf,Zag,Zai,Zaj,Zak,Zam,Zao,Zap,Zat,Zay,Zaz,Zbi,Zbk,Zbn,Zbo,Zcp,Zcq,Zcs,Zcu,Zcv,Zcw,Zcx,Zcz,Zda,Zdb,Zdc,Zdd,Q0,Q3,Q1,Q2,Option.bind_some,Option.map_some,Zea,Zeb,List.getElem?_cons_zero,Q4,Q5,if_true,Nat.reduceAdd,Nat.reduceSub,Nat.reduceLeDiff,eq_self,true_and,Q4,Q5,List.replicate_succ,List.replicate_zero,List.cons_append,List.nil_append,aload,acells,getArr,part,Q6,List.cons_append,List.nil_append,Q0,hct,htk,c1,e,resAll,resVals,resVal,Option.some.injEq,Prod.mk.injEq,true_and,exists_eq']
end Go.Proofs.Ytkimloceaihplaa.Ai
namespace Go.Proofs.Ytkimloceaihplaa.Ai
open Go Go.Proofs
open Nat renaming le_refl → Q0
set_option linter.unusedVariables false
set_option linter.unusedSimpArgs false
set_option maxRecDepth 10000
set_option maxHeartbeats 4000000
def Soft (o : AObj) : Prop := (∃ v l, o = .arr v 1 false l) ∨ ∃ c, o = .arr 0 9 true c
def Keep (h h' : AHeap) : Prop := ∀ (j : Nat) (o : AObj), h[j]? = some o → ¬ Soft o → h'[j]? = some o
theorem Keep.refl (h : AHeap) : Keep h h := fun _ _ e _ => e
theorem Keep.trans {a b c : AHeap} (h : Keep a b) (k : Keep b c) : Keep a c := fun j o e n => k j o (h j o e n) n
theorem Keep.app (h l : AHeap) : Keep h (h ++ l) := fun j o e _ => get_app e l
theorem Keep.setN {h h' : AHeap} (k : Keep h h') {j : Nat} (hj : h.length ≤ j) (o : AObj) : Keep h (h'.set j o) := fun i q e n => by
 have : i < h.length := get_len e
 exact get_set_ne (k i q e n) (by omega)
theorem Keep.setS {h h' : AHeap} (k : Keep h h') {j : Nat} {q : AObj} (hj : h'[j]? = some q) (hs : Soft q) (o : AObj) : Keep h (h'.set j o) := fun i p e n => by
 have e' := k i p e n
 by_cases hij : j = i
 ·subst hij; rw [hj] at e'; cases e'; exact absurd hs n
 ·exact get_set_ne e' hij
theorem soft3 {b : Bool} {c : List (List AV)} : ¬ Soft (.arr 0 3 b c) := fun h => by rcases h with ⟨_, _, e⟩ | ⟨_, e⟩ <;> cases e
theorem soft5 {b : Bool} {c : List (List AV)} : ¬ Soft (.arr 0 5 b c) := fun h => by rcases h with ⟨_, _, e⟩ | ⟨_, e⟩ <;> cases e
theorem KeepA.keep {h h' : AHeap} (k : KeepA h h') : Keep h h' := fun j o e n => k j o e fun v l ho => n (.inl ⟨v, l, ho⟩)
mutual
def RepT (h : AHeap) : Nat → T → List AV → Prop
 | lo, .node s r ks, c => ∃ kv, c = [.int .i64 s, .int .i64 r, kv] ∧ ((ks = [] ∧ kv = .nilS) ∨ ∃ i rows, lo ≤ i ∧ kv = .hsl i 0 0 ks.length none ∧ h[i]? = some (.arr 0 3 true rows) ∧ RepTs h (i + 1) ks rows)
def RepTs (h : AHeap) : Nat → List T → List (List AV) → Prop
 | _, [], rows => rows = []
 | lo, t :: ks, rows => ∃ c rest, rows = c :: rest ∧ RepT h lo t c ∧ RepTs h lo ks rest
end
mutual
theorem RepT.mono {h h' : AHeap} : ∀ (t : T) {lo lo' : Nat} {c : List AV}, RepT h lo t c → lo' ≤ lo → (∀ j r, lo ≤ j → h[j]? = some (.arr 0 3 true r) → h'[j]? = some (.arr 0 3 true r)) → RepT h' lo' t c
 | .node s r ks, lo, lo', c, hr, hl, hk => by
  obtain ⟨kv, h1, h2⟩ := hr
  refine ⟨kv, h1, ?_⟩
  rcases h2 with h2 | ⟨i, rows, g1, g2, g3, g4⟩
  ·exact .inl h2
  ·exact .inr ⟨i, rows, by omega, g2, hk i rows g1 g3, RepTs.mono ks g4 (Q0 _) fun j r hj => hk j r (by omega)⟩
theorem RepTs.mono {h h' : AHeap} : ∀ (ks : List T) {lo lo' : Nat} {rows : List (List AV)}, RepTs h lo ks rows → lo' ≤ lo → (∀ j r, lo ≤ j → h[j]? = some (.arr 0 3 true r) → h'[j]? = some (.arr 0 3 true r)) → RepTs h' lo' ks rows
 | [], lo, lo', rows, hr, hl, hk => hr
 | t :: ks, lo, lo', rows, hr, hl, hk => by
  obtain ⟨c, rest, h1, h2, h3⟩ := hr
  exact ⟨c, rest, h1, RepT.mono t h2 hl hk, RepTs.mono ks h3 hl hk⟩
end
theorem RepT.keep {h h' : AHeap} {t : T} {lo lo' : Nat} {c : List AV} (hr : RepT h lo t c) (hl : lo' ≤ lo) (k : Keep h h') : RepT h' lo' t c := RepT.mono t hr hl fun j r _ e => k j _ e soft3
theorem RepTs.keep {h h' : AHeap} {ks : List T} {lo lo' : Nat} {rows : List (List AV)} (hr : RepTs h lo ks rows) (hl : lo' ≤ lo) (k : Keep h h') : RepTs h' lo' ks rows := RepTs.mono ks hr hl fun j r _ e => k j _ e soft3
theorem RepTs.setB {h : AHeap} {ks : List T} {lo : Nat} {rows : List (List AV)} (hr : RepTs h lo ks rows) {j : Nat} (hj : j < lo) (o : AObj) : RepTs (h.set j o) lo ks rows := RepTs.mono ks hr (Q0 _) fun i r hi e => get_set_ne e (by omega)
theorem RepT.setB {h : AHeap} {t : T} {lo : Nat} {c : List AV} (hr : RepT h lo t c) {j : Nat} (hj : j < lo) (o : AObj) : RepT (h.set j o) lo t c := RepT.mono t hr (Q0 _) fun i r hi e => get_set_ne e (by omega)
theorem RepTs.len {h : AHeap} : ∀ {ks : List T} {lo : Nat} {rows : List (List AV)}, RepTs h lo ks rows → rows.length = ks.length
 | [], _, _, e => by cases e; rfl
 | t :: ks, _, _, ⟨c, rest, e, _, g⟩ => by subst e; simp [g.len]
def Cel (c : List AV) : Prop := ∃ a b kv, c = [.int .i64 a, .int .i64 b, kv] ∧ (kv = .nilS ∨ ∃ i n, kv = .hsl i 0 0 n none)
theorem RepT.cel {h : AHeap} {lo : Nat} {t : T} {c : List AV} (hr : RepT h lo t c) : Cel c := by
 obtain ⟨s, r, ks⟩ := t
 obtain ⟨kv, h1, h2⟩ := hr
 refine ⟨s, r, kv, h1, ?_⟩
 rcases h2 with ⟨_, h2⟩ | ⟨i, rows, _, h2, _⟩
 ·exact .inl h2
 ·exact .inr ⟨_, _, h2⟩
theorem cel0 : Cel [.int .i64 0, .int .i64 0, .nilS] := ⟨0, 0, .nilS, rfl, .inl rfl⟩
abbrev eMk (g : GramD) (mv lf sz yv : AV) : List AV := [.vsl false (eSs g.terms), .vsl false (eSs g.nonterms), .vsl false (eIs g.origins), .vsl false (g.rules.map eRule), .vsl false (g.levels.map eLevel), mv, lf, sz, yv]
theorem an_p (h : AHeap) (i v e o : Nat) : anil h (.ptr i v e o) = some (.ptr i v e o) := rfl
theorem hap_get0 {α : Type} (h l : List α) : (h ++ l)[h.length]? = l[0]? := by rw [List.getElem?_append_right (Q0 _), Nat.sub_self]
theorem hap_get {α : Type} (h l : List α) (k : Nat) : (h ++ l)[h.length + k]? = l[k]? := by rw [List.getElem?_append_right (by omega), Nat.add_sub_cancel_left]
theorem hap_set0 {α : Type} (h l : List α) (x : α) : (h ++ l).set h.length x = h ++ l.set 0 x := by rw [List.set_append_right _ _ (Q0 _), Nat.sub_self]
theorem hap_set {α : Type} (h l : List α) (k : Nat) (x : α) : (h ++ l).set (h.length + k) x = h ++ l.set k x := by rw [List.set_append_right _ _ (by omega), Nat.add_sub_cancel_left]
theorem amk_n {h : AHeap} {k k' : IntKind} {n : Nat} (hn : n ≤ 1000) (sz bytes : Nat) (z : List AV) (hb : bytes ≤ 1000000) : amk h sz bytes z (.int k n) (.int k' n) = some (.hsl h.length 0 0 n none, h ++ [.arr 0 sz true (List.replicate n z)]) := by
 have h1 : (0 : Int) ≤ n ∧ (n : Int) ≤ n ∧ (n : Int) * (bytes + 1) ≤ 70368744177664 := by
  refine ⟨by omega, by omega, ?_⟩
  have : (n : Int) * (bytes + 1) ≤ 1000 * 1000001 := Int.mul_le_mul (by omega) (by omega) (by omega) (by omega)
  omega
 simp only [amk,if_pos h1,Int.toNat_natCast]
theorem ix_hsl {h : AHeap} {i n : Nat} {sz : Nat} {x : Bool} {rows : List (List AV)} {c : Option Nat} (hi : h[i]? = some (.arr 0 sz x rows)) {k : IntKind} {j : Nat} (hj : j < n) : aindexAddr h sz (.hsl i 0 0 n c) (.int k j) = some (.ptr i 0 j 0) := by
 have : (0 : Int) ≤ j ∧ (j : Int) < n := by omega
 simp [aindexAddr, getArr, hi, hj]
theorem kidsGo_len {X : Type} (f : Int → X → (T × Int) × X) : ∀ (l : List Int) (acc : List T) (x : X), (kidsGo f l acc x).1.2 = 0 → (kidsGo f l acc x).1.1.length = l.length + acc.length
 | [], acc, x, _ => by simp [kidsGo]
 | s :: l, acc, x, h => by
  simp only [kidsGo] at h ⊢
  by_cases q : (f s x).1.2 = 0
  ·rw [if_neg (fun e => e q)] at h ⊢
   rw [kidsGo_len f l _ _ h]; simp; omega
  ·rw [if_pos q] at h; exact absurd h q
def Li (l : List Int) (v : AV) : Prop := (l = [] ∧ v = .nilS) ∨ ∃ e, v = .vsl e (eIs l)
theorem Li.len {l : List Int} {v : AV} (hl : Li l v) (h : AHeap) : alen h .slice v = some (.int .i64 l.length) := by
 rcases hl with ⟨rfl, rfl⟩ | ⟨e, rfl⟩
 ·rfl
 ·simp [alen, Zep]
theorem Li.ix {l : List Int} {v : AV} (hl : Li l v) (h : AHeap) (k : IntKind) (j : Nat) (hj : j < l.length) : aindexAddr h 1 v (.int k j) = some (.vptr (eI l[j]) 0) := by
 rcases hl with ⟨rfl, rfl⟩ | ⟨e, rfl⟩
 ·simp at hj
 ·exact ix_eIs h e l k j hj
theorem Li.fz {l : List Int} {v : AV} (hl : Li l v) (h : AHeap) : freeze h 1000 v = some (v, true) := by
 rcases hl with ⟨rfl, rfl⟩ | ⟨e, rfl⟩ <;> rfl
theorem Li.cell {l : List Int} {v : AV} (hl : Li l v) : cellsOf v = [v] ∧ cellOk v = true := by
 rcases hl with ⟨rfl, rfl⟩ | ⟨e, rfl⟩ <;> exact ⟨rfl, rfl⟩
theorem li_vsl (e : Bool) (l : List Int) : Li l (.vsl e (eIs l)) := .inr ⟨e, rfl⟩
def MInv (g : GramD) (b n : Nat) (p : Nat) (st : MS) (h : AHeap) : Prop :=
 ∃ mv yv, h[b]? = some (.arr 0 9 true [eMk g mv (.int .i64 0) (.int .i64 st.size) yv]) ∧ Li st.mv.reverse mv ∧ Own st.y yv h ∧ (∀ k ∈ st.mv, 1 ≤ k ∧ k < g.rules.length) ∧ (st.y.length : Int) + p ≤ st.size ∧ st.size ≤ 65536 ∧ st.mv.length ≤ n ∧ st.mv.length ≤ 1000000
theorem MInv.app {g : GramD} {b n p : Nat} {st : MS} {h : AHeap} (hI : MInv g b n p st h) (l : AHeap) : MInv g b n p st (h ++ l) := by
 obtain ⟨mv, yv, h1, h2, h3, h4⟩ := hI
 exact ⟨mv, yv, get_app h1 l, h2, h3.app l, h4⟩
theorem MInv.set {g : GramD} {b n p : Nat} {st : MS} {h : AHeap} (hI : MInv g b n p st h) {j : Nat} {c} (hj : h[j]? = some (.arr 0 3 true c)) (c') : MInv g b n p st (h.set j (.arr 0 3 true c')) := by
 obtain ⟨mv, yv, h1, h2, h3, h4⟩ := hI
 exact ⟨mv, yv, get_set_ne h1 (fun e => by subst e; rw [hj] at h1; cases h1), h2, h3.set hj (fun _ _ e => by cases e) _, h4⟩
structure GramR (g : GramD) : Prop where
 ok : g.Ok
 good : Good g
theorem GramR.rule {g : GramD} (hg : GramR g) {k : Nat} {r : RuleD} (hr : g.rules[k]? = some r) : (r.right.length ≤ 1000) ∧ (∀ s ∈ r.right, inI64 s) ∧ (0 ≤ r.left ∧ r.left < 9223372036854775807) := by
 obtain ⟨h1, h2, h3, h4⟩ := hg.good.rule (List.mem_of_getElem? hr)
 have := hg.good.nt
 have := hg.good.tm
 refine ⟨by omega, fun s hs => ?_, by omega⟩
 have h5 := h4 s hs
 simp only [badSym,isSym,Bool.or_eq_false_iff,Bool.not_eq_false',Bool.and_eq_true,decide_eq_true_eq] at h5
 exact ⟨by omega, by omega⟩
end Go.Proofs.Ytkimloceaihplaa.Ai
namespace Go.Proofs.Ytkimloceaihplaa.Ai
open Go Go.Proofs
set_option linter.unusedVariables false
set_option linter.unusedSimpArgs false
set_option maxRecDepth 10000
set_option maxHeartbeats 4000000
theorem MInv.up {g : GramD} {b n p : Nat} {st : MS} {h : AHeap} (hI : MInv g b n p st h) : MInv g b (n + 1) p st h := by
 obtain ⟨mv, yv, h1, h2, h3, h4, h5, h6, h7, h8⟩ := hI
 exact ⟨mv, yv, h1, h2, h3, h4, h5, h6, by omega, h8⟩
end Go.Proofs.Ytkimloceaihplaa.Ai
