/- Grammars: the program's check of a grammar as a whole. -/
import Derived.Test.YtkimloceaihplaapGr3
namespace Go.Proofs.Ytkimloceaihplaa.Ai
open Go Go.Proofs
set_option linter.unusedVariables false
set_option linter.unusedSimpArgs false
set_option maxRecDepth 10000

theorem f_right_loop1 (g : GramD) (hg : g.Ok) (n : Nat) (hn : ∀ l ∈ g.levels, l.terms.length < n) (i1 : Nat) (hi1 : i1 ≠ 0) : ∀ (d i m : Nat) (L : List (Int × Int)) (seen : List Int) (h : AHeap), g.levels.length = i + d → d < m → SameKeys L seen →
    h[0]? = some (.arr 0 5 true [eGram g]) → h[i1]? = some (.map (mE (AV.int .i64) (AV.int .i64) L)) →
    ∃ h', loopN (evalCode (lim G0.cfg) n B_grammar_Right_1) m ⟨(.junk :: .ptr 0 0 0 0 :: .junk::.junk::.junk::.junk::.junk :: .map i1 :: .junk::.junk::.junk::.junk::.junk::.junk::.junk::.junk::.junk::.junk::.junk::.junk::.junk::.junk::.junk::.junk::.junk::.junk::.junk::.junk::.junk::.junk::.junk::.junk::.junk::.junk::.junk::.junk::.junk::.junk::.junk::.junk::.junk::.junk::.junk::.junk::.junk::.junk::.junk::.junk :: .vsl false (g.levels.map eLevel) :: .int .i64 g.levels.length :: .int .i64 i :: .junk::.junk::.junk::.junk::.junk::.junk::.junk::.junk::.junk::.junk::.junk::.junk::.junk::.junk::.junk::.junk::.junk::.junk::.junk::.junk::.junk::.junk::.junk::.junk::.junk::.junk::.junk::.junk::.junk::.junk::.junk::.junk::.junk::.junk::.junk :: []), h⟩ =
        bif levelsGo g.terms.length (g.levels.drop i) seen then some (.exit 3, ⟨(.junk::.junk::.junk::.junk::.junk::.junk::.junk::.junk::.junk::.junk::.junk::.junk::.junk::.junk::.junk::.junk::.junk::.junk::.junk::.junk::.junk::.junk::.junk::.junk::.junk::.junk::.junk::.junk::.junk::.junk::.junk::.junk::.junk::.junk::.junk::.junk::.junk::.junk::.junk::.junk::.junk::.junk::.junk::.junk::.junk::.junk::.junk::.junk::.junk::.junk::.junk::.junk::.junk::.junk::.junk::.junk::.junk::.junk::.junk::.junk::.junk::.junk::.junk::.junk::.junk::.junk::.junk::.junk::.junk::.junk::.junk::.junk::.junk::.junk::.junk::.junk::.junk::.junk::.junk::.junk::.junk::.junk::.junk::.junk::.junk::.junk :: []), h'⟩) else some (.ret, ⟨(.junk::.junk :: .int .i64 24 :: .junk::.junk::.junk::.junk::.junk::.junk::.junk::.junk::.junk::.junk::.junk::.junk::.junk::.junk::.junk::.junk::.junk::.junk::.junk::.junk::.junk::.junk::.junk::.junk::.junk::.junk::.junk::.junk::.junk::.junk::.junk::.junk::.junk::.junk::.junk::.junk::.junk::.junk::.junk::.junk::.junk::.junk::.junk::.junk::.junk::.junk::.junk::.junk::.junk::.junk::.junk::.junk::.junk::.junk::.junk::.junk::.junk::.junk::.junk::.junk::.junk::.junk::.junk::.junk::.junk::.junk::.junk::.junk::.junk::.junk::.junk::.junk::.junk::.junk::.junk::.junk::.junk::.junk::.junk::.junk::.junk::.junk::.junk :: []), h'⟩) := by
  have hm := hg.levels
  rw [maxLen_eq] at hm
  intro d
  induction d with
  | zero =>
    intro i m L seen h h1 h2 hs hb hl
    obtain ⟨m, rfl⟩ : ∃ q, m = q + 1 := ⟨m - 1, by omega⟩
    have e1 : g.levels.drop i = [] := List.drop_eq_nil_iff.2 (by omega)
    have h3 : ¬ ((i : Int) < g.levels.length) := by omega
    exact ⟨h, by simp only [loop_e,EB_grammar_Right_1,Zab,Zac,Zad,Zag,Zah,Zaj,Zak,Zal,Zas,Zav,Zay,Zbi,Zbq,Zcu,Zcw,Zdb,Zdc,List.set_cons_zero,List.set_cons_succ,List.getD_cons_zero,List.getD_cons_succ,Zdg,decide_false,eq_self,cond_true,h3,e1,levelsGo]⟩
  | succ d ih =>
    intro i m L seen h h1 h2 hs hb hl
    obtain ⟨m, rfl⟩ : ∃ q, m = q + 1 := ⟨m - 1, by omega⟩
    have h3 : i < g.levels.length := by omega
    have h3' : (i : Int) < g.levels.length := by omega
    have e1 : g.levels.drop i = g.levels[i] :: g.levels.drop (i + 1) := List.drop_eq_getElem_cons h3
    have hw := w64s (n := i) (by omega)
    have hmem : g.levels[i] ∈ g.levels := List.getElem_mem h3
    have hb2 := get_app hb [.arr 0 2 true [eLevel g.levels[i]]]
    have hl2 := get_app hl [.arr 0 2 true [eLevel g.levels[i]]]
    rw [e1]
    simp only [levelsGo]
    by_cases q1 : (g.levels[i]).assoc < 1
    case pos =>
      rw [if_pos (.inl q1)]
      exact ⟨h ++ [.arr 0 2 true [eLevel g.levels[i]]], by simp only [loop_e,EB_grammar_Right_1,Zaa,Zab,Zac,Zad,Zae,Zag,Zai,Zaj,Zak,Zam,Zao,Zar,Zaw,Zay,Zba,Zbd,Zbg,Zbi,Zbj,Zbk,Zbl,Zbm,Zbo,Zbp,Zbq,Zby,Zcb,Zcu,Zcv,Zcw,Zcx,Zda,Zdb,Zdc,List.set_cons_zero,List.set_cons_succ,List.getD_cons_zero,List.getD_cons_succ,Option.bind_some,Zdg,Zdw,Zdy,Zdz,Zea,decide_true,List.getElem?_cons_zero,List.length_cons,List.length_nil,if_true,Nat.reduceAdd,Nat.reduceLeDiff,eq_self,and_self,cond_false,aload,acells,getArr,part,astore,putCells,get_new,set_new,List.all_cons,List.all_nil,cellOk,Bool.and_self,List.drop_zero,List.drop_succ_cons,List.take_succ_cons,List.take_zero,List.take_nil,List.cons_append,List.nil_append,List.set_cons_zero,h3',ix_map eLevel _ 2 _ g.levels _ i h3 rfl,q1]⟩
    case neg =>
    by_cases q2 : 4 < (g.levels[i]).assoc
    case pos =>
      rw [if_pos (.inr q2)]
      exact ⟨h ++ [.arr 0 2 true [eLevel g.levels[i]]], by simp only [loop_e,EB_grammar_Right_1,Zaa,Zab,Zac,Zad,Zae,Zag,Zai,Zaj,Zak,Zam,Zao,Zar,Zaw,Zay,Zba,Zbc,Zbh,Zbi,Zbj,Zbk,Zbl,Zbm,Zbo,Zbp,Zbq,Zby,Zcb,Zcu,Zcv,Zcw,Zcx,Zda,Zdb,Zdc,List.set_cons_zero,List.set_cons_succ,List.getD_cons_zero,List.getD_cons_succ,Option.bind_some,Zdg,Zdi,Zdw,Zdy,Zdz,Zea,decide_true,decide_false,List.getElem?_cons_zero,List.length_cons,List.length_nil,if_true,Nat.reduceAdd,Nat.reduceLeDiff,eq_self,and_self,cond_false,aload,acells,getArr,part,astore,putCells,get_new,set_new,List.all_cons,List.all_nil,cellOk,Bool.and_self,List.drop_zero,List.drop_succ_cons,List.take_succ_cons,List.take_zero,List.take_nil,List.cons_append,List.nil_append,List.set_cons_zero,h3',ix_map eLevel _ 2 _ g.levels _ i h3 rfl,q1,q2]⟩
    case neg =>
    rw [if_neg (by omega)]
    have inner := f_right_loop2 g hg n (g.levels[i]).terms (hg.level _ hmem) (.vsl false (g.levels.map eLevel)) (.int .i64 g.levels.length) (.int .i64 i) i1 hi1 (g.levels[i]).terms.length 0 n L seen _ (by omega) (hn _ hmem) hs hb2 hl2
    rw [List.drop_zero, z0] at inner
    cases hq : termsGo g.terms.length (g.levels[i]).terms seen with
    | none =>
      rw [hq] at inner
      obtain ⟨h', e⟩ := inner
      refine ⟨h', ?_⟩
      simp only [loop_e,EB_grammar_Right_1,Zaa,Zab,Zac,Zad,Zae,Zaf,Zag,Zaj,Zak,Zam,Zao,Zar,Zas,Zat,Zaw,Zay,Zba,Zbc,Zbh,Zbi,Zbj,Zbk,Zbl,Zbm,Zbo,Zbp,Zbq,Zby,Zcb,Zcg,Zcu,Zcv,Zcw,Zcx,Zda,Zdb,Zdc,List.set_cons_zero,List.set_cons_succ,List.getD_cons_zero,List.getD_cons_succ,Option.bind_some,Zdg,Zdi,Zds,Zdw,Zdy,Zdz,Zea,Zeo,decide_true,decide_false,List.getElem?_cons_zero,List.length_cons,List.length_nil,if_true,Nat.reduceAdd,Nat.reduceLeDiff,eq_self,and_self,cond_false,aload,acells,getArr,part,astore,putCells,get_new,set_new,List.all_cons,List.all_nil,cellOk,Bool.and_self,List.drop_zero,List.drop_succ_cons,List.take_succ_cons,List.take_zero,List.take_nil,List.cons_append,List.nil_append,List.set_cons_zero,h3',ix_map eLevel _ 2 _ g.levels _ i h3 rfl,q1,q2,e]
    | some s' =>
      rw [hq] at inner
      obtain ⟨L', h', hs', hb', hl', e⟩ := inner
      obtain ⟨h'', e'⟩ := ih (i + 1) m L' s' h' (by omega) (by omega) hs' hb' hl'
      refine ⟨h'', ?_⟩
      simp only [loop_e,EB_grammar_Right_1,Zaa,Zab,Zac,Zad,Zae,Zaf,Zag,Zaj,Zak,Zan,Zap,Zar,Zas,Zat,Zau,Zay,Zba,Zbc,Zbh,Zbi,Zbj,Zbk,Zbl,Zbm,Zbo,Zbp,Zbq,Zby,Zcb,Zcg,Zcu,Zcv,Zcw,Zcx,Zda,Zdb,Zdc,List.set_cons_zero,List.set_cons_succ,List.getD_cons_zero,List.getD_cons_succ,Option.bind_some,Zdd,Zdg,Zdi,Zds,Zdw,Zdy,Zdz,Zea,Zeo,decide_true,decide_false,List.getElem?_cons_zero,List.length_cons,List.length_nil,if_true,Nat.reduceAdd,Nat.reduceLeDiff,eq_self,and_self,aload,acells,getArr,part,astore,putCells,get_new,set_new,List.all_cons,List.all_nil,cellOk,Bool.and_self,List.drop_zero,List.drop_succ_cons,List.take_succ_cons,List.take_zero,List.take_nil,List.cons_append,List.nil_append,List.set_cons_zero,h3',ix_map eLevel _ 2 _ g.levels _ i h3 rfl,q1,q2,e,hw,e']

def sizeT : List LevelD → Nat
  | [] => 0
  | l :: r => l.terms.length + sizeT r
theorem sizeT_le : ∀ (l : List LevelD) (x : LevelD), x ∈ l → x.terms.length ≤ sizeT l
  | a :: r, x, h => by
    rcases List.mem_cons.1 h with rfl | h
    · simp [sizeT]
    · have := sizeT_le r x h; simp [sizeT]; omega

/-- **The program's check of a grammar.** -/
theorem f_Right (g : GramD) (hg : g.Ok) (H : AHeap) : lim G0.cfg (.func 33) [.agg (eGram g)] H = some (.int .i64 (gramErr g), H) := by
  refine lim_flat rfl rfl P_grammar_Right (g.rules.length + g.levels.length + sizeT g.levels + 1) (fun h => fz_1 (fz_gram g h)) ?_ (fun _ => rfl) H
  obtain ⟨N, hN⟩ : ∃ N, N = g.rules.length + g.levels.length + sizeT g.levels + 1 := ⟨_, rfl⟩
  rw [← hN]
  have c1 := f_counts g hg
  have c2 := f_twice g.terms hg.terms
  have c3 := f_twice g.nonterms hg.nonterms
  rw [R_grammar_Right]
  unfold gramErr
  cases q1 : countsOk g
  case false =>
    rw [q1] at c1
    simp only [Zab,Zac,Zad,Zae,Zai,Zaj,Zak,Zam,Zao,Zar,Zay,Zaz,Zbi,Zbk,Zbn,Zbo,Zbr,Zco,Zcp,Zcr,Zct,Zcu,Zcv,Zcw,Zcy,Zcz,List.set_cons_zero,List.set_cons_succ,List.getD_cons_zero,List.getD_cons_succ,Option.bind_some,Option.map_some,Zdq,Zdz,Zea,Bool.not_false,List.getElem?_cons_zero,List.length_cons,List.length_nil,if_true,Nat.reduceAdd,Nat.reduceSub,Nat.reduceLeDiff,eq_self,true_and,List.length_cons,List.length_nil,List.replicate_succ,List.replicate_zero,List.cons_append,List.nil_append,aload,acells,getArr,part,List.drop_zero,List.take_succ_cons,List.take_nil,List.cons_append,List.nil_append,List.set_cons_zero,c1,resAll,resVals,resVal,Option.some.injEq,Prod.mk.injEq,true_and,exists_eq']
  case true =>
  rw [q1] at c1
  cases q2 : twiceB g.terms
  case true =>
    rw [q2] at c2
    simp only [Zab,Zac,Zad,Zae,Zai,Zaj,Zak,Zam,Zao,Zar,Zas,Zay,Zaz,Zbd,Zbg,Zbi,Zbj,Zbk,Zbl,Zbn,Zbo,Zbr,Zby,Zco,Zcp,Zcr,Zct,Zcu,Zcv,Zcw,Zcy,Zcz,List.set_cons_zero,List.set_cons_succ,List.getD_cons_zero,List.getD_cons_succ,Option.bind_some,Option.map_some,Zdq,Zdw,Zdy,Zdz,Zea,Bool.not_true,List.getElem?_cons_zero,List.length_cons,List.length_nil,if_true,if_false,Nat.reduceAdd,Nat.reduceSub,Nat.reduceLeDiff,eq_self,true_and,List.length_cons,List.length_nil,List.replicate_succ,List.replicate_zero,List.cons_append,List.nil_append,aload,acells,getArr,part,List.drop_zero,List.take_succ_cons,List.take_zero,List.take_nil,List.cons_append,List.nil_append,List.set_cons_zero,c1,c2,resAll,resVals,resVal,Option.some.injEq,Prod.mk.injEq,true_and,exists_eq',Bool.true_eq_false,true_or]
  case false =>
  rw [q2] at c2
  cases q3 : twiceB g.nonterms
  case true =>
    rw [q3] at c3
    simp only [Zab,Zac,Zad,Zae,Zai,Zaj,Zak,Zam,Zao,Zar,Zas,Zay,Zaz,Zbc,Zbh,Zbi,Zbj,Zbk,Zbl,Zbn,Zbo,Zbr,Zby,Zco,Zcp,Zcr,Zct,Zcu,Zcv,Zcw,Zcy,Zcz,List.set_cons_zero,List.set_cons_succ,List.getD_cons_zero,List.getD_cons_succ,Option.bind_some,Option.map_some,Zdq,Zdw,Zdy,Zdz,Zea,Bool.not_true,List.getElem?_cons_zero,List.length_cons,List.length_nil,if_true,if_false,Nat.reduceAdd,Nat.reduceSub,Nat.reduceLeDiff,eq_self,true_and,List.length_cons,List.length_nil,List.replicate_succ,List.replicate_zero,List.cons_append,List.nil_append,aload,acells,getArr,part,List.drop_zero,List.drop_succ_cons,List.take_succ_cons,List.take_zero,List.take_nil,List.cons_append,List.nil_append,List.set_cons_zero,c1,c2,c3,resAll,resVals,resVal,Option.some.injEq,Prod.mk.injEq,true_and,exists_eq',Bool.true_eq_false,or_true]
  case false =>
  rw [q3] at c3
  have hne : g.rules ≠ [] := by
    intro e
    simp [countsOk, e] at q1
  have c4 := f_start g hg hne
  cases q4 : startOk g
  case false =>
    rw [q4] at c4
    simp only [Zab,Zac,Zad,Zae,Zai,Zaj,Zak,Zam,Zao,Zar,Zas,Zay,Zaz,Zbc,Zbh,Zbi,Zbj,Zbk,Zbl,Zbn,Zbo,Zbr,Zby,Zco,Zcp,Zcr,Zct,Zcu,Zcv,Zcw,Zcy,Zcz,List.set_cons_zero,List.set_cons_succ,List.getD_cons_zero,List.getD_cons_succ,Option.bind_some,Option.map_some,Zdq,Zdw,Zdy,Zdz,Zea,Bool.not_true,Bool.not_false,List.getElem?_cons_zero,List.length_cons,List.length_nil,if_true,if_false,Nat.reduceAdd,Nat.reduceSub,Nat.reduceLeDiff,eq_self,true_and,List.length_cons,List.length_nil,List.replicate_succ,List.replicate_zero,List.cons_append,List.nil_append,aload,acells,getArr,part,List.drop_zero,List.drop_succ_cons,List.take_succ_cons,List.take_zero,List.take_nil,List.cons_append,List.nil_append,List.set_cons_zero,c1,c2,c3,c4,resAll,resVals,resVal,Option.some.injEq,Prod.mk.injEq,true_and,exists_eq',Bool.true_eq_false,Bool.false_eq_true,or_self]
  case true =>
  rw [q4] at c4
  obtain ⟨h', hb', e⟩ := f_right_loop0 g hg N g.rules.length 0 N 0 [.arr 0 5 true [eGram g]] (by omega) (by omega) rfl
  rw [List.drop_zero, z0] at e
  by_cases q5 : rulesErr g g.rules 0 = 0
  case neg =>
    rw [if_neg q5] at e
    simp only [Zaa,Zab,Zac,Zad,Zae,Zaf,Zag,Zaj,Zak,Zam,Zan,Zao,Zas,Zat,Zay,Zaz,Zbc,Zbh,Zbi,Zbj,Zbk,Zbl,Zbn,Zbo,Zbr,Zby,Zcg,Zco,Zcp,Zcr,Zct,Zcu,Zcv,Zcw,Zcy,Zcz,Zda,Zdb,Zdc,List.set_cons_zero,List.set_cons_succ,List.getD_cons_zero,List.getD_cons_succ,Option.bind_some,Option.map_some,Zdq,Zds,Zdw,Zdy,Zdz,Zea,Bool.not_true,List.getElem?_cons_zero,List.length_cons,List.length_nil,if_true,if_false,Nat.reduceAdd,Nat.reduceSub,Nat.reduceLeDiff,eq_self,true_and,not_false_eq_true,List.length_map,List.length_cons,List.length_nil,List.replicate_succ,List.replicate_zero,List.cons_append,List.nil_append,aload,acells,getArr,part,List.drop_zero,List.drop_succ_cons,List.take_succ_cons,List.take_zero,List.take_nil,List.cons_append,List.nil_append,List.set_cons_zero,List.length_map,c1,c2,c3,c4,e,q5,ne_eq,not_false_eq_true,resAll,resVals,resVal,Option.some.injEq,Prod.mk.injEq,true_and,exists_eq',Bool.true_eq_false,Bool.false_eq_true,or_self]
  case pos =>
  rw [if_pos q5] at e
  have hlen : h'.length ≠ 0 := by
    have := (List.getElem?_eq_some_iff.1 hb').1; omega
  have hb2 := get_app hb' [.map []]
  obtain ⟨h'', e2⟩ := f_right_loop1 g hg N (fun l hl => by have := sizeT_le g.levels l hl; omega) h'.length hlen g.levels.length 0 N [] [] (h' ++ [.map []]) (by omega) (by omega) (fun t => rfl) hb2 (get_new h' _)
  rw [List.drop_zero, z0] at e2
  cases q6 : levelsGo g.terms.length g.levels []
  case false =>
    rw [q6] at e2
    simp only [cond_false] at e2
    simp only [Zaa,Zab,Zac,Zad,Zae,Zaf,Zag,Zaj,Zak,Zam,Zan,Zao,Zap,Zas,Zat,Zay,Zaz,Zbc,Zbh,Zbi,Zbj,Zbk,Zbl,Zbn,Zbo,Zbr,Zbu,Zby,Zcg,Zco,Zcp,Zcr,Zct,Zcu,Zcv,Zcw,Zcy,Zcz,Zda,Zdb,Zdc,List.set_cons_zero,List.set_cons_succ,List.getD_cons_zero,List.getD_cons_succ,Option.bind_some,Option.map_some,Zdq,Zds,Zdw,Zdy,Zdz,Zea,Bool.not_true,List.getElem?_cons_zero,List.length_cons,List.length_nil,if_true,if_false,Nat.reduceAdd,Nat.reduceSub,Nat.reduceLeDiff,eq_self,true_and,not_true_eq_false,List.length_map,List.length_cons,List.length_nil,List.replicate_succ,List.replicate_zero,List.cons_append,List.nil_append,aload,acells,getArr,part,List.drop_zero,List.drop_succ_cons,List.take_succ_cons,List.take_zero,List.take_nil,List.cons_append,List.nil_append,List.set_cons_zero,List.length_map,c1,c2,c3,c4,e,q5,hb2,e2,ne_eq,resAll,resVals,resVal,Option.some.injEq,Prod.mk.injEq,true_and,exists_eq',Bool.true_eq_false,Bool.false_eq_true,or_self]
  case true =>
    rw [q6] at e2
    simp only [cond_true] at e2
    simp only [Zaa,Zab,Zac,Zad,Zae,Zaf,Zag,Zai,Zaj,Zak,Zan,Zap,Zas,Zat,Zay,Zaz,Zbc,Zbh,Zbi,Zbj,Zbk,Zbl,Zbn,Zbo,Zbr,Zbu,Zby,Zcg,Zco,Zcp,Zcr,Zct,Zcu,Zcv,Zcw,Zcy,Zcz,Zda,Zdb,Zdc,List.set_cons_zero,List.set_cons_succ,List.getD_cons_zero,List.getD_cons_succ,Option.bind_some,Option.map_some,Zdq,Zds,Zdw,Zdy,Zdz,Zea,Bool.not_true,List.getElem?_cons_zero,List.length_cons,List.length_nil,if_true,if_false,Nat.reduceAdd,Nat.reduceSub,Nat.reduceLeDiff,eq_self,true_and,not_true_eq_false,List.length_map,List.length_cons,List.length_nil,List.replicate_succ,List.replicate_zero,List.cons_append,List.nil_append,aload,acells,getArr,part,List.drop_zero,List.drop_succ_cons,List.take_succ_cons,List.take_zero,List.take_nil,List.cons_append,List.nil_append,List.set_cons_zero,List.length_map,c1,c2,c3,c4,e,q5,hb2,e2,ne_eq,resAll,resVals,resVal,Option.some.injEq,Prod.mk.injEq,true_and,exists_eq',Bool.true_eq_false,Bool.false_eq_true,or_self]
end Go.Proofs.Ytkimloceaihplaa.Ai
