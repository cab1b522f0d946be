/- The reference's Of; packed tables compared. -/
import Derived.Test.YtkgndbhflehhhaaqPqv
import Derived.Test.YtkgndbhflehhhaaqPra
namespace Go.Proofs.Ytkgndbhflehhhaa.Ai
open Go Go.Proofs
set_option linter.unusedVariables false
set_option linter.unusedSimpArgs false
set_option maxRecDepth 10000
set_option maxHeartbeats 4000000

theorem fz_of {p : PackD} {cs : List AV} (hp : PackV p cs) (e : Int) (h : AHeap) : freeze h 1000 (.tup [.agg cs, .int .i64 e]) = some (.tup [.agg cs, .int .i64 e], true) := by
  have : freeze h 1000 (.tup [.agg cs, .int .i64 e]) = (mapO (freeze h 999) [.agg cs, .int .i64 e]).map fun l => (.tup (l.map (·.1)), l.all (·.2)) := rfl
  rw [this]
  have i1 : freeze h 999 (.int .i64 e) = some (.int .i64 e, true) := rfl
  simp only [mapO,hp.fz h 997,i1]; rfl
section
variable {t : TabD} {av gv : AV}
theorem r_Of (ha : LiG (LiG LiA) t.acts av) (hg : LiR t.gotos gv) (hn : t.ok → t.acts.length ≤ 1500) :
    (t.ok → ∃ cs, PackV (packD t) cs ∧ ∀ H, lim G0.cfg (.func 20) [.agg [av, gv]] H = some (.tup [.agg cs, .int .i64 0], H)) ∧
    (¬ t.ok → ∀ H, lim G0.cfg (.func 20) [.agg [av, gv]] H = some (.tup [.agg zeroP, .int .i64 34], H)) := by
  obtain ⟨h, hh⟩ : ∃ h : AHeap, h = [] := ⟨_, rfl⟩
  have bx := box_full h (n := 2) (l := [av, gv]) rfl (by simp [cellsOf])
  obtain ⟨A, hA⟩ : ∃ A, A = AObj.arr 0 2 true [[av, gv]] := ⟨_, rfl⟩
  obtain ⟨B, hB⟩ : ∃ B, B = AObj.arr 0 10 true [zeroP] := ⟨_, rfl⟩
  have lT : ∀ B C : AObj, aload (h ++ [A, B]) 2 true (.ptr h.length 0 0 0) = some (.agg [av, gv]) := fun B C => ld_full (by rw [get_2a, hA]) rfl
  have l0 := tab_a (av := av) (gv := gv) [A, B] (by rw [hA]; rfl)
  have l1 := tab_g (av := av) (gv := gv) [A, B] (by rw [hA]; rfl)
  have lT := lT B B
  have zc : cellsOf (.agg zeroP) = zeroP := rfl
  have sZ : astore (h ++ [A, B]) 10 (.ptr (h.length + 1) 0 0 0) (.agg zeroP) = some (h ++ [A, B]) := by
    have s := st_full (h := h ++ [A, B]) (i := h.length + 1) (ver := 0) (n := 10) (b := true) (z := zeroP) (l := zeroP) ((get_2b h A B).trans (by rw [hB])) rfl rfl zc rfl
    rw [hap_set, ← hB] at s
    exact s
  have lZ : aload (h ++ [A, B]) 10 true (.ptr (h.length + 1) 0 0 0) = some (.agg zeroP) := ld_full (b := true) (by rw [get_2b, hB]) rfl
  have fill0 : afill zeroP [] = some (.agg zeroP) := rfl
  have zl : zeroP.length = 10 := rfl
  have zz : [AV.int .i64 0, .int .i64 0, .nilS, .nilS, .nilS, .nilS, .nilS, .nilS, .nilS, .nilS] = zeroP := rfl
  obtain ⟨w1, w2⟩ := (⟨fun H => (r_shape ha hg H).1, fun H => (r_shape ha hg H).2⟩ : (∀ H, t.frame ∧ lenOk t.tm t.nt t.acts t.gotos = true → lim G0.cfg (.func 42) [.agg [av, gv]] H = some (.bool true, H)) ∧ (∀ H, ¬ (t.frame ∧ lenOk t.tm t.nt t.acts t.gotos = true) → lim G0.cfg (.func 42) [.agg [av, gv]] H = some (.bool false, H)))
  have flat := fun (p : PackD) (cs : List AV) (hp : PackV p cs) (e : Int) (N : Nat) (h' : AHeap) (hr : runFn (lim G0.cfg) N A_r32_Of [.agg [av, gv]] [] = some (.tup [.agg cs, .int .i64 e], h')) (H : AHeap) => lim_flat rfl rfl P_r32_Of N (tab_fz ha hg) ⟨h', hr⟩ (fz_of hp e) H
  by_cases c1 : t.frame ∧ lenOk t.tm t.nt t.acts t.gotos = true
  case neg =>
    have e1 := fun H => w2 H c1
    refine ⟨fun k => absurd ⟨k.1, (TabD.ok_len k).1⟩ c1, fun _ => flat packZ zeroP packZ_v 34 1 [A, B] ?_⟩
    subst hh
    simp only [List.nil_append,List.length_nil,Nat.zero_add] at bx lT sZ lZ
    rw [← hA] at bx
    rw [R_r32_Of]
    simp only [Zab,Zac,Zad,Zai,Zaj,Zak,Zam,Zar,Zay,Zaz,Zba,Zbi,Zbk,Zbm,Zbn,Zbo,Zbp,Zbr,Zcm,Zcp,Zcq,Zcs,Zcu,Zcv,Zcw,Zcx,Zcy,Zcz,Zda,List.set_cons_zero,List.set_cons_succ,List.getD_cons_zero,List.getD_cons_succ,Option.map_some,Zdr,Zeb,Bool.not_false,List.length_cons,List.length_nil,if_true,Nat.reduceAdd,Nat.reduceSub,eq_self,List.length_cons,List.length_nil,List.replicate_succ,List.replicate_zero,List.cons_append,List.nil_append,List.length_cons,List.length_nil,Nat.zero_add,List.cons_append,List.nil_append,zz,zl,evp, ← hA, ← hB,lT,e1,fill0,sZ,lZ,resAll,resVals,resVal]
  case pos =>
  have e1 := fun H => w1 H c1
  obtain ⟨fr, lo⟩ := c1
  obtain ⟨f1, f2, f3, f4, f5, f6, f7⟩ := fr
  obtain ⟨lo1, lo2⟩ := allOk_len 0 t.tm t.nt t.acts t.gotos f3.symm lo
  obtain ⟨ka1, ka2⟩ := r_acts ha hg (by omega) (fun r hr => by have := lo1 r hr; omega)
  obtain ⟨kg1, kg2⟩ := r_gotos ha hg (by omega) (fun r hr => by have := lo2 r hr; omega)
  rw [f3] at kg1 kg2
  have ea : rowsA t.acts.length t.acts = t.numA := rfl
  have eg : rowsG t.acts.length t.gotos = t.numG := rfl
  rw [ea] at ka1 ka2
  rw [eg] at kg1 kg2
  by_cases c2 : t.numA.all nonNeg = true
  case neg =>
    have e2 := ka2 (by simpa using c2)
    refine ⟨fun k => absurd (TabD.ok_len k).2.1 c2, fun _ => flat packZ zeroP packZ_v 34 1 [A, B] ?_⟩
    subst hh
    simp only [List.nil_append,List.length_nil,Nat.zero_add] at bx lT sZ lZ
    rw [← hA] at bx
    rw [R_r32_Of]
    simp only [Zaa,Zab,Zac,Zad,Zai,Zaj,Zak,Zam,Zar,Zas,Zay,Zaz,Zba,Zbi,Zbk,Zbm,Zbn,Zbo,Zbp,Zbr,Zcf,Zcm,Zcp,Zcq,Zcs,Zcu,Zcv,Zcw,Zcx,Zcy,Zcz,Zda,List.set_cons_zero,List.set_cons_succ,List.getD_cons_zero,List.getD_cons_succ,Option.map_some,Zdr,Zeb,Zem,Bool.not_true,Bool.not_false,List.getElem?_cons_zero,List.getElem?_cons_succ,List.length_cons,List.length_nil,if_true,Nat.reduceAdd,Nat.reduceSub,eq_self,List.length_cons,List.length_nil,List.replicate_succ,List.replicate_zero,List.cons_append,List.nil_append,List.length_cons,List.length_nil,Nat.zero_add,List.cons_append,List.nil_append,zz,zl,evp, ← hA, ← hB,lT,e1,e2,fill0,sZ,lZ,resAll,resVals,resVal]
  case pos =>
  obtain ⟨x2, h2, e2⟩ := ka1 c2
  by_cases c3 : t.numG.all nonNeg = true
  case neg =>
    have e3 := kg2 (by simpa using c3)
    refine ⟨fun k => absurd (TabD.ok_len k).2.2 c3, fun _ => flat packZ zeroP packZ_v 34 1 [A, B] ?_⟩
    subst hh
    simp only [List.nil_append,List.length_nil,Nat.zero_add] at bx lT sZ lZ
    rw [← hA] at bx
    rw [R_r32_Of]
    simp only [Zaa,Zab,Zac,Zad,Zai,Zaj,Zak,Zam,Zar,Zas,Zay,Zaz,Zba,Zbi,Zbk,Zbm,Zbn,Zbo,Zbp,Zbr,Zcf,Zcm,Zcp,Zcq,Zcs,Zcu,Zcv,Zcw,Zcx,Zcy,Zcz,Zda,List.set_cons_zero,List.set_cons_succ,List.getD_cons_zero,List.getD_cons_succ,Option.map_some,Zdr,Zeb,Zem,Bool.not_true,Bool.not_false,List.getElem?_cons_zero,List.getElem?_cons_succ,List.length_cons,List.length_nil,if_true,Nat.reduceAdd,Nat.reduceSub,eq_self,List.length_cons,List.length_nil,List.replicate_succ,List.replicate_zero,List.cons_append,List.nil_append,List.length_cons,List.length_nil,Nat.zero_add,List.cons_append,List.nil_append,zz,zl,evp, ← hA, ← hB,lT,e1,e2,e3,fill0,sZ,lZ,resAll,resVals,resVal]
  case pos =>
  obtain ⟨x3, h3, e3⟩ := kg1 c3
  have hk : t.ok := TabD.ok_iff ⟨f1, f2, f3, f4, f5, f6, f7⟩ lo c2 c3
  refine ⟨fun _ => ?_, fun k => absurd hk k⟩
  obtain ⟨ca, cg, hca, hcg, d1, d2, b1, b2⟩ := of_partsR hk (hn hk) h2 h3
  have la0 := ha.len
  obtain ⟨ra, hra, xa⟩ := ha.ix 0 (by omega)
  obtain ⟨rg, hrg, xg⟩ := hg.ix 0 (by omega)
  rw [z0] at xa xg
  have nra := hra.len
  have nrg := hrg.len
  rw [← t.tm_0 (by omega)] at nra
  rw [← t.nt_0 (by omega)] at nrg
  obtain ⟨fl, pv⟩ := fill_P hca hcg t.tm t.nt
  obtain ⟨cs, hcs⟩ : ∃ cs, cs = [.int .i64 (t.tm : Int), .int .i64 (t.nt : Int)] ++ ca ++ cg := ⟨_, rfl⟩
  rw [← hcs] at fl pv
  obtain ⟨p1, p2, p3⟩ := pv.cells
  obtain ⟨C, hC⟩ : ∃ C, C = AObj.arr 0 10 true [cs] := ⟨_, rfl⟩
  have sC : astore (h ++ [A, B, B]) 10 (.ptr (h.length + 2) 0 0 0) (.agg cs) = some (h ++ [A, B, C]) := by
    have s := st_full (h := h ++ [A, B, B]) (i := h.length + 2) (ver := 0) (n := 10) (b := true) (z := zeroP) (l := cs) ((get_3c h A B B).trans (by rw [hB])) rfl p3 p1 p2
    rw [hap_set, ← hC] at s
    exact s
  have lC : aload (h ++ [A, B, C]) 10 true (.ptr (h.length + 2) 0 0 0) = some (.agg cs) := ld_full (b := true) (by rw [get_3c, hC]) p3
  have sB : astore (h ++ [A, B, C]) 10 (.ptr (h.length + 1) 0 0 0) (.agg cs) = some (h ++ [A, C, C]) := by
    have s := st_full (h := h ++ [A, B, C]) (i := h.length + 1) (ver := 0) (n := 10) (b := true) (z := zeroP) (l := cs) ((get_3b h A B C).trans (by rw [hB])) rfl p3 p1 p2
    rw [hap_set, ← hC] at s
    exact s
  have lB : aload (h ++ [A, C, C]) 10 true (.ptr (h.length + 1) 0 0 0) = some (.agg cs) := ld_full (b := true) (by rw [get_3b, hC]) p3
  have va : ∃ w, aload (h ++ [A, B, C]) 1 false (.ptr (h.length + 2) 0 0 4) = some w ∧ Li (packD t).a.val w := by
    obtain ⟨a1, a2, a3, a4, rfl, _, _, q3, _⟩ := hca
    refine ⟨a3, ?_, q3⟩
    obtain ⟨b1, b2, b3, b4, rfl, _, _, _, _⟩ := hcg
    rw [ld_p _ 1 _ 0 0 4 false 10 true _ cs (by rw [get_3c, hC]) rfl, hcs]; rfl
  have vg : ∃ w, aload (h ++ [A, B, C]) 1 false (.ptr (h.length + 2) 0 0 8) = some w ∧ Li (packD t).g.val w := by
    obtain ⟨b1, b2, b3, b4, rfl, _, _, q3, _⟩ := hcg
    refine ⟨b3, ?_, q3⟩
    obtain ⟨a1, a2, a3, a4, rfl, _, _, _, _⟩ := hca
    rw [ld_p _ 1 _ 0 0 8 false 10 true _ cs (by rw [get_3c, hC]) rfl, hcs]; rfl
  obtain ⟨wa, la, qa⟩ := va
  obtain ⟨wg, lg, qg⟩ := vg
  have na := qa.len
  have ng := qg.len
  have c1 : ¬ (1048576 : Int) < (packD t).a.val.length := by omega
  have c2 : ¬ (1048576 : Int) < (packD t).g.val.length := by omega
  refine ⟨cs, pv, flat _ cs pv 0 1 [A, C, C] ?_⟩
  subst hh
  simp only [List.nil_append,List.length_nil,Nat.zero_add] at bx lT sZ lZ sC lC sB lB la lg
  rw [← hA] at bx
  rw [R_r32_Of]
  simp only [Zaa,Zab,Zac,Zad,Zai,Zaj,Zak,Zas,Zay,Zaz,Zba,Zbc,Zbh,Zbi,Zbj,Zbk,Zbl,Zbm,Zbn,Zbo,Zbp,Zbq,Zbr,Zby,Zcb,Zcf,Zcg,Zcm,Zcp,Zcq,Zcs,Zcu,Zcv,Zcw,Zcx,Zcy,Zcz,Zda,List.set_cons_zero,List.set_cons_succ,List.getD_cons_zero,List.getD_cons_succ,Option.map_some,Zdj,Zdr,Zdx,Zeb,Zem,decide_false,Bool.not_true,List.getElem?_cons_zero,List.getElem?_cons_succ,List.length_cons,List.length_nil,if_true,Nat.reduceAdd,Nat.reduceSub,eq_self,List.length_cons,List.length_nil,List.replicate_succ,List.replicate_zero,List.cons_append,List.nil_append,List.length_cons,List.length_nil,Nat.zero_add,List.cons_append,List.nil_append,zz,zl,evp, ← hA, ← hB,lT,e1,e2,e3,l0,l1,xa,xg,lv_p,nra,nrg,d1,d2,fl,sC,la,lg,na,ng,c1,c2,lC,sB,lB,resAll,resVals,resVal]
end
theorem r_Same {p : PackD} {cs ds : List AV} (hc : PackV p cs) (hd : PackV p ds) (l1 : p.a.row.length ≤ 1000000000 ∧ p.a.base.length ≤ 1000000000 ∧ p.a.val.length ≤ 1000000000 ∧ p.a.own.length ≤ 1000000000) (l2 : p.g.row.length ≤ 1000000000 ∧ p.g.base.length ≤ 1000000000 ∧ p.g.val.length ≤ 1000000000 ∧ p.g.own.length ≤ 1000000000) (H : AHeap) : lim G0.cfg (.func 21) [.agg cs, .agg ds] H = some (.bool true, H) := by
  refine lim_flat rfl rfl P_r32_Same 1 (fun h => fz_2 (hc.fz h 998) (hd.fz h 998)) ?_ (fun _ => rfl) H
  obtain ⟨p1, p2, p3⟩ := hc.cells
  obtain ⟨q1, q2, q3⟩ := hd.cells
  have bx1 := box_full [] p3 p1
  obtain ⟨A, hA⟩ : ∃ A, A = AObj.arr 0 10 true [cs] := ⟨_, rfl⟩
  rw [← hA] at bx1
  have bx2 := box_full [A] q3 q1
  obtain ⟨B, hB⟩ : ∃ B, B = AObj.arr 0 10 true [ds] := ⟨_, rfl⟩
  rw [← hB] at bx2
  obtain ⟨ca, cg, e1, ha, hg⟩ := hc
  obtain ⟨da, dg, e2, ka, kg⟩ := hd
  have s1 := r_SameComb ha ka l1.1 l1.2.1 l1.2.2.1 l1.2.2.2
  have s2 := r_SameComb hg kg l2.1 l2.2.1 l2.2.2.1 l2.2.2.2
  obtain ⟨a1, a2, a3, a4, rfl, _, _, _, _⟩ := ha
  obtain ⟨b1, b2, b3, b4, rfl, _, _, _, _⟩ := hg
  obtain ⟨x1, x2, x3, x4, rfl, _, _, _, _⟩ := ka
  obtain ⟨y1, y2, y3, y4, rfl, _, _, _, _⟩ := kg
  have g0 : ([A, B] : AHeap)[0]? = some (.arr 0 10 true [cs]) := by rw [hA]; rfl
  have g1 : ([A, B] : AHeap)[1]? = some (.arr 0 10 true [ds]) := by rw [hB]; rfl
  have t1 : aload [A, B] 1 false (.ptr 0 0 0 0) = some (.int .i64 p.tms) := by rw [ld_p _ 1 0 0 0 0 false 10 true _ cs g0 rfl, e1]; rfl
  have t2 : aload [A, B] 1 false (.ptr 0 0 0 1) = some (.int .i64 p.nts) := by rw [ld_p _ 1 0 0 0 1 false 10 true _ cs g0 rfl, e1]; rfl
  have t3 : aload [A, B] 4 true (.ptr 0 0 0 2) = some (.agg [a1, a2, a3, a4]) := by rw [ld_p _ 4 0 0 0 2 true 10 true _ cs g0 rfl, e1]; rfl
  have t4 : aload [A, B] 4 true (.ptr 0 0 0 6) = some (.agg [b1, b2, b3, b4]) := by rw [ld_p _ 4 0 0 0 6 true 10 true _ cs g0 rfl, e1]; rfl
  have u1 : aload [A, B] 1 false (.ptr 1 0 0 0) = some (.int .i64 p.tms) := by rw [ld_p _ 1 1 0 0 0 false 10 true _ ds g1 rfl, e2]; rfl
  have u2 : aload [A, B] 1 false (.ptr 1 0 0 1) = some (.int .i64 p.nts) := by rw [ld_p _ 1 1 0 0 1 false 10 true _ ds g1 rfl, e2]; rfl
  have u3 : aload [A, B] 4 true (.ptr 1 0 0 2) = some (.agg [x1, x2, x3, x4]) := by rw [ld_p _ 4 1 0 0 2 true 10 true _ ds g1 rfl, e2]; rfl
  have u4 : aload [A, B] 4 true (.ptr 1 0 0 6) = some (.agg [y1, y2, y3, y4]) := by rw [ld_p _ 4 1 0 0 6 true 10 true _ ds g1 rfl, e2]; rfl
  have d1 : decide (p.tms = p.tms) = true := decide_eq_true rfl
  have d2 : decide (p.nts = p.nts) = true := decide_eq_true rfl
  rw [R_r32_Same]
  simp only [Zab,Zac,Zai,Zaj,Zak,Zay,Zaz,Zbb,Zbg,Zbi,Zbj,Zbk,Zbl,Zbn,Zbo,Zbq,Zby,Zcp,Zcq,Zcs,Zcu,Zcv,Zcw,Zcx,Zcz,Zda,List.set_cons_zero,List.set_cons_succ,List.getD_cons_zero,List.getD_cons_succ,Option.map_some,Zdl,Zdx,decide_true,List.length_cons,List.length_nil,if_true,Nat.reduceAdd,Nat.reduceSub,eq_self,true_and,List.length_cons,List.length_nil,List.replicate_succ,List.replicate_zero,List.cons_append,List.nil_append,List.length_cons,List.length_nil,Nat.zero_add,List.cons_append,List.nil_append,p1,q1,p3,q3,eq_self,if_true, ← hA, ← hB,t1,t2,t3,t4,u1,u2,u3,u4,s1,s2,resAll,resVals,resVal,Option.some.injEq,Prod.mk.injEq,true_and,exists_eq']
end Go.Proofs.Ytkgndbhflehhhaa.Ai
namespace Go.Proofs.Ytkgndbhflehhhaa.Ai
open Go Go.Proofs
set_option linter.unusedVariables false
set_option linter.unusedSimpArgs false
set_option maxRecDepth 10000
set_option maxHeartbeats 4000000

def PackD.n (p : PackD) : Nat := p.a.row.length
end Go.Proofs.Ytkgndbhflehhhaa.Ai
namespace Go.Proofs.Ytkgndbhflehhhaa.Ai
open Go Go.Proofs
set_option linter.unusedVariables false
set_option linter.unusedSimpArgs false
set_option maxRecDepth 10000
set_option maxHeartbeats 4000000

section
variable {p : PackD} {cs : List AV}
end
end Go.Proofs.Ytkgndbhflehhhaa.Ai
namespace Go.Proofs.Ytkgndbhflehhhaa.Ai
open Go Go.Proofs
set_option linter.unusedVariables false
set_option linter.unusedSimpArgs false
set_option maxRecDepth 10000
set_option maxHeartbeats 4000000

section
variable {p : PackD} {cs : List AV}
end

section
variable {t : TabD} {av gv av' gv' : AV}
end
end Go.Proofs.Ytkgndbhflehhhaa.Ai
