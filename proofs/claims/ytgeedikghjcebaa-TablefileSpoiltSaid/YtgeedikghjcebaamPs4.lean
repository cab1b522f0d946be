/- slices.SortStableFunc over numbers: symMerge. -/
import Derived.Test.YtgeedikghjcebaamXD
namespace Go.Proofs.Ytgeedikghjcebaa.Ai
open Go Go.Proofs
open AV renaming junk → J
open List renaming length_cons → Q0, length_nil → Q1, getD_cons_zero → Q2, getD_cons_succ → Q3, replicate_succ → Q4, replicate_zero → Q5, set_cons_zero → Q6, set_cons_succ → Q7, cons_append → Q9, nil_append → Z1, append_nil → Z2
open Option.some renaming injEq → Q8
open Option renaming map_some → Z0
set_option linter.unusedVariables false
set_option linter.unusedSimpArgs false
set_option maxRecDepth 10000
set_option maxHeartbeats 4000000
section
variable (a m b mid nn st0 r0 s e:Nat) (sl cf:AV) (h h1 h2 h3:aA0) (N:Nat) (hb:b≤1000000000) (ham:a < m) (hmb:m < b) (c1:m - a≠1) (c2:b - m≠1) (hmid:mid=(a+b) / 2) (hnn:nn=mid+m)
 (hst:(mid < m∧st0=nn - b∧r0=mid∧b≤nn)∨(¬ mid < m∧st0=a∧r0=m))
 (loop:aAw (aA9 (lim G0.cfg) N aB0) N ⟨(sl::.int .i64 a::.int .i64 m::.int .i64 b::cf::J::J::J::J::J::J::J::J::J::J::J::J::J::.int .i64 mid::.int .i64 nn::.int .i64 st0::.int .i64 r0::.int .i64 ((nn - 1:Nat):Int)::J::J::J::J::J::J::J::J::J::J::J::J::J::J::J::J::J::J::J::J::J::J::J::J::J::J::J::J::J::J::J::J::J::J::J::J::J::J::J::J::J::J::J::J::J::J::J::J::J::J::J::J::J::J::J::J::J::J::J::J::J::J::J::J::J::J::J::J::J::J::J::J::J::J::J::J::J::J::J::J::J::J::J::J::J::J::J::J::J::J::J::J::J::J::J::J::J::J::J::J::J::J::J::J::J::J::J::J::J::J::J::J::J::J::J::J::J::J::J::J::J::J::J::J::J::J::J::J::J::J::J::J::J::J::J::J::J::J::J::J::J::J::J::J::J::J::J::J::J::J::J::J::J::J::J::J::J::J::J::J::J::J::J::J::J::J::J::J::J::J::J::J::J::J::J::J::J::J::J::J::J::J::J::J::J::J::J::J::J::J::J::J::J::J::J::J::J::[]),h⟩=some (.exit 8,⟨(sl::.int .i64 a::.int .i64 m::.int .i64 b::cf::J::J::J::J::J::J::J::J::J::J::J::J::J::.int .i64 mid::.int .i64 nn::.int .i64 s::J::J::J::J::J::J::J::J::J::J::J::J::J::J::J::J::J::J::J::J::J::J::J::J::J::J::J::J::J::J::J::J::J::J::J::J::J::J::J::J::J::J::J::J::J::J::J::J::J::J::J::J::J::J::J::J::J::J::J::J::J::J::J::J::J::J::J::J::J::J::J::J::J::J::J::J::J::J::J::J::J::J::J::J::J::J::J::J::J::J::J::J::J::J::J::J::J::J::J::J::J::J::J::J::J::J::J::J::J::J::J::J::J::J::J::J::J::J::J::J::J::J::J::J::J::J::J::J::J::J::J::J::J::J::J::J::J::J::J::J::J::J::J::J::J::J::J::J::J::J::J::J::J::J::J::J::J::J::J::J::J::J::J::J::J::J::J::J::J::J::J::J::J::J::J::J::J::J::J::J::J::J::J::J::J::J::J::J::J::J::J::J::J::J::J::J::J::J::J::[]),h⟩))
 (he:e=nn - s) (hse:s≤nn) (q1:s < mid↔m < e) (q2:mid < e↔s < m)
 (rot:s < m→m < e→lim G0.cfg (.func 76) [sl,.int .i64 s,.int .i64 m,.int .i64 e,cf] h=some (AV.un,h1)) (rot0:¬ (s < m∧m < e)→h1=h)
 (mg1:a < s→m < e→lim G0.cfg (.func 75) [sl,.int .i64 a,.int .i64 s,.int .i64 mid,cf] h1=some (AV.un,h2)) (mg10:¬ (a < s∧m < e)→h2=h1)
 (mg2:s < m→e < b→lim G0.cfg (.func 75) [sl,.int .i64 mid,.int .i64 e,.int .i64 b,cf] h2=some (AV.un,h3)) (mg20:¬ (s < m∧e < b)→h3=h2)
include hb ham hmb c1 c2 hmid hnn he hse q1 q2
theorem aEC:IntKind.i64.wrap ((m:Int) - a)=((m - a:Nat):Int)∧IntKind.i64.wrap ((b:Int) - m)=((b - m:Nat):Int)∧decide (((m - a:Nat):Int)=1)=false∧decide (((b - m:Nat):Int)=1)=false∧IntKind.i64.wrap ((a:Int)+b)=((a+b:Nat):Int)∧IntKind.i64.wrap ((mid:Int)+m)=(nn:Int)∧IntKind.i64.wrap ((nn:Int) - 1)=((nn - 1:Nat):Int)∧IntKind.i64.wrap ((nn:Int) - s)=(e:Int) ∧
  (((s:Int) < m)↔s < m)∧(((m:Int) < e)↔m < e)∧(((a:Int) < s)↔a < s)∧(((s:Int) < mid)↔m < e)∧(((mid:Int) < e)↔s < m)∧(((e:Int) < b)↔e < b)∧(((mid:Int) < m)↔mid < m)∧(b≤nn→IntKind.i64.wrap ((nn:Int) - b)=((nn - b:Nat):Int)):=by
 refine ⟨?_,?_,?_,?_,?_,?_,?_,?_,?_,?_,?_,?_,?_,?_,?_,?_⟩
 ·rw [w64 (by omega) (by omega)];omega
 ·rw [w64 (by omega) (by omega)];omega
 ·exact decide_eq_false (by omega)
 ·exact decide_eq_false (by omega)
 ·rw [w64 (by omega) (by omega)];omega
 ·rw [w64 (by omega) (by omega)];omega
 ·rw [w64 (by omega) (by omega)];omega
 ·rw [w64 (by omega) (by omega)];omega
 ·omega
 ·omega
 ·omega
 ·omega
 ·omega
 ·omega
 ·omega
 ·intro k;rw [w64 (by omega) (by omega)];omega
include loop hst rot rot0 mg1 mg10 mg2 mg20
theorem aPS (k1:mid < m) (p1:s < m) (p2:m < e):aB8 (lim G0.cfg) N aAA [sl,.int .i64 a,.int .i64 m,.int .i64 b,cf] h=some (AV.un,h3):=by
 obtain ⟨w1,w2,d1,d2,w3,w4,w5,w6,cc1,cc2,cc3,cc4,cc5,cc6,kk,w7⟩:=aEC a m b mid nn s e hb ham hmb c1 c2 hmid hnn he hse q1 q2
 have a1:=aER (s:=a+b) (by omega)
 have a2:=fun q=>aEQ q (a+b)
 rw [← hmid] at a2
 have a3:=aEP (s:=mid) (by omega)
 obtain ⟨k3,k4,k2⟩:st0=nn - b∧r0=mid∧b≤nn:=by
  rcases hst with ⟨_,k⟩ | ⟨k,_⟩
  ·exact k
  ·exact absurd k1 k
 have w8:=w7 k2
 rw [k3,k4] at loop
 have r:=rot p1 p2
 rw [aAG]
 by_cases p3:a < s <;> by_cases p4:e < b
 ·have r1:=mg1 p3 p2;have r2:=mg2 p1 p4
  simp only [Zae,Zaf,Zag,Zah,Zai,Zaj,Zak,Zan,Zao,Zat,Zav,Zaw,Zax,Zbc,Zbd,Zbf,Zbk,Zbm,Zbn,Zbo,Zbp,Zbu,Zbw,Zct,Zcu,Zcx,Zcz,Zda,Zdb,Zdd,Zde,Zdf,Zdg,Zdh,Q6,Q7,Q2,Q3,Z0,Zdi,Zdj,Zdl,Zdn,Zdp,decide_true,Q0,Q1,Nat.reduceAdd,Nat.reduceSub,eq_self,and_true,Q0,Q1,Q4,Q5,Q9,Z1,w1,w2,d1,d2,w3,a1,a2,a3,w4,w5,w6,w8,kk,k1,loop,cc1,cc2,cc3,cc4,cc5,cc6,p1,p2,p3,p4,r,r1,r2,Z2,aAa,aA8,Q8,Prod.mk.injEq,and_true]
  rfl
 ·have r1:=mg1 p3 p2;have r2:=mg20 (fun h=>p4 h.2);subst r2;have r2:=z0
  simp only [Zae,Zaf,Zag,Zah,Zai,Zaj,Zak,Zan,Zao,Zat,Zav,Zaw,Zax,Zbc,Zbd,Zbf,Zbk,Zbm,Zbn,Zbo,Zbp,Zbu,Zbw,Zct,Zcu,Zcx,Zcz,Zda,Zdb,Zdd,Zde,Zdf,Zdg,Zdh,Q6,Q7,Q2,Q3,Z0,Zdi,Zdj,Zdl,Zdn,Zdp,decide_true,decide_false,Q0,Q1,Nat.reduceAdd,Nat.reduceSub,eq_self,and_true,Q0,Q1,Q4,Q5,Q9,Z1,w1,w2,d1,d2,w3,a1,a2,a3,w4,w5,w6,w8,kk,k1,loop,cc1,cc2,cc3,cc4,cc5,cc6,p1,p2,p3,p4,r,r1,Z2,aAa,aA8,Q8,Prod.mk.injEq,and_true]
  rfl
 ·have r1:=mg10 (fun h=>p3 h.1);subst r1;have r1:=z0;have r2:=mg2 p1 p4
  simp only [Zae,Zaf,Zag,Zah,Zai,Zaj,Zak,Zan,Zao,Zat,Zav,Zaw,Zax,Zbc,Zbd,Zbf,Zbi,Zbk,Zbl,Zbm,Zbn,Zbo,Zbp,Zbu,Zbw,Zct,Zcu,Zcx,Zcz,Zda,Zdb,Zdd,Zde,Zdf,Zdg,Zdh,Q6,Q7,Q2,Q3,Z0,Zdi,Zdj,Zdl,Zdn,Zdp,decide_true,decide_false,Q0,Q1,Nat.reduceAdd,Nat.reduceSub,eq_self,and_true,Q0,Q1,Q4,Q5,Q9,Z1,w1,w2,d1,d2,w3,a1,a2,a3,w4,w5,w6,w8,kk,k1,loop,cc1,cc2,cc3,cc5,cc6,p1,p2,p3,p4,r,r2,Z2,aAa,aA8,Q8,Prod.mk.injEq,and_true]
  rfl
 ·have r1:=mg10 (fun h=>p3 h.1);subst r1;have r1:=z0;have r2:=mg20 (fun h=>p4 h.2);subst r2;have r2:=z0
  simp only [Zae,Zaf,Zag,Zah,Zai,Zaj,Zak,Zan,Zao,Zat,Zav,Zaw,Zax,Zbc,Zbd,Zbf,Zbi,Zbk,Zbl,Zbm,Zbn,Zbo,Zbp,Zbu,Zbw,Zct,Zcu,Zcx,Zcz,Zda,Zdb,Zdd,Zde,Zdf,Zdg,Zdh,Q6,Q7,Q2,Q3,Z0,Zdi,Zdj,Zdl,Zdn,Zdp,decide_true,decide_false,Q0,Q1,Nat.reduceAdd,Nat.reduceSub,eq_self,and_true,Q0,Q1,Q4,Q5,Q9,Z1,w1,w2,d1,d2,w3,a1,a2,a3,w4,w5,w6,w8,kk,k1,loop,cc1,cc2,cc3,cc5,cc6,p1,p2,p3,p4,r,Z2,aAa,aA8,Q8,Prod.mk.injEq,and_true]
  rfl
theorem aPR (k1:mid < m) (p1:s < m) (p2:¬ m < e):aB8 (lim G0.cfg) N aAA [sl,.int .i64 a,.int .i64 m,.int .i64 b,cf] h=some (AV.un,h3):=by
 obtain ⟨w1,w2,d1,d2,w3,w4,w5,w6,cc1,cc2,cc3,cc4,cc5,cc6,kk,w7⟩:=aEC a m b mid nn s e hb ham hmb c1 c2 hmid hnn he hse q1 q2
 have a1:=aER (s:=a+b) (by omega)
 have a2:=fun q=>aEQ q (a+b)
 rw [← hmid] at a2
 have a3:=aEP (s:=mid) (by omega)
 obtain ⟨k3,k4,k2⟩:st0=nn - b∧r0=mid∧b≤nn:=by
  rcases hst with ⟨_,k⟩ | ⟨k,_⟩
  ·exact k
  ·exact absurd k1 k
 have w8:=w7 k2
 rw [k3,k4] at loop
 have r:=rot0 (fun h=>p2 h.2)
 subst r
 have r:=z0
 rw [aAG]
 by_cases p3:a < s <;> by_cases p4:e < b
 ·have r1:=mg10 (fun h=>p2 h.2);subst r1;have r1:=z0;have r2:=mg2 p1 p4
  simp only [Zae,Zaf,Zag,Zah,Zai,Zaj,Zak,Zan,Zao,Zat,Zav,Zaw,Zax,Zbc,Zbd,Zbf,Zbk,Zbm,Zbn,Zbo,Zbp,Zbu,Zbw,Zct,Zcu,Zcx,Zcz,Zda,Zdb,Zdd,Zde,Zdf,Zdg,Zdh,Q6,Q7,Q2,Q3,Z0,Zdi,Zdj,Zdl,Zdn,Zdp,decide_true,decide_false,Q0,Q1,Nat.reduceAdd,Nat.reduceSub,eq_self,and_true,Q0,Q1,Q4,Q5,Q9,Z1,w1,w2,d1,d2,w3,a1,a2,a3,w4,w5,w6,w8,kk,k1,loop,cc1,cc2,cc3,cc4,cc5,cc6,p1,p2,p3,p4,r2,Z2,aAa,aA8,Q8,Prod.mk.injEq,and_true]
  rfl
 ·have r1:=mg10 (fun h=>p2 h.2);subst r1;have r1:=z0;have r2:=mg20 (fun h=>p4 h.2);subst r2;have r2:=z0
  simp only [Zae,Zaf,Zag,Zah,Zai,Zaj,Zak,Zan,Zao,Zat,Zav,Zaw,Zax,Zbc,Zbf,Zbk,Zbm,Zbn,Zbo,Zbp,Zbu,Zbw,Zcx,Zcz,Zda,Zdb,Zdf,Zdg,Zdh,Q6,Q7,Q2,Q3,Z0,Zdi,Zdj,Zdl,Zdn,Zdp,decide_true,decide_false,Q0,Q1,Nat.reduceAdd,Nat.reduceSub,eq_self,and_true,Q0,Q1,Q4,Q5,Q9,Z1,w1,w2,d1,d2,w3,a1,a2,a3,w4,w5,w6,w8,kk,k1,loop,cc1,cc2,cc3,cc4,cc5,cc6,p1,p2,p3,p4,aAa,aA8,Q8,Prod.mk.injEq,and_true]
  rfl
 ·have r1:=mg10 (fun h=>p2 h.2);subst r1;have r1:=z0;have r2:=mg2 p1 p4
  simp only [Zae,Zaf,Zag,Zah,Zai,Zaj,Zak,Zan,Zao,Zat,Zav,Zaw,Zax,Zbc,Zbd,Zbf,Zbi,Zbk,Zbl,Zbm,Zbn,Zbo,Zbp,Zbu,Zbw,Zct,Zcu,Zcx,Zcz,Zda,Zdb,Zdd,Zde,Zdf,Zdg,Zdh,Q6,Q7,Q2,Q3,Z0,Zdi,Zdj,Zdl,Zdn,Zdp,decide_true,decide_false,Q0,Q1,Nat.reduceAdd,Nat.reduceSub,eq_self,and_true,Q0,Q1,Q4,Q5,Q9,Z1,w1,w2,d1,d2,w3,a1,a2,a3,w4,w5,w6,w8,kk,k1,loop,cc1,cc2,cc3,cc5,cc6,p1,p2,p3,p4,r2,Z2,aAa,aA8,Q8,Prod.mk.injEq,and_true]
  rfl
 ·have r1:=mg10 (fun h=>p2 h.2);subst r1;have r1:=z0;have r2:=mg20 (fun h=>p4 h.2);subst r2;have r2:=z0
  simp only [Zae,Zaf,Zag,Zah,Zai,Zaj,Zak,Zan,Zao,Zat,Zav,Zaw,Zax,Zbc,Zbf,Zbi,Zbk,Zbl,Zbm,Zbn,Zbo,Zbp,Zbu,Zbw,Zcx,Zcz,Zda,Zdb,Zdf,Zdg,Zdh,Q6,Q7,Q2,Q3,Z0,Zdi,Zdj,Zdl,Zdn,Zdp,decide_true,decide_false,Q0,Q1,Nat.reduceAdd,Nat.reduceSub,eq_self,and_true,Q0,Q1,Q4,Q5,Q9,Z1,w1,w2,d1,d2,w3,a1,a2,a3,w4,w5,w6,w8,kk,k1,loop,cc1,cc2,cc3,cc5,cc6,p1,p2,p3,p4,aAa,aA8,Q8,Prod.mk.injEq,and_true]
  rfl
theorem aPQ (k1:mid < m) (p1:¬ s < m) (p2:m < e):aB8 (lim G0.cfg) N aAA [sl,.int .i64 a,.int .i64 m,.int .i64 b,cf] h=some (AV.un,h3):=by
 obtain ⟨w1,w2,d1,d2,w3,w4,w5,w6,cc1,cc2,cc3,cc4,cc5,cc6,kk,w7⟩:=aEC a m b mid nn s e hb ham hmb c1 c2 hmid hnn he hse q1 q2
 have a1:=aER (s:=a+b) (by omega)
 have a2:=fun q=>aEQ q (a+b)
 rw [← hmid] at a2
 have a3:=aEP (s:=mid) (by omega)
 obtain ⟨k3,k4,k2⟩:st0=nn - b∧r0=mid∧b≤nn:=by
  rcases hst with ⟨_,k⟩ | ⟨k,_⟩
  ·exact k
  ·exact absurd k1 k
 have w8:=w7 k2
 rw [k3,k4] at loop
 have r:=rot0 (fun h=>p1 h.1)
 subst r
 have r:=z0
 rw [aAG]
 by_cases p3:a < s <;> by_cases p4:e < b
 ·have r1:=mg1 p3 p2;have r2:=mg20 (fun h=>p1 h.1);subst r2;have r2:=z0
  simp only [Zae,Zaf,Zag,Zah,Zai,Zaj,Zak,Zan,Zao,Zat,Zav,Zaw,Zax,Zbc,Zbd,Zbf,Zbi,Zbk,Zbl,Zbm,Zbn,Zbo,Zbp,Zbu,Zbw,Zct,Zcu,Zcx,Zcz,Zda,Zdb,Zdd,Zde,Zdf,Zdg,Zdh,Q6,Q7,Q2,Q3,Z0,Zdi,Zdj,Zdl,Zdn,Zdp,decide_true,decide_false,Q0,Q1,Nat.reduceAdd,Nat.reduceSub,eq_self,and_true,Q0,Q1,Q4,Q5,Q9,Z1,w1,w2,d1,d2,w3,a1,a2,a3,w4,w5,w6,w8,kk,k1,loop,cc1,cc3,cc4,cc5,p1,p2,p3,r1,Z2,aAa,aA8,Q8,Prod.mk.injEq,and_true]
  rfl
 ·have r1:=mg1 p3 p2;have r2:=mg20 (fun h=>p1 h.1);subst r2;have r2:=z0
  simp only [Zae,Zaf,Zag,Zah,Zai,Zaj,Zak,Zan,Zao,Zat,Zav,Zaw,Zax,Zbc,Zbd,Zbf,Zbi,Zbk,Zbl,Zbm,Zbn,Zbo,Zbp,Zbu,Zbw,Zct,Zcu,Zcx,Zcz,Zda,Zdb,Zdd,Zde,Zdf,Zdg,Zdh,Q6,Q7,Q2,Q3,Z0,Zdi,Zdj,Zdl,Zdn,Zdp,decide_true,decide_false,Q0,Q1,Nat.reduceAdd,Nat.reduceSub,eq_self,and_true,Q0,Q1,Q4,Q5,Q9,Z1,w1,w2,d1,d2,w3,a1,a2,a3,w4,w5,w6,w8,kk,k1,loop,cc1,cc3,cc4,cc5,p1,p2,p3,r1,Z2,aAa,aA8,Q8,Prod.mk.injEq,and_true]
  rfl
 ·have r1:=mg10 (fun h=>p3 h.1);subst r1;have r1:=z0;have r2:=mg20 (fun h=>p1 h.1);subst r2;have r2:=z0
  simp only [Zae,Zaf,Zag,Zah,Zai,Zaj,Zak,Zan,Zao,Zat,Zav,Zaw,Zax,Zbc,Zbi,Zbl,Zbm,Zbn,Zbo,Zbp,Zbu,Zbw,Zcx,Zcz,Zda,Zdb,Zdf,Zdg,Zdh,Q6,Q7,Q2,Q3,Z0,Zdi,Zdj,Zdl,Zdn,Zdp,decide_true,decide_false,Q0,Q1,Nat.reduceAdd,Nat.reduceSub,eq_self,and_true,Q0,Q1,Q4,Q5,Q9,Z1,w1,w2,d1,d2,w3,a1,a2,a3,w4,w5,w6,w8,kk,k1,loop,cc1,cc3,cc5,p1,p3,aAa,aA8,Q8,Prod.mk.injEq,and_true]
  rfl
 ·have r1:=mg10 (fun h=>p3 h.1);subst r1;have r1:=z0;have r2:=mg20 (fun h=>p1 h.1);subst r2;have r2:=z0
  simp only [Zae,Zaf,Zag,Zah,Zai,Zaj,Zak,Zan,Zao,Zat,Zav,Zaw,Zax,Zbc,Zbi,Zbl,Zbm,Zbn,Zbo,Zbp,Zbu,Zbw,Zcx,Zcz,Zda,Zdb,Zdf,Zdg,Zdh,Q6,Q7,Q2,Q3,Z0,Zdi,Zdj,Zdl,Zdn,Zdp,decide_true,decide_false,Q0,Q1,Nat.reduceAdd,Nat.reduceSub,eq_self,and_true,Q0,Q1,Q4,Q5,Q9,Z1,w1,w2,d1,d2,w3,a1,a2,a3,w4,w5,w6,w8,kk,k1,loop,cc1,cc3,cc5,p1,p3,aAa,aA8,Q8,Prod.mk.injEq,and_true]
  rfl
theorem aPP (k1:mid < m) (p1:¬ s < m) (p2:¬ m < e):aB8 (lim G0.cfg) N aAA [sl,.int .i64 a,.int .i64 m,.int .i64 b,cf] h=some (AV.un,h3):=by
 obtain ⟨w1,w2,d1,d2,w3,w4,w5,w6,cc1,cc2,cc3,cc4,cc5,cc6,kk,w7⟩:=aEC a m b mid nn s e hb ham hmb c1 c2 hmid hnn he hse q1 q2
 have a1:=aER (s:=a+b) (by omega)
 have a2:=fun q=>aEQ q (a+b)
 rw [← hmid] at a2
 have a3:=aEP (s:=mid) (by omega)
 obtain ⟨k3,k4,k2⟩:st0=nn - b∧r0=mid∧b≤nn:=by
  rcases hst with ⟨_,k⟩ | ⟨k,_⟩
  ·exact k
  ·exact absurd k1 k
 have w8:=w7 k2
 rw [k3,k4] at loop
 have r:=rot0 (fun h=>p1 h.1)
 subst r
 have r:=z0
 rw [aAG]
 by_cases p3:a < s <;> by_cases p4:e < b
 ·have r1:=mg10 (fun h=>p2 h.2);subst r1;have r1:=z0;have r2:=mg20 (fun h=>p1 h.1);subst r2;have r2:=z0
  simp only [Zae,Zaf,Zag,Zah,Zai,Zaj,Zak,Zan,Zao,Zat,Zav,Zaw,Zax,Zbc,Zbf,Zbi,Zbk,Zbl,Zbm,Zbn,Zbo,Zbp,Zbu,Zbw,Zcx,Zcz,Zda,Zdb,Zdf,Zdg,Zdh,Q6,Q7,Q2,Q3,Z0,Zdi,Zdj,Zdl,Zdn,Zdp,decide_true,decide_false,Q0,Q1,Nat.reduceAdd,Nat.reduceSub,eq_self,and_true,Q0,Q1,Q4,Q5,Q9,Z1,w1,w2,d1,d2,w3,a1,a2,a3,w4,w5,w6,w8,kk,k1,loop,cc1,cc3,cc4,cc5,p1,p2,p3,aAa,aA8,Q8,Prod.mk.injEq,and_true]
  rfl
 ·have r1:=mg10 (fun h=>p2 h.2);subst r1;have r1:=z0;have r2:=mg20 (fun h=>p1 h.1);subst r2;have r2:=z0
  simp only [Zae,Zaf,Zag,Zah,Zai,Zaj,Zak,Zan,Zao,Zat,Zav,Zaw,Zax,Zbc,Zbf,Zbi,Zbk,Zbl,Zbm,Zbn,Zbo,Zbp,Zbu,Zbw,Zcx,Zcz,Zda,Zdb,Zdf,Zdg,Zdh,Q6,Q7,Q2,Q3,Z0,Zdi,Zdj,Zdl,Zdn,Zdp,decide_true,decide_false,Q0,Q1,Nat.reduceAdd,Nat.reduceSub,eq_self,and_true,Q0,Q1,Q4,Q5,Q9,Z1,w1,w2,d1,d2,w3,a1,a2,a3,w4,w5,w6,w8,kk,k1,loop,cc1,cc3,cc4,cc5,p1,p2,p3,aAa,aA8,Q8,Prod.mk.injEq,and_true]
  rfl
 ·have r1:=mg10 (fun h=>p2 h.2);subst r1;have r1:=z0;have r2:=mg20 (fun h=>p1 h.1);subst r2;have r2:=z0
  simp only [Zae,Zaf,Zag,Zah,Zai,Zaj,Zak,Zan,Zao,Zat,Zav,Zaw,Zax,Zbc,Zbi,Zbl,Zbm,Zbn,Zbo,Zbp,Zbu,Zbw,Zcx,Zcz,Zda,Zdb,Zdf,Zdg,Zdh,Q6,Q7,Q2,Q3,Z0,Zdi,Zdj,Zdl,Zdn,Zdp,decide_true,decide_false,Q0,Q1,Nat.reduceAdd,Nat.reduceSub,eq_self,and_true,Q0,Q1,Q4,Q5,Q9,Z1,w1,w2,d1,d2,w3,a1,a2,a3,w4,w5,w6,w8,kk,k1,loop,cc1,cc3,cc5,p1,p3,aAa,aA8,Q8,Prod.mk.injEq,and_true]
  rfl
 ·have r1:=mg10 (fun h=>p2 h.2);subst r1;have r1:=z0;have r2:=mg20 (fun h=>p1 h.1);subst r2;have r2:=z0
  simp only [Zae,Zaf,Zag,Zah,Zai,Zaj,Zak,Zan,Zao,Zat,Zav,Zaw,Zax,Zbc,Zbi,Zbl,Zbm,Zbn,Zbo,Zbp,Zbu,Zbw,Zcx,Zcz,Zda,Zdb,Zdf,Zdg,Zdh,Q6,Q7,Q2,Q3,Z0,Zdi,Zdj,Zdl,Zdn,Zdp,decide_true,decide_false,Q0,Q1,Nat.reduceAdd,Nat.reduceSub,eq_self,and_true,Q0,Q1,Q4,Q5,Q9,Z1,w1,w2,d1,d2,w3,a1,a2,a3,w4,w5,w6,w8,kk,k1,loop,cc1,cc3,cc5,p1,p3,aAa,aA8,Q8,Prod.mk.injEq,and_true]
  rfl
theorem aPO (k1:¬ mid < m) (p1:s < m) (p2:m < e):aB8 (lim G0.cfg) N aAA [sl,.int .i64 a,.int .i64 m,.int .i64 b,cf] h=some (AV.un,h3):=by
 obtain ⟨w1,w2,d1,d2,w3,w4,w5,w6,cc1,cc2,cc3,cc4,cc5,cc6,kk,w7⟩:=aEC a m b mid nn s e hb ham hmb c1 c2 hmid hnn he hse q1 q2
 have a1:=aER (s:=a+b) (by omega)
 have a2:=fun q=>aEQ q (a+b)
 rw [← hmid] at a2
 have a3:=aEP (s:=mid) (by omega)
 obtain ⟨k3,k4⟩:st0=a∧r0=m:=by
  rcases hst with ⟨k,_⟩ | ⟨_,k⟩
  ·exact absurd k k1
  ·exact k
 have w8:=z0
 rw [k3,k4] at loop
 have r:=rot p1 p2
 rw [aAG]
 by_cases p3:a < s <;> by_cases p4:e < b
 ·have r1:=mg1 p3 p2;have r2:=mg2 p1 p4
  simp only [Zae,Zaf,Zag,Zah,Zai,Zaj,Zak,Zan,Zao,Zat,Zav,Zaw,Zax,Zbc,Zbd,Zbf,Zbk,Zbm,Zbn,Zbo,Zbp,Zbu,Zbw,Zct,Zcu,Zcx,Zcz,Zda,Zdb,Zdd,Zde,Zdf,Zdg,Zdh,Q6,Q7,Q2,Q3,Z0,Zdi,Zdj,Zdl,Zdn,Zdp,decide_true,decide_false,Q0,Q1,Nat.reduceAdd,Nat.reduceSub,eq_self,and_true,Q0,Q1,Q4,Q5,Q9,Z1,w1,w2,d1,d2,w3,a1,a2,a3,w4,w5,w6,kk,k1,loop,cc1,cc2,cc3,cc4,cc5,cc6,p1,p2,p3,p4,r,r1,r2,Z2,aAa,aA8,Q8,Prod.mk.injEq,and_true]
  rfl
 ·have r1:=mg1 p3 p2;have r2:=mg20 (fun h=>p4 h.2);subst r2;have r2:=z0
  simp only [Zae,Zaf,Zag,Zah,Zai,Zaj,Zak,Zan,Zao,Zat,Zav,Zaw,Zax,Zbc,Zbd,Zbf,Zbk,Zbm,Zbn,Zbo,Zbp,Zbu,Zbw,Zct,Zcu,Zcx,Zcz,Zda,Zdb,Zdd,Zde,Zdf,Zdg,Zdh,Q6,Q7,Q2,Q3,Z0,Zdi,Zdj,Zdl,Zdn,Zdp,decide_true,decide_false,Q0,Q1,Nat.reduceAdd,Nat.reduceSub,eq_self,and_true,Q0,Q1,Q4,Q5,Q9,Z1,w1,w2,d1,d2,w3,a1,a2,a3,w4,w5,w6,kk,k1,loop,cc1,cc2,cc3,cc4,cc5,cc6,p1,p2,p3,p4,r,r1,Z2,aAa,aA8,Q8,Prod.mk.injEq,and_true]
  rfl
 ·have r1:=mg10 (fun h=>p3 h.1);subst r1;have r1:=z0;have r2:=mg2 p1 p4
  simp only [Zae,Zaf,Zag,Zah,Zai,Zaj,Zak,Zan,Zao,Zat,Zav,Zaw,Zax,Zbc,Zbd,Zbf,Zbi,Zbk,Zbl,Zbm,Zbn,Zbo,Zbp,Zbu,Zbw,Zct,Zcu,Zcx,Zcz,Zda,Zdb,Zdd,Zde,Zdf,Zdg,Zdh,Q6,Q7,Q2,Q3,Z0,Zdi,Zdj,Zdl,Zdn,Zdp,decide_true,decide_false,Q0,Q1,Nat.reduceAdd,Nat.reduceSub,eq_self,and_true,Q0,Q1,Q4,Q5,Q9,Z1,w1,w2,d1,d2,w3,a1,a2,a3,w4,w5,w6,kk,k1,loop,cc1,cc2,cc3,cc5,cc6,p1,p2,p3,p4,r,r2,Z2,aAa,aA8,Q8,Prod.mk.injEq,and_true]
  rfl
 ·have r1:=mg10 (fun h=>p3 h.1);subst r1;have r1:=z0;have r2:=mg20 (fun h=>p4 h.2);subst r2;have r2:=z0
  simp only [Zae,Zaf,Zag,Zah,Zai,Zaj,Zak,Zan,Zao,Zat,Zav,Zaw,Zax,Zbc,Zbd,Zbf,Zbi,Zbk,Zbl,Zbm,Zbn,Zbo,Zbp,Zbu,Zbw,Zct,Zcu,Zcx,Zcz,Zda,Zdb,Zdd,Zde,Zdf,Zdg,Zdh,Q6,Q7,Q2,Q3,Z0,Zdi,Zdj,Zdl,Zdn,Zdp,decide_true,decide_false,Q0,Q1,Nat.reduceAdd,Nat.reduceSub,eq_self,and_true,Q0,Q1,Q4,Q5,Q9,Z1,w1,w2,d1,d2,w3,a1,a2,a3,w4,w5,w6,kk,k1,loop,cc1,cc2,cc3,cc5,cc6,p1,p2,p3,p4,r,Z2,aAa,aA8,Q8,Prod.mk.injEq,and_true]
  rfl
theorem aPN (k1:¬ mid < m) (p1:s < m) (p2:¬ m < e):aB8 (lim G0.cfg) N aAA [sl,.int .i64 a,.int .i64 m,.int .i64 b,cf] h=some (AV.un,h3):=by
 obtain ⟨w1,w2,d1,d2,w3,w4,w5,w6,cc1,cc2,cc3,cc4,cc5,cc6,kk,w7⟩:=aEC a m b mid nn s e hb ham hmb c1 c2 hmid hnn he hse q1 q2
 have a1:=aER (s:=a+b) (by omega)
 have a2:=fun q=>aEQ q (a+b)
 rw [← hmid] at a2
 have a3:=aEP (s:=mid) (by omega)
 obtain ⟨k3,k4⟩:st0=a∧r0=m:=by
  rcases hst with ⟨k,_⟩ | ⟨_,k⟩
  ·exact absurd k k1
  ·exact k
 have w8:=z0
 rw [k3,k4] at loop
 have r:=rot0 (fun h=>p2 h.2)
 subst r
 have r:=z0
 rw [aAG]
 by_cases p3:a < s <;> by_cases p4:e < b
 ·have r1:=mg10 (fun h=>p2 h.2);subst r1;have r1:=z0;have r2:=mg2 p1 p4
  simp only [Zae,Zaf,Zag,Zah,Zai,Zaj,Zak,Zan,Zao,Zat,Zav,Zaw,Zax,Zbc,Zbd,Zbf,Zbk,Zbm,Zbn,Zbo,Zbp,Zbu,Zbw,Zct,Zcu,Zcx,Zcz,Zda,Zdb,Zdd,Zde,Zdf,Zdg,Zdh,Q6,Q7,Q2,Q3,Z0,Zdi,Zdj,Zdl,Zdn,Zdp,decide_true,decide_false,Q0,Q1,Nat.reduceAdd,Nat.reduceSub,eq_self,and_true,Q0,Q1,Q4,Q5,Q9,Z1,w1,w2,d1,d2,w3,a1,a2,a3,w4,w5,w6,kk,k1,loop,cc1,cc2,cc3,cc4,cc5,cc6,p1,p2,p3,p4,r2,Z2,aAa,aA8,Q8,Prod.mk.injEq,and_true]
  rfl
 ·have r1:=mg10 (fun h=>p2 h.2);subst r1;have r1:=z0;have r2:=mg20 (fun h=>p4 h.2);subst r2;have r2:=z0
  simp only [Zae,Zaf,Zag,Zah,Zai,Zaj,Zak,Zan,Zao,Zat,Zaw,Zax,Zbc,Zbf,Zbk,Zbm,Zbn,Zbo,Zbp,Zbu,Zbw,Zcx,Zcz,Zda,Zdb,Zdf,Zdg,Zdh,Q6,Q7,Q2,Q3,Z0,Zdi,Zdj,Zdl,Zdn,Zdp,decide_true,decide_false,Q0,Q1,Nat.reduceAdd,Nat.reduceSub,eq_self,and_true,Q0,Q1,Q4,Q5,Q9,Z1,w1,w2,d1,d2,w3,a1,a2,a3,w4,w5,w6,kk,k1,loop,cc1,cc2,cc3,cc4,cc5,cc6,p1,p2,p3,p4,aAa,aA8,Q8,Prod.mk.injEq,and_true]
  rfl
 ·have r1:=mg10 (fun h=>p2 h.2);subst r1;have r1:=z0;have r2:=mg2 p1 p4
  simp only [Zae,Zaf,Zag,Zah,Zai,Zaj,Zak,Zan,Zao,Zat,Zav,Zaw,Zax,Zbc,Zbd,Zbf,Zbi,Zbk,Zbl,Zbm,Zbn,Zbo,Zbp,Zbu,Zbw,Zct,Zcu,Zcx,Zcz,Zda,Zdb,Zdd,Zde,Zdf,Zdg,Zdh,Q6,Q7,Q2,Q3,Z0,Zdi,Zdj,Zdl,Zdn,Zdp,decide_true,decide_false,Q0,Q1,Nat.reduceAdd,Nat.reduceSub,eq_self,and_true,Q0,Q1,Q4,Q5,Q9,Z1,w1,w2,d1,d2,w3,a1,a2,a3,w4,w5,w6,kk,k1,loop,cc1,cc2,cc3,cc5,cc6,p1,p2,p3,p4,r2,Z2,aAa,aA8,Q8,Prod.mk.injEq,and_true]
  rfl
 ·have r1:=mg10 (fun h=>p2 h.2);subst r1;have r1:=z0;have r2:=mg20 (fun h=>p4 h.2);subst r2;have r2:=z0
  simp only [Zae,Zaf,Zag,Zah,Zai,Zaj,Zak,Zan,Zao,Zat,Zaw,Zax,Zbc,Zbf,Zbi,Zbk,Zbl,Zbm,Zbn,Zbo,Zbp,Zbu,Zbw,Zcx,Zcz,Zda,Zdb,Zdf,Zdg,Zdh,Q6,Q7,Q2,Q3,Z0,Zdi,Zdj,Zdl,Zdn,Zdp,decide_true,decide_false,Q0,Q1,Nat.reduceAdd,Nat.reduceSub,eq_self,and_true,Q0,Q1,Q4,Q5,Q9,Z1,w1,w2,d1,d2,w3,a1,a2,a3,w4,w5,w6,kk,k1,loop,cc1,cc2,cc3,cc5,cc6,p1,p2,p3,p4,aAa,aA8,Q8,Prod.mk.injEq,and_true]
  rfl
theorem aPM (k1:¬ mid < m) (p1:¬ s < m) (p2:m < e):aB8 (lim G0.cfg) N aAA [sl,.int .i64 a,.int .i64 m,.int .i64 b,cf] h=some (AV.un,h3):=by
 obtain ⟨w1,w2,d1,d2,w3,w4,w5,w6,cc1,cc2,cc3,cc4,cc5,cc6,kk,w7⟩:=aEC a m b mid nn s e hb ham hmb c1 c2 hmid hnn he hse q1 q2
 have a1:=aER (s:=a+b) (by omega)
 have a2:=fun q=>aEQ q (a+b)
 rw [← hmid] at a2
 have a3:=aEP (s:=mid) (by omega)
 obtain ⟨k3,k4⟩:st0=a∧r0=m:=by
  rcases hst with ⟨k,_⟩ | ⟨_,k⟩
  ·exact absurd k k1
  ·exact k
 have w8:=z0
 rw [k3,k4] at loop
 have r:=rot0 (fun h=>p1 h.1)
 subst r
 have r:=z0
 rw [aAG]
 by_cases p3:a < s <;> by_cases p4:e < b
 ·have r1:=mg1 p3 p2;have r2:=mg20 (fun h=>p1 h.1);subst r2;have r2:=z0
  simp only [Zae,Zaf,Zag,Zah,Zai,Zaj,Zak,Zan,Zao,Zat,Zav,Zaw,Zax,Zbc,Zbd,Zbf,Zbi,Zbk,Zbl,Zbm,Zbn,Zbo,Zbp,Zbu,Zbw,Zct,Zcu,Zcx,Zcz,Zda,Zdb,Zdd,Zde,Zdf,Zdg,Zdh,Q6,Q7,Q2,Q3,Z0,Zdi,Zdj,Zdl,Zdn,Zdp,decide_true,decide_false,Q0,Q1,Nat.reduceAdd,Nat.reduceSub,eq_self,and_true,Q0,Q1,Q4,Q5,Q9,Z1,w1,w2,d1,d2,w3,a1,a2,a3,w4,w5,w6,kk,k1,loop,cc1,cc3,cc4,cc5,p1,p2,p3,r1,Z2,aAa,aA8,Q8,Prod.mk.injEq,and_true]
  rfl
 ·have r1:=mg1 p3 p2;have r2:=mg20 (fun h=>p1 h.1);subst r2;have r2:=z0
  simp only [Zae,Zaf,Zag,Zah,Zai,Zaj,Zak,Zan,Zao,Zat,Zav,Zaw,Zax,Zbc,Zbd,Zbf,Zbi,Zbk,Zbl,Zbm,Zbn,Zbo,Zbp,Zbu,Zbw,Zct,Zcu,Zcx,Zcz,Zda,Zdb,Zdd,Zde,Zdf,Zdg,Zdh,Q6,Q7,Q2,Q3,Z0,Zdi,Zdj,Zdl,Zdn,Zdp,decide_true,decide_false,Q0,Q1,Nat.reduceAdd,Nat.reduceSub,eq_self,and_true,Q0,Q1,Q4,Q5,Q9,Z1,w1,w2,d1,d2,w3,a1,a2,a3,w4,w5,w6,kk,k1,loop,cc1,cc3,cc4,cc5,p1,p2,p3,r1,Z2,aAa,aA8,Q8,Prod.mk.injEq,and_true]
  rfl
 ·have r1:=mg10 (fun h=>p3 h.1);subst r1;have r1:=z0;have r2:=mg20 (fun h=>p1 h.1);subst r2;have r2:=z0
  simp only [Zae,Zaf,Zag,Zah,Zai,Zaj,Zak,Zan,Zao,Zat,Zaw,Zax,Zbc,Zbi,Zbl,Zbm,Zbn,Zbo,Zbp,Zbu,Zbw,Zcx,Zcz,Zda,Zdb,Zdf,Zdg,Zdh,Q6,Q7,Q2,Q3,Z0,Zdi,Zdj,Zdl,Zdn,Zdp,decide_false,Q0,Q1,Nat.reduceAdd,Nat.reduceSub,eq_self,and_true,Q0,Q1,Q4,Q5,Q9,Z1,w1,w2,d1,d2,w3,a1,a2,a3,w4,w5,w6,kk,k1,loop,cc1,cc3,cc5,p1,p3,aAa,aA8,Q8,Prod.mk.injEq,and_true]
  rfl
 ·have r1:=mg10 (fun h=>p3 h.1);subst r1;have r1:=z0;have r2:=mg20 (fun h=>p1 h.1);subst r2;have r2:=z0
  simp only [Zae,Zaf,Zag,Zah,Zai,Zaj,Zak,Zan,Zao,Zat,Zaw,Zax,Zbc,Zbi,Zbl,Zbm,Zbn,Zbo,Zbp,Zbu,Zbw,Zcx,Zcz,Zda,Zdb,Zdf,Zdg,Zdh,Q6,Q7,Q2,Q3,Z0,Zdi,Zdj,Zdl,Zdn,Zdp,decide_false,Q0,Q1,Nat.reduceAdd,Nat.reduceSub,eq_self,and_true,Q0,Q1,Q4,Q5,Q9,Z1,w1,w2,d1,d2,w3,a1,a2,a3,w4,w5,w6,kk,k1,loop,cc1,cc3,cc5,p1,p3,aAa,aA8,Q8,Prod.mk.injEq,and_true]
  rfl
theorem aPL (k1:¬ mid < m) (p1:¬ s < m) (p2:¬ m < e):aB8 (lim G0.cfg) N aAA [sl,.int .i64 a,.int .i64 m,.int .i64 b,cf] h=some (AV.un,h3):=by
 obtain ⟨w1,w2,d1,d2,w3,w4,w5,w6,cc1,cc2,cc3,cc4,cc5,cc6,kk,w7⟩:=aEC a m b mid nn s e hb ham hmb c1 c2 hmid hnn he hse q1 q2
 have a1:=aER (s:=a+b) (by omega)
 have a2:=fun q=>aEQ q (a+b)
 rw [← hmid] at a2
 have a3:=aEP (s:=mid) (by omega)
 obtain ⟨k3,k4⟩:st0=a∧r0=m:=by
  rcases hst with ⟨k,_⟩ | ⟨_,k⟩
  ·exact absurd k k1
  ·exact k
 have w8:=z0
 rw [k3,k4] at loop
 have r:=rot0 (fun h=>p1 h.1)
 subst r
 have r:=z0
 rw [aAG]
 by_cases p3:a < s <;> by_cases p4:e < b
 ·have r1:=mg10 (fun h=>p2 h.2);subst r1;have r1:=z0;have r2:=mg20 (fun h=>p1 h.1);subst r2;have r2:=z0
  simp only [Zae,Zaf,Zag,Zah,Zai,Zaj,Zak,Zan,Zao,Zat,Zaw,Zax,Zbc,Zbf,Zbi,Zbk,Zbl,Zbm,Zbn,Zbo,Zbp,Zbu,Zbw,Zcx,Zcz,Zda,Zdb,Zdf,Zdg,Zdh,Q6,Q7,Q2,Q3,Z0,Zdi,Zdj,Zdl,Zdn,Zdp,decide_true,decide_false,Q0,Q1,Nat.reduceAdd,Nat.reduceSub,eq_self,and_true,Q0,Q1,Q4,Q5,Q9,Z1,w1,w2,d1,d2,w3,a1,a2,a3,w4,w5,w6,kk,k1,loop,cc1,cc3,cc4,cc5,p1,p2,p3,aAa,aA8,Q8,Prod.mk.injEq,and_true]
  rfl
 ·have r1:=mg10 (fun h=>p2 h.2);subst r1;have r1:=z0;have r2:=mg20 (fun h=>p1 h.1);subst r2;have r2:=z0
  simp only [Zae,Zaf,Zag,Zah,Zai,Zaj,Zak,Zan,Zao,Zat,Zaw,Zax,Zbc,Zbf,Zbi,Zbk,Zbl,Zbm,Zbn,Zbo,Zbp,Zbu,Zbw,Zcx,Zcz,Zda,Zdb,Zdf,Zdg,Zdh,Q6,Q7,Q2,Q3,Z0,Zdi,Zdj,Zdl,Zdn,Zdp,decide_true,decide_false,Q0,Q1,Nat.reduceAdd,Nat.reduceSub,eq_self,and_true,Q0,Q1,Q4,Q5,Q9,Z1,w1,w2,d1,d2,w3,a1,a2,a3,w4,w5,w6,kk,k1,loop,cc1,cc3,cc4,cc5,p1,p2,p3,aAa,aA8,Q8,Prod.mk.injEq,and_true]
  rfl
 ·have r1:=mg10 (fun h=>p2 h.2);subst r1;have r1:=z0;have r2:=mg20 (fun h=>p1 h.1);subst r2;have r2:=z0
  simp only [Zae,Zaf,Zag,Zah,Zai,Zaj,Zak,Zan,Zao,Zat,Zaw,Zax,Zbc,Zbi,Zbl,Zbm,Zbn,Zbo,Zbp,Zbu,Zbw,Zcx,Zcz,Zda,Zdb,Zdf,Zdg,Zdh,Q6,Q7,Q2,Q3,Z0,Zdi,Zdj,Zdl,Zdn,Zdp,decide_false,Q0,Q1,Nat.reduceAdd,Nat.reduceSub,eq_self,and_true,Q0,Q1,Q4,Q5,Q9,Z1,w1,w2,d1,d2,w3,a1,a2,a3,w4,w5,w6,kk,k1,loop,cc1,cc3,cc5,p1,p3,aAa,aA8,Q8,Prod.mk.injEq,and_true]
  rfl
 ·have r1:=mg10 (fun h=>p2 h.2);subst r1;have r1:=z0;have r2:=mg20 (fun h=>p1 h.1);subst r2;have r2:=z0
  simp only [Zae,Zaf,Zag,Zah,Zai,Zaj,Zak,Zan,Zao,Zat,Zaw,Zax,Zbc,Zbi,Zbl,Zbm,Zbn,Zbo,Zbp,Zbu,Zbw,Zcx,Zcz,Zda,Zdb,Zdf,Zdg,Zdh,Q6,Q7,Q2,Q3,Z0,Zdi,Zdj,Zdl,Zdn,Zdp,decide_false,Q0,Q1,Nat.reduceAdd,Nat.reduceSub,eq_self,and_true,Q0,Q1,Q4,Q5,Q9,Z1,w1,w2,d1,d2,w3,a1,a2,a3,w4,w5,w6,kk,k1,loop,cc1,cc3,cc5,p1,p3,aAa,aA8,Q8,Prod.mk.injEq,and_true]
  rfl
theorem aRT:aB8 (lim G0.cfg) N aAA [sl,.int .i64 a,.int .i64 m,.int .i64 b,cf] h=some (AV.un,h3):=by
 by_cases k1:mid < m <;> by_cases p1:s < m <;> by_cases p2:m < e
 ·exact aPS a m b mid nn st0 r0 s e sl cf h h1 h2 h3 N hb ham hmb c1 c2 hmid hnn hst loop he hse q1 q2 rot rot0 mg1 mg10 mg2 mg20 k1 p1 p2
 ·exact aPR a m b mid nn st0 r0 s e sl cf h h1 h2 h3 N hb ham hmb c1 c2 hmid hnn hst loop he hse q1 q2 rot rot0 mg1 mg10 mg2 mg20 k1 p1 p2
 ·exact aPQ a m b mid nn st0 r0 s e sl cf h h1 h2 h3 N hb ham hmb c1 c2 hmid hnn hst loop he hse q1 q2 rot rot0 mg1 mg10 mg2 mg20 k1 p1 p2
 ·exact aPP a m b mid nn st0 r0 s e sl cf h h1 h2 h3 N hb ham hmb c1 c2 hmid hnn hst loop he hse q1 q2 rot rot0 mg1 mg10 mg2 mg20 k1 p1 p2
 ·exact aPO a m b mid nn st0 r0 s e sl cf h h1 h2 h3 N hb ham hmb c1 c2 hmid hnn hst loop he hse q1 q2 rot rot0 mg1 mg10 mg2 mg20 k1 p1 p2
 ·exact aPN a m b mid nn st0 r0 s e sl cf h h1 h2 h3 N hb ham hmb c1 c2 hmid hnn hst loop he hse q1 q2 rot rot0 mg1 mg10 mg2 mg20 k1 p1 p2
 ·exact aPM a m b mid nn st0 r0 s e sl cf h h1 h2 h3 N hb ham hmb c1 c2 hmid hnn hst loop he hse q1 q2 rot rot0 mg1 mg10 mg2 mg20 k1 p1 p2
 ·exact aPL a m b mid nn st0 r0 s e sl cf h h1 h2 h3 N hb ham hmb c1 c2 hmid hnn hst loop he hse q1 q2 rot rot0 mg1 mg10 mg2 mg20 k1 p1 p2
end
end Go.Proofs.Ytgeedikghjcebaa.Ai
