/- A table's rank and Right, as the program has them: they answer something. -/
import Derived.Test.YteenffomgdfocaamLt1
import Derived.Test.YteenffomgdfocaamLc1
namespace Go.Proofs.Yteenffomgdfocaa.Ai
open Go Go.Proofs
open List renaming set_cons_zero → Q0, length_cons → Q1, cons_append → Q2, length_nil → Q3, nil_append → Q4, getElem?_cons_zero → Q5, getElem?_cons_succ → Q6, getD_cons_zero → Q7, getD_cons_succ → Q8, replicate_succ → Q9, replicate_zero → Z0, take_succ_cons → Z1, set_cons_succ → Z2, drop_succ_cons → Z3, drop_zero → Z6, take_zero → Z7, take_nil → Z8
open Option renaming bind_some → Z4, map_some → Z5
set_option linter.unusedVariables false
set_option linter.unusedSimpArgs false
set_option maxRecDepth 10000
set_option maxHeartbeats 4000000
theorem aGF {g:GramD} (h:aBl g=0):2≤g.terms.length∧1≤g.nonterms.length∧∀ r ∈ g.rules,0≤r.left∧r.left < g.nonterms.length:=by
 unfold aBl at h
 split at h
 ·omega
 ·rename_i h0
  split at h
  ·omega
  ·split at h
   ·omega
   ·split at h
    ·omega
    ·rename_i hr
     have h0':aBR g=true:=by simpa using h0
     unfold aBR at h0'
     simp only [Bool.and_eq_true,decide_eq_true_eq] at h0'
     refine ⟨by omega,by omega,?_⟩
     have hr':aAP g g.rules 0=0:=by simpa using hr
     have all:∀ (l:List RuleD) (a:Int),aAP g l a=0→∀ r ∈ l,0≤r.left∧r.left < g.nonterms.length:=by
      intro l
      induction l with
      | nil=>intro a _ r hr;cases hr
      | cons x l ih =>
       intro a h r hr
       simp only [aAP] at h
       split at h
       ·rename_i hx;exact absurd h hx
       ·rename_i hx
        rcases List.mem_cons.1 hr with rfl | hr
        ·have hx':aB1 g r a=0:=by simpa using hx
         unfold aB1 at hx'
         split at hx'
         ·omega
         ·omega
        ·exact ih _ h r hr
     exact all _ _ hr'
section
variable {t : TabD} {av gv : AV} (ha : LiG (LiG LiA) t.acts av) (hgv : LiR t.gotos gv) (hl : TabLen t) (g : GramD) (hg : g.Ok)
include ha hgv
theorem aS3 (term:Int) (a:Int × Int):∃ r:Int,∀ H,lim G0.cfg (.func 44) [.agg (aA8 g),.agg [av,gv],.int .i64 term,.agg (aAv a)] H=some (.int .i64 r,H):=by
 have key:∃ (r:Int) (h':aA0),aAS (lim G0.cfg) 1 aD4 [.agg (aA8 g),.agg [av,gv],.int .i64 term,.agg (aAv a)] []=some (.int .i64 r,h'):=by
  obtain ⟨k,n⟩:=a
  rw [aMr]
  by_cases k2:k=2
  ·subst k2
   by_cases q1:n < 1
   ·exact ⟨_,_,by simp only [Zaf,Zag,Zah,Zai,Zal,Zam,Zan,Zao,Zap,Zaq,Zas,Zat,Zav,Zbc,Zbd,Zbh,Zbk,Zbm,Zbn,Zbo,Zbp,Zbr,Zbs,Zbu,Zcc,Zcw,Zcy,Zcz,Zda,Zdb,Q0,Z2,Q7,Q8,Z4,Z5,Zdl,Zdp,Zeb,Zed,Zef,decide_true,Q5,Q6,Q1,Q3,if_true,Nat.reduceAdd,Nat.reduceSub,Nat.reduceLeDiff,Int.reduceNeg,eq_self,Q1,Q3,Q9,Z0,Q2,Q4,aA2,aA4,aA3,part,Z6,Z3,Z1,Z7,Z8,Q2,Q4,Q0,aAv,q1,aA6,aA5,aA7];rfl⟩
   ·by_cases q2:(g.rules.length:Int)≤n
    ·exact ⟨_,_,by simp only [Zaf,Zag,Zah,Zai,Zal,Zam,Zan,Zao,Zap,Zaq,Zas,Zat,Zav,Zbc,Zbd,Zbg,Zbl,Zbm,Zbn,Zbo,Zbp,Zbr,Zbs,Zbu,Zcc,Zck,Zcw,Zcy,Zcz,Zda,Zdb,Q0,Z2,Q7,Q8,Z4,Z5,Zdl,Zdo,Zdp,Zdx,Zeb,Zed,Zef,decide_true,decide_false,Q5,Q6,Q1,Q3,if_true,Nat.reduceAdd,Nat.reduceSub,Nat.reduceLeDiff,Int.reduceNeg,eq_self,List.length_map,Q1,Q3,Q9,Z0,Q2,Q4,aA2,aA4,aA3,part,Z6,Z3,Z1,Z7,Z8,Q2,Q4,Q0,aAv,q1,q2,aA6,aA5,aA7];rfl⟩
    ·exact ⟨_,_,by simp only [Zae,Zaf,Zag,Zah,Zai,Zal,Zam,Zan,Zao,Zap,Zaq,Zar,Zas,Zat,Zav,Zaw,Zbc,Zbd,Zbg,Zbi,Zbj,Zbl,Zbm,Zbn,Zbo,Zbp,Zbr,Zbs,Zbu,Zcc,Zck,Zcw,Zcy,Zcz,Zda,Zdb,Q0,Z2,Q7,Q8,Z4,Z5,Zdi,Zdj,Zdl,Zdo,Zdp,Zdx,Zeb,Zed,Zef,decide_true,decide_false,Q5,Q6,Q1,Q3,if_true,Nat.reduceAdd,Nat.reduceSub,Nat.reduceLeDiff,Int.reduceNeg,Int.reduceEq,eq_self,List.length_map,Q1,Q3,Q9,Z0,Q2,Q4,aA2,aA4,aA3,part,Z6,Z3,Z1,Z7,Z8,Q2,Q4,Q0,aAv,q1,q2,aA6,aA5,aA7];rfl⟩
  ·by_cases k3:k=3
   ·subst k3
    by_cases q1:n=0
    ·subst q1
     by_cases q2:term=0
     ·subst q2
      exact ⟨_,_,by simp only [Zae,Zaf,Zag,Zah,Zai,Zal,Zam,Zan,Zao,Zap,Zaq,Zas,Zat,Zau,Zav,Zaw,Zbc,Zbd,Zbf,Zbg,Zbk,Zbl,Zbm,Zbn,Zbo,Zbp,Zbr,Zbs,Zbu,Zcc,Zcw,Zcy,Zcz,Zda,Zdb,Q0,Z2,Q7,Q8,Z4,Z5,Nat.reduceBEq,Zdi,Zdp,Zdq,Zeb,Zed,Zef,decide_true,decide_false,Bool.not_true,Q5,Q6,Q1,Q3,if_true,Nat.reduceAdd,Nat.reduceSub,Nat.reduceLeDiff,Int.reduceNeg,Int.reduceEq,eq_self,Q1,Q3,Q9,Z0,Q2,Q4,aA2,aA4,aA3,part,Z6,Z3,Z1,Z7,Z8,Q2,Q4,Q0,aAv,aA6,aA5,aA7];rfl⟩
     ·exact ⟨_,_,by simp only [Zae,Zaf,Zag,Zah,Zai,Zal,Zam,Zan,Zao,Zap,Zaq,Zas,Zat,Zau,Zav,Zaw,Zbc,Zbd,Zbf,Zbg,Zbk,Zbl,Zbm,Zbn,Zbo,Zbp,Zbr,Zbs,Zbu,Zcc,Zcw,Zcy,Zcz,Zda,Zdb,Q0,Z2,Q7,Q8,Z4,Z5,Nat.reduceBEq,Zdp,Zdq,Zeb,Zed,Zef,decide_true,decide_false,Bool.not_true,Bool.not_false,Q5,Q6,Q1,Q3,if_true,Nat.reduceAdd,Nat.reduceSub,Nat.reduceLeDiff,Int.reduceNeg,Int.reduceEq,eq_self,Q1,Q3,Q9,Z0,Q2,Q4,aA2,aA4,aA3,part,Z6,Z3,Z1,Z7,Z8,Q2,Q4,Q0,aAv,q2,aA6,aA5,aA7];rfl⟩
    ·exact ⟨_,_,by simp only [Zae,Zaf,Zag,Zah,Zai,Zal,Zam,Zan,Zao,Zap,Zaq,Zas,Zat,Zau,Zav,Zaw,Zbc,Zbd,Zbf,Zbh,Zbk,Zbm,Zbn,Zbo,Zbp,Zbr,Zbs,Zbu,Zcc,Zcw,Zcy,Zcz,Zda,Zdb,Q0,Z2,Q7,Q8,Z4,Z5,Nat.reduceBEq,Zdp,Zdq,Zeb,Zed,Zef,decide_true,decide_false,Bool.not_false,Q5,Q6,Q1,Q3,if_true,Nat.reduceAdd,Nat.reduceSub,Nat.reduceLeDiff,Int.reduceNeg,Int.reduceEq,eq_self,Q1,Q3,Q9,Z0,Q2,Q4,aA2,aA4,aA3,part,Z6,Z3,Z1,Z7,Z8,Q2,Q4,Q0,aAv,q1,aA6,aA5,aA7];rfl⟩
   ·by_cases k1:k=1
    ·subst k1
     by_cases q1:n < 0
     ·exact ⟨_,_,by simp only [Zae,Zaf,Zag,Zah,Zai,Zal,Zam,Zan,Zao,Zap,Zaq,Zas,Zat,Zau,Zav,Zaw,Zbc,Zbd,Zbh,Zbk,Zbm,Zbn,Zbo,Zbp,Zbr,Zbs,Zbu,Zcc,Zcw,Zcy,Zcz,Zda,Zdb,Q0,Z2,Q7,Q8,Z4,Z5,Nat.reduceBEq,Zdl,Zdp,Zeb,Zed,Zef,decide_true,decide_false,Q5,Q6,Q1,Q3,if_true,Nat.reduceAdd,Nat.reduceSub,Nat.reduceLeDiff,Int.reduceNeg,Int.reduceEq,eq_self,Q1,Q3,Q9,Z0,Q2,Q4,aA2,aA4,aA3,part,Z6,Z3,Z1,Z7,Z8,Q2,Q4,Q0,aAv,q1,aA6,aA5,aA7];rfl⟩
     ·by_cases q2:(t.acts.length:Int)≤n
      ·exact ⟨_,_,by simp only [Zae,Zaf,Zag,Zah,Zai,Zal,Zam,Zan,Zao,Zap,Zaq,Zas,Zat,Zau,Zav,Zaw,Zbc,Zbd,Zbg,Zbh,Zbk,Zbl,Zbm,Zbn,Zbo,Zbp,Zbr,Zbs,Zbu,Zcc,Zck,Zcw,Zcy,Zcz,Zda,Zdb,Q0,Z2,Q7,Q8,Z4,Z5,Nat.reduceBEq,Zdl,Zdo,Zdp,Zeb,Zed,Zef,decide_true,decide_false,Q5,Q6,Q1,Q3,if_true,Nat.reduceAdd,Nat.reduceSub,Nat.reduceLeDiff,Int.reduceNeg,Int.reduceEq,eq_self,Q1,Q3,Q9,Z0,Q2,Q4,aA2,aA4,aA3,part,Z6,Z3,Z1,Z7,Z8,Q2,Q4,Q0,aAv,q1,ha.len,q2,aA6,aA5,aA7];rfl⟩
      ·by_cases q3:term < 2
       ·exact ⟨_,_,by simp only [Zae,Zaf,Zag,Zah,Zai,Zal,Zam,Zan,Zao,Zap,Zaq,Zas,Zat,Zau,Zav,Zaw,Zbc,Zbd,Zbg,Zbl,Zbm,Zbn,Zbo,Zbp,Zbr,Zbs,Zbu,Zcc,Zck,Zcw,Zcy,Zcz,Zda,Zdb,Q0,Z2,Q7,Q8,Z4,Z5,Nat.reduceBEq,Zdl,Zdo,Zdp,Zeb,Zed,Zef,decide_true,decide_false,Q5,Q6,Q1,Q3,if_true,Nat.reduceAdd,Nat.reduceSub,Nat.reduceLeDiff,Int.reduceNeg,Int.reduceEq,eq_self,Q1,Q3,Q9,Z0,Q2,Q4,aA2,aA4,aA3,part,Z6,Z3,Z1,Z7,Z8,Q2,Q4,Q0,aAv,q1,ha.len,q2,q3,aA6,aA5,aA7];rfl⟩
       ·exact ⟨_,_,by simp only [Zae,Zaf,Zag,Zah,Zai,Zal,Zam,Zan,Zao,Zap,Zaq,Zas,Zat,Zau,Zav,Zaw,Zbc,Zbd,Zbg,Zbl,Zbm,Zbn,Zbo,Zbp,Zbr,Zbs,Zbu,Zcc,Zck,Zcw,Zcy,Zcz,Zda,Zdb,Q0,Z2,Q7,Q8,Z4,Z5,Nat.reduceBEq,Zdl,Zdo,Zdp,Zeb,Zed,Zef,decide_true,decide_false,Q5,Q6,Q1,Q3,if_true,Nat.reduceAdd,Nat.reduceSub,Nat.reduceLeDiff,Int.reduceNeg,Int.reduceEq,eq_self,Q1,Q3,Q9,Z0,Q2,Q4,aA2,aA4,aA3,part,Z6,Z3,Z1,Z7,Z8,Q2,Q4,Q0,aAv,q1,ha.len,q2,q3,aA6,aA5,aA7];rfl⟩
    ·exact ⟨_,_,by simp only [Zae,Zaf,Zag,Zah,Zai,Zal,Zam,Zan,Zao,Zap,Zat,Zau,Zaw,Zbc,Zbd,Zbm,Zbo,Zbr,Zbs,Zbu,Zcc,Zcw,Zcy,Zcz,Zda,Zdb,Q0,Z2,Q7,Q8,Z4,Z5,Nat.reduceBEq,Zdp,Zeb,Zed,Zef,decide_false,Q5,Q6,Q1,Q3,if_true,Nat.reduceAdd,Nat.reduceSub,Nat.reduceLeDiff,Int.reduceNeg,eq_self,Q1,Q3,Q9,Z0,Q2,Q4,aA2,aA4,aA3,part,Z6,Z1,Z7,Q2,Q4,Q0,aAv,k1,k2,k3,aA6,aA5,aA7];rfl⟩
 obtain ⟨r,h',e⟩:=key
 refine ⟨r,fun H=>aAy rfl rfl aHO 1 (fun h => ?_) ⟨h',e⟩ (fun _=>rfl) H⟩
 simp only [aAk,aAU,aEy ha hgv,List.map_cons,List.map_nil]
 rfl
end
end Go.Proofs.Yteenffomgdfocaa.Ai
namespace Go.Proofs.Yteenffomgdfocaa.Ai
open Go Go.Proofs
open AV renaming junk → J
open List renaming set_cons_zero → Q0, length_cons → Q1, length_nil → Q2, getD_cons_zero → Q3, getD_cons_succ → Q4, set_cons_succ → Q5, getElem?_cons_zero → Q6, cons_append → Q7, nil_append → Q8, take_succ_cons → Q9, drop_zero → Z1, take_zero → Z2, take_nil → Z3, replicate_succ → Z4, replicate_zero → Z5, drop_succ_cons → Z7, getElem?_cons_succ → Y0
open Option renaming bind_some → Z0, map_some → Z8
open Option.some renaming injEq → Z6
open Bool renaming not_true → Z9, not_false → Y1
set_option linter.unusedVariables false
set_option linter.unusedSimpArgs false
set_option maxRecDepth 10000
set_option maxHeartbeats 4000000
theorem aLH (h:aA0) (sz n:Nat) (c0:List AV) (x:AV) (hx:(cellsOf x).length=n) (hn:c0.length=n) (hk:(cellsOf x).all aAn=true):aAq (h++[.arr 0 sz true [c0]]) n (.ptr h.length 0 0 0) x=some (h++[.arr 0 sz true [cellsOf x]]):=by
 simp only [aAq,aA3,aB9,if_true,Q6]
 rw [if_pos ⟨hx,by omega,hk⟩,aCv]
 have:aAm c0 0 (cellsOf x)=cellsOf x:=by
  unfold aAm
  rw [Z2,Nat.zero_add,List.drop_of_length_le (by omega)]
  simp
 rw [this];rfl
theorem aJf {h:aA0} {i ver sz n:Nat} {x:Bool} {cells:List AV} {rest:List (List AV)} (g0:h[i]?=some (.arr ver sz x (cells::rest))) (hn:cells.length=n):aA2 h n true (.ptr i ver 0 0)=some (.agg cells):=by
 simp only [aA2,aA4,aA3,g0,if_true,Q6,part,Nat.zero_add]
 rw [if_pos (by omega),Z1,List.take_of_length_le (by omega)]
 rfl
theorem aPo {h:aA0} {i v sz d:Nat} {x:Bool} {cells:List AV} {rest:List (List AV)} {cs:List (AV × Bool)} (g:h[i]?=some (.arr v sz x (cells::rest))) (hc:aAk (freeze h d) cells=some cs):freeze h (d+1) (.ptr i v 0 0)=some (.vptr (cs.map (·.1)) 0,false):=by
 simp only [freeze,aA3,g,if_true,Q6,hc,Z8]
section
variable {t : TabD} {av gv : AV} (ha : LiG (LiG LiA) t.acts av) (hgv : LiR t.gotos gv) (hl : TabLen t) (g : GramD) (hg : g.Ok)
include ha hgv hl
omit hl in
theorem aQX (n:Nat) {l:List (Int × Int)} {cv:AV} (hc:LiA l cv) (hcl:l.length≤maxLen) (j:Int) (rl i rj:Int) (rv:AV):∀ (d k m:Nat) (last:Int) (h:aA0),l.length=k+d→d < m→h[0]?=some (.arr 0 5 true [aA8 g])→h[1]?=some (.arr 0 2 true [[av,gv]])→∃ (b:Bool) (h':aA0),
  h'[0]?=some (.arr 0 5 true [aA8 g])∧h'[1]?=some (.arr 0 2 true [[av,gv]]) ∧
  aAj (aA1 (lim G0.cfg) n aCH) m ⟨(J::J::.ptr 0 0 0 0::.ptr 1 0 0 0::J::J::J::.int .i64 j::J::.int .i64 last::J::J::J::J::J::J::J::J::J::J::J::J::J::J::J::J::J::J::J::J::J::J::J::J::J::J::J::J::J::J::av::.int .i64 rl::.int .i64 i::J::J::J::J::J::J::J::J::J::rv::.int .i64 rj::.int .i64 j::J::J::J::J::cv::.int .i64 l.length::.int .i64 k::J::J::J::J::J::J::J::J::J::J::J::J::J::J::J::J::J::J::J::J::J::J::J::J::J::J::J::J::J::J::J::J::J::J::J::J::J::J::J::J::[]),h⟩ =
   bif b then some (.exit 4,⟨(J::J::.ptr 0 0 0 0::.ptr 1 0 0 0::J::J::J::J::J::J::J::J::J::J::J::J::J::J::J::J::J::J::J::J::J::J::J::J::J::J::J::J::J::J::J::J::J::J::J::J::av::.int .i64 rl::.int .i64 i::J::J::J::J::J::J::J::J::J::rv::.int .i64 rj::.int .i64 j::J::J::J::J::J::J::J::J::J::J::J::J::J::J::J::J::J::J::J::J::J::J::J::J::J::J::J::J::J::J::J::J::J::J::J::J::J::J::J::J::J::J::J::J::J::J::J::[]),h'⟩) else some (.ret,⟨(J::J::J::J::.bool false::J::J::J::J::J::J::J::J::J::J::J::J::J::J::J::J::J::J::J::J::J::J::J::J::J::J::J::J::J::J::J::J::J::J::J::J::J::J::J::J::J::J::J::J::J::J::J::J::J::J::J::J::J::J::J::J::J::J::J::J::J::J::J::J::J::J::J::J::J::J::J::J::J::J::J::J::J::J::J::J::J::J::J::J::J::J::J::J::J::J::J::J::J::J::J::J::J::[]),h'⟩):=by
 rw [aAp] at hcl
 intro d
 induction d with
 | zero =>
  intro k m last h h1 h2 g0 g1
  obtain ⟨m,rfl⟩:∃ q,m=q+1:=⟨m - 1,by omega⟩
  have h3:¬ ((k:Int) < l.length):=by omega
  exact ⟨true,h,g0,g1,by simp only [aAb,aEn,Zaf,Zag,Zah,Zak,Zal,Zan,Zao,Zap,Zaw,Zaz,Zbc,Zbm,Zbu,Zcz,Zdb,Zdf,Zdg,Zdh,Q0,Q5,Q3,Q4,Zdl,decide_false,eq_self,cond_true,h3]⟩
 | succ d ih =>
  intro k m last h h1 h2 g0 g1
  obtain ⟨m,rfl⟩:∃ q,m=q+1:=⟨m - 1,by omega⟩
  have h3:k < l.length:=by omega
  have h3':(k:Int) < l.length:=by omega
  have hw:=aAV (n:=k) (by omega)
  obtain ⟨r,cr⟩:=aS3 ha hgv g j l[k]
  have ld1:aA2 h 2 true (.vptr (aAv l[k]) 0)=some (.agg (aAv l[k])):=by simp [aA2,aA4,part,aCU,aAv]
  have ca:cellsOf (.agg (aAv l[k]))=aAv l[k]:=rfl
  have s1:aAq (h++[.arr 0 2 true [[.int .i64 0,.int .i64 0]]]) 2 (.ptr h.length 0 0 0) (.agg (aAv l[k]))=some (h++[.arr 0 2 true [aAv l[k]]]):=aLH h 2 2 _ _ rfl rfl rfl
  have a0:aA2 (h++[.arr 0 2 true [aAv l[k]]]) 5 true (.ptr 0 0 0 0)=some (.agg (aA8 g)):=aJf (aAX g0 _) rfl
  have a1:aA2 (h++[.arr 0 2 true [aAv l[k]]]) 2 true (.ptr 1 0 0 0)=some (.agg [av,gv]):=aJf (aAX g1 _) rfl
  have a2:aA2 (h++[.arr 0 2 true [aAv l[k]]]) 2 true (.ptr h.length 0 0 0)=some (.agg (aAv l[k])):=aJf (aB9 h _) rfl
  by_cases q:r≤last
  ·exact ⟨false,h++[.arr 0 2 true [aAv l[k]]],aAX g0 _,aAX g1 _,by simp only [aAb,aEn,Zae,Zaf,Zag,Zah,Zai,Zak,Zam,Zan,Zao,Zaq,Zas,Zav,Zba,Zbc,Zbd,Zbe,Zbm,Zbo,Zbq,Zbs,Zbt,Zbu,Zcf,Zct,Zcu,Zcz,Zda,Zdb,Zdc,Zdd,Zde,Zdf,Zdg,Zdh,Q0,Q5,Q3,Q4,Zdl,Zdm,decide_true,Q1,Q2,Nat.reduceAdd,eq_self,cond_false,Q1,Q2,Q7,Q8,h3',hc.ix _ .i64 k h3,ld1,s1,a0,a1,a2,cr,q]⟩
  ·obtain ⟨b,h',k0,k1,e⟩:=ih (k+1) m r (h++[.arr 0 2 true [aAv l[k]]]) (by omega) (by omega) (aAX g0 _) (aAX g1 _)
   exact ⟨b,h',k0,k1,by simp only [aAb,aEn,Zae,Zaf,Zag,Zah,Zai,Zak,Zan,Zao,Zar,Zav,Zaw,Zay,Zbc,Zbd,Zbe,Zbm,Zbo,Zbq,Zbs,Zbt,Zbu,Zcf,Zct,Zcu,Zcz,Zda,Zdb,Zdc,Zdd,Zde,Zdf,Zdg,Zdh,Q0,Q5,Q3,Q4,Zdi,Zdl,Zdm,decide_true,decide_false,Q1,Q2,Nat.reduceAdd,eq_self,Q1,Q2,Q7,Q8,h3',hc.ix _ .i64 k h3,ld1,s1,a0,a1,a2,cr,q,hw,e]⟩
omit hl in
theorem aQY (n:Nat) (hn:maxLen < n) {row:List (List (Int × Int))} {rv:AV} (hr:LiG LiA row rv) (hrl:row.length≤maxLen∧∀ c ∈ row,c.length≤maxLen) (rl i:Int):∀ (d j m:Nat) (h:aA0),row.length=j+d→d < m→h[0]?=some (.arr 0 5 true [aA8 g])→h[1]?=some (.arr 0 2 true [[av,gv]])→∃ (b:Bool) (h':aA0),
  h'[0]?=some (.arr 0 5 true [aA8 g])∧h'[1]?=some (.arr 0 2 true [[av,gv]]) ∧
  aAj (aA1 (lim G0.cfg) n aCI) m ⟨(J::J::.ptr 0 0 0 0::.ptr 1 0 0 0::J::J::J::J::J::J::J::J::J::J::J::J::J::J::J::J::J::J::J::J::J::J::J::J::J::J::J::J::J::J::J::J::J::J::J::J::av::.int .i64 rl::.int .i64 i::J::J::J::J::J::J::J::J::J::rv::.int .i64 row.length::.int .i64 j::J::J::J::J::J::J::J::J::J::J::J::J::J::J::J::J::J::J::J::J::J::J::J::J::J::J::J::J::J::J::J::J::J::J::J::J::J::J::J::J::J::J::J::J::J::J::J::[]),h⟩ =
   bif b then some (.exit 2,⟨(J::J::.ptr 0 0 0 0::.ptr 1 0 0 0::J::J::J::J::J::J::J::J::J::J::J::J::J::J::J::J::J::J::J::J::J::J::J::J::J::J::J::J::J::J::J::J::J::J::J::J::av::.int .i64 rl::.int .i64 i::J::J::J::J::J::J::J::J::J::J::J::J::J::J::J::J::J::J::J::J::J::J::J::J::J::J::J::J::J::J::J::J::J::J::J::J::J::J::J::J::J::J::J::J::J::J::J::J::J::J::J::J::J::J::J::J::J::J::J::[]),h'⟩) else some (.ret,⟨(J::J::J::J::.bool false::J::J::J::J::J::J::J::J::J::J::J::J::J::J::J::J::J::J::J::J::J::J::J::J::J::J::J::J::J::J::J::J::J::J::J::J::J::J::J::J::J::J::J::J::J::J::J::J::J::J::J::J::J::J::J::J::J::J::J::J::J::J::J::J::J::J::J::J::J::J::J::J::J::J::J::J::J::J::J::J::J::J::J::J::J::J::J::J::J::J::J::J::J::J::J::J::J::[]),h'⟩):=by
 obtain ⟨hrl,hcl⟩:=hrl
 have hrl':=hrl
 rw [aAp] at hrl'
 intro d
 induction d with
 | zero =>
  intro j m h h1 h2 g0 g1
  obtain ⟨m,rfl⟩:∃ q,m=q+1:=⟨m - 1,by omega⟩
  have h3:¬ ((j:Int) < row.length):=by omega
  exact ⟨true,h,g0,g1,by simp only [aAb,aEo,Zaf,Zag,Zah,Zak,Zal,Zan,Zao,Zap,Zaw,Zaz,Zbc,Zbm,Zbu,Zcz,Zdb,Zdf,Zdg,Zdh,Q0,Q5,Q3,Q4,Zdl,decide_false,Int.reduceNeg,eq_self,cond_true,h3]⟩
 | succ d ih =>
  intro j m h h1 h2 g0 g1
  obtain ⟨m,rfl⟩:∃ q,m=q+1:=⟨m - 1,by omega⟩
  have h3:j < row.length:=by omega
  have h3':(j:Int) < row.length:=by omega
  have hw:=aAV (n:=j) (by omega)
  obtain ⟨cv,c1,c2⟩:=hr.ix j h3
  have hcm:=hcl _ (List.getElem_mem h3)
  obtain ⟨b,h4,k0,k1,e⟩:=aQX ha hgv g n c1 hcm j rl i row.length rv (row[j]).length 0 n (-1) h (by omega) (by omega) g0 g1
  rw [z0] at e
  cases b
  ·rw [cond_false] at e
   exact ⟨false,h4,k0,k1,by simp only [aAb,aEo,Zae,Zaf,Zag,Zah,Zai,Zaj,Zak,Zan,Zao,Zaq,Zas,Zav,Zax,Zba,Zbc,Zbm,Zbo,Zbs,Zbu,Zcf,Zck,Zcz,Zda,Zdb,Zdf,Zdg,Zdh,Q0,Q5,Q3,Q4,Z0,Zdl,Zed,decide_true,Q1,Q2,if_true,Nat.reduceAdd,Nat.reduceLeDiff,Int.reduceNeg,eq_self,cond_false,aA2,aA4,part,Z1,Q9,Z3,Q0,h3',c2,c1.len,e]⟩
  ·rw [cond_true] at e
   obtain ⟨b,h',q0,q1,e2⟩:=ih (j+1) m h4 (by omega) (by omega) k0 k1
   exact ⟨b,h',q0,q1,by simp only [aAb,aEo,Zae,Zaf,Zag,Zah,Zai,Zaj,Zak,Zan,Zao,Zar,Zat,Zav,Zax,Zay,Zbc,Zbm,Zbo,Zbs,Zbu,Zcf,Zck,Zcz,Zda,Zdb,Zdf,Zdg,Zdh,Q0,Q5,Q3,Q4,Z0,Zdi,Zdl,Zed,decide_true,Q1,Q2,if_true,Nat.reduceAdd,Nat.reduceLeDiff,Int.reduceNeg,eq_self,aA2,aA4,part,Z1,Q9,Z3,Q0,h3',c2,c1.len,e,hw,e2]⟩
theorem aQZ (n:Nat) (hn:maxLen < n):∀ (d i m:Nat) (h:aA0),t.acts.length=i+d→d < m→h[0]?=some (.arr 0 5 true [aA8 g])→h[1]?=some (.arr 0 2 true [[av,gv]])→∃ (b:Bool) (h':aA0),
  h'[0]?=some (.arr 0 5 true [aA8 g])∧h'[1]?=some (.arr 0 2 true [[av,gv]]) ∧
  aAj (aA1 (lim G0.cfg) n aCJ) m ⟨(J::J::.ptr 0 0 0 0::.ptr 1 0 0 0::J::J::J::J::J::J::J::J::J::J::J::J::J::J::J::J::J::J::J::J::J::J::J::J::J::J::J::J::J::J::J::J::J::J::J::J::av::.int .i64 t.acts.length::.int .i64 i::J::J::J::J::J::J::J::J::J::J::J::J::J::J::J::J::J::J::J::J::J::J::J::J::J::J::J::J::J::J::J::J::J::J::J::J::J::J::J::J::J::J::J::J::J::J::J::J::J::J::J::J::J::J::J::J::J::J::J::[]),h⟩ =
   bif b then some (.exit 0,⟨(J::J::.ptr 0 0 0 0::.ptr 1 0 0 0::J::J::J::J::J::J::J::J::J::J::J::J::J::J::J::J::J::J::J::J::J::J::J::J::J::J::J::J::J::J::J::J::J::J::J::J::J::J::J::J::J::J::J::J::J::J::J::J::J::J::J::J::J::J::J::J::J::J::J::J::J::J::J::J::J::J::J::J::J::J::J::J::J::J::J::J::J::J::J::J::J::J::J::J::J::J::J::J::J::J::J::J::J::J::J::J::J::J::[]),h'⟩) else some (.ret,⟨(J::J::J::J::.bool false::J::J::J::J::J::J::J::J::J::J::J::J::J::J::J::J::J::J::J::J::J::J::J::J::J::J::J::J::J::J::J::J::J::J::J::J::J::J::J::J::J::J::J::J::J::J::J::J::J::J::J::J::J::J::J::J::J::J::J::J::J::J::J::J::J::J::J::J::J::J::J::J::J::J::J::J::J::J::J::J::J::J::J::J::J::J::J::J::J::J::J::J::J::J::J::J::J::[]),h'⟩):=by
 have hal:=hl.acts
 rw [aAp] at hal
 intro d
 induction d with
 | zero =>
  intro i m h h1 h2 g0 g1
  obtain ⟨m,rfl⟩:∃ q,m=q+1:=⟨m - 1,by omega⟩
  have h3:¬ ((i:Int) < t.acts.length):=by omega
  exact ⟨true,h,g0,g1,by simp only [aAb,aDg,Zaf,Zag,Zah,Zak,Zal,Zan,Zao,Zap,Zaw,Zaz,Zbc,Zbm,Zbu,Zcz,Zdb,Zdf,Zdg,Zdh,Q0,Q5,Q3,Q4,Zdl,decide_false,eq_self,cond_true,h3]⟩
 | succ d ih =>
  intro i m h h1 h2 g0 g1
  obtain ⟨m,rfl⟩:∃ q,m=q+1:=⟨m - 1,by omega⟩
  have h3:i < t.acts.length:=by omega
  have h3':(i:Int) < t.acts.length:=by omega
  have hw:=aAV (n:=i) (by omega)
  obtain ⟨rv,c1,c2⟩:=ha.ix i h3
  have hrm:=hl.row _ (List.getElem_mem h3)
  have a0:aA2 h 1 false (.ptr 0 0 0 0)=some (.vsl false (eSs g.terms)):=by rw [aRY _ 1 0 0 0 0 false 5 true _ _ g0 rfl];rfl
  by_cases q:((t.acts[i]).length:Int)=g.terms.length
  ·obtain ⟨b,h4,k0,k1,e⟩:=aQY ha hgv g n hn c1 hrm t.acts.length i (t.acts[i]).length 0 n h (by omega) (by omega) g0 g1
   rw [z0] at e
   rw [q] at e
   cases b
   ·rw [cond_false] at e
    exact ⟨false,h4,k0,k1,by simp only [aAb,aDg,Zae,Zaf,Zag,Zah,Zai,Zaj,Zak,Zan,Zao,Zaq,Zas,Zav,Zaw,Zax,Zba,Zbc,Zbm,Zbo,Zbs,Zbu,Zcc,Zcf,Zck,Zcz,Zda,Zdb,Zdf,Zdg,Zdh,Q0,Q5,Q3,Q4,Z0,Zdl,Zdq,Zdx,Zeb,Zed,Zeu,decide_true,Z9,Q6,Q1,Q2,if_true,Nat.reduceAdd,Nat.reduceLeDiff,eq_self,cond_false,aA2,aA4,aA3,part,Z1,Q9,Z2,Z3,Q0,g0,h3',c2,c1.len,q,e]⟩
   ·rw [cond_true] at e
    obtain ⟨b,h',q0,q1,e2⟩:=ih (i+1) m h4 (by omega) (by omega) k0 k1
    exact ⟨b,h',q0,q1,by simp only [aAb,aDg,Zae,Zaf,Zag,Zah,Zai,Zaj,Zak,Zan,Zao,Zar,Zat,Zav,Zaw,Zax,Zay,Zbc,Zbm,Zbo,Zbs,Zbu,Zcc,Zcf,Zck,Zcz,Zda,Zdb,Zdf,Zdg,Zdh,Q0,Q5,Q3,Q4,Z0,Zdi,Zdl,Zdq,Zdx,Zeb,Zed,Zeu,decide_true,Z9,Q6,Q1,Q2,if_true,Nat.reduceAdd,Nat.reduceLeDiff,eq_self,aA2,aA4,aA3,part,Z1,Q9,Z2,Z3,Q0,g0,h3',c2,c1.len,q,e,hw,e2]⟩
  ·exact ⟨false,h,g0,g1,by simp only [aAb,aDg,Zae,Zaf,Zag,Zah,Zai,Zak,Zam,Zan,Zao,Zaq,Zas,Zav,Zba,Zbc,Zbm,Zbo,Zbs,Zbu,Zcc,Zcf,Zck,Zcz,Zda,Zdb,Zdf,Zdg,Zdh,Q0,Q5,Q3,Q4,Z0,Zdl,Zdq,Zdx,Zeb,Zed,Zeu,decide_true,decide_false,Y1,Q6,Q1,Q2,if_true,Nat.reduceAdd,Nat.reduceLeDiff,eq_self,cond_false,aA2,aA4,aA3,part,Z1,Q9,Z2,Z3,Q0,g0,h3',c2,c1.len,q]⟩
omit hgv hl in
theorem aPq (x:Int) (H:aA0):lim G0.cfg (.func 45) [.int .i64 x,.vptr [av,gv] 0] H=some (.bool (decide (x < -1) || decide ((t.acts.length:Int)≤x)),H):=by
 refine aAy rfl rfl aGi 1 (fun h=>aDX rfl rfl) ?_ (fun _=>rfl) H
 ·rw [aJt]
  by_cases q1:x < -1
  ·simp only [Zaf,Zag,Zam,Zan,Zao,Zbc,Zbh,Zbk,Zbm,Zbn,Zbo,Zbp,Zbu,Zcy,Zcz,Zda,Zdb,Q0,Q5,Q3,Q4,Z8,Zdl,decide_true,Q1,Q2,Nat.reduceAdd,Nat.reduceSub,Int.reduceNeg,eq_self,true_and,Q1,Q2,Z4,Z5,Q7,Q8,Q7,Q8,Q0,q1,aA6,aA5,aA7,Z6,Prod.mk.injEq,true_and,Bool.true_or,exists_eq']
  ·by_cases q2:(t.acts.length:Int)≤x
   ·simp only [Zaf,Zag,Zam,Zan,Zao,Zbc,Zbg,Zbl,Zbm,Zbn,Zbo,Zbp,Zbs,Zbu,Zcc,Zck,Zcy,Zcz,Zda,Zdb,Q0,Q5,Q3,Q4,Z0,Z8,Zdl,Zdo,Zec,Zed,decide_true,decide_false,Q1,Q2,if_true,Nat.reduceAdd,Nat.reduceSub,Nat.reduceLeDiff,Int.reduceNeg,eq_self,true_and,Q1,Q2,Z4,Z5,Q7,Q8,aA2,aA4,part,Z1,Q9,Z2,Q7,Q8,Q0,ha.len,q1,q2,aA6,aA5,aA7,Z6,Prod.mk.injEq,true_and,Bool.or_true,exists_eq']
   ·simp only [Zaf,Zag,Zam,Zan,Zao,Zbc,Zbg,Zbl,Zbm,Zbn,Zbo,Zbp,Zbs,Zbu,Zcc,Zck,Zcy,Zcz,Zda,Zdb,Q0,Q5,Q3,Q4,Z0,Z8,Zdl,Zdo,Zec,Zed,decide_false,Q1,Q2,if_true,Nat.reduceAdd,Nat.reduceSub,Nat.reduceLeDiff,Int.reduceNeg,eq_self,true_and,Q1,Q2,Z4,Z5,Q7,Q8,aA2,aA4,part,Z1,Q9,Z2,Q7,Q8,Q0,ha.len,q1,q2,aA6,aA5,aA7,Z6,Prod.mk.injEq,true_and,Bool.or_false,exists_eq']
theorem aQW (n:Nat) (hN:1≤g.nonterms.length):∀ (d i m:Nat) (h:aA0),t.gotos.length=i+d→d < m→h[0]?=some (.arr 0 5 true [aA8 g])→h[1]?=some (.arr 0 2 true [[av,gv]])→∃ (b:Bool),
  aAj (aA1 (lim G0.cfg) n aCG) m ⟨(J::J::.ptr 0 0 0 0::.ptr 1 0 0 0::J::J::J::J::J::J::J::J::J::J::J::J::J::J::J::J::J::J::J::J::J::J::J::J::J::J::J::J::J::J::J::J::J::J::J::J::J::J::J::J::J::J::J::J::J::J::J::J::J::J::J::J::J::J::J::J::J::J::J::J::J::J::J::J::J::J::J::J::J::J::J::J::J::J::gv::.int .i64 t.gotos.length::.int .i64 i::J::J::J::J::J::J::J::J::J::J::J::J::J::J::J::J::J::J::J::J::J::[]),h⟩ =
   bif b then some (.exit 6,⟨(J::J::J::J::J::J::J::J::J::J::J::J::J::J::J::J::J::J::J::J::J::J::J::J::J::J::J::J::J::J::J::J::J::J::J::J::J::J::J::J::J::J::J::J::J::J::J::J::J::J::J::J::J::J::J::J::J::J::J::J::J::J::J::J::J::J::J::J::J::J::J::J::J::J::J::J::J::J::J::J::J::J::J::J::J::J::J::J::J::J::J::J::J::J::J::J::J::J::J::J::J::J::[]),h⟩) else some (.ret,⟨(J::J::J::J::.bool false::J::J::J::J::J::J::J::J::J::J::J::J::J::J::J::J::J::J::J::J::J::J::J::J::J::J::J::J::J::J::J::J::J::J::J::J::J::J::J::J::J::J::J::J::J::J::J::J::J::J::J::J::J::J::J::J::J::J::J::J::J::J::J::J::J::J::J::J::J::J::J::J::J::J::J::J::J::J::J::J::J::J::J::J::J::J::J::J::J::J::J::J::J::J::J::J::J::[]),h⟩):=by
 have hal:=hl.gotos
 rw [aAp] at hal
 intro d
 induction d with
 | zero =>
  intro i m h h1 h2 g0 g1
  obtain ⟨m,rfl⟩:∃ q,m=q+1:=⟨m - 1,by omega⟩
  have h3:¬ ((i:Int) < t.gotos.length):=by omega
  exact ⟨true,by simp only [aAb,aCd,Zaf,Zag,Zah,Zak,Zal,Zan,Zao,Zap,Zaw,Zaz,Zbc,Zbm,Zbu,Zcz,Zdb,Zdg,Zdh,Q0,Q5,Q3,Q4,Zdl,decide_false,Int.reduceNeg,eq_self,cond_true,h3]⟩
 | succ d ih =>
  intro i m h h1 h2 g0 g1
  obtain ⟨m,rfl⟩:∃ q,m=q+1:=⟨m - 1,by omega⟩
  have h3:i < t.gotos.length:=by omega
  have h3':(i:Int) < t.gotos.length:=by omega
  have hw:=aAV (n:=i) (by omega)
  obtain ⟨rv,c1,c2⟩:=hgv.ix i h3
  have hrm:=hl.grow _ (List.getElem_mem h3)
  have nil:([]:List AV).length=0:=rfl
  by_cases q:((t.gotos[i]).length:Int)=g.nonterms.length
  ·have hi0:0 < (t.gotos[i]).length:=by omega
   have i0:=fun h=>c1.ix h .i64 0 hi0
   simp only [z0] at i0
   by_cases q2:(t.gotos[i])[0] = -1
   ·have hf:aAk (freeze h 999) [AV.ptr 1 0 0 0]=some [(.vptr [av,gv] 0,false)]:=by
     have f1:freeze h 998 av=some (av,true):=ha.fz h 997
     have f2:freeze h 998 gv=some (gv,true):=hgv.fz h 997
     have fp:freeze h 999 (.ptr 1 0 0 0)=some (.vptr [av,gv] 0,false):=aPo (d:=998) g1 (aFd f1 f2)
     exact aPg fp
    have cf:lim G0.cfg (.func 22) [rv,.fn (.func 45) [] [.ptr 1 0 0 0]] h=some (.bool ((t.gotos[i]).any fun x=>decide (x < -1) || decide ((t.acts.length:Int)≤x)),h) :=
     aQu c1 (caps':=[.vptr [av,gv] 0]) hf rfl (fun x _ H=>aPq ha x H) hrm (fun _=>rfl)
    generalize ((t.gotos[i]).any fun x=>decide (x < -1) || decide ((t.acts.length:Int)≤x))=bb at cf
    cases bb
    ·obtain ⟨b,e⟩:=ih (i+1) m h (by omega) (by omega) g0 g1
     exact ⟨b,by simp only [aAb,aCd,Zae,Zaf,Zag,Zah,Zai,Zak,Zan,Zao,Zar,Zav,Zaw,Zay,Zbc,Zbd,Zbg,Zbl,Zbm,Zbn,Zbo,Zbp,Zbs,Zbu,Zbx,Zcc,Zcf,Zck,Zct,Zcu,Zcz,Zda,Zdb,Zdd,Zde,Zdf,Zdg,Zdh,Q0,Q5,Q3,Q4,Z0,Zdi,Zdl,Zdq,Zdx,Zeb,Zed,Zeu,decide_true,Z9,Q6,Q1,Q2,if_true,Nat.reduceAdd,Nat.reduceLeDiff,Int.reduceNeg,eq_self,aA2,aA4,aA3,part,eI,Z1,Z7,Q9,Z2,Z3,Q7,Q8,Q0,g0,h3',c2,c1.len,i0,q,q2,cf,hw,e]⟩
    ·exact ⟨false,by simp only [aAb,aCd,Zae,Zaf,Zag,Zah,Zai,Zak,Zam,Zan,Zao,Zaq,Zas,Zav,Zba,Zbc,Zbd,Zbg,Zbl,Zbm,Zbn,Zbo,Zbp,Zbs,Zbu,Zbx,Zcc,Zcf,Zck,Zct,Zcu,Zcz,Zda,Zdb,Zdd,Zde,Zdf,Zdg,Zdh,Q0,Q5,Q3,Q4,Z0,Zdl,Zdq,Zdx,Zeb,Zed,Zeu,decide_true,Z9,Q6,Q1,Q2,if_true,Nat.reduceAdd,Nat.reduceLeDiff,Int.reduceNeg,eq_self,cond_false,aA2,aA4,aA3,part,eI,Z1,Z7,Q9,Z2,Z3,Q7,Q8,Q0,g0,h3',c2,c1.len,i0,q,q2,cf]⟩
   ·exact ⟨false,by simp only [aAb,aCd,Zae,Zaf,Zag,Zah,Zai,Zak,Zam,Zan,Zao,Zaq,Zas,Zav,Zba,Zbc,Zbg,Zbh,Zbk,Zbl,Zbm,Zbn,Zbo,Zbp,Zbs,Zbu,Zcc,Zcf,Zck,Zcz,Zda,Zdb,Zdf,Zdg,Zdh,Q0,Q5,Q3,Q4,Z0,Zdl,Zdq,Zdx,Zeb,Zed,Zeu,decide_true,decide_false,Z9,Y1,Q6,Q1,Q2,if_true,Nat.reduceAdd,Nat.reduceLeDiff,Int.reduceNeg,eq_self,cond_false,aA2,aA4,aA3,part,eI,Z1,Z7,Q9,Z2,Z3,Q0,g0,h3',c2,c1.len,i0,q,q2]⟩
  ·exact ⟨false,by simp only [aAb,aCd,Zae,Zaf,Zag,Zah,Zai,Zak,Zam,Zan,Zao,Zaq,Zas,Zav,Zba,Zbc,Zbh,Zbk,Zbm,Zbn,Zbo,Zbp,Zbs,Zbu,Zcc,Zcf,Zck,Zcz,Zda,Zdb,Zdf,Zdg,Zdh,Q0,Q5,Q3,Q4,Z0,Zdl,Zdq,Zdx,Zeb,Zed,Zeu,decide_true,decide_false,Y1,Q6,Q1,Q2,if_true,Nat.reduceAdd,Nat.reduceLeDiff,Int.reduceNeg,eq_self,cond_false,aA2,aA4,aA3,part,Z1,Z7,Q9,Z2,Z3,Q0,g0,h3',c2,c1.len,q]⟩
include hg
theorem aQm (h0:aBl g=0):∃ b,∀ H,lim G0.cfg (.func 34) [.agg (aA8 g),.agg [av,gv]] H=some (.bool b,H):=by
 have hla:=hl.acts
 have hlg:=hl.gotos
 have hN:=(aGF h0).2.1
 have cr:=aNQ g hg
 rw [h0] at cr
 obtain ⟨N,hNN⟩:∃ N,N=maxLen+1:=⟨_,rfl⟩
 obtain ⟨b0,h4,k0,k1,e0⟩:=aQZ ha hgv hl g N (by omega) t.acts.length 0 N [.arr 0 5 true [aA8 g],.arr 0 2 true [[av,gv]]] (by omega) (by omega) rfl rfl
 obtain ⟨b3,e3⟩:=aQW ha hgv hl g N hN t.gotos.length 0 N h4 (by omega) (by omega) k0 k1
 rw [z0] at e0 e3
 have key:∃ b h',aAS (lim G0.cfg) N aCx [.agg (aA8 g),.agg [av,gv]] []=some (.bool b,h'):=by
  rw [aLc]
  by_cases q1:(t.acts.length:Int) < 1
  ·exact ⟨false,by simp only [Zaf,Zag,Zah,Zam,Zan,Zao,Zaq,Zav,Zbc,Zbd,Zbg,Zbh,Zbk,Zbl,Zbm,Zbn,Zbo,Zbp,Zbr,Zbs,Zbu,Zcc,Zck,Zct,Zcu,Zcw,Zcy,Zcz,Zda,Zdb,Zdd,Zde,Q0,Q5,Q3,Q4,Z0,Z8,Zdl,Zdq,Zeb,Zed,Zee,Zef,decide_true,Z9,Q6,Y0,Q1,Q2,if_true,Nat.reduceAdd,Nat.reduceSub,Nat.reduceLeDiff,eq_self,true_and,Q1,Q2,Z4,Z5,Q7,Q8,aA2,aA4,aA3,part,Z1,Q9,Z2,Z3,Q7,Q8,Q0,cr,ha.len,q1,aA6,aA5,aA7,Z6,Prod.mk.injEq,true_and,exists_eq']⟩
  ·by_cases q2:(4096:Int) < t.acts.length
   ·exact ⟨false,by simp only [Zaf,Zag,Zah,Zam,Zan,Zao,Zaq,Zav,Zbc,Zbd,Zbg,Zbh,Zbk,Zbl,Zbm,Zbn,Zbo,Zbp,Zbr,Zbs,Zbu,Zcc,Zck,Zct,Zcu,Zcw,Zcy,Zcz,Zda,Zdb,Zdd,Zde,Q0,Q5,Q3,Q4,Z0,Z8,Zdl,Zdn,Zdq,Zeb,Zed,Zee,Zef,decide_true,decide_false,Z9,Q6,Y0,Q1,Q2,if_true,Nat.reduceAdd,Nat.reduceSub,Nat.reduceLeDiff,eq_self,true_and,Q1,Q2,Z4,Z5,Q7,Q8,aA2,aA4,aA3,part,Z1,Q9,Z2,Z3,Q7,Q8,Q0,cr,ha.len,q1,q2,aA6,aA5,aA7,Z6,Prod.mk.injEq,true_and,exists_eq']⟩
   ·by_cases q3:(t.gotos.length:Int)=t.acts.length
    ·cases b0
     ·rw [cond_false] at e0
      exact ⟨false,by simp only [Zae,Zaf,Zag,Zah,Zai,Zaj,Zak,Zan,Zao,Zaq,Zas,Zaw,Zax,Zbc,Zbd,Zbg,Zbl,Zbm,Zbn,Zbo,Zbp,Zbr,Zbs,Zbu,Zcc,Zck,Zct,Zcu,Zcw,Zcy,Zcz,Zda,Zdb,Zdd,Zde,Zdf,Zdg,Zdh,Q0,Q5,Q3,Q4,Z0,Z8,Zdl,Zdn,Zdq,Zeb,Zed,Zee,Zef,decide_true,decide_false,Z9,Q6,Y0,Q1,Q2,if_true,Nat.reduceAdd,Nat.reduceSub,Nat.reduceLeDiff,eq_self,true_and,Q1,Q2,Z4,Z5,Q7,Q8,aA2,aA4,aA3,part,Z1,Z7,Q9,Z2,Z3,Q7,Q8,Q0,cr,ha.len,hgv.len,q1,q2,q3,e0,aA6,aA5,aA7,Z6,Prod.mk.injEq,true_and,exists_eq']⟩
     ·rw [cond_true] at e0
      rw [q3] at e3
      cases b3
      ·rw [cond_false] at e3
       exact ⟨false,by simp only [Zae,Zaf,Zag,Zah,Zai,Zaj,Zak,Zan,Zao,Zaq,Zas,Zat,Zaw,Zax,Zbc,Zbd,Zbg,Zbl,Zbm,Zbn,Zbo,Zbp,Zbr,Zbs,Zbu,Zcc,Zck,Zct,Zcu,Zcw,Zcy,Zcz,Zda,Zdb,Zdd,Zde,Zdf,Zdg,Zdh,Q0,Q5,Q3,Q4,Z0,Z8,Zdl,Zdn,Zdq,Zeb,Zed,Zee,Zef,decide_true,decide_false,Z9,Q6,Y0,Q1,Q2,if_true,Nat.reduceAdd,Nat.reduceSub,Nat.reduceLeDiff,eq_self,true_and,Q1,Q2,Z4,Z5,Q7,Q8,aA2,aA4,aA3,part,Z1,Z7,Q9,Z2,Z3,Q7,Q8,Q0,cr,ha.len,hgv.len,q1,q2,q3,e0,k1,e3,aA6,aA5,aA7,Z6,Prod.mk.injEq,true_and,exists_eq']⟩
      ·rw [cond_true] at e3
       exact ⟨true,by simp only [Zae,Zaf,Zag,Zah,Zai,Zaj,Zak,Zam,Zan,Zao,Zat,Zaw,Zax,Zbc,Zbd,Zbg,Zbl,Zbm,Zbn,Zbo,Zbp,Zbr,Zbs,Zbu,Zcc,Zck,Zct,Zcu,Zcw,Zcy,Zcz,Zda,Zdb,Zdd,Zde,Zdf,Zdg,Zdh,Q0,Q5,Q3,Q4,Z0,Z8,Zdl,Zdn,Zdq,Zeb,Zed,Zee,Zef,decide_true,decide_false,Z9,Q6,Y0,Q1,Q2,if_true,Nat.reduceAdd,Nat.reduceSub,Nat.reduceLeDiff,eq_self,true_and,Q1,Q2,Z4,Z5,Q7,Q8,aA2,aA4,aA3,part,Z1,Z7,Q9,Z2,Z3,Q7,Q8,Q0,cr,ha.len,hgv.len,q1,q2,q3,e0,k1,e3,aA6,aA5,aA7,Z6,Prod.mk.injEq,true_and,exists_eq']⟩
    ·exact ⟨false,by simp only [Zaf,Zag,Zah,Zam,Zan,Zao,Zaq,Zav,Zbc,Zbd,Zbg,Zbl,Zbm,Zbn,Zbo,Zbp,Zbr,Zbs,Zbu,Zcc,Zck,Zct,Zcu,Zcw,Zcy,Zcz,Zda,Zdb,Zdd,Zde,Q0,Q5,Q3,Q4,Z0,Z8,Zdl,Zdn,Zdq,Zeb,Zed,Zee,Zef,decide_true,decide_false,Z9,Y1,Q6,Y0,Q1,Q2,if_true,Nat.reduceAdd,Nat.reduceSub,Nat.reduceLeDiff,eq_self,true_and,Q1,Q2,Z4,Z5,Q7,Q8,aA2,aA4,aA3,part,Z1,Z7,Q9,Z2,Z3,Q7,Q8,Q0,cr,ha.len,hgv.len,q1,q2,q3,aA6,aA5,aA7,Z6,Prod.mk.injEq,true_and,exists_eq']⟩
 obtain ⟨b,h',e⟩:=key
 exact ⟨b,fun H=>aAy rfl rfl aHj _ (fun h=>aDX (aAU g h) (aEy ha hgv h)) ⟨h',e⟩ (fun _=>rfl) H⟩
end
end Go.Proofs.Yteenffomgdfocaa.Ai
