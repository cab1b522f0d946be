/- The reference's check of a table, walked: what holds if it says yes. -/
import Derived.Test.YteenffomgdfocaamXD
import Derived.Test.YteenffomgdfocaamXG
import Derived.Test.YteenffomgdfocaamXE
namespace Go.Proofs.Yteenffomgdfocaa.Ai
open Go Go.Proofs
open AV renaming junk → J
open List renaming set_cons_zero → Q0, getD_cons_zero → Q1, getD_cons_succ → Q2, set_cons_succ → Q3, cons_append → Q4, nil_append → Q5, length_cons → Q6, length_nil → Q7, length_map → Q8, replicate_succ → Q9, replicate_zero → Z0, getElem?_cons_zero → Z4, take_succ_cons → Z5
open Bool renaming not_true → Z1, not_false → Z6
open Option.some renaming injEq → Z2
open Option renaming map_some → Z3
set_option linter.unusedVariables false
set_option linter.unusedSimpArgs false
set_option maxRecDepth 10000
set_option maxHeartbeats 4000000
def aF6 (a:Int × Int):Int:=if a.1=2 then 2 else if a.1=3 then 1 else 0
theorem aFb (a:Int × Int) (H:aA0):lim G0.cfg (.func 29) [.agg (aAv a)] H=some (.int .i64 (aF6 a),H):=by
 refine aAy rfl rfl aOI 1 (fun h=>aFq ?_) ?_ (fun _=>rfl) H
 ·show (aAk (freeze h 999) [.int .i64 a.1,.int .i64 a.2]).map (fun l=>(AV.agg (l.map (·.1)),l.all (·.2)))=_
  rfl
 ·obtain ⟨k,n⟩:=a
  rw [aOE]
  unfold aF6
  by_cases k2:k=2
  ·subst k2
   simp only [Zaf,Zag,Zah,Zam,Zan,Zao,Zaq,Zav,Zbc,Zbd,Zbm,Zbo,Zbr,Zbs,Zbu,Zcc,Zcw,Zcy,Zcz,Zda,Zdb,Q0,Q3,Q1,Q2,Option.bind_some,Z3,Zdp,Zeb,Zed,Zef,decide_true,Z4,Q6,Q7,if_true,if_false,Nat.reduceAdd,Nat.reduceSub,Nat.reduceLeDiff,Int.reduceEq,eq_self,true_and,Q6,Q7,Q9,Z0,Q4,Q5,aA2,aA4,aA3,part,List.drop_zero,Z5,List.take_zero,Q4,Q5,Q0,aAv,aA6,aA5,aA7,Z2,Prod.mk.injEq,true_and,exists_eq']
  ·by_cases k3:k=3
   ·subst k3
    simp only [Zae,Zaf,Zag,Zah,Zam,Zan,Zao,Zaq,Zav,Zaw,Zbc,Zbd,Zbm,Zbo,Zbr,Zbs,Zbu,Zcc,Zcw,Zcy,Zcz,Zda,Zdb,Q0,Q3,Q1,Q2,Option.bind_some,Z3,Zdp,Zeb,Zed,Zef,decide_true,decide_false,Z4,Q6,Q7,if_true,if_false,Nat.reduceAdd,Nat.reduceSub,Nat.reduceLeDiff,Int.reduceEq,eq_self,true_and,Q6,Q7,Q9,Z0,Q4,Q5,aA2,aA4,aA3,part,List.drop_zero,Z5,List.take_zero,Q4,Q5,Q0,aAv,aA6,aA5,aA7,Z2,Prod.mk.injEq,true_and,exists_eq']
   ·simp only [Zae,Zaf,Zag,Zah,Zam,Zan,Zao,Zaw,Zbc,Zbd,Zbm,Zbo,Zbr,Zbs,Zbu,Zcc,Zcw,Zcy,Zcz,Zda,Zdb,Q0,Q3,Q1,Q2,Option.bind_some,Z3,Zdp,Zeb,Zed,Zef,decide_false,Z4,Q6,Q7,if_true,if_false,Nat.reduceAdd,Nat.reduceSub,Nat.reduceLeDiff,eq_self,true_and,Q6,Q7,Q9,Z0,Q4,Q5,aA2,aA4,aA3,part,List.drop_zero,Z5,List.take_zero,Q4,Q5,Q0,aAv,k2,k3,aA6,aA5,aA7,Z2,Prod.mk.injEq,true_and,exists_eq']
def aDR (R S:Int) (a:Int × Int):Prop:=(a.1=1∧0≤a.2∧a.2 < S)∨(a.1=2∧1≤a.2∧a.2 < R)∨(a.1≠1∧a.1≠2)
section
variable (g:GramD) {l:List (Int × Int)} {v:AV} (hl:LiA l v) (hm:l.length≤maxLen) (term S:Int)
include hl hm
theorem aRn (h3:0 < l.length) (k1:l[0].1=1) (n m:Nat):aAj (aA1 (lim G0.cfg) n aAr) (m+1) ⟨(J::v::.int .i64 term::.int .i64 S::.ptr 0 0 0 0::J::J::J::J::.int .i64 (0:Int)::J::J::J::J::J::J::J::J::J::J::J::J::J::J::J::J::J::J::J::J::J::J::J::J::J::J::J::J::J::J::J::J::J::J::J::J::J::J::J::J::J::J::J::J::J::J::J::J::J::J::J::J::J::J::J::J::J::J::J::J::J::J::J::J::J::J::J::J::J::J::J::J::J::J::J::J::J::J::J::J::J::J::J::J::J::J::J::J::J::J::J::J::J::J::J::J::J::J::J::J::J::J::J::J::J::J::J::J::J::J::J::[]),[.arr 0 5 true [aA8 g]]⟩=some (.ret,⟨(J::J::J::J::J::J::J::J::.bool false::J::J::J::J::J::J::J::J::J::J::J::J::J::J::J::J::J::J::J::J::J::J::J::J::J::J::J::J::J::J::J::J::J::J::J::J::J::J::J::J::J::J::J::J::J::J::J::J::J::J::J::J::J::J::J::J::J::J::J::J::J::J::J::J::J::J::J::J::J::J::J::J::J::J::J::J::J::J::J::J::J::J::J::J::J::J::J::J::J::J::J::J::J::J::J::J::J::J::J::J::J::J::J::J::J::J::J::J::J::J::J::J::[]),[.arr 0 5 true [aA8 g]]⟩)∨(aDR g.rules.length S l[0]∧aAj (aA1 (lim G0.cfg) n aAr) (m+1) ⟨(J::v::.int .i64 term::.int .i64 S::.ptr 0 0 0 0::J::J::J::J::.int .i64 (0:Int)::J::J::J::J::J::J::J::J::J::J::J::J::J::J::J::J::J::J::J::J::J::J::J::J::J::J::J::J::J::J::J::J::J::J::J::J::J::J::J::J::J::J::J::J::J::J::J::J::J::J::J::J::J::J::J::J::J::J::J::J::J::J::J::J::J::J::J::J::J::J::J::J::J::J::J::J::J::J::J::J::J::J::J::J::J::J::J::J::J::J::J::J::J::J::J::J::J::J::J::J::J::J::J::J::J::J::J::J::J::J::J::[]),[.arr 0 5 true [aA8 g]]⟩=aAj (aA1 (lim G0.cfg) n aAr) m ⟨(J::v::.int .i64 term::.int .i64 S::.ptr 0 0 0 0::J::J::J::J::.int .i64 ((0+1:Nat):Int)::J::J::J::J::J::J::J::J::J::J::J::J::J::J::J::J::J::J::J::J::J::J::J::J::J::J::J::J::J::J::J::J::J::J::J::J::J::J::J::J::J::J::J::J::J::J::J::J::J::J::J::J::J::J::J::J::J::J::J::J::J::J::J::J::J::J::J::J::J::J::J::J::J::J::J::J::J::J::J::J::J::J::J::J::J::J::J::J::J::J::J::J::J::J::J::J::J::J::J::J::J::J::J::J::J::J::J::J::J::J::J::[]),[.arr 0 5 true [aA8 g]]⟩):=by
 have hm':=hm
 rw [aAp] at hm'
 have al2:∀ a:Int × Int,aA2 [.arr 0 5 true [aA8 g]] 2 true (.vptr (aAv a) 0)=some (.agg (aAv a)):=fun a=>rfl
 have al0:∀ a:Int × Int,aA2 [.arr 0 5 true [aA8 g]] 1 false (.vptr (aAv a) 0)=some (.int .i64 a.1):=fun a=>rfl
 have al1:∀ a:Int × Int,aA2 [.arr 0 5 true [aA8 g]] 1 false (.vptr (aAv a) 1)=some (.int .i64 a.2):=fun a=>rfl
 have alg:aA2 [.arr 0 5 true [aA8 g]] 1 false (.ptr 0 0 0 3)=some (.vsl false (g.rules.map aAt)):=rfl
 have h3':(0:Int) < l.length:=by omega
 have hw:=aAV (n:=0) (by omega)
 have ix:=fun h=>hl.ix h .i64 0 h3
 simp only [z0] at ix hw
 by_cases q1:term < 2
 ·exact .inl (by simp only [aAb,aAu,Zae,Zaf,Zag,Zah,Zai,Zak,Zam,Zan,Zao,Zaq,Zas,Zav,Zba,Zbc,Zbg,Zbh,Zbk,Zbl,Zbm,Zbn,Zbo,Zbp,Zbs,Zbu,Zcc,Zcf,Zck,Zcz,Zda,Zdb,Zdf,Zdg,Zdh,Q0,Q3,Q1,Q2,Zdl,Zdn,Zdp,Zec,decide_true,decide_false,Nat.reduceAdd,Int.reduceLT,eq_self,hl.len,h3',ix,al0,k1,q1])
 ·by_cases q2:l[0].2 < 0
  ·exact .inl (by simp only [aAb,aAu,Zae,Zaf,Zag,Zah,Zai,Zak,Zam,Zan,Zao,Zaq,Zas,Zav,Zba,Zbc,Zbg,Zbh,Zbk,Zbl,Zbm,Zbn,Zbo,Zbp,Zbs,Zbu,Zcc,Zcf,Zck,Zcz,Zda,Zdb,Zdf,Zdg,Zdh,Q0,Q3,Q1,Q2,Zdl,Zdn,Zdp,Zec,decide_true,decide_false,Nat.reduceAdd,Int.reduceLT,eq_self,hl.len,h3',ix,al0,al1,k1,q1,q2])
  ·by_cases q3:S≤l[0].2
   ·exact .inl (by simp only [aAb,aAu,Zae,Zaf,Zag,Zah,Zai,Zak,Zam,Zan,Zao,Zaq,Zas,Zav,Zba,Zbc,Zbg,Zbl,Zbm,Zbn,Zbo,Zbp,Zbs,Zbu,Zcc,Zcf,Zck,Zcz,Zda,Zdb,Zdf,Zdg,Zdh,Q0,Q3,Q1,Q2,Zdl,Zdn,Zdo,Zdp,Zec,decide_true,decide_false,Nat.reduceAdd,Int.reduceLT,eq_self,hl.len,h3',ix,al0,al1,k1,q1,q2,q3])
   ·exact .inr ⟨.inl ⟨k1,by omega,by omega⟩,by simp only [aAb,aAu,Zae,Zaf,Zag,Zah,Zai,Zak,Zan,Zao,Zar,Zav,Zaw,Zay,Zbc,Zbg,Zbi,Zbj,Zbl,Zbm,Zbn,Zbo,Zbp,Zbs,Zbu,Zcc,Zcf,Zck,Zcz,Zda,Zdb,Zdf,Zdg,Zdh,Q0,Q3,Q1,Q2,Zdi,Zdl,Zdn,Zdo,Zdp,Zec,decide_true,decide_false,Nat.reduceAdd,Int.reduceLT,eq_self,hl.len,h3',ix,al0,al1,k1,q1,q2,q3,hw]⟩
theorem aRl (h3:0 < l.length) (k1:l[0].1=3) (n m:Nat):aAj (aA1 (lim G0.cfg) n aAr) (m+1) ⟨(J::v::.int .i64 term::.int .i64 S::.ptr 0 0 0 0::J::J::J::J::.int .i64 (0:Int)::J::J::J::J::J::J::J::J::J::J::J::J::J::J::J::J::J::J::J::J::J::J::J::J::J::J::J::J::J::J::J::J::J::J::J::J::J::J::J::J::J::J::J::J::J::J::J::J::J::J::J::J::J::J::J::J::J::J::J::J::J::J::J::J::J::J::J::J::J::J::J::J::J::J::J::J::J::J::J::J::J::J::J::J::J::J::J::J::J::J::J::J::J::J::J::J::J::J::J::J::J::J::J::J::J::J::J::J::J::J::J::[]),[.arr 0 5 true [aA8 g]]⟩=some (.ret,⟨(J::J::J::J::J::J::J::J::.bool false::J::J::J::J::J::J::J::J::J::J::J::J::J::J::J::J::J::J::J::J::J::J::J::J::J::J::J::J::J::J::J::J::J::J::J::J::J::J::J::J::J::J::J::J::J::J::J::J::J::J::J::J::J::J::J::J::J::J::J::J::J::J::J::J::J::J::J::J::J::J::J::J::J::J::J::J::J::J::J::J::J::J::J::J::J::J::J::J::J::J::J::J::J::J::J::J::J::J::J::J::J::J::J::J::J::J::J::J::J::J::J::J::[]),[.arr 0 5 true [aA8 g]]⟩)∨(aDR g.rules.length S l[0]∧aAj (aA1 (lim G0.cfg) n aAr) (m+1) ⟨(J::v::.int .i64 term::.int .i64 S::.ptr 0 0 0 0::J::J::J::J::.int .i64 (0:Int)::J::J::J::J::J::J::J::J::J::J::J::J::J::J::J::J::J::J::J::J::J::J::J::J::J::J::J::J::J::J::J::J::J::J::J::J::J::J::J::J::J::J::J::J::J::J::J::J::J::J::J::J::J::J::J::J::J::J::J::J::J::J::J::J::J::J::J::J::J::J::J::J::J::J::J::J::J::J::J::J::J::J::J::J::J::J::J::J::J::J::J::J::J::J::J::J::J::J::J::J::J::J::J::J::J::J::J::J::J::J::J::[]),[.arr 0 5 true [aA8 g]]⟩=aAj (aA1 (lim G0.cfg) n aAr) m ⟨(J::v::.int .i64 term::.int .i64 S::.ptr 0 0 0 0::J::J::J::J::.int .i64 ((0+1:Nat):Int)::J::J::J::J::J::J::J::J::J::J::J::J::J::J::J::J::J::J::J::J::J::J::J::J::J::J::J::J::J::J::J::J::J::J::J::J::J::J::J::J::J::J::J::J::J::J::J::J::J::J::J::J::J::J::J::J::J::J::J::J::J::J::J::J::J::J::J::J::J::J::J::J::J::J::J::J::J::J::J::J::J::J::J::J::J::J::J::J::J::J::J::J::J::J::J::J::J::J::J::J::J::J::J::J::J::J::J::J::J::J::J::[]),[.arr 0 5 true [aA8 g]]⟩):=by
 have hm':=hm
 rw [aAp] at hm'
 have al2:∀ a:Int × Int,aA2 [.arr 0 5 true [aA8 g]] 2 true (.vptr (aAv a) 0)=some (.agg (aAv a)):=fun a=>rfl
 have al0:∀ a:Int × Int,aA2 [.arr 0 5 true [aA8 g]] 1 false (.vptr (aAv a) 0)=some (.int .i64 a.1):=fun a=>rfl
 have al1:∀ a:Int × Int,aA2 [.arr 0 5 true [aA8 g]] 1 false (.vptr (aAv a) 1)=some (.int .i64 a.2):=fun a=>rfl
 have alg:aA2 [.arr 0 5 true [aA8 g]] 1 false (.ptr 0 0 0 3)=some (.vsl false (g.rules.map aAt)):=rfl
 have h3':(0:Int) < l.length:=by omega
 have hw:=aAV (n:=0) (by omega)
 have ix:=fun h=>hl.ix h .i64 0 h3
 simp only [z0] at ix hw
 by_cases q1:term=0
 ·by_cases q2:l[0].2=0
  ·exact .inr ⟨.inr (.inr ⟨by omega,by omega⟩),by simp only [aAb,aAu,Zae,Zaf,Zag,Zah,Zai,Zak,Zan,Zao,Zar,Zav,Zaw,Zay,Zbc,Zbg,Zbi,Zbj,Zbl,Zbm,Zbn,Zbo,Zbp,Zbs,Zbu,Zcc,Zcf,Zck,Zcz,Zda,Zdb,Zdf,Zdg,Zdh,Q0,Q3,Q1,Q2,Zdi,Zdl,Zdn,Zdp,Zdq,Zec,decide_true,decide_false,Z1,Nat.reduceAdd,Int.reduceLT,Int.reduceEq,eq_self,hl.len,h3',ix,al0,al1,k1,q1,q2,hw]⟩
  ·exact .inl (by simp only [aAb,aAu,Zae,Zaf,Zag,Zah,Zai,Zak,Zam,Zan,Zao,Zaq,Zas,Zav,Zaw,Zba,Zbc,Zbg,Zbl,Zbm,Zbn,Zbo,Zbp,Zbs,Zbu,Zcc,Zcf,Zck,Zcz,Zda,Zdb,Zdf,Zdg,Zdh,Q0,Q3,Q1,Q2,Zdl,Zdp,Zdq,Zec,decide_true,decide_false,Z1,Z6,Nat.reduceAdd,Int.reduceEq,eq_self,hl.len,h3',ix,al0,al1,k1,q1,q2])
 ·exact .inl (by simp only [aAb,aAu,Zae,Zaf,Zag,Zah,Zai,Zak,Zam,Zan,Zao,Zaq,Zas,Zav,Zaw,Zba,Zbc,Zbh,Zbk,Zbm,Zbn,Zbo,Zbp,Zbs,Zbu,Zcc,Zcf,Zck,Zcz,Zda,Zdb,Zdf,Zdg,Zdh,Q0,Q3,Q1,Q2,Zdl,Zdp,Zdq,Zec,decide_true,decide_false,Z6,Nat.reduceAdd,Int.reduceEq,eq_self,hl.len,h3',ix,al0,k1,q1])
theorem aRm (h3:0 < l.length) (k1:l[0].1=2) (n m:Nat):aAj (aA1 (lim G0.cfg) n aAr) (m+1) ⟨(J::v::.int .i64 term::.int .i64 S::.ptr 0 0 0 0::J::J::J::J::.int .i64 (0:Int)::J::J::J::J::J::J::J::J::J::J::J::J::J::J::J::J::J::J::J::J::J::J::J::J::J::J::J::J::J::J::J::J::J::J::J::J::J::J::J::J::J::J::J::J::J::J::J::J::J::J::J::J::J::J::J::J::J::J::J::J::J::J::J::J::J::J::J::J::J::J::J::J::J::J::J::J::J::J::J::J::J::J::J::J::J::J::J::J::J::J::J::J::J::J::J::J::J::J::J::J::J::J::J::J::J::J::J::J::J::J::J::[]),[.arr 0 5 true [aA8 g]]⟩=some (.ret,⟨(J::J::J::J::J::J::J::J::.bool false::J::J::J::J::J::J::J::J::J::J::J::J::J::J::J::J::J::J::J::J::J::J::J::J::J::J::J::J::J::J::J::J::J::J::J::J::J::J::J::J::J::J::J::J::J::J::J::J::J::J::J::J::J::J::J::J::J::J::J::J::J::J::J::J::J::J::J::J::J::J::J::J::J::J::J::J::J::J::J::J::J::J::J::J::J::J::J::J::J::J::J::J::J::J::J::J::J::J::J::J::J::J::J::J::J::J::J::J::J::J::J::J::[]),[.arr 0 5 true [aA8 g]]⟩)∨(aDR g.rules.length S l[0]∧aAj (aA1 (lim G0.cfg) n aAr) (m+1) ⟨(J::v::.int .i64 term::.int .i64 S::.ptr 0 0 0 0::J::J::J::J::.int .i64 (0:Int)::J::J::J::J::J::J::J::J::J::J::J::J::J::J::J::J::J::J::J::J::J::J::J::J::J::J::J::J::J::J::J::J::J::J::J::J::J::J::J::J::J::J::J::J::J::J::J::J::J::J::J::J::J::J::J::J::J::J::J::J::J::J::J::J::J::J::J::J::J::J::J::J::J::J::J::J::J::J::J::J::J::J::J::J::J::J::J::J::J::J::J::J::J::J::J::J::J::J::J::J::J::J::J::J::J::J::J::J::J::J::J::[]),[.arr 0 5 true [aA8 g]]⟩=aAj (aA1 (lim G0.cfg) n aAr) m ⟨(J::v::.int .i64 term::.int .i64 S::.ptr 0 0 0 0::J::J::J::J::.int .i64 ((0+1:Nat):Int)::J::J::J::J::J::J::J::J::J::J::J::J::J::J::J::J::J::J::J::J::J::J::J::J::J::J::J::J::J::J::J::J::J::J::J::J::J::J::J::J::J::J::J::J::J::J::J::J::J::J::J::J::J::J::J::J::J::J::J::J::J::J::J::J::J::J::J::J::J::J::J::J::J::J::J::J::J::J::J::J::J::J::J::J::J::J::J::J::J::J::J::J::J::J::J::J::J::J::J::J::J::J::J::J::J::J::J::J::J::J::J::[]),[.arr 0 5 true [aA8 g]]⟩):=by
 have hm':=hm
 rw [aAp] at hm'
 have al2:∀ a:Int × Int,aA2 [.arr 0 5 true [aA8 g]] 2 true (.vptr (aAv a) 0)=some (.agg (aAv a)):=fun a=>rfl
 have al0:∀ a:Int × Int,aA2 [.arr 0 5 true [aA8 g]] 1 false (.vptr (aAv a) 0)=some (.int .i64 a.1):=fun a=>rfl
 have al1:∀ a:Int × Int,aA2 [.arr 0 5 true [aA8 g]] 1 false (.vptr (aAv a) 1)=some (.int .i64 a.2):=fun a=>rfl
 have alg:aA2 [.arr 0 5 true [aA8 g]] 1 false (.ptr 0 0 0 3)=some (.vsl false (g.rules.map aAt)):=rfl
 have h3':(0:Int) < l.length:=by omega
 have hw:=aAV (n:=0) (by omega)
 have ix:=fun h=>hl.ix h .i64 0 h3
 simp only [z0] at ix hw
 by_cases q1:l[0].2 < 1
 ·exact .inl (by simp only [aAb,aAu,Zae,Zaf,Zag,Zah,Zai,Zak,Zam,Zan,Zao,Zaq,Zas,Zav,Zaw,Zba,Zbc,Zbh,Zbk,Zbm,Zbn,Zbo,Zbp,Zbs,Zbu,Zcc,Zcf,Zck,Zcz,Zda,Zdb,Zdf,Zdg,Zdh,Q0,Q3,Q1,Q2,Zdl,Zdp,Zec,decide_true,decide_false,Nat.reduceAdd,Int.reduceEq,eq_self,hl.len,h3',ix,al0,al1,k1,q1])
 ·by_cases q2:(g.rules.length:Int)≤l[0].2
  ·exact .inl (by simp only [aAb,aAu,Zae,Zaf,Zag,Zah,Zai,Zak,Zam,Zan,Zao,Zaq,Zas,Zav,Zaw,Zba,Zbc,Zbg,Zbl,Zbm,Zbn,Zbo,Zbp,Zbs,Zbu,Zcc,Zcf,Zck,Zcz,Zda,Zdb,Zdf,Zdg,Zdh,Q0,Q3,Q1,Q2,Zdl,Zdo,Zdp,Zdx,Zeb,Zec,decide_true,decide_false,Nat.reduceAdd,Int.reduceEq,eq_self,Q8,hl.len,h3',ix,al0,al1,alg,k1,q1,q2])
  ·exact .inr ⟨.inr (.inl ⟨k1,by omega,by omega⟩),by simp only [aAb,aAu,Zae,Zaf,Zag,Zah,Zai,Zak,Zan,Zao,Zar,Zav,Zaw,Zay,Zbc,Zbg,Zbi,Zbj,Zbl,Zbm,Zbn,Zbo,Zbp,Zbs,Zbu,Zcc,Zcf,Zck,Zcz,Zda,Zdb,Zdf,Zdg,Zdh,Q0,Q3,Q1,Q2,Zdi,Zdl,Zdn,Zdo,Zdp,Zdx,Zeb,Zec,decide_true,decide_false,Nat.reduceAdd,Int.reduceLT,Int.reduceEq,eq_self,Q8,hl.len,h3',ix,al0,al1,alg,k1,q1,q2,hw]⟩
theorem aRk (h3:0 < l.length) (k1:l[0].1≠1) (k2:l[0].1≠2) (k3:l[0].1≠3) (n m:Nat):aAj (aA1 (lim G0.cfg) n aAr) (m+1) ⟨(J::v::.int .i64 term::.int .i64 S::.ptr 0 0 0 0::J::J::J::J::.int .i64 (0:Int)::J::J::J::J::J::J::J::J::J::J::J::J::J::J::J::J::J::J::J::J::J::J::J::J::J::J::J::J::J::J::J::J::J::J::J::J::J::J::J::J::J::J::J::J::J::J::J::J::J::J::J::J::J::J::J::J::J::J::J::J::J::J::J::J::J::J::J::J::J::J::J::J::J::J::J::J::J::J::J::J::J::J::J::J::J::J::J::J::J::J::J::J::J::J::J::J::J::J::J::J::J::J::J::J::J::J::J::J::J::J::J::[]),[.arr 0 5 true [aA8 g]]⟩=some (.ret,⟨(J::J::J::J::J::J::J::J::.bool false::J::J::J::J::J::J::J::J::J::J::J::J::J::J::J::J::J::J::J::J::J::J::J::J::J::J::J::J::J::J::J::J::J::J::J::J::J::J::J::J::J::J::J::J::J::J::J::J::J::J::J::J::J::J::J::J::J::J::J::J::J::J::J::J::J::J::J::J::J::J::J::J::J::J::J::J::J::J::J::J::J::J::J::J::J::J::J::J::J::J::J::J::J::J::J::J::J::J::J::J::J::J::J::J::J::J::J::J::J::J::J::J::[]),[.arr 0 5 true [aA8 g]]⟩)∨(aDR g.rules.length S l[0]∧aAj (aA1 (lim G0.cfg) n aAr) (m+1) ⟨(J::v::.int .i64 term::.int .i64 S::.ptr 0 0 0 0::J::J::J::J::.int .i64 (0:Int)::J::J::J::J::J::J::J::J::J::J::J::J::J::J::J::J::J::J::J::J::J::J::J::J::J::J::J::J::J::J::J::J::J::J::J::J::J::J::J::J::J::J::J::J::J::J::J::J::J::J::J::J::J::J::J::J::J::J::J::J::J::J::J::J::J::J::J::J::J::J::J::J::J::J::J::J::J::J::J::J::J::J::J::J::J::J::J::J::J::J::J::J::J::J::J::J::J::J::J::J::J::J::J::J::J::J::J::J::J::J::J::[]),[.arr 0 5 true [aA8 g]]⟩=aAj (aA1 (lim G0.cfg) n aAr) m ⟨(J::v::.int .i64 term::.int .i64 S::.ptr 0 0 0 0::J::J::J::J::.int .i64 ((0+1:Nat):Int)::J::J::J::J::J::J::J::J::J::J::J::J::J::J::J::J::J::J::J::J::J::J::J::J::J::J::J::J::J::J::J::J::J::J::J::J::J::J::J::J::J::J::J::J::J::J::J::J::J::J::J::J::J::J::J::J::J::J::J::J::J::J::J::J::J::J::J::J::J::J::J::J::J::J::J::J::J::J::J::J::J::J::J::J::J::J::J::J::J::J::J::J::J::J::J::J::J::J::J::J::J::J::J::J::J::J::J::J::J::J::J::[]),[.arr 0 5 true [aA8 g]]⟩):=by
 have hm':=hm
 rw [aAp] at hm'
 have al2:∀ a:Int × Int,aA2 [.arr 0 5 true [aA8 g]] 2 true (.vptr (aAv a) 0)=some (.agg (aAv a)):=fun a=>rfl
 have al0:∀ a:Int × Int,aA2 [.arr 0 5 true [aA8 g]] 1 false (.vptr (aAv a) 0)=some (.int .i64 a.1):=fun a=>rfl
 have al1:∀ a:Int × Int,aA2 [.arr 0 5 true [aA8 g]] 1 false (.vptr (aAv a) 1)=some (.int .i64 a.2):=fun a=>rfl
 have alg:aA2 [.arr 0 5 true [aA8 g]] 1 false (.ptr 0 0 0 3)=some (.vsl false (g.rules.map aAt)):=rfl
 have h3':(0:Int) < l.length:=by omega
 have ix:=fun h=>hl.ix h .i64 0 h3
 simp only [z0] at ix
 exact .inl (by simp only [aAb,aAu,Zae,Zaf,Zag,Zah,Zai,Zak,Zam,Zan,Zao,Zaq,Zas,Zav,Zaw,Zba,Zbc,Zbm,Zbo,Zbs,Zbu,Zcc,Zcf,Zck,Zcz,Zda,Zdb,Zdf,Zdg,Zdh,Q0,Q3,Q1,Q2,Zdl,Zdp,Zec,decide_true,decide_false,Nat.reduceAdd,eq_self,hl.len,h3',ix,al0,k1,k2,k3])
theorem aRj (p:Nat) (h3:p+1 < l.length) (k1:l[p+1].1=1) (n m:Nat):aAj (aA1 (lim G0.cfg) n aAr) (m+1) ⟨(J::v::.int .i64 term::.int .i64 S::.ptr 0 0 0 0::J::J::J::J::.int .i64 ((p+1:Nat):Int)::J::J::J::J::J::J::J::J::J::J::J::J::J::J::J::J::J::J::J::J::J::J::J::J::J::J::J::J::J::J::J::J::J::J::J::J::J::J::J::J::J::J::J::J::J::J::J::J::J::J::J::J::J::J::J::J::J::J::J::J::J::J::J::J::J::J::J::J::J::J::J::J::J::J::J::J::J::J::J::J::J::J::J::J::J::J::J::J::J::J::J::J::J::J::J::J::J::J::J::J::J::J::J::J::J::J::J::J::J::J::J::[]),[.arr 0 5 true [aA8 g]]⟩=some (.ret,⟨(J::J::J::J::J::J::J::J::.bool false::J::J::J::J::J::J::J::J::J::J::J::J::J::J::J::J::J::J::J::J::J::J::J::J::J::J::J::J::J::J::J::J::J::J::J::J::J::J::J::J::J::J::J::J::J::J::J::J::J::J::J::J::J::J::J::J::J::J::J::J::J::J::J::J::J::J::J::J::J::J::J::J::J::J::J::J::J::J::J::J::J::J::J::J::J::J::J::J::J::J::J::J::J::J::J::J::J::J::J::J::J::J::J::J::J::J::J::J::J::J::J::J::[]),[.arr 0 5 true [aA8 g]]⟩)∨(aDR g.rules.length S l[p+1]∧aAj (aA1 (lim G0.cfg) n aAr) (m+1) ⟨(J::v::.int .i64 term::.int .i64 S::.ptr 0 0 0 0::J::J::J::J::.int .i64 ((p+1:Nat):Int)::J::J::J::J::J::J::J::J::J::J::J::J::J::J::J::J::J::J::J::J::J::J::J::J::J::J::J::J::J::J::J::J::J::J::J::J::J::J::J::J::J::J::J::J::J::J::J::J::J::J::J::J::J::J::J::J::J::J::J::J::J::J::J::J::J::J::J::J::J::J::J::J::J::J::J::J::J::J::J::J::J::J::J::J::J::J::J::J::J::J::J::J::J::J::J::J::J::J::J::J::J::J::J::J::J::J::J::J::J::J::J::[]),[.arr 0 5 true [aA8 g]]⟩=aAj (aA1 (lim G0.cfg) n aAr) m ⟨(J::v::.int .i64 term::.int .i64 S::.ptr 0 0 0 0::J::J::J::J::.int .i64 ((p+1+1:Nat):Int)::J::J::J::J::J::J::J::J::J::J::J::J::J::J::J::J::J::J::J::J::J::J::J::J::J::J::J::J::J::J::J::J::J::J::J::J::J::J::J::J::J::J::J::J::J::J::J::J::J::J::J::J::J::J::J::J::J::J::J::J::J::J::J::J::J::J::J::J::J::J::J::J::J::J::J::J::J::J::J::J::J::J::J::J::J::J::J::J::J::J::J::J::J::J::J::J::J::J::J::J::J::J::J::J::J::J::J::J::J::J::J::[]),[.arr 0 5 true [aA8 g]]⟩):=by
 have hm':=hm
 rw [aAp] at hm'
 have al2:∀ a:Int × Int,aA2 [.arr 0 5 true [aA8 g]] 2 true (.vptr (aAv a) 0)=some (.agg (aAv a)):=fun a=>rfl
 have al0:∀ a:Int × Int,aA2 [.arr 0 5 true [aA8 g]] 1 false (.vptr (aAv a) 0)=some (.int .i64 a.1):=fun a=>rfl
 have al1:∀ a:Int × Int,aA2 [.arr 0 5 true [aA8 g]] 1 false (.vptr (aAv a) 1)=some (.int .i64 a.2):=fun a=>rfl
 have alg:aA2 [.arr 0 5 true [aA8 g]] 1 false (.ptr 0 0 0 3)=some (.vsl false (g.rules.map aAt)):=rfl
 have hp:p < l.length:=by omega
 have h3':((p+1:Nat):Int) < l.length:=by omega
 have hw:=aAV (n:=p+1) (by omega)
 have ix:=fun h=>hl.ix h .i64 (p+1) h3
 have gp:(0:Int) < ((p+1:Nat):Int):=by omega
 have ws:IntKind.i64.wrap (((p+1:Nat):Int) - 1)=(p:Int):=by rw [w64 (by omega) (by omega)];omega
 have ixp:=fun h=>hl.ix h .i64 p hp
 have r0:=aFb l[p]
 have r1:=aFb l[p+1]
 generalize aF6 l[p]=x0 at r0
 generalize aF6 l[p+1]=x1 at r1
 exact .inl (by simp only [aAb,aAu,Zae,Zaf,Zag,Zah,Zai,Zak,Zam,Zan,Zao,Zaq,Zas,Zav,Zba,Zbc,Zbh,Zbk,Zbm,Zbn,Zbo,Zbp,Zbs,Zbu,Zcc,Zcf,Zck,Zcz,Zda,Zdb,Zdf,Zdg,Zdh,Q0,Q3,Q1,Q2,Zdl,Zdn,Zdp,Zec,decide_true,Nat.reduceAdd,eq_self,hl.len,h3',ix,al0,gp,k1])
theorem aRg (p:Nat) (h3:p+1 < l.length) (k1:l[p+1].1≠1) (k2:l[p+1].1≠2) (k3:l[p+1].1≠3) (n m:Nat):aAj (aA1 (lim G0.cfg) n aAr) (m+1) ⟨(J::v::.int .i64 term::.int .i64 S::.ptr 0 0 0 0::J::J::J::J::.int .i64 ((p+1:Nat):Int)::J::J::J::J::J::J::J::J::J::J::J::J::J::J::J::J::J::J::J::J::J::J::J::J::J::J::J::J::J::J::J::J::J::J::J::J::J::J::J::J::J::J::J::J::J::J::J::J::J::J::J::J::J::J::J::J::J::J::J::J::J::J::J::J::J::J::J::J::J::J::J::J::J::J::J::J::J::J::J::J::J::J::J::J::J::J::J::J::J::J::J::J::J::J::J::J::J::J::J::J::J::J::J::J::J::J::J::J::J::J::J::[]),[.arr 0 5 true [aA8 g]]⟩=some (.ret,⟨(J::J::J::J::J::J::J::J::.bool false::J::J::J::J::J::J::J::J::J::J::J::J::J::J::J::J::J::J::J::J::J::J::J::J::J::J::J::J::J::J::J::J::J::J::J::J::J::J::J::J::J::J::J::J::J::J::J::J::J::J::J::J::J::J::J::J::J::J::J::J::J::J::J::J::J::J::J::J::J::J::J::J::J::J::J::J::J::J::J::J::J::J::J::J::J::J::J::J::J::J::J::J::J::J::J::J::J::J::J::J::J::J::J::J::J::J::J::J::J::J::J::J::[]),[.arr 0 5 true [aA8 g]]⟩)∨(aDR g.rules.length S l[p+1]∧aAj (aA1 (lim G0.cfg) n aAr) (m+1) ⟨(J::v::.int .i64 term::.int .i64 S::.ptr 0 0 0 0::J::J::J::J::.int .i64 ((p+1:Nat):Int)::J::J::J::J::J::J::J::J::J::J::J::J::J::J::J::J::J::J::J::J::J::J::J::J::J::J::J::J::J::J::J::J::J::J::J::J::J::J::J::J::J::J::J::J::J::J::J::J::J::J::J::J::J::J::J::J::J::J::J::J::J::J::J::J::J::J::J::J::J::J::J::J::J::J::J::J::J::J::J::J::J::J::J::J::J::J::J::J::J::J::J::J::J::J::J::J::J::J::J::J::J::J::J::J::J::J::J::J::J::J::J::[]),[.arr 0 5 true [aA8 g]]⟩=aAj (aA1 (lim G0.cfg) n aAr) m ⟨(J::v::.int .i64 term::.int .i64 S::.ptr 0 0 0 0::J::J::J::J::.int .i64 ((p+1+1:Nat):Int)::J::J::J::J::J::J::J::J::J::J::J::J::J::J::J::J::J::J::J::J::J::J::J::J::J::J::J::J::J::J::J::J::J::J::J::J::J::J::J::J::J::J::J::J::J::J::J::J::J::J::J::J::J::J::J::J::J::J::J::J::J::J::J::J::J::J::J::J::J::J::J::J::J::J::J::J::J::J::J::J::J::J::J::J::J::J::J::J::J::J::J::J::J::J::J::J::J::J::J::J::J::J::J::J::J::J::J::J::J::J::J::[]),[.arr 0 5 true [aA8 g]]⟩):=by
 have hm':=hm
 rw [aAp] at hm'
 have al2:∀ a:Int × Int,aA2 [.arr 0 5 true [aA8 g]] 2 true (.vptr (aAv a) 0)=some (.agg (aAv a)):=fun a=>rfl
 have al0:∀ a:Int × Int,aA2 [.arr 0 5 true [aA8 g]] 1 false (.vptr (aAv a) 0)=some (.int .i64 a.1):=fun a=>rfl
 have al1:∀ a:Int × Int,aA2 [.arr 0 5 true [aA8 g]] 1 false (.vptr (aAv a) 1)=some (.int .i64 a.2):=fun a=>rfl
 have alg:aA2 [.arr 0 5 true [aA8 g]] 1 false (.ptr 0 0 0 3)=some (.vsl false (g.rules.map aAt)):=rfl
 have hp:p < l.length:=by omega
 have h3':((p+1:Nat):Int) < l.length:=by omega
 have hw:=aAV (n:=p+1) (by omega)
 have ix:=fun h=>hl.ix h .i64 (p+1) h3
 have gp:(0:Int) < ((p+1:Nat):Int):=by omega
 have ws:IntKind.i64.wrap (((p+1:Nat):Int) - 1)=(p:Int):=by rw [w64 (by omega) (by omega)];omega
 have ixp:=fun h=>hl.ix h .i64 p hp
 have r0:=aFb l[p]
 have r1:=aFb l[p+1]
 generalize aF6 l[p]=x0 at r0
 generalize aF6 l[p+1]=x1 at r1
 exact .inl (by simp only [aAb,aAu,Zae,Zaf,Zag,Zah,Zai,Zak,Zam,Zan,Zao,Zaq,Zas,Zav,Zaw,Zba,Zbc,Zbm,Zbo,Zbs,Zbu,Zcc,Zcf,Zck,Zcz,Zda,Zdb,Zdf,Zdg,Zdh,Q0,Q3,Q1,Q2,Zdl,Zdp,Zec,decide_true,decide_false,Nat.reduceAdd,eq_self,hl.len,h3',ix,al0,k1,k2,k3])
theorem aRh (p:Nat) (h3:p+1 < l.length) (k1:l[p+1].1=3) (n m:Nat):aAj (aA1 (lim G0.cfg) n aAr) (m+1) ⟨(J::v::.int .i64 term::.int .i64 S::.ptr 0 0 0 0::J::J::J::J::.int .i64 ((p+1:Nat):Int)::J::J::J::J::J::J::J::J::J::J::J::J::J::J::J::J::J::J::J::J::J::J::J::J::J::J::J::J::J::J::J::J::J::J::J::J::J::J::J::J::J::J::J::J::J::J::J::J::J::J::J::J::J::J::J::J::J::J::J::J::J::J::J::J::J::J::J::J::J::J::J::J::J::J::J::J::J::J::J::J::J::J::J::J::J::J::J::J::J::J::J::J::J::J::J::J::J::J::J::J::J::J::J::J::J::J::J::J::J::J::J::[]),[.arr 0 5 true [aA8 g]]⟩=some (.ret,⟨(J::J::J::J::J::J::J::J::.bool false::J::J::J::J::J::J::J::J::J::J::J::J::J::J::J::J::J::J::J::J::J::J::J::J::J::J::J::J::J::J::J::J::J::J::J::J::J::J::J::J::J::J::J::J::J::J::J::J::J::J::J::J::J::J::J::J::J::J::J::J::J::J::J::J::J::J::J::J::J::J::J::J::J::J::J::J::J::J::J::J::J::J::J::J::J::J::J::J::J::J::J::J::J::J::J::J::J::J::J::J::J::J::J::J::J::J::J::J::J::J::J::J::[]),[.arr 0 5 true [aA8 g]]⟩)∨(aDR g.rules.length S l[p+1]∧aAj (aA1 (lim G0.cfg) n aAr) (m+1) ⟨(J::v::.int .i64 term::.int .i64 S::.ptr 0 0 0 0::J::J::J::J::.int .i64 ((p+1:Nat):Int)::J::J::J::J::J::J::J::J::J::J::J::J::J::J::J::J::J::J::J::J::J::J::J::J::J::J::J::J::J::J::J::J::J::J::J::J::J::J::J::J::J::J::J::J::J::J::J::J::J::J::J::J::J::J::J::J::J::J::J::J::J::J::J::J::J::J::J::J::J::J::J::J::J::J::J::J::J::J::J::J::J::J::J::J::J::J::J::J::J::J::J::J::J::J::J::J::J::J::J::J::J::J::J::J::J::J::J::J::J::J::J::[]),[.arr 0 5 true [aA8 g]]⟩=aAj (aA1 (lim G0.cfg) n aAr) m ⟨(J::v::.int .i64 term::.int .i64 S::.ptr 0 0 0 0::J::J::J::J::.int .i64 ((p+1+1:Nat):Int)::J::J::J::J::J::J::J::J::J::J::J::J::J::J::J::J::J::J::J::J::J::J::J::J::J::J::J::J::J::J::J::J::J::J::J::J::J::J::J::J::J::J::J::J::J::J::J::J::J::J::J::J::J::J::J::J::J::J::J::J::J::J::J::J::J::J::J::J::J::J::J::J::J::J::J::J::J::J::J::J::J::J::J::J::J::J::J::J::J::J::J::J::J::J::J::J::J::J::J::J::J::J::J::J::J::J::J::J::J::J::J::[]),[.arr 0 5 true [aA8 g]]⟩):=by
 have hm':=hm
 rw [aAp] at hm'
 have al2:∀ a:Int × Int,aA2 [.arr 0 5 true [aA8 g]] 2 true (.vptr (aAv a) 0)=some (.agg (aAv a)):=fun a=>rfl
 have al0:∀ a:Int × Int,aA2 [.arr 0 5 true [aA8 g]] 1 false (.vptr (aAv a) 0)=some (.int .i64 a.1):=fun a=>rfl
 have al1:∀ a:Int × Int,aA2 [.arr 0 5 true [aA8 g]] 1 false (.vptr (aAv a) 1)=some (.int .i64 a.2):=fun a=>rfl
 have alg:aA2 [.arr 0 5 true [aA8 g]] 1 false (.ptr 0 0 0 3)=some (.vsl false (g.rules.map aAt)):=rfl
 have hp:p < l.length:=by omega
 have h3':((p+1:Nat):Int) < l.length:=by omega
 have hw:=aAV (n:=p+1) (by omega)
 have ix:=fun h=>hl.ix h .i64 (p+1) h3
 have gp:(0:Int) < ((p+1:Nat):Int):=by omega
 have ws:IntKind.i64.wrap (((p+1:Nat):Int) - 1)=(p:Int):=by rw [w64 (by omega) (by omega)];omega
 have ixp:=fun h=>hl.ix h .i64 p hp
 have r0:=aFb l[p]
 have r1:=aFb l[p+1]
 generalize aF6 l[p]=x0 at r0
 generalize aF6 l[p+1]=x1 at r1
 by_cases q1:term=0
 case neg=>exact .inl (by simp only [aAb,aAu,Zae,Zaf,Zag,Zah,Zai,Zak,Zam,Zan,Zao,Zaq,Zas,Zav,Zaw,Zba,Zbc,Zbh,Zbk,Zbm,Zbn,Zbo,Zbp,Zbs,Zbu,Zcc,Zcf,Zck,Zcz,Zda,Zdb,Zdf,Zdg,Zdh,Q0,Q3,Q1,Q2,Zdl,Zdp,Zdq,Zec,decide_true,decide_false,Z6,Nat.reduceAdd,Int.reduceEq,eq_self,hl.len,h3',ix,al0,k1,q1])
 by_cases q2:l[p+1].2=0
 case neg=>exact .inl (by simp only [aAb,aAu,Zae,Zaf,Zag,Zah,Zai,Zak,Zam,Zan,Zao,Zaq,Zas,Zav,Zaw,Zba,Zbc,Zbg,Zbl,Zbm,Zbn,Zbo,Zbp,Zbs,Zbu,Zcc,Zcf,Zck,Zcz,Zda,Zdb,Zdf,Zdg,Zdh,Q0,Q3,Q1,Q2,Zdl,Zdp,Zdq,Zec,decide_true,decide_false,Z1,Z6,Nat.reduceAdd,Int.reduceEq,eq_self,hl.len,h3',ix,al0,al1,k1,q1,q2])
 by_cases c1:x1 < x0
 ·exact .inl (by simp only [aAb,aAu,Zae,Zaf,Zag,Zah,Zai,Zak,Zam,Zan,Zao,Zaq,Zar,Zas,Zav,Zaw,Zba,Zbc,Zbd,Zbf,Zbg,Zbh,Zbj,Zbk,Zbl,Zbm,Zbn,Zbo,Zbp,Zbs,Zbu,Zcc,Zcf,Zck,Zct,Zcu,Zcz,Zda,Zdb,Zdd,Zde,Zdf,Zdg,Zdh,Q0,Q3,Q1,Q2,Zdj,Zdl,Zdn,Zdp,Zdq,Zec,decide_true,decide_false,Z1,Nat.reduceAdd,Int.reduceEq,eq_self,Q4,Q5,hl.len,h3',ix,al0,al1,al2,gp,ws,ixp,r0,r1,k1,q1,q2,c1])
 by_cases c2:x0=x1
 ·by_cases c3:(0:Int)≤l[p].2
  ·exact .inl (by simp only [aAb,aAu,Zae,Zaf,Zag,Zah,Zai,Zak,Zam,Zan,Zao,Zaq,Zar,Zas,Zav,Zaw,Zba,Zbc,Zbd,Zbf,Zbg,Zbk,Zbl,Zbm,Zbn,Zbo,Zbp,Zbs,Zbu,Zcc,Zcf,Zck,Zct,Zcu,Zcz,Zda,Zdb,Zdd,Zde,Zdf,Zdg,Zdh,Q0,Q3,Q1,Q2,Zdj,Zdl,Zdn,Zdo,Zdp,Zdq,Zec,decide_true,decide_false,Z1,Nat.reduceAdd,Int.reduceEq,eq_self,Q4,Q5,hl.len,h3',ix,al0,al1,al2,gp,ws,ixp,r0,r1,k1,q1,q2,c2,Int.lt_irrefl,c3])
  ·exact .inr ⟨.inr (.inr ⟨by omega,by omega⟩),by simp only [aAb,aAu,Zae,Zaf,Zag,Zah,Zai,Zak,Zan,Zao,Zar,Zav,Zaw,Zay,Zbc,Zbd,Zbf,Zbg,Zbk,Zbl,Zbm,Zbn,Zbo,Zbp,Zbs,Zbu,Zcc,Zcf,Zck,Zct,Zcu,Zcz,Zda,Zdb,Zdd,Zde,Zdf,Zdg,Zdh,Q0,Q3,Q1,Q2,Zdi,Zdj,Zdl,Zdn,Zdo,Zdp,Zdq,Zec,decide_true,decide_false,Z1,Nat.reduceAdd,Int.reduceEq,eq_self,Q4,Q5,hl.len,h3',ix,al0,al1,al2,gp,ws,ixp,r0,r1,k1,q1,q2,c2,Int.lt_irrefl,c3,hw]⟩
 ·exact .inr ⟨.inr (.inr ⟨by omega,by omega⟩),by simp only [aAb,aAu,Zae,Zaf,Zag,Zah,Zai,Zak,Zan,Zao,Zar,Zav,Zaw,Zay,Zbc,Zbd,Zbf,Zbg,Zbi,Zbk,Zbl,Zbm,Zbn,Zbo,Zbp,Zbs,Zbu,Zcc,Zcf,Zck,Zct,Zcu,Zcz,Zda,Zdb,Zdd,Zde,Zdf,Zdg,Zdh,Q0,Q3,Q1,Q2,Zdi,Zdj,Zdl,Zdn,Zdp,Zdq,Zec,decide_true,decide_false,Z1,Nat.reduceAdd,Int.reduceEq,eq_self,Q4,Q5,hl.len,h3',ix,al0,al1,al2,gp,ws,ixp,r0,r1,k1,q1,q2,c1,c2,hw]⟩
theorem aRi (p:Nat) (h3:p+1 < l.length) (k1:l[p+1].1=2) (n m:Nat):aAj (aA1 (lim G0.cfg) n aAr) (m+1) ⟨(J::v::.int .i64 term::.int .i64 S::.ptr 0 0 0 0::J::J::J::J::.int .i64 ((p+1:Nat):Int)::J::J::J::J::J::J::J::J::J::J::J::J::J::J::J::J::J::J::J::J::J::J::J::J::J::J::J::J::J::J::J::J::J::J::J::J::J::J::J::J::J::J::J::J::J::J::J::J::J::J::J::J::J::J::J::J::J::J::J::J::J::J::J::J::J::J::J::J::J::J::J::J::J::J::J::J::J::J::J::J::J::J::J::J::J::J::J::J::J::J::J::J::J::J::J::J::J::J::J::J::J::J::J::J::J::J::J::J::J::J::J::[]),[.arr 0 5 true [aA8 g]]⟩=some (.ret,⟨(J::J::J::J::J::J::J::J::.bool false::J::J::J::J::J::J::J::J::J::J::J::J::J::J::J::J::J::J::J::J::J::J::J::J::J::J::J::J::J::J::J::J::J::J::J::J::J::J::J::J::J::J::J::J::J::J::J::J::J::J::J::J::J::J::J::J::J::J::J::J::J::J::J::J::J::J::J::J::J::J::J::J::J::J::J::J::J::J::J::J::J::J::J::J::J::J::J::J::J::J::J::J::J::J::J::J::J::J::J::J::J::J::J::J::J::J::J::J::J::J::J::J::[]),[.arr 0 5 true [aA8 g]]⟩)∨(aDR g.rules.length S l[p+1]∧aAj (aA1 (lim G0.cfg) n aAr) (m+1) ⟨(J::v::.int .i64 term::.int .i64 S::.ptr 0 0 0 0::J::J::J::J::.int .i64 ((p+1:Nat):Int)::J::J::J::J::J::J::J::J::J::J::J::J::J::J::J::J::J::J::J::J::J::J::J::J::J::J::J::J::J::J::J::J::J::J::J::J::J::J::J::J::J::J::J::J::J::J::J::J::J::J::J::J::J::J::J::J::J::J::J::J::J::J::J::J::J::J::J::J::J::J::J::J::J::J::J::J::J::J::J::J::J::J::J::J::J::J::J::J::J::J::J::J::J::J::J::J::J::J::J::J::J::J::J::J::J::J::J::J::J::J::J::[]),[.arr 0 5 true [aA8 g]]⟩=aAj (aA1 (lim G0.cfg) n aAr) m ⟨(J::v::.int .i64 term::.int .i64 S::.ptr 0 0 0 0::J::J::J::J::.int .i64 ((p+1+1:Nat):Int)::J::J::J::J::J::J::J::J::J::J::J::J::J::J::J::J::J::J::J::J::J::J::J::J::J::J::J::J::J::J::J::J::J::J::J::J::J::J::J::J::J::J::J::J::J::J::J::J::J::J::J::J::J::J::J::J::J::J::J::J::J::J::J::J::J::J::J::J::J::J::J::J::J::J::J::J::J::J::J::J::J::J::J::J::J::J::J::J::J::J::J::J::J::J::J::J::J::J::J::J::J::J::J::J::J::J::J::J::J::J::J::[]),[.arr 0 5 true [aA8 g]]⟩):=by
 have hm':=hm
 rw [aAp] at hm'
 have al2:∀ a:Int × Int,aA2 [.arr 0 5 true [aA8 g]] 2 true (.vptr (aAv a) 0)=some (.agg (aAv a)):=fun a=>rfl
 have al0:∀ a:Int × Int,aA2 [.arr 0 5 true [aA8 g]] 1 false (.vptr (aAv a) 0)=some (.int .i64 a.1):=fun a=>rfl
 have al1:∀ a:Int × Int,aA2 [.arr 0 5 true [aA8 g]] 1 false (.vptr (aAv a) 1)=some (.int .i64 a.2):=fun a=>rfl
 have alg:aA2 [.arr 0 5 true [aA8 g]] 1 false (.ptr 0 0 0 3)=some (.vsl false (g.rules.map aAt)):=rfl
 have hp:p < l.length:=by omega
 have h3':((p+1:Nat):Int) < l.length:=by omega
 have hw:=aAV (n:=p+1) (by omega)
 have ix:=fun h=>hl.ix h .i64 (p+1) h3
 have gp:(0:Int) < ((p+1:Nat):Int):=by omega
 have ws:IntKind.i64.wrap (((p+1:Nat):Int) - 1)=(p:Int):=by rw [w64 (by omega) (by omega)];omega
 have ixp:=fun h=>hl.ix h .i64 p hp
 have r0:=aFb l[p]
 have r1:=aFb l[p+1]
 generalize aF6 l[p]=x0 at r0
 generalize aF6 l[p+1]=x1 at r1
 by_cases q1:l[p+1].2 < 1
 case pos=>exact .inl (by simp only [aAb,aAu,Zae,Zaf,Zag,Zah,Zai,Zak,Zam,Zan,Zao,Zaq,Zas,Zav,Zaw,Zba,Zbc,Zbh,Zbk,Zbm,Zbn,Zbo,Zbp,Zbs,Zbu,Zcc,Zcf,Zck,Zcz,Zda,Zdb,Zdf,Zdg,Zdh,Q0,Q3,Q1,Q2,Zdl,Zdp,Zec,decide_true,decide_false,Nat.reduceAdd,Int.reduceEq,eq_self,hl.len,h3',ix,al0,al1,k1,q1])
 by_cases q2:(g.rules.length:Int)≤l[p+1].2
 case pos=>exact .inl (by simp only [aAb,aAu,Zae,Zaf,Zag,Zah,Zai,Zak,Zam,Zan,Zao,Zaq,Zas,Zav,Zaw,Zba,Zbc,Zbg,Zbl,Zbm,Zbn,Zbo,Zbp,Zbs,Zbu,Zcc,Zcf,Zck,Zcz,Zda,Zdb,Zdf,Zdg,Zdh,Q0,Q3,Q1,Q2,Zdl,Zdo,Zdp,Zdx,Zeb,Zec,decide_true,decide_false,Nat.reduceAdd,Int.reduceEq,eq_self,Q8,hl.len,h3',ix,al0,al1,alg,k1,q1,q2])
 by_cases c1:x1 < x0
 ·exact .inl (by simp only [aAb,aAu,Zae,Zaf,Zag,Zah,Zai,Zak,Zam,Zan,Zao,Zaq,Zar,Zas,Zav,Zaw,Zba,Zbc,Zbd,Zbf,Zbg,Zbh,Zbj,Zbk,Zbl,Zbm,Zbn,Zbo,Zbp,Zbs,Zbu,Zcc,Zcf,Zck,Zct,Zcu,Zcz,Zda,Zdb,Zdd,Zde,Zdf,Zdg,Zdh,Q0,Q3,Q1,Q2,Zdj,Zdl,Zdn,Zdo,Zdp,Zdx,Zeb,Zec,decide_true,decide_false,Nat.reduceAdd,Int.reduceEq,eq_self,Q8,Q4,Q5,hl.len,h3',ix,al0,al1,al2,alg,gp,ws,ixp,r0,r1,k1,q1,q2,c1])
 by_cases c2:x0=x1
 ·by_cases c3:l[p+1].2≤l[p].2
  ·exact .inl (by simp only [aAb,aAu,Zae,Zaf,Zag,Zah,Zai,Zak,Zam,Zan,Zao,Zaq,Zar,Zas,Zav,Zaw,Zba,Zbc,Zbd,Zbf,Zbg,Zbk,Zbl,Zbm,Zbn,Zbo,Zbp,Zbs,Zbu,Zcc,Zcf,Zck,Zct,Zcu,Zcz,Zda,Zdb,Zdd,Zde,Zdf,Zdg,Zdh,Q0,Q3,Q1,Q2,Zdj,Zdl,Zdn,Zdo,Zdp,Zdx,Zeb,Zec,decide_true,decide_false,Nat.reduceAdd,Int.reduceEq,eq_self,Q8,Q4,Q5,hl.len,h3',ix,al0,al1,al2,alg,gp,ws,ixp,r0,r1,k1,q1,q2,c2,Int.lt_irrefl,c3])
  ·exact .inr ⟨.inr (.inl ⟨k1,by omega,by omega⟩),by simp only [aAb,aAu,Zae,Zaf,Zag,Zah,Zai,Zak,Zan,Zao,Zar,Zav,Zaw,Zay,Zbc,Zbd,Zbf,Zbg,Zbk,Zbl,Zbm,Zbn,Zbo,Zbp,Zbs,Zbu,Zcc,Zcf,Zck,Zct,Zcu,Zcz,Zda,Zdb,Zdd,Zde,Zdf,Zdg,Zdh,Q0,Q3,Q1,Q2,Zdi,Zdj,Zdl,Zdn,Zdo,Zdp,Zdx,Zeb,Zec,decide_true,decide_false,Nat.reduceAdd,Int.reduceEq,eq_self,Q8,Q4,Q5,hl.len,h3',ix,al0,al1,al2,alg,gp,ws,ixp,r0,r1,k1,q1,q2,c2,Int.lt_irrefl,c3,hw]⟩
 ·exact .inr ⟨.inr (.inl ⟨k1,by omega,by omega⟩),by simp only [aAb,aAu,Zae,Zaf,Zag,Zah,Zai,Zak,Zan,Zao,Zar,Zav,Zaw,Zay,Zbc,Zbd,Zbf,Zbg,Zbi,Zbk,Zbl,Zbm,Zbn,Zbo,Zbp,Zbs,Zbu,Zcc,Zcf,Zck,Zct,Zcu,Zcz,Zda,Zdb,Zdd,Zde,Zdf,Zdg,Zdh,Q0,Q3,Q1,Q2,Zdi,Zdj,Zdl,Zdn,Zdo,Zdp,Zdx,Zeb,Zec,decide_true,decide_false,Nat.reduceAdd,Int.reduceEq,eq_self,Q8,Q4,Q5,hl.len,h3',ix,al0,al1,al2,alg,gp,ws,ixp,r0,r1,k1,q1,q2,c1,c2,hw]⟩
theorem aPn (n:Nat):∀ (d i m:Nat),l.length=i+d→d < m→∃ (b:Bool),(b=true→∀ (j:Nat) (hj:j < l.length),i≤j→aDR g.rules.length S l[j]) ∧
  aAj (aA1 (lim G0.cfg) n aAr) m ⟨(J::v::.int .i64 term::.int .i64 S::.ptr 0 0 0 0::J::J::J::J::.int .i64 i::J::J::J::J::J::J::J::J::J::J::J::J::J::J::J::J::J::J::J::J::J::J::J::J::J::J::J::J::J::J::J::J::J::J::J::J::J::J::J::J::J::J::J::J::J::J::J::J::J::J::J::J::J::J::J::J::J::J::J::J::J::J::J::J::J::J::J::J::J::J::J::J::J::J::J::J::J::J::J::J::J::J::J::J::J::J::J::J::J::J::J::J::J::J::J::J::J::J::J::J::J::J::J::J::J::J::J::J::J::J::J::[]),[.arr 0 5 true [aA8 g]]⟩ =
   bif b then some (.exit 0,⟨(J::J::J::J::J::J::J::J::J::J::J::J::J::J::J::J::J::J::J::J::J::J::J::J::J::J::J::J::J::J::J::J::J::J::J::J::J::J::J::J::J::J::J::J::J::J::J::J::J::J::J::J::J::J::J::J::J::J::J::J::J::J::J::J::J::J::J::J::J::J::J::J::J::J::J::J::J::J::J::J::J::J::J::J::J::J::J::J::J::J::J::J::J::J::J::J::J::J::J::J::J::J::J::J::J::J::J::J::J::J::J::J::J::J::J::J::J::J::J::J::J::[]),[.arr 0 5 true [aA8 g]]⟩) else some (.ret,⟨(J::J::J::J::J::J::J::J::.bool false::J::J::J::J::J::J::J::J::J::J::J::J::J::J::J::J::J::J::J::J::J::J::J::J::J::J::J::J::J::J::J::J::J::J::J::J::J::J::J::J::J::J::J::J::J::J::J::J::J::J::J::J::J::J::J::J::J::J::J::J::J::J::J::J::J::J::J::J::J::J::J::J::J::J::J::J::J::J::J::J::J::J::J::J::J::J::J::J::J::J::J::J::J::J::J::J::J::J::J::J::J::J::J::J::J::J::J::J::J::J::J::J::[]),[.arr 0 5 true [aA8 g]]⟩):=by
 intro d
 induction d with
 | zero =>
  intro i m h1 h2
  obtain ⟨m,rfl⟩:∃ q,m=q+1:=⟨m - 1,by omega⟩
  have h3:¬ ((i:Int) < l.length):=by omega
  exact ⟨true,fun _ j hj hij=>by omega,by simp only [aAb,aAu,Zaf,Zag,Zah,Zak,Zal,Zan,Zao,Zap,Zaw,Zaz,Zbc,Zbm,Zbo,Zbu,Zck,Zcz,Zdb,Zdg,Zdh,Q0,Q3,Q1,Q2,Zdl,decide_false,eq_self,cond_true,hl.len,h3]⟩
 | succ d ih =>
  intro i m h1 h2
  obtain ⟨m,rfl⟩:∃ q,m=q+1:=⟨m - 1,by omega⟩
  have h3:i < l.length:=by omega
  obtain ⟨b,hb,e⟩:=ih (i+1) m (by omega) (by omega)
  have step:aAj (aA1 (lim G0.cfg) n aAr) (m+1) ⟨(J::v::.int .i64 term::.int .i64 S::.ptr 0 0 0 0::J::J::J::J::.int .i64 i::J::J::J::J::J::J::J::J::J::J::J::J::J::J::J::J::J::J::J::J::J::J::J::J::J::J::J::J::J::J::J::J::J::J::J::J::J::J::J::J::J::J::J::J::J::J::J::J::J::J::J::J::J::J::J::J::J::J::J::J::J::J::J::J::J::J::J::J::J::J::J::J::J::J::J::J::J::J::J::J::J::J::J::J::J::J::J::J::J::J::J::J::J::J::J::J::J::J::J::J::J::J::J::J::J::J::J::J::J::J::J::[]),[.arr 0 5 true [aA8 g]]⟩=some (.ret,⟨(J::J::J::J::J::J::J::J::.bool false::J::J::J::J::J::J::J::J::J::J::J::J::J::J::J::J::J::J::J::J::J::J::J::J::J::J::J::J::J::J::J::J::J::J::J::J::J::J::J::J::J::J::J::J::J::J::J::J::J::J::J::J::J::J::J::J::J::J::J::J::J::J::J::J::J::J::J::J::J::J::J::J::J::J::J::J::J::J::J::J::J::J::J::J::J::J::J::J::J::J::J::J::J::J::J::J::J::J::J::J::J::J::J::J::J::J::J::J::J::J::J::J::[]),[.arr 0 5 true [aA8 g]]⟩) ∨
    (aDR g.rules.length S l[i]∧aAj (aA1 (lim G0.cfg) n aAr) (m+1) ⟨(J::v::.int .i64 term::.int .i64 S::.ptr 0 0 0 0::J::J::J::J::.int .i64 i::J::J::J::J::J::J::J::J::J::J::J::J::J::J::J::J::J::J::J::J::J::J::J::J::J::J::J::J::J::J::J::J::J::J::J::J::J::J::J::J::J::J::J::J::J::J::J::J::J::J::J::J::J::J::J::J::J::J::J::J::J::J::J::J::J::J::J::J::J::J::J::J::J::J::J::J::J::J::J::J::J::J::J::J::J::J::J::J::J::J::J::J::J::J::J::J::J::J::J::J::J::J::J::J::J::J::J::J::J::J::J::[]),[.arr 0 5 true [aA8 g]]⟩=aAj (aA1 (lim G0.cfg) n aAr) m ⟨(J::v::.int .i64 term::.int .i64 S::.ptr 0 0 0 0::J::J::J::J::.int .i64 (i+1:Nat)::J::J::J::J::J::J::J::J::J::J::J::J::J::J::J::J::J::J::J::J::J::J::J::J::J::J::J::J::J::J::J::J::J::J::J::J::J::J::J::J::J::J::J::J::J::J::J::J::J::J::J::J::J::J::J::J::J::J::J::J::J::J::J::J::J::J::J::J::J::J::J::J::J::J::J::J::J::J::J::J::J::J::J::J::J::J::J::J::J::J::J::J::J::J::J::J::J::J::J::J::J::J::J::J::J::J::J::J::J::J::J::[]),[.arr 0 5 true [aA8 g]]⟩):=by
   by_cases k1:l[i].1=1
   ·rcases i with _ | p
    ·exact aRn g hl hm term S h3 k1 n m
    ·exact aRj g hl hm term S p h3 k1 n m
   by_cases k2:l[i].1=2
   ·rcases i with _ | p
    ·exact aRm g hl hm term S h3 k2 n m
    ·exact aRi g hl hm term S p h3 k2 n m
   by_cases k3:l[i].1=3
   ·rcases i with _ | p
    ·exact aRl g hl hm term S h3 k3 n m
    ·exact aRh g hl hm term S p h3 k3 n m
   rcases i with _ | p
   ·exact aRk g hl hm term S h3 k1 k2 k3 n m
   ·exact aRg g hl hm term S p h3 k1 k2 k3 n m
  rcases step with h | ⟨ho,h⟩
  ·exact ⟨false,fun hb=>(by cases hb),h⟩
  ·refine ⟨b,fun hbt j hj hij => ?_,h.trans e⟩
   by_cases hji:j=i
   ·subst hji;exact ho
   ·exact hb hbt j hj (by omega)
theorem aRS:∃ b,(b=true→∀ a ∈ l,aDR g.rules.length S a)∧∀ H,lim G0.cfg (.func 17) [.agg (aA8 g),v,.int .i64 term,.int .i64 S] H=some (.bool b,H):=by
 obtain ⟨b,hb,e⟩:=aPn g hl hm term S (l.length+1) l.length 0 (l.length+1) (by omega) (by omega)
 rw [z0] at e
 have key:∃ h',aAS (lim G0.cfg) (l.length+1) aEC [.agg (aA8 g),v,.int .i64 term,.int .i64 S] []=some (.bool b,h'):=by
  rw [aOF]
  cases b
  ·rw [cond_false] at e
   simp only [Zaf,Zag,Zai,Zaj,Zak,Zan,Zao,Zaq,Zas,Zax,Zbd,Zbm,Zbo,Zbr,Zcw,Zcy,Zcz,Zda,Zdb,Zdf,Zdg,Zdh,Q0,Q3,Q1,Q2,Z3,Zef,Q6,Q7,if_true,Nat.reduceAdd,Nat.reduceSub,eq_self,true_and,Q6,Q7,Q9,Z0,Q4,Q5,Q4,Q5,Q0,e,aA6,aA5,aA7,Z2,Prod.mk.injEq,true_and,exists_eq']
  ·rw [cond_true] at e
   simp only [Zaf,Zag,Zai,Zaj,Zak,Zam,Zan,Zao,Zat,Zax,Zbd,Zbm,Zbo,Zbr,Zcw,Zcy,Zcz,Zda,Zdb,Zdf,Zdg,Zdh,Q0,Q3,Q1,Q2,Z3,Zef,Q6,Q7,if_true,Nat.reduceAdd,Nat.reduceSub,eq_self,true_and,Q6,Q7,Q9,Z0,Q4,Q5,Q4,Q5,Q0,e,aA6,aA5,aA7,Z2,Prod.mk.injEq,true_and,exists_eq']
 refine ⟨b,fun h a hm => ?_,fun H=>aAy rfl rfl aOJ _ (fun h => ?_) key (fun _=>rfl) H⟩
 ·obtain ⟨j,hj,rfl⟩:=List.mem_iff_getElem.1 hm
  exact hb h j hj (Nat.zero_le _)
 ·simp only [aAk,aAU,hl.fz h 999,List.map_cons,List.map_nil]
  rfl
end
end Go.Proofs.Yteenffomgdfocaa.Ai
