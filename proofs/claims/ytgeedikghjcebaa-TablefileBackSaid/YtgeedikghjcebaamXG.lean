/- Tables, plain; the numbers of a table's cells. -/
import Derived.Test.YtgeedikghjcebaamXE
import Derived.Test.YtgeedikghjcebaamXF
namespace Go.Proofs.Ytgeedikghjcebaa.Ai
open Go Go.Proofs
open AV renaming junk → J
open List renaming length_cons → Q0, length_nil → Q1, set_cons_zero → Q2, cons_append → Q3, getD_cons_zero → Q4, getD_cons_succ → Q5, nil_append → Q6, set_cons_succ → Q7, replicate_succ → Q8, replicate_zero → Q9, getElem?_cons_zero → Z2, drop_succ_cons → Z3, take_succ_cons → Z4, drop_zero → Z6, take_zero → Z7, all_cons → Z8, take_nil → Y0, all_nil → Y1, getElem_cons_zero → Y2
open Option.some renaming injEq → Z0
open Option renaming map_some → Z1, bind_some → Z5
open Bool renaming and_self → Z9
set_option linter.unusedVariables false
set_option linter.unusedSimpArgs false
set_option maxRecDepth 10000
set_option maxHeartbeats 4000000
def LiG {X:Type} (P:X→AV→Prop) (xs:List X) (v:AV):Prop:=(xs=[]∧v=.nilS)∨∃ e cs,v=.vsl e cs∧cs.length=xs.length∧∀ (j:Nat) (hj:j < xs.length),∃ rv,cs[j]?=some [rv]∧P xs[j] rv
section
variable {X : Type} {P : X → AV → Prop} {xs : List X} {v : AV}
theorem LiG.len (hl:LiG P xs v) (h:aA0):aC5 h .slice v=some (.int .i64 xs.length):=by
 rcases hl with ⟨rfl,rfl⟩ | ⟨e,cs,rfl,h1,_⟩
 ·rfl
 ·simp [aC5,h1]
theorem LiG.ix (hl:LiG P xs v) (j:Nat) (hj:j < xs.length):∃ rv,P xs[j] rv∧∀ (h:aA0) (k:IntKind),aAP h 1 v (.int k j)=some (.vptr [rv] 0):=by
 rcases hl with ⟨rfl,rfl⟩ | ⟨e,cs,rfl,h1,h2⟩
 ·simp at hj
 ·obtain ⟨rv,h3,h4⟩:=h2 j hj
  exact ⟨rv,h4,fun h k=>by simp [aAP,h3]⟩
theorem LiG.fz (hl:LiG P xs v) (h:aA0) (d:Nat):freeze h (d+1) v=some (v,true):=by
 rcases hl with ⟨rfl,rfl⟩ | ⟨e,cs,rfl,_⟩ <;> rfl
theorem LiG.cell (hl:LiG P xs v):cellsOf v=[v]∧aAq v=true:=by
 rcases hl with ⟨rfl,rfl⟩ | ⟨e,cs,rfl,_⟩ <;> exact ⟨rfl,rfl⟩
end
theorem LiR.cell {xs:List (List Int)} {v:AV} (hl:LiR xs v):cellsOf v=[v]∧aAq v=true:=by
 rcases hl with ⟨rfl,rfl⟩ | ⟨e,cs,rfl,_⟩ <;> exact ⟨rfl,rfl⟩
def aFR (a:Int × Int):List AV:=[.int .i64 a.1,.int .i64 a.2]
def LiA (l:List (Int × Int)) (v:AV):Prop:=(l=[]∧v=.nilS)∨∃ e,v=.vsl e (l.map aFR)
theorem LiA.len {l:List (Int × Int)} {v:AV} (hl:LiA l v) (h:aA0):aC5 h .slice v=some (.int .i64 l.length):=by
 rcases hl with ⟨rfl,rfl⟩ | ⟨e,rfl⟩
 ·rfl
 ·simp [aC5]
theorem LiA.ix {l:List (Int × Int)} {v:AV} (hl:LiA l v) (h:aA0) (k:IntKind) (j:Nat) (hj:j < l.length):aAP h 2 v (.int k j)=some (.vptr (aFR l[j]) 0):=by
 rcases hl with ⟨rfl,rfl⟩ | ⟨e,rfl⟩
 ·simp at hj
 ·simp [aAP,hj,aFR]
theorem LiA.fz {l:List (Int × Int)} {v:AV} (hl:LiA l v) (h:aA0) (d:Nat):freeze h (d+1) v=some (v,true):=by
 rcases hl with ⟨rfl,rfl⟩ | ⟨e,rfl⟩ <;> rfl
theorem LiA.cell {l:List (Int × Int)} {v:AV} (hl:LiA l v):cellsOf v=[v]∧aAq v=true:=by
 rcases hl with ⟨rfl,rfl⟩ | ⟨e,rfl⟩ <;> exact ⟨rfl,rfl⟩
structure TabD where
 acts:List (List (List (Int × Int)))
 gotos:List (List Int)
def aAU (n:Int):List (Int × Int)→Int
 | []=>0
 | [(k,m)]=>if m < 0 then -1 else if k=1∧m < n then 4*m+1 else if k=2∧m < 1024 then 4*m+2 else if k=3∧m=0 then 3 else -1
 | _ => -1
def aBO (n x:Int):Int:=if x < -1∨n≤x then -1 else x+1
def aAS (l:List Int):Bool:=l.all fun x=>decide (0≤x)
theorem w4 {m:Int} (h1:0≤m) (h2:m < 5000) (c:Int) (hc:0≤c) (hc2:c≤3):IntKind.i64.wrap (4*m)=4*m∧IntKind.i64.wrap (4*m+c)=4*m+c:=⟨w64 (by omega) (by omega),w64 (by omega) (by omega)⟩
theorem aTF {l:List (Int × Int)} {v:AV} (hl:LiA l v) (n:Int) (hn:0≤n∧n≤4096) (H:aA0):lim G0.cfg (.func 60) [v,.int .i64 n] H=some (.int .i64 (aAU n l),H):=by
 refine aAF rfl rfl aOz 1 (fun h=>aFw (hl.fz h 999) rfl) ?_ (fun _=>rfl) H
 have la:=hl.len
 have l2:∀ (h:aA0) (a b:AV),aAc h 2 true (.vptr [a,b] 0)=some (.agg [a,b]):=fun _ _ _=>rfl
 match l,hl with
 | [],hl =>
  rw [aHj]
  have la0:∀ h,aC5 h .slice v=some (.int .i64 0):=la
  have d0:decide ((0:Int)=0)=true:=rfl
  simp only [Zaf,Zag,Zah,Zam,Zan,Zao,Zaq,Zav,Zbc,Zbm,Zbo,Zbu,Zck,Zcy,Zcz,Zda,Zdb,Q2,Q7,Q4,Q5,Z1,Zdp,decide_true,Q0,Q1,Nat.reduceAdd,Nat.reduceSub,Int.reduceNeg,eq_self,true_and,Q0,Q1,Q8,Q9,Q3,Q6,la0,aAU,aA5,aA4,aA8,Z0,Prod.mk.injEq,true_and,exists_eq']
 | a::b::r,hl =>
  have e1:((a::b::r).length:Int)=r.length+2:=by simp;omega
  have e2:decide ((r.length:Int)+2=0)=false:=decide_eq_false (by omega)
  have e3:(1:Int) < (r.length:Int)+2:=by omega
  have x:=fun h k=>hl.ix h k 0 (by simp)
  rw [e1] at la
  rw [aHj]
  simp only [Y2,aFR,Int.natCast_zero] at x
  simp only [Zae,Zaf,Zag,Zah,Zai,Zam,Zan,Zao,Zar,Zav,Zaw,Zbc,Zbe,Zbh,Zbk,Zbm,Zbn,Zbo,Zbp,Zbq,Zbs,Zbt,Zbu,Zcf,Zck,Zcy,Zcz,Zda,Zdb,Zdc,Q2,Q7,Q4,Q5,Z5,Z1,Zdn,Zdp,Zee,Zef,decide_true,Z2,Q0,Q1,if_true,Nat.reduceAdd,Nat.reduceSub,Nat.reduceLeDiff,Int.reduceNeg,eq_self,and_self,true_and,Q0,Q1,Q8,Q9,Q3,Q6,aAc,aAz,aAe,part,aAw,aAx,Z8,Y1,aAq,Z9,Z6,Z3,Z4,Z7,Y0,Q3,Q6,Q2,la,e2,e3,x,aAU,aA5,aA4,aA8,Z0,Prod.mk.injEq,true_and,exists_eq']
 | [(k,m)],hl =>
  have x:=fun h k=>hl.ix h k 0 (by simp)
  simp only [Y2,aFR,Int.natCast_zero] at x
  replace la:∀ h,aC5 h .slice v=some (.int .i64 1):=la
  have d0:decide ((1:Int)=0)=false:=rfl
  have d9:¬ ((1:Int) < 1):=by omega
  rw [aHj]
  by_cases c0:m < 0
  ·simp only [Zae,Zaf,Zag,Zah,Zai,Zam,Zan,Zao,Zar,Zav,Zaw,Zbc,Zbe,Zbg,Zbl,Zbm,Zbn,Zbo,Zbp,Zbq,Zbs,Zbt,Zbu,Zcc,Zcf,Zck,Zcy,Zcz,Zda,Zdb,Zdc,Q2,Q7,Q4,Q5,Z5,Z1,Zdl,Zdn,Zdp,Zeb,Zed,Zee,Zef,decide_true,decide_false,Z2,Q0,Q1,if_true,Nat.reduceAdd,Nat.reduceSub,Nat.reduceLeDiff,Int.reduceNeg,Int.reduceEq,eq_self,and_self,true_and,Q0,Q1,Q8,Q9,Q3,Q6,aAc,aAz,aAe,part,aAw,aAx,Z8,Y1,aAq,Z9,Z6,Z3,Z4,Z7,Y0,Q3,Q6,Q2,la,d9,x,aAU,c0,if_true,aA5,aA4,aA8,Z0,Prod.mk.injEq,true_and,exists_eq']
  by_cases c1:k=1
  ·have d1:decide (k=1)=true:=decide_eq_true c1
   have d2:decide (k=2)=false:=decide_eq_false (by omega)
   have d3:decide (k=3)=false:=decide_eq_false (by omega)
   by_cases c2:m < n
   ·obtain ⟨w1,w2⟩:=w4 (m:=m) (by omega) (by omega) 1 (by omega) (by omega)
    have r:aAU n [(k,m)]=4*m+1:=by rw [aAU,if_neg c0,if_pos ⟨c1,c2⟩]
    rw [r]
    simp only [Zae,Zaf,Zag,Zah,Zai,Zam,Zan,Zao,Zaq,Zas,Zav,Zaw,Zbc,Zbe,Zbf,Zbg,Zbk,Zbl,Zbm,Zbn,Zbo,Zbp,Zbq,Zbs,Zbt,Zbu,Zcc,Zcf,Zck,Zcy,Zcz,Zda,Zdb,Zdc,Q2,Q7,Q4,Q5,Z5,Z1,Zdi,Zdk,Zdl,Zdn,Zdp,Zeb,Zed,Zee,Zef,decide_true,decide_false,Z2,Q0,Q1,if_true,Nat.reduceAdd,Nat.reduceSub,Nat.reduceLeDiff,Int.reduceNeg,Int.reduceEq,eq_self,and_self,true_and,Q0,Q1,Q8,Q9,Q3,Q6,aAc,aAz,aAe,part,aAw,aAx,Z8,Y1,aAq,Z9,Z6,Z3,Z4,Z7,Y0,Q3,Q6,Q2,la,d9,x,c0,d1,c2,w1,w2,aA5,aA4,aA8,Z0,Prod.mk.injEq,true_and,exists_eq']
   ·have r:aAU n [(k,m)] = -1:=by rw [aAU,if_neg c0,if_neg (fun h=>c2 h.2),if_neg (by omega),if_neg (by omega)]
    rw [r]
    simp only [Zae,Zaf,Zag,Zah,Zai,Zam,Zan,Zao,Zar,Zaw,Zbc,Zbe,Zbf,Zbg,Zbi,Zbk,Zbl,Zbm,Zbn,Zbo,Zbp,Zbq,Zbs,Zbt,Zbu,Zcc,Zcf,Zck,Zcy,Zcz,Zda,Zdb,Zdc,Q2,Q7,Q4,Q5,Z5,Z1,Zdl,Zdn,Zdp,Zeb,Zed,Zee,Zef,decide_false,Z2,Q0,Q1,if_true,Nat.reduceAdd,Nat.reduceSub,Nat.reduceLeDiff,Int.reduceNeg,Int.reduceEq,eq_self,and_self,true_and,Q0,Q1,Q8,Q9,Q3,Q6,aAc,aAz,aAe,part,aAw,aAx,Z8,Y1,aAq,Z9,Z6,Z3,Z4,Z7,Y0,Q3,Q6,Q2,la,d9,x,c0,d1,d2,d3,c2,aA5,aA4,aA8,Z0,Prod.mk.injEq,true_and,exists_eq']
  have d1:decide (k=1)=false:=decide_eq_false c1
  by_cases c3:k=2
  ·have d2:decide (k=2)=true:=decide_eq_true c3
   have d3:decide (k=3)=false:=decide_eq_false (by omega)
   by_cases c2:m < 1024
   ·obtain ⟨w1,w2⟩:=w4 (m:=m) (by omega) (by omega) 2 (by omega) (by omega)
    have r:aAU n [(k,m)]=4*m+2:=by rw [aAU,if_neg c0,if_neg (fun h=>c1 h.1),if_pos ⟨c3,c2⟩]
    rw [r]
    simp only [Zae,Zaf,Zag,Zah,Zai,Zam,Zan,Zao,Zaq,Zas,Zav,Zaw,Zbc,Zbe,Zbf,Zbg,Zbi,Zbk,Zbl,Zbm,Zbn,Zbo,Zbp,Zbq,Zbs,Zbt,Zbu,Zcc,Zcf,Zck,Zcy,Zcz,Zda,Zdb,Zdc,Q2,Q7,Q4,Q5,Z5,Z1,Zdi,Zdk,Zdl,Zdn,Zdp,Zeb,Zed,Zee,Zef,decide_true,decide_false,Z2,Q0,Q1,if_true,Nat.reduceAdd,Nat.reduceSub,Nat.reduceLeDiff,Int.reduceNeg,Int.reduceEq,eq_self,and_self,true_and,Q0,Q1,Q8,Q9,Q3,Q6,aAc,aAz,aAe,part,aAw,aAx,Z8,Y1,aAq,Z9,Z6,Z3,Z4,Z7,Y0,Q3,Q6,Q2,la,d9,x,c0,d1,d2,c2,w1,w2,aA5,aA4,aA8,Z0,Prod.mk.injEq,true_and,exists_eq']
   ·have r:aAU n [(k,m)] = -1:=by rw [aAU,if_neg c0,if_neg (fun h=>c1 h.1),if_neg (fun h=>c2 h.2),if_neg (by omega)]
    rw [r]
    simp only [Zae,Zaf,Zag,Zah,Zai,Zam,Zan,Zao,Zar,Zaw,Zbc,Zbe,Zbf,Zbg,Zbi,Zbk,Zbl,Zbm,Zbn,Zbo,Zbp,Zbq,Zbs,Zbt,Zbu,Zcc,Zcf,Zck,Zcy,Zcz,Zda,Zdb,Zdc,Q2,Q7,Q4,Q5,Z5,Z1,Zdl,Zdn,Zdp,Zeb,Zed,Zee,Zef,decide_false,Z2,Q0,Q1,if_true,Nat.reduceAdd,Nat.reduceSub,Nat.reduceLeDiff,Int.reduceNeg,Int.reduceEq,eq_self,and_self,true_and,Q0,Q1,Q8,Q9,Q3,Q6,aAc,aAz,aAe,part,aAw,aAx,Z8,Y1,aAq,Z9,Z6,Z3,Z4,Z7,Y0,Q3,Q6,Q2,la,d9,x,c0,d1,d2,d3,c2,aA5,aA4,aA8,Z0,Prod.mk.injEq,true_and,exists_eq']
  have d2:decide (k=2)=false:=decide_eq_false c3
  by_cases c4:k=3
  ·have d3:decide (k=3)=true:=decide_eq_true c4
   by_cases c2:m=0
   ·have d4:decide (m=0)=true:=decide_eq_true c2
    have r:aAU n [(k,m)]=3:=by rw [aAU,if_neg c0,if_neg (fun h=>c1 h.1),if_neg (fun h=>c3 h.1),if_pos ⟨c4,c2⟩]
    rw [r]
    simp only [Zae,Zaf,Zag,Zah,Zai,Zam,Zan,Zao,Zaq,Zas,Zav,Zaw,Zbc,Zbe,Zbf,Zbg,Zbi,Zbk,Zbl,Zbm,Zbn,Zbo,Zbp,Zbq,Zbs,Zbt,Zbu,Zcc,Zcf,Zck,Zcy,Zcz,Zda,Zdb,Zdc,Q2,Q7,Q4,Q5,Z5,Z1,Zdl,Zdn,Zdp,Zeb,Zed,Zee,Zef,decide_false,Z2,Q0,Q1,if_true,Nat.reduceAdd,Nat.reduceSub,Nat.reduceLeDiff,Int.reduceNeg,Int.reduceEq,eq_self,and_self,true_and,Q0,Q1,Q8,Q9,Q3,Q6,aAc,aAz,aAe,part,aAw,aAx,Z8,Y1,aAq,Z9,Z6,Z3,Z4,Z7,Y0,Q3,Q6,Q2,la,d9,x,c0,d1,d2,d3,d4,aA5,aA4,aA8,Z0,Prod.mk.injEq,true_and,exists_eq']
   ·have d4:decide (m=0)=false:=decide_eq_false c2
    have r:aAU n [(k,m)] = -1:=by rw [aAU,if_neg c0,if_neg (fun h=>c1 h.1),if_neg (fun h=>c3 h.1),if_neg (fun h=>c2 h.2)]
    rw [r]
    simp only [Zae,Zaf,Zag,Zah,Zai,Zam,Zan,Zao,Zar,Zaw,Zbc,Zbe,Zbf,Zbg,Zbi,Zbk,Zbl,Zbm,Zbn,Zbo,Zbp,Zbq,Zbs,Zbt,Zbu,Zcc,Zcf,Zck,Zcy,Zcz,Zda,Zdb,Zdc,Q2,Q7,Q4,Q5,Z5,Z1,Zdl,Zdn,Zdp,Zeb,Zed,Zee,Zef,decide_false,Z2,Q0,Q1,if_true,Nat.reduceAdd,Nat.reduceSub,Nat.reduceLeDiff,Int.reduceNeg,Int.reduceEq,eq_self,and_self,true_and,Q0,Q1,Q8,Q9,Q3,Q6,aAc,aAz,aAe,part,aAw,aAx,Z8,Y1,aAq,Z9,Z6,Z3,Z4,Z7,Y0,Q3,Q6,Q2,la,d9,x,c0,d1,d2,d3,d4,aA5,aA4,aA8,Z0,Prod.mk.injEq,true_and,exists_eq']
  have d3:decide (k=3)=false:=decide_eq_false c4
  have r:aAU n [(k,m)] = -1:=by rw [aAU,if_neg c0,if_neg (fun h=>c1 h.1),if_neg (fun h=>c3 h.1),if_neg (fun h=>c4 h.1)]
  rw [r]
  simp only [Zae,Zaf,Zag,Zah,Zai,Zam,Zan,Zao,Zar,Zaw,Zbc,Zbe,Zbg,Zbi,Zbl,Zbm,Zbn,Zbo,Zbp,Zbq,Zbs,Zbt,Zbu,Zcc,Zcf,Zck,Zcy,Zcz,Zda,Zdb,Zdc,Q2,Q7,Q4,Q5,Z5,Z1,Zdl,Zdn,Zdp,Zeb,Zed,Zee,Zef,decide_false,Z2,Q0,Q1,if_true,Nat.reduceAdd,Nat.reduceSub,Nat.reduceLeDiff,Int.reduceNeg,Int.reduceEq,eq_self,and_self,true_and,Q0,Q1,Q8,Q9,Q3,Q6,aAc,aAz,aAe,part,aAw,aAx,Z8,Y1,aAq,Z9,Z6,Z3,Z4,Z7,Y0,Q3,Q6,Q2,la,d9,x,c0,d1,d2,d3,aA5,aA4,aA8,Z0,Prod.mk.injEq,true_and,exists_eq']
theorem aTm {l:List (Int × Int)} {v:AV} (hl:LiA l v) (n:Int) (hn:0≤n∧n≤4096) (H:aA0):lim G0.cfg (.func 55) [v,.int .i64 n] H=some (.int .i64 (aAU n l),H):=by
 refine aAF rfl rfl aPH 1 (fun h=>aFw (hl.fz h 999) rfl) ?_ (fun _=>rfl) H
 have la:=hl.len
 have l0:∀ (h:aA0) (a b:AV),aAc h 1 false (.vptr [a,b] 0)=some a:=fun _ _ _=>rfl
 have l1:∀ (h:aA0) (a b:AV),aAc h 1 false (.vptr [a,b] 1)=some b:=fun _ _ _=>rfl
 match l,hl with
 | [],hl =>
  rw [aIn]
  have la0:∀ h,aC5 h .slice v=some (.int .i64 0):=la
  have d0:decide ((0:Int)=0)=true:=rfl
  simp only [Zaf,Zag,Zah,Zam,Zan,Zao,Zaq,Zav,Zbc,Zbm,Zbo,Zbu,Zck,Zcy,Zcz,Zda,Zdb,Q2,Q7,Q4,Q5,Z1,Zdp,decide_true,Q0,Q1,Nat.reduceAdd,Nat.reduceSub,Int.reduceNeg,eq_self,true_and,Q0,Q1,Q8,Q9,Q3,Q6,la0,aAU,aA5,aA4,aA8,Z0,Prod.mk.injEq,true_and,exists_eq']
 | a::b::r,hl =>
  have e1:((a::b::r).length:Int)=r.length+2:=by simp;omega
  have e2:decide ((r.length:Int)+2=0)=false:=decide_eq_false (by omega)
  have e3:(1:Int) < (r.length:Int)+2:=by omega
  rw [e1] at la
  rw [aIn]
  simp only [Zae,Zaf,Zag,Zah,Zam,Zan,Zao,Zaq,Zav,Zaw,Zbc,Zbm,Zbo,Zbu,Zck,Zcy,Zcz,Zda,Zdb,Q2,Q7,Q4,Q5,Z1,Zdn,Zdp,decide_true,Q0,Q1,Nat.reduceAdd,Nat.reduceSub,Int.reduceNeg,eq_self,true_and,Q0,Q1,Q8,Q9,Q3,Q6,la,e2,e3,aAU,aA5,aA4,aA8,Z0,Prod.mk.injEq,true_and,exists_eq']
 | [(k,m)],hl =>
  have x:=fun h k=>hl.ix h k 0 (by simp)
  simp only [Y2,aFR,Int.natCast_zero] at x
  replace la:∀ h,aC5 h .slice v=some (.int .i64 1):=la
  have d0:decide ((1:Int)=0)=false:=rfl
  have d9:¬ ((1:Int) < 1):=by omega
  rw [aIn]
  by_cases c0:m < 0
  ·have c0':¬ (0:Int)≤m:=by omega
   have d4:decide (m=0)=false:=decide_eq_false (by omega)
   have r:aAU n [(k,m)] = -1:=by rw [aAU,if_pos c0]
   rw [r]
   by_cases c1:k=1
   ·have d1:decide (k=1)=true:=decide_eq_true c1
    simp only [Zae,Zaf,Zag,Zah,Zai,Zam,Zan,Zao,Zar,Zav,Zaw,Zbc,Zbi,Zbl,Zbm,Zbn,Zbo,Zbp,Zbs,Zbu,Zcc,Zcf,Zck,Zcy,Zcz,Zda,Zdb,Q2,Q7,Q4,Q5,Z1,Zdn,Zdo,Zdp,Zec,decide_false,Q0,Q1,Nat.reduceAdd,Nat.reduceSub,Int.reduceNeg,Int.reduceEq,eq_self,true_and,Q0,Q1,Q8,Q9,Q3,Q6,la,d9,x,l0,l1,d1,c0',aA5,aA4,aA8,Z0,Prod.mk.injEq,true_and,exists_eq']
   have d1:decide (k=1)=false:=decide_eq_false c1
   by_cases c3:k=2
   ·have d2:decide (k=2)=true:=decide_eq_true c3
    simp only [Zae,Zaf,Zag,Zah,Zai,Zam,Zan,Zao,Zar,Zav,Zaw,Zbc,Zbi,Zbl,Zbm,Zbn,Zbo,Zbp,Zbs,Zbu,Zcc,Zcf,Zck,Zcy,Zcz,Zda,Zdb,Q2,Q7,Q4,Q5,Z1,Zdn,Zdo,Zdp,Zec,decide_false,Q0,Q1,Nat.reduceAdd,Nat.reduceSub,Int.reduceNeg,Int.reduceEq,eq_self,true_and,Q0,Q1,Q8,Q9,Q3,Q6,la,d9,x,l0,l1,d1,d2,c0',aA5,aA4,aA8,Z0,Prod.mk.injEq,true_and,exists_eq']
   have d2:decide (k=2)=false:=decide_eq_false c3
   by_cases c4:k=3
   ·have d3:decide (k=3)=true:=decide_eq_true c4
    simp only [Zae,Zaf,Zag,Zah,Zai,Zam,Zan,Zao,Zar,Zav,Zaw,Zbc,Zbm,Zbo,Zbs,Zbu,Zcc,Zcf,Zck,Zcy,Zcz,Zda,Zdb,Q2,Q7,Q4,Q5,Z1,Zdn,Zdp,Zec,decide_false,Q0,Q1,Nat.reduceAdd,Nat.reduceSub,Int.reduceNeg,Int.reduceEq,eq_self,true_and,Q0,Q1,Q8,Q9,Q3,Q6,la,d9,x,l0,l1,d1,d2,d3,d4,aA5,aA4,aA8,Z0,Prod.mk.injEq,true_and,exists_eq']
   have d3:decide (k=3)=false:=decide_eq_false c4
   simp only [Zae,Zaf,Zag,Zah,Zai,Zam,Zan,Zao,Zar,Zaw,Zbc,Zbm,Zbo,Zbs,Zbu,Zcc,Zcf,Zck,Zcy,Zcz,Zda,Zdb,Q2,Q7,Q4,Q5,Z1,Zdn,Zdp,Zec,decide_false,Q0,Q1,Nat.reduceAdd,Nat.reduceSub,Int.reduceNeg,Int.reduceEq,eq_self,true_and,Q0,Q1,Q8,Q9,Q3,Q6,la,d9,x,l0,l1,d1,d2,d3,aA5,aA4,aA8,Z0,Prod.mk.injEq,true_and,exists_eq']
  have c0':(0:Int)≤m:=by omega
  by_cases c1:k=1
  ·have d1:decide (k=1)=true:=decide_eq_true c1
   by_cases c2:m < n
   ·obtain ⟨w1,w2⟩:=w4 (m:=m) (by omega) (by omega) 1 (by omega) (by omega)
    have r:aAU n [(k,m)]=4*m+1:=by rw [aAU,if_neg c0,if_pos ⟨c1,c2⟩]
    rw [r]
    simp only [Zae,Zaf,Zag,Zah,Zai,Zam,Zan,Zao,Zaq,Zas,Zav,Zaw,Zbc,Zbf,Zbk,Zbm,Zbn,Zbo,Zbp,Zbs,Zbu,Zcc,Zcf,Zck,Zcy,Zcz,Zda,Zdb,Q2,Q7,Q4,Q5,Z1,Zdi,Zdk,Zdl,Zdn,Zdo,Zdp,Zec,decide_true,decide_false,Q0,Q1,Nat.reduceAdd,Nat.reduceSub,Int.reduceNeg,Int.reduceEq,eq_self,true_and,Q0,Q1,Q8,Q9,Q3,Q6,la,d9,x,l0,l1,c0',d1,c2,w1,w2,aA5,aA4,aA8,Z0,Prod.mk.injEq,true_and,exists_eq']
   ·have r:aAU n [(k,m)] = -1:=by rw [aAU,if_neg c0,if_neg (fun h=>c2 h.2),if_neg (by omega),if_neg (by omega)]
    rw [r]
    simp only [Zae,Zaf,Zag,Zah,Zai,Zam,Zan,Zao,Zar,Zav,Zaw,Zbc,Zbf,Zbk,Zbm,Zbn,Zbo,Zbp,Zbs,Zbu,Zcc,Zcf,Zck,Zcy,Zcz,Zda,Zdb,Q2,Q7,Q4,Q5,Z1,Zdl,Zdn,Zdo,Zdp,Zec,decide_true,decide_false,Q0,Q1,Nat.reduceAdd,Nat.reduceSub,Int.reduceNeg,Int.reduceEq,eq_self,true_and,Q0,Q1,Q8,Q9,Q3,Q6,la,d9,x,l0,l1,c0',d1,c2,aA5,aA4,aA8,Z0,Prod.mk.injEq,true_and,exists_eq']
  have d1:decide (k=1)=false:=decide_eq_false c1
  by_cases c3:k=2
  ·have d2:decide (k=2)=true:=decide_eq_true c3
   by_cases c2:m < 1024
   ·obtain ⟨w1,w2⟩:=w4 (m:=m) (by omega) (by omega) 2 (by omega) (by omega)
    have r:aAU n [(k,m)]=4*m+2:=by rw [aAU,if_neg c0,if_neg (fun h=>c1 h.1),if_pos ⟨c3,c2⟩]
    rw [r]
    simp only [Zae,Zaf,Zag,Zah,Zai,Zam,Zan,Zao,Zaq,Zas,Zav,Zaw,Zbc,Zbf,Zbk,Zbm,Zbn,Zbo,Zbp,Zbs,Zbu,Zcc,Zcf,Zck,Zcy,Zcz,Zda,Zdb,Q2,Q7,Q4,Q5,Z1,Zdi,Zdk,Zdl,Zdn,Zdo,Zdp,Zec,decide_true,decide_false,Q0,Q1,Nat.reduceAdd,Nat.reduceSub,Int.reduceNeg,Int.reduceEq,eq_self,true_and,Q0,Q1,Q8,Q9,Q3,Q6,la,d9,x,l0,l1,c0',d1,d2,c2,w1,w2,aA5,aA4,aA8,Z0,Prod.mk.injEq,true_and,exists_eq']
   ·have r:aAU n [(k,m)] = -1:=by rw [aAU,if_neg c0,if_neg (fun h=>c1 h.1),if_neg (fun h=>c2 h.2),if_neg (by omega)]
    rw [r]
    simp only [Zae,Zaf,Zag,Zah,Zai,Zam,Zan,Zao,Zar,Zav,Zaw,Zbc,Zbf,Zbk,Zbm,Zbn,Zbo,Zbp,Zbs,Zbu,Zcc,Zcf,Zck,Zcy,Zcz,Zda,Zdb,Q2,Q7,Q4,Q5,Z1,Zdl,Zdn,Zdo,Zdp,Zec,decide_true,decide_false,Q0,Q1,Nat.reduceAdd,Nat.reduceSub,Int.reduceNeg,Int.reduceEq,eq_self,true_and,Q0,Q1,Q8,Q9,Q3,Q6,la,d9,x,l0,l1,c0',d1,d2,c2,aA5,aA4,aA8,Z0,Prod.mk.injEq,true_and,exists_eq']
  have d2:decide (k=2)=false:=decide_eq_false c3
  by_cases c4:k=3
  ·have d3:decide (k=3)=true:=decide_eq_true c4
   by_cases c2:m=0
   ·have d4:decide (m=0)=true:=decide_eq_true c2
    have r:aAU n [(k,m)]=3:=by rw [aAU,if_neg c0,if_neg (fun h=>c1 h.1),if_neg (fun h=>c3 h.1),if_pos ⟨c4,c2⟩]
    rw [r]
    simp only [Zae,Zaf,Zag,Zah,Zai,Zam,Zan,Zao,Zaq,Zas,Zav,Zaw,Zbc,Zbm,Zbo,Zbs,Zbu,Zcc,Zcf,Zck,Zcy,Zcz,Zda,Zdb,Q2,Q7,Q4,Q5,Z1,Zdn,Zdp,Zec,decide_false,Q0,Q1,Nat.reduceAdd,Nat.reduceSub,Int.reduceNeg,Int.reduceEq,eq_self,true_and,Q0,Q1,Q8,Q9,Q3,Q6,la,d9,x,l0,l1,d1,d2,d3,d4,aA5,aA4,aA8,Z0,Prod.mk.injEq,true_and,exists_eq']
   ·have d4:decide (m=0)=false:=decide_eq_false c2
    have r:aAU n [(k,m)] = -1:=by rw [aAU,if_neg c0,if_neg (fun h=>c1 h.1),if_neg (fun h=>c3 h.1),if_neg (fun h=>c2 h.2)]
    rw [r]
    simp only [Zae,Zaf,Zag,Zah,Zai,Zam,Zan,Zao,Zar,Zav,Zaw,Zbc,Zbm,Zbo,Zbs,Zbu,Zcc,Zcf,Zck,Zcy,Zcz,Zda,Zdb,Q2,Q7,Q4,Q5,Z1,Zdn,Zdp,Zec,decide_false,Q0,Q1,Nat.reduceAdd,Nat.reduceSub,Int.reduceNeg,Int.reduceEq,eq_self,true_and,Q0,Q1,Q8,Q9,Q3,Q6,la,d9,x,l0,l1,d1,d2,d3,d4,aA5,aA4,aA8,Z0,Prod.mk.injEq,true_and,exists_eq']
  have d3:decide (k=3)=false:=decide_eq_false c4
  have r:aAU n [(k,m)] = -1:=by rw [aAU,if_neg c0,if_neg (fun h=>c1 h.1),if_neg (fun h=>c3 h.1),if_neg (fun h=>c4 h.1)]
  rw [r]
  simp only [Zae,Zaf,Zag,Zah,Zai,Zam,Zan,Zao,Zar,Zaw,Zbc,Zbm,Zbo,Zbs,Zbu,Zcc,Zcf,Zck,Zcy,Zcz,Zda,Zdb,Q2,Q7,Q4,Q5,Z1,Zdn,Zdp,Zec,decide_false,Q0,Q1,Nat.reduceAdd,Nat.reduceSub,Int.reduceNeg,Int.reduceEq,eq_self,true_and,Q0,Q1,Q8,Q9,Q3,Q6,la,d9,x,l0,l1,d1,d2,d3,aA5,aA4,aA8,Z0,Prod.mk.injEq,true_and,exists_eq']
theorem aGr (a b c:Int) (H:aA0):lim G0.cfg (.func 44) [.int .i64 a,.int .i64 b,.int .i64 c] H=some (.bool (decide (b≤a) && decide (a≤c)),H):=by
 refine aAF rfl rfl aPG 1 (fun h=>aTA rfl rfl rfl) ?_ (fun _=>rfl) H
 rw [aPA]
 by_cases h1:b≤a
 ·by_cases h2:a≤c
  ·rw [decide_eq_true h1,decide_eq_true h2]
   simp only [Zaf,Zag,Zam,Zan,Zao,Zbc,Zbf,Zbk,Zbm,Zbn,Zbo,Zbp,Zbu,Zcy,Zcz,Zda,Zdb,Q2,Q7,Q4,Q5,Z1,Zdm,Zdo,decide_true,Q0,Q1,Nat.reduceAdd,Nat.reduceSub,eq_self,true_and,Q0,Q1,Q8,Q9,Q3,Q6,h1,h2,aA5,aA4,aA8,Z0,Prod.mk.injEq,true_and,Bool.and_true,exists_eq']
  ·rw [decide_eq_true h1,decide_eq_false h2]
   simp only [Zaf,Zag,Zam,Zan,Zao,Zbc,Zbf,Zbk,Zbm,Zbn,Zbo,Zbp,Zbu,Zcy,Zcz,Zda,Zdb,Q2,Q7,Q4,Q5,Z1,Zdm,Zdo,decide_true,decide_false,Q0,Q1,Nat.reduceAdd,Nat.reduceSub,eq_self,true_and,Q0,Q1,Q8,Q9,Q3,Q6,h1,h2,aA5,aA4,aA8,Z0,Prod.mk.injEq,true_and,Bool.and_false,exists_eq']
 ·rw [decide_eq_false h1]
  simp only [Zaf,Zag,Zam,Zan,Zao,Zbc,Zbi,Zbl,Zbm,Zbn,Zbo,Zbp,Zbu,Zcy,Zcz,Zda,Zdb,Q2,Q7,Q4,Q5,Z1,Zdo,decide_false,Q0,Q1,Nat.reduceAdd,Nat.reduceSub,eq_self,true_and,Q0,Q1,Q8,Q9,Q3,Q6,h1,Bool.false_and,aA5,aA4,aA8,Z0,Prod.mk.injEq,true_and,Bool.false_and,exists_eq']
def aJE:List Int→Int
 | []=>0
 | x::l=>l.foldl (fun a b=>if b < a then b else a) x
theorem aOV:∀ l:List Int,l≠[]→(aJE l < 0↔aAS l=false):=by
 have key:∀ (l:List Int) (x:Int),l.foldl (fun a b=>if b < a then b else a) x < 0↔(x < 0∨∃ y ∈ l,y < 0):=by
  intro l
  induction l with
  | nil=>intro x;simp
  | cons y l ih =>
   intro x
   rw [List.foldl_cons,ih]
   split
   ·constructor
    ·rintro (h | ⟨z,h1,h2⟩)
     ·exact .inr ⟨y,by simp,h⟩
     ·exact .inr ⟨z,by simp [h1],h2⟩
    ·rintro (h | ⟨z,h1,h2⟩)
     ·left;omega
     ·rcases List.mem_cons.1 h1 with rfl | h1
      ·exact .inl h2
      ·exact .inr ⟨z,h1,h2⟩
   ·constructor
    ·rintro (h | ⟨z,h1,h2⟩)
     ·exact .inl h
     ·exact .inr ⟨z,by simp [h1],h2⟩
    ·rintro (h | ⟨z,h1,h2⟩)
     ·exact .inl h
     ·rcases List.mem_cons.1 h1 with rfl | h1
      ·left;omega
      ·exact .inr ⟨z,h1,h2⟩
 intro l hl
 cases l with
 | nil=>exact absurd rfl hl
 | cons x l =>
  rw [aJE,key]
  unfold aAS
  rw [Bool.eq_false_iff,Ne,List.all_eq_true]
  constructor
  ·rintro (h | ⟨z,h1,h2⟩) hh
   ·have:=hh x (by simp);simp at this;omega
   ·have:=hh z (by simp [h1]);simp at this;omega
  ·intro hh
   by_cases c:x < 0
   ·exact .inl c
   ·refine .inr ?_
    apply Classical.byContradiction
    intro hn
    apply hh
    intro z hz
    rcases List.mem_cons.1 hz with rfl | hz
    ·simp;omega
    ·have:¬ z < 0:=fun h=>hn ⟨z,hz,h⟩
     simp;omega
theorem aUq {l:List Int} {v:AV} (hl:Li l v) (h0:l≠[]) (hm:l.length≤1000000):∃ h',aAW (lim G0.cfg) (l.length+1) aCg [v] []=some (.int .i64 (aJE l),h'):=by
 have la:=hl.len
 have lv:∀ (h:aA0) (z:Int),aAc h 1 false (.vptr (eI z) 0)=some (.int .i64 z):=fun _ _=>rfl
 have loop:∀ (d i m:Nat) (s:Int),l.length=i+d→d < m→aAu (aA7 (lim G0.cfg) (l.length+1) aC3) m ⟨[v,J,J,.int .i64 s,.int .i64 i,J,J,J,J,J,J,J,J,J,J,J,J,J,J,J,J,J,J,J,J],[]⟩=some (.exit 0,⟨[J,J,J,.int .i64 ((l.drop i).foldl (fun a b=>if b < a then b else a) s),J,J,J,J,J,J,J,J,J,J,J,J,J,J,J,J,J,J,J,J,J],[]⟩):=by
  intro d
  induction d with
  | zero =>
   intro i m s h1 h2
   obtain ⟨m,rfl⟩:∃ q,m=q+1:=⟨m - 1,by omega⟩
   have h3:¬ ((i:Int) < l.length):=by omega
   have q1:l.drop i=[]:=List.drop_eq_nil_iff.2 (by omega)
   rw [q1]
   simp only [aAd,aEU,Zaf,Zag,Zah,Zak,Zal,Zan,Zao,Zap,Zaw,Zaz,Zbc,Zbm,Zbo,Zbu,Zck,Zcz,Zdb,Zdf,Zdg,Zdh,Q2,Q7,Q4,Q5,Zdl,decide_false,eq_self,la,h3,List.foldl_nil]
  | succ d ih =>
   intro i m s h1 h2
   obtain ⟨m,rfl⟩:∃ q,m=q+1:=⟨m - 1,by omega⟩
   have h3:i < l.length:=by omega
   have h3':(i:Int) < l.length:=by omega
   have hw:=aBb (n:=i) (by omega)
   have q1:l.drop i=l[i]::l.drop (i+1):=List.drop_eq_getElem_cons h3
   have xa:=fun h=>hl.ix h .i64 i h3
   have em:aJ3 false [.int .i64 s,.int .i64 l[i]]=some (.int .i64 (if l[i] < s then l[i] else s)):=by simp only [aJ3,amm];rfl
   rw [q1,List.foldl_cons,← ih (i+1) m _ (by omega) (by omega)]
   simp only [aAd,aEU,Zae,Zaf,Zag,Zah,Zai,Zak,Zan,Zao,Zar,Zav,Zay,Zbc,Zbm,Zbo,Zbs,Zbu,Zcf,Zck,Zcp,Zcz,Zda,Zdb,Zdd,Zde,Zdf,Zdg,Zdh,Q2,Q7,Q4,Q5,Zdi,Zdl,decide_true,eq_self,la,h3',xa,lv,em,hw]
 cases l with
 | nil=>exact absurd rfl h0
 | cons x l =>
  have e:=loop l.length 1 (l.length+1+1) x (by simp;omega) (by omega)
  have h1:¬ ((l.length+1:Nat):Int) < 1:=by omega
  have xa:=fun h=>hl.ix h .i64 0 (by simp)
  rw [Y2] at xa
  simp only [Z3,Z6,Q0] at e
  have z1:((1:Nat):Int)=1:=rfl
  rw [z1] at e
  rw [z0] at xa
  rw [aJh,aJE]
  simp only [Zae,Zaf,Zag,Zah,Zai,Zaj,Zak,Zam,Zan,Zao,Zat,Zaw,Zax,Zbc,Zbm,Zbo,Zbs,Zbu,Zcf,Zck,Zcy,Zcz,Zda,Zdb,Zdf,Zdg,Zdh,Q2,Q7,Q4,Q5,Z1,Zdl,decide_false,Q0,Q1,Nat.reduceAdd,Nat.reduceSub,eq_self,true_and,Q0,Q1,Q8,Q9,Q3,Q6,la,h1,xa,lv,e,Q0,aA5,aA4,aA8,Z0,Prod.mk.injEq,true_and,exists_eq']
end Go.Proofs.Ytgeedikghjcebaa.Ai
namespace Go.Proofs.Ytgeedikghjcebaa.Ai
open Go Go.Proofs
open AV renaming junk → J
open List renaming set_cons_zero → Q0, getD_cons_zero → Q1, getD_cons_succ → Q2, length_cons → Q3, set_cons_succ → Q4, length_nil → Q5, drop_zero → Q6, take_succ_cons → Q7, replicate_succ → Q9, replicate_zero → Z0, take_nil → Z1, drop_eq_getElem_cons → Z3, cons_append → Z4, nil_append → Z6, drop_eq_nil_iff → Z8
open Option renaming bind_some → Q8, map_some → Z5
open Option.some renaming injEq → Z2
open Bool renaming not_false → Z7, not_true → Z9
set_option linter.unusedVariables false
set_option linter.unusedSimpArgs false
set_option maxRecDepth 10000
set_option maxHeartbeats 4000000
theorem aKq {a b:List Int} {v w:AV} (ha:Li a v) (hb:Li b w) (hm:a.length≤1000000000) (H:aA0):lim G0.cfg (.func 59) [v,w] H=some (.bool (decide (a=b)),H):=by
 refine aAF rfl rfl aRH (a.length+1) (fun h=>aFw (ha.fz h 999) (hb.fz h 999)) ?_ (fun _=>rfl) H
 have la:=ha.len
 have lb:=hb.len
 have loop:a.length=b.length→∀ (d i m:Nat),a.length=i+d→d < m→aAu (aA7 (lim G0.cfg) (a.length+1) aEZ) m ⟨[v,w,J,J,J,.int .i64 i,J,J,J,J,J,J,J,J,J,J,J,J,J,J,J,J,J,J,J,J],[]⟩=bif decide (a.drop i=b.drop i) then some (.exit 0,⟨[J,J,J,J,J,J,J,J,J,J,J,J,J,J,J,J,J,J,J,J,J,J,J,J,J,J],[]⟩) else some (.ret,⟨[J,J,J,J,.bool false,J,J,J,J,J,J,J,J,J,J,J,J,J,J,J,J,J,J,J,J,J],[]⟩):=by
  intro hl d
  induction d with
  | zero =>
   intro i m h1 h2
   obtain ⟨m,rfl⟩:∃ q,m=q+1:=⟨m - 1,by omega⟩
   have h3:¬ ((i:Int) < a.length):=by omega
   have q1:a.drop i=[]:=Z8.2 (by omega)
   have q2:b.drop i=[]:=Z8.2 (by omega)
   rw [q1,q2]
   simp only [aAd,aHn,Zaf,Zag,Zah,Zak,Zal,Zan,Zao,Zap,Zaw,Zaz,Zbc,Zbm,Zbo,Zbu,Zck,Zcz,Zdb,Zdg,Zdh,Q0,Q4,Q1,Q2,Zdl,decide_true,decide_false,eq_self,cond_true,la,h3]
  | succ d ih =>
   intro i m h1 h2
   obtain ⟨m,rfl⟩:∃ q,m=q+1:=⟨m - 1,by omega⟩
   have h3:i < a.length:=by omega
   have h4:i < b.length:=by omega
   have h3':(i:Int) < a.length:=by omega
   have hw:=aBb (n:=i) (by omega)
   have q1:a.drop i=a[i]::a.drop (i+1):=Z3 h3
   have q2:b.drop i=b[i]::b.drop (i+1):=Z3 h4
   have xa:=fun h=>ha.ix h .i64 i h3
   have xb:=fun h=>hb.ix h .i64 i h4
   rw [q1,q2]
   by_cases e:a[i]=b[i]
   case pos =>
    have e1:decide (a[i]::a.drop (i+1)=b[i]::b.drop (i+1))=decide (a.drop (i+1)=b.drop (i+1)):=by rw [decide_eq_decide,e,List.cons.injEq];simp only [true_and]
    have e2:decide (a[i]=b[i])=true:=decide_eq_true e
    rw [e1,← ih (i+1) m (by omega) (by omega)]
    simp only [aAd,aHn,Zae,Zaf,Zag,Zah,Zai,Zak,Zan,Zao,Zar,Zav,Zaw,Zay,Zbc,Zbm,Zbo,Zbs,Zbu,Zcf,Zck,Zcz,Zda,Zdb,Zdf,Zdg,Zdh,Q0,Q4,Q1,Q2,Q8,Zdi,Zdl,Zdq,Zed,decide_true,Z9,Q3,Q5,if_true,Nat.reduceAdd,Nat.reduceLeDiff,eq_self,aAc,aAz,part,eI,Q6,Q7,Z1,Q0,la,h3',xa,xb,e2,hw]
   case neg =>
    have e1:decide (a[i]::a.drop (i+1)=b[i]::b.drop (i+1))=false:=decide_eq_false fun h=>e (List.cons.inj h).1
    have e2:decide (a[i]=b[i])=false:=decide_eq_false e
    rw [e1]
    simp only [aAd,aHn,Zae,Zaf,Zag,Zah,Zai,Zak,Zam,Zan,Zao,Zaq,Zas,Zav,Zba,Zbc,Zbm,Zbo,Zbs,Zbu,Zcf,Zck,Zcz,Zda,Zdb,Zdf,Zdg,Zdh,Q0,Q4,Q1,Q2,Q8,Zdl,Zdq,Zed,decide_true,Z7,Q3,Q5,if_true,Nat.reduceAdd,Nat.reduceLeDiff,eq_self,cond_false,aAc,aAz,part,eI,Q6,Q7,Z1,Q0,la,h3',xa,xb,e2]
 rw [aRz]
 by_cases q:(a.length:Int)=b.length
 case neg =>
  have e1:decide (a=b)=false:=decide_eq_false fun h=>q (by rw [h])
  have e2:decide ((a.length:Int)=b.length)=false:=decide_eq_false q
  rw [e1]
  simp only [Zaf,Zag,Zah,Zam,Zan,Zao,Zaq,Zav,Zbc,Zbm,Zbo,Zbu,Zck,Zcy,Zcz,Zda,Zdb,Q0,Q4,Q1,Q2,Z5,Zdq,Z7,Q3,Q5,Nat.reduceAdd,Nat.reduceSub,eq_self,true_and,Q3,Q5,Q9,Z0,Z4,Z6,la,lb,e2,aA5,aA4,aA8,Z2,Prod.mk.injEq,true_and,exists_eq']
 case pos =>
  have e2:decide ((a.length:Int)=b.length)=true:=decide_eq_true q
  have e:=loop (by omega) a.length 0 (a.length+1) (by omega) (by omega)
  rw [Q6,Q6,z0] at e
  by_cases q2:a=b
  ·rw [decide_eq_true q2,cond_true] at e
   rw [decide_eq_true q2]
   simp only [Zae,Zaf,Zag,Zah,Zai,Zaj,Zak,Zam,Zan,Zao,Zat,Zaw,Zax,Zbc,Zbm,Zbo,Zbu,Zck,Zcy,Zcz,Zda,Zdb,Zdf,Zdg,Zdh,Q0,Q4,Q1,Q2,Z5,Zdq,Z9,Q3,Q5,Nat.reduceAdd,Nat.reduceSub,eq_self,true_and,Q3,Q5,Q9,Z0,Z4,Z6,la,lb,e2,e,aA5,aA4,aA8,Z2,Prod.mk.injEq,true_and,exists_eq']
  ·rw [decide_eq_false q2,cond_false] at e
   rw [decide_eq_false q2]
   simp only [Zae,Zaf,Zag,Zah,Zai,Zaj,Zak,Zan,Zao,Zaq,Zas,Zaw,Zax,Zbc,Zbm,Zbo,Zbu,Zck,Zcy,Zcz,Zda,Zdb,Zdf,Zdg,Zdh,Q0,Q4,Q1,Q2,Z5,Zdq,Z9,Q3,Q5,Nat.reduceAdd,Nat.reduceSub,eq_self,true_and,Q3,Q5,Q9,Z0,Z4,Z6,la,lb,e2,e,aA5,aA4,aA8,Z2,Prod.mk.injEq,true_and,exists_eq']
theorem aS9 {a:List Int} {v:AV} (ha:Li a v) (hm:a.length≤1000000000) (H:aA0):lim G0.cfg (.func 71) [v] H=some (.int .i64 (aBL a),H):=by
 refine aAF rfl rfl aRG (a.length+1) (fun h=>aCG (ha.fz h 999)) ?_ (fun _=>rfl) H
 have la:=ha.len
 have loop:∀ (d i m c:Nat),a.length=i+d→d < m→c≤i→aAu (aA7 (lim G0.cfg) (a.length+1) aEY) m ⟨[v,J,J,.int .i64 c,.int .i64 i,J,J,J,J,J,J,J,J,J,J,J,J,J,J],[]⟩=some (.exit 0,⟨[J,J,J,.int .i64 ((c+aBL (a.drop i):Nat):Int),J,J,J,J,J,J,J,J,J,J,J,J,J,J,J],[]⟩):=by
  intro d
  induction d with
  | zero =>
   intro i m c h1 h2 h3
   obtain ⟨m,rfl⟩:∃ q,m=q+1:=⟨m - 1,by omega⟩
   have h4:¬ ((i:Int) < a.length):=by omega
   have q1:a.drop i=[]:=Z8.2 (by omega)
   have q2:c+aBL []=c:=rfl
   rw [q1,q2]
   simp only [aAd,aHm,Zaf,Zag,Zah,Zak,Zal,Zan,Zao,Zap,Zaw,Zaz,Zbc,Zbm,Zbo,Zbu,Zck,Zcz,Zdb,Zdf,Zdg,Zdh,Q0,Q4,Q1,Q2,Zdl,decide_false,eq_self,la,h4]
  | succ d ih =>
   intro i m c h1 h2 h3
   obtain ⟨m,rfl⟩:∃ q,m=q+1:=⟨m - 1,by omega⟩
   have h4:i < a.length:=by omega
   have h4':(i:Int) < a.length:=by omega
   have hw:=aBb (n:=i) (by omega)
   have hw2:=aBb (n:=c) (by omega)
   have q1:a.drop i=a[i]::a.drop (i+1):=Z3 h4
   have xa:=fun h=>ha.ix h .i64 i h4
   rw [q1]
   by_cases e:a[i]=0
   case pos =>
    have e1:aBL (a[i]::a.drop (i+1))=aBL (a.drop (i+1)):=aSD _ e
    have e2:decide (a[i]=0)=true:=decide_eq_true e
    rw [e1,← ih (i+1) m c (by omega) (by omega) (by omega)]
    simp only [aAd,aHm,Zae,Zaf,Zag,Zah,Zai,Zak,Zan,Zao,Zar,Zav,Zaw,Zay,Zbc,Zbm,Zbo,Zbs,Zbu,Zcf,Zck,Zcz,Zda,Zdb,Zdf,Zdg,Zdh,Q0,Q4,Q1,Q2,Q8,Zdi,Zdl,Zdq,Zed,decide_true,Z9,Q3,Q5,if_true,Nat.reduceAdd,Nat.reduceLeDiff,eq_self,aAc,aAz,part,eI,Q6,Q7,Z1,Q0,la,h4',xa,e2,hw]
   case neg =>
    have e1:c+aBL (a[i]::a.drop (i+1))=(c+1)+aBL (a.drop (i+1)):=by rw [aSC _ e];omega
    have e2:decide (a[i]=0)=false:=decide_eq_false e
    rw [e1,← ih (i+1) m (c+1) (by omega) (by omega) (by omega)]
    simp only [aAd,aHm,Zae,Zaf,Zag,Zah,Zai,Zak,Zan,Zao,Zar,Zav,Zay,Zbc,Zbm,Zbo,Zbs,Zbu,Zcf,Zck,Zcz,Zda,Zdb,Zdf,Zdg,Zdh,Q0,Q4,Q1,Q2,Q8,Zdi,Zdl,Zdq,Zed,decide_true,Z7,Q3,Q5,if_true,Nat.reduceAdd,Nat.reduceLeDiff,eq_self,aAc,aAz,part,eI,Q6,Q7,Z1,Q0,la,h4',xa,e2,hw,hw2]
 have e:=loop a.length 0 (a.length+1) 0 (by omega) (by omega) (by omega)
 rw [Q6,Nat.zero_add,z0] at e
 rw [aRy]
 simp only [Zaf,Zag,Zai,Zaj,Zak,Zam,Zan,Zao,Zat,Zax,Zbm,Zbo,Zcy,Zcz,Zda,Zdb,Zdf,Zdg,Zdh,Q0,Q4,Q1,Q2,Z5,Q3,Q5,Nat.reduceAdd,Nat.reduceSub,eq_self,true_and,Q3,Q5,Q9,Z0,Z4,Z6,e,aA5,aA4,aA8,Z2,Prod.mk.injEq,true_and,exists_eq']
theorem aTa {chk row:List Int} {cv rv:AV} (hc:Li chk cv) (h2:Li row rv) (k:Nat) (hk1:k≤1000000000) (hk2:chk.length≤1000000000) (hm:row.length≤1000000) :
  ∃ h',aAW (lim G0.cfg) (row.length+1) aG5 [cv,rv,.int .i64 k] []=some (.bool (aCZ chk row k),h'):=by
 have lr:=h2.len
 have lk:=hc.len
 have loop:∀ (d i m:Nat),row.length=i+d→d < m→aAu (aA7 (lim G0.cfg) (row.length+1) aF0) m ⟨[cv,rv,.int .i64 k,J,J,J,J,.int .i64 i,J,J,J,J,J,J,J,J,J,J,J,J,J,J,J,J,J,J,J,J,J,J,J,J,J,J,J,J],[]⟩=bif aCZ chk (row.drop i) (k+i) then some (.exit 0,⟨[J,J,J,J,J,J,J,J,J,J,J,J,J,J,J,J,J,J,J,J,J,J,J,J,J,J,J,J,J,J,J,J,J,J,J,J],[]⟩) else some (.ret,⟨[J,J,J,J,J,J,.bool false,J,J,J,J,J,J,J,J,J,J,J,J,J,J,J,J,J,J,J,J,J,J,J,J,J,J,J,J,J],[]⟩):=by
  intro d
  induction d with
  | zero =>
   intro i m h1 h2
   obtain ⟨m,rfl⟩:∃ q,m=q+1:=⟨m - 1,by omega⟩
   have h3:¬ ((i:Int) < row.length):=by omega
   have q1:row.drop i=[]:=Z8.2 (by omega)
   rw [q1,aCZ,cond_true]
   simp only [aAd,aEr,Zaf,Zag,Zah,Zak,Zal,Zan,Zao,Zap,Zaw,Zaz,Zbc,Zbm,Zbo,Zbu,Zck,Zcz,Zdb,Zdg,Zdh,Q0,Q4,Q1,Q2,Zdl,decide_false,eq_self,lr,h3]
  | succ d ih =>
   intro i m h1' h2'
   obtain ⟨m,rfl⟩:∃ q,m=q+1:=⟨m - 1,by omega⟩
   have h3:i < row.length:=by omega
   have h3':(i:Int) < row.length:=by omega
   have hw:=aBb (n:=i) (by omega)
   have hw2:=aNC (a:=k) (b:=i) (by omega)
   have q1:row.drop i=row[i]::row.drop (i+1):=Z3 h3
   have xa:=fun h=>h2.ix h .i64 i h3
   have e:=ih (i+1) m (by omega) (by omega)
   rw [q1,aCZ]
   rw [← Nat.add_assoc] at e
   by_cases z:row[i]=0
   case pos =>
    have d1:decide (row[i]≠0)=false:=decide_eq_false (by simp [z])
    have d2:decide (row[i]=0)=true:=decide_eq_true z
    rw [d1,Bool.false_and,cond_false,← e]
    simp only [aAd,aEr,Zae,Zaf,Zag,Zah,Zai,Zak,Zan,Zao,Zar,Zav,Zaw,Zay,Zbc,Zbi,Zbl,Zbm,Zbn,Zbo,Zbp,Zbs,Zbu,Zcf,Zck,Zcz,Zda,Zdb,Zdf,Zdg,Zdh,Q0,Q4,Q1,Q2,Q8,Zdi,Zdl,Zdq,Zed,decide_true,Z9,Q3,Q5,if_true,Nat.reduceAdd,Nat.reduceLeDiff,eq_self,aAc,aAz,part,eI,Q6,Q7,Z1,Q0,lr,h3',xa,d2,hw]
   case neg =>
   have d1:decide (row[i]≠0)=true:=decide_eq_true z
   have d2:decide (row[i]=0)=false:=decide_eq_false z
   rw [d1,Bool.true_and]
   by_cases y:k+i < chk.length
   case neg =>
    have d3:decide (k+i < chk.length)=false:=decide_eq_false y
    have d4:¬ (((k+i:Nat):Int) < chk.length):=by omega
    rw [d3,Bool.false_and,cond_false,← e]
    simp only [aAd,aEr,Zae,Zaf,Zag,Zah,Zai,Zak,Zan,Zao,Zar,Zav,Zaw,Zay,Zbc,Zbf,Zbi,Zbk,Zbl,Zbm,Zbn,Zbo,Zbp,Zbs,Zbu,Zcf,Zck,Zcz,Zda,Zdb,Zdf,Zdg,Zdh,Q0,Q4,Q1,Q2,Q8,Zdi,Zdl,Zdq,Zed,decide_true,decide_false,Z7,Q3,Q5,if_true,Nat.reduceAdd,Nat.reduceLeDiff,eq_self,aAc,aAz,part,eI,Q6,Q7,Z1,Q0,lr,h3',xa,d2,hw,hw2,lk,d4]
   case pos =>
    have d3:decide (k+i < chk.length)=true:=decide_eq_true y
    have d4:((k+i:Nat):Int) < chk.length:=by omega
    have xc:=fun h=>hc.ix h .i64 (k+i) y
    have gd:chk.getD (k+i) 0=chk[k+i]:=by simp [y]
    rw [d3,Bool.true_and,gd]
    by_cases u:chk[k+i]=0
    ·have d5:decide (chk[k+i]=0)=true:=decide_eq_true u
     have d6:decide (chk[k+i]≠0)=false:=decide_eq_false (by simp [u])
     rw [d6,cond_false,← e]
     simp only [aAd,aEr,Zae,Zaf,Zag,Zah,Zai,Zak,Zan,Zao,Zar,Zav,Zaw,Zay,Zbc,Zbf,Zbk,Zbm,Zbn,Zbo,Zbp,Zbs,Zbu,Zcf,Zck,Zcz,Zda,Zdb,Zdf,Zdg,Zdh,Q0,Q4,Q1,Q2,Q8,Zdi,Zdl,Zdq,Zed,decide_true,Z9,Z7,Q3,Q5,if_true,Nat.reduceAdd,Nat.reduceLeDiff,eq_self,aAc,aAz,part,eI,Q6,Q7,Z1,Q0,lr,h3',xa,d2,hw,hw2,lk,d4,xc,d5]
    ·have d5:decide (chk[k+i]=0)=false:=decide_eq_false u
     have d6:decide (chk[k+i]≠0)=true:=decide_eq_true u
     rw [d6,cond_true,cond_false]
     simp only [aAd,aEr,Zae,Zaf,Zag,Zah,Zai,Zak,Zam,Zan,Zao,Zaq,Zas,Zav,Zba,Zbc,Zbf,Zbk,Zbm,Zbn,Zbo,Zbp,Zbs,Zbu,Zcf,Zck,Zcz,Zda,Zdb,Zdf,Zdg,Zdh,Q0,Q4,Q1,Q2,Q8,Zdi,Zdl,Zdq,Zed,decide_true,Z7,Q3,Q5,if_true,Nat.reduceAdd,Nat.reduceLeDiff,eq_self,aAc,aAz,part,eI,Q6,Q7,Z1,Q0,lr,h3',xa,d2,hw2,lk,d4,xc,d5]
 have e:=loop row.length 0 (row.length+1) (by omega) (by omega)
 obtain ⟨bb,hbb⟩:∃ b,b=aCZ chk row k:=⟨_,rfl⟩
 rw [Q6,show aCZ chk row (k+0)=bb from hbb.symm,z0] at e
 rw [aRA,← hbb]
 cases bb with
 | true =>
  rw [cond_true] at e
  simp only [Zaf,Zag,Zai,Zaj,Zak,Zam,Zan,Zao,Zat,Zax,Zbm,Zbo,Zcy,Zda,Zdb,Zdf,Zdg,Zdh,Q0,Q4,Q1,Q2,Z5,Q3,Q5,Nat.reduceAdd,Nat.reduceSub,eq_self,true_and,Q3,Q5,Q9,Z0,Z4,Z6,e,aA5,aA4,aA8,Z2,Prod.mk.injEq,true_and,exists_eq']
 | false =>
  rw [cond_false] at e
  simp only [Zaf,Zag,Zai,Zaj,Zak,Zan,Zao,Zaq,Zas,Zax,Zbm,Zbo,Zcy,Zda,Zdb,Zdf,Zdg,Zdh,Q0,Q4,Q1,Q2,Z5,Q3,Q5,Nat.reduceAdd,Nat.reduceSub,eq_self,true_and,Q3,Q5,Q9,Z0,Z4,Z6,e,aA5,aA4,aA8,Z2,Prod.mk.injEq,true_and,exists_eq']
end Go.Proofs.Ytgeedikghjcebaa.Ai
namespace Go.Proofs.Ytgeedikghjcebaa.Ai
open Go Go.Proofs
open AV renaming junk → J
open List renaming getD_cons_zero → Q0, getD_cons_succ → Q1, set_cons_zero → Q2, set_cons_succ → Q3
set_option linter.unusedVariables false
set_option linter.unusedSimpArgs false
set_option maxRecDepth 10000
set_option maxHeartbeats 4000000
section
variable {rows : List (List Int)} {v : AV}
theorem aVu (hv:LiR rows v) (hm:∀ r ∈ rows,r.length≤1000000) (hn:rows.length≤1000000) (j:Nat) (hj:j < rows.length) {own:List (List Int)} {cs:List (List AV)} {ov rv:AV} {h:aA0} {q:Option Nat} (ho:aAi 1 cs ov h q) (hc:aDs own cs) (hon:own.length≤1000000) (hom:∀ r ∈ own,r.length≤1000000) (N:Nat) :
  ∀ (d k m:Nat),own.length=k+d→d < m→aAu (aA7 (lim G0.cfg) N aDn) m ⟨(v::J::J::J::ov::rv::.int .i64 j::.int .i64 k::J::J::J::J::J::J::J::J::J::J::J::J::J::J::J::J::J::J::J::J::J::J::J::J::J::J::J::J::J::J::J::J::J::J::J::J::J::J::J::J::J::[]),h⟩=some (.exit 2,⟨(v::J::J::J::ov::rv::.int .i64 j::.int .i64 ((k+(own.drop k).findIdx (fun x=>decide (x=rows[j])):Nat):Int)::J::J::J::J::J::J::J::J::J::J::J::J::J::J::J::J::J::J::J::J::J::J::J::J::J::J::J::J::J::J::J::J::J::J::J::J::J::J::J::J::J::[]),h⟩):=by
 have lo:=ho.len h
 rw [hc.1] at lo
 obtain ⟨w,hw1,xw⟩:=hv.ix j hj
 have lv:∀ (h:aA0),aAc h 1 false (.vptr [w] 0)=some w:=fun _=>rfl
 intro d
 induction d with
 | zero =>
  intro k m h1 h2
  obtain ⟨m,rfl⟩:∃ q,m=q+1:=⟨m - 1,by omega⟩
  have h3:¬ ((k:Int) < own.length):=by omega
  have q1:own.drop k=[]:=List.drop_eq_nil_iff.2 (by omega)
  have z:((k+0:Nat):Int)=k:=rfl
  rw [q1,List.findIdx_nil,z]
  simp only [aAd,aFi,Zaf,Zag,Zah,Zak,Zal,Zan,Zao,Zap,Zaw,Zaz,Zbc,Zbi,Zbl,Zbm,Zbn,Zbo,Zbp,Zbu,Zck,Zcz,Zda,Zdb,Zdf,Zdg,Zdh,Q2,Q3,Q0,Q1,Zdl,decide_false,eq_self,lo,h3]
 | succ d ih =>
  intro k m h1 h2
  obtain ⟨m,rfl⟩:∃ q,m=q+1:=⟨m - 1,by omega⟩
  have h3:k < own.length:=by omega
  have h3':(k:Int) < own.length:=by omega
  have hw:=aBb (n:=k) (by omega)
  have q1:own.drop k=own[k]::own.drop (k+1):=List.drop_eq_getElem_cons h3
  obtain ⟨x,x1,x2⟩:=hc.2 k h3
  obtain ⟨p,p1,p2⟩:=ho.ix1 x1
  have fs:=aKq x2 hw1 (by have:=hom _ (List.getElem_mem h3);omega)
  rw [q1,List.findIdx_cons]
  by_cases e:own[k]=rows[j]
  ·have e2:decide (own[k]=rows[j])=true:=decide_eq_true e
   rw [e2] at fs
   have z:((k+0:Nat):Int)=k:=rfl
   rw [e2,cond_true,z]
   simp only [aAd,aFi,Zaf,Zag,Zah,Zak,Zal,Zan,Zao,Zap,Zaw,Zaz,Zbc,Zbd,Zbf,Zbk,Zbm,Zbn,Zbo,Zbp,Zbs,Zbu,Zbv,Zcf,Zck,Zct,Zcu,Zcz,Zda,Zdb,Zdd,Zde,Zdf,Zdg,Zdh,Q2,Q3,Q0,Q1,Zdl,Zdv,decide_true,Bool.not_true,eq_self,List.cons_append,List.nil_append,lo,h3',p1,p2,xw,lv,fs]
  ·have e2:decide (own[k]=rows[j])=false:=decide_eq_false e
   rw [e2] at fs
   have e3:k+(List.findIdx (fun x=>decide (x=rows[j])) (own.drop (k+1))+1)=(k+1)+List.findIdx (fun x=>decide (x=rows[j])) (own.drop (k+1)):=by omega
   rw [e2,cond_false,e3,← ih (k+1) m (by omega) (by omega)]
   simp only [aAd,aFi,Zae,Zaf,Zag,Zah,Zai,Zak,Zan,Zao,Zar,Zav,Zay,Zbc,Zbd,Zbf,Zbk,Zbm,Zbn,Zbo,Zbp,Zbs,Zbu,Zbv,Zcf,Zck,Zct,Zcu,Zcz,Zda,Zdb,Zdd,Zde,Zdf,Zdg,Zdh,Q2,Q3,Q0,Q1,Zdi,Zdl,Zdv,decide_true,Bool.not_false,eq_self,List.cons_append,List.nil_append,lo,h3',p1,p2,xw,lv,fs,hw]
theorem aTn (hv:LiR rows v) (hm:∀ r ∈ rows,r.length≤1000000) (hn:rows.length≤1000000) (N:Nat) (hN:1000001≤N) :
  ∀ (d j m:Nat) (s:List (List Int) × List Int) (h:aA0) (ov rv:AV) (cs:List (List AV)) (q1 q2:Option Nat),rows.length=j+d→d < m→aAi 1 cs ov h q1→aDs s.1 cs→aAi 1 (eIs s.2) rv h q2→(∀ i,q1=some i→q2≠some i)→s.1.length≤j→s.2.length=j→(∀ r ∈ s.1,r.length≤1000000) →
   ∃ (h':aA0) (ov' rv':AV) (cs':List (List AV)) (q1' q2':Option Nat),aAu (aA7 (lim G0.cfg) N aDo) m ⟨(v::J::J::J::ov::rv::.int .i64 j::J::J::J::J::J::J::J::J::J::J::J::J::J::J::J::J::J::J::J::J::J::J::J::J::J::J::J::J::J::J::J::J::J::J::J::J::J::J::J::J::J::J::[]),h⟩=some (.exit 0,⟨(J::J::J::J::ov'::rv'::J::J::J::J::J::J::J::J::J::J::J::J::J::J::J::J::J::J::J::J::J::J::J::J::J::J::J::J::J::J::J::J::J::J::J::J::J::J::J::J::J::J::J::[]),h'⟩)∧aAi 1 cs' ov' h' q1'∧aDs ((rows.drop j).foldl aB2 s).1 cs'∧aAi 1 (eIs ((rows.drop j).foldl aB2 s).2) rv' h' q2':=by
 have lv0:=hv.len
 intro d
 induction d with
 | zero =>
  intro j m s h ov rv cs q1 q2 h1 h2 o1 hc o2 hq h4 h5 h6
  obtain ⟨m,rfl⟩:∃ q,m=q+1:=⟨m - 1,by omega⟩
  have h7:¬ ((j:Int) < rows.length):=by omega
  have e1:rows.drop j=[]:=List.drop_eq_nil_iff.2 (by omega)
  rw [e1]
  refine ⟨h,ov,rv,cs,q1,q2,?_,o1,hc,o2⟩
  simp only [aAd,aFj,Zaf,Zag,Zah,Zak,Zal,Zan,Zao,Zap,Zaw,Zaz,Zbc,Zbm,Zbo,Zbu,Zck,Zcz,Zdb,Zdf,Zdg,Zdh,Q2,Q3,Q0,Q1,Zdl,decide_false,eq_self,lv0,h7]
 | succ d ih =>
  intro j m s h ov rv cs q1 q2 h1 h2 o1 hc o2 hq h4 h5 h6
  obtain ⟨m,rfl⟩:∃ q,m=q+1:=⟨m - 1,by omega⟩
  have h7:j < rows.length:=by omega
  have h7':(j:Int) < rows.length:=by omega
  have hw:=aBb (n:=j) (by omega)
  have e1:rows.drop j=rows[j]::rows.drop (j+1):=List.drop_eq_getElem_cons h7
  obtain ⟨w,hw1,xw⟩:=hv.ix j h7
  have lv:∀ (h:aA0),aAc h 1 false (.vptr [w] 0)=some w:=fun _=>rfl
  obtain ⟨wc1,wc2⟩:=hw1.cell
  have hrm:=hm _ (List.getElem_mem h7)
  have f:=aVu hv hm hn j h7 o1 hc (by omega) h6 N (rv:=rv) s.1.length 0 N (by omega) (by omega)
  rw [List.drop_zero,Nat.zero_add,z0] at f
  have lo:=o1.len
  have lenc:cs.length=s.1.length:=hc.1
  rw [lenc] at lo
  obtain ⟨k,hk⟩:∃ k,k=s.1.findIdx (fun x=>decide (x=rows[j])):=⟨_,rfl⟩
  rw [← hk] at f
  rw [e1,List.foldl_cons]
  have lt1:=fun h:aA0=>aDe h .nilS w hw1.pure1 wc1
  have lt2:=fun h:aA0=>aDe h (.int .i64 0) (.int .i64 ((k:Nat):Int)) rfl rfl
  have eI1:eIs (s.2++[((k:Nat):Int)])=eIs s.2++[[.int .i64 ((k:Nat):Int)]]:=by rw [aEi];rfl
  by_cases q:k=s.1.length
  case pos =>
   have es:aB2 s rows[j]=(s.1++[rows[j]],s.2++[((k:Nat):Int)]):=by simp only [aB2,← hk];rw [if_pos q]
   have d1:((k:Nat):Int)=s.1.length:=by omega
   obtain ⟨i1,ver1,H1,p1,p2,p3,p4,p5⟩:=o1.push true (c:=[w]) rfl (by simp [wc2]) hc.all 24 (by omega) (by omega)
   rw [lenc] at p1 p2
   have o2':aAi 1 (eIs s.2) rv H1 q2:=o2.frame fun i o f e=>p3 i o e (fun g=>hq i g f)
   have hq1:q2≠some i1:=fun f=>by
    rcases p4 with g | ⟨_,g⟩
    ·exact hq i1 g f
    ·rw [f] at o2;have:=o2.lt;omega
   obtain ⟨i2,ver2,H2,r1,r2,r3,r4,r5⟩:=o2'.push true (c:=[.int .i64 ((k:Nat):Int)]) rfl rfl (aC0 _) 8 (by omega) (by rw [Zet];omega)
   rw [Zet] at r1 r2
   have o1':=p2.frame (h':=H2) fun i o f e=>r3 i o e (by cases f;exact hq1)
   have hq2:i1≠i2:=fun f=>by
    rcases r4 with g | ⟨_,g⟩
    ·rw [← f] at g;exact hq1 g
    ·have:=p2.lt;omega
   obtain ⟨h',ov',rv',cs',q1',q2',e,r⟩:=ih (j+1) m (aB2 s rows[j]) H2 _ _ (cs++[[w]]) (some i1) (some i2) (by omega) (by omega) o1' (by rw [es];exact hc.push hw1) (by rw [es,eI1];exact r2) (fun i f g=>by cases f;cases g;exact hq2 rfl) (by rw [es];simp;omega) (by rw [es];simp;omega) (by
    rw [es];intro r hr
    rcases List.mem_append.1 hr with hr | hr
    ·exact h6 r hr
    ·rw [List.mem_singleton] at hr;subst hr;exact hrm)
   refine ⟨h',ov',rv',cs',q1',q2',?_,r⟩
   rw [← e]
   have d2:decide (((k:Nat):Int)=s.1.length)=true:=decide_eq_true d1
   simp only [aAd,aFj,Zae,Zaf,Zag,Zah,Zai,Zaj,Zak,Zan,Zao,Zar,Zat,Zav,Zax,Zay,Zbc,Zbd,Zbm,Zbo,Zbs,Zbu,Zcf,Zck,Zcm,Zcr,Zcz,Zda,Zdb,Zdf,Zdg,Zdh,Q2,Q3,Q0,Q1,Zdi,Zdl,Zdp,decide_true,eq_self,lv0,h7',f,lo,d2,xw,lv,ev2,lt1,p1,lt2,r1,hw]
  case neg =>
   have es:aB2 s rows[j]=(s.1,s.2++[((k:Nat):Int)]):=by simp only [aB2,← hk];rw [if_neg q]
   have d2:decide (((k:Nat):Int)=s.1.length)=false:=decide_eq_false (by omega)
   obtain ⟨i2,ver2,H2,r1,r2,r3,r4,r5⟩:=o2.push true (c:=[.int .i64 ((k:Nat):Int)]) rfl rfl (aC0 _) 8 (by omega) (by rw [Zet];omega)
   rw [Zet] at r1 r2
   have o1':=o1.frame (h':=H2) fun i o f e=>r3 i o e (fun g=>hq i f g)
   have hq2:q1≠some i2:=fun f=>by
    rcases r4 with g | ⟨_,g⟩
    ·exact hq i2 f g
    ·rw [f] at o1;have:=o1.lt;omega
   obtain ⟨h',ov',rv',cs',q1',q2',e,r⟩:=ih (j+1) m (aB2 s rows[j]) H2 _ _ cs q1 (some i2) (by omega) (by omega) o1' (by rw [es];exact hc) (by rw [es,eI1];exact r2) (fun i f g=>by cases g;exact hq2 f) (by rw [es];simp;omega) (by rw [es];simp;omega) (by rw [es];exact h6)
   refine ⟨h',ov',rv',cs',q1',q2',?_,r⟩
   rw [← e]
   simp only [aAd,aFj,Zae,Zaf,Zag,Zah,Zai,Zaj,Zak,Zan,Zao,Zar,Zat,Zav,Zaw,Zax,Zay,Zbc,Zbd,Zbm,Zbo,Zbu,Zck,Zcm,Zcr,Zcz,Zda,Zdb,Zdf,Zdg,Zdh,Q2,Q3,Q0,Q1,Zdi,Zdl,Zdp,decide_true,eq_self,lv0,h7',f,lo,d2,ev2,lt2,r1,hw]
theorem fzI {l:List Int} {w:AV} {h:aA0} {q:Option Nat} (ho:aAi 1 (eIs l) w h q) (d:Nat):∃ x c,freeze h (d+2) w=some (x,c)∧Li l x:=by
 rcases ho with ⟨h1,h2,_⟩ | ⟨h1,i,ver,_,h3,h4⟩
 ·subst h2
  have:l=[]:=by cases l with | nil=>rfl | cons a l=>simp [eIs] at h1
  exact ⟨.nilS,true,rfl,.inl ⟨this,rfl⟩⟩
 ·subst h3
  have hm:∀ l:List Int,∃ q,aAo (aAo (freeze h (d+1))) (eIs l)=some q∧q.map (·.map (·.1))=eIs l:=by
   intro l
   induction l with
   | nil=>exact ⟨[],rfl,rfl⟩
   | cons a l ih =>
    obtain ⟨q,e1,e2⟩:=ih
    have e3:aAo (freeze h (d+1)) [.int .i64 a]=some [(.int .i64 a,true)]:=rfl
    have e4:eIs (a::l)=[.int .i64 a]::eIs l:=rfl
    exact ⟨[(.int .i64 a,true)]::q,by rw [e4];simp only [aAo] at e3 ⊢;simp only [e3,e1],by rw [e4];simp [e2]⟩
  obtain ⟨q,e1,e2⟩:=hm l
  have:=aFl (d:=d+1) (n:=(eIs l).length) (cc:=none) (q:=q) h4 (Nat.le_refl _) (by rw [List.take_length];exact e1)
  exact ⟨_,false,this,.inr ⟨false,by rw [e2]⟩⟩
theorem fzR {own:List (List Int)} {cs:List (List AV)} {w:AV} {h:aA0} {q:Option Nat} (ho:aAi 1 cs w h q) (hc:aDs own cs) (d:Nat):∃ x c,freeze h (d+2) w=some (x,c)∧LiR own x:=by
 rcases ho with ⟨h1,h2,_⟩ | ⟨h1,i,ver,_,h3,h4⟩
 ·subst h1 h2
  have:own=[]:=List.length_eq_zero_iff.1 (by have:=hc.1;simpa using this.symm)
  exact ⟨.nilS,true,rfl,.inl ⟨this,rfl⟩⟩
 ·subst h3
  obtain ⟨q,e1,e2⟩:=aMJ (h:=h) (d:=d) own cs hc
  have:=aFl (d:=d+1) (n:=cs.length) (cc:=none) (q:=q) h4 (Nat.le_refl _) (by rw [List.take_length];exact e1)
  refine ⟨_,false,this,.inr ⟨false,cs,by rw [e2],hc⟩⟩
theorem aR3 (hv:LiR rows v) (hm:∀ r ∈ rows,r.length≤1000000) (hn:rows.length≤1000000):∃ ox rx,LiR (aAI rows).1 ox∧Li (aAI rows).2 rx∧∀ H,lim G0.cfg (.func 56) [v] H=some (.tup [ox,rx],H):=by
 obtain ⟨h',ov,rv,cs,q1,q2,e,o1,hc,o2⟩:=aTn hv hm hn 1000001 (by omega) rows.length 0 1000001 ([],[]) [] .nilS .nilS [] none none (by omega) (by omega) (aAi.nil 1 _) ⟨rfl,fun j hj=>(by simp at hj)⟩ (aAi.nil 1 _) (fun _ e=>(by cases e)) (by simp) rfl (by simp)
 rw [List.drop_zero] at hc o2
 rw [z0] at e
 have hD:rows.foldl aB2 ([],[])=aAI rows:=rfl
 rw [hD] at hc o2
 have run:aAW (lim G0.cfg) 1000001 aE4 [v] []=some (.tup [ov,rv],h'):=by
  rw [aNW]
  simp only [Zaf,Zag,Zai,Zaj,Zak,Zam,Zan,Zao,Zat,Zax,Zbm,Zbo,Zcy,Zcz,Zda,Zdb,Zdf,Zdg,Zdh,Q2,Q3,Q0,Q1,Option.map_some,List.length_cons,List.length_nil,Nat.reduceAdd,Nat.reduceSub,eq_self,List.length_cons,List.length_nil,List.replicate_succ,List.replicate_zero,List.cons_append,List.nil_append,e,aA5,aA4,aA8]
 obtain ⟨ox,c1,f1,g1⟩:=fzR o1 hc 997
 obtain ⟨rx,c2,f2,g2⟩:=fzI o2 997
 have fz:freeze h' 1000 (.tup [ov,rv])=some (.tup [ox,rx],([(ox,c1),(rx,c2)]:List (AV × Bool)).all (·.2)):=by
  have:freeze h' 1000 (.tup [ov,rv])=(aAo (freeze h' 999) [ov,rv]).map fun l=>(.tup (l.map (·.1)),l.all (·.2)):=rfl
  rw [this,aJa f1 f2]
  rfl
 exact ⟨ox,rx,g1,g2,fun H=>aH5 rfl rfl aNZ 1000001 (aCG (hv.fz H 999)) run fz rfl⟩
end
end Go.Proofs.Ytgeedikghjcebaa.Ai
namespace Go.Proofs.Ytgeedikghjcebaa.Ai
open Go Go.Proofs
set_option linter.unusedVariables false
set_option linter.unusedSimpArgs false
set_option maxRecDepth 10000
set_option maxHeartbeats 4000000
theorem aOi {C:Cfg} (hx:C.ix=fun _=>none) {g:Nat} (hp:C.pu g=true) {fn:AFn} (hP:C.P g=some fn) (n:Nat) {a:List AV} {l:List (AV × Bool)} {H:aA0} (ha:aAo (freeze H 1000) a=some l) {x y:AV} {c:Bool} {h':aA0}
  (hr:aAW (lim C) n fn (l.map (·.1)) []=some (x,h')) (hf:freeze h' 1000 x=some (y,c)) (hc:aB5 h' 1000 x=true):lim C (.func g) a H=some (y,H):=by
 refine aLX hp n ?_
 unfold aCa
 rw [ha]
 simp only [aDU,aE7,hx,hP,hr,hf,hc,Option.map_some,Bool.or_true,cond_true]
structure Nest {X:Type} (en:X→List (List AV)) (xs:List X) (cs:List (List AV)) (h:aA0) (S:Nat→Prop):Prop where
 len:cs.length=xs.length
 row:∀ (j:Nat) (hj:j < xs.length),∃ rv q,cs[j]?=some [rv]∧aAi 1 (en xs[j]) rv h q∧∀ i,q=some i→S i
section
variable {X : Type} {en : X → List (List AV)} {xs : List X} {cs : List (List AV)} {h h' : aA0} {S S' : Nat → Prop}
theorem Nest.nil (en:X→List (List AV)) (h:aA0) (S:Nat→Prop):Nest en [] [] h S:=⟨rfl,fun j hj=>by simp at hj⟩
theorem Nest.frame (hn:Nest en xs cs h S) (hf:∀ i o,S i→h[i]?=some o→h'[i]?=some o):Nest en xs cs h' S :=
 ⟨hn.len,fun j hj=>by
  obtain ⟨rv,q,h1,h2,h3⟩:=hn.row j hj
  exact ⟨rv,q,h1,h2.frame (fun i o e=>hf i o (h3 i e)),h3⟩⟩
theorem Nest.mono (hn:Nest en xs cs h S) (hS:∀ i,S i→S' i):Nest en xs cs h S' :=
 ⟨hn.len,fun j hj=>by
  obtain ⟨rv,q,h1,h2,h3⟩:=hn.row j hj
  exact ⟨rv,q,h1,h2,fun i e=>hS i (h3 i e)⟩⟩
theorem Nest.push (hn:Nest en xs cs h S) {x:X} {rv:AV} {q:Option Nat} (ho:aAi 1 (en x) rv h q) (hS:∀ i,q=some i→S i):Nest en (xs++[x]) (cs++[[rv]]) h S:=by
 refine ⟨by simp [hn.len],fun j hj => ?_⟩
 by_cases c:j < xs.length
 ·obtain ⟨rv,q,h1,h2,h3⟩:=hn.row j c
  refine ⟨rv,q,?_,?_,h3⟩
  ·rw [List.getElem?_append_left (by rw [hn.len];exact c)];exact h1
  ·rw [List.getElem_append_left c];exact h2
 ·have e:j=xs.length:=by simp at hj;omega
  subst e
  refine ⟨rv,q,?_,?_,hS⟩
  ·rw [← hn.len];simp
  ·simpa using ho
theorem Nest.all (hn:Nest en xs cs h S):cs.all (fun c=>c.length==1 && c.all aAq)=true:=by
 rw [List.all_eq_true]
 intro c hc
 obtain ⟨j,hj,rfl⟩:=List.getElem_of_mem hc
 obtain ⟨rv,q,h1,h2,_⟩:=hn.row j (by rw [← hn.len];exact hj)
 rw [List.getElem?_eq_getElem hj] at h1
 rw [Option.some.inj h1]
 simp [h2.cell.2]
theorem fzN {P:X→AV→Prop} {v:AV} {q:Option Nat} (ho:aAi 1 cs v h q) (d:Nat) (hl:cs.length=xs.length) (hc:∀ (j:Nat) (hj:j < xs.length),∃ rv x c,cs[j]?=some [rv]∧freeze h (d+1) rv=some (x,c)∧P xs[j] x):∃ y c,freeze h (d+2) v=some (y,c)∧LiG P xs y:=by
 rcases ho with ⟨h1,h2,_⟩ | ⟨h1,i,ver,_,h3,h4⟩
 ·subst h1 h2
  have:xs=[]:=List.length_eq_zero_iff.1 (by simpa using hl.symm)
  exact ⟨.nilS,true,rfl,.inl ⟨this,rfl⟩⟩
 ·subst h3
  have hm:∀ (xs:List X) (cs:List (List AV)),cs.length=xs.length→(∀ (j:Nat) (hj:j < xs.length),∃ rv x c,cs[j]?=some [rv]∧freeze h (d+1) rv=some (x,c)∧P xs[j] x)→∃ q,aAo (aAo (freeze h (d+1))) cs=some q∧q.length=xs.length∧∀ (j:Nat) (hj:j < xs.length),∃ rv,(q.map (·.map (·.1)))[j]?=some [rv]∧P xs[j] rv:=by
   intro xs
   induction xs with
   | nil=>intro cs hl _;have:cs=[]:=List.length_eq_zero_iff.1 (by simpa using hl);subst this;exact ⟨[],rfl,rfl,fun j hj=>by simp at hj⟩
   | cons x xs ih =>
    intro cs hl hc
    cases cs with
    | nil=>simp at hl
    | cons c cs =>
     obtain ⟨rv,y,b,k1,k2,k3⟩:=hc 0 (by simp)
     simp at k1
     subst k1
     obtain ⟨q,e1,e2,e3⟩:=ih cs (by simpa using hl) (fun j hj=>by
      obtain ⟨rv,x,c,k1,k2,k3⟩:=hc (j+1) (by simpa using hj)
      exact ⟨rv,x,c,by simpa using k1,k2,by simpa using k3⟩)
     have e4:aAo (freeze h (d+1)) [rv]=some [(y,b)]:=aEo k2
     refine ⟨[(y,b)]::q,by simp only [aAo] at e4 ⊢;simp only [e4,e1],by simp [e2],fun j hj => ?_⟩
     cases j with
     | zero=>exact ⟨y,rfl,k3⟩
     | succ j =>
      obtain ⟨rv,a1,a2⟩:=e3 j (by simpa using hj)
      exact ⟨rv,by simpa using a1,by simpa using a2⟩
  obtain ⟨q,e1,e2,e3⟩:=hm xs cs hl hc
  have:=aFl (d:=d+1) (n:=cs.length) (cc:=none) (q:=q) h4 (Nat.le_refl _) (by rw [List.take_length];exact e1)
  exact ⟨_,false,this,.inr ⟨false,_,rfl,by simp [e2],e3⟩⟩
theorem clN {v:AV} {q:Option Nat} {sz:Nat} (ho:aAi sz cs v h q) (d:Nat) (hc:∀ c ∈ cs,c.all (aB5 h d)=true):aB5 h (d+1) v=true:=by
 rcases ho with ⟨h1,h2,_⟩ | ⟨h1,i,ver,_,h3,h4⟩
 ·subst h2;rfl
 ·subst h3
  have hg:aAe h i ver=some (sz,false,cs):=by simp only [aAe,h4,if_true]
  simp only [aB5,hg]
  rw [List.drop_zero,List.take_length,List.all_eq_true]
  exact hc
end
theorem clI {l:List Int} {v:AV} {h:aA0} {q:Option Nat} (ho:aAi 1 (eIs l) v h q) (d:Nat):aB5 h (d+2) v=true:=by
 refine clN ho (d+1) (fun c hc => ?_)
 simp only [eIs,List.mem_map] at hc
 obtain ⟨x,_,rfl⟩:=hc
 simp [eI,aB5,aGT]
theorem Nest.fz {xs:List (List Int)} {cs:List (List AV)} {h:aA0} {S:Nat→Prop} (hn:Nest eIs xs cs h S) {v:AV} {q:Option Nat} (ho:aAi 1 cs v h q) (d:Nat):∃ y c,freeze h (d+3) v=some (y,c)∧LiR xs y:=by
 refine fzN (P:=Li) ho (d+1) hn.len (fun j hj => ?_)
 obtain ⟨rv,q,h1,h2,_⟩:=hn.row j hj
 obtain ⟨x,c,e1,e2⟩:=fzI h2 d
 exact ⟨rv,x,c,h1,e1,e2⟩
theorem Nest.clean {xs:List (List Int)} {cs:List (List AV)} {h:aA0} {S:Nat→Prop} (hn:Nest eIs xs cs h S) {v:AV} {q:Option Nat} (ho:aAi 1 cs v h q) (d:Nat):aB5 h (d+3) v=true:=by
 refine clN ho (d+2) (fun c hc => ?_)
 obtain ⟨j,hj,rfl⟩:=List.getElem_of_mem hc
 obtain ⟨rv,q,h1,h2,_⟩:=hn.row j (by rw [← hn.len];exact hj)
 rw [List.getElem?_eq_getElem hj] at h1
 rw [Option.some.inj h1]
 simp [clI h2 d]
theorem aAi.pushE {sz:Nat} {rows:List (List AV)} {c:List AV} {v w:AV} {h:aA0} {q:Option Nat} (hel:aAE h sz w=some [c]) (ho:aAi sz rows v h q) (hsz:c.length=sz) (hc:c.all aAq=true) (hall:rows.all (fun c=>c.length==sz && c.all aAq)=true) (bytes:Nat) (hb:bytes≤1000) (hl:rows.length≤10000000) :
  ∃ i ver h',aEE h sz bytes v w=some (.hsl i ver 0 (rows.length+1) none,h')∧aAi sz (rows++[c]) (.hsl i ver 0 (rows.length+1) none) h' (some i)∧(∀ j o,h[j]?=some o→q≠some j→h'[j]?=some o)∧(q=some i∨(q=none∧i=h.length))∧h.length≤h'.length:=by
 obtain ⟨i,ver,h',r1,r⟩:=ho.push true hsz hc hall bytes hb hl
 refine ⟨i,ver,h',?_,r⟩
 rw [← r1]
 have e2:aAE h sz (.vsl true [c])=some [c]:=by simp [aAE,hsz]
 unfold aEE
 rw [hel,e2]
theorem aAi.pushRow {rows:List (List AV)} {v w:AV} {h:aA0} {q:Option Nat} (ho:aAi 1 rows v h q) (hw:cellsOf w=[w]∧aAq w=true) (hall:rows.all (fun c=>c.length==1 && c.all aAq)=true) (bytes:Nat) (hb:bytes≤1000) (hl:rows.length≤10000000) (z:AV) :
  ∃ lit h1 i ver h',aC2 h false 1 1 [z] [(0,w)]=some (lit,h1)∧aEE h1 1 bytes v lit=some (.hsl i ver 0 (rows.length+1) none,h')∧aAi 1 (rows++[[w]]) (.hsl i ver 0 (rows.length+1) none) h' (some i)∧(∀ j o,h[j]?=some o→q≠some j→h'[j]?=some o)∧(q=some i∨(q=none∧h.length≤i))∧h.length≤h'.length:=by
 have hc:([w]:List AV).all aAq=true:=by simp [hw.2]
 cases hp:pure1 w with
 | true =>
  obtain ⟨i,ver,h',r1,r2,r3,r4,r5⟩:=ho.push true (c:=[w]) rfl hc hall bytes hb hl
  exact ⟨_,_,i,ver,h',aDe h z w hp hw.1,r1,r2,r3,r4.imp id (fun k=>⟨k.1,by omega⟩),r5⟩
 | false =>
  have e1:aC2 h false 1 1 [z] [(0,w)]=some (.hsl h.length 0 0 1 none,h++[.arr 0 1 true [[w]]]):=by
   simp [aC2,aAH,aBg,aAx,hw.1,aCx,hp]
  have e2:aAE (h++[.arr 0 1 true [[w]]]) 1 (.hsl h.length 0 0 1 none)=some [[w]]:=by
   simp [aAE,aAe]
  have ho1:aAi 1 rows v (h++[.arr 0 1 true [[w]]]) q:=ho.frame fun i o _ e=>aAJ e _
  obtain ⟨i,ver,h',r1,r2,r3,r4,r5⟩:=aAi.pushE (c:=[w]) e2 ho1 rfl hc hall bytes hb hl
  refine ⟨_,_,i,ver,h',e1,r1,r2,fun j o e=>r3 j o (aAJ e _),r4.imp id (fun k=>⟨k.1,?_⟩),?_⟩
  ·have:=k.2;simp at this;omega
  ·simp at r5;omega
theorem aMI {α β:Type} {f:α→β} {l:List α} (h:0 < l.length):l.map f≠[]:=by
 cases l with
 | nil=>simp at h
 | cons a l=>simp
end Go.Proofs.Ytgeedikghjcebaa.Ai
