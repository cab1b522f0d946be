/- Tables, plain; the numbers of a table's cells. -/
import Derived.Test.YtgeedikghjcebaamXE
import Derived.Test.YtgeedikghjcebaamXF
namespace Go.Proofs.Ytgeedikghjcebaa.Ai
open Go Go.Proofs
open AV renaming junk → J
open List renaming set_cons_zero → Q0, length_cons → Q1, length_nil → Q2, cons_append → Q3, nil_append → Q4, getD_cons_zero → Q5, getD_cons_succ → Q6, set_cons_succ → Q7, replicate_succ → Q8, replicate_zero → Q9, getElem?_cons_zero → Z0, drop_succ_cons → Z1, take_succ_cons → Z3, drop_zero → Z6, take_zero → Z7, all_cons → Z8, take_nil → Y0, all_nil → Y1, getElem_cons_zero → Y2
open Option.some renaming injEq → Z2
open Option renaming map_some → Z4, bind_some → Z5
open Bool renaming and_self → Z9
set_option linter.unusedVariables false
set_option linter.unusedSimpArgs false
set_option maxRecDepth 10000
set_option maxHeartbeats 4000000
def LiG {X:Type} (P:X→AV→Prop) (xs:List X) (v:AV):Prop:=(xs=[]∧v=.nilS)∨∃ e cs,v=.vsl e cs∧cs.length=xs.length∧∀ (j:Nat) (hj:j < xs.length),∃ rv,cs[j]?=some [rv]∧P xs[j] rv
section
variable {X : Type} {P : X → AV → Prop} {xs : List X} {v : AV}
theorem LiG.len (hl:LiG P xs v) (h:aA0):aBX h .slice v=some (.int .i64 xs.length):=by
 rcases hl with ⟨rfl,rfl⟩ | ⟨e,cs,rfl,h1,_⟩
 ·rfl
 ·simp [aBX,h1]
theorem LiG.ix (hl:LiG P xs v) (j:Nat) (hj:j < xs.length):∃ rv,P xs[j] rv∧∀ (h:aA0) (k:IntKind),aAN h 1 v (.int k j)=some (.vptr [rv] 0):=by
 rcases hl with ⟨rfl,rfl⟩ | ⟨e,cs,rfl,h1,h2⟩
 ·simp at hj
 ·obtain ⟨rv,h3,h4⟩:=h2 j hj
  exact ⟨rv,h4,fun h k=>by simp [aAN,h3]⟩
theorem LiG.fz (hl:LiG P xs v) (h:aA0) (d:Nat):freeze h (d+1) v=some (v,true):=by
 rcases hl with ⟨rfl,rfl⟩ | ⟨e,cs,rfl,_⟩ <;> rfl
theorem LiG.cell (hl:LiG P xs v):cellsOf v=[v]∧aAp v=true:=by
 rcases hl with ⟨rfl,rfl⟩ | ⟨e,cs,rfl,_⟩ <;> exact ⟨rfl,rfl⟩
end
theorem LiR.cell {xs:List (List Int)} {v:AV} (hl:LiR xs v):cellsOf v=[v]∧aAp v=true:=by
 rcases hl with ⟨rfl,rfl⟩ | ⟨e,cs,rfl,_⟩ <;> exact ⟨rfl,rfl⟩
def aHI (a:Int × Int):List AV:=[.int .i64 a.1,.int .i64 a.2]
def LiA (l:List (Int × Int)) (v:AV):Prop:=(l=[]∧v=.nilS)∨∃ e,v=.vsl e (l.map aHI)
theorem LiA.len {l:List (Int × Int)} {v:AV} (hl:LiA l v) (h:aA0):aBX h .slice v=some (.int .i64 l.length):=by
 rcases hl with ⟨rfl,rfl⟩ | ⟨e,rfl⟩
 ·rfl
 ·simp [aBX]
theorem LiA.ix {l:List (Int × Int)} {v:AV} (hl:LiA l v) (h:aA0) (k:IntKind) (j:Nat) (hj:j < l.length):aAN h 2 v (.int k j)=some (.vptr (aHI l[j]) 0):=by
 rcases hl with ⟨rfl,rfl⟩ | ⟨e,rfl⟩
 ·simp at hj
 ·simp [aAN,hj,aHI]
theorem LiA.fz {l:List (Int × Int)} {v:AV} (hl:LiA l v) (h:aA0) (d:Nat):freeze h (d+1) v=some (v,true):=by
 rcases hl with ⟨rfl,rfl⟩ | ⟨e,rfl⟩ <;> rfl
theorem LiA.cell {l:List (Int × Int)} {v:AV} (hl:LiA l v):cellsOf v=[v]∧aAp v=true:=by
 rcases hl with ⟨rfl,rfl⟩ | ⟨e,rfl⟩ <;> exact ⟨rfl,rfl⟩
structure TabD where
 acts:List (List (List (Int × Int)))
 gotos:List (List Int)
def aBT (n:Int):List (Int × Int)→Int
 | []=>0
 | [(k,m)]=>if m < 0 then -1 else if k=1∧m < n then 4*m+1 else if k=2∧m < 1024 then 4*m+2 else if k=3∧m=0 then 3 else -1
 | _ => -1
def aE6 (n x:Int):Int:=if x < -1∨n≤x then -1 else x+1
def aCD (l:List Int):Bool:=l.all fun x=>decide (0≤x)
theorem w4 {m:Int} (h1:0≤m) (h2:m < 5000) (c:Int) (hc:0≤c) (hc2:c≤3):IntKind.i64.wrap (4*m)=4*m∧IntKind.i64.wrap (4*m+c)=4*m+c:=⟨w64 (by omega) (by omega),w64 (by omega) (by omega)⟩
theorem aRh {l:List (Int × Int)} {v:AV} (hl:LiA l v) (n:Int) (hn:0≤n∧n≤4096) (H:aA0):lim G0.cfg (.func 60) [v,.int .i64 n] H=some (.int .i64 (aBT n l),H):=by
 refine aAP rfl rfl aMT 1 (fun h=>aHF (hl.fz h 999) rfl) ?_ (fun _=>rfl) H
 have la:=hl.len
 have l2:∀ (h:aA0) (a b:AV),aAb h 2 true (.vptr [a,b] 0)=some (.agg [a,b]):=fun _ _ _=>rfl
 match l,hl with
 | [],hl =>
  rw [aG6]
  have la0:∀ h,aBX h .slice v=some (.int .i64 0):=la
  have d0:decide ((0:Int)=0)=true:=rfl
  simp only [Zaf,Zag,Zah,Zam,Zan,Zao,Zaq,Zav,Zbc,Zbm,Zbo,Zbu,Zck,Zcy,Zcz,Zda,Zdb,Q0,Q7,Q5,Q6,Z4,Zdp,decide_true,Q1,Q2,Nat.reduceAdd,Nat.reduceSub,Int.reduceNeg,eq_self,true_and,Q1,Q2,Q8,Q9,Q3,Q4,la0,aBT,aAa,aA8,aAc,Z2,Prod.mk.injEq,true_and,exists_eq']
 | a::b::r,hl =>
  have e1:((a::b::r).length:Int)=r.length+2:=by simp;omega
  have e2:decide ((r.length:Int)+2=0)=false:=decide_eq_false (by omega)
  have e3:(1:Int) < (r.length:Int)+2:=by omega
  have x:=fun h k=>hl.ix h k 0 (by simp)
  rw [e1] at la
  rw [aG6]
  simp only [Y2,aHI,Int.natCast_zero] at x
  simp only [Zae,Zaf,Zag,Zah,Zai,Zam,Zan,Zao,Zar,Zav,Zaw,Zbc,Zbe,Zbh,Zbk,Zbm,Zbn,Zbo,Zbp,Zbq,Zbs,Zbt,Zbu,Zcf,Zck,Zcy,Zcz,Zda,Zdb,Zdc,Q0,Q7,Q5,Q6,Z5,Z4,Zdn,Zdp,Zee,Zef,decide_true,Z0,Q1,Q2,if_true,Nat.reduceAdd,Nat.reduceSub,Nat.reduceLeDiff,Int.reduceNeg,eq_self,and_self,true_and,Q1,Q2,Q8,Q9,Q3,Q4,aAb,aAM,aAk,part,aAB,aAv,Z8,Y1,aAp,Z9,Z6,Z1,Z3,Z7,Y0,Q3,Q4,Q0,la,e2,e3,x,aBT,aAa,aA8,aAc,Z2,Prod.mk.injEq,true_and,exists_eq']
 | [(k,m)],hl =>
  have x:=fun h k=>hl.ix h k 0 (by simp)
  simp only [Y2,aHI,Int.natCast_zero] at x
  replace la:∀ h,aBX h .slice v=some (.int .i64 1):=la
  have d0:decide ((1:Int)=0)=false:=rfl
  have d9:¬ ((1:Int) < 1):=by omega
  rw [aG6]
  by_cases c0:m < 0
  ·simp only [Zae,Zaf,Zag,Zah,Zai,Zam,Zan,Zao,Zar,Zav,Zaw,Zbc,Zbe,Zbg,Zbl,Zbm,Zbn,Zbo,Zbp,Zbq,Zbs,Zbt,Zbu,Zcc,Zcf,Zck,Zcy,Zcz,Zda,Zdb,Zdc,Q0,Q7,Q5,Q6,Z5,Z4,Zdl,Zdn,Zdp,Zeb,Zed,Zee,Zef,decide_true,decide_false,Z0,Q1,Q2,if_true,Nat.reduceAdd,Nat.reduceSub,Nat.reduceLeDiff,Int.reduceNeg,Int.reduceEq,eq_self,and_self,true_and,Q1,Q2,Q8,Q9,Q3,Q4,aAb,aAM,aAk,part,aAB,aAv,Z8,Y1,aAp,Z9,Z6,Z1,Z3,Z7,Y0,Q3,Q4,Q0,la,d9,x,aBT,c0,if_true,aAa,aA8,aAc,Z2,Prod.mk.injEq,true_and,exists_eq']
  by_cases c1:k=1
  ·have d1:decide (k=1)=true:=decide_eq_true c1
   have d2:decide (k=2)=false:=decide_eq_false (by omega)
   have d3:decide (k=3)=false:=decide_eq_false (by omega)
   by_cases c2:m < n
   ·obtain ⟨w1,w2⟩:=w4 (m:=m) (by omega) (by omega) 1 (by omega) (by omega)
    have r:aBT n [(k,m)]=4*m+1:=by rw [aBT,if_neg c0,if_pos ⟨c1,c2⟩]
    rw [r]
    simp only [Zae,Zaf,Zag,Zah,Zai,Zam,Zan,Zao,Zaq,Zas,Zav,Zaw,Zbc,Zbe,Zbf,Zbg,Zbk,Zbl,Zbm,Zbn,Zbo,Zbp,Zbq,Zbs,Zbt,Zbu,Zcc,Zcf,Zck,Zcy,Zcz,Zda,Zdb,Zdc,Q0,Q7,Q5,Q6,Z5,Z4,Zdi,Zdk,Zdl,Zdn,Zdp,Zeb,Zed,Zee,Zef,decide_true,decide_false,Z0,Q1,Q2,if_true,Nat.reduceAdd,Nat.reduceSub,Nat.reduceLeDiff,Int.reduceNeg,Int.reduceEq,eq_self,and_self,true_and,Q1,Q2,Q8,Q9,Q3,Q4,aAb,aAM,aAk,part,aAB,aAv,Z8,Y1,aAp,Z9,Z6,Z1,Z3,Z7,Y0,Q3,Q4,Q0,la,d9,x,c0,d1,c2,w1,w2,aAa,aA8,aAc,Z2,Prod.mk.injEq,true_and,exists_eq']
   ·have r:aBT n [(k,m)] = -1:=by rw [aBT,if_neg c0,if_neg (fun h=>c2 h.2),if_neg (by omega),if_neg (by omega)]
    rw [r]
    simp only [Zae,Zaf,Zag,Zah,Zai,Zam,Zan,Zao,Zar,Zaw,Zbc,Zbe,Zbf,Zbg,Zbi,Zbk,Zbl,Zbm,Zbn,Zbo,Zbp,Zbq,Zbs,Zbt,Zbu,Zcc,Zcf,Zck,Zcy,Zcz,Zda,Zdb,Zdc,Q0,Q7,Q5,Q6,Z5,Z4,Zdl,Zdn,Zdp,Zeb,Zed,Zee,Zef,decide_false,Z0,Q1,Q2,if_true,Nat.reduceAdd,Nat.reduceSub,Nat.reduceLeDiff,Int.reduceNeg,Int.reduceEq,eq_self,and_self,true_and,Q1,Q2,Q8,Q9,Q3,Q4,aAb,aAM,aAk,part,aAB,aAv,Z8,Y1,aAp,Z9,Z6,Z1,Z3,Z7,Y0,Q3,Q4,Q0,la,d9,x,c0,d1,d2,d3,c2,aAa,aA8,aAc,Z2,Prod.mk.injEq,true_and,exists_eq']
  have d1:decide (k=1)=false:=decide_eq_false c1
  by_cases c3:k=2
  ·have d2:decide (k=2)=true:=decide_eq_true c3
   have d3:decide (k=3)=false:=decide_eq_false (by omega)
   by_cases c2:m < 1024
   ·obtain ⟨w1,w2⟩:=w4 (m:=m) (by omega) (by omega) 2 (by omega) (by omega)
    have r:aBT n [(k,m)]=4*m+2:=by rw [aBT,if_neg c0,if_neg (fun h=>c1 h.1),if_pos ⟨c3,c2⟩]
    rw [r]
    simp only [Zae,Zaf,Zag,Zah,Zai,Zam,Zan,Zao,Zaq,Zas,Zav,Zaw,Zbc,Zbe,Zbf,Zbg,Zbi,Zbk,Zbl,Zbm,Zbn,Zbo,Zbp,Zbq,Zbs,Zbt,Zbu,Zcc,Zcf,Zck,Zcy,Zcz,Zda,Zdb,Zdc,Q0,Q7,Q5,Q6,Z5,Z4,Zdi,Zdk,Zdl,Zdn,Zdp,Zeb,Zed,Zee,Zef,decide_true,decide_false,Z0,Q1,Q2,if_true,Nat.reduceAdd,Nat.reduceSub,Nat.reduceLeDiff,Int.reduceNeg,Int.reduceEq,eq_self,and_self,true_and,Q1,Q2,Q8,Q9,Q3,Q4,aAb,aAM,aAk,part,aAB,aAv,Z8,Y1,aAp,Z9,Z6,Z1,Z3,Z7,Y0,Q3,Q4,Q0,la,d9,x,c0,d1,d2,c2,w1,w2,aAa,aA8,aAc,Z2,Prod.mk.injEq,true_and,exists_eq']
   ·have r:aBT n [(k,m)] = -1:=by rw [aBT,if_neg c0,if_neg (fun h=>c1 h.1),if_neg (fun h=>c2 h.2),if_neg (by omega)]
    rw [r]
    simp only [Zae,Zaf,Zag,Zah,Zai,Zam,Zan,Zao,Zar,Zaw,Zbc,Zbe,Zbf,Zbg,Zbi,Zbk,Zbl,Zbm,Zbn,Zbo,Zbp,Zbq,Zbs,Zbt,Zbu,Zcc,Zcf,Zck,Zcy,Zcz,Zda,Zdb,Zdc,Q0,Q7,Q5,Q6,Z5,Z4,Zdl,Zdn,Zdp,Zeb,Zed,Zee,Zef,decide_false,Z0,Q1,Q2,if_true,Nat.reduceAdd,Nat.reduceSub,Nat.reduceLeDiff,Int.reduceNeg,Int.reduceEq,eq_self,and_self,true_and,Q1,Q2,Q8,Q9,Q3,Q4,aAb,aAM,aAk,part,aAB,aAv,Z8,Y1,aAp,Z9,Z6,Z1,Z3,Z7,Y0,Q3,Q4,Q0,la,d9,x,c0,d1,d2,d3,c2,aAa,aA8,aAc,Z2,Prod.mk.injEq,true_and,exists_eq']
  have d2:decide (k=2)=false:=decide_eq_false c3
  by_cases c4:k=3
  ·have d3:decide (k=3)=true:=decide_eq_true c4
   by_cases c2:m=0
   ·have d4:decide (m=0)=true:=decide_eq_true c2
    have r:aBT n [(k,m)]=3:=by rw [aBT,if_neg c0,if_neg (fun h=>c1 h.1),if_neg (fun h=>c3 h.1),if_pos ⟨c4,c2⟩]
    rw [r]
    simp only [Zae,Zaf,Zag,Zah,Zai,Zam,Zan,Zao,Zaq,Zas,Zav,Zaw,Zbc,Zbe,Zbf,Zbg,Zbi,Zbk,Zbl,Zbm,Zbn,Zbo,Zbp,Zbq,Zbs,Zbt,Zbu,Zcc,Zcf,Zck,Zcy,Zcz,Zda,Zdb,Zdc,Q0,Q7,Q5,Q6,Z5,Z4,Zdl,Zdn,Zdp,Zeb,Zed,Zee,Zef,decide_false,Z0,Q1,Q2,if_true,Nat.reduceAdd,Nat.reduceSub,Nat.reduceLeDiff,Int.reduceNeg,Int.reduceEq,eq_self,and_self,true_and,Q1,Q2,Q8,Q9,Q3,Q4,aAb,aAM,aAk,part,aAB,aAv,Z8,Y1,aAp,Z9,Z6,Z1,Z3,Z7,Y0,Q3,Q4,Q0,la,d9,x,c0,d1,d2,d3,d4,aAa,aA8,aAc,Z2,Prod.mk.injEq,true_and,exists_eq']
   ·have d4:decide (m=0)=false:=decide_eq_false c2
    have r:aBT n [(k,m)] = -1:=by rw [aBT,if_neg c0,if_neg (fun h=>c1 h.1),if_neg (fun h=>c3 h.1),if_neg (fun h=>c2 h.2)]
    rw [r]
    simp only [Zae,Zaf,Zag,Zah,Zai,Zam,Zan,Zao,Zar,Zaw,Zbc,Zbe,Zbf,Zbg,Zbi,Zbk,Zbl,Zbm,Zbn,Zbo,Zbp,Zbq,Zbs,Zbt,Zbu,Zcc,Zcf,Zck,Zcy,Zcz,Zda,Zdb,Zdc,Q0,Q7,Q5,Q6,Z5,Z4,Zdl,Zdn,Zdp,Zeb,Zed,Zee,Zef,decide_false,Z0,Q1,Q2,if_true,Nat.reduceAdd,Nat.reduceSub,Nat.reduceLeDiff,Int.reduceNeg,Int.reduceEq,eq_self,and_self,true_and,Q1,Q2,Q8,Q9,Q3,Q4,aAb,aAM,aAk,part,aAB,aAv,Z8,Y1,aAp,Z9,Z6,Z1,Z3,Z7,Y0,Q3,Q4,Q0,la,d9,x,c0,d1,d2,d3,d4,aAa,aA8,aAc,Z2,Prod.mk.injEq,true_and,exists_eq']
  have d3:decide (k=3)=false:=decide_eq_false c4
  have r:aBT n [(k,m)] = -1:=by rw [aBT,if_neg c0,if_neg (fun h=>c1 h.1),if_neg (fun h=>c3 h.1),if_neg (fun h=>c4 h.1)]
  rw [r]
  simp only [Zae,Zaf,Zag,Zah,Zai,Zam,Zan,Zao,Zar,Zaw,Zbc,Zbe,Zbg,Zbi,Zbl,Zbm,Zbn,Zbo,Zbp,Zbq,Zbs,Zbt,Zbu,Zcc,Zcf,Zck,Zcy,Zcz,Zda,Zdb,Zdc,Q0,Q7,Q5,Q6,Z5,Z4,Zdl,Zdn,Zdp,Zeb,Zed,Zee,Zef,decide_false,Z0,Q1,Q2,if_true,Nat.reduceAdd,Nat.reduceSub,Nat.reduceLeDiff,Int.reduceNeg,Int.reduceEq,eq_self,and_self,true_and,Q1,Q2,Q8,Q9,Q3,Q4,aAb,aAM,aAk,part,aAB,aAv,Z8,Y1,aAp,Z9,Z6,Z1,Z3,Z7,Y0,Q3,Q4,Q0,la,d9,x,c0,d1,d2,d3,aAa,aA8,aAc,Z2,Prod.mk.injEq,true_and,exists_eq']
def aIi:List Int→Int
 | []=>0
 | x::l=>l.foldl (fun a b=>if b < a then b else a) x
theorem aNd:∀ l:List Int,l≠[]→(aIi l < 0↔aCD l=false):=by
 have key:∀ (l:List Int) (x:Int),l.foldl (fun a b=>if b < a then b else a) x < 0↔(x < 0∨∃ y ∈ l,y < 0):=by
  intro l
  induction l with
  | nil=>intro x;simp
  | cons y l ih =>
   intro x
   rw [List.foldl_cons,ih]
   split
   ·constructor
    ·rintro (h | ⟨z,h1,h2⟩)
     ·exact .inr ⟨y,by simp,h⟩
     ·exact .inr ⟨z,by simp [h1],h2⟩
    ·rintro (h | ⟨z,h1,h2⟩)
     ·left;omega
     ·rcases List.mem_cons.1 h1 with rfl | h1
      ·exact .inl h2
      ·exact .inr ⟨z,h1,h2⟩
   ·constructor
    ·rintro (h | ⟨z,h1,h2⟩)
     ·exact .inl h
     ·exact .inr ⟨z,by simp [h1],h2⟩
    ·rintro (h | ⟨z,h1,h2⟩)
     ·exact .inl h
     ·rcases List.mem_cons.1 h1 with rfl | h1
      ·left;omega
      ·exact .inr ⟨z,h1,h2⟩
 intro l hl
 cases l with
 | nil=>exact absurd rfl hl
 | cons x l =>
  rw [aIi,key]
  unfold aCD
  rw [Bool.eq_false_iff,Ne,List.all_eq_true]
  constructor
  ·rintro (h | ⟨z,h1,h2⟩) hh
   ·have:=hh x (by simp);simp at this;omega
   ·have:=hh z (by simp [h1]);simp at this;omega
  ·intro hh
   by_cases c:x < 0
   ·exact .inl c
   ·refine .inr ?_
    apply Classical.byContradiction
    intro hn
    apply hh
    intro z hz
    rcases List.mem_cons.1 hz with rfl | hz
    ·simp;omega
    ·have:¬ z < 0:=fun h=>hn ⟨z,hz,h⟩
     simp;omega
theorem aRV {l:List Int} {v:AV} (hl:Li l v) (h0:l≠[]) (hm:l.length≤1000000):∃ h',aB8 (lim G0.cfg) (l.length+1) aC2 [v] []=some (.int .i64 (aIi l),h'):=by
 have la:=hl.len
 have lv:∀ (h:aA0) (z:Int),aAb h 1 false (.vptr (eI z) 0)=some (.int .i64 z):=fun _ _=>rfl
 have loop:∀ (d i m:Nat) (s:Int),l.length=i+d→d < m→aAw (aA9 (lim G0.cfg) (l.length+1) aBP) m ⟨[v,J,J,.int .i64 s,.int .i64 i,J,J,J,J,J,J,J,J,J,J,J,J,J,J,J,J,J,J,J,J],[]⟩=some (.exit 0,⟨[J,J,J,.int .i64 ((l.drop i).foldl (fun a b=>if b < a then b else a) s),J,J,J,J,J,J,J,J,J,J,J,J,J,J,J,J,J,J,J,J,J],[]⟩):=by
  intro d
  induction d with
  | zero =>
   intro i m s h1 h2
   obtain ⟨m,rfl⟩:∃ q,m=q+1:=⟨m - 1,by omega⟩
   have h3:¬ ((i:Int) < l.length):=by omega
   have q1:l.drop i=[]:=List.drop_eq_nil_iff.2 (by omega)
   rw [q1]
   simp only [aAj,aEc,Zaf,Zag,Zah,Zak,Zal,Zan,Zao,Zap,Zaw,Zaz,Zbc,Zbm,Zbo,Zbu,Zck,Zcz,Zdb,Zdf,Zdg,Zdh,Q0,Q7,Q5,Q6,Zdl,decide_false,eq_self,la,h3,List.foldl_nil]
  | succ d ih =>
   intro i m s h1 h2
   obtain ⟨m,rfl⟩:∃ q,m=q+1:=⟨m - 1,by omega⟩
   have h3:i < l.length:=by omega
   have h3':(i:Int) < l.length:=by omega
   have hw:=aC7 (n:=i) (by omega)
   have q1:l.drop i=l[i]::l.drop (i+1):=List.drop_eq_getElem_cons h3
   have xa:=fun h=>hl.ix h .i64 i h3
   have em:aHJ false [.int .i64 s,.int .i64 l[i]]=some (.int .i64 (if l[i] < s then l[i] else s)):=by simp only [aHJ,amm];rfl
   rw [q1,List.foldl_cons,← ih (i+1) m _ (by omega) (by omega)]
   simp only [aAj,aEc,Zae,Zaf,Zag,Zah,Zai,Zak,Zan,Zao,Zar,Zav,Zay,Zbc,Zbm,Zbo,Zbs,Zbu,Zcf,Zck,Zcp,Zcz,Zda,Zdb,Zdd,Zde,Zdf,Zdg,Zdh,Q0,Q7,Q5,Q6,Zdi,Zdl,decide_true,eq_self,la,h3',xa,lv,em,hw]
 cases l with
 | nil=>exact absurd rfl h0
 | cons x l =>
  have e:=loop l.length 1 (l.length+1+1) x (by simp;omega) (by omega)
  have h1:¬ ((l.length+1:Nat):Int) < 1:=by omega
  have xa:=fun h=>hl.ix h .i64 0 (by simp)
  rw [Y2] at xa
  simp only [Z1,Z6,Q1] at e
  have z1:((1:Nat):Int)=1:=rfl
  rw [z1] at e
  rw [z0] at xa
  rw [aHW,aIi]
  simp only [Zae,Zaf,Zag,Zah,Zai,Zaj,Zak,Zam,Zan,Zao,Zat,Zaw,Zax,Zbc,Zbm,Zbo,Zbs,Zbu,Zcf,Zck,Zcy,Zcz,Zda,Zdb,Zdf,Zdg,Zdh,Q0,Q7,Q5,Q6,Z4,Zdl,decide_false,Q1,Q2,Nat.reduceAdd,Nat.reduceSub,eq_self,true_and,Q1,Q2,Q8,Q9,Q3,Q4,la,h1,xa,lv,e,Q1,aAa,aA8,aAc,Z2,Prod.mk.injEq,true_and,exists_eq']
end Go.Proofs.Ytgeedikghjcebaa.Ai
namespace Go.Proofs.Ytgeedikghjcebaa.Ai
open Go Go.Proofs
set_option linter.unusedVariables false
set_option linter.unusedSimpArgs false
set_option maxRecDepth 10000
set_option maxHeartbeats 4000000
end Go.Proofs.Ytgeedikghjcebaa.Ai
namespace Go.Proofs.Ytgeedikghjcebaa.Ai
open Go Go.Proofs
set_option linter.unusedVariables false
set_option linter.unusedSimpArgs false
set_option maxRecDepth 10000
set_option maxHeartbeats 4000000
section
variable {rows : List (List Int)} {v : AV}
theorem fzI {l:List Int} {w:AV} {h:aA0} {q:Option Nat} (ho:aAu 1 (eIs l) w h q) (d:Nat):∃ x c,freeze h (d+2) w=some (x,c)∧Li l x:=by
 rcases ho with ⟨h1,h2,_⟩ | ⟨h1,i,ver,_,h3,h4⟩
 ·subst h2
  have:l=[]:=by cases l with | nil=>rfl | cons a l=>simp [eIs] at h1
  exact ⟨.nilS,true,rfl,.inl ⟨this,rfl⟩⟩
 ·subst h3
  have hm:∀ l:List Int,∃ q,aAq (aAq (freeze h (d+1))) (eIs l)=some q∧q.map (·.map (·.1))=eIs l:=by
   intro l
   induction l with
   | nil=>exact ⟨[],rfl,rfl⟩
   | cons a l ih =>
    obtain ⟨q,e1,e2⟩:=ih
    have e3:aAq (freeze h (d+1)) [.int .i64 a]=some [(.int .i64 a,true)]:=rfl
    have e4:eIs (a::l)=[.int .i64 a]::eIs l:=rfl
    exact ⟨[(.int .i64 a,true)]::q,by rw [e4];simp only [aAq] at e3 ⊢;simp only [e3,e1],by rw [e4];simp [e2]⟩
  obtain ⟨q,e1,e2⟩:=hm l
  have:=aFK (d:=d+1) (n:=(eIs l).length) (cc:=none) (q:=q) h4 (Nat.le_refl _) (by rw [List.take_length];exact e1)
  exact ⟨_,false,this,.inr ⟨false,by rw [e2]⟩⟩
end
end Go.Proofs.Ytgeedikghjcebaa.Ai
namespace Go.Proofs.Ytgeedikghjcebaa.Ai
open Go Go.Proofs
set_option linter.unusedVariables false
set_option linter.unusedSimpArgs false
set_option maxRecDepth 10000
set_option maxHeartbeats 4000000
theorem aMy {C:Cfg} (hx:C.ix=fun _=>none) {g:Nat} (hp:C.pu g=true) {fn:AFn} (hP:C.P g=some fn) (n:Nat) {a:List AV} {l:List (AV × Bool)} {H:aA0} (ha:aAq (freeze H 1000) a=some l) {x y:AV} {c:Bool} {h':aA0}
  (hr:aB8 (lim C) n fn (l.map (·.1)) []=some (x,h')) (hf:freeze h' 1000 x=some (y,c)) (hc:aAX h' 1000 x=true):lim C (.func g) a H=some (y,H):=by
 refine aKl hp n ?_
 unfold aBW
 rw [ha]
 simp only [aDh,aDo,hx,hP,hr,hf,hc,Option.map_some,Bool.or_true,cond_true]
structure Nest {X:Type} (en:X→List (List AV)) (xs:List X) (cs:List (List AV)) (h:aA0) (S:Nat→Prop):Prop where
 len:cs.length=xs.length
 row:∀ (j:Nat) (hj:j < xs.length),∃ rv q,cs[j]?=some [rv]∧aAu 1 (en xs[j]) rv h q∧∀ i,q=some i→S i
section
variable {X : Type} {en : X → List (List AV)} {xs : List X} {cs : List (List AV)} {h h' : aA0} {S S' : Nat → Prop}
theorem Nest.nil (en:X→List (List AV)) (h:aA0) (S:Nat→Prop):Nest en [] [] h S:=⟨rfl,fun j hj=>by simp at hj⟩
theorem Nest.frame (hn:Nest en xs cs h S) (hf:∀ i o,S i→h[i]?=some o→h'[i]?=some o):Nest en xs cs h' S :=
 ⟨hn.len,fun j hj=>by
  obtain ⟨rv,q,h1,h2,h3⟩:=hn.row j hj
  exact ⟨rv,q,h1,h2.frame (fun i o e=>hf i o (h3 i e)),h3⟩⟩
theorem Nest.mono (hn:Nest en xs cs h S) (hS:∀ i,S i→S' i):Nest en xs cs h S' :=
 ⟨hn.len,fun j hj=>by
  obtain ⟨rv,q,h1,h2,h3⟩:=hn.row j hj
  exact ⟨rv,q,h1,h2,fun i e=>hS i (h3 i e)⟩⟩
theorem Nest.push (hn:Nest en xs cs h S) {x:X} {rv:AV} {q:Option Nat} (ho:aAu 1 (en x) rv h q) (hS:∀ i,q=some i→S i):Nest en (xs++[x]) (cs++[[rv]]) h S:=by
 refine ⟨by simp [hn.len],fun j hj => ?_⟩
 by_cases c:j < xs.length
 ·obtain ⟨rv,q,h1,h2,h3⟩:=hn.row j c
  refine ⟨rv,q,?_,?_,h3⟩
  ·rw [List.getElem?_append_left (by rw [hn.len];exact c)];exact h1
  ·rw [List.getElem_append_left c];exact h2
 ·have e:j=xs.length:=by simp at hj;omega
  subst e
  refine ⟨rv,q,?_,?_,hS⟩
  ·rw [← hn.len];simp
  ·simpa using ho
theorem Nest.all (hn:Nest en xs cs h S):cs.all (fun c=>c.length==1 && c.all aAp)=true:=by
 rw [List.all_eq_true]
 intro c hc
 obtain ⟨j,hj,rfl⟩:=List.getElem_of_mem hc
 obtain ⟨rv,q,h1,h2,_⟩:=hn.row j (by rw [← hn.len];exact hj)
 rw [List.getElem?_eq_getElem hj] at h1
 rw [Option.some.inj h1]
 simp [h2.cell.2]
theorem fzN {P:X→AV→Prop} {v:AV} {q:Option Nat} (ho:aAu 1 cs v h q) (d:Nat) (hl:cs.length=xs.length) (hc:∀ (j:Nat) (hj:j < xs.length),∃ rv x c,cs[j]?=some [rv]∧freeze h (d+1) rv=some (x,c)∧P xs[j] x):∃ y c,freeze h (d+2) v=some (y,c)∧LiG P xs y:=by
 rcases ho with ⟨h1,h2,_⟩ | ⟨h1,i,ver,_,h3,h4⟩
 ·subst h1 h2
  have:xs=[]:=List.length_eq_zero_iff.1 (by simpa using hl.symm)
  exact ⟨.nilS,true,rfl,.inl ⟨this,rfl⟩⟩
 ·subst h3
  have hm:∀ (xs:List X) (cs:List (List AV)),cs.length=xs.length→(∀ (j:Nat) (hj:j < xs.length),∃ rv x c,cs[j]?=some [rv]∧freeze h (d+1) rv=some (x,c)∧P xs[j] x)→∃ q,aAq (aAq (freeze h (d+1))) cs=some q∧q.length=xs.length∧∀ (j:Nat) (hj:j < xs.length),∃ rv,(q.map (·.map (·.1)))[j]?=some [rv]∧P xs[j] rv:=by
   intro xs
   induction xs with
   | nil=>intro cs hl _;have:cs=[]:=List.length_eq_zero_iff.1 (by simpa using hl);subst this;exact ⟨[],rfl,rfl,fun j hj=>by simp at hj⟩
   | cons x xs ih =>
    intro cs hl hc
    cases cs with
    | nil=>simp at hl
    | cons c cs =>
     obtain ⟨rv,y,b,k1,k2,k3⟩:=hc 0 (by simp)
     simp at k1
     subst k1
     obtain ⟨q,e1,e2,e3⟩:=ih cs (by simpa using hl) (fun j hj=>by
      obtain ⟨rv,x,c,k1,k2,k3⟩:=hc (j+1) (by simpa using hj)
      exact ⟨rv,x,c,by simpa using k1,k2,by simpa using k3⟩)
     have e4:aAq (freeze h (d+1)) [rv]=some [(y,b)]:=aDH k2
     refine ⟨[(y,b)]::q,by simp only [aAq] at e4 ⊢;simp only [e4,e1],by simp [e2],fun j hj => ?_⟩
     cases j with
     | zero=>exact ⟨y,rfl,k3⟩
     | succ j =>
      obtain ⟨rv,a1,a2⟩:=e3 j (by simpa using hj)
      exact ⟨rv,by simpa using a1,by simpa using a2⟩
  obtain ⟨q,e1,e2,e3⟩:=hm xs cs hl hc
  have:=aFK (d:=d+1) (n:=cs.length) (cc:=none) (q:=q) h4 (Nat.le_refl _) (by rw [List.take_length];exact e1)
  exact ⟨_,false,this,.inr ⟨false,_,rfl,by simp [e2],e3⟩⟩
theorem clN {v:AV} {q:Option Nat} {sz:Nat} (ho:aAu sz cs v h q) (d:Nat) (hc:∀ c ∈ cs,c.all (aAX h d)=true):aAX h (d+1) v=true:=by
 rcases ho with ⟨h1,h2,_⟩ | ⟨h1,i,ver,_,h3,h4⟩
 ·subst h2;rfl
 ·subst h3
  have hg:aAk h i ver=some (sz,false,cs):=by simp only [aAk,h4,if_true]
  simp only [aAX,hg]
  rw [List.drop_zero,List.take_length,List.all_eq_true]
  exact hc
end
theorem clI {l:List Int} {v:AV} {h:aA0} {q:Option Nat} (ho:aAu 1 (eIs l) v h q) (d:Nat):aAX h (d+2) v=true:=by
 refine clN ho (d+1) (fun c hc => ?_)
 simp only [eIs,List.mem_map] at hc
 obtain ⟨x,_,rfl⟩:=hc
 simp [eI,aAX,aFL]
theorem Nest.fz {xs:List (List Int)} {cs:List (List AV)} {h:aA0} {S:Nat→Prop} (hn:Nest eIs xs cs h S) {v:AV} {q:Option Nat} (ho:aAu 1 cs v h q) (d:Nat):∃ y c,freeze h (d+3) v=some (y,c)∧LiR xs y:=by
 refine fzN (P:=Li) ho (d+1) hn.len (fun j hj => ?_)
 obtain ⟨rv,q,h1,h2,_⟩:=hn.row j hj
 obtain ⟨x,c,e1,e2⟩:=fzI h2 d
 exact ⟨rv,x,c,h1,e1,e2⟩
theorem Nest.clean {xs:List (List Int)} {cs:List (List AV)} {h:aA0} {S:Nat→Prop} (hn:Nest eIs xs cs h S) {v:AV} {q:Option Nat} (ho:aAu 1 cs v h q) (d:Nat):aAX h (d+3) v=true:=by
 refine clN ho (d+2) (fun c hc => ?_)
 obtain ⟨j,hj,rfl⟩:=List.getElem_of_mem hc
 obtain ⟨rv,q,h1,h2,_⟩:=hn.row j (by rw [← hn.len];exact hj)
 rw [List.getElem?_eq_getElem hj] at h1
 rw [Option.some.inj h1]
 simp [clI h2 d]
theorem aAu.pushE {sz:Nat} {rows:List (List AV)} {c:List AV} {v w:AV} {h:aA0} {q:Option Nat} (hel:aAC h sz w=some [c]) (ho:aAu sz rows v h q) (hsz:c.length=sz) (hc:c.all aAp=true) (hall:rows.all (fun c=>c.length==sz && c.all aAp)=true) (bytes:Nat) (hb:bytes≤1000) (hl:rows.length≤10000000) :
  ∃ i ver h',aD9 h sz bytes v w=some (.hsl i ver 0 (rows.length+1) none,h')∧aAu sz (rows++[c]) (.hsl i ver 0 (rows.length+1) none) h' (some i)∧(∀ j o,h[j]?=some o→q≠some j→h'[j]?=some o)∧(q=some i∨(q=none∧i=h.length))∧h.length≤h'.length:=by
 obtain ⟨i,ver,h',r1,r⟩:=ho.push true hsz hc hall bytes hb hl
 refine ⟨i,ver,h',?_,r⟩
 rw [← r1]
 have e2:aAC h sz (.vsl true [c])=some [c]:=by simp [aAC,hsz]
 unfold aD9
 rw [hel,e2]
theorem aAu.pushRow {rows:List (List AV)} {v w:AV} {h:aA0} {q:Option Nat} (ho:aAu 1 rows v h q) (hw:cellsOf w=[w]∧aAp w=true) (hall:rows.all (fun c=>c.length==1 && c.all aAp)=true) (bytes:Nat) (hb:bytes≤1000) (hl:rows.length≤10000000) (z:AV) :
  ∃ lit h1 i ver h',aBH h false 1 1 [z] [(0,w)]=some (lit,h1)∧aD9 h1 1 bytes v lit=some (.hsl i ver 0 (rows.length+1) none,h')∧aAu 1 (rows++[[w]]) (.hsl i ver 0 (rows.length+1) none) h' (some i)∧(∀ j o,h[j]?=some o→q≠some j→h'[j]?=some o)∧(q=some i∨(q=none∧h.length≤i))∧h.length≤h'.length:=by
 have hc:([w]:List AV).all aAp=true:=by simp [hw.2]
 cases hp:pure1 w with
 | true =>
  obtain ⟨i,ver,h',r1,r2,r3,r4,r5⟩:=ho.push true (c:=[w]) rfl hc hall bytes hb hl
  exact ⟨_,_,i,ver,h',aGC h z w hp hw.1,r1,r2,r3,r4.imp id (fun k=>⟨k.1,by omega⟩),r5⟩
 | false =>
  have e1:aBH h false 1 1 [z] [(0,w)]=some (.hsl h.length 0 0 1 none,h++[.arr 0 1 true [[w]]]):=by
   simp [aBH,aAF,aB4,aAv,hw.1,aCh,hp]
  have e2:aAC (h++[.arr 0 1 true [[w]]]) 1 (.hsl h.length 0 0 1 none)=some [[w]]:=by
   simp [aAC,aAk]
  have ho1:aAu 1 rows v (h++[.arr 0 1 true [[w]]]) q:=ho.frame fun i o _ e=>aAJ e _
  obtain ⟨i,ver,h',r1,r2,r3,r4,r5⟩:=aAu.pushE (c:=[w]) e2 ho1 rfl hc hall bytes hb hl
  refine ⟨_,_,i,ver,h',e1,r1,r2,fun j o e=>r3 j o (aAJ e _),r4.imp id (fun k=>⟨k.1,?_⟩),?_⟩
  ·have:=k.2;simp at this;omega
  ·simp at r5;omega
theorem aL7 {α β:Type} {f:α→β} {l:List α} (h:0 < l.length):l.map f≠[]:=by
 cases l with
 | nil=>simp at h
 | cons a l=>simp
end Go.Proofs.Ytgeedikghjcebaa.Ai
