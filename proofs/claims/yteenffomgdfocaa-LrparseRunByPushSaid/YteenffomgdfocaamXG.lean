/- Grammars: the reference's checks, walked. -/
import Derived.Test.YteenffomgdfocaamXB
namespace Go.Proofs.Yteenffomgdfocaa.Ai
open Go Go.Proofs
open AV renaming junk → J
open List renaming set_cons_zero → Q0, length_cons → Q1, length_nil → Q2, getD_cons_zero → Q3, getD_cons_succ → Q4, set_cons_succ → Q5, cons_append → Q6, getElem?_cons_zero → Q7, nil_append → Q8, take_succ_cons → Q9, drop_zero → Z1, replicate_succ → Z2, replicate_zero → Z3, drop_succ_cons → Z4, take_zero → Z5, length_map → Z8, take_nil → Y4, getD_eq_getElem?_getD → Y5, drop_eq_getElem_cons → Y6, drop_eq_nil_iff → Y7
open Option renaming bind_some → Z0, map_some → Z7
open Option.some renaming injEq → Z6
open Bool renaming false_and → Z9, not_false → Y0, and_self → Y1, and_false → Y2, not_true → Y3
set_option linter.unusedVariables false
set_option linter.unusedSimpArgs false
set_option maxRecDepth 10000
theorem aS6 (g:GramD) (hg:g.Ok) (s:Int) (H:aA0):lim G0.cfg (.func 28) [.agg (aA8 g),.int .i64 s] H=some (.bool (aF7 g s),H):=by
 refine aAy rfl rfl aMB 1 (fun h=>aDX (aAU g h) rfl) ?_ (fun _=>rfl) H
 have hn:=hg.nonterms
 have ht:=hg.terms
 rw [aAp] at hn ht
 have hw:IntKind.i64.wrap (-(g.nonterms.length:Int)) = -(g.nonterms.length:Int):=w64 (by omega) (by omega)
 rw [aQF]
 unfold aF7
 by_cases q1:0≤s
 case pos =>
  have q3:¬ (s < 0):=by omega
  have q4 : -(g.nonterms.length:Int)≤s:=by omega
  by_cases q2:s < (g.terms.length:Int)
  ·simp only [Zaf,Zag,Zam,Zan,Zao,Zbc,Zbd,Zbf,Zbh,Zbj,Zbk,Zbm,Zbn,Zbo,Zbp,Zbr,Zbs,Zbu,Zcc,Zck,Zcw,Zcy,Zcz,Zda,Zdb,Q0,Q5,Q3,Q4,Z0,Z7,Zdl,Zdo,Zdx,Zeb,Zed,Zef,Zeu,decide_true,Q7,Q1,Q2,if_true,Nat.reduceAdd,Nat.reduceSub,Nat.reduceLeDiff,eq_self,true_and,Q1,Q2,Z2,Z3,Q6,Q8,aA2,aA4,aA3,part,Y1,Z1,Q9,Z5,Q6,Q8,Q0,q1,q2,q4,aA6,aA5,aA7,Z6,Prod.mk.injEq,true_and,exists_eq']
  ·simp only [Zaf,Zag,Zam,Zan,Zao,Zbc,Zbd,Zbf,Zbg,Zbi,Zbk,Zbl,Zbm,Zbn,Zbo,Zbp,Zbr,Zbs,Zbu,Zcc,Zck,Zcw,Zcy,Zcz,Zda,Zdb,Q0,Q5,Q3,Q4,Z0,Z7,Zdl,Zdo,Zdx,Zeb,Zed,Zef,Zeu,decide_true,decide_false,Q7,Q1,Q2,if_true,Nat.reduceAdd,Nat.reduceSub,Nat.reduceLeDiff,eq_self,true_and,Q1,Q2,Z2,Z3,Q6,Q8,aA2,aA4,aA3,part,Z1,Q9,Z5,Q6,Q8,Q0,q1,q2,q3,q4,aA6,aA5,aA7,Z6,Prod.mk.injEq,true_and,Bool.and_true,exists_eq']
 case neg =>
  have q3:s < 0:=by omega
  have q4:s < (g.terms.length:Int):=by omega
  by_cases q2 : -(g.nonterms.length:Int)≤s
  ·simp only [Zaf,Zag,Zam,Zan,Zao,Zbc,Zbd,Zbf,Zbg,Zbi,Zbk,Zbl,Zbm,Zbn,Zbo,Zbp,Zbr,Zbs,Zbu,Zbv,Zcc,Zck,Zcw,Zcy,Zcz,Zda,Zdb,Q0,Q5,Q3,Q4,Z0,Z7,Zdl,Zdo,Zdw,Zdx,Zeb,Zed,Zef,Zeu,decide_true,decide_false,Q7,Q1,Q2,if_true,Nat.reduceAdd,Nat.reduceSub,Nat.reduceLeDiff,eq_self,true_and,Q1,Q2,Z2,Z3,Q6,Q8,aA2,aA4,aA3,part,Y1,Z1,Z4,Q9,Z5,Q6,Q8,Q0,hw,q1,q2,q3,q4,aA6,aA5,aA7,Z6,Prod.mk.injEq,true_and,exists_eq']
  ·simp only [Zaf,Zag,Zam,Zan,Zao,Zbc,Zbd,Zbf,Zbg,Zbi,Zbk,Zbl,Zbm,Zbn,Zbo,Zbp,Zbr,Zbs,Zbu,Zbv,Zcc,Zck,Zcw,Zcy,Zcz,Zda,Zdb,Q0,Q5,Q3,Q4,Z0,Z7,Zdl,Zdo,Zdw,Zdx,Zeb,Zed,Zef,Zeu,decide_true,decide_false,Q7,Q1,Q2,if_true,Nat.reduceAdd,Nat.reduceSub,Nat.reduceLeDiff,eq_self,true_and,Q1,Q2,Z2,Z3,Q6,Q8,aA2,aA4,aA3,part,Z1,Z4,Q9,Z5,Q6,Q8,Q0,hw,q1,q2,q3,q4,aA6,aA5,aA7,Z6,Prod.mk.injEq,true_and,Y2,exists_eq']
theorem aKd (g:GramD) (hg:g.Ok) (n:Nat) (h:aA0) (hb:h[0]?=some (.arr 0 5 true [aA8 g])):∀ (d i m:Nat),g.origins.length=i+d→d < m →
  aAj (aA1 (lim G0.cfg) n aD3) m ⟨(J::.ptr 0 0 0 0::J::.int .i64 i::J::J::J::J::J::J::J::J::J::J::J::J::J::J::J::J::J::J::J::J::J::J::J::J::J::J::J::J::J::J::J::J::J::J::J::J::J::J::J::J::J::J::J::J::J::J::J::J::J::J::J::J::J::J::J::J::J::J::J::J::J::J::J::J::J::J::J::J::J::J::J::J::J::J::J::J::J::J::J::J::J::J::J::J::J::J::J::J::J::J::[]),h⟩ =
   bif (g.origins.drop i).all (fun o=>decide (0≤o) && decide (o≤5)) then some (.exit 0,⟨(J::.ptr 0 0 0 0::J::J::J::J::J::J::J::J::J::J::J::J::J::J::J::J::J::J::J::J::J::J::J::J::J::J::J::J::J::J::J::J::J::J::J::J::J::J::J::J::J::J::J::J::J::J::J::J::J::J::J::J::J::J::J::J::J::J::J::J::J::J::J::J::J::J::J::J::J::J::J::J::J::J::J::J::J::J::J::J::J::J::J::J::J::J::J::J::J::J::J::J::[]),h⟩) else some (.ret,⟨(J::J::.bool true::J::J::J::J::J::J::J::J::J::J::J::J::J::J::J::J::J::J::J::J::J::J::J::J::J::J::J::J::J::J::J::J::J::J::J::J::J::J::J::J::J::J::J::J::J::J::J::J::J::J::J::J::J::J::J::J::J::J::J::J::J::J::J::J::J::J::J::J::J::J::J::J::J::J::J::J::J::J::J::J::J::J::J::J::J::J::J::J::J::J::J::[]),h⟩):=by
 have hm:=hg.origins
 rw [aAp] at hm
 intro d
 induction d with
 | zero =>
  intro i m h1 h2
  obtain ⟨m,rfl⟩:∃ q,m=q+1:=⟨m - 1,by omega⟩
  have e1:g.origins.drop i=[]:=Y7.2 (by omega)
  have h3:¬ ((i:Int) < g.origins.length):=by omega
  simp only [aAb,aDy,Zaf,Zag,Zah,Zak,Zal,Zan,Zao,Zap,Zaw,Zaz,Zbc,Zbm,Zbo,Zbs,Zbu,Zcc,Zck,Zcz,Zdb,Zdf,Zdg,Zdh,Q0,Q5,Q3,Q4,Z0,Zdl,Zdx,Zeb,Zed,Zet,decide_false,Q7,Q1,Q2,if_true,Nat.reduceAdd,Nat.reduceLeDiff,eq_self,cond_true,aA2,aA4,aA3,part,List.all_nil,Z1,Z4,Q9,Z5,Q0,hb,h3,e1]
 | succ d ih =>
  intro i m h1 h2
  obtain ⟨m,rfl⟩:∃ q,m=q+1:=⟨m - 1,by omega⟩
  have h3:i < g.origins.length:=by omega
  have h3':(i:Int) < g.origins.length:=by omega
  have e1:g.origins.drop i=g.origins[i]::g.origins.drop (i+1):=Y6 h3
  have hw:=aAV (n:=i) (by omega)
  have:=ih (i+1) m (by omega) (by omega)
  by_cases q1:g.origins[i] < 0
  case pos =>
   have q1':¬ (0≤g.origins[i]):=by omega
   simp only [aAb,aDy,Zae,Zaf,Zag,Zah,Zai,Zak,Zam,Zan,Zao,Zaq,Zas,Zav,Zba,Zbc,Zbh,Zbk,Zbm,Zbn,Zbo,Zbp,Zbs,Zbu,Zcc,Zcf,Zck,Zcz,Zda,Zdb,Zdf,Zdg,Zdh,Q0,Q5,Q3,Q4,Z0,Zdl,Zdx,Zeb,Zed,Zet,decide_true,decide_false,Q7,Q1,Q2,if_true,Nat.reduceAdd,Nat.reduceLeDiff,eq_self,cond_false,aA2,aA4,aA3,part,eI,List.all_cons,Z1,Z4,Q9,Z5,Y4,Q0,hb,h3',aCa _ _ g.origins _ i h3,e1,q1,q1',Z9]
  case neg =>
  have q1':0≤g.origins[i]:=by omega
  by_cases q2:5 < g.origins[i]
  case pos =>
   have q2':¬ (g.origins[i]≤5):=by omega
   simp only [aAb,aDy,Zae,Zaf,Zag,Zah,Zai,Zak,Zam,Zan,Zao,Zaq,Zas,Zav,Zba,Zbc,Zbg,Zbl,Zbm,Zbn,Zbo,Zbp,Zbs,Zbu,Zcc,Zcf,Zck,Zcz,Zda,Zdb,Zdf,Zdg,Zdh,Q0,Q5,Q3,Q4,Z0,Zdl,Zdn,Zdx,Zeb,Zed,Zet,decide_true,decide_false,Q7,Q1,Q2,if_true,Nat.reduceAdd,Nat.reduceLeDiff,eq_self,cond_false,aA2,aA4,aA3,part,eI,List.all_cons,Z1,Z4,Q9,Z5,Y4,Q0,hb,h3',aCa _ _ g.origins _ i h3,e1,q1,q1',q2,q2',Z9,Y2]
  case neg =>
   have q2':g.origins[i]≤5:=by omega
   simp only [aAb,aDy,Zae,Zaf,Zag,Zah,Zai,Zak,Zan,Zao,Zar,Zav,Zaw,Zay,Zbc,Zbg,Zbl,Zbm,Zbn,Zbo,Zbp,Zbs,Zbu,Zcc,Zcf,Zck,Zcz,Zda,Zdb,Zdf,Zdg,Zdh,Q0,Q5,Q3,Q4,Z0,Zdi,Zdl,Zdn,Zdx,Zeb,Zed,Zet,decide_true,decide_false,Q7,Q1,Q2,if_true,Nat.reduceAdd,Nat.reduceLeDiff,eq_self,aA2,aA4,aA3,part,eI,List.all_cons,Y1,Z1,Z4,Q9,Z5,Y4,Q0,hb,h3',aCa _ _ g.origins _ i h3,e1,q1,q1',q2,q2',hw,this,Bool.true_and]
theorem aKc (g:GramD) (hg:g.Ok) (n:Nat) (h:aA0) (hb:h[0]?=some (.arr 0 5 true [aA8 g])):∀ (d i m:Nat) (w:Int),g.rules.length=i+d→d < m →
  aAj (aA1 (lim G0.cfg) n aD2) m ⟨(J::.ptr 0 0 0 0::J::J::.int .i64 w::.int .i64 i::J::J::J::J::J::J::J::J::J::J::J::J::J::J::J::J::J::J::J::J::J::J::J::J::J::J::J::J::J::J::J::J::J::J::J::J::J::J::J::J::J::J::J::J::J::J::J::J::J::J::J::J::J::J::J::J::J::J::J::J::J::J::J::J::J::J::J::J::J::J::J::J::J::J::J::J::J::J::J::J::J::J::J::J::J::J::J::J::[]),h⟩ =
   some (.exit 2,⟨(J::.ptr 0 0 0 0::J::J::.int .i64 (aFm (g.rules.drop i) w)::J::J::J::J::J::J::J::J::J::J::J::J::J::J::J::J::J::J::J::J::J::J::J::J::J::J::J::J::J::J::J::J::J::J::J::J::J::J::J::J::J::J::J::J::J::J::J::J::J::J::J::J::J::J::J::J::J::J::J::J::J::J::J::J::J::J::J::J::J::J::J::J::J::J::J::J::J::J::J::J::J::J::J::J::J::J::J::J::J::[]),h⟩):=by
 have hm:=hg.rules
 rw [aAp] at hm
 intro d
 induction d with
 | zero =>
  intro i m w h1 h2
  obtain ⟨m,rfl⟩:∃ q,m=q+1:=⟨m - 1,by omega⟩
  have e1:g.rules.drop i=[]:=Y7.2 (by omega)
  have h3:¬ ((i:Int) < g.rules.length):=by omega
  simp only [aAb,aGq,Zaf,Zag,Zah,Zak,Zal,Zan,Zao,Zap,Zaw,Zaz,Zbc,Zbm,Zbo,Zbs,Zbu,Zcc,Zck,Zcz,Zdb,Zdf,Zdg,Zdh,Q0,Q5,Q3,Q4,Z0,Zdl,Zdx,Zeb,Zed,decide_false,Q7,Q1,Q2,if_true,Nat.reduceAdd,Nat.reduceLeDiff,eq_self,Z8,aA2,aA4,aA3,part,Z1,Z4,Q9,Z5,Q0,Z8,hb,h3,e1,aFm]
 | succ d ih =>
  intro i m w h1 h2
  obtain ⟨m,rfl⟩:∃ q,m=q+1:=⟨m - 1,by omega⟩
  have h3:i < g.rules.length:=by omega
  have h3':(i:Int) < g.rules.length:=by omega
  have e1:g.rules.drop i=g.rules[i]::g.rules.drop (i+1):=Y6 h3
  have hw:=aAV (n:=i) (by omega)
  simp only [aAb,aGq,Zae,Zaf,Zag,Zah,Zai,Zak,Zan,Zao,Zar,Zav,Zay,Zbc,Zbm,Zbo,Zbs,Zbu,Zcc,Zcf,Zck,Zcz,Zda,Zdb,Zdf,Zdg,Zdh,Q0,Q5,Q3,Q4,Z0,Zdi,Zdl,Zdx,Zeb,Zec,Zed,Zet,decide_true,Q7,Q1,Q2,if_true,Nat.reduceAdd,Nat.reduceLeDiff,eq_self,Z8,aA2,aA4,aA3,part,Z1,Z4,Q9,Z5,Q0,Z8,hb,h3',aBg aAt _ 5 _ g.rules _ i h3 rfl,e1,aFm,hw,ih (i+1) m _ (by omega) (by omega)]
theorem aQa (g:GramD) (hg:g.Ok) (H:aA0):lim G0.cfg (.func 12) [.agg (aA8 g)] H=some (.bool (!aBR g),H):=by
 refine aAy rfl rfl aHQ (g.rules.length+g.origins.length+1) (fun h=>aFq (aAU g h)) ?_ (fun _=>rfl) H
 obtain ⟨N,hN⟩:∃ N,N=g.rules.length+g.origins.length+1:=⟨_,rfl⟩
 rw [← hN]
 have e:=aKd g hg N [.arr 0 5 true [aA8 g]] rfl g.origins.length 0 N (by omega) (by omega)
 rw [Z1,z0] at e
 have e2:=aKc g hg N [.arr 0 5 true [aA8 g]] rfl g.rules.length 0 N 0 (by omega) (by omega)
 rw [Z1,z0] at e2
 rw [aMt]
 unfold aBR
 generalize hall:(g.origins.all fun o=>decide (0≤o) && decide (o≤5))=ab at e
 by_cases c1:(g.terms.length:Int) < 2
 case pos =>
  have d1:¬ ((2:Int)≤g.terms.length):=by omega
  simp only [Zaf,Zag,Zah,Zam,Zan,Zao,Zaq,Zav,Zbc,Zbd,Zbh,Zbk,Zbm,Zbn,Zbo,Zbp,Zbr,Zbs,Zbu,Zcc,Zck,Zcw,Zcy,Zcz,Zda,Zdb,Q0,Q5,Q3,Q4,Z0,Z7,Zdl,Zdx,Zeb,Zed,Zef,Zeu,decide_true,decide_false,Y0,Q7,Q1,Q2,if_true,Nat.reduceAdd,Nat.reduceSub,Nat.reduceLeDiff,eq_self,true_and,Q1,Q2,Z2,Z3,Q6,Q8,aA2,aA4,aA3,part,Z1,Q9,Z5,Q6,Q8,Q0,c1,d1,aA6,aA5,aA7,Z6,Prod.mk.injEq,true_and,Z9,exists_eq']
 case neg =>
 have d1:(2:Int)≤g.terms.length:=by omega
 by_cases c2:(256:Int) < g.terms.length
 case pos =>
  have d2:¬ ((g.terms.length:Int)≤256):=by omega
  simp only [Zaf,Zag,Zah,Zam,Zan,Zao,Zaq,Zav,Zbc,Zbd,Zbg,Zbh,Zbk,Zbl,Zbm,Zbn,Zbo,Zbp,Zbr,Zbs,Zbu,Zcc,Zck,Zcw,Zcy,Zcz,Zda,Zdb,Q0,Q5,Q3,Q4,Z0,Z7,Zdl,Zdn,Zdx,Zeb,Zed,Zef,Zeu,decide_true,decide_false,Y0,Q7,Q1,Q2,if_true,Nat.reduceAdd,Nat.reduceSub,Nat.reduceLeDiff,eq_self,true_and,Q1,Q2,Z2,Z3,Q6,Q8,aA2,aA4,aA3,part,Z1,Q9,Z5,Q6,Q8,Q0,c1,d1,c2,d2,aA6,aA5,aA7,Z6,Prod.mk.injEq,true_and,Z9,Y2,exists_eq']
 case neg =>
 have d2:(g.terms.length:Int)≤256:=by omega
 by_cases c3:(g.nonterms.length:Int) < 1
 case pos =>
  have d3:¬ ((1:Int)≤g.nonterms.length):=by omega
  simp only [Zaf,Zag,Zah,Zam,Zan,Zao,Zaq,Zav,Zbc,Zbd,Zbg,Zbh,Zbk,Zbl,Zbm,Zbn,Zbo,Zbp,Zbr,Zbs,Zbu,Zcc,Zck,Zcw,Zcy,Zcz,Zda,Zdb,Q0,Q5,Q3,Q4,Z0,Z7,Zdl,Zdn,Zdx,Zeb,Zed,Zef,Zeu,decide_true,decide_false,Y0,Q7,Q1,Q2,if_true,Nat.reduceAdd,Nat.reduceSub,Nat.reduceLeDiff,eq_self,true_and,Q1,Q2,Z2,Z3,Q6,Q8,aA2,aA4,aA3,part,Y1,Z1,Z4,Q9,Z5,Q6,Q8,Q0,c1,d1,c2,d2,c3,d3,aA6,aA5,aA7,Z6,Prod.mk.injEq,true_and,Z9,Y2,exists_eq']
 case neg =>
 have d3:(1:Int)≤g.nonterms.length:=by omega
 by_cases c4:(512:Int) < g.nonterms.length
 case pos =>
  have d4:¬ ((g.nonterms.length:Int)≤512):=by omega
  simp only [Zaf,Zag,Zah,Zam,Zan,Zao,Zaq,Zav,Zbc,Zbd,Zbg,Zbh,Zbk,Zbl,Zbm,Zbn,Zbo,Zbp,Zbr,Zbs,Zbu,Zcc,Zck,Zcw,Zcy,Zcz,Zda,Zdb,Q0,Q5,Q3,Q4,Z0,Z7,Zdl,Zdn,Zdx,Zeb,Zed,Zef,Zeu,decide_true,decide_false,Y0,Q7,Q1,Q2,if_true,Nat.reduceAdd,Nat.reduceSub,Nat.reduceLeDiff,eq_self,true_and,Q1,Q2,Z2,Z3,Q6,Q8,aA2,aA4,aA3,part,Y1,Z1,Z4,Q9,Z5,Q6,Q8,Q0,c1,d1,c2,d2,c3,d3,c4,d4,aA6,aA5,aA7,Z6,Prod.mk.injEq,true_and,Z9,Y2,exists_eq']
 case neg =>
 have d4:(g.nonterms.length:Int)≤512:=by omega
 by_cases c5:(g.origins.length:Int)=g.nonterms.length
 case neg =>
  simp only [Zaf,Zag,Zah,Zam,Zan,Zao,Zaq,Zav,Zbc,Zbd,Zbg,Zbl,Zbm,Zbn,Zbo,Zbp,Zbr,Zbs,Zbu,Zcc,Zck,Zcw,Zcy,Zcz,Zda,Zdb,Q0,Q5,Q3,Q4,Z0,Z7,Zdl,Zdn,Zdq,Zdx,Zeb,Zed,Zef,Zet,Zeu,decide_true,decide_false,Y0,Q7,Q1,Q2,if_true,Nat.reduceAdd,Nat.reduceSub,Nat.reduceLeDiff,eq_self,true_and,Q1,Q2,Z2,Z3,Q6,Q8,aA2,aA4,aA3,part,Y1,Z1,Z4,Q9,Z5,Q6,Q8,Q0,c1,d1,c2,d2,c3,d3,c4,d4,c5,aA6,aA5,aA7,Z6,Prod.mk.injEq,true_and,Z9,Y2,exists_eq']
 case pos =>
 cases ab
 case false =>
  simp only [Zae,Zaf,Zag,Zah,Zai,Zaj,Zak,Zan,Zao,Zaq,Zas,Zaw,Zax,Zbc,Zbd,Zbg,Zbl,Zbm,Zbn,Zbo,Zbp,Zbr,Zbs,Zbu,Zcc,Zck,Zcw,Zcy,Zcz,Zda,Zdb,Zdf,Zdg,Zdh,Q0,Q5,Q3,Q4,Z0,Z7,Zdl,Zdn,Zdq,Zdx,Zeb,Zed,Zef,Zet,Zeu,decide_true,decide_false,Y3,Y0,Q7,Q1,Q2,if_true,Nat.reduceAdd,Nat.reduceSub,Nat.reduceLeDiff,eq_self,true_and,cond_false,Q1,Q2,Z2,Z3,Q6,Q8,aA2,aA4,aA3,part,Y1,Z1,Z4,Q9,Z5,Q6,Q8,Q0,c1,d1,c2,d2,c3,d3,c4,d4,c5,e,aA6,aA5,aA7,Z6,Prod.mk.injEq,true_and,Z9,Y2,exists_eq']
 case true =>
 by_cases c7:(g.rules.length:Int) < 1
 case pos =>
  have d7:¬ ((1:Int)≤g.rules.length):=by omega
  simp only [Zae,Zaf,Zag,Zah,Zai,Zaj,Zak,Zam,Zan,Zao,Zat,Zaw,Zax,Zbc,Zbd,Zbg,Zbh,Zbk,Zbl,Zbm,Zbn,Zbo,Zbp,Zbr,Zbs,Zbu,Zcc,Zck,Zcw,Zcy,Zcz,Zda,Zdb,Zdf,Zdg,Zdh,Q0,Q5,Q3,Q4,Z0,Z7,Zdl,Zdn,Zdq,Zdx,Zeb,Zed,Zef,Zet,Zeu,decide_true,decide_false,Y3,Y0,Q7,Q1,Q2,if_true,Nat.reduceAdd,Nat.reduceSub,Nat.reduceLeDiff,eq_self,true_and,cond_true,Z8,Q1,Q2,Z2,Z3,Q6,Q8,aA2,aA4,aA3,part,Y1,Z1,Z4,Q9,Z5,Q6,Q8,Q0,Z8,c1,d1,c2,d2,c3,d3,c4,d4,c5,e,e2,c7,d7,aA6,aA5,aA7,Z6,Prod.mk.injEq,true_and,Z9,Y2,exists_eq']
 case neg =>
 have d7:(1:Int)≤g.rules.length:=by omega
 by_cases c8:(1024:Int) < g.rules.length
 case pos =>
  have d8:¬ ((g.rules.length:Int)≤1024):=by omega
  simp only [Zae,Zaf,Zag,Zah,Zai,Zaj,Zak,Zam,Zan,Zao,Zat,Zaw,Zax,Zbc,Zbd,Zbg,Zbh,Zbk,Zbl,Zbm,Zbn,Zbo,Zbp,Zbr,Zbs,Zbu,Zcc,Zck,Zcw,Zcy,Zcz,Zda,Zdb,Zdf,Zdg,Zdh,Q0,Q5,Q3,Q4,Z0,Z7,Zdl,Zdn,Zdq,Zdx,Zeb,Zed,Zef,Zet,Zeu,decide_true,decide_false,Y3,Y0,Q7,Q1,Q2,if_true,Nat.reduceAdd,Nat.reduceSub,Nat.reduceLeDiff,eq_self,true_and,cond_true,Z8,Q1,Q2,Z2,Z3,Q6,Q8,aA2,aA4,aA3,part,Y1,Z1,Z4,Q9,Z5,Q6,Q8,Q0,Z8,c1,d1,c2,d2,c3,d3,c4,d4,c5,e,e2,c7,d7,c8,d8,aA6,aA5,aA7,Z6,Prod.mk.injEq,true_and,Z9,Y2,exists_eq']
 case neg =>
 have d8:(g.rules.length:Int)≤1024:=by omega
 by_cases c9:(32:Int) < g.levels.length
 case pos =>
  have d9:¬ ((g.levels.length:Int)≤32):=by omega
  simp only [Zae,Zaf,Zag,Zah,Zai,Zaj,Zak,Zam,Zan,Zao,Zat,Zaw,Zax,Zbc,Zbd,Zbg,Zbh,Zbk,Zbl,Zbm,Zbn,Zbo,Zbp,Zbr,Zbs,Zbu,Zcc,Zck,Zcw,Zcy,Zcz,Zda,Zdb,Zdf,Zdg,Zdh,Q0,Q5,Q3,Q4,Z0,Z7,Zdl,Zdn,Zdq,Zdx,Zeb,Zed,Zef,Zet,Zeu,decide_true,decide_false,Y3,Y0,Q7,Q1,Q2,if_true,Nat.reduceAdd,Nat.reduceSub,Nat.reduceLeDiff,eq_self,true_and,cond_true,Z8,Q1,Q2,Z2,Z3,Q6,Q8,aA2,aA4,aA3,part,Y1,Z1,Z4,Q9,Z5,Y4,Q6,Q8,Q0,Z8,c1,d1,c2,d2,c3,d3,c4,d4,c5,e,e2,c7,d7,c8,d8,c9,d9,aA6,aA5,aA7,Z6,Prod.mk.injEq,true_and,Z9,Y2,exists_eq']
 case neg =>
 have d9:(g.levels.length:Int)≤32:=by omega
 by_cases c10:8192 < aFm g.rules 0
 case pos =>
  have d10:¬ (aFm g.rules 0≤8192):=by omega
  simp only [Zae,Zaf,Zag,Zah,Zai,Zaj,Zak,Zam,Zan,Zao,Zat,Zaw,Zax,Zbc,Zbd,Zbg,Zbl,Zbm,Zbn,Zbo,Zbp,Zbr,Zbs,Zbu,Zcc,Zck,Zcw,Zcy,Zcz,Zda,Zdb,Zdf,Zdg,Zdh,Q0,Q5,Q3,Q4,Z0,Z7,Zdl,Zdn,Zdq,Zdx,Zeb,Zed,Zef,Zet,Zeu,decide_true,decide_false,Y3,Y0,Q7,Q1,Q2,if_true,Nat.reduceAdd,Nat.reduceSub,Nat.reduceLeDiff,eq_self,true_and,cond_true,Z8,Q1,Q2,Z2,Z3,Q6,Q8,aA2,aA4,aA3,part,Y1,Z1,Z4,Q9,Z5,Y4,Q6,Q8,Q0,Z8,c1,d1,c2,d2,c3,d3,c4,d4,c5,e,e2,c7,d7,c8,d8,c9,d9,c10,d10,aA6,aA5,aA7,Z6,Prod.mk.injEq,true_and,Y2,exists_eq']
 case neg =>
 have d10:aFm g.rules 0≤8192:=by omega
 simp only [Zae,Zaf,Zag,Zah,Zai,Zaj,Zak,Zam,Zan,Zao,Zat,Zaw,Zax,Zbc,Zbd,Zbg,Zbl,Zbm,Zbn,Zbo,Zbp,Zbr,Zbs,Zbu,Zcc,Zck,Zcw,Zcy,Zcz,Zda,Zdb,Zdf,Zdg,Zdh,Q0,Q5,Q3,Q4,Z0,Z7,Zdl,Zdn,Zdq,Zdx,Zeb,Zed,Zef,Zet,Zeu,decide_true,decide_false,Y3,Q7,Q1,Q2,if_true,Nat.reduceAdd,Nat.reduceSub,Nat.reduceLeDiff,eq_self,true_and,cond_true,Z8,Q1,Q2,Z2,Z3,Q6,Q8,aA2,aA4,aA3,part,Y1,Z1,Z4,Q9,Z5,Y4,Q6,Q8,Q0,Z8,c1,d1,c2,d2,c3,d3,c4,d4,c5,e,e2,c7,d7,c8,d8,c9,d9,c10,d10,aA6,aA5,aA7,Z6,Prod.mk.injEq,true_and,exists_eq']
theorem aKZ (l:List Str) (hm:l.length≤maxLen) (n:Nat) (i:Nat) (hi:i < l.length):∀ (d k m:Nat),i=k+d→d < m →
  aAj (aA1 (lim G0.cfg) n aDo) m ⟨[.vsl false (eSs l),J,J,.int .i64 i,.int .i64 k,J,J,J,J,J,J,J,J,J,J,J,J,J,J,J,J,J,J,J,J],[]⟩ =
   bif decide (l[i] ∈ (l.take i).drop k) then some (.ret,⟨[J,J,.bool true,J,J,J,J,J,J,J,J,J,J,J,J,J,J,J,J,J,J,J,J,J,J],[]⟩) else some (.exit 2,⟨[.vsl false (eSs l),J,J,.int .i64 i,J,J,J,J,J,J,J,J,J,J,J,J,J,J,J,J,J,J,J,J,J],[]⟩):=by
 rw [aAp] at hm
 intro d
 induction d with
 | zero =>
  intro k m h1 h2
  obtain ⟨m,rfl⟩:∃ q,m=q+1:=⟨m - 1,by omega⟩
  have e1:(l.take i).drop k=[]:=Y7.2 (by simp;omega)
  have h3:¬ ((k:Int) < (i:Int)):=by omega
  simp only [aAb,aF2,Zaf,Zag,Zah,Zak,Zal,Zan,Zao,Zap,Zaw,Zaz,Zbc,Zbm,Zbo,Zbu,Zcz,Zdb,Zdf,Zdg,Zdh,Q0,Q5,Q3,Q4,Zdl,decide_false,eq_self,cond_false,h3,e1,List.not_mem_nil]
 | succ d ih =>
  intro k m h1 h2
  obtain ⟨m,rfl⟩:∃ q,m=q+1:=⟨m - 1,by omega⟩
  have h3:(k:Int) < (i:Int):=by omega
  have hk:k < l.length:=by omega
  have e1:(l.take i).drop k=l[k]::(l.take i).drop (k+1):=by
   rw [Y6 (by simp;omega)];simp
  have hw:=aAV (n:=k) (by omega)
  have:=ih (k+1) m (by omega) (by omega)
  rw [e1]
  by_cases q:l[k]=l[i]
  ·have q2:decide (l[i] ∈ l[k]::(l.take i).drop (k+1))=true:=by simp [q]
   rw [q2]
   simp only [aAb,aF2,Zae,Zaf,Zag,Zah,Zai,Zak,Zam,Zan,Zao,Zaq,Zas,Zav,Zba,Zbc,Zbm,Zbo,Zbs,Zbu,Zcf,Zcz,Zda,Zdb,Zdf,Zdg,Zdh,Q0,Q5,Q3,Q4,Zdl,Zdr,Zes,decide_true,eq_self,cond_true,aHC _ _ l _ i hi,aHC _ _ l _ k hk,h3,q]
  ·have q2:decide (l[i] ∈ l[k]::(l.take i).drop (k+1))=decide (l[i] ∈ (l.take i).drop (k+1)):=by
    have q':¬ l[i]=l[k]:=fun e=>q e.symm
    simp [q']
   rw [q2]
   simp only [aAb,aF2,Zae,Zaf,Zag,Zah,Zai,Zak,Zan,Zao,Zar,Zav,Zaw,Zay,Zbc,Zbm,Zbo,Zbs,Zbu,Zcf,Zcz,Zda,Zdb,Zdf,Zdg,Zdh,Q0,Q5,Q3,Q4,Zdi,Zdl,Zdr,Zes,decide_true,decide_false,eq_self,aHC _ _ l _ i hi,aHC _ _ l _ k hk,h3,q,hw,this]
theorem aL0 (l:List Str) (hm:l.length≤maxLen) (n:Nat) (hn:l.length < n):∀ (d i m:Nat),l.length=i+d→d < m →
  aAj (aA1 (lim G0.cfg) n aDp) m ⟨[.vsl false (eSs l),J,J,.int .i64 i,J,J,J,J,J,J,J,J,J,J,J,J,J,J,J,J,J,J,J,J,J],[]⟩ =
   bif (List.range' i d).all (fun j => !decide (l.getD j [] ∈ l.take j)) then some (.exit 0,⟨[J,J,J,J,J,J,J,J,J,J,J,J,J,J,J,J,J,J,J,J,J,J,J,J,J],[]⟩) else some (.ret,⟨[J,J,.bool true,J,J,J,J,J,J,J,J,J,J,J,J,J,J,J,J,J,J,J,J,J,J],[]⟩):=by
 have hm2:=hm
 rw [aAp] at hm2
 intro d
 induction d with
 | zero =>
  intro i m h1 h2
  obtain ⟨m,rfl⟩:∃ q,m=q+1:=⟨m - 1,by omega⟩
  have h3:¬ ((i:Int) < l.length):=by omega
  simp only [aAb,aF3,Zaf,Zag,Zah,Zak,Zal,Zan,Zao,Zap,Zaw,Zaz,Zbc,Zbm,Zbo,Zbu,Zck,Zcz,Zdb,Zdg,Zdh,Q0,Q5,Q3,Q4,Zdl,Zdx,Zeu,decide_false,eq_self,cond_true,h3,List.range'_zero,List.all_nil]
 | succ d ih =>
  intro i m h1 h2
  obtain ⟨m,rfl⟩:∃ q,m=q+1:=⟨m - 1,by omega⟩
  have h3:i < l.length:=by omega
  have h3':(i:Int) < l.length:=by omega
  have hw:=aAV (n:=i) (by omega)
  have e:=aKZ l hm n i h3 i 0 n (by omega) (by omega)
  rw [Z1,z0] at e
  have hgd:l.getD i []=l[i]:=by simp [Y5,h3]
  rw [List.range'_succ,List.all_cons,hgd]
  cases q:decide (l[i] ∈ l.take i)
  ·rw [q] at e
   simp only [aAb,aF3,Zae,Zaf,Zag,Zah,Zai,Zaj,Zak,Zan,Zao,Zar,Zat,Zav,Zax,Zay,Zbc,Zbm,Zbo,Zbu,Zck,Zcz,Zda,Zdb,Zdf,Zdg,Zdh,Q0,Q5,Q3,Q4,Zdi,Zdl,Zdx,Zeu,decide_true,Y0,eq_self,cond_false,h3',e,hw,ih (i+1) m (by omega) (by omega),Bool.true_and]
  ·rw [q] at e
   simp only [aAb,aF3,Zae,Zaf,Zag,Zah,Zai,Zaj,Zak,Zan,Zao,Zaq,Zas,Zav,Zax,Zba,Zbc,Zbm,Zbo,Zbu,Zck,Zcz,Zda,Zdb,Zdf,Zdg,Zdh,Q0,Q5,Q3,Q4,Zdl,Zdx,Zeu,decide_true,Y3,eq_self,cond_true,cond_false,h3',e,Z9]
theorem aN5 (l:List Str):(List.range' 0 l.length).all (fun j => !decide (l.getD j [] ∈ l.take j))=decide l.Nodup:=by
 rw [← List.range_eq_range']
 rw [Bool.eq_iff_iff]
 simp only [List.all_eq_true,List.mem_range,Bool.not_eq_true',decide_eq_false_iff_not,decide_eq_true_eq]
 constructor
 ·intro h
  rw [List.nodup_iff_pairwise_ne,List.pairwise_iff_getElem]
  intro i j hi hj hij e
  have:=h j hj
  apply this
  rw [Y5,List.getElem?_eq_getElem hj,Option.getD_some,← e]
  exact List.mem_take_iff_getElem.2 ⟨i,by omega,rfl⟩
 ·intro h j hj hm
  rw [Y5,List.getElem?_eq_getElem hj,Option.getD_some] at hm
  obtain ⟨i,hi,e⟩:=List.mem_take_iff_getElem.1 hm
  rw [List.nodup_iff_pairwise_ne,List.pairwise_iff_getElem] at h
  exact h i j (by omega) hj (by omega) e
theorem aNI (l:List Str) (hm:l.length≤maxLen) (H:aA0):lim G0.cfg (.func 13) [.vsl false (eSs l)] H=some (.bool (aDz l),H):=by
 refine aAy rfl rfl aIt (l.length+1) (fun h=>aFq (aHE _ _ _)) ?_ (fun _=>rfl) H
 have e:=aL0 l hm (l.length+1) (by omega) l.length 0 (l.length+1) (by omega) (by omega)
 rw [z0,aN5] at e
 rw [aNi]
 unfold aDz
 cases q:decide l.Nodup
 ·rw [q] at e
  simp only [Zaf,Zag,Zai,Zaj,Zak,Zan,Zao,Zaq,Zas,Zax,Zbm,Zbo,Zcy,Zda,Zdb,Zdf,Zdg,Zdh,Q0,Q5,Q3,Q4,Z7,Y0,Q1,Q2,Nat.reduceAdd,Nat.reduceSub,eq_self,true_and,cond_false,Q1,Q2,Z2,Z3,Q6,Q8,e,aA6,aA5,aA7,Z6,Prod.mk.injEq,true_and,exists_eq']
 ·rw [q] at e
  simp only [Zaf,Zag,Zai,Zaj,Zak,Zam,Zan,Zao,Zat,Zax,Zbm,Zbo,Zcy,Zda,Zdb,Zdf,Zdg,Zdh,Q0,Q5,Q3,Q4,Z7,Y3,Q1,Q2,Nat.reduceAdd,Nat.reduceSub,eq_self,true_and,cond_true,Q1,Q2,Z2,Z3,Q6,Q8,e,aA6,aA5,aA7,Z6,Prod.mk.injEq,true_and,exists_eq']
end Go.Proofs.Yteenffomgdfocaa.Ai
namespace Go.Proofs.Yteenffomgdfocaa.Ai
open Go Go.Proofs
open AV renaming junk → J
open List renaming set_cons_zero → Q0, length_cons → Q1, length_nil → Q2, cons_append → Q3, nil_append → Q4, getElem?_cons_zero → Q5, getD_cons_zero → Q6, getD_cons_succ → Q7, drop_succ_cons → Q8, take_succ_cons → Q9, set_cons_succ → Z0, getElem?_cons_succ → Z1, drop_zero → Z3, replicate_succ → Z4, replicate_zero → Z5, take_zero → Z6, take_nil → Z8, all_cons → Y0, length_map → Y2, all_nil → Y3
open Option renaming bind_some → Z2, map_some → Z9
open Option.some renaming injEq → Z7
open Bool renaming and_self → Y1, not_true → Y4, not_false → Y5, true_or → Y6, false_and → Y7, and_false → Y8
set_option linter.unusedVariables false
set_option linter.unusedSimpArgs false
set_option maxRecDepth 10000
set_option maxHeartbeats 4000000
theorem aLP (g:GramD) (hg:g.Ok) (n:Nat) (h:aA0) (hb:h[0]?=some (.arr 0 5 true [aA8 g])):∀ (d i m:Nat),g.rules.length=i+d→d < m →
  aAj (aA1 (lim G0.cfg) n aDq) m ⟨(J::.ptr 0 0 0 0::J::J::.int .i64 i::J::J::J::J::J::J::J::J::J::J::J::J::J::J::J::J::J::J::J::J::J::J::J::J::J::J::J::J::J::J::J::J::J::J::J::J::J::J::J::J::J::J::J::[]),h⟩ =
   bif (g.rules.drop i).any (fun x=>decide (x.left=0)) then some (.ret,⟨(J::J::.bool true::J::J::J::J::J::J::J::J::J::J::J::J::J::J::J::J::J::J::J::J::J::J::J::J::J::J::J::J::J::J::J::J::J::J::J::J::J::J::J::J::J::J::J::J::J::[]),h⟩) else some (.exit 0,⟨(J::J::J::J::J::J::J::J::J::J::J::J::J::J::J::J::J::J::J::J::J::J::J::J::J::J::J::J::J::J::J::J::J::J::J::J::J::J::J::J::J::J::J::J::J::J::J::J::[]),h⟩):=by
 have hm:=hg.rules
 rw [aAp] at hm
 intro d
 induction d with
 | zero =>
  intro i m h1 h2
  obtain ⟨m,rfl⟩:∃ q,m=q+1:=⟨m - 1,by omega⟩
  have e1:g.rules.drop i=[]:=List.drop_eq_nil_iff.2 (by omega)
  have h3:¬ ((i:Int) < g.rules.length):=by omega
  simp only [aAb,aF4,Zaf,Zag,Zah,Zak,Zal,Zan,Zao,Zap,Zaw,Zaz,Zbc,Zbm,Zbo,Zbs,Zbu,Zcc,Zck,Zcz,Zdb,Zdg,Zdh,Q0,Z0,Q6,Q7,Z2,Zdl,Zdx,Zeb,Zed,decide_false,Q5,Q1,Q2,if_true,Nat.reduceAdd,Nat.reduceLeDiff,eq_self,cond_false,Y2,aA2,aA4,aA3,part,Z3,Q8,Q9,Z6,Q0,Y2,hb,h3,e1,List.any_nil]
 | succ d ih =>
  intro i m h1 h2
  obtain ⟨m,rfl⟩:∃ q,m=q+1:=⟨m - 1,by omega⟩
  have h3:i < g.rules.length:=by omega
  have h3':(i:Int) < g.rules.length:=by omega
  have e1:g.rules.drop i=g.rules[i]::g.rules.drop (i+1):=List.drop_eq_getElem_cons h3
  have hw:=aAV (n:=i) (by omega)
  by_cases q:(g.rules[i]).left=0
  ·simp only [aAb,aF4,Zae,Zaf,Zag,Zah,Zai,Zak,Zam,Zan,Zao,Zaq,Zas,Zav,Zba,Zbc,Zbm,Zbo,Zbs,Zbu,Zcc,Zcf,Zck,Zcz,Zda,Zdb,Zdf,Zdg,Zdh,Q0,Z0,Q6,Q7,Z2,Zdl,Zdp,Zdx,Zeb,Zec,Zed,decide_true,Q5,Q1,Q2,if_true,Nat.reduceAdd,Nat.reduceLeDiff,eq_self,cond_true,Y2,aA2,aA4,aA3,part,Z3,Q8,Q9,Z6,Q0,Y2,hb,h3',aBg aAt _ 5 _ g.rules _ i h3 rfl,e1,List.any_cons,q,Y6]
  ·simp only [aAb,aF4,Zae,Zaf,Zag,Zah,Zai,Zak,Zan,Zao,Zar,Zav,Zaw,Zay,Zbc,Zbm,Zbo,Zbs,Zbu,Zcc,Zcf,Zck,Zcz,Zda,Zdb,Zdf,Zdg,Zdh,Q0,Z0,Q6,Q7,Z2,Zdi,Zdl,Zdp,Zdx,Zeb,Zec,Zed,decide_true,decide_false,Q5,Q1,Q2,if_true,Nat.reduceAdd,Nat.reduceLeDiff,eq_self,Y2,aA2,aA4,aA3,part,Z3,Q8,Q9,Z6,Q0,Y2,hb,h3',aBg aAt _ 5 _ g.rules _ i h3 rfl,e1,List.any_cons,q,hw,ih (i+1) m (by omega) (by omega),Bool.false_or]
theorem aR3 (g:GramD) (hg:g.Ok) (hr:g.rules≠[]) (H:aA0):lim G0.cfg (.func 14) [.agg (aA8 g)] H=some (.bool (!aEL g),H):=by
 refine aAy rfl rfl aIu (g.rules.length+1) (fun h=>aFq (aAU g h)) ?_ (fun _=>rfl) H
 have t1:=aS6 g hg
 obtain ⟨r0,R,hR⟩:∃ a b,g.rules=a::b:=by cases e:g.rules with | nil=>exact absurd e hr | cons a b=>exact ⟨a,b,rfl⟩
 have e:=fun x:AObj=>aLP g hg (g.rules.length+1) [.arr 0 5 true [aA8 g],x] rfl R.length 1 (g.rules.length+1) (by rw [hR];simp;omega) (by rw [hR];simp;omega)
 have e1:g.rules.drop 1=R:=by rw [hR];rfl
 have z1:((1:Nat):Int)=1:=rfl
 simp only [e1,z1] at e
 have i0:∀ h,aAs h 5 (.vsl false (g.rules.map aAt)) (.int .i64 0)=some (.vptr (aAt r0) 0):=fun h=>by rw [hR];rfl
 have hall:(R.all fun x=>decide (x.left≠0)) = !(R.any fun x=>decide (x.left=0)):=by
  rw [List.all_eq_not_any_not];congr 2;funext x;simp
 rw [aNj]
 simp only [aEL,hR]
 rw [hall]
 simp only [← hR]
 generalize (R.any fun x=>decide (x.left=0))=anyb at e
 by_cases q1:r0.left=0
 case neg=>simp only [Zaf,Zag,Zah,Zam,Zan,Zao,Zaq,Zav,Zbc,Zbd,Zbe,Zbh,Zbk,Zbm,Zbn,Zbo,Zbp,Zbq,Zbr,Zbs,Zbt,Zbu,Zcc,Zcf,Zcw,Zcy,Zcz,Zda,Zdb,Zdc,Q0,Z0,Q6,Q7,Z2,Z9,Zdq,Zeb,Zed,Zee,Zef,decide_false,Y5,Q5,Z1,Q1,Q2,if_true,Nat.reduceAdd,Nat.reduceSub,Nat.reduceLeDiff,Int.reduceNeg,eq_self,and_self,true_and,Q1,Q2,Z4,Z5,Q3,Q4,aA2,aA4,aA3,part,aAq,aAm,Y0,Y3,aAn,Y1,Z3,Q8,Q9,Z6,Z8,Q3,Q4,Q0,i0,q1,aA6,aA5,aA7,Z7,Prod.mk.injEq,true_and,Y7,exists_eq']
 case pos =>
 by_cases q2:(r0.right.length:Int)=1
 case neg=>simp only [Zaf,Zag,Zah,Zam,Zan,Zao,Zaq,Zav,Zbc,Zbd,Zbe,Zbg,Zbh,Zbk,Zbl,Zbm,Zbn,Zbo,Zbp,Zbq,Zbr,Zbs,Zbt,Zbu,Zcc,Zcf,Zck,Zcw,Zcy,Zcz,Zda,Zdb,Zdc,Q0,Z0,Q6,Q7,Z2,Z9,Zdq,Zdx,Zeb,Zed,Zee,Zef,Zet,decide_true,decide_false,Y4,Y5,Q5,Z1,Q1,Q2,if_true,Nat.reduceAdd,Nat.reduceSub,Nat.reduceLeDiff,Int.reduceNeg,eq_self,and_self,true_and,Q1,Q2,Z4,Z5,Q3,Q4,aA2,aA4,aA3,part,aAq,aAm,Y0,Y3,aAn,Y1,Z3,Q8,Q9,Z6,Z8,Q3,Q4,Q0,i0,q1,q2,aA6,aA5,aA7,Z7,Prod.mk.injEq,true_and,Y7,Y8,exists_eq']
 case pos =>
 obtain ⟨y,hy⟩:∃ y,r0.right=[y]:=List.length_eq_one_iff.1 (by omega)
 have i1:∀ h,aAs h 1 (.vsl false (eIs r0.right)) (.int .i64 0)=some (.vptr (eI y) 0):=fun h=>by rw [hy];rfl
 have hy0:r0.right.getD 0 0=y:=by rw [hy];rfl
 rw [hy0]
 by_cases q3:(-1:Int)≤y
 case pos =>
  have q3':¬ (y < -1):=by omega
  simp only [Zaf,Zag,Zah,Zam,Zan,Zao,Zaq,Zav,Zbc,Zbd,Zbe,Zbg,Zbh,Zbk,Zbl,Zbm,Zbn,Zbo,Zbp,Zbq,Zbr,Zbs,Zbt,Zbu,Zcc,Zcf,Zck,Zcw,Zcy,Zcz,Zda,Zdb,Zdc,Q0,Z0,Q6,Q7,Z2,Z9,Zdo,Zdq,Zdx,Zeb,Zed,Zee,Zef,Zet,decide_true,decide_false,Y4,Y5,Q5,Z1,Q1,Q2,if_true,Nat.reduceAdd,Nat.reduceSub,Nat.reduceLeDiff,Int.reduceNeg,eq_self,and_self,true_and,Q1,Q2,Z4,Z5,Q3,Q4,aA2,aA4,aA3,part,eI,aAq,aAm,Y0,Y3,aAn,Y1,Z3,Q8,Q9,Z6,Z8,Q3,Q4,Q0,i0,i1,q1,q2,q3,q3',aA6,aA5,aA7,Z7,Prod.mk.injEq,true_and,Y7,Y8,exists_eq']
 case neg =>
 have q3':y < -1:=by omega
 cases hs:aF7 g y
 case false=>simp only [Zaf,Zag,Zah,Zam,Zan,Zao,Zaq,Zav,Zbc,Zbd,Zbe,Zbg,Zbl,Zbm,Zbn,Zbo,Zbp,Zbq,Zbr,Zbs,Zbt,Zbu,Zbv,Zcc,Zcf,Zck,Zct,Zcu,Zcw,Zcy,Zcz,Zda,Zdb,Zdc,Zdd,Zde,Q0,Z0,Q6,Q7,Z2,Z9,Zdo,Zdq,Zdv,Zdx,Zeb,Zed,Zee,Zef,Zet,decide_true,decide_false,Y4,Y5,Q5,Z1,Q1,Q2,if_true,Nat.reduceAdd,Nat.reduceSub,Nat.reduceLeDiff,Int.reduceNeg,eq_self,and_self,true_and,Q1,Q2,Z4,Z5,Q3,Q4,aA2,aA4,aA3,part,eI,aAq,aAm,Y0,Y3,aAn,Y1,Z3,Q8,Q9,Z6,Z8,Q3,Q4,Q0,i0,i1,q1,q2,q3,q3',t1,hs,aA6,aA5,aA7,Z7,Prod.mk.injEq,true_and,Y7,Y8,exists_eq']
 case true =>
 cases anyb
 case false => 
  simp only [cond_false] at e
  simp only [Zae,Zaf,Zag,Zah,Zai,Zaj,Zak,Zam,Zan,Zao,Zat,Zaw,Zax,Zbc,Zbd,Zbe,Zbg,Zbl,Zbm,Zbn,Zbo,Zbp,Zbq,Zbr,Zbs,Zbt,Zbu,Zbv,Zcc,Zcf,Zck,Zct,Zcu,Zcw,Zcy,Zcz,Zda,Zdb,Zdc,Zdd,Zde,Zdf,Zdg,Zdh,Q0,Z0,Q6,Q7,Z2,Z9,Zdo,Zdq,Zdv,Zdx,Zeb,Zed,Zee,Zef,Zet,decide_true,decide_false,Y4,Y5,Q5,Z1,Q1,Q2,if_true,Nat.reduceAdd,Nat.reduceSub,Nat.reduceLeDiff,Int.reduceNeg,eq_self,and_self,true_and,Q1,Q2,Z4,Z5,Q3,Q4,aA2,aA4,aA3,part,eI,aAq,aAm,Y0,Y3,aAn,Y1,Z3,Q8,Q9,Z6,Z8,Q3,Q4,Q0,i0,i1,q1,q2,q3,q3',t1,hs,e,aA6,aA5,aA7,Z7,Prod.mk.injEq,true_and,exists_eq']
 case true =>
  simp only [cond_true] at e
  simp only [Zae,Zaf,Zag,Zah,Zai,Zaj,Zak,Zan,Zao,Zaq,Zas,Zaw,Zax,Zbc,Zbd,Zbe,Zbg,Zbl,Zbm,Zbn,Zbo,Zbp,Zbq,Zbr,Zbs,Zbt,Zbu,Zbv,Zcc,Zcf,Zck,Zct,Zcu,Zcw,Zcy,Zcz,Zda,Zdb,Zdc,Zdd,Zde,Zdf,Zdg,Zdh,Q0,Z0,Q6,Q7,Z2,Z9,Zdo,Zdq,Zdv,Zdx,Zeb,Zed,Zee,Zef,Zet,decide_true,decide_false,Y4,Y5,Q5,Z1,Q1,Q2,if_true,Nat.reduceAdd,Nat.reduceSub,Nat.reduceLeDiff,Int.reduceNeg,eq_self,and_self,true_and,Q1,Q2,Z4,Z5,Q3,Q4,aA2,aA4,aA3,part,eI,aAq,aAm,Y0,Y3,aAn,Y1,Z3,Q8,Q9,Z6,Z8,Q3,Q4,Q0,i0,i1,q1,q2,q3,q3',t1,hs,e,aA6,aA5,aA7,Z7,Prod.mk.injEq,true_and,Y8,exists_eq']
theorem aN2 (g:GramD) (hg:g.Ok) (x:RuleD) (hx:x.Ok) (n:Nat) (h:aA0) (hb:h[0]?=some (.arr 0 5 true [aA8 g])) (hb1:h[1]?=some (.arr 0 5 true [aAt x])):∀ (d i m:Nat),x.right.length=i+d→d < m →
  aAj (aA1 (lim G0.cfg) n aDJ) m ⟨(J::J::.ptr 0 0 0 0::J::J::.ptr 1 0 0 0::.int .i64 i::J::J::J::J::J::J::J::J::J::J::J::J::J::J::J::J::J::J::J::J::J::J::J::J::J::J::J::J::J::J::J::J::J::J::J::J::J::J::J::J::J::J::J::J::J::J::J::J::J::J::J::J::J::J::J::J::J::J::J::J::J::J::J::J::J::J::J::J::J::J::J::J::J::J::J::J::J::J::J::J::J::J::J::J::J::J::J::J::J::J::J::[]),h⟩ =
   bif (x.right.drop i).any (aBh g) then some (.ret,⟨(J::J::J::J::.int .i64 21::J::J::J::J::J::J::J::J::J::J::J::J::J::J::J::J::J::J::J::J::J::J::J::J::J::J::J::J::J::J::J::J::J::J::J::J::J::J::J::J::J::J::J::J::J::J::J::J::J::J::J::J::J::J::J::J::J::J::J::J::J::J::J::J::J::J::J::J::J::J::J::J::J::J::J::J::J::J::J::J::J::J::J::J::J::J::J::J::J::J::J::J::J::[]),h⟩) else some (.exit 0,⟨(J::J::.ptr 0 0 0 0::J::J::.ptr 1 0 0 0::J::J::J::J::J::J::J::J::J::J::J::J::J::J::J::J::J::J::J::J::J::J::J::J::J::J::J::J::J::J::J::J::J::J::J::J::J::J::J::J::J::J::J::J::J::J::J::J::J::J::J::J::J::J::J::J::J::J::J::J::J::J::J::J::J::J::J::J::J::J::J::J::J::J::J::J::J::J::J::J::J::J::J::J::J::J::J::J::J::J::J::J::[]),h⟩):=by
 have hm:=hx.right
 rw [aAp] at hm
 have t1:=aS6 g hg
 intro d
 induction d with
 | zero =>
  intro i m h1 h2
  obtain ⟨m,rfl⟩:∃ q,m=q+1:=⟨m - 1,by omega⟩
  have e1:x.right.drop i=[]:=List.drop_eq_nil_iff.2 (by omega)
  have h3:¬ ((i:Int) < x.right.length):=by omega
  simp only [aAb,aCw,Zaf,Zag,Zah,Zak,Zal,Zan,Zao,Zap,Zaw,Zaz,Zbc,Zbm,Zbo,Zbs,Zbu,Zcc,Zck,Zcz,Zdb,Zdf,Zdg,Zdh,Q0,Z0,Q6,Q7,Z2,Zdl,Zdx,Zeb,Zed,Zet,decide_false,Q5,Q1,Q2,if_true,Nat.reduceAdd,Nat.reduceLeDiff,Int.reduceNeg,eq_self,cond_false,aA2,aA4,aA3,part,Z3,Q8,Q9,Z6,Q0,hb1,h3,e1,List.any_nil]
 | succ d ih =>
  intro i m h1 h2
  obtain ⟨m,rfl⟩:∃ q,m=q+1:=⟨m - 1,by omega⟩
  have h3:i < x.right.length:=by omega
  have h3':(i:Int) < x.right.length:=by omega
  have e1:x.right.drop i=x.right[i]::x.right.drop (i+1):=List.drop_eq_getElem_cons h3
  have hw:=aAV (n:=i) (by omega)
  rw [e1,List.any_cons]
  cases hs:aF7 g x.right[i]
  case false =>
   have hbad:aBh g x.right[i]=true:=by simp [aBh,hs]
   simp only [aAb,aCw,Zae,Zaf,Zag,Zah,Zai,Zak,Zam,Zan,Zao,Zaq,Zas,Zav,Zba,Zbc,Zbd,Zbh,Zbk,Zbm,Zbn,Zbo,Zbp,Zbs,Zbu,Zbv,Zcc,Zcf,Zck,Zct,Zcu,Zcz,Zda,Zdb,Zdd,Zde,Zdf,Zdg,Zdh,Q0,Z0,Q6,Q7,Z2,Zdl,Zdv,Zdx,Zeb,Zed,Zee,Zet,decide_true,Y5,Q5,Q1,Q2,if_true,Nat.reduceAdd,Nat.reduceLeDiff,Int.reduceNeg,eq_self,cond_true,aA2,aA4,aA3,part,eI,Z3,Q8,Q9,Z6,Z8,Q3,Q4,Q0,hb,hb1,h3',aCa _ _ x.right _ i h3,t1,hs,hbad,Y6]
  case true =>
  by_cases q0:x.right[i]=0
  case pos =>
   have hbad:aBh g x.right[i]=true:=by simp [aBh,q0]
   rw [hbad]
   rw [q0] at hs
   simp only [aAb,aCw,Zae,Zaf,Zag,Zah,Zai,Zak,Zam,Zan,Zao,Zaq,Zas,Zav,Zba,Zbc,Zbd,Zbg,Zbh,Zbk,Zbl,Zbm,Zbn,Zbo,Zbp,Zbs,Zbu,Zbv,Zcc,Zcf,Zck,Zct,Zcu,Zcz,Zda,Zdb,Zdd,Zde,Zdf,Zdg,Zdh,Q0,Z0,Q6,Q7,Z2,Zdl,Zdp,Zdv,Zdx,Zeb,Zed,Zee,Zet,decide_true,Y4,Q5,Q1,Q2,if_true,Nat.reduceAdd,Nat.reduceLeDiff,Int.reduceNeg,eq_self,cond_true,aA2,aA4,aA3,part,eI,Z3,Q8,Q9,Z6,Z8,Q3,Q4,Q0,hb,hb1,h3',aCa _ _ x.right _ i h3,t1,q0,hs,Y6]
  case neg =>
  by_cases q1:x.right[i]=1
  case pos =>
   have hbad:aBh g x.right[i]=true:=by simp [aBh,q1]
   rw [hbad]
   rw [q1] at hs
   simp only [aAb,aCw,Zae,Zaf,Zag,Zah,Zai,Zak,Zam,Zan,Zao,Zaq,Zas,Zav,Zba,Zbc,Zbd,Zbg,Zbh,Zbk,Zbl,Zbm,Zbn,Zbo,Zbp,Zbs,Zbu,Zbv,Zcc,Zcf,Zck,Zct,Zcu,Zcz,Zda,Zdb,Zdd,Zde,Zdf,Zdg,Zdh,Q0,Z0,Q6,Q7,Z2,Zdl,Zdp,Zdv,Zdx,Zeb,Zed,Zee,Zet,decide_true,decide_false,Y4,Q5,Q1,Q2,if_true,Nat.reduceAdd,Nat.reduceLeDiff,Int.reduceNeg,Int.reduceEq,eq_self,cond_true,aA2,aA4,aA3,part,eI,Z3,Q8,Q9,Z6,Z8,Q3,Q4,Q0,hb,hb1,h3',aCa _ _ x.right _ i h3,t1,q1,hs,Y6]
  case neg =>
  by_cases q2:x.right[i] = -1
  case pos =>
   have hbad:aBh g x.right[i]=true:=by simp [aBh,q2]
   rw [hbad]
   rw [q2] at hs
   simp only [aAb,aCw,Zae,Zaf,Zag,Zah,Zai,Zak,Zam,Zan,Zao,Zaq,Zas,Zav,Zba,Zbc,Zbd,Zbg,Zbl,Zbm,Zbn,Zbo,Zbp,Zbs,Zbu,Zbv,Zcc,Zcf,Zck,Zct,Zcu,Zcz,Zda,Zdb,Zdd,Zde,Zdf,Zdg,Zdh,Q0,Z0,Q6,Q7,Z2,Zdl,Zdp,Zdv,Zdx,Zeb,Zed,Zee,Zet,decide_true,decide_false,Y4,Q5,Q1,Q2,if_true,Nat.reduceAdd,Nat.reduceLeDiff,Int.reduceNeg,Int.reduceEq,eq_self,cond_true,aA2,aA4,aA3,part,eI,Z3,Q8,Q9,Z6,Z8,Q3,Q4,Q0,hb,hb1,h3',aCa _ _ x.right _ i h3,t1,q2,hs,Y6]
  case neg =>
   have hbad:aBh g x.right[i]=false:=by simp [aBh,hs];omega
   simp only [aAb,aCw,Zae,Zaf,Zag,Zah,Zai,Zak,Zan,Zao,Zar,Zav,Zaw,Zay,Zbc,Zbd,Zbg,Zbl,Zbm,Zbn,Zbo,Zbp,Zbs,Zbu,Zbv,Zcc,Zcf,Zck,Zct,Zcu,Zcz,Zda,Zdb,Zdd,Zde,Zdf,Zdg,Zdh,Q0,Z0,Q6,Q7,Z2,Zdi,Zdl,Zdp,Zdv,Zdx,Zeb,Zed,Zee,Zet,decide_true,decide_false,Y4,Q5,Q1,Q2,if_true,Nat.reduceAdd,Nat.reduceLeDiff,Int.reduceNeg,eq_self,aA2,aA4,aA3,part,eI,Z3,Q8,Q9,Z6,Z8,Q3,Q4,Q0,hb,hb1,h3',aCa _ _ x.right _ i h3,t1,hs,q0,q1,q2,hbad,hw,ih (i+1) m (by omega) (by omega),Bool.false_or]
def aBa (g:GramD):Nat→Int
 | 0=>0
 | i+1=>match g.rules[i]? with | some r=>r.left | none=>0
theorem aRR (g:GramD) (hg:g.Ok) (i:Nat) (hi:i < g.rules.length) (H:aA0):lim G0.cfg (.func 15) [.agg (aA8 g),.int .i64 i] H=some (.int .i64 (aB1 g g.rules[i] (aBa g i)),H):=by
 refine aAy rfl rfl aJC ((g.rules[i]).right.length+1) (fun h=>aDX (aAU g h) rfl) ?_ (fun _=>rfl) H
 have hm:=hg.rules
 rw [aAp] at hm
 obtain ⟨x,hx⟩:∃ x,x=g.rules[i]:=⟨_,rfl⟩
 have hxo:x.Ok:=by rw [hx];exact hg.rule _ (List.getElem_mem hi)
 have ii:=aBg aAt (sz:=5) (e:=false) (l:=g.rules) (k:=.i64) (j:=i) (hj:=hi) (hs:=rfl)
 rw [← hx] at ii ⊢
 have e:=aN2 g hg x hxo (x.right.length+1) [.arr 0 5 true [aA8 g],.arr 0 5 true [aAt x]] rfl rfl x.right.length 0 (x.right.length+1) (by omega) (by omega)
 rw [Z3,z0] at e
 rw [aOH]
 by_cases q1:x.left < 0
 case pos =>
  have hE:aB1 g x (aBa g i)=22:=if_pos (by omega)
  simp only [Zaf,Zag,Zah,Zam,Zan,Zao,Zaq,Zav,Zbc,Zbd,Zbe,Zbh,Zbj,Zbk,Zbm,Zbn,Zbo,Zbp,Zbq,Zbr,Zbs,Zbt,Zbu,Zcc,Zcf,Zcw,Zcy,Zcz,Zda,Zdb,Zdc,Q0,Z0,Q6,Q7,Z2,Z9,Zdl,Zeb,Zed,Zee,Zef,decide_true,Q5,Z1,Q1,Q2,if_true,Nat.reduceAdd,Nat.reduceSub,Nat.reduceLeDiff,eq_self,and_self,true_and,Q1,Q2,Z4,Z5,Q3,Q4,aA2,aA4,aA3,part,aAq,aAm,Y0,Y3,aAn,Y1,Z3,Q8,Q9,Z6,Z8,Q3,Q4,Q0,ii,hE,q1,aA6,aA5,aA7,Z7,Prod.mk.injEq,true_and,exists_eq']
 case neg =>
 by_cases q2:(g.nonterms.length:Int)≤x.left
 case pos =>
  have hE:aB1 g x (aBa g i)=22:=if_pos (by omega)
  simp only [Zaf,Zag,Zah,Zam,Zan,Zao,Zaq,Zav,Zbc,Zbd,Zbe,Zbg,Zbh,Zbj,Zbk,Zbl,Zbm,Zbn,Zbo,Zbp,Zbq,Zbr,Zbs,Zbt,Zbu,Zcc,Zcf,Zck,Zcw,Zcy,Zcz,Zda,Zdb,Zdc,Q0,Z0,Q6,Q7,Z2,Z9,Zdl,Zdo,Zdx,Zeb,Zed,Zee,Zef,Zeu,decide_true,decide_false,Q5,Z1,Q1,Q2,if_true,Nat.reduceAdd,Nat.reduceSub,Nat.reduceLeDiff,eq_self,and_self,true_and,Q1,Q2,Z4,Z5,Q3,Q4,aA2,aA4,aA3,part,aAq,aAm,Y0,Y3,aAn,Y1,Z3,Q8,Q9,Z6,Z8,Q3,Q4,Q0,ii,hE,q1,q2,aA6,aA5,aA7,Z7,Prod.mk.injEq,true_and,exists_eq']
 case neg =>
 -- the left side ahead
 have ha:(∃ i',i=i'+1∧∃ h':i' < g.rules.length,aBa g i=(g.rules[i']).left)∨(i=0∧aBa g i=0):=by
  cases i with
  | zero=>exact .inr ⟨rfl,rfl⟩
  | succ i'=>exact .inl ⟨i',rfl,by omega,by simp [aBa,show i' < g.rules.length by omega]⟩
 have fin4:¬ (x.left < aBa g i)→(∀ R:List (AOper),True)→∀ (P:Prop),((¬ (32:Int) < x.right.length→P)→((32:Int) < x.right.length→P)→P):=fun _ _ P a b=>by
  by_cases q:(32:Int) < x.right.length
  ·exact b q
  ·exact a q
 have hE5:¬ (x.left < aBa g i)→¬ ((32:Int) < x.right.length)→aB1 g x (aBa g i)=if x.right.any (aBh g)=true then 21
  else if (x.fields.length:Int)≠0∧(x.fields.length:Int)≠x.right.length then 25
  else if x.level < 0∨(g.levels.length:Int) < x.level then 24
  else 0:=fun h1 h2=>if_neg (by omega)
 generalize hah:aBa g i=ah at *
 rcases ha with ⟨i',hi',h',hai⟩ | ⟨hi0,hai⟩
 case inl =>
  have p1:(0:Int) < i:=by omega
  have hwi:IntKind.i64.wrap ((i:Int) - 1)=(i':Int):=by rw [w64 (by omega) (by omega)];omega
  have ii':=aBg aAt (sz:=5) (e:=false) (l:=g.rules) (k:=.i64) (j:=i') (hj:=h') (hs:=rfl)
  have hal:(g.rules[i']).left=ah:=hai.symm
  by_cases q3:x.left < ah
  case pos =>
   have hE:aB1 g x ah=22:=if_pos (by omega)
   simp only [Zaf,Zag,Zah,Zam,Zan,Zao,Zaq,Zav,Zbc,Zbd,Zbe,Zbf,Zbg,Zbh,Zbk,Zbl,Zbm,Zbn,Zbo,Zbp,Zbq,Zbr,Zbs,Zbt,Zbu,Zcc,Zcf,Zck,Zcw,Zcy,Zcz,Zda,Zdb,Zdc,Q0,Z0,Q6,Q7,Z2,Z9,Zdj,Zdl,Zdn,Zdo,Zdx,Zeb,Zec,Zed,Zee,Zef,Zeu,decide_true,decide_false,Q5,Z1,Q1,Q2,if_true,Nat.reduceAdd,Nat.reduceSub,Nat.reduceLeDiff,eq_self,and_self,true_and,Q1,Q2,Z4,Z5,Q3,Q4,aA2,aA4,aA3,part,aAq,aAm,Y0,Y3,aAn,Y1,Z3,Q8,Q9,Z6,Z8,Q3,Q4,Q0,ii,ii',hwi,p1,hal,hE,q1,q2,q3,aA6,aA5,aA7,Z7,Prod.mk.injEq,true_and,exists_eq']
  case neg =>
  by_cases q4:(32:Int) < x.right.length
  case pos =>
   have hE:aB1 g x ah=22:=if_pos (by omega)
   simp only [Zaf,Zag,Zah,Zam,Zan,Zao,Zaq,Zav,Zbc,Zbd,Zbe,Zbf,Zbg,Zbk,Zbl,Zbm,Zbn,Zbo,Zbp,Zbq,Zbr,Zbs,Zbt,Zbu,Zcc,Zcf,Zck,Zcw,Zcy,Zcz,Zda,Zdb,Zdc,Q0,Z0,Q6,Q7,Z2,Z9,Zdj,Zdl,Zdn,Zdo,Zdx,Zeb,Zec,Zed,Zee,Zef,Zet,Zeu,decide_true,decide_false,Q5,Z1,Q1,Q2,if_true,Nat.reduceAdd,Nat.reduceSub,Nat.reduceLeDiff,eq_self,and_self,true_and,Q1,Q2,Z4,Z5,Q3,Q4,aA2,aA4,aA3,part,aAq,aAm,Y0,Y3,aAn,Y1,Z3,Q8,Q9,Z6,Z8,Q3,Q4,Q0,ii,ii',hwi,p1,hal,hE,q1,q2,q3,q4,aA6,aA5,aA7,Z7,Prod.mk.injEq,true_and,exists_eq']
  case neg =>
  rw [hE5 q3 q4]
  cases q5:x.right.any (aBh g)
  case true =>
   rw [q5] at e
   simp only [cond_true] at e
   simp only [Zae,Zaf,Zag,Zah,Zai,Zaj,Zak,Zan,Zao,Zaq,Zas,Zaw,Zax,Zbc,Zbd,Zbe,Zbf,Zbg,Zbk,Zbl,Zbm,Zbn,Zbo,Zbp,Zbq,Zbr,Zbs,Zbt,Zbu,Zcc,Zcf,Zck,Zcw,Zcy,Zcz,Zda,Zdb,Zdc,Zdf,Zdg,Zdh,Q0,Z0,Q6,Q7,Z2,Z9,Zdj,Zdl,Zdn,Zdo,Zdx,Zeb,Zec,Zed,Zee,Zef,Zet,Zeu,decide_true,decide_false,Q5,Z1,Q1,Q2,if_true,Nat.reduceAdd,Nat.reduceSub,Nat.reduceLeDiff,eq_self,and_self,true_and,Q1,Q2,Z4,Z5,Q3,Q4,aA2,aA4,aA3,part,aAq,aAm,Y0,Y3,aAn,Y1,Z3,Q8,Q9,Z6,Z8,Q3,Q4,Q0,ii,ii',hwi,p1,hal,q1,q2,q3,q4,e,aA6,aA5,aA7,Z7,Prod.mk.injEq,true_and,exists_eq']
  case false =>
  rw [q5] at e
  simp only [cond_false] at e
  simp only [Bool.false_eq_true,if_false]
  by_cases q6:(x.fields.length:Int)=0
  case pos =>
   rw [if_neg (by omega)]
   by_cases q8:x.level < 0
   case pos =>
    rw [if_pos (.inl q8)]
    simp only [Zae,Zaf,Zag,Zah,Zai,Zaj,Zak,Zam,Zan,Zao,Zaq,Zat,Zav,Zaw,Zax,Zbc,Zbd,Zbe,Zbf,Zbg,Zbh,Zbi,Zbk,Zbl,Zbm,Zbn,Zbo,Zbp,Zbq,Zbr,Zbs,Zbt,Zbu,Zcc,Zcf,Zck,Zcw,Zcy,Zcz,Zda,Zdb,Zdc,Zdf,Zdg,Zdh,Q0,Z0,Q6,Q7,Z2,Z9,Zdj,Zdl,Zdn,Zdo,Zdq,Zdx,Zeb,Zec,Zed,Zee,Zef,Zet,Zeu,decide_true,decide_false,Y4,Q5,Z1,Q1,Q2,if_true,Nat.reduceAdd,Nat.reduceSub,Nat.reduceLeDiff,eq_self,and_self,true_and,Q1,Q2,Z4,Z5,Q3,Q4,aA2,aA4,aA3,part,aAq,aAm,Y0,Y3,aAn,Y1,Z3,Q8,Q9,Z6,Z8,Q3,Q4,Q0,ii,ii',hwi,p1,hal,q1,q2,q3,q4,e,q6,q8,aA6,aA5,aA7,Z7,Prod.mk.injEq,true_and,exists_eq']
   case neg =>
   by_cases q9:(g.levels.length:Int) < x.level
   case pos =>
    rw [if_pos (.inr q9)]
    simp only [Zae,Zaf,Zag,Zah,Zai,Zaj,Zak,Zam,Zan,Zao,Zaq,Zat,Zav,Zaw,Zax,Zbc,Zbd,Zbe,Zbf,Zbg,Zbi,Zbk,Zbl,Zbm,Zbn,Zbo,Zbp,Zbq,Zbr,Zbs,Zbt,Zbu,Zcc,Zcf,Zck,Zcw,Zcy,Zcz,Zda,Zdb,Zdc,Zdf,Zdg,Zdh,Q0,Z0,Q6,Q7,Z2,Z9,Zdj,Zdl,Zdn,Zdo,Zdq,Zdx,Zeb,Zec,Zed,Zee,Zef,Zet,Zeu,decide_true,decide_false,Y4,Q5,Z1,Q1,Q2,if_true,Nat.reduceAdd,Nat.reduceSub,Nat.reduceLeDiff,eq_self,and_self,true_and,Y2,Q1,Q2,Z4,Z5,Q3,Q4,aA2,aA4,aA3,part,aAq,aAm,Y0,Y3,aAn,Y1,Z3,Q8,Q9,Z6,Z8,Q3,Q4,Q0,Y2,ii,ii',hwi,p1,hal,q1,q2,q3,q4,e,q6,q8,q9,aA6,aA5,aA7,Z7,Prod.mk.injEq,true_and,exists_eq']
   case neg =>
    rw [if_neg (by omega)]
    simp only [Zae,Zaf,Zag,Zah,Zai,Zaj,Zak,Zam,Zan,Zao,Zat,Zaw,Zax,Zbc,Zbd,Zbe,Zbf,Zbg,Zbi,Zbk,Zbl,Zbm,Zbn,Zbo,Zbp,Zbq,Zbr,Zbs,Zbt,Zbu,Zcc,Zcf,Zck,Zcw,Zcy,Zcz,Zda,Zdb,Zdc,Zdf,Zdg,Zdh,Q0,Z0,Q6,Q7,Z2,Z9,Zdj,Zdl,Zdn,Zdo,Zdq,Zdx,Zeb,Zec,Zed,Zee,Zef,Zet,Zeu,decide_true,decide_false,Y4,Q5,Z1,Q1,Q2,if_true,Nat.reduceAdd,Nat.reduceSub,Nat.reduceLeDiff,eq_self,and_self,true_and,Y2,Q1,Q2,Z4,Z5,Q3,Q4,aA2,aA4,aA3,part,aAq,aAm,Y0,Y3,aAn,Y1,Z3,Q8,Q9,Z6,Z8,Q3,Q4,Q0,Y2,ii,ii',hwi,p1,hal,q1,q2,q3,q4,e,q6,q8,q9,aA6,aA5,aA7,Z7,Prod.mk.injEq,true_and,exists_eq']
  case neg =>
  by_cases q7:(x.fields.length:Int)=x.right.length
  case neg =>
   rw [if_pos ⟨q6,q7⟩]
   simp only [Zae,Zaf,Zag,Zah,Zai,Zaj,Zak,Zam,Zan,Zao,Zaq,Zat,Zav,Zaw,Zax,Zbc,Zbd,Zbe,Zbf,Zbg,Zbk,Zbl,Zbm,Zbn,Zbo,Zbp,Zbq,Zbr,Zbs,Zbt,Zbu,Zcc,Zcf,Zck,Zcw,Zcy,Zcz,Zda,Zdb,Zdc,Zdf,Zdg,Zdh,Q0,Z0,Q6,Q7,Z2,Z9,Zdj,Zdl,Zdn,Zdo,Zdq,Zdx,Zeb,Zec,Zed,Zee,Zef,Zet,Zeu,decide_true,decide_false,Y5,Q5,Z1,Q1,Q2,if_true,Nat.reduceAdd,Nat.reduceSub,Nat.reduceLeDiff,eq_self,and_self,true_and,Q1,Q2,Z4,Z5,Q3,Q4,aA2,aA4,aA3,part,aAq,aAm,Y0,Y3,aAn,Y1,Z3,Q8,Q9,Z6,Z8,Q3,Q4,Q0,ii,ii',hwi,p1,hal,q1,q2,q3,q4,e,q6,q7,aA6,aA5,aA7,Z7,Prod.mk.injEq,true_and,exists_eq']
  case pos =>
   have q6':¬ (x.right.length:Int)=0:=by omega
   rw [if_neg (by omega)]
   by_cases q8:x.level < 0
   case pos =>
    rw [if_pos (.inl q8)]
    simp only [Zae,Zaf,Zag,Zah,Zai,Zaj,Zak,Zam,Zan,Zao,Zaq,Zat,Zav,Zaw,Zax,Zbc,Zbd,Zbe,Zbf,Zbg,Zbh,Zbk,Zbl,Zbm,Zbn,Zbo,Zbp,Zbq,Zbr,Zbs,Zbt,Zbu,Zcc,Zcf,Zck,Zcw,Zcy,Zcz,Zda,Zdb,Zdc,Zdf,Zdg,Zdh,Q0,Z0,Q6,Q7,Z2,Z9,Zdj,Zdl,Zdn,Zdo,Zdq,Zdx,Zeb,Zec,Zed,Zee,Zef,Zet,Zeu,decide_true,decide_false,Y4,Y5,Q5,Z1,Q1,Q2,if_true,Nat.reduceAdd,Nat.reduceSub,Nat.reduceLeDiff,eq_self,and_self,true_and,Q1,Q2,Z4,Z5,Q3,Q4,aA2,aA4,aA3,part,aAq,aAm,Y0,Y3,aAn,Y1,Z3,Q8,Q9,Z6,Z8,Q3,Q4,Q0,ii,ii',hwi,p1,hal,q1,q2,q3,q4,e,q6',q7,q8,aA6,aA5,aA7,Z7,Prod.mk.injEq,true_and,exists_eq']
   case neg =>
   by_cases q9:(g.levels.length:Int) < x.level
   case pos =>
    rw [if_pos (.inr q9)]
    simp only [Zae,Zaf,Zag,Zah,Zai,Zaj,Zak,Zam,Zan,Zao,Zaq,Zat,Zav,Zaw,Zax,Zbc,Zbd,Zbe,Zbf,Zbg,Zbk,Zbl,Zbm,Zbn,Zbo,Zbp,Zbq,Zbr,Zbs,Zbt,Zbu,Zcc,Zcf,Zck,Zcw,Zcy,Zcz,Zda,Zdb,Zdc,Zdf,Zdg,Zdh,Q0,Z0,Q6,Q7,Z2,Z9,Zdj,Zdl,Zdn,Zdo,Zdq,Zdx,Zeb,Zec,Zed,Zee,Zef,Zet,Zeu,decide_true,decide_false,Y4,Y5,Q5,Z1,Q1,Q2,if_true,Nat.reduceAdd,Nat.reduceSub,Nat.reduceLeDiff,eq_self,and_self,true_and,Y2,Q1,Q2,Z4,Z5,Q3,Q4,aA2,aA4,aA3,part,aAq,aAm,Y0,Y3,aAn,Y1,Z3,Q8,Q9,Z6,Z8,Q3,Q4,Q0,Y2,ii,ii',hwi,p1,hal,q1,q2,q3,q4,e,q6',q7,q8,q9,aA6,aA5,aA7,Z7,Prod.mk.injEq,true_and,exists_eq']
   case neg =>
    rw [if_neg (by omega)]
    simp only [Zae,Zaf,Zag,Zah,Zai,Zaj,Zak,Zam,Zan,Zao,Zat,Zaw,Zax,Zbc,Zbd,Zbe,Zbf,Zbg,Zbk,Zbl,Zbm,Zbn,Zbo,Zbp,Zbq,Zbr,Zbs,Zbt,Zbu,Zcc,Zcf,Zck,Zcw,Zcy,Zcz,Zda,Zdb,Zdc,Zdf,Zdg,Zdh,Q0,Z0,Q6,Q7,Z2,Z9,Zdj,Zdl,Zdn,Zdo,Zdq,Zdx,Zeb,Zec,Zed,Zee,Zef,Zet,Zeu,decide_true,decide_false,Y4,Y5,Q5,Z1,Q1,Q2,if_true,Nat.reduceAdd,Nat.reduceSub,Nat.reduceLeDiff,eq_self,and_self,true_and,Y2,Q1,Q2,Z4,Z5,Q3,Q4,aA2,aA4,aA3,part,aAq,aAm,Y0,Y3,aAn,Y1,Z3,Q8,Q9,Z6,Z8,Q3,Q4,Q0,Y2,ii,ii',hwi,p1,hal,q1,q2,q3,q4,e,q6',q7,q8,q9,aA6,aA5,aA7,Z7,Prod.mk.injEq,true_and,exists_eq']
 case inr =>
  have p1:¬ ((0:Int) < i):=by omega
  have q3:¬ (x.left < ah):=by omega
  by_cases q4:(32:Int) < x.right.length
  case pos =>
   have hE:aB1 g x ah=22:=if_pos (by omega)
   simp only [Zaf,Zag,Zah,Zam,Zan,Zao,Zaq,Zav,Zbc,Zbd,Zbe,Zbg,Zbi,Zbl,Zbm,Zbn,Zbo,Zbp,Zbq,Zbr,Zbs,Zbt,Zbu,Zcc,Zcf,Zck,Zcw,Zcy,Zcz,Zda,Zdb,Zdc,Q0,Z0,Q6,Q7,Z2,Z9,Zdl,Zdn,Zdo,Zdx,Zeb,Zed,Zee,Zef,Zet,Zeu,decide_true,decide_false,Q5,Z1,Q1,Q2,if_true,Nat.reduceAdd,Nat.reduceSub,Nat.reduceLeDiff,eq_self,and_self,true_and,Q1,Q2,Z4,Z5,Q3,Q4,aA2,aA4,aA3,part,aAq,aAm,Y0,Y3,aAn,Y1,Z3,Q8,Q9,Z6,Z8,Q3,Q4,Q0,ii,p1,hE,q1,q2,q4,aA6,aA5,aA7,Z7,Prod.mk.injEq,true_and,exists_eq']
  case neg =>
  rw [hE5 q3 q4]
  cases q5:x.right.any (aBh g)
  case true =>
   rw [q5] at e
   simp only [cond_true] at e
   simp only [Zae,Zaf,Zag,Zah,Zai,Zaj,Zak,Zan,Zao,Zaq,Zas,Zaw,Zax,Zbc,Zbd,Zbe,Zbg,Zbi,Zbl,Zbm,Zbn,Zbo,Zbp,Zbq,Zbr,Zbs,Zbt,Zbu,Zcc,Zcf,Zck,Zcw,Zcy,Zcz,Zda,Zdb,Zdc,Zdf,Zdg,Zdh,Q0,Z0,Q6,Q7,Z2,Z9,Zdl,Zdn,Zdo,Zdx,Zeb,Zed,Zee,Zef,Zet,Zeu,decide_false,Q5,Z1,Q1,Q2,if_true,Nat.reduceAdd,Nat.reduceSub,Nat.reduceLeDiff,eq_self,and_self,true_and,Q1,Q2,Z4,Z5,Q3,Q4,aA2,aA4,aA3,part,aAq,aAm,Y0,Y3,aAn,Y1,Z3,Q8,Q9,Z6,Z8,Q3,Q4,Q0,ii,p1,q1,q2,q4,e,aA6,aA5,aA7,Z7,Prod.mk.injEq,true_and,exists_eq']
  case false =>
  rw [q5] at e
  simp only [cond_false] at e
  simp only [Bool.false_eq_true,if_false]
  by_cases q6:(x.fields.length:Int)=0
  case pos =>
   rw [if_neg (by omega)]
   by_cases q8:x.level < 0
   case pos =>
    rw [if_pos (.inl q8)]
    simp only [Zae,Zaf,Zag,Zah,Zai,Zaj,Zak,Zam,Zan,Zao,Zaq,Zat,Zav,Zaw,Zax,Zbc,Zbd,Zbe,Zbg,Zbh,Zbi,Zbk,Zbl,Zbm,Zbn,Zbo,Zbp,Zbq,Zbr,Zbs,Zbt,Zbu,Zcc,Zcf,Zck,Zcw,Zcy,Zcz,Zda,Zdb,Zdc,Zdf,Zdg,Zdh,Q0,Z0,Q6,Q7,Z2,Z9,Zdl,Zdn,Zdo,Zdq,Zdx,Zeb,Zed,Zee,Zef,Zet,Zeu,decide_true,decide_false,Y4,Q5,Z1,Q1,Q2,if_true,Nat.reduceAdd,Nat.reduceSub,Nat.reduceLeDiff,eq_self,and_self,true_and,Q1,Q2,Z4,Z5,Q3,Q4,aA2,aA4,aA3,part,aAq,aAm,Y0,Y3,aAn,Y1,Z3,Q8,Q9,Z6,Z8,Q3,Q4,Q0,ii,p1,q1,q2,q4,e,q6,q8,aA6,aA5,aA7,Z7,Prod.mk.injEq,true_and,exists_eq']
   case neg =>
   by_cases q9:(g.levels.length:Int) < x.level
   case pos =>
    rw [if_pos (.inr q9)]
    simp only [Zae,Zaf,Zag,Zah,Zai,Zaj,Zak,Zam,Zan,Zao,Zaq,Zat,Zav,Zaw,Zax,Zbc,Zbd,Zbe,Zbg,Zbi,Zbl,Zbm,Zbn,Zbo,Zbp,Zbq,Zbr,Zbs,Zbt,Zbu,Zcc,Zcf,Zck,Zcw,Zcy,Zcz,Zda,Zdb,Zdc,Zdf,Zdg,Zdh,Q0,Z0,Q6,Q7,Z2,Z9,Zdl,Zdn,Zdo,Zdq,Zdx,Zeb,Zed,Zee,Zef,Zet,Zeu,decide_true,decide_false,Y4,Q5,Z1,Q1,Q2,if_true,Nat.reduceAdd,Nat.reduceSub,Nat.reduceLeDiff,eq_self,and_self,true_and,Y2,Q1,Q2,Z4,Z5,Q3,Q4,aA2,aA4,aA3,part,aAq,aAm,Y0,Y3,aAn,Y1,Z3,Q8,Q9,Z6,Z8,Q3,Q4,Q0,Y2,ii,p1,q1,q2,q4,e,q6,q8,q9,aA6,aA5,aA7,Z7,Prod.mk.injEq,true_and,exists_eq']
   case neg =>
    rw [if_neg (by omega)]
    simp only [Zae,Zaf,Zag,Zah,Zai,Zaj,Zak,Zam,Zan,Zao,Zat,Zaw,Zax,Zbc,Zbd,Zbe,Zbg,Zbi,Zbl,Zbm,Zbn,Zbo,Zbp,Zbq,Zbr,Zbs,Zbt,Zbu,Zcc,Zcf,Zck,Zcw,Zcy,Zcz,Zda,Zdb,Zdc,Zdf,Zdg,Zdh,Q0,Z0,Q6,Q7,Z2,Z9,Zdl,Zdn,Zdo,Zdq,Zdx,Zeb,Zed,Zee,Zef,Zet,Zeu,decide_true,decide_false,Y4,Q5,Z1,Q1,Q2,if_true,Nat.reduceAdd,Nat.reduceSub,Nat.reduceLeDiff,eq_self,and_self,true_and,Y2,Q1,Q2,Z4,Z5,Q3,Q4,aA2,aA4,aA3,part,aAq,aAm,Y0,Y3,aAn,Y1,Z3,Q8,Q9,Z6,Z8,Q3,Q4,Q0,Y2,ii,p1,q1,q2,q4,e,q6,q8,q9,aA6,aA5,aA7,Z7,Prod.mk.injEq,true_and,exists_eq']
  case neg =>
  by_cases q7:(x.fields.length:Int)=x.right.length
  case neg =>
   rw [if_pos ⟨q6,q7⟩]
   simp only [Zae,Zaf,Zag,Zah,Zai,Zaj,Zak,Zam,Zan,Zao,Zaq,Zat,Zav,Zaw,Zax,Zbc,Zbd,Zbe,Zbf,Zbg,Zbi,Zbk,Zbl,Zbm,Zbn,Zbo,Zbp,Zbq,Zbr,Zbs,Zbt,Zbu,Zcc,Zcf,Zck,Zcw,Zcy,Zcz,Zda,Zdb,Zdc,Zdf,Zdg,Zdh,Q0,Z0,Q6,Q7,Z2,Z9,Zdl,Zdn,Zdo,Zdq,Zdx,Zeb,Zed,Zee,Zef,Zet,Zeu,decide_false,Y5,Q5,Z1,Q1,Q2,if_true,Nat.reduceAdd,Nat.reduceSub,Nat.reduceLeDiff,eq_self,and_self,true_and,Q1,Q2,Z4,Z5,Q3,Q4,aA2,aA4,aA3,part,aAq,aAm,Y0,Y3,aAn,Y1,Z3,Q8,Q9,Z6,Z8,Q3,Q4,Q0,ii,p1,q1,q2,q4,e,q6,q7,aA6,aA5,aA7,Z7,Prod.mk.injEq,true_and,exists_eq']
  case pos =>
   have q6':¬ (x.right.length:Int)=0:=by omega
   rw [if_neg (by omega)]
   by_cases q8:x.level < 0
   case pos =>
    rw [if_pos (.inl q8)]
    simp only [Zae,Zaf,Zag,Zah,Zai,Zaj,Zak,Zam,Zan,Zao,Zaq,Zat,Zav,Zaw,Zax,Zbc,Zbd,Zbe,Zbf,Zbg,Zbh,Zbi,Zbk,Zbl,Zbm,Zbn,Zbo,Zbp,Zbq,Zbr,Zbs,Zbt,Zbu,Zcc,Zcf,Zck,Zcw,Zcy,Zcz,Zda,Zdb,Zdc,Zdf,Zdg,Zdh,Q0,Z0,Q6,Q7,Z2,Z9,Zdl,Zdn,Zdo,Zdq,Zdx,Zeb,Zed,Zee,Zef,Zet,Zeu,decide_true,decide_false,Y4,Y5,Q5,Z1,Q1,Q2,if_true,Nat.reduceAdd,Nat.reduceSub,Nat.reduceLeDiff,eq_self,and_self,true_and,Q1,Q2,Z4,Z5,Q3,Q4,aA2,aA4,aA3,part,aAq,aAm,Y0,Y3,aAn,Y1,Z3,Q8,Q9,Z6,Z8,Q3,Q4,Q0,ii,p1,q1,q2,q4,e,q6',q7,q8,aA6,aA5,aA7,Z7,Prod.mk.injEq,true_and,exists_eq']
   case neg =>
   by_cases q9:(g.levels.length:Int) < x.level
   case pos =>
    rw [if_pos (.inr q9)]
    simp only [Zae,Zaf,Zag,Zah,Zai,Zaj,Zak,Zam,Zan,Zao,Zaq,Zat,Zav,Zaw,Zax,Zbc,Zbd,Zbe,Zbf,Zbg,Zbi,Zbk,Zbl,Zbm,Zbn,Zbo,Zbp,Zbq,Zbr,Zbs,Zbt,Zbu,Zcc,Zcf,Zck,Zcw,Zcy,Zcz,Zda,Zdb,Zdc,Zdf,Zdg,Zdh,Q0,Z0,Q6,Q7,Z2,Z9,Zdl,Zdn,Zdo,Zdq,Zdx,Zeb,Zed,Zee,Zef,Zet,Zeu,decide_true,decide_false,Y4,Y5,Q5,Z1,Q1,Q2,if_true,Nat.reduceAdd,Nat.reduceSub,Nat.reduceLeDiff,eq_self,and_self,true_and,Y2,Q1,Q2,Z4,Z5,Q3,Q4,aA2,aA4,aA3,part,aAq,aAm,Y0,Y3,aAn,Y1,Z3,Q8,Q9,Z6,Z8,Q3,Q4,Q0,Y2,ii,p1,q1,q2,q4,e,q6',q7,q8,q9,aA6,aA5,aA7,Z7,Prod.mk.injEq,true_and,exists_eq']
   case neg =>
    rw [if_neg (by omega)]
    simp only [Zae,Zaf,Zag,Zah,Zai,Zaj,Zak,Zam,Zan,Zao,Zat,Zaw,Zax,Zbc,Zbd,Zbe,Zbf,Zbg,Zbi,Zbk,Zbl,Zbm,Zbn,Zbo,Zbp,Zbq,Zbr,Zbs,Zbt,Zbu,Zcc,Zcf,Zck,Zcw,Zcy,Zcz,Zda,Zdb,Zdc,Zdf,Zdg,Zdh,Q0,Z0,Q6,Q7,Z2,Z9,Zdl,Zdn,Zdo,Zdq,Zdx,Zeb,Zed,Zee,Zef,Zet,Zeu,decide_true,decide_false,Y4,Y5,Q5,Z1,Q1,Q2,if_true,Nat.reduceAdd,Nat.reduceSub,Nat.reduceLeDiff,eq_self,and_self,true_and,Y2,Q1,Q2,Z4,Z5,Q3,Q4,aA2,aA4,aA3,part,aAq,aAm,Y0,Y3,aAn,Y1,Z3,Q8,Q9,Z6,Z8,Q3,Q4,Q0,Y2,ii,p1,q1,q2,q4,e,q6',q7,q8,q9,aA6,aA5,aA7,Z7,Prod.mk.injEq,true_and,exists_eq']
end Go.Proofs.Yteenffomgdfocaa.Ai
namespace Go.Proofs.Yteenffomgdfocaa.Ai
open Go Go.Proofs
open AV renaming junk → J
open List renaming set_cons_zero → Q0, getElem?_cons_zero → Q1, length_cons → Q2, length_nil → Q3, getD_cons_zero → Q4, getD_cons_succ → Q5, take_succ_cons → Q6, cons_append → Q7, set_cons_succ → Q8, nil_append → Q9, drop_zero → Z1, drop_succ_cons → Z2, take_zero → Z3, take_nil → Z4, length_map → Z5, replicate_succ → Z6, replicate_zero → Z7, drop_eq_getElem_cons → Y2, all_cons → Y4, drop_eq_nil_iff → Y6, all_nil → Y7
open Option renaming bind_some → Z0, map_some → Z9
open Option.some renaming injEq → Z8
open Bool renaming true_eq_false → Y0, not_true → Y1, false_eq_true → Y3, and_self → Y5, not_false → Y8
set_option linter.unusedVariables false
set_option linter.unusedSimpArgs false
set_option maxRecDepth 10000
set_option maxHeartbeats 4000000
theorem aST {h:aA0} {sz i v o n:Nat} {c:Option Nat} {k:IntKind} {j:Nat} {x:Bool} {l:List (List AV)} (hg:h[i]?=some (.arr v sz x l)) (hj:j < n):aAs h sz (.hsl i v o n c) (.int k j)=some (.ptr i v (o+j) 0):=by
 simp [aAs,aA3,hg,hj]
def aDW (T:Nat) (seen:List Int):List (List AV):=(List.range T).map fun (t:Nat)=>[.bool (decide ((t:Int) ∈ seen))]
theorem aQ2 {T:Nat} {seen:List Int} {t:Nat} (h:t < T):(aDW T seen)[0+t]?=some [.bool (decide ((t:Int) ∈ seen))]:=by
 simp [aDW,h]
theorem aQ0 {T:Nat} {seen:List Int} {t:Nat} (h:t < T):(aDW T seen).set (0+t) [.bool true]=aDW T ((t:Int)::seen):=by
 apply List.ext_getElem?
 intro j
 rw [Nat.zero_add,List.getElem?_set]
 by_cases e:t=j
 ·subst e
  simp [aDW,h]
 ·by_cases hj:j < T
  ·have:¬ (j:Int)=t:=by omega
   simp [aDW,e,hj,this]
  ·simp [aDW,e,hj]
theorem aQ1 (T:Nat):List.replicate T [AV.bool false]=aDW T []:=by
 apply List.ext_getElem?
 intro j
 by_cases hj:j < T <;> simp [aDW,hj]
theorem aKa (g:GramD) (hg:g.Ok) (n:Nat) (x:LevelD) (hx:x.terms.length≤maxLen) (i4:Nat) (i5:Nat) (hi5:i5≠0∧i5≠1):∀ (d i m:Nat) (seen:List Int) (h:aA0),x.terms.length=i+d→d < m →
  h[0]?=some (.arr 0 5 true [aA8 g])→h[1]?=some (.arr 0 1 true (aDW g.terms.length seen))→h[i5]?=some (.arr 0 2 true [aBm x]) →
  match aEp g.terms.length (x.terms.drop i) seen with
  | some s'=>∃ h',h'[0]?=some (.arr 0 5 true [aA8 g])∧h'[1]?=some (.arr 0 1 true (aDW g.terms.length s')) ∧
   aAj (aA1 (lim G0.cfg) n aBn) m ⟨(J::.ptr 0 0 0 0::J::.hsl 1 0 0 g.terms.length none::.int .i64 i4::.ptr i5 0 0 0::.int .i64 i::J::J::J::J::J::J::J::J::J::J::J::J::J::J::J::J::J::J::J::J::J::J::J::J::J::J::J::J::J::J::J::J::J::J::J::J::J::J::J::J::J::J::J::J::J::J::J::J::J::J::J::J::J::J::J::[]),h⟩=some (.exit 2,⟨(J::.ptr 0 0 0 0::J::.hsl 1 0 0 g.terms.length none::.int .i64 i4::J::J::J::J::J::J::J::J::J::J::J::J::J::J::J::J::J::J::J::J::J::J::J::J::J::J::J::J::J::J::J::J::J::J::J::J::J::J::J::J::J::J::J::J::J::J::J::J::J::J::J::J::J::J::J::J::J::[]),h'⟩)
  | none=>∃ h',aAj (aA1 (lim G0.cfg) n aBn) m ⟨(J::.ptr 0 0 0 0::J::.hsl 1 0 0 g.terms.length none::.int .i64 i4::.ptr i5 0 0 0::.int .i64 i::J::J::J::J::J::J::J::J::J::J::J::J::J::J::J::J::J::J::J::J::J::J::J::J::J::J::J::J::J::J::J::J::J::J::J::J::J::J::J::J::J::J::J::J::J::J::J::J::J::J::J::J::J::J::J::[]),h⟩=some (.ret,⟨(J::J::.bool false::J::J::J::J::J::J::J::J::J::J::J::J::J::J::J::J::J::J::J::J::J::J::J::J::J::J::J::J::J::J::J::J::J::J::J::J::J::J::J::J::J::J::J::J::J::J::J::J::J::J::J::J::J::J::J::J::J::J::J::[]),h'⟩):=by
 rw [aAp] at hx
 intro d
 induction d with
 | zero =>
  intro i m seen h h1 h2 hb hr hl
  obtain ⟨m,rfl⟩:∃ q,m=q+1:=⟨m - 1,by omega⟩
  have e1:x.terms.drop i=[]:=Y6.2 (by omega)
  have h3:¬ ((i:Int) < x.terms.length):=by omega
  rw [e1]
  exact ⟨h,hb,hr,by simp only [aAb,aCE,Zaf,Zag,Zah,Zak,Zal,Zan,Zao,Zap,Zaw,Zaz,Zbc,Zbm,Zbo,Zbs,Zbu,Zcc,Zck,Zcz,Zdb,Zdf,Zdg,Zdh,Q0,Q8,Q4,Q5,Z0,Zdl,Zdx,Zeb,Zed,Zet,decide_false,Q1,Q2,Q3,if_true,Nat.reduceAdd,Nat.reduceLeDiff,eq_self,aA2,aA4,aA3,part,Z1,Z2,Q6,Z4,Q0,hl,h3]⟩
 | succ d ih =>
  intro i m seen h h1 h2 hb hr hl
  obtain ⟨m,rfl⟩:∃ q,m=q+1:=⟨m - 1,by omega⟩
  have h3:i < x.terms.length:=by omega
  have h3':(i:Int) < x.terms.length:=by omega
  have e1:x.terms.drop i=x.terms[i]::x.terms.drop (i+1):=Y2 h3
  have hw:=aAV (n:=i) (by omega)
  have ii:=fun h=>aCa h false x.terms .i64 i h3
  rw [e1]
  simp only [aEp]
  generalize x.terms[i]=t at *
  by_cases q1:t < 2
  case pos =>
   rw [if_pos (.inl q1)]
   exact ⟨h,by simp only [aAb,aCE,Zae,Zaf,Zag,Zah,Zai,Zak,Zam,Zan,Zao,Zaq,Zas,Zav,Zba,Zbc,Zbh,Zbk,Zbm,Zbn,Zbo,Zbp,Zbs,Zbu,Zcc,Zcf,Zck,Zcz,Zda,Zdb,Zdf,Zdg,Zdh,Q0,Q8,Q4,Q5,Z0,Zdl,Zdx,Zeb,Zed,Zet,decide_true,Q1,Q2,Q3,if_true,Nat.reduceAdd,Nat.reduceLeDiff,eq_self,aA2,aA4,aA3,part,eI,Z1,Z2,Q6,Z4,Q0,hl,h3',ii,q1]⟩
  case neg =>
  by_cases q2:(g.terms.length:Int)≤t
  case pos =>
   rw [if_pos (.inr (.inl q2))]
   exact ⟨h,by simp only [aAb,aCE,Zae,Zaf,Zag,Zah,Zai,Zak,Zam,Zan,Zao,Zaq,Zas,Zav,Zba,Zbc,Zbg,Zbh,Zbk,Zbl,Zbm,Zbn,Zbo,Zbp,Zbs,Zbu,Zcc,Zcf,Zck,Zcz,Zda,Zdb,Zdf,Zdg,Zdh,Q0,Q8,Q4,Q5,Z0,Zdl,Zdo,Zdx,Zeb,Zed,Zet,Zeu,decide_true,decide_false,Q1,Q2,Q3,if_true,Nat.reduceAdd,Nat.reduceLeDiff,eq_self,aA2,aA4,aA3,part,eI,Z1,Z2,Q6,Z3,Z4,Q0,hb,hl,h3',ii,q1,q2]⟩
  case neg =>
  obtain ⟨k,rfl⟩:∃ k:Nat,t=k:=⟨t.toNat,by omega⟩
  have hk:k < g.terms.length:=by omega
  have ir:=aST (c:=none) (k:=.i64) (o:=0) hr hk
  have rg:=aQ2 (seen:=seen) hk
  by_cases q3:(k:Int) ∈ seen
  case pos =>
   rw [if_pos (.inr (.inr q3))]
   exact ⟨h,by simp only [aAb,aCE,Zae,Zaf,Zag,Zah,Zai,Zak,Zam,Zan,Zao,Zaq,Zas,Zav,Zba,Zbc,Zbg,Zbl,Zbm,Zbn,Zbo,Zbp,Zbs,Zbu,Zcc,Zcf,Zck,Zcz,Zda,Zdb,Zdf,Zdg,Zdh,Q0,Q8,Q4,Q5,Z0,Zdl,Zdo,Zdx,Zeb,Zed,Zet,Zeu,decide_true,decide_false,Q1,Q2,Q3,if_true,Nat.reduceAdd,Nat.reduceLeDiff,eq_self,aA2,aA4,aA3,part,eI,Z1,Z2,Q6,Z3,Z4,Q0,hb,hr,hl,h3',ii,q1,q2,ir,rg,q3]⟩
  case neg =>
  rw [if_neg (by rintro (h | h | h);exact q1 h;exact q2 h;exact q3 h)]
  have rs:=aQ0 (seen:=seen) hk
  have:=ih (i+1) m ((k:Int)::seen) (h.set 1 (.arr 0 1 true (aDW g.terms.length ((k:Int)::seen)))) (by omega) (by omega)
   (by rw [List.getElem?_set_ne (by omega)];exact hb) (List.getElem?_set_self (List.getElem?_eq_some_iff.1 hr).1) (by rw [List.getElem?_set_ne (fun e=>hi5.2 e.symm)];exact hl)
  have hstep:aAj (aA1 (lim G0.cfg) n aBn) (m+1) ⟨(J::.ptr 0 0 0 0::J::.hsl 1 0 0 g.terms.length none::.int .i64 i4::.ptr i5 0 0 0::.int .i64 i::J::J::J::J::J::J::J::J::J::J::J::J::J::J::J::J::J::J::J::J::J::J::J::J::J::J::J::J::J::J::J::J::J::J::J::J::J::J::J::J::J::J::J::J::J::J::J::J::J::J::J::J::J::J::J::[]),h⟩ =
    aAj (aA1 (lim G0.cfg) n aBn) m ⟨(J::.ptr 0 0 0 0::J::.hsl 1 0 0 g.terms.length none::.int .i64 i4::.ptr i5 0 0 0::.int .i64 ((i+1:Nat):Int)::J::J::J::J::J::J::J::J::J::J::J::J::J::J::J::J::J::J::J::J::J::J::J::J::J::J::J::J::J::J::J::J::J::J::J::J::J::J::J::J::J::J::J::J::J::J::J::J::J::J::J::J::J::J::J::[]),h.set 1 (.arr 0 1 true (aDW g.terms.length ((k:Int)::seen)))⟩:=by
   simp only [aAb,aCE,Zae,Zaf,Zag,Zah,Zai,Zak,Zan,Zao,Zar,Zav,Zaw,Zay,Zbc,Zbe,Zbg,Zbl,Zbm,Zbn,Zbo,Zbp,Zbs,Zbt,Zbu,Zcc,Zcf,Zck,Zcz,Zda,Zdb,Zdc,Zdf,Zdg,Zdh,Q0,Q8,Q4,Q5,Z0,Zdi,Zdl,Zdo,Zdx,Zeb,Zed,Zeh,Zet,Zeu,decide_true,decide_false,Q1,Q2,Q3,if_true,Nat.reduceAdd,Nat.reduceLeDiff,eq_self,and_self,aA2,aA4,aA3,part,eI,aAq,aAm,Y4,Y7,aAn,Y5,Z1,Z2,Q6,Z3,Z4,Q7,Q9,Q0,hb,hr,hl,h3',ii,q1,q2,ir,rg,rs,q3,hw,Q0]
  simp only [hstep]
  exact this
theorem aKb (g:GramD) (hg:g.Ok) (n:Nat) (hn:∀ l ∈ g.levels,l.terms.length < n):∀ (d i m:Nat) (seen:List Int) (h:aA0),g.levels.length=i+d→d < m →
  h[0]?=some (.arr 0 5 true [aA8 g])→h[1]?=some (.arr 0 1 true (aDW g.terms.length seen)) →
  ∃ h',aAj (aA1 (lim G0.cfg) n aD1) m ⟨(J::.ptr 0 0 0 0::J::.hsl 1 0 0 g.terms.length none::.int .i64 i::J::J::J::J::J::J::J::J::J::J::J::J::J::J::J::J::J::J::J::J::J::J::J::J::J::J::J::J::J::J::J::J::J::J::J::J::J::J::J::J::J::J::J::J::J::J::J::J::J::J::J::J::J::J::J::J::J::[]),h⟩ =
   bif aBP g.terms.length (g.levels.drop i) seen then some (.exit 0,⟨(J::J::J::J::J::J::J::J::J::J::J::J::J::J::J::J::J::J::J::J::J::J::J::J::J::J::J::J::J::J::J::J::J::J::J::J::J::J::J::J::J::J::J::J::J::J::J::J::J::J::J::J::J::J::J::J::J::J::J::J::J::J::[]),h'⟩) else some (.ret,⟨(J::J::.bool false::J::J::J::J::J::J::J::J::J::J::J::J::J::J::J::J::J::J::J::J::J::J::J::J::J::J::J::J::J::J::J::J::J::J::J::J::J::J::J::J::J::J::J::J::J::J::J::J::J::J::J::J::J::J::J::J::J::J::J::[]),h'⟩):=by
 have hm:=hg.levels
 rw [aAp] at hm
 intro d
 induction d with
 | zero =>
  intro i m seen h h1 h2 hb hr
  obtain ⟨m,rfl⟩:∃ q,m=q+1:=⟨m - 1,by omega⟩
  have e1:g.levels.drop i=[]:=Y6.2 (by omega)
  have h3:¬ ((i:Int) < g.levels.length):=by omega
  exact ⟨h,by simp only [aAb,aCF,Zaf,Zag,Zah,Zak,Zal,Zan,Zao,Zap,Zaw,Zaz,Zbc,Zbm,Zbo,Zbs,Zbu,Zcc,Zck,Zcz,Zdb,Zdg,Zdh,Q0,Q8,Q4,Q5,Z0,Zdl,Zdx,Zeb,Zed,decide_false,Q1,Q2,Q3,if_true,Nat.reduceAdd,Nat.reduceLeDiff,eq_self,cond_true,Z5,aA2,aA4,aA3,part,Z1,Z2,Q6,Z4,Q0,Z5,hb,h3,e1,aBP]⟩
 | succ d ih =>
  intro i m seen h h1 h2 hb hr
  obtain ⟨m,rfl⟩:∃ q,m=q+1:=⟨m - 1,by omega⟩
  have h3:i < g.levels.length:=by omega
  have h3':(i:Int) < g.levels.length:=by omega
  have e1:g.levels.drop i=g.levels[i]::g.levels.drop (i+1):=Y2 h3
  have hw:=aAV (n:=i) (by omega)
  have hmem:g.levels[i] ∈ g.levels:=List.getElem_mem h3
  have hb2:=aAX hb [.arr 0 2 true [aBm g.levels[i]]]
  have hr2:=aAX hr [.arr 0 2 true [aBm g.levels[i]]]
  have ii:=fun h=>aBg aBm h 2 false g.levels .i64 i h3 rfl
  have hlen:h.length≠0∧h.length≠1:=by have:=(List.getElem?_eq_some_iff.1 hr).1;omega
  rw [e1]
  simp only [aBP]
  by_cases q1:(g.levels[i]).assoc < 1
  case pos =>
   rw [if_pos (.inl q1)]
   exact ⟨h++[.arr 0 2 true [aBm g.levels[i]]],by simp only [aAb,aCF,Zae,Zaf,Zag,Zah,Zai,Zak,Zam,Zan,Zao,Zaq,Zas,Zav,Zba,Zbc,Zbe,Zbh,Zbk,Zbm,Zbn,Zbo,Zbp,Zbq,Zbs,Zbt,Zbu,Zcc,Zcf,Zck,Zcz,Zda,Zdb,Zdc,Zdf,Zdg,Zdh,Q0,Q8,Q4,Q5,Z0,Zdl,Zdx,Zeb,Zed,Zee,Zef,decide_true,Q1,Q2,Q3,if_true,Nat.reduceAdd,Nat.reduceLeDiff,eq_self,and_self,cond_false,Z5,aA2,aA4,aA3,part,aAq,aAm,aB9,aCv,Y4,Y7,aAn,Y5,Z1,Z2,Q6,Z3,Z4,Q7,Q9,Q0,Z5,hb,h3',ii,q1]⟩
  case neg =>
  by_cases q2:4 < (g.levels[i]).assoc
  case pos =>
   rw [if_pos (.inr q2)]
   exact ⟨h++[.arr 0 2 true [aBm g.levels[i]]],by simp only [aAb,aCF,Zae,Zaf,Zag,Zah,Zai,Zak,Zam,Zan,Zao,Zaq,Zas,Zav,Zba,Zbc,Zbe,Zbg,Zbl,Zbm,Zbn,Zbo,Zbp,Zbq,Zbs,Zbt,Zbu,Zcc,Zcf,Zck,Zcz,Zda,Zdb,Zdc,Zdf,Zdg,Zdh,Q0,Q8,Q4,Q5,Z0,Zdl,Zdn,Zdx,Zeb,Zed,Zee,Zef,decide_true,decide_false,Q1,Q2,Q3,if_true,Nat.reduceAdd,Nat.reduceLeDiff,eq_self,and_self,cond_false,Z5,aA2,aA4,aA3,part,aAq,aAm,aB9,aCv,Y4,Y7,aAn,Y5,Z1,Z2,Q6,Z3,Z4,Q7,Q9,Q0,Z5,hb,h3',ii,q1,q2]⟩
  case neg =>
  rw [if_neg (by omega)]
  have inner:=aKa g hg n g.levels[i] (hg.level _ hmem) i h.length hlen (g.levels[i]).terms.length 0 n seen _ (by omega) (hn _ hmem) hb2 hr2 (aB9 h _)
  rw [Z1,z0] at inner
  cases hq:aEp g.terms.length (g.levels[i]).terms seen with
  | none =>
   rw [hq] at inner
   obtain ⟨h',e⟩:=inner
   refine ⟨h',?_⟩
   simp only [aAb,aCF,Zae,Zaf,Zag,Zah,Zai,Zaj,Zak,Zan,Zao,Zaq,Zas,Zav,Zaw,Zax,Zba,Zbc,Zbe,Zbg,Zbl,Zbm,Zbn,Zbo,Zbp,Zbq,Zbs,Zbt,Zbu,Zcc,Zcf,Zck,Zcz,Zda,Zdb,Zdc,Zdf,Zdg,Zdh,Q0,Q8,Q4,Q5,Z0,Zdl,Zdn,Zdx,Zeb,Zed,Zee,Zef,decide_true,decide_false,Q1,Q2,Q3,if_true,Nat.reduceAdd,Nat.reduceLeDiff,eq_self,and_self,cond_false,Z5,aA2,aA4,aA3,part,aAq,aAm,aB9,aCv,Y4,Y7,aAn,Y5,Z1,Z2,Q6,Z3,Z4,Q7,Q9,Q0,Z5,hb,h3',ii,q1,q2,e]
  | some s' =>
   rw [hq] at inner
   obtain ⟨h',hb',hr',e⟩:=inner
   obtain ⟨h'',e'⟩:=ih (i+1) m s' h' (by omega) (by omega) hb' hr'
   refine ⟨h'',?_⟩
   simp only [aAb,aCF,Zae,Zaf,Zag,Zah,Zai,Zaj,Zak,Zan,Zao,Zar,Zat,Zav,Zaw,Zax,Zay,Zbc,Zbe,Zbg,Zbl,Zbm,Zbn,Zbo,Zbp,Zbq,Zbs,Zbt,Zbu,Zcc,Zcf,Zck,Zcz,Zda,Zdb,Zdc,Zdf,Zdg,Zdh,Q0,Q8,Q4,Q5,Z0,Zdi,Zdl,Zdn,Zdx,Zeb,Zed,Zee,Zef,decide_true,decide_false,Q1,Q2,Q3,if_true,Nat.reduceAdd,Nat.reduceLeDiff,eq_self,and_self,Z5,aA2,aA4,aA3,part,aAq,aAm,aB9,aCv,Y4,Y7,aAn,Y5,Z1,Z2,Q6,Z3,Z4,Q7,Q9,Q0,Z5,hb,h3',ii,q1,q2,e,hw,e']
theorem aQ9 (g:GramD) (hg:g.Ok) (hT:(g.terms.length:Int)≤256) (H:aA0):lim G0.cfg (.func 16) [.agg (aA8 g)] H=some (.bool (aBP g.terms.length g.levels []),H):=by
 refine aAy rfl rfl aHP (g.levels.length+aG9 g.levels+1) (fun h=>aFq (aAU g h)) ?_ (fun _=>rfl) H
 obtain ⟨N,hN⟩:∃ N,N=g.levels.length+aG9 g.levels+1:=⟨_,rfl⟩
 rw [← hN]
 have hmk:amk [.arr 0 5 true [aA8 g]] 1 1 [.bool false] (.int .i64 g.terms.length) (.int .i64 g.terms.length)=some (.hsl 1 0 0 g.terms.length none,[.arr 0 5 true [aA8 g],.arr 0 1 true (aDW g.terms.length [])]):=by
  have:(0:Int)≤g.terms.length∧(g.terms.length:Int)≤g.terms.length∧(g.terms.length:Int)*((1:Nat)+1)≤70368744177664:=by omega
  rw [amk,if_pos this,← aQ1];rfl
 obtain ⟨h',e⟩:=aKb g hg N (fun l hl=>by have:=aII g.levels l hl;omega) g.levels.length 0 N [] [.arr 0 5 true [aA8 g],.arr 0 1 true (aDW g.terms.length [])] (by omega) (by omega) rfl rfl
 rw [Z1,z0] at e
 rw [aMs]
 cases q:aBP g.terms.length g.levels []
 ·rw [q] at e
  simp only [cond_false] at e
  simp only [Zaf,Zag,Zai,Zaj,Zak,Zan,Zao,Zaq,Zas,Zax,Zbc,Zbd,Zbm,Zbo,Zbr,Zbs,Zbz,Zcc,Zck,Zcw,Zcy,Zcz,Zda,Zdb,Zdf,Zdg,Zdh,Q0,Q8,Q4,Q5,Z0,Z9,Zdx,Zeb,Zed,Zef,Zeu,Q1,Q2,Q3,if_true,Nat.reduceAdd,Nat.reduceSub,Nat.reduceLeDiff,eq_self,true_and,Q2,Q3,Z6,Z7,Q7,Q9,aA2,aA4,aA3,part,Z1,Q6,Z3,Q7,Q9,Q0,hmk,e,aA6,aA5,aA7,Z8,Prod.mk.injEq,true_and,exists_eq']
 ·rw [q] at e
  simp only [cond_true] at e
  simp only [Zaf,Zag,Zai,Zaj,Zak,Zam,Zan,Zao,Zat,Zax,Zbc,Zbd,Zbm,Zbo,Zbr,Zbs,Zbz,Zcc,Zck,Zcw,Zcy,Zcz,Zda,Zdb,Zdf,Zdg,Zdh,Q0,Q8,Q4,Q5,Z0,Z9,Zdx,Zeb,Zed,Zef,Zeu,Q1,Q2,Q3,if_true,Nat.reduceAdd,Nat.reduceSub,Nat.reduceLeDiff,eq_self,true_and,Q2,Q3,Z6,Z7,Q7,Q9,aA2,aA4,aA3,part,Z1,Q6,Z3,Q7,Q9,Q0,hmk,e,aA6,aA5,aA7,Z8,Prod.mk.injEq,true_and,exists_eq']
theorem aMo (g:GramD) (i:Nat) (hi:i < g.rules.length):aBa g (i+1)=(g.rules[i]).left:=by simp [aBa,hi]
theorem aLQ (g:GramD) (hg:g.Ok) (n:Nat) (h:aA0) (hb:h[0]?=some (.arr 0 5 true [aA8 g])):∀ (d i m:Nat),g.rules.length=i+d→d < m →
  aAj (aA1 (lim G0.cfg) n aDr) m ⟨[J,.ptr 0 0 0 0,J,.int .i64 i,J,J,J,J,J,J,J,J,J,J,J,J,J,J,J,J,J,J,J,J,J,J,J,J,J,J,J,J,J],h⟩ =
   if aAP g (g.rules.drop i) (aBa g i)=0 then some (.exit 0,⟨[J,.ptr 0 0 0 0,J,J,J,J,J,J,J,J,J,J,J,J,J,J,J,J,J,J,J,J,J,J,J,J,J,J,J,J,J,J,J],h⟩) else some (.ret,⟨[J,J,.int .i64 (aAP g (g.rules.drop i) (aBa g i)),J,J,J,J,J,J,J,J,J,J,J,J,J,J,J,J,J,J,J,J,J,J,J,J,J,J,J,J,J,J],h⟩):=by
 have hm:=hg.rules
 rw [aAp] at hm
 intro d
 induction d with
 | zero =>
  intro i m h1 h2
  obtain ⟨m,rfl⟩:∃ q,m=q+1:=⟨m - 1,by omega⟩
  have e1:g.rules.drop i=[]:=Y6.2 (by omega)
  have h3:¬ ((i:Int) < g.rules.length):=by omega
  simp only [aAb,aF5,Zaf,Zag,Zah,Zak,Zal,Zan,Zao,Zap,Zaw,Zaz,Zbc,Zbm,Zbo,Zbs,Zbu,Zcc,Zck,Zcz,Zdb,Zdf,Zdg,Zdh,Q0,Q8,Q4,Q5,Z0,Zdl,Zdx,Zeb,Zed,decide_false,Q1,Q2,Q3,if_true,Nat.reduceAdd,Nat.reduceLeDiff,eq_self,Z5,aA2,aA4,aA3,part,Z1,Z2,Q6,Z3,Q0,Z5,hb,h3,e1,aAP]
 | succ d ih =>
  intro i m h1 h2
  obtain ⟨m,rfl⟩:∃ q,m=q+1:=⟨m - 1,by omega⟩
  have h3:i < g.rules.length:=by omega
  have h3':(i:Int) < g.rules.length:=by omega
  have e1:g.rules.drop i=g.rules[i]::g.rules.drop (i+1):=Y2 h3
  have hw:=aAV (n:=i) (by omega)
  have hr:=aRR g hg i h3
  by_cases q:aB1 g g.rules[i] (aBa g i)=0
  ·have e:=ih (i+1) m (by omega) (by omega)
   rw [aMo g i h3] at e
   have e2:aAP g (g.rules.drop i) (aBa g i)=aAP g (g.rules.drop (i+1)) (g.rules[i]).left:=by rw [e1];simp [aAP,q]
   rw [e2,← e]
   simp only [aAb,aF5,Zae,Zaf,Zag,Zah,Zai,Zak,Zan,Zao,Zar,Zav,Zaw,Zay,Zbc,Zbd,Zbm,Zbo,Zbs,Zbu,Zcc,Zck,Zct,Zcu,Zcz,Zda,Zdb,Zdd,Zde,Zdf,Zdg,Zdh,Q0,Q8,Q4,Q5,Z0,Zdi,Zdl,Zdq,Zdx,Zeb,Zed,Zee,decide_true,Y1,Q1,Q2,Q3,if_true,Nat.reduceAdd,Nat.reduceLeDiff,eq_self,Z5,aA2,aA4,aA3,part,Z1,Z2,Q6,Z3,Z4,Q7,Q9,Q0,Z5,hb,h3',hr,q,hw]
  ·have e2:aAP g (g.rules.drop i) (aBa g i)=aB1 g g.rules[i] (aBa g i):=by rw [e1];simp [aAP,q]
   rw [e2,if_neg q]
   simp only [aAb,aF5,Zae,Zaf,Zag,Zah,Zai,Zak,Zam,Zan,Zao,Zaq,Zas,Zav,Zba,Zbc,Zbd,Zbm,Zbo,Zbs,Zbu,Zcc,Zck,Zct,Zcu,Zcz,Zda,Zdb,Zdd,Zde,Zdf,Zdg,Zdh,Q0,Q8,Q4,Q5,Z0,Zdl,Zdq,Zdx,Zeb,Zed,Zee,decide_true,decide_false,Y8,Q1,Q2,Q3,if_true,Nat.reduceAdd,Nat.reduceLeDiff,eq_self,Z5,aA2,aA4,aA3,part,Z1,Z2,Q6,Z3,Z4,Q7,Q9,Q0,Z5,hb,h3',hr,q]
theorem aNJ (g:GramD) (hg:g.Ok) (H:aA0):lim G0.cfg (.func 5) [.agg (aA8 g)] H=some (.int .i64 (aBl g),H):=by
 refine aAy rfl rfl aIv (g.rules.length+1) (fun h=>aFq (aAU g h)) ?_ (fun _=>rfl) H
 have c1:=aQa g hg
 have c2:=aNI g.terms hg.terms
 have c3:=aNI g.nonterms hg.nonterms
 rw [aNk]
 unfold aBl
 cases q1:aBR g
 case false =>
  rw [q1] at c1
  simp only [Zaf,Zag,Zah,Zam,Zan,Zao,Zaq,Zav,Zbc,Zbd,Zbm,Zbo,Zbr,Zbs,Zct,Zcu,Zcw,Zcy,Zcz,Zda,Zdb,Zdd,Zde,Q0,Q8,Q4,Q5,Z0,Z9,Zee,Zef,Y8,Q1,Q2,Q3,if_true,Nat.reduceAdd,Nat.reduceSub,Nat.reduceLeDiff,eq_self,true_and,Q2,Q3,Z6,Z7,Q7,Q9,aA2,aA4,aA3,part,Z1,Q6,Z4,Q7,Q9,Q0,c1,aA6,aA5,aA7,Z8,Prod.mk.injEq,true_and,exists_eq']
 case true =>
 rw [q1] at c1
 cases q2:aDz g.terms
 case true =>
  rw [q2] at c2
  simp only [Zae,Zaf,Zag,Zah,Zam,Zan,Zao,Zaq,Zav,Zaw,Zbc,Zbd,Zbh,Zbk,Zbm,Zbn,Zbo,Zbp,Zbr,Zbs,Zcc,Zct,Zcu,Zcw,Zcy,Zcz,Zda,Zdb,Zdd,Zde,Q0,Q8,Q4,Q5,Z0,Z9,Zeb,Zed,Zee,Zef,Y1,Q1,Q2,Q3,if_true,if_false,Nat.reduceAdd,Nat.reduceSub,Nat.reduceLeDiff,eq_self,true_and,Q2,Q3,Z6,Z7,Q7,Q9,aA2,aA4,aA3,part,Z1,Q6,Z3,Z4,Q7,Q9,Q0,c1,c2,aA6,aA5,aA7,Z8,Prod.mk.injEq,true_and,exists_eq',Y0,true_or]
 case false =>
 rw [q2] at c2
 cases q3:aDz g.nonterms
 case true =>
  rw [q3] at c3
  simp only [Zae,Zaf,Zag,Zah,Zam,Zan,Zao,Zaq,Zav,Zaw,Zbc,Zbd,Zbg,Zbl,Zbm,Zbn,Zbo,Zbp,Zbr,Zbs,Zcc,Zct,Zcu,Zcw,Zcy,Zcz,Zda,Zdb,Zdd,Zde,Q0,Q8,Q4,Q5,Z0,Z9,Zeb,Zed,Zee,Zef,Y1,Q1,Q2,Q3,if_true,if_false,Nat.reduceAdd,Nat.reduceSub,Nat.reduceLeDiff,eq_self,true_and,Q2,Q3,Z6,Z7,Q7,Q9,aA2,aA4,aA3,part,Z1,Z2,Q6,Z3,Z4,Q7,Q9,Q0,c1,c2,c3,aA6,aA5,aA7,Z8,Prod.mk.injEq,true_and,exists_eq',Y0,or_true]
 case false =>
 rw [q3] at c3
 have hne:g.rules≠[]:=by
  intro e
  simp [aBR,e] at q1
 have hT:(g.terms.length:Int)≤256:=by
  simp only [aBR,Bool.and_eq_true,decide_eq_true_eq] at q1
  omega
 have c4:=aR3 g hg hne
 cases q4:aEL g
 case false =>
  rw [q4] at c4
  simp only [Zae,Zaf,Zag,Zah,Zam,Zan,Zao,Zaq,Zav,Zaw,Zbc,Zbd,Zbg,Zbl,Zbm,Zbn,Zbo,Zbp,Zbr,Zbs,Zcc,Zct,Zcu,Zcw,Zcy,Zcz,Zda,Zdb,Zdd,Zde,Q0,Q8,Q4,Q5,Z0,Z9,Zeb,Zed,Zee,Zef,Y1,Y8,Q1,Q2,Q3,if_true,if_false,Nat.reduceAdd,Nat.reduceSub,Nat.reduceLeDiff,eq_self,true_and,Q2,Q3,Z6,Z7,Q7,Q9,aA2,aA4,aA3,part,Z1,Z2,Q6,Z3,Z4,Q7,Q9,Q0,c1,c2,c3,c4,aA6,aA5,aA7,Z8,Prod.mk.injEq,true_and,exists_eq',Y0,Y3,or_self]
 case true =>
 rw [q4] at c4
 have e:=aLQ g hg (g.rules.length+1) [.arr 0 5 true [aA8 g]] rfl g.rules.length 0 (g.rules.length+1) (by omega) (by omega)
 have ea:aBa g 0=0:=rfl
 rw [Z1,z0,ea] at e
 by_cases q5:aAP g g.rules 0=0
 case neg =>
  rw [if_neg q5] at e
  simp only [Zae,Zaf,Zag,Zah,Zai,Zaj,Zak,Zan,Zao,Zaq,Zas,Zaw,Zax,Zbc,Zbd,Zbg,Zbl,Zbm,Zbn,Zbo,Zbp,Zbr,Zbs,Zcc,Zct,Zcu,Zcw,Zcy,Zcz,Zda,Zdb,Zdd,Zde,Zdf,Zdg,Zdh,Q0,Q8,Q4,Q5,Z0,Z9,Zeb,Zed,Zee,Zef,Y1,Q1,Q2,Q3,if_true,if_false,Nat.reduceAdd,Nat.reduceSub,Nat.reduceLeDiff,eq_self,true_and,not_false_eq_true,Q2,Q3,Z6,Z7,Q7,Q9,aA2,aA4,aA3,part,Z1,Z2,Q6,Z3,Z4,Q7,Q9,Q0,c1,c2,c3,c4,e,q5,ne_eq,not_false_eq_true,aA6,aA5,aA7,Z8,Prod.mk.injEq,true_and,exists_eq',Y0,Y3,or_self]
 case pos =>
 rw [if_pos q5] at e
 have c6:=aQ9 g hg hT
 cases q6:aBP g.terms.length g.levels []
 case false =>
  rw [q6] at c6
  simp only [Zae,Zaf,Zag,Zah,Zai,Zaj,Zak,Zam,Zan,Zao,Zaq,Zat,Zav,Zaw,Zax,Zbc,Zbd,Zbg,Zbl,Zbm,Zbn,Zbo,Zbp,Zbr,Zbs,Zbv,Zcc,Zct,Zcu,Zcw,Zcy,Zcz,Zda,Zdb,Zdd,Zde,Zdf,Zdg,Zdh,Q0,Q8,Q4,Q5,Z0,Z9,Zdv,Zeb,Zed,Zee,Zef,Y1,Y8,Q1,Q2,Q3,if_true,if_false,Nat.reduceAdd,Nat.reduceSub,Nat.reduceLeDiff,eq_self,true_and,not_true_eq_false,Q2,Q3,Z6,Z7,Q7,Q9,aA2,aA4,aA3,part,Z1,Z2,Q6,Z3,Z4,Q7,Q9,Q0,c1,c2,c3,c4,e,q5,c6,ne_eq,aA6,aA5,aA7,Z8,Prod.mk.injEq,true_and,exists_eq',Y0,Y3,or_self]
 case true =>
  rw [q6] at c6
  simp only [Zae,Zaf,Zag,Zah,Zai,Zaj,Zak,Zam,Zan,Zao,Zat,Zaw,Zax,Zbc,Zbd,Zbg,Zbl,Zbm,Zbn,Zbo,Zbp,Zbr,Zbs,Zbv,Zcc,Zct,Zcu,Zcw,Zcy,Zcz,Zda,Zdb,Zdd,Zde,Zdf,Zdg,Zdh,Q0,Q8,Q4,Q5,Z0,Z9,Zdv,Zeb,Zed,Zee,Zef,Y1,Q1,Q2,Q3,if_true,if_false,Nat.reduceAdd,Nat.reduceSub,Nat.reduceLeDiff,eq_self,true_and,not_true_eq_false,Q2,Q3,Z6,Z7,Q7,Q9,aA2,aA4,aA3,part,Z1,Z2,Q6,Z3,Z4,Q7,Q9,Q0,c1,c2,c3,c4,e,q5,c6,ne_eq,aA6,aA5,aA7,Z8,Prod.mk.injEq,true_and,exists_eq',Y0,Y3,or_self]
end Go.Proofs.Yteenffomgdfocaa.Ai
