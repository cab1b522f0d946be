/- Grammars: the program's checks, walked. -/
import Derived.Test.YteenffomgdfocaamXA
namespace Go.Proofs.Yteenffomgdfocaa.Ai
open Go Go.Proofs
open AV renaming junk → J
open List renaming set_cons_zero → Q0, length_cons → Q1, length_nil → Q2, cons_append → Q3, nil_append → Q4, getD_cons_zero → Q5, getD_cons_succ → Q6, set_cons_succ → Q7, getElem?_cons_zero → Q8, replicate_succ → Q9, replicate_zero → Z0, length_map → Z2, take_succ_cons → Z3, drop_succ_cons → Z5, drop_zero → Z7, take_zero → Z8, take_nil → Y4, getElem?_cons_succ → Y5, all_cons → Y6, all_nil → Y8
open Option.some renaming injEq → Z1
open Option renaming map_some → Z4, bind_some → Z6
open Bool renaming false_and → Z9, and_self → Y0, and_false → Y1, not_false → Y2, not_true → Y3, and_true → Y7
set_option linter.unusedVariables false
set_option linter.unusedSimpArgs false
set_option maxRecDepth 10000
theorem aIM (n lo hi:Int) (H:aA0):lim G0.cfg (.func 43) [.int .i64 n,.int .i64 lo,.int .i64 hi] H=some (.bool (decide (lo≤n) && decide (n≤hi)),H):=by
 refine aAy rfl rfl aG1 1 (fun h=>rfl) ?_ (fun _=>rfl) H
 rw [aIZ]
 by_cases h1:lo≤n
 ·simp only [Zaf,Zag,Zam,Zan,Zao,Zbc,Zbf,Zbk,Zbm,Zbn,Zbo,Zbp,Zbu,Zcy,Zcz,Zda,Zdb,Q0,Q7,Q5,Q6,Z4,Zdm,Zdo,decide_true,Q1,Q2,Nat.reduceAdd,Nat.reduceSub,eq_self,true_and,Q1,Q2,Q9,Z0,Q3,Q4,h1,aA6,aA5,aA7,Z1,Prod.mk.injEq,true_and,Bool.true_and,exists_eq']
 ·simp only [Zaf,Zag,Zam,Zan,Zao,Zbc,Zbi,Zbl,Zbm,Zbn,Zbo,Zbp,Zbu,Zcy,Zcz,Zda,Zdb,Q0,Q7,Q5,Q6,Z4,Zdo,decide_false,Q1,Q2,Nat.reduceAdd,Nat.reduceSub,eq_self,true_and,Q1,Q2,Q9,Z0,Q3,Q4,h1,aA6,aA5,aA7,Z1,Prod.mk.injEq,true_and,Z9,exists_eq']
theorem aNP (g:GramD) (hg:g.Ok) (s:Int) (H:aA0):lim G0.cfg (.func 55) [.agg (aA8 g),.int .i64 s] H=some (.bool (aF7 g s),H):=by
 refine aAy rfl rfl aGm 1 (fun h=>aDX (aAU g h) rfl) ?_ (fun _=>rfl) H
 have hw:IntKind.i64.wrap (-(g.nonterms.length:Int)) = -(g.nonterms.length:Int):=by have:=hg.nonterms;rw [aAp] at this;exact w64 (by omega) (by omega)
 rw [aJx]
 unfold aF7
 by_cases h1:s < (g.terms.length:Int)
 ·simp only [Zaf,Zag,Zam,Zan,Zao,Zbc,Zbd,Zbf,Zbk,Zbm,Zbn,Zbo,Zbp,Zbr,Zbs,Zbu,Zbv,Zcc,Zck,Zcw,Zcy,Zcz,Zda,Zdb,Q0,Q7,Q5,Q6,Z6,Z4,Zdl,Zdo,Zdw,Zdx,Zeb,Zed,Zef,Zeu,decide_true,Q8,Q1,Q2,if_true,Nat.reduceAdd,Nat.reduceSub,Nat.reduceLeDiff,eq_self,true_and,Q1,Q2,Q9,Z0,Q3,Q4,aA2,aA4,aA3,part,Z7,Z5,Z3,Z8,Q3,Q4,Q0,h1,hw,aA6,aA5,aA7,Z1,Prod.mk.injEq,true_and,Bool.true_and,exists_eq']
 ·simp only [Zaf,Zag,Zam,Zan,Zao,Zbc,Zbd,Zbi,Zbl,Zbm,Zbn,Zbo,Zbp,Zbr,Zbs,Zbu,Zcc,Zck,Zcw,Zcy,Zcz,Zda,Zdb,Q0,Q7,Q5,Q6,Z6,Z4,Zdl,Zdx,Zeb,Zed,Zef,Zeu,decide_false,Q8,Q1,Q2,if_true,Nat.reduceAdd,Nat.reduceSub,Nat.reduceLeDiff,eq_self,true_and,Q1,Q2,Q9,Z0,Q3,Q4,aA2,aA4,aA3,part,Z7,Z3,Z8,Q3,Q4,Q0,h1,aA6,aA5,aA7,Z1,Prod.mk.injEq,true_and,Z9,exists_eq']
theorem aL7 (g:GramD) (hg:g.Ok) (n:Nat):∀ (d i m:Nat) (w:Int) (h:aA0),g.rules.length=i+d→d < m→h[0]?=some (.arr 0 5 true [aA8 g])→∃ h',h'[0]?=some (.arr 0 5 true [aA8 g]) ∧
  aAj (aA1 (lim G0.cfg) n aBK) m ⟨(J::.ptr 0 0 0 0::J::.int .i64 w::J::J::J::.vsl false (g.rules.map aAt)::.int .i64 g.rules.length::.int .i64 i::J::J::J::J::J::J::J::J::J::J::J::J::J::J::J::J::J::J::J::J::J::J::J::J::J::J::J::J::J::J::J::J::J::J::J::J::J::J::J::J::J::J::J::J::J::J::J::J::J::J::[]),h⟩ =
   some (.exit 0,⟨(J::.ptr 0 0 0 0::J::.int .i64 (aFm (g.rules.drop i) w)::J::J::J::J::J::J::J::J::J::J::J::J::J::J::J::J::J::J::J::J::J::J::J::J::J::J::J::J::J::J::J::J::J::J::J::J::J::J::J::J::J::J::J::J::J::J::J::J::J::J::J::J::J::J::J::J::[]),h'⟩):=by
 have hm:=hg.rules
 rw [aAp] at hm
 intro d
 induction d with
 | zero =>
  intro i m w h h1 h2 hb
  obtain ⟨m,rfl⟩:∃ q,m=q+1:=⟨m - 1,by omega⟩
  have e1:g.rules.drop i=[]:=List.drop_eq_nil_iff.2 (by omega)
  have h3:¬ ((i:Int) < g.rules.length):=by omega
  exact ⟨h,hb,by simp only [aAb,aEI,Zaf,Zag,Zah,Zak,Zal,Zan,Zao,Zap,Zaw,Zaz,Zbc,Zbm,Zbu,Zcz,Zdb,Zdf,Zdg,Zdh,Q0,Q7,Q5,Q6,Zdl,decide_false,eq_self,h3,e1,aFm]⟩
 | succ d ih =>
  intro i m w h h1 h2 hb
  obtain ⟨m,rfl⟩:∃ q,m=q+1:=⟨m - 1,by omega⟩
  have h3:i < g.rules.length:=by omega
  have h3':(i:Int) < g.rules.length:=by omega
  have e1:g.rules.drop i=g.rules[i]::g.rules.drop (i+1):=List.drop_eq_getElem_cons h3
  have hw:=aAV (n:=i) (by omega)
  obtain ⟨h',hb',e⟩:=ih (i+1) m (IntKind.i64.wrap (w+(g.rules[i]).right.length)) (h++[.arr 0 5 true [aAt g.rules[i]]]) (by omega) (by omega) (aAX hb _)
  exact ⟨h',hb',by simp only [aAb,aEI,Zae,Zaf,Zag,Zah,Zai,Zak,Zan,Zao,Zar,Zav,Zay,Zbc,Zbe,Zbm,Zbo,Zbq,Zbs,Zbt,Zbu,Zcc,Zcf,Zck,Zcz,Zda,Zdb,Zdc,Zdf,Zdg,Zdh,Q0,Q7,Q5,Q6,Z6,Zdi,Zdl,Zdx,Zeb,Zed,Zee,Zef,Zet,decide_true,Q8,Q1,Q2,if_true,Nat.reduceAdd,Nat.reduceLeDiff,eq_self,and_self,aA2,aA4,aA3,part,aAq,aAm,aB9,aCv,Y6,Y8,aAn,Y0,Z7,Z5,Z3,Z8,Y4,Q3,Q4,Q0,h3',e1,aBg aAt _ 5 _ g.rules _ i h3 rfl,hw,aFm,e]⟩
theorem aOl (o:Int) (H:aA0):lim G0.cfg (.func 54) [.int .i64 o] H=some (.bool (!(decide (0≤o) && decide (o≤5))),H):=by
 refine aAy rfl rfl aFi 1 (fun h=>rfl) ?_ (fun _=>rfl) H
 rw [aHN]
 by_cases h1:o < 0
 ·have h2:¬ (0≤o):=by omega
  simp only [Zaf,Zag,Zam,Zan,Zao,Zbc,Zbh,Zbk,Zbm,Zbn,Zbo,Zbp,Zbu,Zcy,Zcz,Zda,Zdb,Q0,Q7,Q5,Q6,Z4,Zdl,decide_true,decide_false,Y2,Q1,Q2,Nat.reduceAdd,Nat.reduceSub,eq_self,true_and,Q1,Q2,Q9,Z0,Q3,Q4,h1,h2,aA6,aA5,aA7,Z1,Prod.mk.injEq,true_and,Z9,exists_eq']
 ·have h2:0≤o:=by omega
  by_cases h3:5 < o
  ·have h4:¬ (o≤5):=by omega
   simp only [Zaf,Zag,Zam,Zan,Zao,Zbc,Zbg,Zbl,Zbm,Zbn,Zbo,Zbp,Zbu,Zcy,Zcz,Zda,Zdb,Q0,Q7,Q5,Q6,Z4,Zdl,Zdn,decide_true,decide_false,Y2,Q1,Q2,Nat.reduceAdd,Nat.reduceSub,eq_self,true_and,Q1,Q2,Q9,Z0,Q3,Q4,h1,h2,h3,h4,aA6,aA5,aA7,Z1,Prod.mk.injEq,true_and,Y1,exists_eq']
  ·have h4:o≤5:=by omega
   simp only [Zaf,Zag,Zam,Zan,Zao,Zbc,Zbg,Zbl,Zbm,Zbn,Zbo,Zbp,Zbu,Zcy,Zcz,Zda,Zdb,Q0,Q7,Q5,Q6,Z4,Zdl,Zdn,decide_true,decide_false,Y3,Q1,Q2,Nat.reduceAdd,Nat.reduceSub,eq_self,true_and,Q1,Q2,Q9,Z0,Q3,Q4,h1,h2,h3,h4,aA6,aA5,aA7,Z1,Prod.mk.injEq,true_and,Y7,exists_eq']
theorem aL6 (g:GramD) (hg:g.Ok) (H:aA0):lim G0.cfg (.func 53) [.vsl false (eIs g.origins),.fn (.func 54) [] []] H=some (.bool (!g.origins.all (fun o=>decide (0≤o) && decide (o≤5))),H):=by
 have:=aEG (l:=g.origins) (g:=54) (caps:=[]) (caps':=[]) (bs:=[]) (H:=H) (p:=fun o => !(decide (0≤o) && decide (o≤5))) rfl rfl (fun x _ H=>aOl x H) hg.origins (fun _=>rfl)
 rw [eIs,this,List.all_eq_not_any_not,Bool.not_not]
theorem aQp (g:GramD) (hg:g.Ok) (H:aA0):lim G0.cfg (.func 39) [.agg (aA8 g)] H=some (.bool (aBR g),H):=by
 refine aAy rfl rfl aG3 (g.rules.length+1) (fun h=>aFq (aAU g h)) ?_ (fun _=>rfl) H
 obtain ⟨h',hb,e⟩:=aL7 g hg (g.rules.length+1) g.rules.length 0 (g.rules.length+1) 0 [.arr 0 5 true [aA8 g]] (by omega) (by omega) rfl
 rw [Z7,z0] at e
 rw [aJ1]
 have w1:=aIM
 have w2:=aL6 g hg
 unfold aBR
 generalize hall:(g.origins.all fun o=>decide (0≤o) && decide (o≤5))=ab at w2
 cases ab
 case false =>
  by_cases c1:(2:Int)≤g.terms.length
  case neg=>simp only [Zaf,Zag,Zai,Zaj,Zak,Zam,Zan,Zao,Zat,Zax,Zbc,Zbd,Zbi,Zbl,Zbm,Zbn,Zbo,Zbp,Zbr,Zbs,Zcc,Zck,Zct,Zcu,Zcw,Zcy,Zcz,Zda,Zdb,Zdd,Zde,Zdf,Zdg,Zdh,Q0,Q7,Q5,Q6,Z6,Z4,Zdx,Zeb,Zed,Zef,Zeu,decide_false,Q8,Q1,Q2,if_true,Nat.reduceAdd,Nat.reduceSub,Nat.reduceLeDiff,eq_self,true_and,Z2,Q1,Q2,Q9,Z0,Q3,Q4,aA2,aA4,aA3,part,Y0,Z7,Z5,Z3,Z8,Q3,Q4,Q0,Z2,e,hb,w1,c1,aA6,aA5,aA7,Z1,Prod.mk.injEq,true_and,Z9,exists_eq']
  case pos =>
   by_cases c2:(g.terms.length:Int)≤256
   case neg=>simp only [Zaf,Zag,Zai,Zaj,Zak,Zam,Zan,Zao,Zat,Zax,Zbc,Zbd,Zbi,Zbl,Zbm,Zbn,Zbo,Zbp,Zbr,Zbs,Zcc,Zck,Zct,Zcu,Zcw,Zcy,Zcz,Zda,Zdb,Zdd,Zde,Zdf,Zdg,Zdh,Q0,Q7,Q5,Q6,Z6,Z4,Zdx,Zeb,Zed,Zef,Zeu,decide_true,decide_false,Q8,Q1,Q2,if_true,Nat.reduceAdd,Nat.reduceSub,Nat.reduceLeDiff,eq_self,true_and,Z2,Q1,Q2,Q9,Z0,Q3,Q4,aA2,aA4,aA3,part,Y0,Z7,Z5,Z3,Z8,Q3,Q4,Q0,Z2,e,hb,w1,c1,c2,aA6,aA5,aA7,Z1,Prod.mk.injEq,true_and,Z9,Y1,exists_eq']
   case pos =>
    by_cases c3:(1:Int)≤g.nonterms.length
    case neg=>simp only [Zaf,Zag,Zai,Zaj,Zak,Zam,Zan,Zao,Zat,Zax,Zbc,Zbd,Zbf,Zbi,Zbk,Zbl,Zbm,Zbn,Zbo,Zbp,Zbr,Zbs,Zcc,Zck,Zct,Zcu,Zcw,Zcy,Zcz,Zda,Zdb,Zdd,Zde,Zdf,Zdg,Zdh,Q0,Q7,Q5,Q6,Z6,Z4,Zdx,Zeb,Zed,Zef,Zeu,decide_true,decide_false,Q8,Q1,Q2,if_true,Nat.reduceAdd,Nat.reduceSub,Nat.reduceLeDiff,eq_self,true_and,Z2,Q1,Q2,Q9,Z0,Q3,Q4,aA2,aA4,aA3,part,Y0,Z7,Z5,Z3,Z8,Q3,Q4,Q0,Z2,e,hb,w1,c1,c2,c3,aA6,aA5,aA7,Z1,Prod.mk.injEq,true_and,Z9,Y1,exists_eq']
    case pos =>
     by_cases c4:(g.nonterms.length:Int)≤512
     case neg=>simp only [Zaf,Zag,Zai,Zaj,Zak,Zam,Zan,Zao,Zat,Zax,Zbc,Zbd,Zbf,Zbi,Zbk,Zbl,Zbm,Zbn,Zbo,Zbp,Zbr,Zbs,Zcc,Zck,Zct,Zcu,Zcw,Zcy,Zcz,Zda,Zdb,Zdd,Zde,Zdf,Zdg,Zdh,Q0,Q7,Q5,Q6,Z6,Z4,Zdx,Zeb,Zed,Zef,Zeu,decide_true,decide_false,Q8,Q1,Q2,if_true,Nat.reduceAdd,Nat.reduceSub,Nat.reduceLeDiff,eq_self,true_and,Z2,Q1,Q2,Q9,Z0,Q3,Q4,aA2,aA4,aA3,part,Y0,Z7,Z5,Z3,Z8,Q3,Q4,Q0,Z2,e,hb,w1,c1,c2,c3,c4,aA6,aA5,aA7,Z1,Prod.mk.injEq,true_and,Z9,Y1,exists_eq']
     case pos =>
      by_cases c5:(g.origins.length:Int)=g.nonterms.length
      case neg=>simp only [Zaf,Zag,Zai,Zaj,Zak,Zam,Zan,Zao,Zat,Zax,Zbc,Zbd,Zbf,Zbi,Zbk,Zbl,Zbm,Zbn,Zbo,Zbp,Zbr,Zbs,Zbu,Zcc,Zck,Zct,Zcu,Zcw,Zcy,Zcz,Zda,Zdb,Zdd,Zde,Zdf,Zdg,Zdh,Q0,Q7,Q5,Q6,Z6,Z4,Zdp,Zdx,Zeb,Zed,Zef,Zet,Zeu,decide_true,decide_false,Q8,Q1,Q2,if_true,Nat.reduceAdd,Nat.reduceSub,Nat.reduceLeDiff,eq_self,true_and,Z2,Q1,Q2,Q9,Z0,Q3,Q4,aA2,aA4,aA3,part,Y0,Z7,Z5,Z3,Z8,Q3,Q4,Q0,Z2,e,hb,w1,c1,c2,c3,c4,c5,aA6,aA5,aA7,Z1,Prod.mk.injEq,true_and,Z9,Y1,exists_eq']
      case pos =>
       simp only [Zaf,Zag,Zai,Zaj,Zak,Zam,Zan,Zao,Zat,Zax,Zbc,Zbd,Zbf,Zbi,Zbk,Zbl,Zbm,Zbn,Zbo,Zbp,Zbr,Zbs,Zbu,Zbv,Zcc,Zck,Zct,Zcu,Zcw,Zcy,Zcz,Zda,Zdb,Zdd,Zde,Zdf,Zdg,Zdh,Q0,Q7,Q5,Q6,Z6,Z4,Zdp,Zdv,Zdx,Zeb,Zed,Zef,Zet,Zeu,decide_true,Y3,Y2,Q8,Q1,Q2,if_true,Nat.reduceAdd,Nat.reduceSub,Nat.reduceLeDiff,eq_self,true_and,Z2,Q1,Q2,Q9,Z0,Q3,Q4,aA2,aA4,aA3,part,Y0,Z7,Z5,Z3,Z8,Q3,Q4,Q0,Z2,e,hb,w1,w2,c1,c2,c3,c4,c5,aA6,aA5,aA7,Z1,Prod.mk.injEq,true_and,Z9,Y1,exists_eq']
 case true =>
  by_cases c1:(2:Int)≤g.terms.length
  case neg=>simp only [Zaf,Zag,Zai,Zaj,Zak,Zam,Zan,Zao,Zat,Zax,Zbc,Zbd,Zbi,Zbl,Zbm,Zbn,Zbo,Zbp,Zbr,Zbs,Zcc,Zck,Zct,Zcu,Zcw,Zcy,Zcz,Zda,Zdb,Zdd,Zde,Zdf,Zdg,Zdh,Q0,Q7,Q5,Q6,Z6,Z4,Zdx,Zeb,Zed,Zef,Zeu,decide_false,Q8,Q1,Q2,if_true,Nat.reduceAdd,Nat.reduceSub,Nat.reduceLeDiff,eq_self,true_and,Z2,Q1,Q2,Q9,Z0,Q3,Q4,aA2,aA4,aA3,part,Z7,Z5,Z3,Z8,Q3,Q4,Q0,Z2,e,hb,w1,c1,aA6,aA5,aA7,Z1,Prod.mk.injEq,true_and,Z9,Y7,exists_eq']
  case pos =>
   by_cases c2:(g.terms.length:Int)≤256
   case neg=>simp only [Zaf,Zag,Zai,Zaj,Zak,Zam,Zan,Zao,Zat,Zax,Zbc,Zbd,Zbi,Zbl,Zbm,Zbn,Zbo,Zbp,Zbr,Zbs,Zcc,Zck,Zct,Zcu,Zcw,Zcy,Zcz,Zda,Zdb,Zdd,Zde,Zdf,Zdg,Zdh,Q0,Q7,Q5,Q6,Z6,Z4,Zdx,Zeb,Zed,Zef,Zeu,decide_true,decide_false,Q8,Q1,Q2,if_true,Nat.reduceAdd,Nat.reduceSub,Nat.reduceLeDiff,eq_self,true_and,Z2,Q1,Q2,Q9,Z0,Q3,Q4,aA2,aA4,aA3,part,Z7,Z5,Z3,Z8,Q3,Q4,Q0,Z2,e,hb,w1,c1,c2,aA6,aA5,aA7,Z1,Prod.mk.injEq,true_and,Z9,Y7,Y1,exists_eq']
   case pos =>
    by_cases c3:(1:Int)≤g.nonterms.length
    case neg=>simp only [Zaf,Zag,Zai,Zaj,Zak,Zam,Zan,Zao,Zat,Zax,Zbc,Zbd,Zbf,Zbi,Zbk,Zbl,Zbm,Zbn,Zbo,Zbp,Zbr,Zbs,Zcc,Zck,Zct,Zcu,Zcw,Zcy,Zcz,Zda,Zdb,Zdd,Zde,Zdf,Zdg,Zdh,Q0,Q7,Q5,Q6,Z6,Z4,Zdx,Zeb,Zed,Zef,Zeu,decide_true,decide_false,Q8,Q1,Q2,if_true,Nat.reduceAdd,Nat.reduceSub,Nat.reduceLeDiff,eq_self,true_and,Z2,Q1,Q2,Q9,Z0,Q3,Q4,aA2,aA4,aA3,part,Y0,Z7,Z5,Z3,Z8,Q3,Q4,Q0,Z2,e,hb,w1,c1,c2,c3,aA6,aA5,aA7,Z1,Prod.mk.injEq,true_and,Z9,Y7,Y1,exists_eq']
    case pos =>
     by_cases c4:(g.nonterms.length:Int)≤512
     case neg=>simp only [Zaf,Zag,Zai,Zaj,Zak,Zam,Zan,Zao,Zat,Zax,Zbc,Zbd,Zbf,Zbi,Zbk,Zbl,Zbm,Zbn,Zbo,Zbp,Zbr,Zbs,Zcc,Zck,Zct,Zcu,Zcw,Zcy,Zcz,Zda,Zdb,Zdd,Zde,Zdf,Zdg,Zdh,Q0,Q7,Q5,Q6,Z6,Z4,Zdx,Zeb,Zed,Zef,Zeu,decide_true,decide_false,Q8,Q1,Q2,if_true,Nat.reduceAdd,Nat.reduceSub,Nat.reduceLeDiff,eq_self,true_and,Z2,Q1,Q2,Q9,Z0,Q3,Q4,aA2,aA4,aA3,part,Y0,Z7,Z5,Z3,Z8,Q3,Q4,Q0,Z2,e,hb,w1,c1,c2,c3,c4,aA6,aA5,aA7,Z1,Prod.mk.injEq,true_and,Z9,Y7,Y1,exists_eq']
     case pos =>
      by_cases c5:(g.origins.length:Int)=g.nonterms.length
      case neg=>simp only [Zaf,Zag,Zai,Zaj,Zak,Zam,Zan,Zao,Zat,Zax,Zbc,Zbd,Zbf,Zbi,Zbk,Zbl,Zbm,Zbn,Zbo,Zbp,Zbr,Zbs,Zbu,Zcc,Zck,Zct,Zcu,Zcw,Zcy,Zcz,Zda,Zdb,Zdd,Zde,Zdf,Zdg,Zdh,Q0,Q7,Q5,Q6,Z6,Z4,Zdp,Zdx,Zeb,Zed,Zef,Zet,Zeu,decide_true,decide_false,Q8,Q1,Q2,if_true,Nat.reduceAdd,Nat.reduceSub,Nat.reduceLeDiff,eq_self,true_and,Z2,Q1,Q2,Q9,Z0,Q3,Q4,aA2,aA4,aA3,part,Y0,Z7,Z5,Z3,Z8,Q3,Q4,Q0,Z2,e,hb,w1,c1,c2,c3,c4,c5,aA6,aA5,aA7,Z1,Prod.mk.injEq,true_and,Z9,Y7,Y1,exists_eq']
      case pos =>
       by_cases c7:(1:Int)≤g.rules.length
       case neg=>simp only [Zaf,Zag,Zai,Zaj,Zak,Zam,Zan,Zao,Zat,Zax,Zbc,Zbd,Zbf,Zbi,Zbk,Zbl,Zbm,Zbn,Zbo,Zbp,Zbr,Zbs,Zbu,Zbv,Zcc,Zck,Zct,Zcu,Zcw,Zcy,Zcz,Zda,Zdb,Zdd,Zde,Zdf,Zdg,Zdh,Q0,Q7,Q5,Q6,Z6,Z4,Zdp,Zdv,Zdx,Zeb,Zed,Zef,Zet,Zeu,decide_true,decide_false,Y3,Y2,Q8,Q1,Q2,if_true,Nat.reduceAdd,Nat.reduceSub,Nat.reduceLeDiff,eq_self,true_and,Z2,Q1,Q2,Q9,Z0,Q3,Q4,aA2,aA4,aA3,part,Y0,Z7,Z5,Z3,Z8,Q3,Q4,Q0,Z2,e,hb,w1,w2,c1,c2,c3,c4,c5,c7,aA6,aA5,aA7,Z1,Prod.mk.injEq,true_and,Z9,Y1,exists_eq']
       case pos =>
        by_cases c8:(g.rules.length:Int)≤1024
        case neg=>simp only [Zaf,Zag,Zai,Zaj,Zak,Zam,Zan,Zao,Zat,Zax,Zbc,Zbd,Zbf,Zbi,Zbk,Zbl,Zbm,Zbn,Zbo,Zbp,Zbr,Zbs,Zbu,Zbv,Zcc,Zck,Zct,Zcu,Zcw,Zcy,Zcz,Zda,Zdb,Zdd,Zde,Zdf,Zdg,Zdh,Q0,Q7,Q5,Q6,Z6,Z4,Zdp,Zdv,Zdx,Zeb,Zed,Zef,Zet,Zeu,decide_true,decide_false,Y3,Y2,Q8,Q1,Q2,if_true,Nat.reduceAdd,Nat.reduceSub,Nat.reduceLeDiff,eq_self,true_and,Z2,Q1,Q2,Q9,Z0,Q3,Q4,aA2,aA4,aA3,part,Y0,Z7,Z5,Z3,Z8,Q3,Q4,Q0,Z2,e,hb,w1,w2,c1,c2,c3,c4,c5,c7,c8,aA6,aA5,aA7,Z1,Prod.mk.injEq,true_and,Z9,Y1,exists_eq']
        case pos =>
         by_cases c9:(g.levels.length:Int)≤32
         case neg=>simp only [Zaf,Zag,Zai,Zaj,Zak,Zam,Zan,Zao,Zat,Zax,Zbc,Zbd,Zbf,Zbi,Zbk,Zbl,Zbm,Zbn,Zbo,Zbp,Zbr,Zbs,Zbu,Zbv,Zcc,Zck,Zct,Zcu,Zcw,Zcy,Zcz,Zda,Zdb,Zdd,Zde,Zdf,Zdg,Zdh,Q0,Q7,Q5,Q6,Z6,Z4,Zdm,Zdp,Zdv,Zdx,Zeb,Zed,Zef,Zet,Zeu,decide_true,decide_false,Y3,Y2,Q8,Q1,Q2,if_true,Nat.reduceAdd,Nat.reduceSub,Nat.reduceLeDiff,eq_self,true_and,Z2,Q1,Q2,Q9,Z0,Q3,Q4,aA2,aA4,aA3,part,Y0,Z7,Z5,Z3,Z8,Y4,Q3,Q4,Q0,Z2,e,hb,w1,w2,c1,c2,c3,c4,c5,c7,c8,c9,aA6,aA5,aA7,Z1,Prod.mk.injEq,true_and,Z9,Y1,exists_eq']
         case pos =>
          by_cases c10:aFm g.rules 0≤8192
          case neg=>simp only [Zaf,Zag,Zai,Zaj,Zak,Zam,Zan,Zao,Zat,Zax,Zbc,Zbd,Zbf,Zbk,Zbm,Zbn,Zbo,Zbp,Zbr,Zbs,Zbu,Zbv,Zcc,Zck,Zct,Zcu,Zcw,Zcy,Zcz,Zda,Zdb,Zdd,Zde,Zdf,Zdg,Zdh,Q0,Q7,Q5,Q6,Z6,Z4,Zdm,Zdp,Zdv,Zdx,Zeb,Zed,Zef,Zet,Zeu,decide_true,decide_false,Y3,Y2,Q8,Q1,Q2,if_true,Nat.reduceAdd,Nat.reduceSub,Nat.reduceLeDiff,eq_self,true_and,Z2,Q1,Q2,Q9,Z0,Q3,Q4,aA2,aA4,aA3,part,Y0,Z7,Z5,Z3,Z8,Y4,Q3,Q4,Q0,Z2,e,hb,w1,w2,c1,c2,c3,c4,c5,c7,c8,c9,c10,aA6,aA5,aA7,Z1,Prod.mk.injEq,true_and,Y1,exists_eq']
          case pos =>
           simp only [Zaf,Zag,Zai,Zaj,Zak,Zam,Zan,Zao,Zat,Zax,Zbc,Zbd,Zbf,Zbk,Zbm,Zbn,Zbo,Zbp,Zbr,Zbs,Zbu,Zbv,Zcc,Zck,Zct,Zcu,Zcw,Zcy,Zcz,Zda,Zdb,Zdd,Zde,Zdf,Zdg,Zdh,Q0,Q7,Q5,Q6,Z6,Z4,Zdm,Zdp,Zdv,Zdx,Zeb,Zed,Zef,Zet,Zeu,decide_true,Y3,Y2,Q8,Q1,Q2,if_true,Nat.reduceAdd,Nat.reduceSub,Nat.reduceLeDiff,eq_self,true_and,Z2,Q1,Q2,Q9,Z0,Q3,Q4,aA2,aA4,aA3,part,Y0,Z7,Z5,Z3,Z8,Y4,Q3,Q4,Q0,Z2,e,hb,w1,w2,c1,c2,c3,c4,c5,c7,c8,c9,c10,aA6,aA5,aA7,Z1,Prod.mk.injEq,true_and,exists_eq']
theorem aM1 (o:Option Int) (z:Int):(o.map (AV.int .i64)).getD (.int .i64 z)=.int .i64 (o.getD z):=by cases o <;> rfl
theorem aM6 (l:List Str) (hm:l.length≤maxLen) (n:Nat):∀ (d i m:Nat) (L:List (Str × Int)),l.length=i+d→d < m→∃ L':List (Str × Int),L'.map (·.1)=dk (L.map (·.1)) (l.drop i) ∧
  aAj (aA1 (lim G0.cfg) n aBU) m ⟨[.vsl false (eSs l),J,J,.map 0,J,J,J,.vsl false (eSs l),.int .i64 l.length,.int .i64 i,J,J,J,J,J,J,J,J,J,J,J,J,J],[.map (mE AV.str (AV.int .i64) L)]⟩ =
   some (.exit 0,⟨[.vsl false (eSs l),J,J,.map 0,J,J,J,J,J,J,J,J,J,J,J,J,J,J,J,J,J,J,J],[.map (mE AV.str (AV.int .i64) L')]⟩):=by
 rw [aAp] at hm
 intro d
 induction d with
 | zero =>
  intro i m L h1 h2
  obtain ⟨m,rfl⟩:∃ q,m=q+1:=⟨m - 1,by omega⟩
  have e1:l.drop i=[]:=List.drop_eq_nil_iff.2 (by omega)
  have h3:¬ ((i:Int) < l.length):=by omega
  exact ⟨L,by rw [e1];rfl,by simp only [aAb,aFj,Zaf,Zag,Zah,Zak,Zal,Zan,Zao,Zap,Zaw,Zaz,Zbc,Zbm,Zbu,Zcz,Zdb,Zdf,Zdg,Zdh,Q0,Q7,Q5,Q6,Zdl,decide_false,eq_self,h3]⟩
 | succ d ih =>
  intro i m L h1 h2
  obtain ⟨m,rfl⟩:∃ q,m=q+1:=⟨m - 1,by omega⟩
  have h3:i < l.length:=by omega
  have h3':(i:Int) < l.length:=by omega
  have e1:l.drop i=l[i]::l.drop (i+1):=List.drop_eq_getElem_cons h3
  have hw:=aAV (n:=i) (by omega)
  have a1:aGg [.map (mE AV.str (AV.int .i64) L)] .str (.int .i64 0) false (.map 0) (.str l[i])=some (.int .i64 ((aGU L l[i]).getD 0)):=by
   rw [aMn .str AV.str (AV.int .i64) aJg rfl,aM1]
  have a2:=aJs .str AV.str (AV.int .i64) aJg (h:=[.map (mE AV.str (AV.int .i64) L)]) (i:=0) rfl l[i] (IntKind.i64.wrap ((aGU L l[i]).getD 0+1))
  obtain ⟨L',hL,e⟩:=ih (i+1) m (aDw L l[i] (IntKind.i64.wrap ((aGU L l[i]).getD 0+1))) (by omega) (by omega)
  refine ⟨L',?_,by simp only [aAb,aFj,Zae,Zaf,Zag,Zah,Zai,Zak,Zan,Zao,Zar,Zav,Zay,Zbc,Zbe,Zbm,Zbo,Zbs,Zbu,Zcf,Zch,Zci,Zcz,Zda,Zdb,Zdc,Zdf,Zdg,Zdh,Q0,Q7,Q5,Q6,Zdi,Zdl,Zes,decide_true,eq_self,h3',aHC _ _ l _ i h3,a1,a2,hw,e]⟩
  rw [hL,e1,aKK,dk]
theorem aNO (l:List Str) (hm:l.length≤maxLen) (H:aA0):lim G0.cfg (.func 40) [.vsl false (eSs l)] H=some (.bool (aDz l),H):=by
 refine aAy rfl rfl aGl (l.length+1) (fun h=>aFq (aHE _ _ _)) ?_ (fun _=>rfl) H
 obtain ⟨L',hL,e⟩:=aM6 l hm (l.length+1) l.length 0 (l.length+1) [] (by omega) (by omega)
 have hlen:L'.length=(dk [] l).length:=by
  have:=congrArg List.length hL
  simpa using this
 have e0:mE AV.str (AV.int .i64) ([]:List (Str × Int))=[]:=rfl
 rw [z0,e0] at e
 have a1:=aRE AV.str (AV.int .i64) (h:=[.map (mE AV.str (AV.int .i64) L')]) (i:=0) (L:=L') rfl
 have a2:decide ((L'.length:Int) < l.length)=aDz l:=by
  rw [hlen,aDz,← aSD]
  congr 1
  simp
 rw [aJw]
 simp only [Zaf,Zag,Zai,Zaj,Zak,Zam,Zan,Zao,Zat,Zax,Zbc,Zbm,Zbo,Zbu,Zby,Zck,Zcy,Zcz,Zda,Zdb,Zdf,Zdg,Zdh,Q0,Q7,Q5,Q6,Z4,Zdl,Zdx,Zeu,Q1,Q2,Nat.reduceAdd,Nat.reduceSub,eq_self,true_and,Q1,Q2,Q9,Z0,Q3,Q4,e,a1,a2,aA6,aA5,aA7,Z1,Prod.mk.injEq,true_and,exists_eq']
theorem aPr (r:RuleD) (H:aA0):lim G0.cfg (.func 57) [.agg (aAt r)] H=some (.bool (decide (r.left=0)),H):=by
 refine aAy rfl rfl aFz 1 (fun h=>aFq (aNN r h)) ?_ (fun _=>rfl) H
 rw [aIg]
 simp only [Zaf,Zag,Zam,Zan,Zao,Zbc,Zbd,Zbm,Zbo,Zbr,Zbs,Zbu,Zcc,Zcw,Zcy,Zcz,Zda,Zdb,Q0,Q7,Q5,Q6,Z6,Z4,Zdp,Zeb,Zed,Zef,Q8,Q1,Q2,if_true,Nat.reduceAdd,Nat.reduceSub,Nat.reduceLeDiff,eq_self,true_and,Q1,Q2,Q9,Z0,Q3,Q4,aA2,aA4,aA3,part,Z7,Z3,Z8,Q3,Q4,Q0,aA6,aA5,aA7,Z1,Prod.mk.injEq,true_and,exists_eq']
theorem aRo (g:GramD) (hg:g.Ok) (hr:g.rules≠[]) (H:aA0):lim G0.cfg (.func 41) [.agg (aA8 g)] H=some (.bool (aEL g),H):=by
 refine aAy rfl rfl aGn 1 (fun h=>aFq (aAU g h)) ?_ (fun _=>rfl) H
 have t1:=aNP g hg
 obtain ⟨r0,R,hR⟩:∃ a b,g.rules=a::b:=by cases e:g.rules with | nil=>exact absurd e hr | cons a b=>exact ⟨a,b,rfl⟩
 have hlR:R.length≤maxLen:=by have:=hg.rules;rw [hR] at this;simp at this;omega
 have c1:∀ H,lim G0.cfg (.func 56) [.vsl false (R.map aAt),.fn (.func 57) [] []] H=some (.bool (R.any fun x=>decide (x.left=0)),H):=fun H =>
  aFG (l:=R) (g:=57) (caps:=[]) (caps':=[]) (bs:=[]) (H:=H) (p:=fun x=>decide (x.left=0)) rfl rfl (fun x _ H=>aPr x H) hlR (fun _=>rfl)
 have i0:∀ h,aAs h 5 (.vsl false (g.rules.map aAt)) (.int .i64 0)=some (.vptr (aAt r0) 0):=fun h=>by rw [hR];rfl
 have s1:∀ h,aBs h 5 (.vsl false (g.rules.map aAt)) (some (.int .i64 1)) none none=some (.vsl false (R.map aAt)):=fun h=>by rw [hR];exact aSx h 5 false (aAt r0::R.map aAt) .i64 1 (by simp) (aOh aAt 5 (fun _=>rfl) R)
 have hall:(R.all fun x=>decide (x.left≠0)) = !(R.any fun x=>decide (x.left=0)):=by
  rw [List.all_eq_not_any_not];congr 2;funext x;simp
 rw [aJy]
 simp only [aEL,hR]
 rw [hall]
 generalize (R.any fun x=>decide (x.left=0))=anyb at c1
 by_cases q1:r0.left=0
 case neg=>simp only [Zaf,Zag,Zah,Zam,Zan,Zao,Zaq,Zav,Zbc,Zbd,Zbe,Zbh,Zbk,Zbm,Zbn,Zbo,Zbp,Zbq,Zbr,Zbs,Zbt,Zbu,Zcc,Zcf,Zcw,Zcy,Zcz,Zda,Zdb,Zdc,Q0,Q7,Q5,Q6,Z6,Z4,Zdq,Zeb,Zed,Zee,Zef,decide_false,Y2,Q8,Y5,Q1,Q2,if_true,Nat.reduceAdd,Nat.reduceSub,Nat.reduceLeDiff,Int.reduceNeg,eq_self,and_self,true_and,Q1,Q2,Q9,Z0,Q3,Q4,aA2,aA4,aA3,part,aAq,aAm,Y6,Y8,aAn,Y0,Z7,Z5,Z3,Z8,Y4,Q3,Q4,Q0,i0,q1,aA6,aA5,aA7,Z1,Prod.mk.injEq,true_and,Z9,exists_eq']
 case pos =>
  by_cases q2:(r0.right.length:Int)=1
  case neg =>
   simp only [Zaf,Zag,Zah,Zam,Zan,Zao,Zaq,Zav,Zbc,Zbd,Zbe,Zbg,Zbh,Zbk,Zbl,Zbm,Zbn,Zbo,Zbp,Zbq,Zbr,Zbs,Zbt,Zbu,Zcc,Zcf,Zck,Zcw,Zcy,Zcz,Zda,Zdb,Zdc,Q0,Q7,Q5,Q6,Z6,Z4,Zdq,Zdx,Zeb,Zed,Zee,Zef,Zet,decide_true,decide_false,Y3,Y2,Q8,Y5,Q1,Q2,if_true,Nat.reduceAdd,Nat.reduceSub,Nat.reduceLeDiff,Int.reduceNeg,eq_self,and_self,true_and,Q1,Q2,Q9,Z0,Q3,Q4,aA2,aA4,aA3,part,aAq,aAm,Y6,Y8,aAn,Y0,Z7,Z5,Z3,Z8,Y4,Q3,Q4,Q0,i0,q1,q2,aA6,aA5,aA7,Z1,Prod.mk.injEq,true_and,Z9,Y1,exists_eq']
  case pos =>
   have q2':r0.right.length=1:=by omega
   obtain ⟨y,hy⟩:∃ y,r0.right=[y]:=List.length_eq_one_iff.1 q2'
   have i1:∀ h,aAs h 1 (.vsl false (eIs r0.right)) (.int .i64 0)=some (.vptr (eI y) 0):=fun h=>by rw [hy];rfl
   have hy0:r0.right.getD 0 0=y:=by rw [hy];rfl
   rw [hy0]
   by_cases q3:(-1:Int)≤y
   case pos =>
    have q3':¬ (y < -1):=by omega
    simp only [Zaf,Zag,Zah,Zam,Zan,Zao,Zaq,Zav,Zbc,Zbd,Zbe,Zbg,Zbh,Zbk,Zbl,Zbm,Zbn,Zbo,Zbp,Zbq,Zbr,Zbs,Zbt,Zbu,Zcc,Zcf,Zck,Zcw,Zcy,Zcz,Zda,Zdb,Zdc,Q0,Q7,Q5,Q6,Z6,Z4,Zdo,Zdq,Zdx,Zeb,Zed,Zee,Zef,Zet,decide_true,decide_false,Y3,Q8,Y5,Q1,Q2,if_true,Nat.reduceAdd,Nat.reduceSub,Nat.reduceLeDiff,Int.reduceNeg,eq_self,and_self,true_and,Q1,Q2,Q9,Z0,Q3,Q4,aA2,aA4,aA3,part,eI,aAq,aAm,Y6,Y8,aAn,Y0,Z7,Z5,Z3,Z8,Y4,Q3,Q4,Q0,i0,i1,q1,q2,q3,q3',aA6,aA5,aA7,Z1,Prod.mk.injEq,true_and,Z9,Y1,exists_eq']
   case neg =>
    have q3':y < -1:=by omega
    cases hs:aF7 g y
    ·simp only [Zaf,Zag,Zah,Zam,Zan,Zao,Zaq,Zav,Zbc,Zbd,Zbe,Zbg,Zbl,Zbm,Zbn,Zbo,Zbp,Zbq,Zbr,Zbs,Zbt,Zbu,Zbv,Zcc,Zcf,Zck,Zct,Zcu,Zcw,Zcy,Zcz,Zda,Zdb,Zdc,Zdd,Zde,Q0,Q7,Q5,Q6,Z6,Z4,Zdo,Zdq,Zdv,Zdx,Zeb,Zed,Zee,Zef,Zet,decide_true,decide_false,Y3,Y2,Q8,Y5,Q1,Q2,if_true,Nat.reduceAdd,Nat.reduceSub,Nat.reduceLeDiff,Int.reduceNeg,eq_self,and_self,true_and,Q1,Q2,Q9,Z0,Q3,Q4,aA2,aA4,aA3,part,eI,aAq,aAm,Y6,Y8,aAn,Y0,Z7,Z5,Z3,Z8,Y4,Q3,Q4,Q0,i0,i1,q1,q2,q3,q3',t1,hs,aA6,aA5,aA7,Z1,Prod.mk.injEq,true_and,Z9,Y1,exists_eq']
    ·simp only [Zae,Zaf,Zag,Zah,Zam,Zan,Zao,Zaw,Zbc,Zbd,Zbe,Zbg,Zbl,Zbm,Zbn,Zbo,Zbp,Zbq,Zbr,Zbs,Zbt,Zbu,Zbv,Zca,Zcc,Zcf,Zck,Zct,Zcu,Zcw,Zcy,Zcz,Zda,Zdb,Zdc,Zdd,Zde,Q0,Q7,Q5,Q6,Z6,Z4,Zdo,Zdq,Zdv,Zdx,Zeb,Zed,Zee,Zef,Zet,decide_true,decide_false,Y3,Q8,Y5,Q1,Q2,if_true,Nat.reduceAdd,Nat.reduceSub,Nat.reduceLeDiff,Int.reduceNeg,eq_self,and_self,true_and,Q1,Q2,Q9,Z0,Q3,Q4,aA2,aA4,aA3,part,eI,aAq,aAm,Y6,Y8,aAn,Y0,Z7,Z5,Z3,Z8,Y4,Q3,Q4,Q0,i0,i1,q1,q2,q3,q3',t1,hs,s1,c1,Option.map_none,aA6,aA5,aA7,Z1,Prod.mk.injEq,true_and,Bool.true_and,exists_eq']
end Go.Proofs.Yteenffomgdfocaa.Ai
namespace Go.Proofs.Yteenffomgdfocaa.Ai
open Go Go.Proofs
open AV renaming junk → J
open List renaming set_cons_zero → Q0, length_cons → Q1, cons_append → Q2, length_nil → Q3, nil_append → Q4, getD_cons_zero → Q5, getD_cons_succ → Q6, set_cons_succ → Q7, getElem?_cons_zero → Q8, take_succ_cons → Q9, drop_zero → Z1, replicate_succ → Z2, replicate_zero → Z3, getElem?_cons_succ → Z4, drop_succ_cons → Z5, take_zero → Z7, take_nil → Z9, length_map → Y3
open Option renaming bind_some → Z0, map_some → Z8
open Option.some renaming injEq → Z6
open Bool renaming not_true → Y0, and_self → Y1, not_false → Y2, false_and → Y4, and_false → Y5
set_option linter.unusedVariables false
set_option linter.unusedSimpArgs false
set_option maxRecDepth 10000
theorem aQn (g:GramD) (hg:g.Ok) (s:Int) (H:aA0):lim G0.cfg (.func 58) [.int .i64 s,.vptr (aA8 g) 0] H=some (.bool (aBh g s),H):=by
 refine aAy rfl rfl aG2 1 (fun h=>aDX rfl rfl) ?_ (fun _=>rfl) H
 have t1:=aNP g hg s
 rw [aJ0]
 unfold aBh
 cases hs:aF7 g s
 ·simp only [Zaf,Zag,Zam,Zan,Zao,Zbc,Zbd,Zbh,Zbj,Zbk,Zbm,Zbn,Zbo,Zbp,Zbs,Zbv,Zct,Zcu,Zcy,Zcz,Zda,Zdb,Zdd,Zde,Q0,Q7,Q5,Q6,Z0,Z8,Zdv,Zee,Y2,Q1,Q3,if_true,Nat.reduceAdd,Nat.reduceSub,Nat.reduceLeDiff,Int.reduceNeg,eq_self,true_and,Q1,Q3,Z2,Z3,Q2,Q4,aA2,aA4,part,Z1,Q9,Z9,Q2,Q4,Q0,t1,hs,aA6,aA5,aA7,Z6,Prod.mk.injEq,true_and,Bool.true_or,exists_eq']
 ·by_cases q1 : -1≤s
  ·simp only [Zaf,Zag,Zam,Zan,Zao,Zbc,Zbd,Zbf,Zbg,Zbk,Zbl,Zbm,Zbn,Zbo,Zbp,Zbs,Zbu,Zbv,Zct,Zcu,Zcy,Zcz,Zda,Zdb,Zdd,Zde,Q0,Q7,Q5,Q6,Z0,Z8,Zdm,Zdo,Zdv,Zee,decide_true,Y0,Q1,Q3,if_true,Nat.reduceAdd,Nat.reduceSub,Nat.reduceLeDiff,Int.reduceNeg,eq_self,true_and,Q1,Q3,Z2,Z3,Q2,Q4,aA2,aA4,part,Z1,Q9,Z9,Q2,Q4,Q0,t1,hs,q1,aA6,aA5,aA7,Z6,Prod.mk.injEq,true_and,Bool.true_and,Bool.false_or,exists_eq']
  ·simp only [Zaf,Zag,Zam,Zan,Zao,Zbc,Zbd,Zbg,Zbi,Zbl,Zbm,Zbn,Zbo,Zbp,Zbs,Zbu,Zbv,Zct,Zcu,Zcy,Zcz,Zda,Zdb,Zdd,Zde,Q0,Q7,Q5,Q6,Z0,Z8,Zdo,Zdv,Zee,decide_false,Y0,Q1,Q3,if_true,Nat.reduceAdd,Nat.reduceSub,Nat.reduceLeDiff,Int.reduceNeg,eq_self,true_and,Q1,Q3,Z2,Z3,Q2,Q4,aA2,aA4,part,Z1,Q9,Z9,Q2,Q4,Q0,t1,hs,q1,aA6,aA5,aA7,Z6,Prod.mk.injEq,true_and,Y4,Bool.or_false,exists_eq']
theorem aS2 (g:GramD) (hg:g.Ok) (x:RuleD) (hx:x.Ok) (ahead:Int) (H:aA0):lim G0.cfg (.func 42) [.agg (aA8 g),.agg (aAt x),.int .i64 ahead] H=some (.int .i64 (aB1 g x ahead),H):=by
 refine aAy rfl rfl aGO 1 (fun h=>aQk (aAU g h) (aNN x h) rfl) ?_ (fun _=>rfl) H
 have w1:=aIM
 have hn:=hg.nonterms
 rw [aAp] at hn
 have hw:IntKind.i64.wrap ((g.nonterms.length:Int) - 1)=(g.nonterms.length:Int) - 1:=w64 (by omega) (by omega)
 have c1:lim G0.cfg (.func 22) [.vsl false (eIs x.right),.fn (.func 58) [] [.ptr 0 0 0 0]] [.arr 0 5 true [aA8 g],.arr 0 5 true [aAt x]]=some (.bool (x.right.any (aBh g)),[.arr 0 5 true [aA8 g],.arr 0 5 true [aAt x]]) :=
  aG7 (l:=x.right) (g:=58) (caps:=[.ptr 0 0 0 0]) (caps':=[.vptr (aA8 g) 0]) (bs:=[(.vptr (aA8 g) 0,false)]) (p:=aBh g) rfl rfl (fun s _ H=>aQn g hg s H) hx.right (fun _=>rfl)
 rw [aKm]
 by_cases q1:0≤x.left
 case neg =>
  have hE:aB1 g x ahead=22:=if_pos (by omega)
  simp only [Zaf,Zag,Zah,Zam,Zan,Zao,Zaq,Zav,Zbc,Zbd,Zbh,Zbk,Zbm,Zbn,Zbo,Zbp,Zbr,Zbs,Zbu,Zbv,Zcc,Zck,Zct,Zcu,Zcw,Zcy,Zcz,Zda,Zdb,Zdd,Zde,Q0,Q7,Q5,Q6,Z0,Z8,Zdj,Zdv,Zdx,Zeb,Zed,Zef,Zeu,decide_false,Y2,Q8,Z4,Q1,Q3,if_true,Nat.reduceAdd,Nat.reduceSub,Nat.reduceLeDiff,eq_self,true_and,Q1,Q3,Z2,Z3,Q2,Q4,aA2,aA4,aA3,part,Z1,Z5,Q9,Z7,Q2,Q4,Q0,w1,hw,hE,q1,aA6,aA5,aA7,Z6,Prod.mk.injEq,true_and,Y4,exists_eq']
 case pos =>
 by_cases q2:x.left≤(g.nonterms.length:Int) - 1
 case neg =>
  have hE:aB1 g x ahead=22:=if_pos (by omega)
  simp only [Zaf,Zag,Zah,Zam,Zan,Zao,Zaq,Zav,Zbc,Zbd,Zbh,Zbk,Zbm,Zbn,Zbo,Zbp,Zbr,Zbs,Zbu,Zbv,Zcc,Zck,Zct,Zcu,Zcw,Zcy,Zcz,Zda,Zdb,Zdd,Zde,Q0,Q7,Q5,Q6,Z0,Z8,Zdj,Zdv,Zdx,Zeb,Zed,Zef,Zeu,decide_true,decide_false,Y2,Q8,Z4,Q1,Q3,if_true,Nat.reduceAdd,Nat.reduceSub,Nat.reduceLeDiff,eq_self,true_and,Q1,Q3,Z2,Z3,Q2,Q4,aA2,aA4,aA3,part,Z1,Z5,Q9,Z7,Q2,Q4,Q0,w1,hw,hE,q1,q2,aA6,aA5,aA7,Z6,Prod.mk.injEq,true_and,Y5,exists_eq']
 case pos =>
 by_cases q3:x.left < ahead
 case pos =>
  have hE:aB1 g x ahead=22:=if_pos (by omega)
  simp only [Zaf,Zag,Zah,Zam,Zan,Zao,Zaq,Zav,Zbc,Zbd,Zbg,Zbh,Zbk,Zbl,Zbm,Zbn,Zbo,Zbp,Zbr,Zbs,Zbu,Zbv,Zcc,Zck,Zct,Zcu,Zcw,Zcy,Zcz,Zda,Zdb,Zdd,Zde,Q0,Q7,Q5,Q6,Z0,Z8,Zdj,Zdl,Zdv,Zdx,Zeb,Zed,Zef,Zeu,decide_true,Y0,Q8,Z4,Q1,Q3,if_true,Nat.reduceAdd,Nat.reduceSub,Nat.reduceLeDiff,eq_self,true_and,Q1,Q3,Z2,Z3,Q2,Q4,aA2,aA4,aA3,part,Y1,Z1,Z5,Q9,Z7,Q2,Q4,Q0,w1,hw,hE,q1,q2,q3,aA6,aA5,aA7,Z6,Prod.mk.injEq,true_and,exists_eq']
 case neg =>
 by_cases q4:(32:Int) < x.right.length
 case pos =>
  have hE:aB1 g x ahead=22:=if_pos (by omega)
  simp only [Zaf,Zag,Zah,Zam,Zan,Zao,Zaq,Zav,Zbc,Zbd,Zbg,Zbl,Zbm,Zbn,Zbo,Zbp,Zbr,Zbs,Zbu,Zbv,Zcc,Zck,Zct,Zcu,Zcw,Zcy,Zcz,Zda,Zdb,Zdd,Zde,Q0,Q7,Q5,Q6,Z0,Z8,Zdj,Zdl,Zdn,Zdv,Zdx,Zeb,Zed,Zef,Zet,Zeu,decide_true,decide_false,Y0,Q8,Z4,Q1,Q3,if_true,Nat.reduceAdd,Nat.reduceSub,Nat.reduceLeDiff,eq_self,true_and,Q1,Q3,Z2,Z3,Q2,Q4,aA2,aA4,aA3,part,Y1,Z1,Z5,Q9,Z7,Q2,Q4,Q0,w1,hw,hE,q1,q2,q3,q4,aA6,aA5,aA7,Z6,Prod.mk.injEq,true_and,exists_eq']
 case neg =>
 have hE:aB1 g x ahead=if x.right.any (aBh g)=true then 21
  else if (x.fields.length:Int)≠0∧(x.fields.length:Int)≠x.right.length then 25
  else if x.level < 0∨(g.levels.length:Int) < x.level then 24
  else 0:=if_neg (by omega)
 rw [hE]
 clear hE
 cases q5:x.right.any (aBh g)
 case true =>
  rw [q5] at c1
  simp only [Zae,Zaf,Zag,Zah,Zam,Zan,Zao,Zaq,Zav,Zaw,Zbc,Zbd,Zbg,Zbl,Zbm,Zbn,Zbo,Zbp,Zbr,Zbs,Zbu,Zbv,Zbx,Zcc,Zck,Zct,Zcu,Zcw,Zcy,Zcz,Zda,Zdb,Zdd,Zde,Q0,Q7,Q5,Q6,Z0,Z8,Zdj,Zdl,Zdn,Zdv,Zdx,Zeb,Zed,Zef,Zet,Zeu,decide_true,decide_false,Y0,Q8,Z4,Q1,Q3,if_true,Nat.reduceAdd,Nat.reduceSub,Nat.reduceLeDiff,eq_self,true_and,Q1,Q3,Z2,Z3,Q2,Q4,aA2,aA4,aA3,part,Y1,Z1,Z5,Q9,Z7,Q2,Q4,Q0,w1,hw,q1,q2,q3,q4,c1,aA6,aA5,aA7,Z6,Prod.mk.injEq,true_and,exists_eq']
 case false =>
 rw [q5] at c1
 simp only [Bool.false_eq_true,if_false]
 by_cases q6:(x.fields.length:Int)=0
 case pos =>
  have hE:¬ ((x.fields.length:Int)≠0∧(x.fields.length:Int)≠x.right.length):=by omega
  rw [if_neg hE]
  by_cases q8:0≤x.level
  case neg =>
   rw [if_pos (by omega)]
   simp only [Zae,Zaf,Zag,Zah,Zam,Zan,Zao,Zaq,Zav,Zaw,Zbc,Zbd,Zbg,Zbi,Zbl,Zbm,Zbn,Zbo,Zbp,Zbr,Zbs,Zbu,Zbv,Zbx,Zcc,Zck,Zct,Zcu,Zcw,Zcy,Zcz,Zda,Zdb,Zdd,Zde,Q0,Q7,Q5,Q6,Z0,Z8,Zdj,Zdl,Zdn,Zdq,Zdv,Zdx,Zeb,Zed,Zef,Zet,Zeu,decide_true,decide_false,Y0,Y2,Q8,Z4,Q1,Q3,if_true,Nat.reduceAdd,Nat.reduceSub,Nat.reduceLeDiff,eq_self,true_and,Y3,Q1,Q3,Z2,Z3,Q2,Q4,aA2,aA4,aA3,part,Y1,Z1,Z5,Q9,Z7,Z9,Q2,Q4,Q0,w1,hw,q1,q2,q3,q4,q6,q8,c1,aA6,aA5,aA7,Z6,Prod.mk.injEq,true_and,Y4,exists_eq']
  case pos =>
  by_cases q9:x.level≤(g.levels.length:Int)
  case neg =>
   rw [if_pos (by omega)]
   simp only [Zae,Zaf,Zag,Zah,Zam,Zan,Zao,Zaq,Zav,Zaw,Zbc,Zbd,Zbg,Zbi,Zbl,Zbm,Zbn,Zbo,Zbp,Zbr,Zbs,Zbu,Zbv,Zbx,Zcc,Zck,Zct,Zcu,Zcw,Zcy,Zcz,Zda,Zdb,Zdd,Zde,Q0,Q7,Q5,Q6,Z0,Z8,Zdj,Zdl,Zdn,Zdq,Zdv,Zdx,Zeb,Zed,Zef,Zet,Zeu,decide_true,decide_false,Y0,Y2,Q8,Z4,Q1,Q3,if_true,Nat.reduceAdd,Nat.reduceSub,Nat.reduceLeDiff,eq_self,true_and,Y3,Q1,Q3,Z2,Z3,Q2,Q4,aA2,aA4,aA3,part,Y1,Z1,Z5,Q9,Z7,Z9,Q2,Q4,Q0,Y3,w1,hw,q1,q2,q3,q4,q6,q8,q9,c1,aA6,aA5,aA7,Z6,Prod.mk.injEq,true_and,Y5,exists_eq']
  case pos =>
   rw [if_neg (by omega)]
   simp only [Zae,Zaf,Zag,Zah,Zam,Zan,Zao,Zaw,Zbc,Zbd,Zbg,Zbi,Zbl,Zbm,Zbn,Zbo,Zbp,Zbr,Zbs,Zbu,Zbv,Zbx,Zcc,Zck,Zct,Zcu,Zcw,Zcy,Zcz,Zda,Zdb,Zdd,Zde,Q0,Q7,Q5,Q6,Z0,Z8,Zdj,Zdl,Zdn,Zdq,Zdv,Zdx,Zeb,Zed,Zef,Zet,Zeu,decide_true,decide_false,Y0,Q8,Z4,Q1,Q3,if_true,Nat.reduceAdd,Nat.reduceSub,Nat.reduceLeDiff,eq_self,true_and,Y3,Q1,Q3,Z2,Z3,Q2,Q4,aA2,aA4,aA3,part,Y1,Z1,Z5,Q9,Z7,Z9,Q2,Q4,Q0,Y3,w1,hw,q1,q2,q3,q4,q6,q8,q9,c1,aA6,aA5,aA7,Z6,Prod.mk.injEq,true_and,exists_eq']
 case neg =>
 by_cases q7:(x.fields.length:Int)=x.right.length
 case neg =>
  rw [if_pos ⟨q6,q7⟩]
  simp only [Zae,Zaf,Zag,Zah,Zam,Zan,Zao,Zaq,Zav,Zaw,Zbc,Zbd,Zbf,Zbg,Zbk,Zbl,Zbm,Zbn,Zbo,Zbp,Zbr,Zbs,Zbu,Zbv,Zbx,Zcc,Zck,Zct,Zcu,Zcw,Zcy,Zcz,Zda,Zdb,Zdd,Zde,Q0,Q7,Q5,Q6,Z0,Z8,Zdj,Zdl,Zdn,Zdq,Zdv,Zdx,Zeb,Zed,Zef,Zet,Zeu,decide_true,decide_false,Y0,Y2,Q8,Z4,Q1,Q3,if_true,Nat.reduceAdd,Nat.reduceSub,Nat.reduceLeDiff,eq_self,true_and,Q1,Q3,Z2,Z3,Q2,Q4,aA2,aA4,aA3,part,Y1,Z1,Z5,Q9,Z7,Q2,Q4,Q0,w1,hw,q1,q2,q3,q4,q6,q7,c1,aA6,aA5,aA7,Z6,Prod.mk.injEq,true_and,exists_eq']
 case pos =>
  have q6':¬ (x.right.length:Int)=0:=by omega
  have hE:¬ ((x.fields.length:Int)≠0∧(x.fields.length:Int)≠x.right.length):=by omega
  rw [if_neg hE]
  by_cases q8:0≤x.level
  case neg =>
   rw [if_pos (by omega)]
   simp only [Zae,Zaf,Zag,Zah,Zam,Zan,Zao,Zaq,Zav,Zaw,Zbc,Zbd,Zbf,Zbg,Zbk,Zbl,Zbm,Zbn,Zbo,Zbp,Zbr,Zbs,Zbu,Zbv,Zbx,Zcc,Zck,Zct,Zcu,Zcw,Zcy,Zcz,Zda,Zdb,Zdd,Zde,Q0,Q7,Q5,Q6,Z0,Z8,Zdj,Zdl,Zdn,Zdq,Zdv,Zdx,Zeb,Zed,Zef,Zet,Zeu,decide_true,decide_false,Y0,Y2,Q8,Z4,Q1,Q3,if_true,Nat.reduceAdd,Nat.reduceSub,Nat.reduceLeDiff,eq_self,true_and,Y3,Q1,Q3,Z2,Z3,Q2,Q4,aA2,aA4,aA3,part,Y1,Z1,Z5,Q9,Z7,Z9,Q2,Q4,Q0,w1,hw,q1,q2,q3,q4,q6',q7,q8,c1,aA6,aA5,aA7,Z6,Prod.mk.injEq,true_and,Y4,exists_eq']
  case pos =>
  by_cases q9:x.level≤(g.levels.length:Int)
  case neg =>
   rw [if_pos (by omega)]
   simp only [Zae,Zaf,Zag,Zah,Zam,Zan,Zao,Zaq,Zav,Zaw,Zbc,Zbd,Zbf,Zbg,Zbk,Zbl,Zbm,Zbn,Zbo,Zbp,Zbr,Zbs,Zbu,Zbv,Zbx,Zcc,Zck,Zct,Zcu,Zcw,Zcy,Zcz,Zda,Zdb,Zdd,Zde,Q0,Q7,Q5,Q6,Z0,Z8,Zdj,Zdl,Zdn,Zdq,Zdv,Zdx,Zeb,Zed,Zef,Zet,Zeu,decide_true,decide_false,Y0,Y2,Q8,Z4,Q1,Q3,if_true,Nat.reduceAdd,Nat.reduceSub,Nat.reduceLeDiff,eq_self,true_and,Y3,Q1,Q3,Z2,Z3,Q2,Q4,aA2,aA4,aA3,part,Y1,Z1,Z5,Q9,Z7,Z9,Q2,Q4,Q0,Y3,w1,hw,q1,q2,q3,q4,q6',q7,q8,q9,c1,aA6,aA5,aA7,Z6,Prod.mk.injEq,true_and,Y5,exists_eq']
  case pos =>
   rw [if_neg (by omega)]
   simp only [Zae,Zaf,Zag,Zah,Zam,Zan,Zao,Zaw,Zbc,Zbd,Zbf,Zbg,Zbk,Zbl,Zbm,Zbn,Zbo,Zbp,Zbr,Zbs,Zbu,Zbv,Zbx,Zcc,Zck,Zct,Zcu,Zcw,Zcy,Zcz,Zda,Zdb,Zdd,Zde,Q0,Q7,Q5,Q6,Z0,Z8,Zdj,Zdl,Zdn,Zdq,Zdv,Zdx,Zeb,Zed,Zef,Zet,Zeu,decide_true,decide_false,Y0,Y2,Q8,Z4,Q1,Q3,if_true,Nat.reduceAdd,Nat.reduceSub,Nat.reduceLeDiff,eq_self,true_and,Y3,Q1,Q3,Z2,Z3,Q2,Q4,aA2,aA4,aA3,part,Y1,Z1,Z5,Q9,Z7,Z9,Q2,Q4,Q0,Y3,w1,hw,q1,q2,q3,q4,q6',q7,q8,q9,c1,aA6,aA5,aA7,Z6,Prod.mk.injEq,true_and,exists_eq']
theorem aL5 (g:GramD) (hg:g.Ok) (n:Nat):∀ (d i m:Nat) (a:Int) (h:aA0),g.rules.length=i+d→d < m→h[0]?=some (.arr 0 5 true [aA8 g])→∃ h',h'[0]?=some (.arr 0 5 true [aA8 g]) ∧
  aAj (aA1 (lim G0.cfg) n aBW) m ⟨(J::.ptr 0 0 0 0::J::.int .i64 a::J::J::J::J::J::J::J::J::J::J::J::J::J::J::J::J::J::J::J::J::J::J::J::J::J::J::.vsl false (g.rules.map aAt)::.int .i64 g.rules.length::.int .i64 i::J::J::J::J::J::J::J::J::J::J::J::J::J::J::J::J::J::J::J::J::J::J::J::J::J::J::J::J::J::J::J::J::J::J::J::J::J::J::J::J::J::J::J::J::J::J::J::J::J::J::J::J::J::[]),h⟩ =
   if aAP g (g.rules.drop i) a=0 then some (.exit 1,⟨(J::.ptr 0 0 0 0::J::J::J::J::J::J::J::J::J::J::J::J::J::J::J::J::J::J::J::J::J::J::J::J::J::J::J::J::J::J::J::J::J::J::J::J::J::J::J::J::J::J::J::J::J::J::J::J::J::J::J::J::J::J::J::J::J::J::J::J::J::J::J::J::J::J::J::J::J::J::J::J::J::J::J::J::J::J::J::J::J::J::J::J::[]),h'⟩) else some (.ret,⟨(J::J::.int .i64 (aAP g (g.rules.drop i) a)::J::J::J::J::J::J::J::J::J::J::J::J::J::J::J::J::J::J::J::J::J::J::J::J::J::J::J::J::J::J::J::J::J::J::J::J::J::J::J::J::J::J::J::J::J::J::J::J::J::J::J::J::J::J::J::J::J::J::J::J::J::J::J::J::J::J::J::J::J::J::J::J::J::J::J::J::J::J::J::J::J::J::J::[]),h'⟩):=by
 have hm:=hg.rules
 rw [aAp] at hm
 intro d
 induction d with
 | zero =>
  intro i m a h h1 h2 hb
  obtain ⟨m,rfl⟩:∃ q,m=q+1:=⟨m - 1,by omega⟩
  have e1:g.rules.drop i=[]:=List.drop_eq_nil_iff.2 (by omega)
  have h3:¬ ((i:Int) < g.rules.length):=by omega
  exact ⟨h,hb,by simp only [aAb,aDH,Zaf,Zag,Zah,Zak,Zal,Zan,Zao,Zap,Zaw,Zaz,Zbc,Zbm,Zbu,Zcz,Zdb,Zdf,Zdg,Zdh,Q0,Q7,Q5,Q6,Zdl,decide_false,if_true,eq_self,h3,e1,aAP]⟩
 | succ d ih =>
  intro i m a h h1 h2 hb
  obtain ⟨m,rfl⟩:∃ q,m=q+1:=⟨m - 1,by omega⟩
  have h3:i < g.rules.length:=by omega
  have h3':(i:Int) < g.rules.length:=by omega
  have e1:g.rules.drop i=g.rules[i]::g.rules.drop (i+1):=List.drop_eq_getElem_cons h3
  have hw:=aAV (n:=i) (by omega)
  have hr:=aS2 g hg g.rules[i] (hg.rule _ (List.getElem_mem h3)) a
  have hb2:=aAX hb [.arr 0 5 true [aAt g.rules[i]]]
  by_cases q:aB1 g g.rules[i] a=0
  ·obtain ⟨h',hb',e⟩:=ih (i+1) m (g.rules[i]).left (h++[.arr 0 5 true [aAt g.rules[i]]]) (by omega) (by omega) hb2
   refine ⟨h',hb',?_⟩
   have e2:aAP g (g.rules.drop i) a=aAP g (g.rules.drop (i+1)) (g.rules[i]).left:=by rw [e1];simp [aAP,q]
   rw [e2]
   simp only [aAb,aDH,Zae,Zaf,Zag,Zah,Zai,Zak,Zan,Zao,Zar,Zav,Zaw,Zay,Zbc,Zbd,Zbe,Zbm,Zbo,Zbq,Zbs,Zbt,Zbu,Zcc,Zcf,Zct,Zcu,Zcz,Zda,Zdb,Zdc,Zdd,Zde,Zdf,Zdg,Zdh,Q0,Q7,Q5,Q6,Z0,Zdi,Zdl,Zdq,Zeb,Zed,Zee,Zef,decide_true,Y0,Q8,Q1,Q3,if_true,Nat.reduceAdd,Nat.reduceLeDiff,eq_self,and_self,aA2,aA4,aA3,part,aAq,aAm,aB9,aCv,List.all_cons,List.all_nil,aAn,Y1,Z1,Z5,Q9,Z7,Z9,Q2,Q4,Q0,h3',aBg aAt _ 5 _ g.rules _ i h3 rfl,hw,hb2,hr,q,e]
  ·refine ⟨h++[.arr 0 5 true [aAt g.rules[i]]],hb2,?_⟩
   have e2:aAP g (g.rules.drop i) a=aB1 g g.rules[i] a:=by rw [e1];simp [aAP,q]
   rw [e2,if_neg q]
   simp only [aAb,aDH,Zae,Zaf,Zag,Zah,Zai,Zak,Zam,Zan,Zao,Zaq,Zas,Zav,Zba,Zbc,Zbd,Zbe,Zbm,Zbo,Zbq,Zbs,Zbt,Zbu,Zcf,Zct,Zcu,Zcz,Zda,Zdb,Zdc,Zdd,Zde,Zdf,Zdg,Zdh,Q0,Q7,Q5,Q6,Z0,Zdl,Zdq,Zee,Zef,decide_true,decide_false,Y2,Q8,Q1,Q3,if_true,Nat.reduceAdd,Nat.reduceLeDiff,eq_self,and_self,aA2,aA4,aA3,part,aAq,aAm,aB9,aCv,List.all_cons,List.all_nil,aAn,Y1,Z1,Z5,Q9,Z7,Z9,Q2,Q4,Q0,h3',aBg aAt _ 5 _ g.rules _ i h3 rfl,hb2,hr,q]
def aHa (L:List (Int × Int)) (seen:List Int):Prop:=∀ t,(aGU L t).getD 0=if t ∈ seen then 1 else 0
theorem aL3 (g:GramD) (hg:g.Ok) (n:Nat) (ts:List Int) (ht:ts.length≤maxLen) (x1 x2 x3:AV) (i1:Nat) (hi1:i1≠0):∀ (d i m:Nat) (L:List (Int × Int)) (seen:List Int) (h:aA0),ts.length=i+d→d < m→aHa L seen →
  h[0]?=some (.arr 0 5 true [aA8 g])→h[i1]?=some (.map (mE (AV.int .i64) (AV.int .i64) L)) →
  match aEp g.terms.length (ts.drop i) seen with
  | some s'=>∃ L' h',aHa L' s'∧h'[0]?=some (.arr 0 5 true [aA8 g])∧h'[i1]?=some (.map (mE (AV.int .i64) (AV.int .i64) L')) ∧
   aAj (aA1 (lim G0.cfg) n aB2) m ⟨(J::.ptr 0 0 0 0::J::J::J::J::J::.map i1::J::J::J::J::J::J::J::J::J::J::J::J::J::J::J::J::J::J::J::J::J::J::J::J::J::J::J::J::J::J::J::J::J::J::J::J::J::J::J::J::x1::x2::x3::J::J::J::J::J::J::J::J::J::J::J::J::.vsl false (eIs ts)::.int .i64 ts.length::.int .i64 i::J::J::J::J::J::J::J::J::J::J::J::J::J::J::J::J::J::J::J::J::[]),h⟩ =
    some (.exit 5,⟨(J::.ptr 0 0 0 0::J::J::J::J::J::.map i1::J::J::J::J::J::J::J::J::J::J::J::J::J::J::J::J::J::J::J::J::J::J::J::J::J::J::J::J::J::J::J::J::J::J::J::J::J::J::J::J::x1::x2::x3::J::J::J::J::J::J::J::J::J::J::J::J::J::J::J::J::J::J::J::J::J::J::J::J::J::J::J::J::J::J::J::J::J::J::J::[]),h'⟩)
  | none=>∃ h',aAj (aA1 (lim G0.cfg) n aB2) m ⟨(J::.ptr 0 0 0 0::J::J::J::J::J::.map i1::J::J::J::J::J::J::J::J::J::J::J::J::J::J::J::J::J::J::J::J::J::J::J::J::J::J::J::J::J::J::J::J::J::J::J::J::J::J::J::J::x1::x2::x3::J::J::J::J::J::J::J::J::J::J::J::J::.vsl false (eIs ts)::.int .i64 ts.length::.int .i64 i::J::J::J::J::J::J::J::J::J::J::J::J::J::J::J::J::J::J::J::J::[]),h⟩ =
    some (.ret,⟨(J::J::.int .i64 24::J::J::J::J::J::J::J::J::J::J::J::J::J::J::J::J::J::J::J::J::J::J::J::J::J::J::J::J::J::J::J::J::J::J::J::J::J::J::J::J::J::J::J::J::J::J::J::J::J::J::J::J::J::J::J::J::J::J::J::J::J::J::J::J::J::J::J::J::J::J::J::J::J::J::J::J::J::J::J::J::J::J::J::[]),h'⟩):=by
 rw [aAp] at ht
 have hT:=hg.terms
 rw [aAp] at hT
 have w1:=aIM
 have hwT:IntKind.i64.wrap ((g.terms.length:Int) - 1)=(g.terms.length:Int) - 1:=w64 (by omega) (by omega)
 intro d
 induction d with
 | zero =>
  intro i m L seen h h1 h2 hs hb hl
  obtain ⟨m,rfl⟩:∃ q,m=q+1:=⟨m - 1,by omega⟩
  have e1:ts.drop i=[]:=List.drop_eq_nil_iff.2 (by omega)
  have h3:¬ ((i:Int) < ts.length):=by omega
  rw [e1]
  exact ⟨L,h,hs,hb,hl,by simp only [aAb,aBI,Zaf,Zag,Zah,Zak,Zal,Zan,Zao,Zap,Zaw,Zaz,Zbc,Zbm,Zbu,Zcz,Zdb,Zdf,Zdg,Zdh,Q0,Q7,Q5,Q6,Zdl,decide_false,eq_self,h3]⟩
 | succ d ih =>
  intro i m L seen h h1 h2 hs hb hl
  obtain ⟨m,rfl⟩:∃ q,m=q+1:=⟨m - 1,by omega⟩
  have h3:i < ts.length:=by omega
  have h3':(i:Int) < ts.length:=by omega
  have e1:ts.drop i=ts[i]::ts.drop (i+1):=List.drop_eq_getElem_cons h3
  have hw:=aAV (n:=i) (by omega)
  have a1:aGg h .int (.int .i64 0) false (.map i1) (.int .i64 ts[i])=some (.int .i64 ((aGU L ts[i]).getD 0)):=by
   rw [aMn .int (AV.int .i64) (AV.int .i64) aJh hl,aM1]
  have a2:=aJs .int (AV.int .i64) (AV.int .i64) aJh hl ts[i] 1
  rw [e1]
  simp only [aEp]
  by_cases q1:(2:Int)≤ts[i]
  case neg =>
   rw [if_pos (by omega)]
   exact ⟨h,by simp only [aAb,aBI,Zae,Zaf,Zag,Zah,Zai,Zak,Zam,Zan,Zao,Zaq,Zas,Zav,Zba,Zbc,Zbd,Zbh,Zbk,Zbm,Zbn,Zbo,Zbp,Zbs,Zbu,Zbv,Zcc,Zcf,Zck,Zct,Zcu,Zcz,Zda,Zdb,Zdd,Zde,Zdf,Zdg,Zdh,Q0,Q7,Q5,Q6,Z0,Zdj,Zdl,Zdv,Zdx,Zeb,Zed,Zeu,decide_true,decide_false,Y2,Q8,Q1,Q3,if_true,Nat.reduceAdd,Nat.reduceLeDiff,eq_self,aA2,aA4,aA3,part,eI,Z1,Q9,Z7,Z9,Q2,Q4,Q0,h3',aCa _ _ ts _ i h3,hb,w1,hwT,q1,Y4]⟩
  case pos =>
  by_cases q2:ts[i]≤(g.terms.length:Int) - 1
  case neg =>
   rw [if_pos (by omega)]
   exact ⟨h,by simp only [aAb,aBI,Zae,Zaf,Zag,Zah,Zai,Zak,Zam,Zan,Zao,Zaq,Zas,Zav,Zba,Zbc,Zbd,Zbh,Zbk,Zbm,Zbn,Zbo,Zbp,Zbs,Zbu,Zbv,Zcc,Zcf,Zck,Zct,Zcu,Zcz,Zda,Zdb,Zdd,Zde,Zdf,Zdg,Zdh,Q0,Q7,Q5,Q6,Z0,Zdj,Zdl,Zdv,Zdx,Zeb,Zed,Zeu,decide_true,decide_false,Y2,Q8,Q1,Q3,if_true,Nat.reduceAdd,Nat.reduceLeDiff,eq_self,aA2,aA4,aA3,part,eI,Z1,Q9,Z7,Z9,Q2,Q4,Q0,h3',aCa _ _ ts _ i h3,hb,w1,hwT,q1,q2,Y5]⟩
  case pos =>
  have hsi:=hs ts[i]
  by_cases q3:ts[i] ∈ seen
  case pos =>
   rw [if_pos q3] at hsi
   rw [if_pos (.inr (.inr q3))]
   exact ⟨h,by simp only [aAb,aBI,Zae,Zaf,Zag,Zah,Zai,Zak,Zam,Zan,Zao,Zaq,Zas,Zav,Zba,Zbc,Zbd,Zbg,Zbl,Zbm,Zbn,Zbo,Zbp,Zbs,Zbu,Zbv,Zcc,Zcf,Zch,Zck,Zct,Zcu,Zcz,Zda,Zdb,Zdd,Zde,Zdf,Zdg,Zdh,Q0,Q7,Q5,Q6,Z0,Zdj,Zdl,Zdn,Zdv,Zdx,Zeb,Zed,Zeu,decide_true,Y0,Q8,Q1,Q3,if_true,Nat.reduceAdd,Nat.reduceLeDiff,Int.reduceLT,eq_self,aA2,aA4,aA3,part,eI,Y1,Z1,Q9,Z7,Z9,Q2,Q4,Q0,h3',aCa _ _ ts _ i h3,hb,w1,hwT,q1,q2,a1,hsi]⟩
  case neg =>
  rw [if_neg q3] at hsi
  rw [if_neg (by rintro (h | h | h);omega;omega;exact q3 h)]
  have hs':aHa (aDw L ts[i] 1) (ts[i]::seen):=fun t=>by
   rw [aQh]
   by_cases e:t=ts[i]
   ·simp [e]
   ·simp only [e,if_false,List.mem_cons,false_or];exact hs t
  have hb':(h.set i1 (.map (mE (AV.int .i64) (AV.int .i64) (aDw L ts[i] 1))))[0]?=some (.arr 0 5 true [aA8 g]):=by
   rw [List.getElem?_set_ne hi1];exact hb
  have hl':(h.set i1 (.map (mE (AV.int .i64) (AV.int .i64) (aDw L ts[i] 1))))[i1]?=some (.map (mE (AV.int .i64) (AV.int .i64) (aDw L ts[i] 1))) :=
   List.getElem?_set_self (List.getElem?_eq_some_iff.1 hl).1
  have:=ih (i+1) m (aDw L ts[i] 1) (ts[i]::seen) _ (by omega) (by omega) hs' hb' hl'
  have hstep:aAj (aA1 (lim G0.cfg) n aB2) (m+1) ⟨(J::.ptr 0 0 0 0::J::J::J::J::J::.map i1::J::J::J::J::J::J::J::J::J::J::J::J::J::J::J::J::J::J::J::J::J::J::J::J::J::J::J::J::J::J::J::J::J::J::J::J::J::J::J::J::x1::x2::x3::J::J::J::J::J::J::J::J::J::J::J::J::.vsl false (eIs ts)::.int .i64 ts.length::.int .i64 i::J::J::J::J::J::J::J::J::J::J::J::J::J::J::J::J::J::J::J::J::[]),h⟩ =
    aAj (aA1 (lim G0.cfg) n aB2) m ⟨(J::.ptr 0 0 0 0::J::J::J::J::J::.map i1::J::J::J::J::J::J::J::J::J::J::J::J::J::J::J::J::J::J::J::J::J::J::J::J::J::J::J::J::J::J::J::J::J::J::J::J::J::J::J::J::x1::x2::x3::J::J::J::J::J::J::J::J::J::J::J::J::.vsl false (eIs ts)::.int .i64 ts.length::.int .i64 ((i+1:Nat):Int)::J::J::J::J::J::J::J::J::J::J::J::J::J::J::J::J::J::J::J::J::[]),h.set i1 (.map (mE (AV.int .i64) (AV.int .i64) (aDw L ts[i] 1)))⟩:=by
   simp only [aAb,aBI,Zae,Zaf,Zag,Zah,Zai,Zak,Zan,Zao,Zar,Zav,Zaw,Zay,Zbc,Zbd,Zbe,Zbg,Zbl,Zbm,Zbn,Zbo,Zbp,Zbs,Zbu,Zbv,Zcc,Zcf,Zch,Zci,Zck,Zct,Zcu,Zcz,Zda,Zdb,Zdc,Zdd,Zde,Zdf,Zdg,Zdh,Q0,Q7,Q5,Q6,Z0,Zdi,Zdj,Zdl,Zdn,Zdv,Zdx,Zeb,Zed,Zeu,decide_true,decide_false,Y0,Q8,Q1,Q3,if_true,Nat.reduceAdd,Nat.reduceLeDiff,Int.reduceLT,eq_self,aA2,aA4,aA3,part,eI,Y1,Z1,Q9,Z7,Z9,Q2,Q4,Q0,h3',aCa _ _ ts _ i h3,hb,w1,hwT,q1,q2,a1,a2,hsi,hw]
  simp only [hstep]
  exact this
end Go.Proofs.Yteenffomgdfocaa.Ai
namespace Go.Proofs.Yteenffomgdfocaa.Ai
open Go Go.Proofs
open AV renaming junk → J
open List renaming set_cons_zero → Q0, length_cons → Q1, cons_append → Q2, length_nil → Q3, nil_append → Q4, getElem?_cons_zero → Q5, getD_cons_zero → Q6, getD_cons_succ → Q7, set_cons_succ → Q8, take_succ_cons → Q9, drop_zero → Z0, drop_succ_cons → Z2, take_nil → Z3, take_zero → Z4, replicate_succ → Z5, replicate_zero → Z6, length_map → Y0
open Option renaming bind_some → Z1, map_some → Z9
open Option.some renaming injEq → Z7
open Bool renaming true_eq_false → Z8, not_true → Y1, false_eq_true → Y2
set_option linter.unusedVariables false
set_option linter.unusedSimpArgs false
set_option maxRecDepth 10000
theorem aL4 (g:GramD) (hg:g.Ok) (n:Nat) (hn:∀ l ∈ g.levels,l.terms.length < n) (i1:Nat) (hi1:i1≠0):∀ (d i m:Nat) (L:List (Int × Int)) (seen:List Int) (h:aA0),g.levels.length=i+d→d < m→aHa L seen →
  h[0]?=some (.arr 0 5 true [aA8 g])→h[i1]?=some (.map (mE (AV.int .i64) (AV.int .i64) L)) →
  ∃ h',aAj (aA1 (lim G0.cfg) n aBV) m ⟨(J::.ptr 0 0 0 0::J::J::J::J::J::.map i1::J::J::J::J::J::J::J::J::J::J::J::J::J::J::J::J::J::J::J::J::J::J::J::J::J::J::J::J::J::J::J::J::J::J::J::J::J::J::J::J::.vsl false (g.levels.map aBm)::.int .i64 g.levels.length::.int .i64 i::J::J::J::J::J::J::J::J::J::J::J::J::J::J::J::J::J::J::J::J::J::J::J::J::J::J::J::J::J::J::J::J::J::J::J::[]),h⟩ =
    bif aBP g.terms.length (g.levels.drop i) seen then some (.exit 3,⟨(J::J::J::J::J::J::J::J::J::J::J::J::J::J::J::J::J::J::J::J::J::J::J::J::J::J::J::J::J::J::J::J::J::J::J::J::J::J::J::J::J::J::J::J::J::J::J::J::J::J::J::J::J::J::J::J::J::J::J::J::J::J::J::J::J::J::J::J::J::J::J::J::J::J::J::J::J::J::J::J::J::J::J::J::J::J::[]),h'⟩) else some (.ret,⟨(J::J::.int .i64 24::J::J::J::J::J::J::J::J::J::J::J::J::J::J::J::J::J::J::J::J::J::J::J::J::J::J::J::J::J::J::J::J::J::J::J::J::J::J::J::J::J::J::J::J::J::J::J::J::J::J::J::J::J::J::J::J::J::J::J::J::J::J::J::J::J::J::J::J::J::J::J::J::J::J::J::J::J::J::J::J::J::J::J::[]),h'⟩):=by
 have hm:=hg.levels
 rw [aAp] at hm
 intro d
 induction d with
 | zero =>
  intro i m L seen h h1 h2 hs hb hl
  obtain ⟨m,rfl⟩:∃ q,m=q+1:=⟨m - 1,by omega⟩
  have e1:g.levels.drop i=[]:=List.drop_eq_nil_iff.2 (by omega)
  have h3:¬ ((i:Int) < g.levels.length):=by omega
  exact ⟨h,by simp only [aAb,aBJ,Zaf,Zag,Zah,Zak,Zal,Zan,Zao,Zap,Zaw,Zaz,Zbc,Zbm,Zbu,Zcz,Zdb,Zdg,Zdh,Q0,Q8,Q6,Q7,Zdl,decide_false,eq_self,cond_true,h3,e1,aBP]⟩
 | succ d ih =>
  intro i m L seen h h1 h2 hs hb hl
  obtain ⟨m,rfl⟩:∃ q,m=q+1:=⟨m - 1,by omega⟩
  have h3:i < g.levels.length:=by omega
  have h3':(i:Int) < g.levels.length:=by omega
  have e1:g.levels.drop i=g.levels[i]::g.levels.drop (i+1):=List.drop_eq_getElem_cons h3
  have hw:=aAV (n:=i) (by omega)
  have hmem:g.levels[i] ∈ g.levels:=List.getElem_mem h3
  have hb2:=aAX hb [.arr 0 2 true [aBm g.levels[i]]]
  have hl2:=aAX hl [.arr 0 2 true [aBm g.levels[i]]]
  rw [e1]
  simp only [aBP]
  by_cases q1:(g.levels[i]).assoc < 1
  case pos =>
   rw [if_pos (.inl q1)]
   exact ⟨h++[.arr 0 2 true [aBm g.levels[i]]],by simp only [aAb,aBJ,Zae,Zaf,Zag,Zah,Zai,Zak,Zam,Zan,Zao,Zaq,Zas,Zav,Zba,Zbc,Zbe,Zbh,Zbk,Zbm,Zbn,Zbo,Zbp,Zbq,Zbs,Zbt,Zbu,Zcc,Zcf,Zcz,Zda,Zdb,Zdc,Zdf,Zdg,Zdh,Q0,Q8,Q6,Q7,Z1,Zdl,Zeb,Zed,Zee,Zef,decide_true,Q5,Q1,Q3,if_true,Nat.reduceAdd,Nat.reduceLeDiff,eq_self,and_self,cond_false,aA2,aA4,aA3,part,aAq,aAm,aB9,aCv,List.all_cons,List.all_nil,aAn,Bool.and_self,Z0,Z2,Q9,Z4,Z3,Q2,Q4,Q0,h3',aBg aBm _ 2 _ g.levels _ i h3 rfl,q1]⟩
  case neg =>
  by_cases q2:4 < (g.levels[i]).assoc
  case pos =>
   rw [if_pos (.inr q2)]
   exact ⟨h++[.arr 0 2 true [aBm g.levels[i]]],by simp only [aAb,aBJ,Zae,Zaf,Zag,Zah,Zai,Zak,Zam,Zan,Zao,Zaq,Zas,Zav,Zba,Zbc,Zbe,Zbg,Zbl,Zbm,Zbn,Zbo,Zbp,Zbq,Zbs,Zbt,Zbu,Zcc,Zcf,Zcz,Zda,Zdb,Zdc,Zdf,Zdg,Zdh,Q0,Q8,Q6,Q7,Z1,Zdl,Zdn,Zeb,Zed,Zee,Zef,decide_true,decide_false,Q5,Q1,Q3,if_true,Nat.reduceAdd,Nat.reduceLeDiff,eq_self,and_self,cond_false,aA2,aA4,aA3,part,aAq,aAm,aB9,aCv,List.all_cons,List.all_nil,aAn,Bool.and_self,Z0,Z2,Q9,Z4,Z3,Q2,Q4,Q0,h3',aBg aBm _ 2 _ g.levels _ i h3 rfl,q1,q2]⟩
  case neg =>
  rw [if_neg (by omega)]
  have inner:=aL3 g hg n (g.levels[i]).terms (hg.level _ hmem) (.vsl false (g.levels.map aBm)) (.int .i64 g.levels.length) (.int .i64 i) i1 hi1 (g.levels[i]).terms.length 0 n L seen _ (by omega) (hn _ hmem) hs hb2 hl2
  rw [Z0,z0] at inner
  cases hq:aEp g.terms.length (g.levels[i]).terms seen with
  | none =>
   rw [hq] at inner
   obtain ⟨h',e⟩:=inner
   refine ⟨h',?_⟩
   simp only [aAb,aBJ,Zae,Zaf,Zag,Zah,Zai,Zaj,Zak,Zan,Zao,Zaq,Zas,Zav,Zaw,Zax,Zba,Zbc,Zbe,Zbg,Zbl,Zbm,Zbn,Zbo,Zbp,Zbq,Zbs,Zbt,Zbu,Zcc,Zcf,Zck,Zcz,Zda,Zdb,Zdc,Zdf,Zdg,Zdh,Q0,Q8,Q6,Q7,Z1,Zdl,Zdn,Zdx,Zeb,Zed,Zee,Zef,Zet,decide_true,decide_false,Q5,Q1,Q3,if_true,Nat.reduceAdd,Nat.reduceLeDiff,eq_self,and_self,cond_false,aA2,aA4,aA3,part,aAq,aAm,aB9,aCv,List.all_cons,List.all_nil,aAn,Bool.and_self,Z0,Z2,Q9,Z4,Z3,Q2,Q4,Q0,h3',aBg aBm _ 2 _ g.levels _ i h3 rfl,q1,q2,e]
  | some s' =>
   rw [hq] at inner
   obtain ⟨L',h',hs',hb',hl',e⟩:=inner
   obtain ⟨h'',e'⟩:=ih (i+1) m L' s' h' (by omega) (by omega) hs' hb' hl'
   refine ⟨h'',?_⟩
   simp only [aAb,aBJ,Zae,Zaf,Zag,Zah,Zai,Zaj,Zak,Zan,Zao,Zar,Zat,Zav,Zaw,Zax,Zay,Zbc,Zbe,Zbg,Zbl,Zbm,Zbn,Zbo,Zbp,Zbq,Zbs,Zbt,Zbu,Zcc,Zcf,Zck,Zcz,Zda,Zdb,Zdc,Zdf,Zdg,Zdh,Q0,Q8,Q6,Q7,Z1,Zdi,Zdl,Zdn,Zdx,Zeb,Zed,Zee,Zef,Zet,decide_true,decide_false,Q5,Q1,Q3,if_true,Nat.reduceAdd,Nat.reduceLeDiff,eq_self,and_self,aA2,aA4,aA3,part,aAq,aAm,aB9,aCv,List.all_cons,List.all_nil,aAn,Bool.and_self,Z0,Z2,Q9,Z4,Z3,Q2,Q4,Q0,h3',aBg aBm _ 2 _ g.levels _ i h3 rfl,q1,q2,e,hw,e']
def aG9:List LevelD→Nat
 | []=>0
 | l::r=>l.terms.length+aG9 r
theorem aII:∀ (l:List LevelD) (x:LevelD),x ∈ l→x.terms.length≤aG9 l
 | a::r,x,h=>by
  rcases List.mem_cons.1 h with rfl | h
  ·simp [aG9]
  ·have:=aII r x h;simp [aG9];omega
theorem aNQ (g:GramD) (hg:g.Ok) (H:aA0):lim G0.cfg (.func 33) [.agg (aA8 g)] H=some (.int .i64 (aBl g),H):=by
 refine aAy rfl rfl aGo (g.rules.length+g.levels.length+aG9 g.levels+1) (fun h=>aFq (aAU g h)) ?_ (fun _=>rfl) H
 obtain ⟨N,hN⟩:∃ N,N=g.rules.length+g.levels.length+aG9 g.levels+1:=⟨_,rfl⟩
 rw [← hN]
 have c1:=aQp g hg
 have c2:=aNO g.terms hg.terms
 have c3:=aNO g.nonterms hg.nonterms
 rw [aJz]
 unfold aBl
 cases q1:aBR g
 case false =>
  rw [q1] at c1
  simp only [Zaf,Zag,Zah,Zai,Zam,Zan,Zao,Zaq,Zas,Zav,Zbc,Zbd,Zbm,Zbo,Zbr,Zbs,Zbv,Zct,Zcu,Zcw,Zcy,Zcz,Zda,Zdb,Zdd,Zde,Q0,Q8,Q6,Q7,Z1,Z9,Zdv,Zee,Zef,Bool.not_false,Q5,Q1,Q3,if_true,Nat.reduceAdd,Nat.reduceSub,Nat.reduceLeDiff,eq_self,true_and,Q1,Q3,Z5,Z6,Q2,Q4,aA2,aA4,aA3,part,Z0,Q9,Z3,Q2,Q4,Q0,c1,aA6,aA5,aA7,Z7,Prod.mk.injEq,true_and,exists_eq']
 case true =>
 rw [q1] at c1
 cases q2:aDz g.terms
 case true =>
  rw [q2] at c2
  simp only [Zaf,Zag,Zah,Zai,Zam,Zan,Zao,Zaq,Zas,Zav,Zaw,Zbc,Zbd,Zbh,Zbk,Zbm,Zbn,Zbo,Zbp,Zbr,Zbs,Zbv,Zcc,Zct,Zcu,Zcw,Zcy,Zcz,Zda,Zdb,Zdd,Zde,Q0,Q8,Q6,Q7,Z1,Z9,Zdv,Zeb,Zed,Zee,Zef,Y1,Q5,Q1,Q3,if_true,if_false,Nat.reduceAdd,Nat.reduceSub,Nat.reduceLeDiff,eq_self,true_and,Q1,Q3,Z5,Z6,Q2,Q4,aA2,aA4,aA3,part,Z0,Q9,Z4,Z3,Q2,Q4,Q0,c1,c2,aA6,aA5,aA7,Z7,Prod.mk.injEq,true_and,exists_eq',Z8,true_or]
 case false =>
 rw [q2] at c2
 cases q3:aDz g.nonterms
 case true =>
  rw [q3] at c3
  simp only [Zaf,Zag,Zah,Zai,Zam,Zan,Zao,Zaq,Zas,Zav,Zaw,Zbc,Zbd,Zbg,Zbl,Zbm,Zbn,Zbo,Zbp,Zbr,Zbs,Zbv,Zcc,Zct,Zcu,Zcw,Zcy,Zcz,Zda,Zdb,Zdd,Zde,Q0,Q8,Q6,Q7,Z1,Z9,Zdv,Zeb,Zed,Zee,Zef,Y1,Q5,Q1,Q3,if_true,if_false,Nat.reduceAdd,Nat.reduceSub,Nat.reduceLeDiff,eq_self,true_and,Q1,Q3,Z5,Z6,Q2,Q4,aA2,aA4,aA3,part,Z0,Z2,Q9,Z4,Z3,Q2,Q4,Q0,c1,c2,c3,aA6,aA5,aA7,Z7,Prod.mk.injEq,true_and,exists_eq',Z8,or_true]
 case false =>
 rw [q3] at c3
 have hne:g.rules≠[]:=by
  intro e
  simp [aBR,e] at q1
 have c4:=aRo g hg hne
 cases q4:aEL g
 case false =>
  rw [q4] at c4
  simp only [Zaf,Zag,Zah,Zai,Zam,Zan,Zao,Zaq,Zas,Zav,Zaw,Zbc,Zbd,Zbg,Zbl,Zbm,Zbn,Zbo,Zbp,Zbr,Zbs,Zbv,Zcc,Zct,Zcu,Zcw,Zcy,Zcz,Zda,Zdb,Zdd,Zde,Q0,Q8,Q6,Q7,Z1,Z9,Zdv,Zeb,Zed,Zee,Zef,Y1,Bool.not_false,Q5,Q1,Q3,if_true,if_false,Nat.reduceAdd,Nat.reduceSub,Nat.reduceLeDiff,eq_self,true_and,Q1,Q3,Z5,Z6,Q2,Q4,aA2,aA4,aA3,part,Z0,Z2,Q9,Z4,Z3,Q2,Q4,Q0,c1,c2,c3,c4,aA6,aA5,aA7,Z7,Prod.mk.injEq,true_and,exists_eq',Z8,Y2,or_self]
 case true =>
 rw [q4] at c4
 obtain ⟨h',hb',e⟩:=aL5 g hg N g.rules.length 0 N 0 [.arr 0 5 true [aA8 g]] (by omega) (by omega) rfl
 rw [Z0,z0] at e
 by_cases q5:aAP g g.rules 0=0
 case neg =>
  rw [if_neg q5] at e
  simp only [Zae,Zaf,Zag,Zah,Zai,Zaj,Zak,Zan,Zao,Zaq,Zar,Zas,Zaw,Zax,Zbc,Zbd,Zbg,Zbl,Zbm,Zbn,Zbo,Zbp,Zbr,Zbs,Zbv,Zcc,Zck,Zct,Zcu,Zcw,Zcy,Zcz,Zda,Zdb,Zdd,Zde,Zdf,Zdg,Zdh,Q0,Q8,Q6,Q7,Z1,Z9,Zdv,Zdx,Zeb,Zed,Zee,Zef,Y1,Q5,Q1,Q3,if_true,if_false,Nat.reduceAdd,Nat.reduceSub,Nat.reduceLeDiff,eq_self,true_and,not_false_eq_true,Y0,Q1,Q3,Z5,Z6,Q2,Q4,aA2,aA4,aA3,part,Z0,Z2,Q9,Z4,Z3,Q2,Q4,Q0,Y0,c1,c2,c3,c4,e,q5,ne_eq,not_false_eq_true,aA6,aA5,aA7,Z7,Prod.mk.injEq,true_and,exists_eq',Z8,Y2,or_self]
 case pos =>
 rw [if_pos q5] at e
 have hlen:h'.length≠0:=by
  have:=(List.getElem?_eq_some_iff.1 hb').1;omega
 have hb2:=aAX hb' [.map []]
 obtain ⟨h'',e2⟩:=aL4 g hg N (fun l hl=>by have:=aII g.levels l hl;omega) h'.length hlen g.levels.length 0 N [] [] (h'++[.map []]) (by omega) (by omega) (fun t=>rfl) hb2 (aB9 h' _)
 rw [Z0,z0] at e2
 cases q6:aBP g.terms.length g.levels []
 case false =>
  rw [q6] at e2
  simp only [cond_false] at e2
  simp only [Zae,Zaf,Zag,Zah,Zai,Zaj,Zak,Zan,Zao,Zaq,Zar,Zas,Zat,Zaw,Zax,Zbc,Zbd,Zbg,Zbl,Zbm,Zbn,Zbo,Zbp,Zbr,Zbs,Zbv,Zby,Zcc,Zck,Zct,Zcu,Zcw,Zcy,Zcz,Zda,Zdb,Zdd,Zde,Zdf,Zdg,Zdh,Q0,Q8,Q6,Q7,Z1,Z9,Zdv,Zdx,Zeb,Zed,Zee,Zef,Y1,Q5,Q1,Q3,if_true,if_false,Nat.reduceAdd,Nat.reduceSub,Nat.reduceLeDiff,eq_self,true_and,not_true_eq_false,Y0,Q1,Q3,Z5,Z6,Q2,Q4,aA2,aA4,aA3,part,Z0,Z2,Q9,Z4,Z3,Q2,Q4,Q0,Y0,c1,c2,c3,c4,e,q5,hb2,e2,ne_eq,aA6,aA5,aA7,Z7,Prod.mk.injEq,true_and,exists_eq',Z8,Y2,or_self]
 case true =>
  rw [q6] at e2
  simp only [cond_true] at e2
  simp only [Zae,Zaf,Zag,Zah,Zai,Zaj,Zak,Zam,Zan,Zao,Zar,Zat,Zaw,Zax,Zbc,Zbd,Zbg,Zbl,Zbm,Zbn,Zbo,Zbp,Zbr,Zbs,Zbv,Zby,Zcc,Zck,Zct,Zcu,Zcw,Zcy,Zcz,Zda,Zdb,Zdd,Zde,Zdf,Zdg,Zdh,Q0,Q8,Q6,Q7,Z1,Z9,Zdv,Zdx,Zeb,Zed,Zee,Zef,Y1,Q5,Q1,Q3,if_true,if_false,Nat.reduceAdd,Nat.reduceSub,Nat.reduceLeDiff,eq_self,true_and,not_true_eq_false,Y0,Q1,Q3,Z5,Z6,Q2,Q4,aA2,aA4,aA3,part,Z0,Z2,Q9,Z4,Z3,Q2,Q4,Q0,Y0,c1,c2,c3,c4,e,q5,hb2,e2,ne_eq,aA6,aA5,aA7,Z7,Prod.mk.injEq,true_and,exists_eq',Z8,Y2,or_self]
end Go.Proofs.Yteenffomgdfocaa.Ai
