/- The checks of the law: few, Small; a table's rank and Right: they answer something. -/
import Derived.Test.YteenffomgdfocaamXB
import Derived.Test.YteenffomgdfocaamXC
namespace Go.Proofs.Yteenffomgdfocaa.Ai
open Go Go.Proofs
open AV renaming junk → J
open List renaming set_cons_zero → Q0, length_cons → Q1, getElem?_cons_zero → Q2, length_nil → Q3, getD_cons_zero → Q4, getD_cons_succ → Q5, take_succ_cons → Q6, set_cons_succ → Q7, cons_append → Q9, nil_append → Z0, drop_zero → Z1, getElem?_cons_succ → Z2, drop_succ_cons → Z3, take_zero → Z4, replicate_succ → Z5, replicate_zero → Z6, take_nil → Z9, length_map → Y0
open Option renaming bind_some → Q8, map_some → Z8
open Option.some renaming injEq → Z7
set_option linter.unusedVariables false
set_option linter.unusedSimpArgs false
set_option maxRecDepth 10000
set_option maxHeartbeats 4000000
theorem aEy {t:TabD} {av gv:AV} (ha:LiG (LiG LiA) t.acts av) (hgv:LiR t.gotos gv) (h:aA0):freeze h 1000 (.agg [av,gv])=some (.agg [av,gv],true):=by
 have h1:freeze h 999 av=some (av,true):=ha.fz h 998
 have h2:freeze h 999 gv=some (gv,true):=hgv.fz h 998
 show (aAk (freeze h 999) [av,gv]).map (fun l=>(AV.agg (l.map (·.1)),l.all (·.2)))=_
 rw [aFd h1 h2];rfl
theorem aO0 (g:GramD) (hg:g.Ok) (n:Nat):∀ (d i m:Nat),g.rules.length=i+d→d < m→∃ b,
  aAj (aA1 (lim G0.cfg) n aDn) m ⟨[J,.ptr 0 0 0 0,J,.int .i64 i,J,J,J,J,J,J,J,J,J,J,J,J,J,J,J,J,J,J,J,J,J,J,J,J,J,J,J,J,J,J,J],[.arr 0 5 true [aA8 g]]⟩ =
   bif b then some (.exit 0,⟨[J,J,J,J,J,J,J,J,J,J,J,J,J,J,J,J,J,J,J,J,J,J,J,J,J,J,J,J,J,J,J,J,J,J,J],[.arr 0 5 true [aA8 g]]⟩) else some (.ret,⟨[J,J,.bool false,J,J,J,J,J,J,J,J,J,J,J,J,J,J,J,J,J,J,J,J,J,J,J,J,J,J,J,J,J,J,J,J],[.arr 0 5 true [aA8 g]]⟩):=by
 have hm:=hg.rules
 rw [aAp] at hm
 intro d
 induction d with
 | zero =>
  intro i m h1 h2
  obtain ⟨m,rfl⟩:∃ q,m=q+1:=⟨m - 1,by omega⟩
  have h3:¬ ((i:Int) < g.rules.length):=by omega
  exact ⟨true,by simp only [aAb,aF1,Zaf,Zag,Zah,Zak,Zal,Zan,Zao,Zap,Zaw,Zaz,Zbc,Zbm,Zbo,Zbs,Zbu,Zcc,Zck,Zcz,Zdb,Zdg,Zdh,Q0,Q7,Q4,Q5,Q8,Zdl,Zdx,Zeb,Zed,decide_false,Q2,Q1,Q3,if_true,Nat.reduceAdd,Nat.reduceLeDiff,eq_self,cond_true,Y0,aA2,aA4,aA3,part,Z1,Z3,Q6,Z4,Q0,h3]⟩
 | succ d ih =>
  intro i m h1 h2
  obtain ⟨m,rfl⟩:∃ q,m=q+1:=⟨m - 1,by omega⟩
  have h3:i < g.rules.length:=by omega
  have h3':(i:Int) < g.rules.length:=by omega
  have hw:=aAV (n:=i) (by omega)
  obtain ⟨b,e⟩:=ih (i+1) m (by omega) (by omega)
  by_cases q:(5:Int) < (g.rules[i]).right.length
  ·exact ⟨false,by simp only [aAb,aF1,Zae,Zaf,Zag,Zah,Zai,Zak,Zam,Zan,Zao,Zaq,Zas,Zav,Zba,Zbc,Zbm,Zbo,Zbs,Zbu,Zcc,Zcf,Zck,Zcz,Zda,Zdb,Zdf,Zdg,Zdh,Q0,Q7,Q4,Q5,Q8,Zdl,Zdn,Zdx,Zeb,Zec,Zed,Zet,decide_true,Q2,Q1,Q3,if_true,Nat.reduceAdd,Nat.reduceLeDiff,eq_self,cond_false,Y0,aA2,aA4,aA3,part,Z1,Z3,Q6,Z4,Q0,h3',aBg aAt _ 5 _ g.rules _ i h3 rfl,q]⟩
  ·exact ⟨b,by simp only [aAb,aF1,Zae,Zaf,Zag,Zah,Zai,Zak,Zan,Zao,Zar,Zav,Zaw,Zay,Zbc,Zbm,Zbo,Zbs,Zbu,Zcc,Zcf,Zck,Zcz,Zda,Zdb,Zdf,Zdg,Zdh,Q0,Q7,Q4,Q5,Q8,Zdi,Zdl,Zdn,Zdx,Zeb,Zec,Zed,Zet,decide_true,decide_false,Q2,Q1,Q3,if_true,Nat.reduceAdd,Nat.reduceLeDiff,eq_self,Y0,aA2,aA4,aA3,part,Z1,Z3,Q6,Z4,Q0,h3',aBg aAt _ 5 _ g.rules _ i h3 rfl,q,hw,e]⟩
theorem aRp (g:GramD) (hg:g.Ok):∃ b,∀ H,lim G0.cfg (.func 11) [.agg (aA8 g)] H=some (.bool b,H):=by
 obtain ⟨b,e⟩:=aO0 g hg (g.rules.length+1) g.rules.length 0 (g.rules.length+1) (by omega) (by omega)
 rw [z0] at e
 have key:∃ b h',aAS (lim G0.cfg) (g.rules.length+1) aE7 [.agg (aA8 g)] []=some (.bool b,h'):=by
  rw [aNh]
  by_cases q1:(14:Int) < g.rules.length
  ·exact ⟨false,by simp only [Zaf,Zag,Zah,Zam,Zan,Zao,Zaq,Zav,Zbc,Zbd,Zbh,Zbk,Zbm,Zbn,Zbo,Zbp,Zbr,Zbs,Zbu,Zcc,Zck,Zcw,Zcy,Zcz,Zda,Zdb,Q0,Q7,Q4,Q5,Q8,Z8,Zdn,Zdx,Zeb,Zed,Zef,decide_true,Q2,Q1,Q3,if_true,Nat.reduceAdd,Nat.reduceSub,Nat.reduceLeDiff,eq_self,true_and,Y0,Q1,Q3,Z5,Z6,Q9,Z0,aA2,aA4,aA3,part,Z1,Z3,Q6,Z4,Q9,Z0,Q0,q1,aA6,aA5,aA7,Z7,Prod.mk.injEq,true_and,exists_eq']⟩
  ·by_cases q2:(9:Int) < g.terms.length
   ·exact ⟨false,by simp only [Zaf,Zag,Zah,Zam,Zan,Zao,Zaq,Zav,Zbc,Zbd,Zbg,Zbh,Zbk,Zbl,Zbm,Zbn,Zbo,Zbp,Zbr,Zbs,Zbu,Zcc,Zck,Zcw,Zcy,Zcz,Zda,Zdb,Q0,Q7,Q4,Q5,Q8,Z8,Zdn,Zdx,Zeb,Zed,Zef,Zeu,decide_true,decide_false,Q2,Q1,Q3,if_true,Nat.reduceAdd,Nat.reduceSub,Nat.reduceLeDiff,eq_self,true_and,Y0,Q1,Q3,Z5,Z6,Q9,Z0,aA2,aA4,aA3,part,Z1,Z3,Q6,Z4,Q9,Z0,Q0,q1,q2,aA6,aA5,aA7,Z7,Prod.mk.injEq,true_and,exists_eq']⟩
   ·by_cases q3:(8:Int) < g.nonterms.length
    ·exact ⟨false,by simp only [Zaf,Zag,Zah,Zam,Zan,Zao,Zaq,Zav,Zbc,Zbd,Zbg,Zbl,Zbm,Zbn,Zbo,Zbp,Zbr,Zbs,Zbu,Zcc,Zck,Zcw,Zcy,Zcz,Zda,Zdb,Q0,Q7,Q4,Q5,Q8,Z8,Zdn,Zdx,Zeb,Zed,Zef,Zeu,decide_true,decide_false,Q2,Q1,Q3,if_true,Nat.reduceAdd,Nat.reduceSub,Nat.reduceLeDiff,eq_self,true_and,Y0,Q1,Q3,Z5,Z6,Q9,Z0,aA2,aA4,aA3,part,Z1,Z3,Q6,Z4,Q9,Z0,Q0,q1,q2,q3,aA6,aA5,aA7,Z7,Prod.mk.injEq,true_and,exists_eq']⟩
    ·refine ⟨b,?_⟩
     cases b
     ·rw [cond_false] at e
      simp only [Zae,Zaf,Zag,Zah,Zai,Zaj,Zak,Zan,Zao,Zaq,Zas,Zaw,Zax,Zbc,Zbd,Zbg,Zbl,Zbm,Zbn,Zbo,Zbp,Zbr,Zbs,Zbu,Zcc,Zck,Zcw,Zcy,Zcz,Zda,Zdb,Zdf,Zdg,Zdh,Q0,Q7,Q4,Q5,Q8,Z8,Zdn,Zdx,Zeb,Zed,Zef,Zeu,decide_false,Q2,Q1,Q3,if_true,Nat.reduceAdd,Nat.reduceSub,Nat.reduceLeDiff,eq_self,true_and,Y0,Q1,Q3,Z5,Z6,Q9,Z0,aA2,aA4,aA3,part,Z1,Z3,Q6,Z4,Q9,Z0,Q0,q1,q2,q3,e,aA6,aA5,aA7,Z7,Prod.mk.injEq,true_and,exists_eq']
     ·rw [cond_true] at e
      simp only [Zae,Zaf,Zag,Zah,Zai,Zaj,Zak,Zam,Zan,Zao,Zat,Zaw,Zax,Zbc,Zbd,Zbg,Zbl,Zbm,Zbn,Zbo,Zbp,Zbr,Zbs,Zbu,Zcc,Zck,Zcw,Zcy,Zcz,Zda,Zdb,Zdf,Zdg,Zdh,Q0,Q7,Q4,Q5,Q8,Z8,Zdn,Zdx,Zeb,Zed,Zef,Zeu,decide_false,Q2,Q1,Q3,if_true,Nat.reduceAdd,Nat.reduceSub,Nat.reduceLeDiff,eq_self,true_and,Y0,Q1,Q3,Z5,Z6,Q9,Z0,aA2,aA4,aA3,part,Z1,Z3,Q6,Z4,Q9,Z0,Q0,q1,q2,q3,e,aA6,aA5,aA7,Z7,Prod.mk.injEq,true_and,exists_eq']
 obtain ⟨b,h',e⟩:=key
 exact ⟨b,fun H=>aAy rfl rfl aNq _ (fun h=>aFq (aAU g h)) ⟨h',e⟩ (fun _=>rfl) H⟩
section
variable {t : TabD} {av gv : AV} (ha : LiG (LiG LiA) t.acts av) (hgv : LiR t.gotos gv) (hl : TabLen t) (g : GramD)
include ha hl
theorem aSW (n i:Nat) (hi:i < t.acts.length):∀ (d j m:Nat) (s:Int),(t.acts[i]).length=j+d→d < m→∃ s':Int,
  aAj (aA1 (lim G0.cfg) n aE5) m ⟨(J::J::J::.ptr 1 0 0 0::J::.int .i64 s::.int .i64 i::.int .i64 j::J::J::J::J::J::J::J::J::J::J::J::J::J::J::J::J::J::J::J::J::J::J::J::J::J::J::J::J::J::J::J::J::J::J::J::J::J::J::J::J::J::J::J::J::J::J::J::J::J::J::J::J::J::J::J::J::J::J::J::J::J::J::J::J::J::J::J::J::J::J::J::[]),[.arr 0 5 true [aA8 g],.arr 0 2 true [[av,gv]]]⟩ =
   some (.exit 2,⟨(J::J::J::.ptr 1 0 0 0::J::.int .i64 s'::.int .i64 i::J::J::J::J::J::J::J::J::J::J::J::J::J::J::J::J::J::J::J::J::J::J::J::J::J::J::J::J::J::J::J::J::J::J::J::J::J::J::J::J::J::J::J::J::J::J::J::J::J::J::J::J::J::J::J::J::J::J::J::J::J::J::J::J::J::J::J::J::J::J::J::J::[]),[.arr 0 5 true [aA8 g],.arr 0 2 true [[av,gv]]]⟩):=by
 have hr:=(hl.row _ (List.getElem_mem hi)).1
 rw [aAp] at hr
 obtain ⟨rv,r1,r2⟩:=ha.ix i hi
 intro d
 induction d with
 | zero =>
  intro j m s h1 h2
  obtain ⟨m,rfl⟩:∃ q,m=q+1:=⟨m - 1,by omega⟩
  have h3:¬ ((j:Int) < (t.acts[i]).length):=by omega
  exact ⟨s,by simp only [aAb,aHU,Zaf,Zag,Zah,Zak,Zal,Zan,Zao,Zap,Zaw,Zaz,Zbc,Zbm,Zbo,Zbs,Zbu,Zcc,Zcf,Zck,Zcz,Zdb,Zdf,Zdg,Zdh,Q0,Q7,Q4,Q5,Q8,Zdl,Zeb,Zed,decide_false,Q2,Z2,Q1,Q3,if_true,Nat.reduceAdd,Nat.reduceLeDiff,eq_self,aA2,aA4,aA3,part,Z1,Q6,Z4,Z9,Q0,r2,r1.len,h3]⟩
 | succ d ih =>
  intro j m s h1 h2
  obtain ⟨m,rfl⟩:∃ q,m=q+1:=⟨m - 1,by omega⟩
  have h3:j < (t.acts[i]).length:=by omega
  have h3':(j:Int) < (t.acts[i]).length:=by omega
  have hw:=aAV (n:=j) (by omega)
  obtain ⟨cv,c1,c2⟩:=r1.ix j h3
  obtain ⟨s',e⟩:=ih (j+1) m (IntKind.i64.wrap (s+((t.acts[i])[j]).length)) (by omega) (by omega)
  exact ⟨s',by simp only [aAb,aHU,Zae,Zaf,Zag,Zah,Zai,Zak,Zan,Zao,Zar,Zav,Zay,Zbc,Zbm,Zbo,Zbs,Zbu,Zcc,Zcf,Zck,Zcz,Zda,Zdb,Zdf,Zdg,Zdh,Q0,Q7,Q4,Q5,Q8,Zdi,Zdl,Zeb,Zed,decide_true,Q2,Z2,Q1,Q3,if_true,Nat.reduceAdd,Nat.reduceLeDiff,eq_self,aA2,aA4,aA3,part,Z1,Q6,Z4,Z9,Q0,r2,r1.len,h3',c2,c1.len,hw,e]⟩
theorem aSX (n:Nat) (hn:maxLen < n):∀ (d i m:Nat) (s:Int),t.acts.length=i+d→d < m→∃ (b:Bool) (s':Int),
  aAj (aA1 (lim G0.cfg) n aE6) m ⟨(J::J::J::.ptr 1 0 0 0::J::.int .i64 s::.int .i64 i::J::J::J::J::J::J::J::J::J::J::J::J::J::J::J::J::J::J::J::J::J::J::J::J::J::J::J::J::J::J::J::J::J::J::J::J::J::J::J::J::J::J::J::J::J::J::J::J::J::J::J::J::J::J::J::J::J::J::J::J::J::J::J::J::J::J::J::J::J::J::J::J::[]),[.arr 0 5 true [aA8 g],.arr 0 2 true [[av,gv]]]⟩ =
   bif b then some (.exit 0,⟨(J::J::J::.ptr 1 0 0 0::J::.int .i64 s'::J::J::J::J::J::J::J::J::J::J::J::J::J::J::J::J::J::J::J::J::J::J::J::J::J::J::J::J::J::J::J::J::J::J::J::J::J::J::J::J::J::J::J::J::J::J::J::J::J::J::J::J::J::J::J::J::J::J::J::J::J::J::J::J::J::J::J::J::J::J::J::J::J::[]),[.arr 0 5 true [aA8 g],.arr 0 2 true [[av,gv]]]⟩) else some (.ret,⟨(J::J::J::J::.bool false::J::J::J::J::J::J::J::J::J::J::J::J::J::J::J::J::J::J::J::J::J::J::J::J::J::J::J::J::J::J::J::J::J::J::J::J::J::J::J::J::J::J::J::J::J::J::J::J::J::J::J::J::J::J::J::J::J::J::J::J::J::J::J::J::J::J::J::J::J::J::J::J::J::J::[]),[.arr 0 5 true [aA8 g],.arr 0 2 true [[av,gv]]]⟩):=by
 have hr:=hl.acts
 rw [aAp] at hr
 intro d
 induction d with
 | zero =>
  intro i m s h1 h2
  obtain ⟨m,rfl⟩:∃ q,m=q+1:=⟨m - 1,by omega⟩
  have h3:¬ ((i:Int) < t.acts.length):=by omega
  exact ⟨true,s,by simp only [aAb,aG5,Zaf,Zag,Zah,Zak,Zal,Zan,Zao,Zap,Zaw,Zaz,Zbc,Zbm,Zbo,Zbs,Zbu,Zcc,Zck,Zcz,Zdb,Zdf,Zdg,Zdh,Q0,Q7,Q4,Q5,Q8,Zdl,Zeb,Zed,decide_false,Q2,Z2,Q1,Q3,if_true,Nat.reduceAdd,Nat.reduceLeDiff,eq_self,cond_true,aA2,aA4,aA3,part,Z1,Q6,Z4,Q0,ha.len,h3]⟩
 | succ d ih =>
  intro i m s h1 h2
  obtain ⟨m,rfl⟩:∃ q,m=q+1:=⟨m - 1,by omega⟩
  have h3:i < t.acts.length:=by omega
  have h3':(i:Int) < t.acts.length:=by omega
  have hw:=aAV (n:=i) (by omega)
  obtain ⟨rv,r1,r2⟩:=ha.ix i h3
  have hrow:=(hl.row _ (List.getElem_mem h3)).1
  obtain ⟨s1,e1⟩:=aSW ha hl (gv:=gv) g n i h3 (t.acts[i]).length 0 n (IntKind.i64.wrap (s+(t.acts[i]).length)) (by omega) (by omega)
  rw [z0] at e1
  by_cases q:(4000:Int) < s1
  ·exact ⟨false,s,by simp only [aAb,aG5,Zae,Zaf,Zag,Zah,Zai,Zaj,Zak,Zam,Zan,Zao,Zaq,Zas,Zat,Zav,Zax,Zba,Zbc,Zbm,Zbo,Zbs,Zbu,Zcc,Zcf,Zck,Zcz,Zda,Zdb,Zdf,Zdg,Zdh,Q0,Q7,Q4,Q5,Q8,Zdi,Zdl,Zdn,Zeb,Zed,decide_true,Q2,Z2,Q1,Q3,if_true,Nat.reduceAdd,Nat.reduceLeDiff,eq_self,cond_false,aA2,aA4,aA3,part,Z1,Q6,Z4,Z9,Q0,ha.len,h3',r2,r1.len,e1,q]⟩
  ·obtain ⟨b,s',e⟩:=ih (i+1) m s1 (by omega) (by omega)
   exact ⟨b,s',by simp only [aAb,aG5,Zae,Zaf,Zag,Zah,Zai,Zaj,Zak,Zan,Zao,Zar,Zat,Zav,Zaw,Zax,Zay,Zbc,Zbm,Zbo,Zbs,Zbu,Zcc,Zcf,Zck,Zcz,Zda,Zdb,Zdf,Zdg,Zdh,Q0,Q7,Q4,Q5,Q8,Zdi,Zdl,Zdn,Zeb,Zed,decide_true,decide_false,Q2,Z2,Q1,Q3,if_true,Nat.reduceAdd,Nat.reduceLeDiff,eq_self,aA2,aA4,aA3,part,Z1,Q6,Z4,Z9,Q0,ha.len,h3',r2,r1.len,e1,q,hw,e]⟩
omit ha
include hgv
theorem aSV (n:Nat):∀ (d i m:Nat) (s:Int),t.gotos.length=i+d→d < m→∃ (s':Int),
  aAj (aA1 (lim G0.cfg) n aE4) m ⟨(J::J::J::.ptr 1 0 0 0::J::.int .i64 s::J::J::.int .i64 i::J::J::J::J::J::J::J::J::J::J::J::J::J::J::J::J::J::J::J::J::J::J::J::J::J::J::J::J::J::J::J::J::J::J::J::J::J::J::J::J::J::J::J::J::J::J::J::J::J::J::J::J::J::J::J::J::J::J::J::J::J::J::J::J::J::J::J::J::J::J::[]),[.arr 0 5 true [aA8 g],.arr 0 2 true [[av,gv]]]⟩ =
   some (.exit 4,⟨(J::J::J::J::J::.int .i64 s'::J::J::J::J::J::J::J::J::J::J::J::J::J::J::J::J::J::J::J::J::J::J::J::J::J::J::J::J::J::J::J::J::J::J::J::J::J::J::J::J::J::J::J::J::J::J::J::J::J::J::J::J::J::J::J::J::J::J::J::J::J::J::J::J::J::J::J::J::J::J::J::J::J::[]),[.arr 0 5 true [aA8 g],.arr 0 2 true [[av,gv]]]⟩):=by
 have hr:=hl.gotos
 rw [aAp] at hr
 intro d
 induction d with
 | zero =>
  intro i m s h1 h2
  obtain ⟨m,rfl⟩:∃ q,m=q+1:=⟨m - 1,by omega⟩
  have h3:¬ ((i:Int) < t.gotos.length):=by omega
  exact ⟨s,by simp only [aAb,aHT,Zaf,Zag,Zah,Zak,Zal,Zan,Zao,Zap,Zaw,Zaz,Zbc,Zbm,Zbo,Zbs,Zbu,Zcc,Zck,Zcz,Zdb,Zdf,Zdg,Zdh,Q0,Q7,Q4,Q5,Q8,Zdl,Zeb,Zed,decide_false,Q2,Z2,Q1,Q3,if_true,Nat.reduceAdd,Nat.reduceLeDiff,eq_self,aA2,aA4,aA3,part,Z1,Z3,Q6,Z9,Q0,hgv.len,h3]⟩
 | succ d ih =>
  intro i m s h1 h2
  obtain ⟨m,rfl⟩:∃ q,m=q+1:=⟨m - 1,by omega⟩
  have h3:i < t.gotos.length:=by omega
  have h3':(i:Int) < t.gotos.length:=by omega
  have hw:=aAV (n:=i) (by omega)
  obtain ⟨rv,r1,r2⟩:=hgv.ix i h3
  obtain ⟨s',e⟩:=ih (i+1) m (IntKind.i64.wrap (s+(t.gotos[i]).length)) (by omega) (by omega)
  exact ⟨s',by simp only [aAb,aHT,Zae,Zaf,Zag,Zah,Zai,Zak,Zan,Zao,Zar,Zav,Zay,Zbc,Zbm,Zbo,Zbs,Zbu,Zcc,Zcf,Zck,Zcz,Zda,Zdb,Zdf,Zdg,Zdh,Q0,Q7,Q4,Q5,Q8,Zdi,Zdl,Zeb,Zed,decide_true,Q2,Z2,Q1,Q3,if_true,Nat.reduceAdd,Nat.reduceLeDiff,eq_self,aA2,aA4,aA3,part,Z1,Z3,Q6,Z9,Q0,hgv.len,h3',r2,r1.len,hw,e]⟩
include ha
theorem aSB (hg:g.Ok):∃ b,∀ H,lim G0.cfg (.func 4) [.agg (aA8 g),.agg [av,gv]] H=some (.bool b,H):=by
 have hla:=hl.acts
 have hlg:=hl.gotos
 obtain ⟨bs,cs⟩:=aRp g hg
 obtain ⟨b0,s0,e0⟩:=aSX ha hl (gv:=gv) g (maxLen+1) (by omega) t.acts.length 0 (maxLen+1) 0 (by omega) (by omega)
 obtain ⟨s2,e2⟩:=aSV hgv hl (av:=av) g (maxLen+1) t.gotos.length 0 (maxLen+1) s0 (by omega) (by omega)
 rw [z0] at e0 e2
 have key:∃ b h',aAS (lim G0.cfg) (maxLen+1) aFl [.agg (aA8 g),.agg [av,gv]] []=some (.bool b,h'):=by
  generalize maxLen+1=N at e0 e2
  rw [aPL]
  cases bs
  ·exact ⟨false,by simp only [Zaf,Zag,Zah,Zam,Zan,Zao,Zaq,Zav,Zbc,Zbd,Zbh,Zbk,Zbm,Zbn,Zbo,Zbp,Zbr,Zbs,Zbv,Zct,Zcu,Zcw,Zcy,Zcz,Zda,Zdb,Zdd,Zde,Q0,Q7,Q4,Q5,Q8,Z8,Zdv,Zee,Zef,Bool.not_false,Q2,Q1,Q3,if_true,Nat.reduceAdd,Nat.reduceSub,Nat.reduceLeDiff,eq_self,true_and,Q1,Q3,Z5,Z6,Q9,Z0,aA2,aA4,aA3,part,Z1,Q6,Z9,Q9,Z0,Q0,cs,aA6,aA5,aA7,Z7,Prod.mk.injEq,true_and,exists_eq']⟩
  ·by_cases q1:(100:Int) < t.acts.length
   ·exact ⟨false,by simp only [Zaf,Zag,Zah,Zam,Zan,Zao,Zaq,Zav,Zbc,Zbd,Zbg,Zbh,Zbk,Zbl,Zbm,Zbn,Zbo,Zbp,Zbr,Zbs,Zbu,Zbv,Zcc,Zck,Zct,Zcu,Zcw,Zcy,Zcz,Zda,Zdb,Zdd,Zde,Q0,Q7,Q4,Q5,Q8,Z8,Zdn,Zdv,Zeb,Zed,Zee,Zef,decide_true,Bool.not_true,Q2,Z2,Q1,Q3,if_true,Nat.reduceAdd,Nat.reduceSub,Nat.reduceLeDiff,eq_self,true_and,Q1,Q3,Z5,Z6,Q9,Z0,aA2,aA4,aA3,part,Z1,Q6,Z4,Z9,Q9,Z0,Q0,cs,ha.len,q1,aA6,aA5,aA7,Z7,Prod.mk.injEq,true_and,exists_eq']⟩
   ·by_cases q2:(100:Int) < t.gotos.length
    ·exact ⟨false,by simp only [Zaf,Zag,Zah,Zam,Zan,Zao,Zaq,Zav,Zbc,Zbd,Zbg,Zbl,Zbm,Zbn,Zbo,Zbp,Zbr,Zbs,Zbu,Zbv,Zcc,Zck,Zct,Zcu,Zcw,Zcy,Zcz,Zda,Zdb,Zdd,Zde,Q0,Q7,Q4,Q5,Q8,Z8,Zdn,Zdv,Zeb,Zed,Zee,Zef,decide_true,decide_false,Bool.not_true,Q2,Z2,Q1,Q3,if_true,Nat.reduceAdd,Nat.reduceSub,Nat.reduceLeDiff,eq_self,true_and,Q1,Q3,Z5,Z6,Q9,Z0,aA2,aA4,aA3,part,Z1,Z3,Q6,Z4,Z9,Q9,Z0,Q0,cs,ha.len,hgv.len,q1,q2,aA6,aA5,aA7,Z7,Prod.mk.injEq,true_and,exists_eq']⟩
    ·cases b0
     ·rw [cond_false] at e0
      exact ⟨false,by simp only [Zae,Zaf,Zag,Zah,Zai,Zaj,Zak,Zan,Zao,Zaq,Zas,Zaw,Zax,Zbc,Zbd,Zbg,Zbl,Zbm,Zbn,Zbo,Zbp,Zbr,Zbs,Zbu,Zbv,Zcc,Zck,Zct,Zcu,Zcw,Zcy,Zcz,Zda,Zdb,Zdd,Zde,Zdf,Zdg,Zdh,Q0,Q7,Q4,Q5,Q8,Z8,Zdn,Zdv,Zeb,Zed,Zee,Zef,decide_false,Bool.not_true,Q2,Z2,Q1,Q3,if_true,Nat.reduceAdd,Nat.reduceSub,Nat.reduceLeDiff,eq_self,true_and,Q1,Q3,Z5,Z6,Q9,Z0,aA2,aA4,aA3,part,Z1,Z3,Q6,Z4,Z9,Q9,Z0,Q0,cs,ha.len,hgv.len,q1,q2,e0,aA6,aA5,aA7,Z7,Prod.mk.injEq,true_and,exists_eq']⟩
     ·rw [cond_true] at e0
      exact ⟨decide (s2≤5000),by simp only [Zae,Zaf,Zag,Zah,Zai,Zaj,Zak,Zam,Zan,Zao,Zat,Zaw,Zax,Zbc,Zbd,Zbg,Zbl,Zbm,Zbn,Zbo,Zbp,Zbr,Zbs,Zbu,Zbv,Zcc,Zck,Zct,Zcu,Zcw,Zcy,Zcz,Zda,Zdb,Zdd,Zde,Zdf,Zdg,Zdh,Q0,Q7,Q4,Q5,Q8,Z8,Zdm,Zdn,Zdv,Zeb,Zed,Zee,Zef,decide_false,Bool.not_true,Q2,Z2,Q1,Q3,if_true,Nat.reduceAdd,Nat.reduceSub,Nat.reduceLeDiff,eq_self,true_and,Q1,Q3,Z5,Z6,Q9,Z0,aA2,aA4,aA3,part,Z1,Z3,Q6,Z4,Z9,Q9,Z0,Q0,cs,ha.len,hgv.len,q1,q2,e0,e2,aA6,aA5,aA7,Z7,Prod.mk.injEq,true_and,exists_eq']⟩
 obtain ⟨b,h',e⟩:=key
 exact ⟨b,fun H=>aAy rfl rfl aPQ _ (fun h=>aDX (aAU g h) (aEy ha hgv h)) ⟨h',e⟩ (fun _=>rfl) H⟩
end
end Go.Proofs.Yteenffomgdfocaa.Ai
