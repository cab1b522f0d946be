/- The reference's Right of a table: if it says yes, the table fits. -/
import Derived.Test.YteenffomgdfocaamLt4
namespace Go.Proofs.Yteenffomgdfocaa.Ai
open Go Go.Proofs
open AV renaming junk → J
open List renaming set_cons_zero → Q0, getD_cons_zero → Q1, getD_cons_succ → Q2, set_cons_succ → Q3, cons_append → Q4, nil_append → Q5, length_cons → Q6, length_nil → Q7, getElem?_cons_zero → Q9, getElem?_cons_succ → Z0, mem_iff_getElem → Z1, replicate_succ → Z2, replicate_zero → Z3, take_succ_cons → Z4, drop_zero → Z9, take_zero → Y0, getElem_mem → Y1, take_nil → Y2, drop_succ_cons → Y4
open Bool renaming not_true → Q8, not_false → Z8
open Option.some renaming injEq → Z5
open Option renaming bind_some → Z6, map_some → Z7
open Nat renaming zero_le → Y3
set_option linter.unusedVariables false
set_option linter.unusedSimpArgs false
set_option maxRecDepth 10000
set_option maxHeartbeats 4000000
section
variable {t : TabD} {av gv : AV} (ha : LiG (LiG LiA) t.acts av) (hgv : LiR t.gotos gv) (hl : TabLen t) (g : GramD) (hg : g.Ok)
include ha hgv hl
omit hgv in
theorem aR5 (n i:Nat) (S:Int) (hi:i < t.acts.length):∀ (d j m:Nat),(t.acts[i]).length=j+d→d < m→∃ (b:Bool),(b=true→∀ (q:Nat) (hq:q < (t.acts[i]).length),j≤q→∀ a ∈ (t.acts[i])[q],aDR g.rules.length S a) ∧
  aAj (aA1 (lim G0.cfg) n aDl) m ⟨(J::J::.ptr 0 0 0 0::.ptr 1 0 0 0::J::.int .i64 S::.int .i64 i::.int .i64 j::J::J::J::J::J::J::J::J::J::J::J::J::J::J::J::J::J::J::J::J::J::J::J::J::J::J::J::J::J::J::J::J::J::J::J::J::J::J::J::J::J::J::J::J::J::J::J::J::J::J::J::J::J::J::J::J::J::J::J::J::J::J::J::J::J::J::J::J::J::J::J::J::J::J::J::J::J::J::J::J::J::J::J::J::J::J::J::J::J::J::J::J::J::J::J::J::J::J::J::J::J::J::J::J::J::J::[]),[.arr 0 5 true [aA8 g],.arr 0 2 true [[av,gv]]]⟩ =
   bif b then some (.exit 2,⟨(J::J::.ptr 0 0 0 0::.ptr 1 0 0 0::J::.int .i64 S::.int .i64 i::J::J::J::J::J::J::J::J::J::J::J::J::J::J::J::J::J::J::J::J::J::J::J::J::J::J::J::J::J::J::J::J::J::J::J::J::J::J::J::J::J::J::J::J::J::J::J::J::J::J::J::J::J::J::J::J::J::J::J::J::J::J::J::J::J::J::J::J::J::J::J::J::J::J::J::J::J::J::J::J::J::J::J::J::J::J::J::J::J::J::J::J::J::J::J::J::J::J::J::J::J::J::J::J::J::J::J::[]),[.arr 0 5 true [aA8 g],.arr 0 2 true [[av,gv]]]⟩) else some (.ret,⟨(J::J::J::J::.bool false::J::J::J::J::J::J::J::J::J::J::J::J::J::J::J::J::J::J::J::J::J::J::J::J::J::J::J::J::J::J::J::J::J::J::J::J::J::J::J::J::J::J::J::J::J::J::J::J::J::J::J::J::J::J::J::J::J::J::J::J::J::J::J::J::J::J::J::J::J::J::J::J::J::J::J::J::J::J::J::J::J::J::J::J::J::J::J::J::J::J::J::J::J::J::J::J::J::J::J::J::J::J::J::J::J::J::J::J::J::[]),[.arr 0 5 true [aA8 g],.arr 0 2 true [[av,gv]]]⟩):=by
 obtain ⟨hr,hc⟩:=hl.row _ (Y1 hi)
 have hr':=hr
 rw [aAp] at hr'
 obtain ⟨rv,r1,r2⟩:=ha.ix i hi
 have a0:aA2 [.arr 0 5 true [aA8 g],.arr 0 2 true [[av,gv]]] 5 true (.ptr 0 0 0 0)=some (.agg (aA8 g)):=rfl
 have a1:aA2 [.arr 0 5 true [aA8 g],.arr 0 2 true [[av,gv]]] 1 false (.ptr 1 0 0 0)=some av:=rfl
 have a2:∀ x:AV,aA2 [.arr 0 5 true [aA8 g],.arr 0 2 true [[av,gv]]] 1 false (.vptr [x] 0)=some x:=fun x=>rfl
 intro d
 induction d with
 | zero =>
  intro j m h1 h2
  obtain ⟨m,rfl⟩:∃ q,m=q+1:=⟨m - 1,by omega⟩
  have h3:¬ ((j:Int) < (t.acts[i]).length):=by omega
  exact ⟨true,fun _ q hq hjq=>by omega,by simp only [aAb,aF0,Zaf,Zag,Zah,Zak,Zal,Zan,Zao,Zap,Zaw,Zaz,Zbc,Zbm,Zbo,Zbs,Zbu,Zcc,Zcf,Zck,Zcz,Zdb,Zdf,Zdg,Zdh,Q0,Q3,Q1,Q2,Zdl,Zeb,decide_false,Nat.reduceAdd,eq_self,cond_true,a1,a2,r2,r1.len,h3]⟩
 | succ d ih =>
  intro j m h1 h2
  obtain ⟨m,rfl⟩:∃ q,m=q+1:=⟨m - 1,by omega⟩
  have h3:j < (t.acts[i]).length:=by omega
  have h3':(j:Int) < (t.acts[i]).length:=by omega
  have hw:=aAV (n:=j) (by omega)
  obtain ⟨cv,c1,c2⟩:=r1.ix j h3
  obtain ⟨b1,hb1,cg⟩:=aRS g c1 (hc _ (Y1 h3)) j S
  obtain ⟨b,hb,e⟩:=ih (j+1) m (by omega) (by omega)
  cases b1
  ·exact ⟨false,fun h=>(by cases h),by simp only [aAb,aF0,Zae,Zaf,Zag,Zah,Zai,Zak,Zam,Zan,Zao,Zaq,Zas,Zav,Zba,Zbc,Zbd,Zbm,Zbo,Zbs,Zbu,Zbv,Zcc,Zcf,Zck,Zct,Zcu,Zcz,Zda,Zdb,Zdd,Zde,Zdf,Zdg,Zdh,Q0,Q3,Q1,Q2,Zdl,Zdv,Zeb,decide_true,Z8,Nat.reduceAdd,eq_self,cond_false,Q4,Q5,a0,a1,a2,r2,r1.len,h3',c2,cg]⟩
  ·refine ⟨b,fun hbt q hq hjq => ?_,by simp only [aAb,aF0,Zae,Zaf,Zag,Zah,Zai,Zak,Zan,Zao,Zar,Zav,Zaw,Zay,Zbc,Zbd,Zbm,Zbo,Zbs,Zbu,Zbv,Zcc,Zcf,Zck,Zct,Zcu,Zcz,Zda,Zdb,Zdd,Zde,Zdf,Zdg,Zdh,Q0,Q3,Q1,Q2,Zdi,Zdl,Zdv,Zeb,decide_true,Q8,Nat.reduceAdd,eq_self,Q4,Q5,a0,a1,a2,r2,r1.len,h3',c2,cg,hw,e]⟩
   by_cases hqj:q=j
   ·subst hqj;exact hb1 rfl
   ·exact hb hbt q hq (by omega)
omit ha in
theorem aR4 (n i:Nat) (S:Int) (hi:i < t.gotos.length):∀ (d j m:Nat),(t.gotos[i]).length=j+d→d < m→∃ (b:Bool),(b=true→∀ (q:Nat) (hq:q < (t.gotos[i]).length),j≤q → -1≤(t.gotos[i])[q]∧(t.gotos[i])[q] < S) ∧
  aAj (aA1 (lim G0.cfg) n aDk) m ⟨(J::J::.ptr 0 0 0 0::.ptr 1 0 0 0::J::.int .i64 S::.int .i64 i::J::.int .i64 j::J::J::J::J::J::J::J::J::J::J::J::J::J::J::J::J::J::J::J::J::J::J::J::J::J::J::J::J::J::J::J::J::J::J::J::J::J::J::J::J::J::J::J::J::J::J::J::J::J::J::J::J::J::J::J::J::J::J::J::J::J::J::J::J::J::J::J::J::J::J::J::J::J::J::J::J::J::J::J::J::J::J::J::J::J::J::J::J::J::J::J::J::J::J::J::J::J::J::J::J::J::J::J::J::J::[]),[.arr 0 5 true [aA8 g],.arr 0 2 true [[av,gv]]]⟩ =
   bif b then some (.exit 4,⟨(J::J::.ptr 0 0 0 0::.ptr 1 0 0 0::J::.int .i64 S::.int .i64 i::J::J::J::J::J::J::J::J::J::J::J::J::J::J::J::J::J::J::J::J::J::J::J::J::J::J::J::J::J::J::J::J::J::J::J::J::J::J::J::J::J::J::J::J::J::J::J::J::J::J::J::J::J::J::J::J::J::J::J::J::J::J::J::J::J::J::J::J::J::J::J::J::J::J::J::J::J::J::J::J::J::J::J::J::J::J::J::J::J::J::J::J::J::J::J::J::J::J::J::J::J::J::J::J::J::J::J::[]),[.arr 0 5 true [aA8 g],.arr 0 2 true [[av,gv]]]⟩) else some (.ret,⟨(J::J::J::J::.bool false::J::J::J::J::J::J::J::J::J::J::J::J::J::J::J::J::J::J::J::J::J::J::J::J::J::J::J::J::J::J::J::J::J::J::J::J::J::J::J::J::J::J::J::J::J::J::J::J::J::J::J::J::J::J::J::J::J::J::J::J::J::J::J::J::J::J::J::J::J::J::J::J::J::J::J::J::J::J::J::J::J::J::J::J::J::J::J::J::J::J::J::J::J::J::J::J::J::J::J::J::J::J::J::J::J::J::J::J::J::[]),[.arr 0 5 true [aA8 g],.arr 0 2 true [[av,gv]]]⟩):=by
 have hr:=hl.grow _ (Y1 hi)
 have hr':=hr
 rw [aAp] at hr'
 obtain ⟨rv,r1,r2⟩:=hgv.ix i hi
 have a1:aA2 [.arr 0 5 true [aA8 g],.arr 0 2 true [[av,gv]]] 1 false (.ptr 1 0 0 1)=some gv:=rfl
 have a2:∀ x:AV,aA2 [.arr 0 5 true [aA8 g],.arr 0 2 true [[av,gv]]] 1 false (.vptr [x] 0)=some x:=fun x=>rfl
 intro d
 induction d with
 | zero =>
  intro j m h1 h2
  obtain ⟨m,rfl⟩:∃ q,m=q+1:=⟨m - 1,by omega⟩
  have h3:¬ ((j:Int) < (t.gotos[i]).length):=by omega
  exact ⟨true,fun _ q hq hjq=>by omega,by simp only [aAb,aC7,Zaf,Zag,Zah,Zak,Zal,Zan,Zao,Zap,Zaw,Zaz,Zbc,Zbm,Zbo,Zbs,Zbu,Zcc,Zcf,Zck,Zcz,Zdb,Zdf,Zdg,Zdh,Q0,Q3,Q1,Q2,Zdl,Zeb,decide_false,Nat.reduceAdd,Int.reduceNeg,eq_self,cond_true,a1,a2,r2,r1.len,h3]⟩
 | succ d ih =>
  intro j m h1 h2
  obtain ⟨m,rfl⟩:∃ q,m=q+1:=⟨m - 1,by omega⟩
  have h3:j < (t.gotos[i]).length:=by omega
  have h3':(j:Int) < (t.gotos[i]).length:=by omega
  have hw:=aAV (n:=j) (by omega)
  have ix:=fun h=>r1.ix h .i64 j h3
  obtain ⟨b,hb,e⟩:=ih (j+1) m (by omega) (by omega)
  have nxt : -1≤(t.gotos[i])[j]∧(t.gotos[i])[j] < S→(b=true→∀ (q:Nat) (hq:q < (t.gotos[i]).length),j≤q → -1≤(t.gotos[i])[q]∧(t.gotos[i])[q] < S):=fun ho hbt q hq hjq=>by
   by_cases hqj:q=j
   ·subst hqj;exact ho
   ·exact hb hbt q hq (by omega)
  by_cases q1:(t.gotos[i])[j] < -1
  ·exact ⟨false,fun h=>(by cases h),by simp only [aAb,aC7,Zae,Zaf,Zag,Zah,Zai,Zak,Zam,Zan,Zao,Zaq,Zas,Zav,Zba,Zbc,Zbh,Zbj,Zbk,Zbm,Zbn,Zbo,Zbp,Zbs,Zbu,Zcc,Zcf,Zck,Zcz,Zda,Zdb,Zdf,Zdg,Zdh,Q0,Q3,Q1,Q2,Zdl,Zeb,decide_true,Nat.reduceAdd,Int.reduceNeg,eq_self,cond_false,a1,a2,r2,r1.len,h3',ix,eI,q1]⟩
  ·by_cases q2:S≤(t.gotos[i])[j]
   ·exact ⟨false,fun h=>(by cases h),by simp only [aAb,aC7,Zae,Zaf,Zag,Zah,Zai,Zak,Zam,Zan,Zao,Zaq,Zas,Zav,Zba,Zbc,Zbg,Zbh,Zbj,Zbk,Zbl,Zbm,Zbn,Zbo,Zbp,Zbs,Zbu,Zcc,Zcf,Zck,Zcz,Zda,Zdb,Zdf,Zdg,Zdh,Q0,Q3,Q1,Q2,Zdl,Zdo,Zeb,decide_true,decide_false,Nat.reduceAdd,Int.reduceNeg,eq_self,cond_false,a1,a2,r2,r1.len,h3',ix,eI,q1,q2]⟩
   ·rcases j with _ | p
    ·simp only [z0] at hw ⊢
     have ix0:=ix
     simp only [z0] at ix0 h3'
     by_cases q3:(t.gotos[i])[0] = -1
     ·have q2':¬ (S ≤ -1):=by omega
      exact ⟨b,nxt ⟨by omega,by omega⟩,by simp only [aAb,aC7,Zae,Zaf,Zag,Zah,Zai,Zak,Zan,Zao,Zar,Zav,Zaw,Zay,Zbc,Zbf,Zbg,Zbk,Zbl,Zbm,Zbn,Zbo,Zbp,Zbs,Zbu,Zcc,Zcf,Zck,Zcz,Zda,Zdb,Zdf,Zdg,Zdh,Q0,Q3,Q1,Q2,Zdi,Zdl,Zdo,Zdp,Zdq,Zeb,decide_true,decide_false,Q8,Nat.reduceAdd,Int.reduceNeg,Int.reduceLT,eq_self,a1,a2,r2,r1.len,h3',ix0,eI,q2',q3,hw,e]⟩
     ·exact ⟨false,fun h=>(by cases h),by simp only [aAb,aC7,Zae,Zaf,Zag,Zah,Zai,Zak,Zam,Zan,Zao,Zaq,Zas,Zav,Zba,Zbc,Zbf,Zbg,Zbk,Zbl,Zbm,Zbn,Zbo,Zbp,Zbs,Zbu,Zcc,Zcf,Zck,Zcz,Zda,Zdb,Zdf,Zdg,Zdh,Q0,Q3,Q1,Q2,Zdl,Zdo,Zdp,Zdq,Zeb,decide_true,decide_false,Z8,Nat.reduceAdd,Int.reduceNeg,eq_self,cond_false,a1,a2,r2,r1.len,h3',ix0,eI,q1,q2,q3]⟩
    ·have q3:¬ (((p+1:Nat):Int)=0):=by omega
     exact ⟨b,nxt ⟨by omega,by omega⟩,by simp only [aAb,aC7,Zae,Zaf,Zag,Zah,Zai,Zak,Zan,Zao,Zar,Zav,Zaw,Zay,Zbc,Zbg,Zbi,Zbl,Zbm,Zbn,Zbo,Zbp,Zbs,Zbu,Zcc,Zcf,Zck,Zcz,Zda,Zdb,Zdf,Zdg,Zdh,Q0,Q3,Q1,Q2,Zdi,Zdl,Zdo,Zdp,Zeb,decide_true,decide_false,Nat.reduceAdd,Int.reduceNeg,eq_self,a1,a2,r2,r1.len,h3',ix,eI,q1,q2,q3,hw,e]⟩
structure RowOk (g:GramD) (t:TabD) (S:Int) (q:Nat) (h1:q < t.acts.length) (h2:q < t.gotos.length):Prop where
 a:(t.acts[q]).length=g.terms.length
 o:(t.gotos[q]).length=g.nonterms.length
 act:∀ l ∈ t.acts[q],∀ x ∈ l,aDR g.rules.length S x
 go:∀ x ∈ t.gotos[q], -1≤x∧x < S
theorem aR6 (n:Nat) (hn:maxLen < n) (hlen:t.gotos.length=t.acts.length) (S:Int) (hS:S=t.acts.length):∀ (d i m:Nat),t.acts.length=i+d→d < m→∃ (b:Bool),(b=true→∀ (q:Nat) (h1:q < t.acts.length) (h2:q < t.gotos.length),i≤q→RowOk g t S q h1 h2) ∧
  aAj (aA1 (lim G0.cfg) n aDm) m ⟨(J::J::.ptr 0 0 0 0::.ptr 1 0 0 0::J::.int .i64 S::.int .i64 i::J::J::J::J::J::J::J::J::J::J::J::J::J::J::J::J::J::J::J::J::J::J::J::J::J::J::J::J::J::J::J::J::J::J::J::J::J::J::J::J::J::J::J::J::J::J::J::J::J::J::J::J::J::J::J::J::J::J::J::J::J::J::J::J::J::J::J::J::J::J::J::J::J::J::J::J::J::J::J::J::J::J::J::J::J::J::J::J::J::J::J::J::J::J::J::J::J::J::J::J::J::J::J::J::J::J::J::[]),[.arr 0 5 true [aA8 g],.arr 0 2 true [[av,gv]]]⟩ =
   bif b then some (.exit 0,⟨(J::J::J::J::J::J::J::J::J::J::J::J::J::J::J::J::J::J::J::J::J::J::J::J::J::J::J::J::J::J::J::J::J::J::J::J::J::J::J::J::J::J::J::J::J::J::J::J::J::J::J::J::J::J::J::J::J::J::J::J::J::J::J::J::J::J::J::J::J::J::J::J::J::J::J::J::J::J::J::J::J::J::J::J::J::J::J::J::J::J::J::J::J::J::J::J::J::J::J::J::J::J::J::J::J::J::J::J::J::J::J::J::J::J::[]),[.arr 0 5 true [aA8 g],.arr 0 2 true [[av,gv]]]⟩) else some (.ret,⟨(J::J::J::J::.bool false::J::J::J::J::J::J::J::J::J::J::J::J::J::J::J::J::J::J::J::J::J::J::J::J::J::J::J::J::J::J::J::J::J::J::J::J::J::J::J::J::J::J::J::J::J::J::J::J::J::J::J::J::J::J::J::J::J::J::J::J::J::J::J::J::J::J::J::J::J::J::J::J::J::J::J::J::J::J::J::J::J::J::J::J::J::J::J::J::J::J::J::J::J::J::J::J::J::J::J::J::J::J::J::J::J::J::J::J::J::[]),[.arr 0 5 true [aA8 g],.arr 0 2 true [[av,gv]]]⟩):=by
 have hal:=hl.acts
 rw [aAp] at hal
 have a1:aA2 [.arr 0 5 true [aA8 g],.arr 0 2 true [[av,gv]]] 1 false (.ptr 1 0 0 0)=some av:=rfl
 have a3:aA2 [.arr 0 5 true [aA8 g],.arr 0 2 true [[av,gv]]] 1 false (.ptr 1 0 0 1)=some gv:=rfl
 have a2:∀ x:AV,aA2 [.arr 0 5 true [aA8 g],.arr 0 2 true [[av,gv]]] 1 false (.vptr [x] 0)=some x:=fun x=>rfl
 have a4:aA2 [.arr 0 5 true [aA8 g],.arr 0 2 true [[av,gv]]] 1 false (.ptr 0 0 0 0)=some (.vsl false (eSs g.terms)):=rfl
 have a5:aA2 [.arr 0 5 true [aA8 g],.arr 0 2 true [[av,gv]]] 1 false (.ptr 0 0 0 1)=some (.vsl false (eSs g.nonterms)):=rfl
 intro d
 induction d with
 | zero =>
  intro i m h1 h2
  obtain ⟨m,rfl⟩:∃ q,m=q+1:=⟨m - 1,by omega⟩
  have h3:¬ ((i:Int) < S):=by omega
  exact ⟨true,fun _ q h1 h2 hiq=>by omega,by simp only [aAb,aC8,Zaf,Zag,Zah,Zak,Zal,Zan,Zao,Zap,Zaw,Zaz,Zbc,Zbm,Zbo,Zbu,Zcz,Zdb,Zdg,Zdh,Q0,Q3,Q1,Q2,Zdl,decide_false,eq_self,cond_true,h3]⟩
 | succ d ih =>
  intro i m h1 h2
  obtain ⟨m,rfl⟩:∃ q,m=q+1:=⟨m - 1,by omega⟩
  have h3:i < t.acts.length:=by omega
  have h4:i < t.gotos.length:=by omega
  have h3':(i:Int) < S:=by omega
  have hw:=aAV (n:=i) (by omega)
  obtain ⟨rv,r1,r2⟩:=ha.ix i h3
  obtain ⟨ov,o1,o2⟩:=hgv.ix i h4
  by_cases q1:((t.acts[i]).length:Int)=g.terms.length
  ·by_cases q2:((t.gotos[i]).length:Int)=g.nonterms.length
   ·obtain ⟨b1,hb1,e1⟩:=aR5 ha hl (gv:=gv) g n i S h3 (t.acts[i]).length 0 n (by omega) (by have:=(hl.row _ (Y1 h3)).1;omega)
    obtain ⟨b2,hb2,e2⟩:=aR4 hgv hl (av:=av) g n i S h4 (t.gotos[i]).length 0 n (by omega) (by have:=hl.grow _ (Y1 h4);omega)
    obtain ⟨b,hb,e⟩:=ih (i+1) m (by omega) (by omega)
    rw [z0] at e1 e2
    cases b1
    ·rw [cond_false] at e1
     exact ⟨false,fun h=>(by cases h),by simp only [aAb,aC8,Zae,Zaf,Zag,Zah,Zai,Zaj,Zak,Zan,Zao,Zaq,Zas,Zav,Zaw,Zax,Zba,Zbc,Zbg,Zbl,Zbm,Zbn,Zbo,Zbp,Zbs,Zbu,Zcc,Zcf,Zck,Zcz,Zda,Zdb,Zdf,Zdg,Zdh,Q0,Q3,Q1,Q2,Zdl,Zdq,Zdx,Zeb,Zeu,decide_true,Q8,Nat.reduceAdd,eq_self,cond_false,a1,a2,a3,a4,a5,r2,r1.len,o2,o1.len,h3',q1,q2,e1]⟩
    ·rw [cond_true] at e1
     cases b2
     ·rw [cond_false] at e2
      exact ⟨false,fun h=>(by cases h),by simp only [aAb,aC8,Zae,Zaf,Zag,Zah,Zai,Zaj,Zak,Zan,Zao,Zaq,Zas,Zat,Zav,Zaw,Zax,Zba,Zbc,Zbg,Zbl,Zbm,Zbn,Zbo,Zbp,Zbs,Zbu,Zcc,Zcf,Zck,Zcz,Zda,Zdb,Zdf,Zdg,Zdh,Q0,Q3,Q1,Q2,Zdl,Zdq,Zdx,Zeb,Zeu,decide_true,Q8,Nat.reduceAdd,eq_self,cond_false,a1,a2,a3,a4,a5,r2,r1.len,o2,o1.len,h3',q1,q2,e1,e2]⟩
     ·rw [cond_true] at e2
      refine ⟨b,fun hbt q h5 h6 hiq => ?_,by simp only [aAb,aC8,Zae,Zaf,Zag,Zah,Zai,Zaj,Zak,Zan,Zao,Zar,Zat,Zav,Zaw,Zax,Zay,Zbc,Zbg,Zbl,Zbm,Zbn,Zbo,Zbp,Zbs,Zbu,Zcc,Zcf,Zck,Zcz,Zda,Zdb,Zdf,Zdg,Zdh,Q0,Q3,Q1,Q2,Zdi,Zdl,Zdq,Zdx,Zeb,Zeu,decide_true,Q8,Nat.reduceAdd,eq_self,a1,a2,a3,a4,a5,r2,r1.len,o2,o1.len,h3',q1,q2,e1,e2,hw,e]⟩
      by_cases hqi:q=i
      ·subst hqi
       refine ⟨by omega,by omega,fun l hl x hx => ?_,fun x hx => ?_⟩
       ·obtain ⟨p,hp,rfl⟩:=Z1.1 hl
        exact hb1 rfl p hp (Y3 _) x hx
       ·obtain ⟨p,hp,rfl⟩:=Z1.1 hx
        exact hb2 rfl p hp (Y3 _)
      ·exact hb hbt q h5 h6 (by omega)
   ·exact ⟨false,fun h=>(by cases h),by simp only [aAb,aC8,Zae,Zaf,Zag,Zah,Zai,Zak,Zam,Zan,Zao,Zaq,Zas,Zav,Zba,Zbc,Zbg,Zbl,Zbm,Zbn,Zbo,Zbp,Zbs,Zbu,Zcc,Zcf,Zck,Zcz,Zda,Zdb,Zdf,Zdg,Zdh,Q0,Q3,Q1,Q2,Zdl,Zdq,Zdx,Zeb,Zeu,decide_true,decide_false,Q8,Z8,Nat.reduceAdd,eq_self,cond_false,a1,a2,a3,a4,a5,r2,r1.len,o2,o1.len,h3',q1,q2]⟩
  ·exact ⟨false,fun h=>(by cases h),by simp only [aAb,aC8,Zae,Zaf,Zag,Zah,Zai,Zak,Zam,Zan,Zao,Zaq,Zas,Zav,Zba,Zbc,Zbh,Zbk,Zbm,Zbn,Zbo,Zbp,Zbs,Zbu,Zcc,Zcf,Zck,Zcz,Zda,Zdb,Zdf,Zdg,Zdh,Q0,Q3,Q1,Q2,Zdl,Zdq,Zdx,Zeb,Zeu,decide_true,decide_false,Z8,Nat.reduceAdd,eq_self,cond_false,a1,a2,a4,r2,r1.len,h3',q1]⟩
include hg
theorem aQ8:∃ b,(b=true→TabOk g t∧aBl g=0)∧∀ H,lim G0.cfg (.func 6) [.agg (aA8 g),.agg [av,gv]] H=some (.bool b,H):=by
 have hla:=hl.acts
 have cr:=aNJ g hg
 obtain ⟨N,hNN⟩:∃ N,N=maxLen+1:=⟨_,rfl⟩
 have fin:∀ (b:Bool),(b=true→TabOk g t∧aBl g=0)→(∃ h',aAS (lim G0.cfg) N aDu [.agg (aA8 g),.agg [av,gv]] []=some (.bool b,h'))→∃ b,(b=true→TabOk g t∧aBl g=0)∧∀ H,lim G0.cfg (.func 6) [.agg (aA8 g),.agg [av,gv]] H=some (.bool b,H) :=
  fun b hb h=>⟨b,hb,fun H=>aAy rfl rfl aNl _ (fun h=>aDX (aAU g h) (aEy ha hgv h)) h (fun _=>rfl) H⟩
 have no:(∃ h',aAS (lim G0.cfg) N aDu [.agg (aA8 g),.agg [av,gv]] []=some (.bool false,h'))→∃ b,(b=true→TabOk g t∧aBl g=0)∧∀ H,lim G0.cfg (.func 6) [.agg (aA8 g),.agg [av,gv]] H=some (.bool b,H) :=
  fin false (fun h=>by cases h)
 by_cases q0:aBl g=0
 case neg=>exact no (by rw [aE2];simp only [Zaf,Zag,Zah,Zam,Zan,Zao,Zaq,Zav,Zbc,Zbd,Zbh,Zbk,Zbm,Zbn,Zbo,Zbp,Zbr,Zbs,Zbu,Zcc,Zck,Zct,Zcu,Zcw,Zcy,Zcz,Zda,Zdb,Zdd,Zde,Q0,Q3,Q1,Q2,Z6,Z7,Zdq,Zeb,Zed,Zee,Zef,decide_false,Z8,Q9,Z0,Q6,Q7,if_true,Nat.reduceAdd,Nat.reduceSub,Nat.reduceLeDiff,eq_self,true_and,Q6,Q7,Z2,Z3,Q4,Q5,aA2,aA4,aA3,part,Z9,Z4,Y0,Y2,Q4,Q5,Q0,cr,q0,ha.len,aA6,aA5,aA7,Z5,Prod.mk.injEq,true_and,exists_eq'])
 rw [q0] at cr
 by_cases q1:(t.acts.length:Int) < 1
 case pos=>exact no (by rw [aE2];simp only [Zaf,Zag,Zah,Zam,Zan,Zao,Zaq,Zav,Zbc,Zbd,Zbg,Zbh,Zbk,Zbl,Zbm,Zbn,Zbo,Zbp,Zbr,Zbs,Zbu,Zcc,Zck,Zct,Zcu,Zcw,Zcy,Zcz,Zda,Zdb,Zdd,Zde,Q0,Q3,Q1,Q2,Z6,Z7,Zdl,Zdq,Zeb,Zed,Zee,Zef,decide_true,Q8,Q9,Z0,Q6,Q7,if_true,Nat.reduceAdd,Nat.reduceSub,Nat.reduceLeDiff,eq_self,true_and,Q6,Q7,Z2,Z3,Q4,Q5,aA2,aA4,aA3,part,Z9,Z4,Y0,Y2,Q4,Q5,Q0,cr,ha.len,q1,aA6,aA5,aA7,Z5,Prod.mk.injEq,true_and,exists_eq'])
 by_cases q2:(4096:Int) < t.acts.length
 case pos=>exact no (by rw [aE2];simp only [Zaf,Zag,Zah,Zam,Zan,Zao,Zaq,Zav,Zbc,Zbd,Zbg,Zbh,Zbk,Zbl,Zbm,Zbn,Zbo,Zbp,Zbr,Zbs,Zbu,Zcc,Zck,Zct,Zcu,Zcw,Zcy,Zcz,Zda,Zdb,Zdd,Zde,Q0,Q3,Q1,Q2,Z6,Z7,Zdl,Zdn,Zdq,Zeb,Zed,Zee,Zef,decide_true,decide_false,Q8,Q9,Z0,Q6,Q7,if_true,Nat.reduceAdd,Nat.reduceSub,Nat.reduceLeDiff,eq_self,true_and,Q6,Q7,Z2,Z3,Q4,Q5,aA2,aA4,aA3,part,Z9,Z4,Y0,Y2,Q4,Q5,Q0,cr,ha.len,q1,q2,aA6,aA5,aA7,Z5,Prod.mk.injEq,true_and,exists_eq'])
 by_cases q3:(t.gotos.length:Int)=t.acts.length
 case neg=>exact no (by rw [aE2];simp only [Zaf,Zag,Zah,Zam,Zan,Zao,Zaq,Zav,Zbc,Zbd,Zbg,Zbl,Zbm,Zbn,Zbo,Zbp,Zbr,Zbs,Zbu,Zcc,Zck,Zct,Zcu,Zcw,Zcy,Zcz,Zda,Zdb,Zdd,Zde,Q0,Q3,Q1,Q2,Z6,Z7,Zdl,Zdn,Zdq,Zeb,Zed,Zee,Zef,decide_true,decide_false,Q8,Z8,Q9,Z0,Q6,Q7,if_true,Nat.reduceAdd,Nat.reduceSub,Nat.reduceLeDiff,eq_self,true_and,Q6,Q7,Z2,Z3,Q4,Q5,aA2,aA4,aA3,part,Z9,Y4,Z4,Y0,Y2,Q4,Q5,Q0,cr,ha.len,hgv.len,q1,q2,q3,aA6,aA5,aA7,Z5,Prod.mk.injEq,true_and,exists_eq'])
 have hlen:t.gotos.length=t.acts.length:=by omega
 obtain ⟨b,hb,e⟩:=aR6 ha hgv hl g N (by omega) hlen t.acts.length rfl t.acts.length 0 N (by omega) (by omega)
 rw [z0] at e
 refine fin b (fun hbt=>⟨?_,q0⟩) ?_
 ·have hall:=hb hbt
  refine ⟨by omega,by omega,hlen,fun r hr => ?_,fun r hr => ?_,fun r hr l hl a hx => ?_,fun r hr x hx => ?_⟩
  ·obtain ⟨p,hp,rfl⟩:=Z1.1 hr
   exact (hall p hp (by omega) (Y3 _)).a
  ·obtain ⟨p,hp,rfl⟩:=Z1.1 hr
   exact (hall p (by omega) hp (Y3 _)).o
  ·obtain ⟨p,hp,rfl⟩:=Z1.1 hr
   exact (hall p hp (by omega) (Y3 _)).act l hl a hx
  ·obtain ⟨p,hp,rfl⟩:=Z1.1 hr
   exact (hall p (by omega) hp (Y3 _)).go x hx
 ·rw [aE2]
  cases b
  ·rw [cond_false] at e
   simp only [Zae,Zaf,Zag,Zah,Zai,Zaj,Zak,Zan,Zao,Zaq,Zas,Zaw,Zax,Zbc,Zbd,Zbg,Zbl,Zbm,Zbn,Zbo,Zbp,Zbr,Zbs,Zbu,Zcc,Zck,Zct,Zcu,Zcw,Zcy,Zcz,Zda,Zdb,Zdd,Zde,Zdf,Zdg,Zdh,Q0,Q3,Q1,Q2,Z6,Z7,Zdl,Zdn,Zdq,Zeb,Zed,Zee,Zef,decide_true,decide_false,Q8,Q9,Z0,Q6,Q7,if_true,Nat.reduceAdd,Nat.reduceSub,Nat.reduceLeDiff,eq_self,true_and,Q6,Q7,Z2,Z3,Q4,Q5,aA2,aA4,aA3,part,Z9,Y4,Z4,Y0,Y2,Q4,Q5,Q0,cr,ha.len,hgv.len,q1,q2,q3,e,aA6,aA5,aA7,Z5,Prod.mk.injEq,true_and,exists_eq']
  ·rw [cond_true] at e
   simp only [Zae,Zaf,Zag,Zah,Zai,Zaj,Zak,Zam,Zan,Zao,Zat,Zaw,Zax,Zbc,Zbd,Zbg,Zbl,Zbm,Zbn,Zbo,Zbp,Zbr,Zbs,Zbu,Zcc,Zck,Zct,Zcu,Zcw,Zcy,Zcz,Zda,Zdb,Zdd,Zde,Zdf,Zdg,Zdh,Q0,Q3,Q1,Q2,Z6,Z7,Zdl,Zdn,Zdq,Zeb,Zed,Zee,Zef,decide_true,decide_false,Q8,Q9,Z0,Q6,Q7,if_true,Nat.reduceAdd,Nat.reduceSub,Nat.reduceLeDiff,eq_self,true_and,Q6,Q7,Z2,Z3,Q4,Q5,aA2,aA4,aA3,part,Z9,Y4,Z4,Y0,Y2,Q4,Q5,Q0,cr,ha.len,hgv.len,q1,q2,q3,e,aA6,aA5,aA7,Z5,Prod.mk.injEq,true_and,exists_eq']
end
end Go.Proofs.Yteenffomgdfocaa.Ai
