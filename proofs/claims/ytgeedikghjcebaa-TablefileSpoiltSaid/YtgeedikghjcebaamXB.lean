/- Row tables as data; reading an entry. -/
import Derived.Test.YtgeedikghjcebaamXA
import Derived.Test.YtgeedikghjcebaamFn
namespace Go.Proofs.Ytgeedikghjcebaa.Ai
open Go Go.Proofs
open List renaming set_cons_zero → Q0, length_cons → Q1, cons_append → Q2, length_nil → Q3, nil_append → Q4, getElem?_cons_zero → Q5, getD_cons_zero → Q6, getD_cons_succ → Q7, replicate_succ → Q8, replicate_zero → Q9, set_cons_succ → Z0, take_succ_cons → Z1, drop_succ_cons → Z5, drop_zero → Z6, take_zero → Z7, take_nil → Z8
open Option.some renaming injEq → Z2
open Option renaming map_some → Z3, bind_some → Z4
set_option linter.unusedVariables false
set_option linter.unusedSimpArgs false
set_option maxRecDepth 10000
set_option maxHeartbeats 4000000
def Li (l:List Int) (v:AV):Prop:=(l=[]∧v=.nilS)∨∃ e,v=.vsl e (eIs l)
theorem Li.len {l:List Int} {v:AV} (hl:Li l v) (h:aA0):aBX h .slice v=some (.int .i64 l.length):=by
 rcases hl with ⟨rfl,rfl⟩ | ⟨e,rfl⟩
 ·rfl
 ·simp [aBX,Zet]
theorem Li.ix {l:List Int} {v:AV} (hl:Li l v) (h:aA0) (k:IntKind) (j:Nat) (hj:j < l.length):aAN h 1 v (.int k j)=some (.vptr (eI l[j]) 0):=by
 rcases hl with ⟨rfl,rfl⟩ | ⟨e,rfl⟩
 ·simp at hj
 ·exact aSW h e l k j hj
theorem Li.fz {l:List Int} {v:AV} (hl:Li l v) (h:aA0) (d:Nat):freeze h (d+1) v=some (v,true):=by
 rcases hl with ⟨rfl,rfl⟩ | ⟨e,rfl⟩ <;> rfl
theorem Li.cell {l:List Int} {v:AV} (hl:Li l v):cellsOf v=[v]∧aAp v=true:=by
 rcases hl with ⟨rfl,rfl⟩ | ⟨e,rfl⟩ <;> exact ⟨rfl,rfl⟩
theorem aLc (e:Bool) (l:List Int):Li l (.vsl e (eIs l)):=.inr ⟨e,rfl⟩
theorem Li.ixG {l:List Int} {v:AV} (hl:Li l v) (h:aA0) (k:IntKind) {j:Int} (h0:0≤j) (hj:j < l.length):aAN h 1 v (.int k j)=some (.vptr (eI (l.getD j.toNat 0)) 0):=by
 have:=hl.ix h k j.toNat (by omega)
 have e:((j.toNat:Nat):Int)=j:=by omega
 rw [e] at this
 rw [this]
 simp [show j.toNat < l.length by omega]
structure RowT where
 row:List Int
 base:List Int
 val:List Int
 own:List Int
def RT (c:RowT) (cs:List AV):Prop:=∃ a b v o,cs=[a,b,v,o]∧Li c.row a∧Li c.base b∧Li c.val v∧Li c.own o
def atD (c:RowT) (row col:Int):Int :=
 if row < 0∨(c.row.length:Int)≤row∨col < 0 then 0 else
 if c.row.getD row.toNat 0 < 0∨(c.base.length:Int)≤c.row.getD row.toNat 0 then 0 else
 if c.base.getD (c.row.getD row.toNat 0).toNat 0+col < 0∨(c.val.length:Int)≤c.base.getD (c.row.getD row.toNat 0).toNat 0+col∨(c.own.length:Int)≤c.base.getD (c.row.getD row.toNat 0).toNat 0+col ∨
  c.own.getD (c.base.getD (c.row.getD row.toNat 0).toNat 0+col).toNat 0≠c.row.getD row.toNat 0+1 then 0
 else c.val.getD (c.base.getD (c.row.getD row.toNat 0).toNat 0+col).toNat 0
theorem aP9 {c:RowT} {cs:List AV} (hc:RT c cs) (h:aA0):freeze h 1000 (.agg cs)=some (.agg cs,true):=by
 obtain ⟨a,b,v,o,rfl,ha,hb,hv,ho⟩:=hc
 have e:freeze h 1000 (.agg [a,b,v,o])=(aAq (freeze h 999) [a,b,v,o]).map fun l=>(.agg (l.map (·.1)),l.all (·.2)):=rfl
 have hm:aAq (freeze h 999) [a,b,v,o]=some [(a,true),(b,true),(v,true),(o,true)]:=by
  simp only [aAq,ha.fz h 998,hb.fz h 998,hv.fz h 998,ho.fz h 998]
 rw [e,hm];rfl
theorem aTd {c:RowT} {cs:List AV} (hc:RT c cs) (l1:c.base.length≤1000000000) (l2:c.val.length≤1000000000) (l3:c.own.length≤1000000000) (hbase:∀ x ∈ c.base, -9223372036854775808≤x∧x≤9223372036854775807) (row col:Int) (hcol:col≤9223372036854775807) (H:aA0) :
  lim G0.cfg (.func 41) [.agg cs,.int .i64 row,.int .i64 col] H=some (.int .i64 (atD c row col),H):=by
 refine aAP rfl rfl aQH 1 (fun h=>aT1 (aP9 hc h) rfl rfl) ?_ (fun _=>rfl) H
 obtain ⟨a,b,v,o,rfl,ha,hb,hv,ho⟩:=hc
 obtain ⟨ca1,ca2⟩:=ha.cell
 obtain ⟨cb1,cb2⟩:=hb.cell
 obtain ⟨cv1,cv2⟩:=hv.cell
 obtain ⟨co1,co2⟩:=ho.cell
 have la:=ha.len
 have lb:=hb.len
 have lv:=hv.len
 have lo:=ho.len
 have xa:=fun h=>ha.ixG h .i64 (j:=row)
 obtain ⟨i,hi⟩:∃ i,i=c.row.getD row.toNat 0:=⟨_,rfl⟩
 obtain ⟨bb,hbb⟩:∃ bb,bb=c.base.getD i.toNat 0:=⟨_,rfl⟩
 have xb:=fun h=>hb.ixG h .i64 (j:=i)
 have xv:=fun h=>hv.ixG h .i64 (j:=bb+col)
 have xo:=fun h=>ho.ixG h .i64 (j:=bb+col)
 unfold atD
 rw [← hi] at xa ⊢
 rw [← hbb] at xb ⊢
 obtain ⟨ov,hov⟩:∃ ov,ov=c.own.getD (bb+col).toNat 0:=⟨_,rfl⟩
 obtain ⟨vv,hvv⟩:∃ vv,vv=c.val.getD (bb+col).toNat 0:=⟨_,rfl⟩
 rw [← hov] at xo ⊢
 rw [← hvv] at xv ⊢
 obtain ⟨mn,hmn⟩:∃ mn:Int,mn=if (c.own.length:Int) < c.val.length then (c.own.length:Int) else c.val.length:=⟨_,rfl⟩
 have hmm:aHJ false [AV.int .i64 c.val.length,AV.int .i64 c.own.length]=some (.int .i64 mn):=by
  simp only [aHJ,amm]
  rw [hmn]
  rfl
 obtain ⟨res,hres⟩:∃ res,res=(if row < 0∨(c.row.length:Int)≤row∨col < 0 then 0 else if i < 0∨(c.base.length:Int)≤i then 0 else if bb+col < 0∨(c.val.length:Int)≤bb+col∨(c.own.length:Int)≤bb+col∨ov≠i+1 then 0 else vv):=⟨_,rfl⟩
 rw [← hres]
 rw [aQF]
 by_cases p1:row < 0
 case pos =>
  have hr:res=0:=by rw [hres];split;rfl;split;rfl;split;rfl;exfalso;omega
  simp only [Zaf,Zag,Zah,Zam,Zan,Zao,Zaq,Zav,Zbc,Zbd,Zbh,Zbk,Zbm,Zbn,Zbo,Zbp,Zbr,Zbu,Zcw,Zcy,Zcz,Zda,Zdb,Q0,Z0,Q6,Q7,Z3,Zdl,Zef,decide_true,Q1,Q3,if_true,Nat.reduceAdd,Nat.reduceSub,eq_self,true_and,Q1,Q3,Q8,Q9,Q2,Q4,Q2,Q4,Q0,p1,hr,aAa,aA8,aAc,Z2,Prod.mk.injEq,true_and,exists_eq']
 case neg =>
 by_cases p2:(c.row.length:Int)≤row
 case pos =>
  have hr:res=0:=by rw [hres];split;rfl;split;rfl;split;rfl;exfalso;omega
  simp only [Zaf,Zag,Zah,Zam,Zan,Zao,Zaq,Zav,Zbc,Zbd,Zbg,Zbh,Zbk,Zbl,Zbm,Zbn,Zbo,Zbp,Zbr,Zbs,Zbu,Zcc,Zck,Zcw,Zcy,Zcz,Zda,Zdb,Q0,Z0,Q6,Q7,Z4,Z3,Zdl,Zdo,Zeb,Zed,Zef,decide_true,decide_false,Q5,Q1,Q3,if_true,Nat.reduceAdd,Nat.reduceSub,Nat.reduceLeDiff,eq_self,true_and,Q1,Q3,Q8,Q9,Q2,Q4,aAb,aAM,aAk,part,Z6,Z1,Z7,Q2,Q4,Q0,p1,la,p2,hr,aAa,aA8,aAc,Z2,Prod.mk.injEq,true_and,exists_eq']
 case neg =>
 by_cases p3:col < 0
 case pos =>
  have hr:res=0:=by rw [hres];split;rfl;split;rfl;split;rfl;exfalso;omega
  simp only [Zaf,Zag,Zah,Zam,Zan,Zao,Zaq,Zav,Zbc,Zbd,Zbg,Zbl,Zbm,Zbn,Zbo,Zbp,Zbr,Zbs,Zbu,Zcc,Zck,Zcw,Zcy,Zcz,Zda,Zdb,Q0,Z0,Q6,Q7,Z4,Z3,Zdl,Zdo,Zeb,Zed,Zef,decide_true,decide_false,Q5,Q1,Q3,if_true,Nat.reduceAdd,Nat.reduceSub,Nat.reduceLeDiff,eq_self,true_and,Q1,Q3,Q8,Q9,Q2,Q4,aAb,aAM,aAk,part,Z6,Z1,Z7,Q2,Q4,Q0,p1,la,p2,p3,hr,aAa,aA8,aAc,Z2,Prod.mk.injEq,true_and,exists_eq']
 case neg =>
 have xa':=fun h=>xa h (by omega) (by omega)
 by_cases p4:i < 0
 case pos =>
  have hr:res=0:=by rw [hres];split;rfl;split;rfl;split;rfl;exfalso;omega
  simp only [Zae,Zaf,Zag,Zah,Zam,Zan,Zao,Zaq,Zav,Zaw,Zbc,Zbd,Zbg,Zbh,Zbk,Zbl,Zbm,Zbn,Zbo,Zbp,Zbr,Zbs,Zbu,Zcc,Zcf,Zck,Zcw,Zcy,Zcz,Zda,Zdb,Q0,Z0,Q6,Q7,Z4,Z3,Zdl,Zdo,Zeb,Zed,Zef,decide_true,decide_false,Q5,Q1,Q3,if_true,Nat.reduceAdd,Nat.reduceSub,Nat.reduceLeDiff,eq_self,true_and,Q1,Q3,Q8,Q9,Q2,Q4,aAb,aAM,aAk,part,eI,Z6,Z1,Z7,Z8,Q2,Q4,Q0,p1,la,p2,p3,xa',p4,hr,aAa,aA8,aAc,Z2,Prod.mk.injEq,true_and,exists_eq']
 case neg =>
 by_cases p5:(c.base.length:Int)≤i
 case pos =>
  have hr:res=0:=by rw [hres];split;rfl;split;rfl;split;rfl;exfalso;omega
  simp only [Zae,Zaf,Zag,Zah,Zam,Zan,Zao,Zaq,Zav,Zaw,Zbc,Zbd,Zbg,Zbl,Zbm,Zbn,Zbo,Zbp,Zbr,Zbs,Zbu,Zcc,Zcf,Zck,Zcw,Zcy,Zcz,Zda,Zdb,Q0,Z0,Q6,Q7,Z4,Z3,Zdl,Zdo,Zeb,Zed,Zef,decide_true,decide_false,Q5,Q1,Q3,if_true,Nat.reduceAdd,Nat.reduceSub,Nat.reduceLeDiff,eq_self,true_and,Q1,Q3,Q8,Q9,Q2,Q4,aAb,aAM,aAk,part,eI,Z6,Z5,Z1,Z7,Z8,Q2,Q4,Q0,p1,la,p2,p3,xa',p4,lb,p5,hr,aAa,aA8,aAc,Z2,Prod.mk.injEq,true_and,exists_eq']
 case neg =>
 have xb':=fun h=>xb h (by omega) (by omega)
 have hbr:=hbase bb (by rw [hbb];simp [show i.toNat < c.base.length by omega])
 have hm1:mn≤c.own.length∧mn≤c.val.length∧(mn=c.own.length∨mn=c.val.length):=by rw [hmn];split <;> omega
 by_cases p6:mn < bb
 case pos =>
  have hr:res=0:=by rw [hres];split;rfl;split;rfl;split;rfl;exfalso;omega
  simp only [Zae,Zaf,Zag,Zah,Zam,Zan,Zao,Zaq,Zav,Zaw,Zbc,Zbd,Zbg,Zbh,Zbj,Zbk,Zbl,Zbm,Zbn,Zbo,Zbp,Zbr,Zbs,Zbu,Zcc,Zcf,Zck,Zcp,Zcw,Zcy,Zcz,Zda,Zdb,Zdd,Zde,Q0,Z0,Q6,Q7,Z4,Z3,Zdl,Zdn,Zdo,Zeb,Zed,Zef,decide_true,decide_false,Q5,Q1,Q3,if_true,Nat.reduceAdd,Nat.reduceSub,Nat.reduceLeDiff,eq_self,true_and,Q1,Q3,Q8,Q9,Q2,Q4,aAb,aAM,aAk,part,eI,Z6,Z5,Z1,Z7,Z8,Q2,Q4,Q0,p1,la,p2,p3,xa',p4,lb,p5,lv,lo,hmm,xb',p6,hr,aAa,aA8,aAc,Z2,Prod.mk.injEq,true_and,exists_eq']
 case neg =>
 by_cases p7:mn < col∧0≤bb
 case pos =>
  obtain ⟨p7,p8⟩:=p7
  have hr:res=0:=by rw [hres];split;rfl;split;rfl;split;rfl;exfalso;omega
  simp only [Zae,Zaf,Zag,Zah,Zam,Zan,Zao,Zaq,Zav,Zaw,Zbc,Zbd,Zbf,Zbg,Zbk,Zbl,Zbm,Zbn,Zbo,Zbp,Zbr,Zbs,Zbu,Zcc,Zcf,Zck,Zcp,Zcw,Zcy,Zcz,Zda,Zdb,Zdd,Zde,Q0,Z0,Q6,Q7,Z4,Z3,Zdl,Zdn,Zdo,Zeb,Zed,Zef,decide_true,decide_false,Q5,Q1,Q3,if_true,Nat.reduceAdd,Nat.reduceSub,Nat.reduceLeDiff,eq_self,true_and,Q1,Q3,Q8,Q9,Q2,Q4,aAb,aAM,aAk,part,eI,Z6,Z5,Z1,Z7,Z8,Q2,Q4,Q0,p1,la,p2,p3,xa',p4,lb,p5,lv,lo,hmm,xb',p6,p7,p8,hr,aAa,aA8,aAc,Z2,Prod.mk.injEq,true_and,exists_eq']
 case neg =>
 have w1:IntKind.i64.wrap (bb+col)=bb+col:=w64 (by omega) (by omega)
 have w2:IntKind.i64.wrap (i+1)=i+1:=w64 (by omega) (by omega)
 by_cases p9:bb+col < 0
 case pos =>
  by_cases p7a:mn < col
  ·have p8:¬ 0≤bb:=by omega
   have hr:res=0:=by rw [hres];split;rfl;split;rfl;split;rfl;exfalso;omega
   simp only [Zae,Zaf,Zag,Zah,Zam,Zan,Zao,Zaq,Zav,Zaw,Zbc,Zbd,Zbf,Zbg,Zbh,Zbk,Zbl,Zbm,Zbn,Zbo,Zbp,Zbr,Zbs,Zbu,Zcc,Zcf,Zck,Zcp,Zcw,Zcy,Zcz,Zda,Zdb,Zdd,Zde,Q0,Z0,Q6,Q7,Z4,Z3,Zdi,Zdl,Zdn,Zdo,Zeb,Zed,Zef,decide_true,decide_false,Q5,Q1,Q3,if_true,Nat.reduceAdd,Nat.reduceSub,Nat.reduceLeDiff,eq_self,true_and,Q1,Q3,Q8,Q9,Q2,Q4,aAb,aAM,aAk,part,eI,Z6,Z5,Z1,Z7,Z8,Q2,Q4,Q0,p1,la,p2,p3,xa',p4,lb,p5,lv,lo,hmm,xb',p6,p7a,p8,w1,p9,hr,aAa,aA8,aAc,Z2,Prod.mk.injEq,true_and,exists_eq']
  ·have hr:res=0:=by rw [hres];split;rfl;split;rfl;split;rfl;exfalso;omega
   simp only [Zae,Zaf,Zag,Zah,Zam,Zan,Zao,Zaq,Zav,Zaw,Zbc,Zbd,Zbg,Zbh,Zbi,Zbk,Zbl,Zbm,Zbn,Zbo,Zbp,Zbr,Zbs,Zbu,Zcc,Zcf,Zck,Zcp,Zcw,Zcy,Zcz,Zda,Zdb,Zdd,Zde,Q0,Z0,Q6,Q7,Z4,Z3,Zdi,Zdl,Zdn,Zdo,Zeb,Zed,Zef,decide_true,decide_false,Q5,Q1,Q3,if_true,Nat.reduceAdd,Nat.reduceSub,Nat.reduceLeDiff,eq_self,true_and,Q1,Q3,Q8,Q9,Q2,Q4,aAb,aAM,aAk,part,eI,Z6,Z5,Z1,Z7,Z8,Q2,Q4,Q0,p1,la,p2,p3,xa',p4,lb,p5,lv,lo,hmm,xb',p6,p7a,w1,p9,hr,aAa,aA8,aAc,Z2,Prod.mk.injEq,true_and,exists_eq']
 case neg =>
 by_cases p10:mn≤bb+col
 case pos =>
  by_cases p7a:mn < col
  ·have p8:¬ 0≤bb:=by omega
   have hr:res=0:=by rw [hres];split;rfl;split;rfl;split;rfl;exfalso;omega
   simp only [Zae,Zaf,Zag,Zah,Zam,Zan,Zao,Zaq,Zav,Zaw,Zbc,Zbd,Zbf,Zbg,Zbh,Zbk,Zbl,Zbm,Zbn,Zbo,Zbp,Zbr,Zbs,Zbu,Zcc,Zcf,Zck,Zcp,Zcw,Zcy,Zcz,Zda,Zdb,Zdd,Zde,Q0,Z0,Q6,Q7,Z4,Z3,Zdi,Zdl,Zdn,Zdo,Zeb,Zed,Zef,decide_true,decide_false,Q5,Q1,Q3,if_true,Nat.reduceAdd,Nat.reduceSub,Nat.reduceLeDiff,eq_self,true_and,Q1,Q3,Q8,Q9,Q2,Q4,aAb,aAM,aAk,part,eI,Z6,Z5,Z1,Z7,Z8,Q2,Q4,Q0,p1,la,p2,p3,xa',p4,lb,p5,lv,lo,hmm,xb',p6,p7a,p8,w1,p9,p10,hr,aAa,aA8,aAc,Z2,Prod.mk.injEq,true_and,exists_eq']
  ·have hr:res=0:=by rw [hres];split;rfl;split;rfl;split;rfl;exfalso;omega
   simp only [Zae,Zaf,Zag,Zah,Zam,Zan,Zao,Zaq,Zav,Zaw,Zbc,Zbd,Zbg,Zbh,Zbi,Zbk,Zbl,Zbm,Zbn,Zbo,Zbp,Zbr,Zbs,Zbu,Zcc,Zcf,Zck,Zcp,Zcw,Zcy,Zcz,Zda,Zdb,Zdd,Zde,Q0,Z0,Q6,Q7,Z4,Z3,Zdi,Zdl,Zdn,Zdo,Zeb,Zed,Zef,decide_true,decide_false,Q5,Q1,Q3,if_true,Nat.reduceAdd,Nat.reduceSub,Nat.reduceLeDiff,eq_self,true_and,Q1,Q3,Q8,Q9,Q2,Q4,aAb,aAM,aAk,part,eI,Z6,Z5,Z1,Z7,Z8,Q2,Q4,Q0,p1,la,p2,p3,xa',p4,lb,p5,lv,lo,hmm,xb',p6,p7a,w1,p9,p10,hr,aAa,aA8,aAc,Z2,Prod.mk.injEq,true_and,exists_eq']
 case neg =>
 have xo':=fun h=>xo h (by omega) (by omega)
 have xv':=fun h=>xv h (by omega) (by omega)
 have n1:¬ (c.val.length:Int)≤bb+col:=by omega
 have n2:¬ (c.own.length:Int)≤bb+col:=by omega
 by_cases p11:ov=i+1
 case pos =>
  have p11':decide (ov=i+1)=true:=decide_eq_true p11
  by_cases p7a:mn < col
  ·have p8:¬ 0≤bb:=by omega
   have hr:res=vv:=by rw [hres];split; (exfalso;omega);split; (exfalso;omega);split; (exfalso;omega);rfl
   simp only [Zae,Zaf,Zag,Zah,Zam,Zan,Zao,Zaw,Zbc,Zbd,Zbf,Zbg,Zbk,Zbl,Zbm,Zbn,Zbo,Zbp,Zbr,Zbs,Zbu,Zcc,Zcf,Zck,Zcp,Zcw,Zcy,Zcz,Zda,Zdb,Zdd,Zde,Q0,Z0,Q6,Q7,Z4,Z3,Zdi,Zdl,Zdn,Zdo,Zdq,Zeb,Zed,Zef,decide_true,decide_false,Bool.not_true,Q5,Q1,Q3,if_true,Nat.reduceAdd,Nat.reduceSub,Nat.reduceLeDiff,eq_self,true_and,Q1,Q3,Q8,Q9,Q2,Q4,aAb,aAM,aAk,part,eI,Z6,Z5,Z1,Z7,Z8,Q2,Q4,Q0,p1,la,p2,p3,xa',p4,lb,p5,lv,lo,hmm,xb',p6,p7a,p8,w1,p9,p10,xo',w2,p11',xv',hr,aAa,aA8,aAc,Z2,Prod.mk.injEq,true_and,exists_eq']
  ·have hr:res=vv:=by rw [hres];split; (exfalso;omega);split; (exfalso;omega);split; (exfalso;omega);rfl
   simp only [Zae,Zaf,Zag,Zah,Zam,Zan,Zao,Zaw,Zbc,Zbd,Zbg,Zbi,Zbl,Zbm,Zbn,Zbo,Zbp,Zbr,Zbs,Zbu,Zcc,Zcf,Zck,Zcp,Zcw,Zcy,Zcz,Zda,Zdb,Zdd,Zde,Q0,Z0,Q6,Q7,Z4,Z3,Zdi,Zdl,Zdn,Zdo,Zdq,Zeb,Zed,Zef,decide_false,Bool.not_true,Q5,Q1,Q3,if_true,Nat.reduceAdd,Nat.reduceSub,Nat.reduceLeDiff,eq_self,true_and,Q1,Q3,Q8,Q9,Q2,Q4,aAb,aAM,aAk,part,eI,Z6,Z5,Z1,Z7,Z8,Q2,Q4,Q0,p1,la,p2,p3,xa',p4,lb,p5,lv,lo,hmm,xb',p6,p7a,w1,p9,p10,xo',w2,p11',xv',hr,aAa,aA8,aAc,Z2,Prod.mk.injEq,true_and,exists_eq']
 case neg =>
  have p11':decide (ov=i+1)=false:=decide_eq_false p11
  by_cases p7a:mn < col
  ·have p8:¬ 0≤bb:=by omega
   have hr:res=0:=by rw [hres];split;rfl;split;rfl;split;rfl;exfalso;omega
   simp only [Zae,Zaf,Zag,Zah,Zam,Zan,Zao,Zaq,Zav,Zaw,Zbc,Zbd,Zbf,Zbg,Zbk,Zbl,Zbm,Zbn,Zbo,Zbp,Zbr,Zbs,Zbu,Zcc,Zcf,Zck,Zcp,Zcw,Zcy,Zcz,Zda,Zdb,Zdd,Zde,Q0,Z0,Q6,Q7,Z4,Z3,Zdi,Zdl,Zdn,Zdo,Zdq,Zeb,Zed,Zef,decide_true,decide_false,Bool.not_false,Q5,Q1,Q3,if_true,Nat.reduceAdd,Nat.reduceSub,Nat.reduceLeDiff,eq_self,true_and,Q1,Q3,Q8,Q9,Q2,Q4,aAb,aAM,aAk,part,eI,Z6,Z5,Z1,Z7,Z8,Q2,Q4,Q0,p1,la,p2,p3,xa',p4,lb,p5,lv,lo,hmm,xb',p6,p7a,p8,w1,p9,p10,xo',w2,p11',hr,aAa,aA8,aAc,Z2,Prod.mk.injEq,true_and,exists_eq']
  ·have hr:res=0:=by rw [hres];split;rfl;split;rfl;split;rfl;exfalso;omega
   simp only [Zae,Zaf,Zag,Zah,Zam,Zan,Zao,Zaq,Zav,Zaw,Zbc,Zbd,Zbg,Zbi,Zbl,Zbm,Zbn,Zbo,Zbp,Zbr,Zbs,Zbu,Zcc,Zcf,Zck,Zcp,Zcw,Zcy,Zcz,Zda,Zdb,Zdd,Zde,Q0,Z0,Q6,Q7,Z4,Z3,Zdi,Zdl,Zdn,Zdo,Zdq,Zeb,Zed,Zef,decide_false,Bool.not_false,Q5,Q1,Q3,if_true,Nat.reduceAdd,Nat.reduceSub,Nat.reduceLeDiff,eq_self,true_and,Q1,Q3,Q8,Q9,Q2,Q4,aAb,aAM,aAk,part,eI,Z6,Z5,Z1,Z7,Z8,Q2,Q4,Q0,p1,la,p2,p3,xa',p4,lb,p5,lv,lo,hmm,xb',p6,p7a,w1,p9,p10,xo',w2,p11',hr,aAa,aA8,aAc,Z2,Prod.mk.injEq,true_and,exists_eq']
end Go.Proofs.Ytgeedikghjcebaa.Ai
namespace Go.Proofs.Ytgeedikghjcebaa.Ai
open Go Go.Proofs
set_option linter.unusedVariables false
set_option linter.unusedSimpArgs false
set_option maxRecDepth 10000
set_option maxHeartbeats 4000000
end Go.Proofs.Ytgeedikghjcebaa.Ai
