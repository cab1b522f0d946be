/- pack.Of and the reference's Of as calls. -/
import Derived.Test.YtgeedikghjcebaamXK
namespace Go.Proofs.Ytgeedikghjcebaa.Ai
open Go Go.Proofs
open List renaming length_cons → Q0, length_nil → Q1, cons_append → Q2, nil_append → Q3, getElem?_cons_zero → Q4, getElem?_cons_succ → Q5, append_assoc → Q6, getD_cons_zero → Q7, getD_cons_succ → Q8, replicate_succ → Q9, replicate_zero → Z0
set_option linter.unusedVariables false
set_option linter.unusedSimpArgs false
set_option maxRecDepth 10000
set_option maxHeartbeats 4000000
theorem aSY (h:aA0) (a b:AObj):(h++[a,b])[h.length]?=some a:=by rw [aIn];rfl
theorem aQ8 (h:aA0) (a b:AObj):(h++[a,b])[h.length+1]?=some b:=by rw [aDk];rfl
theorem aLe (h:aA0) (a b c:AObj):(h++[a,b,c])[h.length+1]?=some b:=by rw [aDk];rfl
theorem aLd (h:aA0) (a b c:AObj):(h++[a,b,c])[h.length+2]?=some c:=by rw [aDk];rfl
theorem aR5 {t:TabD} (hk:t.ok) {x2 x3:AV} (h2:LiR t.numA x2) (h3:LiR t.numG x3) :
  ∃ ca cg,RT (aBa t).a ca∧RT (aBa t).g cg∧(∀ H,lim G0.cfg (.func 53) [x2] H=some (.agg ca,H))∧(∀ H,lim G0.cfg (.func 53) [x3] H=some (.agg cg,H))∧(aBa t).a.val.length≤1048576:=by
 obtain ⟨s1,s2,s3,s4⟩:=TabD.sizes hk
 have fr:=hk.1
 obtain ⟨f1,f2,f3,f4,f5,f6,f7⟩:=fr
 have m1:t.numA.length*256≤4096*256:=Nat.mul_le_mul_right 256 (by omega)
 have m2:t.numG.length*512≤4096*512:=Nat.mul_le_mul_right 512 (by omega)
 have b1:∀ r ∈ t.numA,r.length≤256:=fun r hr=>by rw [s3 r hr];omega
 have b2:∀ r ∈ t.numG,r.length≤512:=fun r hr=>by rw [s4 r hr];omega
 obtain ⟨ca,hca,e1⟩:=aRH h2 (by omega) 256 b1 (by omega) (by omega)
 obtain ⟨cg,hcg,e2⟩:=aRH h3 (by omega) 512 b2 (by omega) (by omega)
 have z1:=(aHn t.numA 256 b1).2.2.1
 have z2:=(aHn t.numG 512 b2).2.2.1
 exact ⟨ca,cg,hca,hcg,e1,e2,by show (aFp t.numA).val.length≤_;omega⟩
theorem aT4 {a g:RowT} {ca cg:List AV} (ha:RT a ca) (hg:RT g cg) (x y:Int):aDT aAE [(0,1,.int .i64 x),(1,1,.int .i64 y),(2,4,.agg ca),(6,4,.agg cg)]=some (.agg ([.int .i64 x,.int .i64 y]++ca++cg))∧aBO ⟨x,y,a,g⟩ ([.int .i64 x,.int .i64 y]++ca++cg):=by
 refine ⟨?_,ca,cg,rfl,ha,hg⟩
 obtain ⟨a1,a2,a3,a4,rfl,ha1,ha2,ha3,ha4⟩:=ha
 obtain ⟨b1,b2,b3,b4,rfl,hb1,hb2,hb3,hb4⟩:=hg
 simp [aDT,aAE,aAF,aAv,cellsOf]
section
variable {t : TabD} {av gv a' g' : AV} {h : aA0} {c : Bool}
theorem aU8 (ha:LiG (LiG LiA) t.acts av) (hg:LiR t.gotos gv) (hv:freeze h 1000 (.agg [a',g'])=some (.agg [av,gv],c)) (hc:cellsOf (.agg [a',g'])=[a',g']) :
  (t.ok→((aBa t).g.val.length≤1048576→∃ cs h',aBO (aBa t) cs∧lim G0.cfg (.func 42) [.agg [a',g']] h=some (.tup [.agg cs,.int .i64 0],h++h'))∧(¬ (aBa t).g.val.length≤1048576→∃ h',lim G0.cfg (.func 42) [.agg [a',g']] h=some (.tup [.agg aAE,.int .i64 35],h++h'))) ∧
  (¬ t.ok→∃ h',lim G0.cfg (.func 42) [.agg [a',g']] h=some (.tup [.agg aAE,.int .i64 34],h++h')):=by
 obtain ⟨k1,k2⟩:=aQd ha hg
 have bx:=aH1 h (n:=2) (l:=[a',g']) rfl hc
 obtain ⟨A,hA⟩:∃ A,A=AObj.arr 0 2 true [[a',g']]:=⟨_,rfl⟩
 obtain ⟨B,hB⟩:∃ B,B=AObj.arr 0 10 true [aAE]:=⟨_,rfl⟩
 have fz:freeze (h++[A,B]) 1000 (.agg [a',g'])=some (.agg [av,gv],c):=by
  have:=aIq B 1000 _ _ (aIq A 1000 _ _ hv)
  rw [Q6] at this
  exact this
 have lT:aAb (h++[A,B]) 2 true (.ptr h.length 0 0 0)=some (.agg [a',g']):=aBL (by rw [aSY,hA]) rfl
 have zc:cellsOf (.agg aAE)=aAE:=rfl
 have sZ:aAB (h++[A,B]) 10 (.ptr (h.length+1) 0 0 0) (.agg aAE)=some (h++[A,B]):=by
  have s:=aCd (h:=h++[A,B]) (i:=h.length+1) (ver:=0) (n:=10) (b:=true) (z:=aAE) (l:=aAE) ((aQ8 h A B).trans (by rw [hB])) rfl rfl zc rfl
  rw [aFq,← hB] at s
  exact s
 have lZ:aAb (h++[A,B]) 10 true (.ptr (h.length+1) 0 0 0)=some (.agg aAE):=aBL (b:=true) (by rw [aQ8,hB]) rfl
 have fill0:aDT aAE []=some (.agg aAE):=rfl
 have zl:aAE.length=10:=rfl
 have zz:[AV.int .i64 0,.int .i64 0,.nilS,.nilS,.nilS,.nilS,.nilS,.nilS,.nilS,.nilS]=aAE:=rfl
 refine ⟨fun hk => ?_,fun hk => ?_⟩
 ·obtain ⟨x2,x3,h2,h3,e⟩:=k1 hk
  replace e:=e (h++[A,B]) _ c fz
  obtain ⟨ca,cg,hca,hcg,d1,d2,b1⟩:=aR5 hk h2 h3
  obtain ⟨s1,s2,s3,s4⟩:=TabD.sizes hk
  obtain ⟨f1,f2,f3,f4,f5,f6,f7⟩:=hk.1
  obtain ⟨r2,hr2,y2⟩:=h2.ix 0 (by omega)
  obtain ⟨r3,hr3,y3⟩:=h3.ix 0 (by omega)
  have n2:=hr2.len
  have n3:=hr3.len
  rw [s3 _ (List.getElem_mem _)] at n2
  rw [s4 _ (List.getElem_mem _)] at n3
  rw [z0] at y2 y3
  obtain ⟨fl,pv⟩:=aT4 hca hcg t.tm t.nt
  obtain ⟨cs,hcs⟩:∃ cs,cs=[.int .i64 (t.tm:Int),.int .i64 (t.nt:Int)]++ca++cg:=⟨_,rfl⟩
  rw [← hcs] at fl pv
  obtain ⟨p1,p2,p3⟩:=pv.cells
  obtain ⟨C,hC⟩:∃ C,C=AObj.arr 0 10 true [cs]:=⟨_,rfl⟩
  have sC:aAB (h++[A,B,B]) 10 (.ptr (h.length+2) 0 0 0) (.agg cs)=some (h++[A,B,C]):=by
   have s:=aCd (h:=h++[A,B,B]) (i:=h.length+2) (ver:=0) (n:=10) (b:=true) (z:=aAE) (l:=cs) ((aLd h A B B).trans (by rw [hB])) rfl p3 p1 p2
   rw [aFq,← hC] at s
   exact s
  have lC:aAb (h++[A,B,C]) 10 true (.ptr (h.length+2) 0 0 0)=some (.agg cs):=aBL (b:=true) (by rw [aLd,hC]) p3
  have sB:aAB (h++[A,B,C]) 10 (.ptr (h.length+1) 0 0 0) (.agg cs)=some (h++[A,C,C]):=by
   have s:=aCd (h:=h++[A,B,C]) (i:=h.length+1) (ver:=0) (n:=10) (b:=true) (z:=aAE) (l:=cs) ((aLe h A B C).trans (by rw [hB])) rfl p3 p1 p2
   rw [aFq,← hC] at s
   exact s
  have lB:aAb (h++[A,C,C]) 10 true (.ptr (h.length+1) 0 0 0)=some (.agg cs):=aBL (b:=true) (by rw [aLe,hC]) p3
  have va:∃ w,aAb (h++[A,B,C]) 1 false (.ptr (h.length+2) 0 0 4)=some w∧Li (aBa t).a.val w:=by
   obtain ⟨a1,a2,a3,a4,rfl,_,_,q3,_⟩:=hca
   refine ⟨a3,?_,q3⟩
   obtain ⟨b1,b2,b3,b4,rfl,_,_,_,_⟩:=hcg
   rw [aB5 _ 1 _ 0 0 4 false 10 true _ cs (by rw [aLd,hC]) rfl,hcs];rfl
  have vg:∃ w,aAb (h++[A,B,C]) 1 false (.ptr (h.length+2) 0 0 8)=some w∧Li (aBa t).g.val w:=by
   obtain ⟨b1,b2,b3,b4,rfl,_,_,q3,_⟩:=hcg
   refine ⟨b3,?_,q3⟩
   obtain ⟨a1,a2,a3,a4,rfl,_,_,_,_⟩:=hca
   rw [aB5 _ 1 _ 0 0 8 false 10 true _ cs (by rw [aLd,hC]) rfl,hcs];rfl
  obtain ⟨wa,la,qa⟩:=va
  obtain ⟨wg,lg,qg⟩:=vg
  have na:=qa.len
  have ng:=qg.len
  have c1:¬ (1048576:Int) < (aBa t).a.val.length:=by omega
  have sB0:aAB (h++[A,B,C]) 10 (.ptr (h.length+1) 0 0 0) (.agg aAE)=some (h++[A,B,C]):=by
   have s:=aCd (h:=h++[A,B,C]) (i:=h.length+1) (ver:=0) (n:=10) (b:=true) (z:=aAE) (l:=aAE) ((aLe h A B C).trans (by rw [hB])) rfl rfl zc rfl
   rw [aFq,← hB] at s
   exact s
  have lB0:aAb (h++[A,B,C]) 10 true (.ptr (h.length+1) 0 0 0)=some (.agg aAE):=aBL (b:=true) (by rw [aLe,hB]) rfl
  by_cases sm:(aBa t).g.val.length≤1048576
  case neg =>
   have c2:(1048576:Int) < (aBa t).g.val.length:=by omega
   refine ⟨fun k=>absurd k sm,fun _=>⟨[A,B,C],aB3 rfl aJt 1 ?_⟩⟩
   rw [aJq]
   simp only [Zae,Zaf,Zag,Zah,Zam,Zan,Zao,Zaq,Zav,Zaw,Zbc,Zbd,Zbe,Zbg,Zbl,Zbm,Zbn,Zbo,Zbp,Zbq,Zbr,Zbs,Zbt,Zbu,Zbv,Zcc,Zcf,Zcj,Zck,Zcq,Zct,Zcu,Zcw,Zcy,Zcz,Zda,Zdb,Zdc,Zdd,Zde,List.set_cons_zero,List.set_cons_succ,Q7,Q8,Option.map_some,Zdn,Zdv,Zeb,Zef,Zeq,decide_true,decide_false,Bool.not_true,Q4,Q5,Q0,Q1,if_true,Nat.reduceAdd,Nat.reduceSub,eq_self,Q0,Q1,Q9,Z0,Q2,Q3,List.length_append,Q0,Q1,Nat.zero_add,Q6,Q2,Q3,zz,zl,evp,← hA,← hB,lT,e,y2,y3,aJ9,n2,n3,d1,d2,fl,sC,la,lg,na,ng,c1,c2,fill0,sB0,lB0,aAa,aA8,aAc]
  case pos =>
  have c2:¬ (1048576:Int) < (aBa t).g.val.length:=by omega
  refine ⟨fun _=>⟨cs,[A,C,C],pv,aB3 rfl aJt 1 ?_⟩,fun k=>absurd sm k⟩
  rw [aJq]
  simp only [Zae,Zaf,Zag,Zah,Zam,Zan,Zao,Zaw,Zbc,Zbd,Zbe,Zbg,Zbl,Zbm,Zbn,Zbo,Zbp,Zbq,Zbr,Zbs,Zbt,Zbu,Zbv,Zcc,Zcf,Zcj,Zck,Zcq,Zct,Zcu,Zcw,Zcy,Zcz,Zda,Zdb,Zdc,Zdd,Zde,List.set_cons_zero,List.set_cons_succ,Q7,Q8,Option.map_some,Zdn,Zdv,Zeb,Zef,Zeq,decide_false,Bool.not_true,Q4,Q5,Q0,Q1,if_true,Nat.reduceAdd,Nat.reduceSub,eq_self,Q0,Q1,Q9,Z0,Q2,Q3,List.length_append,Q0,Q1,Nat.zero_add,Q6,Q2,Q3,zz,zl,evp,← hA,← hB,lT,e,y2,y3,aJ9,n2,n3,d1,d2,fl,sC,la,lg,na,ng,c1,c2,lC,sB,lB,aAa,aA8,aAc]
 ·have e:=k2 hk (h++[A,B]) _ c fz
  refine ⟨[A,B],aB3 rfl aJt 1 ?_⟩
  rw [aJq]
  simp only [Zaf,Zag,Zah,Zam,Zan,Zao,Zaq,Zav,Zbc,Zbd,Zbe,Zbm,Zbo,Zbq,Zbr,Zbs,Zbt,Zbv,Zcj,Zcq,Zct,Zcu,Zcw,Zcy,Zcz,Zda,Zdb,Zdc,Zdd,Zde,List.set_cons_zero,List.set_cons_succ,Q7,Q8,Option.map_some,Zdv,Zef,Zeq,Bool.not_false,Q4,Q5,Q0,Q1,if_true,Nat.reduceAdd,Nat.reduceSub,eq_self,Q0,Q1,Q9,Z0,Q2,Q3,List.length_append,Q0,Q1,Nat.zero_add,Q6,Q2,Q3,zz,zl,evp,← hA,← hB,lT,e,fill0,sZ,lZ,aAa,aA8,aAc]
end
end Go.Proofs.Ytgeedikghjcebaa.Ai
namespace Go.Proofs.Ytgeedikghjcebaa.Ai
open Go Go.Proofs
set_option linter.unusedVariables false
set_option linter.unusedSimpArgs false
set_option maxRecDepth 10000
set_option maxHeartbeats 4000000
section
variable {t : TabD} {av gv : AV}
end
end Go.Proofs.Ytgeedikghjcebaa.Ai
