/- pack.Of and the reference's Of as calls. -/
import Derived.Test.YtgeedikghjcebaamXK
namespace Go.Proofs.Ytgeedikghjcebaa.Ai
open Go Go.Proofs
open List renaming length_cons → Q0, length_nil → Q1, cons_append → Q2, nil_append → Q3, getElem?_cons_zero → Q5, getElem?_cons_succ → Q6, append_assoc → Q7, getD_cons_zero → Q8, getD_cons_succ → Q9, replicate_succ → Z0, replicate_zero → Z1
open Nat renaming mul_le_mul_right → Q4
set_option linter.unusedVariables false
set_option linter.unusedSimpArgs false
set_option maxRecDepth 10000
set_option maxHeartbeats 4000000
theorem aSl (h:aA0) (a b:AObj):(h++[a,b])[h.length]?=some a:=by rw [aJH];rfl
theorem aMO (h:aA0) (a b:AObj):(h++[a,b])[h.length+1]?=some b:=by rw [aE0];rfl
theorem aH7 (h:aA0) (a b c:AObj):(h++[a,b,c])[h.length+1]?=some b:=by rw [aE0];rfl
theorem aH6 (h:aA0) (a b c:AObj):(h++[a,b,c])[h.length+2]?=some c:=by rw [aE0];rfl
theorem aTr {t:TabD} (hk:t.ok) {x2 x3:AV} (h2:LiR t.numA x2) (h3:LiR t.numG x3) :
  ∃ ca cg,RT (aAQ t).a ca∧RT (aAQ t).g cg∧(∀ H,lim G0.cfg (.func 53) [x2] H=some (.agg ca,H))∧(∀ H,lim G0.cfg (.func 53) [x3] H=some (.agg cg,H))∧(aAQ t).a.val.length≤1048576:=by
 obtain ⟨s1,s2,s3,s4⟩:=TabD.sizes hk
 have fr:=hk.1
 obtain ⟨f1,f2,f3,f4,f5,f6,f7⟩:=fr
 have m1:t.numA.length*256≤4096*256:=Q4 256 (by omega)
 have m2:t.numG.length*512≤4096*512:=Q4 512 (by omega)
 have b1:∀ r ∈ t.numA,r.length≤256:=fun r hr=>by rw [s3 r hr];omega
 have b2:∀ r ∈ t.numG,r.length≤512:=fun r hr=>by rw [s4 r hr];omega
 obtain ⟨ca,hca,e1⟩:=aU7 h2 (by omega) 256 b1 (by omega) (by omega)
 obtain ⟨cg,hcg,e2⟩:=aU7 h3 (by omega) 512 b2 (by omega) (by omega)
 have z1:=(aFB t.numA 256 b1).2.2.1
 have z2:=(aFB t.numG 512 b2).2.2.1
 exact ⟨ca,cg,hca,hcg,e1,e2,by show (aFv t.numA).val.length≤_;omega⟩
theorem aSc {t:TabD} (hk:t.ok) {x2 x3:AV} (h2:LiR t.numA x2) (h3:LiR t.numG x3) :
  ∃ ca cg,RT (aAQ t).a ca∧RT (aAQ t).g cg∧(∀ H,lim G0.cfg (.func 50) [x2] H=some (.agg ca,H))∧(∀ H,lim G0.cfg (.func 50) [x3] H=some (.agg cg,H))∧(aAQ t).a.val.length≤1048576:=by
 obtain ⟨s1,s2,s3,s4⟩:=TabD.sizes hk
 have fr:=hk.1
 obtain ⟨f1,f2,f3,f4,f5,f6,f7⟩:=fr
 have m1:t.numA.length*256≤4096*256:=Q4 256 (by omega)
 have m2:t.numG.length*512≤4096*512:=Q4 512 (by omega)
 have b1:∀ r ∈ t.numA,r.length≤256:=fun r hr=>by rw [s3 r hr];omega
 have b2:∀ r ∈ t.numG,r.length≤512:=fun r hr=>by rw [s4 r hr];omega
 obtain ⟨ca,hca,e1⟩:=aU2 h2 256 b1 (by omega) (by omega) (by omega)
 obtain ⟨cg,hcg,e2⟩:=aU2 h3 512 b2 (by omega) (by omega) (by omega)
 have z1:=(aFB t.numA 256 b1).2.2.1
 have z2:=(aFB t.numG 512 b2).2.2.1
 exact ⟨ca,cg,hca,hcg,e1,e2,by show (aFv t.numA).val.length≤_;omega⟩
theorem aSo {a g:RowT} {ca cg:List AV} (ha:RT a ca) (hg:RT g cg) (x y:Int):aCK aAy [(0,1,.int .i64 x),(1,1,.int .i64 y),(2,4,.agg ca),(6,4,.agg cg)]=some (.agg ([.int .i64 x,.int .i64 y]++ca++cg))∧aBi ⟨x,y,a,g⟩ ([.int .i64 x,.int .i64 y]++ca++cg):=by
 refine ⟨?_,ca,cg,rfl,ha,hg⟩
 obtain ⟨a1,a2,a3,a4,rfl,ha1,ha2,ha3,ha4⟩:=ha
 obtain ⟨b1,b2,b3,b4,rfl,hb1,hb2,hb3,hb4⟩:=hg
 simp [aCK,aAy,aAH,aAx,cellsOf]
section
variable {t : TabD} {av gv a' g' : AV} {h : aA0} {c : Bool}
theorem aWM (ha:LiG (LiG LiA) t.acts av) (hg:LiR t.gotos gv) (hv:freeze h 1000 (.agg [a',g'])=some (.agg [av,gv],c)) (hc:cellsOf (.agg [a',g'])=[a',g']) :
  (t.ok→((aAQ t).g.val.length≤1048576→∃ cs h',aBi (aAQ t) cs∧lim G0.cfg (.func 42) [.agg [a',g']] h=some (.tup [.agg cs,.int .i64 0],h++h'))∧(¬ (aAQ t).g.val.length≤1048576→∃ h',lim G0.cfg (.func 42) [.agg [a',g']] h=some (.tup [.agg aAy,.int .i64 35],h++h'))) ∧
  (¬ t.ok→∃ h',lim G0.cfg (.func 42) [.agg [a',g']] h=some (.tup [.agg aAy,.int .i64 34],h++h')):=by
 obtain ⟨k1,k2⟩:=aSq ha hg
 have bx:=aDL h (n:=2) (l:=[a',g']) rfl hc
 obtain ⟨A,hA⟩:∃ A,A=AObj.arr 0 2 true [[a',g']]:=⟨_,rfl⟩
 obtain ⟨B,hB⟩:∃ B,B=AObj.arr 0 10 true [aAy]:=⟨_,rfl⟩
 have fz:freeze (h++[A,B]) 1000 (.agg [a',g'])=some (.agg [av,gv],c):=by
  have:=aJK B 1000 _ _ (aJK A 1000 _ _ hv)
  rw [Q7] at this
  exact this
 have lT:aAc (h++[A,B]) 2 true (.ptr h.length 0 0 0)=some (.agg [a',g']):=aB1 (by rw [aSl,hA]) rfl
 have zc:cellsOf (.agg aAy)=aAy:=rfl
 have sZ:aAw (h++[A,B]) 10 (.ptr (h.length+1) 0 0 0) (.agg aAy)=some (h++[A,B]):=by
  have s:=aB4 (h:=h++[A,B]) (i:=h.length+1) (ver:=0) (n:=10) (b:=true) (z:=aAy) (l:=aAy) ((aMO h A B).trans (by rw [hB])) rfl rfl zc rfl
  rw [aDZ,← hB] at s
  exact s
 have lZ:aAc (h++[A,B]) 10 true (.ptr (h.length+1) 0 0 0)=some (.agg aAy):=aB1 (b:=true) (by rw [aMO,hB]) rfl
 have fill0:aCK aAy []=some (.agg aAy):=rfl
 have zl:aAy.length=10:=rfl
 have zz:[AV.int .i64 0,.int .i64 0,.nilS,.nilS,.nilS,.nilS,.nilS,.nilS,.nilS,.nilS]=aAy:=rfl
 refine ⟨fun hk => ?_,fun hk => ?_⟩
 ·obtain ⟨x2,x3,h2,h3,e⟩:=k1 hk
  replace e:=e (h++[A,B]) _ c fz
  obtain ⟨ca,cg,hca,hcg,d1,d2,b1⟩:=aTr hk h2 h3
  obtain ⟨s1,s2,s3,s4⟩:=TabD.sizes hk
  obtain ⟨f1,f2,f3,f4,f5,f6,f7⟩:=hk.1
  obtain ⟨r2,hr2,y2⟩:=h2.ix 0 (by omega)
  obtain ⟨r3,hr3,y3⟩:=h3.ix 0 (by omega)
  have n2:=hr2.len
  have n3:=hr3.len
  rw [s3 _ (List.getElem_mem _)] at n2
  rw [s4 _ (List.getElem_mem _)] at n3
  rw [z0] at y2 y3
  obtain ⟨fl,pv⟩:=aSo hca hcg t.tm t.nt
  obtain ⟨cs,hcs⟩:∃ cs,cs=[.int .i64 (t.tm:Int),.int .i64 (t.nt:Int)]++ca++cg:=⟨_,rfl⟩
  rw [← hcs] at fl pv
  obtain ⟨p1,p2,p3⟩:=pv.cells
  obtain ⟨C,hC⟩:∃ C,C=AObj.arr 0 10 true [cs]:=⟨_,rfl⟩
  have sC:aAw (h++[A,B,B]) 10 (.ptr (h.length+2) 0 0 0) (.agg cs)=some (h++[A,B,C]):=by
   have s:=aB4 (h:=h++[A,B,B]) (i:=h.length+2) (ver:=0) (n:=10) (b:=true) (z:=aAy) (l:=cs) ((aH6 h A B B).trans (by rw [hB])) rfl p3 p1 p2
   rw [aDZ,← hC] at s
   exact s
  have lC:aAc (h++[A,B,C]) 10 true (.ptr (h.length+2) 0 0 0)=some (.agg cs):=aB1 (b:=true) (by rw [aH6,hC]) p3
  have sB:aAw (h++[A,B,C]) 10 (.ptr (h.length+1) 0 0 0) (.agg cs)=some (h++[A,C,C]):=by
   have s:=aB4 (h:=h++[A,B,C]) (i:=h.length+1) (ver:=0) (n:=10) (b:=true) (z:=aAy) (l:=cs) ((aH7 h A B C).trans (by rw [hB])) rfl p3 p1 p2
   rw [aDZ,← hC] at s
   exact s
  have lB:aAc (h++[A,C,C]) 10 true (.ptr (h.length+1) 0 0 0)=some (.agg cs):=aB1 (b:=true) (by rw [aH7,hC]) p3
  have va:∃ w,aAc (h++[A,B,C]) 1 false (.ptr (h.length+2) 0 0 4)=some w∧Li (aAQ t).a.val w:=by
   obtain ⟨a1,a2,a3,a4,rfl,_,_,q3,_⟩:=hca
   refine ⟨a3,?_,q3⟩
   obtain ⟨b1,b2,b3,b4,rfl,_,_,_,_⟩:=hcg
   rw [aAV _ 1 _ 0 0 4 false 10 true _ cs (by rw [aH6,hC]) rfl,hcs];rfl
  have vg:∃ w,aAc (h++[A,B,C]) 1 false (.ptr (h.length+2) 0 0 8)=some w∧Li (aAQ t).g.val w:=by
   obtain ⟨b1,b2,b3,b4,rfl,_,_,q3,_⟩:=hcg
   refine ⟨b3,?_,q3⟩
   obtain ⟨a1,a2,a3,a4,rfl,_,_,_,_⟩:=hca
   rw [aAV _ 1 _ 0 0 8 false 10 true _ cs (by rw [aH6,hC]) rfl,hcs];rfl
  obtain ⟨wa,la,qa⟩:=va
  obtain ⟨wg,lg,qg⟩:=vg
  have na:=qa.len
  have ng:=qg.len
  have c1:¬ (1048576:Int) < (aAQ t).a.val.length:=by omega
  have sB0:aAw (h++[A,B,C]) 10 (.ptr (h.length+1) 0 0 0) (.agg aAy)=some (h++[A,B,C]):=by
   have s:=aB4 (h:=h++[A,B,C]) (i:=h.length+1) (ver:=0) (n:=10) (b:=true) (z:=aAy) (l:=aAy) ((aH7 h A B C).trans (by rw [hB])) rfl rfl zc rfl
   rw [aDZ,← hB] at s
   exact s
  have lB0:aAc (h++[A,B,C]) 10 true (.ptr (h.length+1) 0 0 0)=some (.agg aAy):=aB1 (b:=true) (by rw [aH7,hB]) rfl
  by_cases sm:(aAQ t).g.val.length≤1048576
  case neg =>
   have c2:(1048576:Int) < (aAQ t).g.val.length:=by omega
   refine ⟨fun k=>absurd k sm,fun _=>⟨[A,B,C],aBe rfl aKS 1 ?_⟩⟩
   rw [aKP]
   simp only [Zae,Zaf,Zag,Zah,Zam,Zan,Zao,Zaq,Zav,Zaw,Zbc,Zbd,Zbe,Zbg,Zbl,Zbm,Zbn,Zbo,Zbp,Zbq,Zbr,Zbs,Zbt,Zbu,Zbv,Zcc,Zcf,Zcj,Zck,Zcq,Zct,Zcu,Zcw,Zcy,Zcz,Zda,Zdb,Zdc,Zdd,Zde,List.set_cons_zero,List.set_cons_succ,Q8,Q9,Option.map_some,Zdn,Zdv,Zeb,Zef,Zeq,decide_true,decide_false,Bool.not_true,Q5,Q6,Q0,Q1,if_true,Nat.reduceAdd,Nat.reduceSub,eq_self,Q0,Q1,Z0,Z1,Q2,Q3,List.length_append,Q0,Q1,Nat.zero_add,Q7,Q2,Q3,zz,zl,evp,← hA,← hB,lT,e,y2,y3,aDd,n2,n3,d1,d2,fl,sC,la,lg,na,ng,c1,c2,fill0,sB0,lB0,aA5,aA4,aA8]
  case pos =>
  have c2:¬ (1048576:Int) < (aAQ t).g.val.length:=by omega
  refine ⟨fun _=>⟨cs,[A,C,C],pv,aBe rfl aKS 1 ?_⟩,fun k=>absurd sm k⟩
  rw [aKP]
  simp only [Zae,Zaf,Zag,Zah,Zam,Zan,Zao,Zaw,Zbc,Zbd,Zbe,Zbg,Zbl,Zbm,Zbn,Zbo,Zbp,Zbq,Zbr,Zbs,Zbt,Zbu,Zbv,Zcc,Zcf,Zcj,Zck,Zcq,Zct,Zcu,Zcw,Zcy,Zcz,Zda,Zdb,Zdc,Zdd,Zde,List.set_cons_zero,List.set_cons_succ,Q8,Q9,Option.map_some,Zdn,Zdv,Zeb,Zef,Zeq,decide_false,Bool.not_true,Q5,Q6,Q0,Q1,if_true,Nat.reduceAdd,Nat.reduceSub,eq_self,Q0,Q1,Z0,Z1,Q2,Q3,List.length_append,Q0,Q1,Nat.zero_add,Q7,Q2,Q3,zz,zl,evp,← hA,← hB,lT,e,y2,y3,aDd,n2,n3,d1,d2,fl,sC,la,lg,na,ng,c1,c2,lC,sB,lB,aA5,aA4,aA8]
 ·have e:=k2 hk (h++[A,B]) _ c fz
  refine ⟨[A,B],aBe rfl aKS 1 ?_⟩
  rw [aKP]
  simp only [Zaf,Zag,Zah,Zam,Zan,Zao,Zaq,Zav,Zbc,Zbd,Zbe,Zbm,Zbo,Zbq,Zbr,Zbs,Zbt,Zbv,Zcj,Zcq,Zct,Zcu,Zcw,Zcy,Zcz,Zda,Zdb,Zdc,Zdd,Zde,List.set_cons_zero,List.set_cons_succ,Q8,Q9,Option.map_some,Zdv,Zef,Zeq,Bool.not_false,Q5,Q6,Q0,Q1,if_true,Nat.reduceAdd,Nat.reduceSub,eq_self,Q0,Q1,Z0,Z1,Q2,Q3,List.length_append,Q0,Q1,Nat.zero_add,Q7,Q2,Q3,zz,zl,evp,← hA,← hB,lT,e,fill0,sZ,lZ,aA5,aA4,aA8]
end
end Go.Proofs.Ytgeedikghjcebaa.Ai
namespace Go.Proofs.Ytgeedikghjcebaa.Ai
open Go Go.Proofs
open List renaming length_nil → Q0, length_cons → Q1, nil_append → Q2, cons_append → Q3, getD_cons_zero → Q5, getD_cons_succ → Q6, replicate_succ → Q7, replicate_zero → Q8, getElem?_cons_zero → Q9, getElem?_cons_succ → Z0, set_cons_zero → Z1, set_cons_succ → Z2
open Nat renaming zero_add → Q4
open Option renaming map_some → Z3
set_option linter.unusedVariables false
set_option linter.unusedSimpArgs false
set_option maxRecDepth 10000
set_option maxHeartbeats 4000000
theorem aWx {p:PackD} {cs:List AV} (hp:aBi p cs) (e:Int) (h:aA0):freeze h 1000 (.tup [.agg cs,.int .i64 e])=some (.tup [.agg cs,.int .i64 e],true):=by
 have:freeze h 1000 (.tup [.agg cs,.int .i64 e])=(aAo (freeze h 999) [.agg cs,.int .i64 e]).map fun l=>(.tup (l.map (·.1)),l.all (·.2)):=rfl
 rw [this]
 have i1:freeze h 999 (.int .i64 e)=some (.int .i64 e,true):=rfl
 simp only [aAo,hp.fz h 997,i1];rfl
section
variable {t : TabD} {av gv : AV}
theorem aWF (ha:LiG (LiG LiA) t.acts av) (hg:LiR t.gotos gv) :
  (t.ok→((aAQ t).g.val.length≤1048576→∃ cs,aBi (aAQ t) cs∧∀ H,lim G0.cfg (.func 38) [.agg [av,gv]] H=some (.tup [.agg cs,.int .i64 0],H))∧(¬ (aAQ t).g.val.length≤1048576→∀ H,lim G0.cfg (.func 38) [.agg [av,gv]] H=some (.tup [.agg aAy,.int .i64 35],H))) ∧
  (¬ t.ok→∀ H,lim G0.cfg (.func 38) [.agg [av,gv]] H=some (.tup [.agg aAy,.int .i64 34],H)):=by
 obtain ⟨h,hh⟩:∃ h:aA0,h=[]:=⟨_,rfl⟩
 have bx:=aDL h (n:=2) (l:=[av,gv]) rfl (by simp [cellsOf])
 obtain ⟨A,hA⟩:∃ A,A=AObj.arr 0 2 true [[av,gv]]:=⟨_,rfl⟩
 obtain ⟨B,hB⟩:∃ B,B=AObj.arr 0 10 true [aAy]:=⟨_,rfl⟩
 have lT:∀ B C:AObj,aAc (h++[A,B]) 2 true (.ptr h.length 0 0 0)=some (.agg [av,gv]):=fun B C=>aB1 (by rw [aSl,hA]) rfl
 have l0:=aJy (av:=av) (gv:=gv) [A,B] (by rw [hA];rfl)
 have l1:=aJx (av:=av) (gv:=gv) [A,B] (by rw [hA];rfl)
 have lT:=lT B B
 have zc:cellsOf (.agg aAy)=aAy:=rfl
 have sZ:aAw (h++[A,B]) 10 (.ptr (h.length+1) 0 0 0) (.agg aAy)=some (h++[A,B]):=by
  have s:=aB4 (h:=h++[A,B]) (i:=h.length+1) (ver:=0) (n:=10) (b:=true) (z:=aAy) (l:=aAy) ((aMO h A B).trans (by rw [hB])) rfl rfl zc rfl
  rw [aDZ,← hB] at s
  exact s
 have lZ:aAc (h++[A,B]) 10 true (.ptr (h.length+1) 0 0 0)=some (.agg aAy):=aB1 (b:=true) (by rw [aMO,hB]) rfl
 have fill0:aCK aAy []=some (.agg aAy):=rfl
 have zl:aAy.length=10:=rfl
 have zz:[AV.int .i64 0,.int .i64 0,.nilS,.nilS,.nilS,.nilS,.nilS,.nilS,.nilS,.nilS]=aAy:=rfl
 obtain ⟨w1,w2⟩:=(⟨fun H=>(aQw ha hg H).1,fun H=>(aQw ha hg H).2⟩:(∀ H,t.frame∧aCY t.tm t.nt t.acts t.gotos=true→lim G0.cfg (.func 47) [.agg [av,gv]] H=some (.bool true,H))∧(∀ H,¬ (t.frame∧aCY t.tm t.nt t.acts t.gotos=true)→lim G0.cfg (.func 47) [.agg [av,gv]] H=some (.bool false,H)))
 have flat:=fun (p:PackD) (cs:List AV) (hp:aBi p cs) (e:Int) (N:Nat) (h':aA0) (hr:aAW (lim G0.cfg) N aID [.agg [av,gv]] []=some (.tup [.agg cs,.int .i64 e],h')) (H:aA0)=>aAF rfl rfl aTW N (aKk ha hg) ⟨h',hr⟩ (aWx hp e) H
 by_cases c1:t.frame∧aCY t.tm t.nt t.acts t.gotos=true
 case neg =>
  have e1:=fun H=>w2 H c1
  refine ⟨fun k=>absurd ⟨k.1,(TabD.ok_len k).1⟩ c1,fun _=>flat aCC aAy aCW 34 1 [A,B] ?_⟩
  subst hh
  simp only [Q2,Q0,Q4] at bx lT sZ lZ
  rw [← hA] at bx
  rw [aIo]
  simp only [Zaf,Zag,Zah,Zam,Zan,Zao,Zaq,Zav,Zbc,Zbd,Zbe,Zbm,Zbo,Zbq,Zbr,Zbs,Zbt,Zbv,Zcq,Zct,Zcu,Zcw,Zcy,Zcz,Zda,Zdb,Zdc,Zdd,Zde,Z1,Z2,Q5,Q6,Z3,Zdv,Zef,Bool.not_false,Q1,Q0,if_true,Nat.reduceAdd,Nat.reduceSub,eq_self,Q1,Q0,Q7,Q8,Q3,Q2,Q1,Q0,Q4,Q3,Q2,zz,zl,evp,← hA,← hB,lT,e1,fill0,sZ,lZ,aA5,aA4,aA8]
 case pos =>
 have e1:=fun H=>w1 H c1
 obtain ⟨fr,lo⟩:=c1
 obtain ⟨f1,f2,f3,f4,f5,f6,f7⟩:=fr
 obtain ⟨lo1,lo2⟩:=aOp 0 t.tm t.nt t.acts t.gotos f3.symm lo
 obtain ⟨ka1,ka2⟩:=aVv ha hg (by omega) (fun r hr=>by have:=lo1 r hr;omega)
 obtain ⟨kg1,kg2⟩:=aUy ha hg (by omega) (fun r hr=>by have:=lo2 r hr;omega)
 rw [f3] at kg1 kg2
 have ea:aCU t.acts.length t.acts=t.numA:=rfl
 have eg:aCT t.acts.length t.gotos=t.numG:=rfl
 rw [ea] at ka1 ka2
 rw [eg] at kg1 kg2
 by_cases c2:t.numA.all aAS=true
 case neg =>
  have e2:=ka2 (by simpa using c2)
  refine ⟨fun k=>absurd (TabD.ok_len k).2.1 c2,fun _=>flat aCC aAy aCW 34 1 [A,B] ?_⟩
  subst hh
  simp only [Q2,Q0,Q4] at bx lT sZ lZ
  rw [← hA] at bx
  rw [aIo]
  simp only [Zae,Zaf,Zag,Zah,Zam,Zan,Zao,Zaq,Zav,Zaw,Zbc,Zbd,Zbe,Zbm,Zbo,Zbq,Zbr,Zbs,Zbt,Zbv,Zcj,Zcq,Zct,Zcu,Zcw,Zcy,Zcz,Zda,Zdb,Zdc,Zdd,Zde,Z1,Z2,Q5,Q6,Z3,Zdv,Zef,Zeq,Bool.not_true,Bool.not_false,Q9,Z0,Q1,Q0,if_true,Nat.reduceAdd,Nat.reduceSub,eq_self,Q1,Q0,Q7,Q8,Q3,Q2,Q1,Q0,Q4,Q3,Q2,zz,zl,evp,← hA,← hB,lT,e1,e2,fill0,sZ,lZ,aA5,aA4,aA8]
 case pos =>
 obtain ⟨x2,h2,e2⟩:=ka1 c2
 by_cases c3:t.numG.all aAS=true
 case neg =>
  have e3:=kg2 (by simpa using c3)
  refine ⟨fun k=>absurd (TabD.ok_len k).2.2 c3,fun _=>flat aCC aAy aCW 34 1 [A,B] ?_⟩
  subst hh
  simp only [Q2,Q0,Q4] at bx lT sZ lZ
  rw [← hA] at bx
  rw [aIo]
  simp only [Zae,Zaf,Zag,Zah,Zam,Zan,Zao,Zaq,Zav,Zaw,Zbc,Zbd,Zbe,Zbm,Zbo,Zbq,Zbr,Zbs,Zbt,Zbv,Zcj,Zcq,Zct,Zcu,Zcw,Zcy,Zcz,Zda,Zdb,Zdc,Zdd,Zde,Z1,Z2,Q5,Q6,Z3,Zdv,Zef,Zeq,Bool.not_true,Bool.not_false,Q9,Z0,Q1,Q0,if_true,Nat.reduceAdd,Nat.reduceSub,eq_self,Q1,Q0,Q7,Q8,Q3,Q2,Q1,Q0,Q4,Q3,Q2,zz,zl,evp,← hA,← hB,lT,e1,e2,e3,fill0,sZ,lZ,aA5,aA4,aA8]
 case pos =>
 obtain ⟨x3,h3,e3⟩:=kg1 c3
 have hk:t.ok:=TabD.ok_iff ⟨f1,f2,f3,f4,f5,f6,f7⟩ lo c2 c3
 refine ⟨fun _ => ?_,fun k=>absurd hk k⟩
 obtain ⟨ca,cg,hca,hcg,d1,d2,b1⟩:=aSc hk h2 h3
 have la0:=ha.len
 obtain ⟨ra,hra,xa⟩:=ha.ix 0 (by omega)
 obtain ⟨rg,hrg,xg⟩:=hg.ix 0 (by omega)
 rw [z0] at xa xg
 have nra:=hra.len
 have nrg:=hrg.len
 rw [← t.tm_0 (by omega)] at nra
 rw [← t.nt_0 (by omega)] at nrg
 obtain ⟨fl,pv⟩:=aSo hca hcg t.tm t.nt
 obtain ⟨cs,hcs⟩:∃ cs,cs=[.int .i64 (t.tm:Int),.int .i64 (t.nt:Int)]++ca++cg:=⟨_,rfl⟩
 rw [← hcs] at fl pv
 obtain ⟨p1,p2,p3⟩:=pv.cells
 obtain ⟨C,hC⟩:∃ C,C=AObj.arr 0 10 true [cs]:=⟨_,rfl⟩
 have sC:aAw (h++[A,B,B]) 10 (.ptr (h.length+2) 0 0 0) (.agg cs)=some (h++[A,B,C]):=by
  have s:=aB4 (h:=h++[A,B,B]) (i:=h.length+2) (ver:=0) (n:=10) (b:=true) (z:=aAy) (l:=cs) ((aH6 h A B B).trans (by rw [hB])) rfl p3 p1 p2
  rw [aDZ,← hC] at s
  exact s
 have lC:aAc (h++[A,B,C]) 10 true (.ptr (h.length+2) 0 0 0)=some (.agg cs):=aB1 (b:=true) (by rw [aH6,hC]) p3
 have sB:aAw (h++[A,B,C]) 10 (.ptr (h.length+1) 0 0 0) (.agg cs)=some (h++[A,C,C]):=by
  have s:=aB4 (h:=h++[A,B,C]) (i:=h.length+1) (ver:=0) (n:=10) (b:=true) (z:=aAy) (l:=cs) ((aH7 h A B C).trans (by rw [hB])) rfl p3 p1 p2
  rw [aDZ,← hC] at s
  exact s
 have lB:aAc (h++[A,C,C]) 10 true (.ptr (h.length+1) 0 0 0)=some (.agg cs):=aB1 (b:=true) (by rw [aH7,hC]) p3
 have va:∃ w,aAc (h++[A,B,C]) 1 false (.ptr (h.length+2) 0 0 4)=some w∧Li (aAQ t).a.val w:=by
  obtain ⟨a1,a2,a3,a4,rfl,_,_,q3,_⟩:=hca
  refine ⟨a3,?_,q3⟩
  obtain ⟨b1,b2,b3,b4,rfl,_,_,_,_⟩:=hcg
  rw [aAV _ 1 _ 0 0 4 false 10 true _ cs (by rw [aH6,hC]) rfl,hcs];rfl
 have vg:∃ w,aAc (h++[A,B,C]) 1 false (.ptr (h.length+2) 0 0 8)=some w∧Li (aAQ t).g.val w:=by
  obtain ⟨b1,b2,b3,b4,rfl,_,_,q3,_⟩:=hcg
  refine ⟨b3,?_,q3⟩
  obtain ⟨a1,a2,a3,a4,rfl,_,_,_,_⟩:=hca
  rw [aAV _ 1 _ 0 0 8 false 10 true _ cs (by rw [aH6,hC]) rfl,hcs];rfl
 obtain ⟨wa,la,qa⟩:=va
 obtain ⟨wg,lg,qg⟩:=vg
 have na:=qa.len
 have ng:=qg.len
 have c1:¬ (1048576:Int) < (aAQ t).a.val.length:=by omega
 have sB0:aAw (h++[A,B,C]) 10 (.ptr (h.length+1) 0 0 0) (.agg aAy)=some (h++[A,B,C]):=by
  have s:=aB4 (h:=h++[A,B,C]) (i:=h.length+1) (ver:=0) (n:=10) (b:=true) (z:=aAy) (l:=aAy) ((aH7 h A B C).trans (by rw [hB])) rfl rfl zc rfl
  rw [aDZ,← hB] at s
  exact s
 have lB0:aAc (h++[A,B,C]) 10 true (.ptr (h.length+1) 0 0 0)=some (.agg aAy):=aB1 (b:=true) (by rw [aH7,hB]) rfl
 by_cases sm:(aAQ t).g.val.length≤1048576
 case neg =>
  have c2:(1048576:Int) < (aAQ t).g.val.length:=by omega
  refine ⟨fun k=>absurd k sm,fun _=>flat aCC aAy aCW 35 1 [A,B,C] ?_⟩
  subst hh
  simp only [Q2,Q0,Q4] at bx lT sZ lZ sC lC sB lB la lg sB0 lB0
  rw [← hA] at bx
  rw [aIo]
  simp only [Zae,Zaf,Zag,Zah,Zam,Zan,Zao,Zaq,Zav,Zaw,Zbc,Zbd,Zbe,Zbg,Zbl,Zbm,Zbn,Zbo,Zbp,Zbq,Zbr,Zbs,Zbt,Zbu,Zbv,Zcc,Zcf,Zcj,Zck,Zcq,Zct,Zcu,Zcw,Zcy,Zcz,Zda,Zdb,Zdc,Zdd,Zde,Z1,Z2,Q5,Q6,Z3,Zdn,Zdv,Zeb,Zef,Zeq,decide_true,decide_false,Bool.not_true,Q9,Z0,Q1,Q0,if_true,Nat.reduceAdd,Nat.reduceSub,eq_self,Q1,Q0,Q7,Q8,Q3,Q2,Q1,Q0,Q4,Q3,Q2,zz,zl,evp,← hA,← hB,lT,e1,e2,e3,l0,l1,xa,xg,aDd,nra,nrg,d1,d2,fl,sC,la,lg,na,ng,c1,c2,fill0,sB0,lB0,aA5,aA4,aA8]
 case pos =>
 have c2:¬ (1048576:Int) < (aAQ t).g.val.length:=by omega
 refine ⟨fun _=>⟨cs,pv,flat _ cs pv 0 1 [A,C,C] ?_⟩,fun k=>absurd sm k⟩
 subst hh
 simp only [Q2,Q0,Q4] at bx lT sZ lZ sC lC sB lB la lg
 rw [← hA] at bx
 rw [aIo]
 simp only [Zae,Zaf,Zag,Zah,Zam,Zan,Zao,Zaw,Zbc,Zbd,Zbe,Zbg,Zbl,Zbm,Zbn,Zbo,Zbp,Zbq,Zbr,Zbs,Zbt,Zbu,Zbv,Zcc,Zcf,Zcj,Zck,Zcq,Zct,Zcu,Zcw,Zcy,Zcz,Zda,Zdb,Zdc,Zdd,Zde,Z1,Z2,Q5,Q6,Z3,Zdn,Zdv,Zeb,Zef,Zeq,decide_false,Bool.not_true,Q9,Z0,Q1,Q0,if_true,Nat.reduceAdd,Nat.reduceSub,eq_self,Q1,Q0,Q7,Q8,Q3,Q2,Q1,Q0,Q4,Q3,Q2,zz,zl,evp,← hA,← hB,lT,e1,e2,e3,l0,l1,xa,xg,aDd,nra,nrg,d1,d2,fl,sC,la,lg,na,ng,c1,c2,lC,sB,lB,aA5,aA4,aA8]
end
end Go.Proofs.Ytgeedikghjcebaa.Ai
