/- pack.Back as a call. -/
import Derived.Test.YtgeedikghjcebaamXO
namespace Go.Proofs.Ytgeedikghjcebaa.Ai
open Go Go.Proofs
open List renaming length_cons → Q0, length_nil → Q1, getD_cons_zero → Q2, getD_cons_succ → Q3, replicate_succ → Q4, replicate_zero → Q5, set_cons_zero → Q6, set_cons_succ → Q7, nil_append → Q8, cons_append → Q9, getElem?_cons_zero → Z1, getElem?_cons_succ → Z2
open Option renaming map_some → Z0
open Bool renaming not_true → Z3, not_false → Z4
set_option linter.unusedVariables false
set_option linter.unusedSimpArgs false
set_option maxRecDepth 10000
set_option maxHeartbeats 4000000
section
variable {p : PackD} {cs : List AV}
theorem aIV (h:aA0) (z:List (List AV)) (e:h[1]?=some (.arr 0 2 true [[.nilS,.nilS]])):aAB h 2 (.ptr 1 0 0 0) (.agg [.nilS,.nilS])=some (h.set 1 (.arr 0 2 true [[.nilS,.nilS]]))∧aAb (h.set 1 (.arr 0 2 true [[.nilS,.nilS]])) 2 true (.ptr 1 0 0 0)=some (.agg [.nilS,.nilS])∧aAb h 2 true (.ptr 1 0 0 0)=some (.agg [.nilS,.nilS]) :=
 ⟨aCd (b:=true) e rfl rfl rfl rfl,aBL (b:=true) (aAr e) rfl,aBL (b:=true) e rfl⟩
theorem aQQ (hp:aBO p cs) (kA:RtOk p.a) (kG:RtOk p.g) (hw:p.g.val.length≤1048576) :
  (aCa p→∃ (raw av gv:AV) (c:Bool) (h':aA0),aB8 (lim G0.cfg) 5000 aDN [.agg cs] []=some (raw,h')∧freeze h' 1000 raw=some (.tup [.agg [av,gv],.int .i64 0],c)∧LiG (LiG LiA) (aCu p).acts av∧LiR (aCu p).gotos gv) ∧
  (¬ aCa p→∃ (h':aA0),aB8 (lim G0.cfg) 5000 aDN [.agg cs] []=some (.tup [.agg [.nilS,.nilS],.int .i64 34],h')):=by
 obtain ⟨p1,p2,p3⟩:=hp.cells
 have bx:=aH1 [] p3 p1
 obtain ⟨ca,cg,hcs,hA,hG⟩:=hp
 obtain ⟨X,hX⟩:∃ X,X=AObj.arr 0 10 true [cs]:=⟨_,rfl⟩
 obtain ⟨Y,hY⟩:∃ Y,Y=AObj.arr 0 2 true [[AV.nilS,.nilS]]:=⟨_,rfl⟩
 have e0:∀ l:aA0,(X::l)[0]?=some (.arr 0 10 true [[.int .i64 p.tms,.int .i64 p.nts]++ca++cg]):=fun l=>by rw [hX,hcs];rfl
 have f0:aDT [.nilS,.nilS] []=some (.agg [.nilS,.nilS]):=rfl
 have ldt:aAb [X,Y] 1 false (.ptr 0 0 0 0)=some (.int .i64 p.tms):=(aEz hA hG _ (e0 [Y])).2.2.1
 have ldn:aAb [X,Y] 1 false (.ptr 0 0 0 1)=some (.int .i64 p.nts):=(aEz hA hG _ (e0 [Y])).2.2.2
 have lrow:∃ w1 w2,aAb [X,Y] 1 false (.ptr 0 0 0 2)=some w1∧Li p.a.row w1∧aAb [X,Y] 1 false (.ptr 0 0 0 6)=some w2∧Li p.g.row w2:=by
  have E:=e0 [Y]
  obtain ⟨a1,a2,a3,a4,ra,q1,_,_,_⟩:=hA
  obtain ⟨b1,b2,b3,b4,rg,q2,_,_,_⟩:=hG
  rw [ra,rg] at E
  exact ⟨a1,b1,by rw [aB5 _ 1 0 0 0 2 false 10 true _ _ E rfl];rfl,q1,by rw [aB5 _ 1 0 0 0 6 false 10 true _ _ E rfl];rfl,q2⟩
 obtain ⟨w1,w2,l1,q1,l2,q2⟩:=lrow
 have n1:=q1.len
 have n2:=q2.len
 obtain ⟨n,hnn⟩:∃ n,n=p.n:=⟨_,rfl⟩
 have hn0:p.a.row.length=n:=hnn.symm
 rw [hn0] at n1
 obtain ⟨z1,z2,z3⟩:=aIV [X,Y] [] (by rw [hY];rfl)
 have zs:([X,Y]:aA0).set 1 (.arr 0 2 true [[.nilS,.nilS]])=[X,Y]:=by rw [hY];rfl
 rw [zs] at z1 z2
 rw [aOs]
 by_cases c1:p.tms < 2
 case pos =>
  refine ⟨fun k=>by have:=k.1.1;omega,fun _=>⟨[X,Y],?_⟩⟩
  simp only [Zaf,Zag,Zah,Zam,Zan,Zao,Zaq,Zav,Zbc,Zbd,Zbe,Zbh,Zbk,Zbm,Zbn,Zbo,Zbp,Zbq,Zbr,Zbs,Zbt,Zbu,Zcc,Zck,Zcq,Zcw,Zcy,Zcz,Zda,Zdb,Zdc,Q6,Q7,Q2,Q3,Z0,Zdl,Zeb,decide_true,Q0,Q1,if_true,Nat.reduceAdd,Nat.reduceSub,eq_self,Q0,Q1,Q4,Q5,Q9,Q8,p1,p3,eq_self,if_true,evp,← hX,← hY,l1,n1,ldt,c1,f0,z1,z2,aAa,aA8,aAc]
 case neg =>
 by_cases c2:256 < p.tms
 case pos =>
  refine ⟨fun k=>by have:=k.1.2.1;omega,fun _=>⟨[X,Y],?_⟩⟩
  simp only [Zaf,Zag,Zah,Zam,Zan,Zao,Zaq,Zav,Zbc,Zbd,Zbe,Zbg,Zbh,Zbk,Zbl,Zbm,Zbn,Zbo,Zbp,Zbq,Zbr,Zbs,Zbt,Zbu,Zcc,Zck,Zcq,Zcw,Zcy,Zcz,Zda,Zdb,Zdc,Q6,Q7,Q2,Q3,Z0,Zdl,Zdn,Zeb,decide_true,decide_false,Q0,Q1,if_true,Nat.reduceAdd,Nat.reduceSub,eq_self,Q0,Q1,Q4,Q5,Q9,Q8,p1,p3,eq_self,if_true,evp,← hX,← hY,l1,n1,ldt,c1,c2,f0,z1,z2,aAa,aA8,aAc]
 case neg =>
 by_cases c3:p.nts < 1
 case pos =>
  refine ⟨fun k=>by have:=k.1.2.2.1;omega,fun _=>⟨[X,Y],?_⟩⟩
  simp only [Zaf,Zag,Zah,Zam,Zan,Zao,Zaq,Zav,Zbc,Zbd,Zbe,Zbg,Zbh,Zbk,Zbl,Zbm,Zbn,Zbo,Zbp,Zbq,Zbr,Zbs,Zbt,Zbu,Zcc,Zck,Zcq,Zcw,Zcy,Zcz,Zda,Zdb,Zdc,Q6,Q7,Q2,Q3,Z0,Zdl,Zdn,Zeb,decide_true,decide_false,Q0,Q1,if_true,Nat.reduceAdd,Nat.reduceSub,eq_self,Q0,Q1,Q4,Q5,Q9,Q8,p1,p3,eq_self,if_true,evp,← hX,← hY,l1,n1,ldt,ldn,c1,c2,c3,f0,z1,z2,aAa,aA8,aAc]
 case neg =>
 by_cases c4:512 < p.nts
 case pos =>
  refine ⟨fun k=>by have:=k.1.2.2.2.1;omega,fun _=>⟨[X,Y],?_⟩⟩
  simp only [Zaf,Zag,Zah,Zam,Zan,Zao,Zaq,Zav,Zbc,Zbd,Zbe,Zbg,Zbh,Zbk,Zbl,Zbm,Zbn,Zbo,Zbp,Zbq,Zbr,Zbs,Zbt,Zbu,Zcc,Zck,Zcq,Zcw,Zcy,Zcz,Zda,Zdb,Zdc,Q6,Q7,Q2,Q3,Z0,Zdl,Zdn,Zeb,decide_true,decide_false,Q0,Q1,if_true,Nat.reduceAdd,Nat.reduceSub,eq_self,Q0,Q1,Q4,Q5,Q9,Q8,p1,p3,eq_self,if_true,evp,← hX,← hY,l1,n1,ldt,ldn,c1,c2,c3,c4,f0,z1,z2,aAa,aA8,aAc]
 case neg =>
 by_cases c5:(n:Int) < 1
 case pos =>
  refine ⟨fun k=>by have:=k.1.2.2.2.2.1;omega,fun _=>⟨[X,Y],?_⟩⟩
  simp only [Zaf,Zag,Zah,Zam,Zan,Zao,Zaq,Zav,Zbc,Zbd,Zbe,Zbg,Zbh,Zbk,Zbl,Zbm,Zbn,Zbo,Zbp,Zbq,Zbr,Zbs,Zbt,Zbu,Zcc,Zck,Zcq,Zcw,Zcy,Zcz,Zda,Zdb,Zdc,Q6,Q7,Q2,Q3,Z0,Zdl,Zdn,Zeb,decide_true,decide_false,Q0,Q1,if_true,Nat.reduceAdd,Nat.reduceSub,eq_self,Q0,Q1,Q4,Q5,Q9,Q8,p1,p3,eq_self,if_true,evp,← hX,← hY,l1,n1,ldt,ldn,c1,c2,c3,c4,c5,f0,z1,z2,aAa,aA8,aAc]
 case neg =>
 by_cases c6:(4096:Int) < n
 case pos =>
  refine ⟨fun k=>by have:=k.1.2.2.2.2.2.1;omega,fun _=>⟨[X,Y],?_⟩⟩
  simp only [Zaf,Zag,Zah,Zam,Zan,Zao,Zaq,Zav,Zbc,Zbd,Zbe,Zbg,Zbh,Zbk,Zbl,Zbm,Zbn,Zbo,Zbp,Zbq,Zbr,Zbs,Zbt,Zbu,Zcc,Zck,Zcq,Zcw,Zcy,Zcz,Zda,Zdb,Zdc,Q6,Q7,Q2,Q3,Z0,Zdl,Zdn,Zeb,decide_true,decide_false,Q0,Q1,if_true,Nat.reduceAdd,Nat.reduceSub,eq_self,Q0,Q1,Q4,Q5,Q9,Q8,p1,p3,eq_self,if_true,evp,← hX,← hY,l1,n1,ldt,ldn,c1,c2,c3,c4,c5,c6,f0,z1,z2,aAa,aA8,aAc]
 case neg =>
 by_cases c7:p.g.row.length=n
 case neg =>
  have d7:decide ((p.g.row.length:Int)=n)=false:=decide_eq_false (by omega)
  refine ⟨fun k=>by have:=k.1.2.2.2.2.2.2;omega,fun _=>⟨[X,Y],?_⟩⟩
  simp only [Zaf,Zag,Zah,Zam,Zan,Zao,Zaq,Zav,Zbc,Zbd,Zbe,Zbg,Zbl,Zbm,Zbn,Zbo,Zbp,Zbq,Zbr,Zbs,Zbt,Zbu,Zcc,Zck,Zcq,Zcw,Zcy,Zcz,Zda,Zdb,Zdc,Q6,Q7,Q2,Q3,Z0,Zdl,Zdn,Zdq,Zeb,decide_false,Z4,Q0,Q1,if_true,Nat.reduceAdd,Nat.reduceSub,eq_self,Q0,Q1,Q4,Q5,Q9,Q8,p1,p3,eq_self,if_true,evp,← hX,← hY,l1,l2,n1,n2,ldt,ldn,c1,c2,c3,c4,c5,c6,d7,f0,z1,z2,aAa,aA8,aAc]
 case pos =>
 have d7:decide ((p.g.row.length:Int)=n)=true:=decide_eq_true (by omega)
 have fr:aQa p:=⟨by omega,by omega,by omega,by omega,by omega,by omega,by omega⟩
 have tmE:p.tms=(p.tm:Int):=by unfold PackD.tm;omega
 have ntE:p.nts=(p.nt:Int):=by unfold PackD.nt;omega
 have r0:Ren ([X,Y,Y]:aA0).length [X,Y,Y]:=by
  intro i j hi hj
  have ry:aDO i j Y=Y:=by rw [hY];rfl
  have rx:aDO i j X=X:=by
   rw [hX,hcs]
   obtain ⟨a1,a2,a3,a4,rfl,q1,q2,q3,q4⟩:=hA
   obtain ⟨b1,b2,b3,b4,rfl,q5,q6,q7,q8⟩:=hG
   have li:∀ (l:List Int) (v:AV),Li l v→aAU i j v=v:=fun l v h=>by
    rcases h with ⟨_,rfl⟩ | ⟨e,rfl⟩ <;> simp [aAU]
   have ri:∀ n:Int,aAU i j (.int .i64 n)=.int .i64 n:=fun n=>by simp [aAU]
   simp only [aDO,List.map_cons,List.map_nil,Q9,Q8,aBK,ri,li _ _ q1,li _ _ q2,li _ _ q3,li _ _ q4,li _ _ q5,li _ _ q6,li _ _ q7,li _ _ q8]
  simp only [List.map_cons,List.map_nil,rx,ry]
 obtain ⟨k1,k2⟩:=aTt hA hG kA kG p.tm p.nt n 5000 tmE ntE (by omega) (by omega) (by omega) (by omega) n 0 5000 [] [] [X,Y,Y] .nilS .nilS [] [] none none (fun _=>False) (by omega) (by omega) (e0 [Y,Y]) (by rw [hY];rfl) (by rw [hY];rfl) (aAu.nil 1 _) (Nest.nil _ _ _) (aAu.nil 1 _) (Nest.nil _ _ _) (fun _ e=>e.elim) (fun _ e=>by cases e) (fun _ e=>by cases e) (fun _ e=>by cases e) rfl rfl r0
 rw [z0] at k1 k2
 rw [Q8,Q8] at k1
 by_cases c8:aIh p p.tm 0 n=true
 case neg =>
  obtain ⟨h',e,e1⟩:=k2 (by simpa using c8)
  have z4:=(aIV h' [] e1).2.2
  refine ⟨fun k=>absurd (hnn ▸ k.2.1) c8,fun _=>⟨h',?_⟩⟩
  simp only [Zae,Zaf,Zag,Zah,Zai,Zaj,Zak,Zan,Zao,Zaq,Zas,Zaw,Zax,Zbc,Zbd,Zbg,Zbl,Zbm,Zbn,Zbo,Zbp,Zbq,Zbr,Zbs,Zbu,Zcc,Zck,Zcw,Zcy,Zcz,Zda,Zdb,Zdf,Zdg,Zdh,Q6,Q7,Q2,Q3,Z0,Zdl,Zdn,Zdq,Zeb,decide_false,Z3,Q0,Q1,if_true,Nat.reduceAdd,Nat.reduceSub,eq_self,Q0,Q1,Q4,Q5,Q9,Q8,p1,p3,eq_self,if_true,← hX,← hY,l1,l2,n1,n2,ldt,ldn,c1,c2,c3,c4,c5,c6,d7,e,z4,aAa,aA8,aAc]
 case pos =>
 obtain ⟨h',wA,wG,csA,csG,qA,qG,S,e,g0,g1,g2,oA,nA,oG,nG,hS,hqA,hqG⟩:=k1 c8
 have eA:(aCu p).acts=aHu p p.tm 0 n:=by rw [hnn];rfl
 have eG:(aCu p).gotos=aFT p p.nt 0 n:=by rw [hnn];rfl
 rw [← eA] at nA
 rw [← eG] at nG
 obtain ⟨av,ba,fa,ga⟩:=nA.fzA oA 996
 obtain ⟨gv,bg,fg,gg⟩:=nG.fz oG 996
 have fz:freeze h' 1000 (.agg [wA,wG])=some (.agg [av,gv],ba && (bg && true)):=aOG fa fg
 have cc:cellsOf (.agg [wA,wG])=[wA,wG]:=by simp [cellsOf]
 have ck:[wA,wG].all aAp=true:=by simp only [List.all_cons,List.all_nil,oA.cell.2,oG.cell.2,Bool.and_self]
 have tl:=(aQK p).1
 obtain ⟨o1,o2⟩:=aU8 (h:=h') ga gg fz cc
 have lt5:aAb h' 2 true (.ptr 2 0 0 0)=some (.agg [wA,wG]):=aBL (b:=true) g2 rfl
 have zz:[AV.int .i64 0,.int .i64 0,.nilS,.nilS,.nilS,.nilS,.nilS,.nilS,.nilS,.nilS]=aAE:=rfl
 have zl:aAE.length=10:=rfl
 -- behind the call
 have tail:∀ (K:aA0) (q:PackD) (qs:List AV) (hq:aBO q qs),(∀ (i:Nat) (o:AObj),h'[i]?=some o→K[i]?=some o) →
   ∃ Z:aA0,aAB (K++[.arr 0 10 true [aAE]]) 10 (.ptr K.length 0 0 0) (.agg qs)=some Z∧aAb Z 1 false (.ptr K.length 0 0 0)=some (.int .i64 q.tms)∧aAb Z 1 false (.ptr K.length 0 0 1)=some (.int .i64 q.nts)∧(∃ qa,RT q.a qa∧aAb Z 4 true (.ptr K.length 0 0 2)=some (.agg qa))∧(∃ qg,RT q.g qg∧aAb Z 4 true (.ptr K.length 0 0 6)=some (.agg qg)) ∧
    aAb Z 1 false (.ptr 0 0 0 0)=some (.int .i64 p.tms)∧aAb Z 1 false (.ptr 0 0 0 1)=some (.int .i64 p.nts)∧aAb Z 4 true (.ptr 0 0 0 2)=some (.agg ca)∧aAb Z 4 true (.ptr 0 0 0 6)=some (.agg cg) ∧
    Z[1]?=some (.arr 0 2 true [[.nilS,.nilS]])∧aAb Z 2 true (.ptr 2 0 0 0)=some (.agg [wA,wG])∧(∀ (i:Nat) (o:AObj),h'[i]?=some o→Z[i]?=some o):=by
  intro K q qs hq up
  obtain ⟨u1,u2,u3⟩:=hq.cells
  have s:=aCd (h:=K++[.arr 0 10 true [aAE]]) (i:=K.length) (ver:=0) (n:=10) (b:=true) (z:=aAE) (l:=qs) (aBz _ _) rfl u3 u1 u2
  rw [aGL] at s
  obtain ⟨Z,hZ⟩:∃ Z:aA0,Z=K++[.arr 0 10 true [qs]]:=⟨_,rfl⟩
  rw [← hZ] at s
  have gq:Z[K.length]?=some (.arr 0 10 true [qs]):=by rw [hZ];exact aBz _ _
  have upZ:∀ (i:Nat) (o:AObj),h'[i]?=some o→Z[i]?=some o:=fun i o e=>by rw [hZ];exact aAJ (up i o e) _
  obtain ⟨b1,b2,b3,b4⟩:=aEz hA hG Z (upZ 0 _ g0)
  obtain ⟨qa,qg,rfl,ra,rg⟩:=hq
  refine ⟨Z,s,?_,?_,⟨qa,ra,?_⟩,⟨qg,rg,?_⟩,b3,b4,b1,b2,upZ 1 _ g1,aBL (b:=true) (upZ 2 _ g2) rfl,upZ⟩
  ·rw [aB5 Z 1 K.length 0 0 0 false 10 true _ _ gq rfl];rfl
  ·rw [aB5 Z 1 K.length 0 0 1 false 10 true _ _ gq rfl];rfl
  ·obtain ⟨a1,a2,a3,a4,rfl,_⟩:=ra
   obtain ⟨b1,b2,b3,b4,rfl,_⟩:=rg
   rw [aB5 Z 4 K.length 0 0 2 true 10 true _ _ gq rfl];rfl
  ·obtain ⟨a1,a2,a3,a4,rfl,_⟩:=ra
   obtain ⟨b1,b2,b3,b4,rfl,_⟩:=rg
   rw [aB5 Z 4 K.length 0 0 6 true 10 true _ _ gq rfl];rfl
 by_cases c9:(aCu p).ok
 case neg =>
  obtain ⟨h'',eo⟩:=o2 c9
  obtain ⟨Z,s,t1,t2,_,_,t3,t4,t5,t6,t7,t8,t9⟩:=tail (h'++h'') aDx aAE aDM (fun i o e=>aAJ e _)
  obtain ⟨y1,y2,_⟩:=aIV Z [] t7
  rw [← hY] at y1 y2
  have d34:decide ((34:Int)=0)=false:=rfl
  refine ⟨fun k=>absurd k.2.2.1 c9,fun _=>⟨Z.set 1 Y,?_⟩⟩
  simp only [Zae,Zaf,Zag,Zah,Zai,Zaj,Zak,Zam,Zan,Zao,Zaq,Zat,Zav,Zaw,Zax,Zbc,Zbd,Zbe,Zbg,Zbh,Zbk,Zbl,Zbm,Zbn,Zbo,Zbp,Zbq,Zbr,Zbs,Zbt,Zbu,Zcc,Zcj,Zck,Zcq,Zct,Zcu,Zcw,Zcy,Zcz,Zda,Zdb,Zdc,Zdd,Zde,Zdf,Zdg,Zdh,Q6,Q7,Q2,Q3,Z0,Zdl,Zdn,Zdq,Zeb,Zeq,decide_false,Z3,Z4,Z1,Z2,Q0,Q1,if_true,Nat.reduceAdd,Nat.reduceSub,Int.reduceEq,eq_self,Q0,Q1,Q4,Q5,Q9,Q8,p1,p3,eq_self,if_true,evp,← hX,← hY,l1,l2,n1,n2,ldt,ldn,c1,c2,c3,c4,c5,c6,d7,e,lt5,eo,zz,zl,s,f0,y1,y2,aAa,aA8,aAc]
 case pos =>
 by_cases sm:(aBa (aCu p)).g.val.length≤1048576
 case neg =>
  obtain ⟨h'',eo⟩:=(o1 c9).2 sm
  obtain ⟨Z,s,t1,t2,_,_,t3,t4,t5,t6,t7,t8,t9⟩:=tail (h'++h'') aDx aAE aDM (fun i o e=>aAJ e _)
  obtain ⟨y1,y2,_⟩:=aIV Z [] t7
  rw [← hY] at y1 y2
  have d35:decide ((35:Int)=0)=false:=rfl
  refine ⟨fun k=>absurd (by rw [k.2.2.2];exact hw) sm,fun _=>⟨Z.set 1 Y,?_⟩⟩
  simp only [Zae,Zaf,Zag,Zah,Zai,Zaj,Zak,Zam,Zan,Zao,Zaq,Zat,Zav,Zaw,Zax,Zbc,Zbd,Zbe,Zbg,Zbh,Zbk,Zbl,Zbm,Zbn,Zbo,Zbp,Zbq,Zbr,Zbs,Zbt,Zbu,Zcc,Zcj,Zck,Zcq,Zct,Zcu,Zcw,Zcy,Zcz,Zda,Zdb,Zdc,Zdd,Zde,Zdf,Zdg,Zdh,Q6,Q7,Q2,Q3,Z0,Zdl,Zdn,Zdq,Zeb,Zeq,decide_false,Z3,Z4,Z1,Z2,Q0,Q1,if_true,Nat.reduceAdd,Nat.reduceSub,Int.reduceEq,eq_self,Q0,Q1,Q4,Q5,Q9,Q8,p1,p3,eq_self,if_true,evp,← hX,← hY,l1,l2,n1,n2,ldt,ldn,c1,c2,c3,c4,c5,c6,d7,e,lt5,eo,zz,zl,s,f0,y1,y2,aAa,aA8,aAc]
 case pos =>
 obtain ⟨qs,h'',hq,eo⟩:=(o1 c9).1 sm
 obtain ⟨Z,s,t1,t2,⟨qa,ra,t10⟩,⟨qg,rg,t11⟩,t3,t4,t5,t6,t7,t8,t9⟩:=tail (h'++h'') (aBa (aCu p)) qs hq (fun i o e=>aAJ e _)
 obtain ⟨y1,y2,_⟩:=aIV Z [] t7
 rw [← hY] at y1 y2
 obtain ⟨sm1,sm2⟩:=aNa c9
 have q3:=aOK ra hA sm1.1 sm1.2.1 sm1.2.2.1 sm1.2.2.2
 have q4:=aOK rg hG sm2.1 sm2.2.1 sm2.2.2.1 sm2.2.2.2
 have d0:decide ((0:Int)=0)=true:=rfl
 by_cases x1:(aBa (aCu p)).tms=p.tms
 case neg =>
  have dx:decide ((aBa (aCu p)).tms=p.tms)=false:=decide_eq_false x1
  refine ⟨fun k=>absurd (congrArg PackD.tms k.2.2.2) x1,fun _=>⟨Z.set 1 Y,?_⟩⟩
  simp only [Zae,Zaf,Zag,Zah,Zai,Zaj,Zak,Zam,Zan,Zao,Zaq,Zat,Zav,Zaw,Zax,Zbc,Zbd,Zbe,Zbg,Zbh,Zbk,Zbl,Zbm,Zbn,Zbo,Zbp,Zbq,Zbr,Zbs,Zbt,Zbu,Zcc,Zcj,Zck,Zcq,Zct,Zcu,Zcw,Zcy,Zcz,Zda,Zdb,Zdc,Zdd,Zde,Zdf,Zdg,Zdh,Q6,Q7,Q2,Q3,Z0,Zdl,Zdn,Zdq,Zeb,Zeq,decide_true,decide_false,Z3,Z4,Z1,Z2,Q0,Q1,if_true,Nat.reduceAdd,Nat.reduceSub,eq_self,Q0,Q1,Q4,Q5,Q9,Q8,p1,p3,eq_self,if_true,evp,← hX,← hY,l1,l2,n1,n2,ldt,ldn,c1,c2,c3,c4,c5,c6,d7,e,lt5,eo,zz,zl,s,t1,t3,dx,f0,y1,y2,aAa,aA8,aAc]
 case pos =>
 have dx1:decide ((aBa (aCu p)).tms=p.tms)=true:=decide_eq_true x1
 by_cases x2:(aBa (aCu p)).nts=p.nts
 case neg =>
  have dx:decide ((aBa (aCu p)).nts=p.nts)=false:=decide_eq_false x2
  refine ⟨fun k=>absurd (congrArg PackD.nts k.2.2.2) x2,fun _=>⟨Z.set 1 Y,?_⟩⟩
  simp only [Zae,Zaf,Zag,Zah,Zai,Zaj,Zak,Zam,Zan,Zao,Zaq,Zat,Zav,Zaw,Zax,Zbc,Zbd,Zbe,Zbg,Zbh,Zbk,Zbl,Zbm,Zbn,Zbo,Zbp,Zbq,Zbr,Zbs,Zbt,Zbu,Zcc,Zcj,Zck,Zcq,Zct,Zcu,Zcw,Zcy,Zcz,Zda,Zdb,Zdc,Zdd,Zde,Zdf,Zdg,Zdh,Q6,Q7,Q2,Q3,Z0,Zdl,Zdn,Zdq,Zeb,Zeq,decide_true,decide_false,Z3,Z4,Z1,Z2,Q0,Q1,if_true,Nat.reduceAdd,Nat.reduceSub,eq_self,Q0,Q1,Q4,Q5,Q9,Q8,p1,p3,eq_self,if_true,evp,← hX,← hY,l1,l2,n1,n2,ldt,ldn,c1,c2,c3,c4,c5,c6,d7,e,lt5,eo,zz,zl,s,t1,t2,t3,t4,dx1,dx,f0,y1,y2,aAa,aA8,aAc]
 case pos =>
 have dx2:decide ((aBa (aCu p)).nts=p.nts)=true:=decide_eq_true x2
 by_cases x3:eqR (aBa (aCu p)).a p.a=true
 case neg =>
  have dx:eqR (aBa (aCu p)).a p.a=false:=by simpa using x3
  rw [dx] at q3
  refine ⟨fun k=>absurd ((aJJ _ _).2 (congrArg PackD.a k.2.2.2)) x3,fun _=>⟨Z.set 1 Y,?_⟩⟩
  simp only [Zae,Zaf,Zag,Zah,Zai,Zaj,Zak,Zam,Zan,Zao,Zaq,Zat,Zav,Zaw,Zax,Zbc,Zbd,Zbe,Zbg,Zbh,Zbk,Zbl,Zbm,Zbn,Zbo,Zbp,Zbq,Zbr,Zbs,Zbt,Zbu,Zbv,Zcc,Zcj,Zck,Zcq,Zct,Zcu,Zcw,Zcy,Zcz,Zda,Zdb,Zdc,Zdd,Zde,Zdf,Zdg,Zdh,Q6,Q7,Q2,Q3,Z0,Zdl,Zdn,Zdq,Zdv,Zeb,Zeq,decide_true,decide_false,Z3,Z4,Z1,Z2,Q0,Q1,if_true,Nat.reduceAdd,Nat.reduceSub,eq_self,Q0,Q1,Q4,Q5,Q9,Q8,p1,p3,eq_self,if_true,evp,← hX,← hY,l1,l2,n1,n2,ldt,ldn,c1,c2,c3,c4,c5,c6,d7,e,lt5,eo,zz,zl,s,t1,t2,t3,t4,dx1,dx2,t10,t5,q3,f0,y1,y2,aAa,aA8,aAc]
 case pos =>
 rw [x3] at q3
 by_cases x4:eqR (aBa (aCu p)).g p.g=true
 case neg =>
  have dx:eqR (aBa (aCu p)).g p.g=false:=by simpa using x4
  rw [dx] at q4
  refine ⟨fun k=>absurd ((aJJ _ _).2 (congrArg PackD.g k.2.2.2)) x4,fun _=>⟨Z.set 1 Y,?_⟩⟩
  simp only [Zae,Zaf,Zag,Zah,Zai,Zaj,Zak,Zam,Zan,Zao,Zaq,Zat,Zav,Zaw,Zax,Zbc,Zbd,Zbe,Zbg,Zbl,Zbm,Zbn,Zbo,Zbp,Zbq,Zbr,Zbs,Zbt,Zbu,Zbv,Zcc,Zcj,Zck,Zcq,Zct,Zcu,Zcw,Zcy,Zcz,Zda,Zdb,Zdc,Zdd,Zde,Zdf,Zdg,Zdh,Q6,Q7,Q2,Q3,Z0,Zdl,Zdn,Zdq,Zdv,Zeb,Zeq,decide_true,decide_false,Z3,Z4,Z1,Z2,Q0,Q1,if_true,Nat.reduceAdd,Nat.reduceSub,eq_self,Q0,Q1,Q4,Q5,Q9,Q8,p1,p3,eq_self,if_true,evp,← hX,← hY,l1,l2,n1,n2,ldt,ldn,c1,c2,c3,c4,c5,c6,d7,e,lt5,eo,zz,zl,s,t1,t2,t3,t4,dx1,dx2,t10,t5,q3,t11,t6,q4,f0,y1,y2,aAa,aA8,aAc]
 case pos =>
 rw [x4] at q4
 have eP:aBa (aCu p)=p:=by
  have h1:=(aJJ _ _).1 x3
  have h2:=(aJJ _ _).1 x4
  cases hh:aBa (aCu p) with
  | mk a1 a2 a3 a4 =>
   rw [hh] at x1 x2 h1 h2
   simp only at x1 x2 h1 h2
   subst x1;subst x2;subst h1;subst h2
   rfl
 have bk:aCa p:=⟨fr,hnn ▸ c8,c9,eP⟩
 have y3:aAB Z 2 (.ptr 1 0 0 0) (.agg [wA,wG])=some (Z.set 1 (.arr 0 2 true [[wA,wG]])):=aCd (b:=true) t7 rfl rfl cc ck
 have y4:aAb (Z.set 1 (.arr 0 2 true [[wA,wG]])) 2 true (.ptr 1 0 0 0)=some (.agg [wA,wG]):=aBL (b:=true) (aAr t7) rfl
 obtain ⟨F,hF⟩:∃ F,F=Z.set 1 (.arr 0 2 true [[wA,wG]]):=⟨_,rfl⟩
 rw [← hF] at y3 y4
 have upF:∀ (i:Nat) (o:AObj),3≤i→h'[i]?=some o→F[i]?=some o:=fun i o hi e=>by rw [hF];exact aAs (t9 i o e) (by omega)
 obtain ⟨av2,ba2,fa2,ga2⟩:=(nA.frame (h':=F) (fun i o k e=>upF i o (hS i k) e)).fzA (oA.frame (h':=F) (fun i o k e=>upF i o (hqA i k) e)) 995
 obtain ⟨gv2,bg2,fg2,gg2⟩:=(nG.frame (h':=F) (fun i o k e=>upF i o (hS i k) e)).fz (oG.frame (h':=F) (fun i o k e=>upF i o (hqG i k) e)) 995
 have fz2:=aSa (k:=999) (aOG (k:=998) fa2 fg2) (rfl:freeze F 999 (.int .i64 0)=some (.int .i64 0,true))
 refine ⟨fun _=>⟨.tup [.agg [wA,wG],.int .i64 0],av2,gv2,_,F,?_,fz2,ga2,gg2⟩,fun k=>absurd bk k⟩
 simp only [Zae,Zaf,Zag,Zah,Zai,Zaj,Zak,Zam,Zan,Zao,Zat,Zaw,Zax,Zbc,Zbd,Zbe,Zbg,Zbl,Zbm,Zbn,Zbo,Zbp,Zbq,Zbr,Zbs,Zbt,Zbu,Zbv,Zcc,Zcj,Zck,Zct,Zcu,Zcw,Zcy,Zcz,Zda,Zdb,Zdc,Zdd,Zde,Zdf,Zdg,Zdh,Q6,Q7,Q2,Q3,Z0,Zdl,Zdn,Zdq,Zdv,Zeb,Zeq,decide_true,decide_false,Z3,Z1,Z2,Q0,Q1,if_true,Nat.reduceAdd,Nat.reduceSub,eq_self,Q0,Q1,Q4,Q5,Q9,Q8,p1,p3,eq_self,if_true,← hX,← hY,l1,l2,n1,n2,ldt,ldn,c1,c2,c3,c4,c5,c6,d7,e,lt5,eo,zz,zl,s,t1,t2,t3,t4,dx1,dx2,t10,t5,q3,t11,t6,q4,t8,y3,y4,aAa,aA8,aAc]
end
end Go.Proofs.Ytgeedikghjcebaa.Ai
namespace Go.Proofs.Ytgeedikghjcebaa.Ai
open Go Go.Proofs
open List renaming length_cons → Q0, length_nil → Q1
set_option linter.unusedVariables false
set_option linter.unusedSimpArgs false
set_option maxRecDepth 10000
set_option maxHeartbeats 4000000
section
variable {p : PackD} {cs : List AV}
theorem aTc (hp:aBO p cs) (kA:RtOk p.a) (kG:RtOk p.g) (hw:p.g.val.length≤1048576) :
  (aCa p→∃ (av gv:AV),LiG (LiG LiA) (aCu p).acts av∧LiR (aCu p).gotos gv∧∀ H,lim G0.cfg (.func 33) [.agg cs] H=some (.tup [.agg [av,gv],.int .i64 0],H)) ∧
  (¬ aCa p→∀ H,lim G0.cfg (.func 33) [.agg cs] H=some (.tup [.agg [.nilS,.nilS],.int .i64 34],H)):=by
 obtain ⟨k1,k2⟩:=aQQ hp kA kG hw
 refine ⟨fun k => ?_,fun k H => ?_⟩
 ·obtain ⟨raw,av,gv,c,h',r,f,g1,g2⟩:=k1 k
  exact ⟨av,gv,g1,g2,fun H=>aJa rfl rfl aKg 5000 (fun h=>aES (hp.fz h 998)) r f H⟩
 ·obtain ⟨h',r⟩:=k2 k
  exact aJa rfl rfl aKg 5000 (fun h=>aES (hp.fz h 998)) r (rfl:freeze h' 1000 (.tup [.agg [.nilS,.nilS],.int .i64 34])=some (.tup [.agg [.nilS,.nilS],.int .i64 34],true)) H
theorem aOM (hp:aBO p cs) (kA:RtOk p.a) (kG:RtOk p.g) (hw:p.g.val.length≤1048576) :
  (aCa p→∀ H,lim G0.cfg (.func 23) [.agg cs] H=some (.bool true,H))∧(¬ aCa p→∀ H,lim G0.cfg (.func 23) [.agg cs] H=some (.bool false,H)):=by
 obtain ⟨k1,k2⟩:=aTc hp kA kG hw
 obtain ⟨p1,p2,p3⟩:=hp.cells
 obtain ⟨X,hX⟩:∃ X,X=AObj.arr 0 10 true [cs]:=⟨_,rfl⟩
 have lX:aAb [X] 10 true (.ptr 0 0 0 0)=some (.agg cs):=aBL (b:=true) (by rw [hX];rfl) p3
 refine ⟨fun k H => ?_,fun k H => ?_⟩
 ·obtain ⟨av,gv,g1,g2,e⟩:=k1 k
  have d0:decide ((0:Int)=0)=true:=rfl
  have st:aAB [X,.arr 0 2 true [[.nilS,.nilS]]] 2 (.ptr 1 0 0 0) (.agg [av,gv])=some [X,.arr 0 2 true [[av,gv]]]:=aCd (h:=[X,.arr 0 2 true [[.nilS,.nilS]]]) (i:=1) (b:=true) (z:=[.nilS,.nilS]) rfl rfl rfl (by simp [cellsOf]) (by simp only [List.all_cons,List.all_nil,g1.cell.2,g2.cell.2,Bool.and_self])
  refine aAP rfl rfl aJs 1 (fun h=>aES (hp.fz h 998)) ?_ (fun _=>rfl) H
  rw [aJp]
  simp only [Zaf,Zag,Zam,Zan,Zao,Zbc,Zbd,Zbe,Zbm,Zbo,Zbq,Zbr,Zbs,Zbt,Zbu,Zcj,Zct,Zcu,Zcw,Zcy,Zcz,Zda,Zdb,Zdc,Zdd,Zde,List.set_cons_zero,List.set_cons_succ,List.getD_cons_zero,List.getD_cons_succ,Option.map_some,Zdp,Zeq,decide_true,List.getElem?_cons_zero,List.getElem?_cons_succ,Q0,Q1,if_true,Nat.reduceAdd,Nat.reduceSub,eq_self,true_and,Q0,Q1,List.replicate_succ,List.replicate_zero,List.cons_append,List.nil_append,p1,p3,eq_self,if_true,← hX,lX,e,st,aAa,aA8,aAc,Option.some.injEq,Prod.mk.injEq,true_and,exists_eq']
 ·have e:=k2 k
  have d0:decide ((34:Int)=0)=false:=rfl
  have st:aAB [X,.arr 0 2 true [[.nilS,.nilS]]] 2 (.ptr 1 0 0 0) (.agg [.nilS,.nilS])=some [X,.arr 0 2 true [[.nilS,.nilS]]]:=aCd (h:=[X,.arr 0 2 true [[.nilS,.nilS]]]) (i:=1) (b:=true) (z:=[.nilS,.nilS]) rfl rfl rfl rfl rfl
  refine aAP rfl rfl aJs 1 (fun h=>aES (hp.fz h 998)) ?_ (fun _=>rfl) H
  rw [aJp]
  simp only [Zaf,Zag,Zam,Zan,Zao,Zbc,Zbd,Zbe,Zbm,Zbo,Zbq,Zbr,Zbs,Zbt,Zbu,Zcj,Zct,Zcu,Zcw,Zcy,Zcz,Zda,Zdb,Zdc,Zdd,Zde,List.set_cons_zero,List.set_cons_succ,List.getD_cons_zero,List.getD_cons_succ,Option.map_some,Zdp,Zeq,decide_false,List.getElem?_cons_zero,List.getElem?_cons_succ,Q0,Q1,if_true,Nat.reduceAdd,Nat.reduceSub,Int.reduceEq,eq_self,true_and,Q0,Q1,List.replicate_succ,List.replicate_zero,List.cons_append,List.nil_append,p1,p3,eq_self,if_true,← hX,lX,e,st,aAa,aA8,aAc,Option.some.injEq,Prod.mk.injEq,true_and,exists_eq']
end
end Go.Proofs.Ytgeedikghjcebaa.Ai
