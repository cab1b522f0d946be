/- Take, the reference's; its Right. -/
import Derived.Test.YtgeedikghjcebaamXR
import Derived.Test.YtgeedikghjcebaamXS
import Derived.Test.YtgeedikghjcebaamXQ
namespace Go.Proofs.Ytgeedikghjcebaa.Ai
open Go Go.Proofs
open AV renaming junk → J
open List renaming length_cons → Q0, length_nil → Q1, getD_cons_zero → Q2, getD_cons_succ → Q3, nil_append → Q4, set_cons_zero → Q5, set_cons_succ → Q6, replicate_succ → Q7, replicate_zero → Q8, cons_append → Q9, length_eq_zero_iff → Z4
open Option.some renaming injEq → Z0
open Option renaming map_some → Z1, map_none → Z2
open Bool renaming not_true → Z3, not_false → Z5
set_option linter.unusedVariables false
set_option linter.unusedSimpArgs false
set_option maxRecDepth 10000
set_option maxHeartbeats 4000000
section
variable {p : PackD} {cs : List AV}
theorem aU0 (hp:aBE p cs) (kA:RtOk p.a) (kG:RtOk p.g) (hw:p.g.val.length≤1048576) :
  (aDu p→∀ H,lim G0.cfg (.func 16) [.agg cs] H=some (.bool true,H))∧(¬ aDu p→∀ H,lim G0.cfg (.func 16) [.agg cs] H=some (.bool false,H)):=by
 obtain ⟨k1,k2⟩:=aUU hp kA kG hw
 obtain ⟨p1,p2,p3⟩:=hp.cells
 obtain ⟨X,hX⟩:∃ X,X=AObj.arr 0 10 true [cs]:=⟨_,rfl⟩
 have lX:aAd [X] 10 true (.ptr 0 0 0 0)=some (.agg cs):=aAY (b:=true) (by rw [hX];rfl) p3
 refine ⟨fun k H => ?_,fun k H => ?_⟩
 ·obtain ⟨av,gv,g1,g2,e⟩:=k1 k
  have d0:decide ((0:Int)=0)=true:=rfl
  have st:aAw [X,.arr 0 2 true [[.nilS,.nilS]]] 2 (.ptr 1 0 0 0) (.agg [av,gv])=some [X,.arr 0 2 true [[av,gv]]]:=aB2 (h:=[X,.arr 0 2 true [[.nilS,.nilS]]]) (i:=1) (b:=true) (z:=[.nilS,.nilS]) rfl rfl rfl (by simp [cellsOf]) (by simp only [List.all_cons,List.all_nil,g1.cell.2,g2.cell.2,Bool.and_self])
  refine aAF rfl rfl aLJ 1 (fun h=>aDa (hp.fz h 998)) ?_ (fun _=>rfl) H
  rw [aLF]
  simp only [Zaf,Zag,Zam,Zan,Zao,Zbc,Zbd,Zbe,Zbm,Zbo,Zbq,Zbr,Zbs,Zbt,Zbu,Zcj,Zct,Zcu,Zcw,Zcy,Zcz,Zda,Zdb,Zdc,Zdd,Zde,Q5,Q6,Q2,Q3,Z1,Zdp,Zeq,decide_true,List.getElem?_cons_zero,List.getElem?_cons_succ,Q0,Q1,if_true,Nat.reduceAdd,Nat.reduceSub,eq_self,true_and,Q0,Q1,Q7,Q8,Q9,Q4,p1,p3,eq_self,if_true,← hX,lX,e,st,aA5,aA4,aA8,Z0,Prod.mk.injEq,true_and,exists_eq']
 ·have e:=k2 k
  have d0:decide ((34:Int)=0)=false:=rfl
  have st:aAw [X,.arr 0 2 true [[.nilS,.nilS]]] 2 (.ptr 1 0 0 0) (.agg [.nilS,.nilS])=some [X,.arr 0 2 true [[.nilS,.nilS]]]:=aB2 (h:=[X,.arr 0 2 true [[.nilS,.nilS]]]) (i:=1) (b:=true) (z:=[.nilS,.nilS]) rfl rfl rfl rfl rfl
  refine aAF rfl rfl aLJ 1 (fun h=>aDa (hp.fz h 998)) ?_ (fun _=>rfl) H
  rw [aLF]
  simp only [Zaf,Zag,Zam,Zan,Zao,Zbc,Zbd,Zbe,Zbm,Zbo,Zbq,Zbr,Zbs,Zbt,Zbu,Zcj,Zct,Zcu,Zcw,Zcy,Zcz,Zda,Zdb,Zdc,Zdd,Zde,Q5,Q6,Q2,Q3,Z1,Zdp,Zeq,decide_false,List.getElem?_cons_zero,List.getElem?_cons_succ,Q0,Q1,if_true,Nat.reduceAdd,Nat.reduceSub,Int.reduceEq,eq_self,true_and,Q0,Q1,Q7,Q8,Q9,Q4,p1,p3,eq_self,if_true,← hX,lX,e,st,aA5,aA4,aA8,Z0,Prod.mk.injEq,true_and,exists_eq']
end
theorem Nest.toFrL {B:Nat} {h:aA0} {S:Nat→Prop} (hS:∀ i,S i→B≤i):∀ (xss:List (List Int)) (cs:List (List AV)),Nest eIs xss cs h S→∃ vs:List AV,cs=vs.map (fun v=>[v])∧FrL B xss vs h
 | [],cs,hn=>⟨[],Z4.1 hn.len,trivial⟩
 | x::xss,[],hn=>by have:=hn.len;simp at this
 | x::xss,c::cs,hn=>by
  obtain ⟨vs,e1,e2⟩:=Nest.toFrL hS xss cs ⟨by have:=hn.len;simpa using this,fun j hj=>by
   obtain ⟨rv,q,h1,h2,h3⟩:=hn.row (j+1) (by simp;exact hj)
   exact ⟨rv,q,by simpa using h1,by simpa using h2,h3⟩⟩
  obtain ⟨rv,q,h1,h2,h3⟩:=hn.row 0 (by simp)
  have hc:c=[rv]:=by simpa using h1
  exact ⟨rv::vs,by rw [hc,e1];rfl,⟨q,by simpa using h2,fun i e=>hS i (h3 i e)⟩,e2⟩
theorem FrL.out {B:Nat} {h:aA0} {xs:List (List Int)} {v:AV} {vs:List AV} (f:FrL B xs (v::vs) h):∃ x ys,xs=x::ys∧(cellsOf v=[v]∧aAo v=true)∧FrL B ys vs h:=by
 cases xs with
 | nil=>exact f.elim
 | cons x ys =>
  obtain ⟨⟨q,h1,_⟩,h2⟩:=f
  exact ⟨x,ys,rfl,h1.cell,h2⟩
open Classical in
noncomputable def aKh (b:List UInt8):PackD × Int :=
 if b.length < 8∨b.take 4≠aFH then (aD0,3) else
 if b.drop (b.length - 4)≠aEt (b.take (b.length - 4)) then (aD0,33) else
 match aDz ((b.take (b.length - 4)).drop 4) with
 | none=>(aD0,3)
 | some (t,l1) =>
  match aDz l1 with
  | none=>(aD0,3)
  | some (n,l2) =>
   match aBG 8 l2 with
   | none=>(aD0,3)
   | some (ls,rest) =>
    if rest≠[] then (aD0,3) else
    if aDu (mkP t n ls) then (mkP t n ls,0) else (aD0,34)
theorem aIX:∀ (k:Nat) (l:List UInt8) {ys:List Int} {rest:List UInt8},aBX k l=some (ys,rest)→ys.length=k∧rest.length+k≤l.length∧∀ x ∈ ys,aJ2 x
 | 0,l,ys,rest,h=>by cases h;exact ⟨rfl,Nat.le_refl _,fun x hx=>by simp at hx⟩
 | k+1,l,ys,rest,h=>by
  simp only [aBX] at h
  cases nn:aDz l with
  | none=>rw [nn] at h;cases h
  | some p =>
   obtain ⟨x,r⟩:=p
   rw [nn] at h
   simp only at h
   cases tk:aBX k r with
   | none=>rw [tk] at h;cases h
   | some p =>
    obtain ⟨zs,r2⟩:=p
    rw [tk] at h
    simp only [Z1,Z0,Prod.mk.injEq] at h
    obtain ⟨rfl,rfl⟩:=h
    obtain ⟨h1,h2,h3⟩:=aIX k r tk
    have hx:=aIm nn
    refine ⟨by simp [h1],by omega,fun y hy => ?_⟩
    rcases List.mem_cons.1 hy with rfl | hy
    ·exact ⟨by omega,by omega⟩
    ·exact h3 y hy
theorem aMC:∀ (k:Nat) (l:List UInt8) {yss:List (List Int)} {rest:List UInt8},aBG k l=some (yss,rest)→yss.length=k∧rest.length≤l.length∧∀ y ∈ yss,y.length≤l.length∧∀ x ∈ y,aJ2 x
 | 0,l,ys,rest,h=>by cases h;exact ⟨rfl,Nat.le_refl _,fun x hx=>by simp at hx⟩
 | k+1,l,yss,rest,h=>by
  simp only [aBG] at h
  cases ll:aH2 l with
  | none=>rw [ll] at h;cases h
  | some p =>
   obtain ⟨x,r⟩:=p
   rw [ll] at h
   simp only at h
   cases tk:aBG k r with
   | none=>rw [tk] at h;cases h
   | some p =>
    obtain ⟨zs,r2⟩:=p
    rw [tk] at h
    simp only [Z1,Z0,Prod.mk.injEq] at h
    obtain ⟨rfl,rfl⟩:=h
    obtain ⟨h1,h2,h3⟩:=aMC k r tk
    have hx:x.length≤l.length∧r.length≤l.length∧∀ y ∈ x,aJ2 y:=by
     unfold aH2 at ll
     cases nn:aDz l with
     | none=>rw [nn] at ll;cases ll
     | some p =>
      obtain ⟨n,r3⟩:=p
      rw [nn] at ll
      obtain ⟨q1,q2,q3⟩:=aIX n r3 ll
      have:=aIm nn
      exact ⟨by omega,by omega,q3⟩
    refine ⟨by simp [h1],by omega,fun y hy => ?_⟩
    rcases List.mem_cons.1 hy with rfl | hy
    ·exact ⟨hx.1,hx.2.2⟩
    ·have:=h3 y hy
     exact ⟨by omega,this.2⟩
theorem aQm {h:aA0} {i:Nat} {c0 c1 c2 c3 c4 c5 c6 c7 c8 c9:AV} (e:h[i]?=some (.arr 0 10 true [[c0,c1,c2,c3,c4,c5,c6,c7,c8,c9]])) (v:AV) (a b c d:AV) (hv:cellsOf v=[v]∧aAo v=true) (h4:[a,b,c,d].all aAo=true) :
  aAw h 1 (.ptr i 0 0 0) v=some (h.set i (.arr 0 10 true [[v,c1,c2,c3,c4,c5,c6,c7,c8,c9]]))∧aAw h 1 (.ptr i 0 0 1) v=some (h.set i (.arr 0 10 true [[c0,v,c2,c3,c4,c5,c6,c7,c8,c9]])) ∧
  aAw h 4 (.ptr i 0 0 2) (.agg [a,b,c,d])=some (h.set i (.arr 0 10 true [[c0,c1,a,b,c,d,c6,c7,c8,c9]]))∧aAw h 4 (.ptr i 0 0 6) (.agg [a,b,c,d])=some (h.set i (.arr 0 10 true [[c0,c1,c2,c3,c4,c5,a,b,c,d]])):=by
 refine ⟨?_,?_,?_,?_⟩
 ·rw [aHm h 1 i 0 0 0 _ 10 true _ _ e rfl (by rw [hv.1];rfl) (by simp) (by rw [hv.1];simp [hv.2]),hv.1];rfl
 ·rw [aHm h 1 i 0 0 1 _ 10 true _ _ e rfl (by rw [hv.1];rfl) (by simp) (by rw [hv.1];simp [hv.2]),hv.1];rfl
 ·rw [aHm h 4 i 0 0 2 (.agg [a,b,c,d]) 10 true _ _ e rfl rfl (by simp) h4];rfl
 ·rw [aHm h 4 i 0 0 6 (.agg [a,b,c,d]) 10 true _ _ e rfl rfl (by simp) h4];rfl
theorem aVN (h:aA0):aC4 h false 1 0 [.int .u8 0] []=some (.vsl true [],h):=rfl
theorem aVT (h:aA0) {l:List UInt8} {v:AV} (hl:LiB l v) (hn:l≠[]) (hm:l.length≤100000000):aEk h 1 1 (.vsl true []) v=some (.hsl h.length 0 0 l.length none,h++[.arr 0 1 false (eBs l)]):=by
 unfold aEk
 rw [hl.elems h]
 have hz:¬ (eBs l).length=0:=by rw [aBs];intro e;exact hn (Z4.1 e)
 simp only [Option.elim_some,aDH]
 rw [if_neg hz]
 have hc:(eBs l).length*(1+1)≤68719476736∧(eBs l).all (fun c=>c.length==1 && c.all aAo)=true:=⟨by rw [aBs];omega,aQh _⟩
 simp only [aDM,aBU,Q4]
 rw [if_pos hc,aBs]
theorem aUS {b:List UInt8} {v:AV} (hb:LiB b v) (hn:b.length≤4050):∃ cs,aBE (aKh b).1 cs∧∀ H,lim G0.cfg (.func 9) [v] H=some (.tup [.agg cs,.int .i64 (aKh b).2],H):=by
 have fz:=fun h=>aDa (hb.fz h 999)
 have nl:=hb.len
 have bs:=hb.str
 have c0:¬ ((1048576:Int) < b.length):=by omega
 obtain ⟨Z,hZ⟩:∃ Z,Z=AObj.arr 0 10 true [aAx]:=⟨_,rfl⟩
 have zz:[AV.int .i64 0,.int .i64 0,.nilS,.nilS,.nilS,.nilS,.nilS,.nilS,.nilS,.nilS]=aAx:=rfl
 have zl:aAx.length=10:=rfl
 have fl:aC1 aAx []=some (.agg aAx):=rfl
 have sZ:∀ l:aA0,l[0]?=some Z→aAw l 10 (.ptr 0 0 0 0) (.agg aAx)=some l∧aAd l 10 true (.ptr 0 0 0 0)=some (.agg aAx):=fun l e=>by
  have e2:=e
  rw [hZ] at e2
  have:=aB2 (l:=aAx) e2 rfl rfl rfl rfl
  rw [← hZ,aBi e] at this
  exact ⟨this,aAY e2 rfl⟩
 unfold aKh
 by_cases c1:b.length < 8
 case pos =>
  rw [if_pos (.inl c1)]
  have d1:(b.length:Int) < 8:=by omega
  obtain ⟨s1,s2⟩:=sZ [Z] rfl
  refine ⟨aAx,aBy,fun H=>aAF rfl rfl aDD 1 fz ?_ (fun _=>rfl) H⟩
  rw [aDC]
  simp only [Zae,Zaf,Zag,Zah,Zam,Zan,Zao,Zaq,Zav,Zaw,Zbc,Zbe,Zbh,Zbk,Zbm,Zbn,Zbo,Zbp,Zbq,Zbt,Zbu,Zck,Zcq,Zcy,Zcz,Zda,Zdb,Zdc,Q5,Q6,Q2,Q3,Z1,Zdl,Zdn,decide_true,decide_false,Q0,Q1,Nat.reduceAdd,Nat.reduceSub,eq_self,true_and,Q0,Q1,Q7,Q8,Q9,Q4,zz,zl,← hZ,nl,c0,d1,evp,fl,s1,s2,aA5,aA4,aA8,Z0,Prod.mk.injEq,true_and,exists_eq']
 case neg =>
 have d1:¬ (b.length:Int) < 8:=by omega
 obtain ⟨v4,x4,lv4⟩:=hb.upto [Z] .i64 4 (by omega)
 have x4:aBt [Z] 1 v none (some (.int .i64 4)) none=some v4:=x4
 have bs4:=lv4.str
 have dm:decide (b.take 4=[65,82,66,49])=decide (b.take 4=aFH):=rfl
 by_cases c2:b.take 4=aFH
 case neg =>
  rw [if_pos (.inr c2)]
  have d2:decide (b.take 4=[65,82,66,49])=false:=decide_eq_false c2
  obtain ⟨s1,s2⟩:=sZ [Z] rfl
  refine ⟨aAx,aBy,fun H=>aAF rfl rfl aDD 1 fz ?_ (fun _=>rfl) H⟩
  rw [aDC]
  simp only [Zab,Zae,Zaf,Zag,Zah,Zam,Zan,Zao,Zaq,Zav,Zaw,Zbc,Zbe,Zbg,Zbl,Zbm,Zbn,Zbo,Zbp,Zbq,Zbt,Zbu,Zca,Zck,Zcq,Zcy,Zcz,Zda,Zdb,Zdc,Q5,Q6,Q2,Q3,Z1,Zdl,Zdn,Zds,decide_false,Z5,Q0,Q1,Nat.reduceAdd,Nat.reduceSub,eq_self,true_and,Q0,Q1,Q7,Q8,Q9,Q4,zz,zl,← hZ,nl,c0,d1,evp,Z2,x4,bs4,d2,fl,s1,s2,aA5,aA4,aA8,Z0,Prod.mk.injEq,true_and,exists_eq']
 case pos =>
 rw [if_neg (fun h=>h.elim c1 (fun k=>k c2))]
 have d2:decide (b.take 4=[65,82,66,49])=true:=decide_eq_true c2
 have w4:IntKind.i64.wrap ((b.length:Int) - 4)=((b.length - 4:Nat):Int):=by rw [w64 (by omega) (by omega)];omega
 obtain ⟨v1,x1,lv1⟩:=hb.upto [Z] .i64 (b.length - 4) (by omega)
 obtain ⟨body,hbody⟩:∃ body,body=b.take (b.length - 4):=⟨_,rfl⟩
 have lbody:body.length=b.length - 4:=by rw [hbody,List.length_take];omega
 have hbb:b=body++b.drop (b.length - 4):=by rw [hbody,List.take_append_drop]
 rw [← hbody] at lv1 ⊢
 have t0:=aVN [Z]
 have ap:=aVT [Z] lv1 (by intro e;rw [e] at lbody;simp at lbody;omega) (by omega)
 obtain ⟨h1,hh1⟩:∃ h1,h1=[Z]++[AObj.arr 0 1 false (eBs body)]:=⟨_,rfl⟩
 have l1:([Z]:aA0).length=1:=rfl
 rw [← hh1,l1] at ap
 have o1:aCy body (.hsl 1 0 0 body.length none) h1 1:=⟨by intro e;rw [e] at lbody;simp at lbody;omega,0,false,rfl,by rw [hh1];rfl⟩
 have e01:h1[0]?=some Z:=by rw [hh1];rfl
 have n1:h1.length=2:=by rw [hh1];rfl
 obtain ⟨v2,h2,e2,o2,f2,g2⟩:=aSJ o1 (by omega)
 have bs2:=o2.str
 have e02:=f2 0 _ (by decide) e01
 have n2:h2.length=2:=by omega
 by_cases c3:b.drop (b.length - 4)=aEt body
 case neg =>
  rw [if_pos c3]
  have d3:decide (body++aEt body=b)=false:=decide_eq_false (fun e=>c3 (by
   have k:body++b.drop (b.length - 4)=body++aEt body:=by rw [← hbb,e]
   exact List.append_cancel_left k))
  obtain ⟨s1,s2⟩:=sZ h2 e02
  refine ⟨aAx,aBy,fun H=>aAF rfl rfl aDD 1 fz ?_ (fun _=>rfl) H⟩
  rw [aDC]
  simp only [Zab,Zae,Zaf,Zag,Zah,Zam,Zan,Zao,Zaq,Zav,Zaw,Zbc,Zbd,Zbe,Zbg,Zbl,Zbm,Zbn,Zbo,Zbp,Zbq,Zbt,Zbu,Zca,Zck,Zcm,Zcq,Zcr,Zct,Zcu,Zcy,Zcz,Zda,Zdb,Zdc,Zdd,Zde,Q5,Q6,Q2,Q3,Z1,Zdj,Zdl,Zdn,Zds,decide_false,Z3,Z5,Q0,Q1,Nat.reduceAdd,Nat.reduceSub,eq_self,true_and,Q0,Q1,Q7,Q8,Q9,Q4,aDp,aCL,aCK,aCJ,aCI,aCH,aCG,aCF,aCE,aCD,aCC,aCs,aCr,aCq,aCp,aCo,aCn,aCm,aCl,aCk,aCj,aCi,aCh,aCg,aCf,aCe,aCd,aHt,aHq,aHr,aGa,aEI,zz,zl,← hZ,nl,c0,d1,evp,ev2,Z2,x4,bs4,d2,w4,x1,t0,ap,e2,bs2,bs,d3,fl,s1,s2,aA5,aA4,aA8,Z0,Prod.mk.injEq,true_and,exists_eq']
 case pos =>
 rw [if_neg (fun h=>h c3)]
 have d3:decide (body++aEt body=b)=true:=decide_eq_true (by rw [← c3];exact hbb.symm)
 -- the reader
 obtain ⟨v3,x3,lv3⟩:=hb.mid h2 .i64 .i64 4 (b.length - 4) (by omega) (by omega)
 have x3:aBt h2 1 v (some (.int .i64 4)) (some (.int .i64 ((b.length - 4:Nat):Int))) none=some v3:=x3
 rw [← hbody] at lv3
 obtain ⟨L,hL⟩:∃ L,L=body.drop 4:=⟨_,rfl⟩
 rw [← hL] at lv3 ⊢
 have nL:L.length≤4046:=by rw [hL,List.length_drop];omega
 have fb:aC1 [.nilS,.int .i64 0,.bool false] [(0,1,v3)]=some (.agg [v3,.int .i64 0,.bool false]):=by simp [aC1,aAJ,aAy,lv3.cell.1]
 obtain ⟨h3,hh3⟩:∃ h3,h3=h2++[rfO v3 0 false]:=⟨_,rfl⟩
 have bh:h2++[AObj.arr 0 3 true [[v3,.int .i64 0,.bool false]]]=h3:=hh3.symm
 have n3:h3.length=3:=by rw [hh3,List.length_append,n2];rfl
 have up3:∀ (i:Nat) (o:AObj),h2[i]?=some o→h3[i]?=some o:=fun i o e=>by rw [hh3];exact aAP e _
 obtain ⟨h4,hh4⟩:∃ h4,h4=h3++[Z]:=⟨_,rfl⟩
 have n4:h4.length=4:=by rw [hh4,List.length_append,n3];rfl
 have up4:∀ (i:Nat) (o:AObj),h3[i]?=some o→h4[i]?=some o:=fun i o e=>by rw [hh4];exact aAP e _
 have er4:h4[2]?=some (rfO v3 0 false):=up4 2 _ (by rw [hh3,← n2];exact aBO _ _)
 have eP4:h4[3]?=some (.arr 0 10 true [[.int .i64 0,.int .i64 0,.nilS,.nilS,.nilS,.nilS,.nilS,.nilS,.nilS,.nilS]]):=by rw [hh4,← n3,zz,← hZ];exact aBO _ _
 have e04:=up4 0 _ (up3 0 _ e02)
 have bZ:h3++[Z]=h4:=hh4.symm
 -- both numbers, whatever they are
 have step1:∀ (x:Int) (a1:Nat) (b1:Bool),lim G0.cfg (.func 25) [.ptr 2 0 0 0] h4=some (.int .i64 x,h4.set 2 (rfO v3 a1 b1)) →
   ∃ h5 h6:aA0,lim G0.cfg (.func 25) [.ptr 2 0 0 0] h4=some (.int .i64 x,h5)∧aAw h5 1 (.ptr 3 0 0 0) (.int .i64 x)=some h6∧h6[0]?=some Z∧h6[2]?=some (rfO v3 a1 b1)∧h6[3]?=some (.arr 0 10 true [[.int .i64 x,.int .i64 0,.nilS,.nilS,.nilS,.nilS,.nilS,.nilS,.nilS,.nilS]])∧h6.length=4:=by
  intro x a1 b1 q1
  have er5:(h4.set 2 (rfO v3 a1 b1))[2]?=some (rfO v3 a1 b1):=aAh er4
  have eP5:=aAk (i:=2) (y:=rfO v3 a1 b1) eP4 (by decide)
  have e05:=aAk (i:=2) (y:=rfO v3 a1 b1) e04 (by decide)
  have s1:=(aQm eP5 (.int .i64 x) .nilS .nilS .nilS .nilS ⟨rfl,rfl⟩ rfl).1
  exact ⟨_,_,q1,s1,aAk e05 (by decide),aAk er5 (by decide),aAh eP5,by simp [n4]⟩
 have step2:∀ (h6:aA0) (x y:Int) (a1 a2:Nat) (b1 b2:Bool),h6[0]?=some Z→h6[2]?=some (rfO v3 a1 b1)→h6[3]?=some (.arr 0 10 true [[.int .i64 x,.int .i64 0,.nilS,.nilS,.nilS,.nilS,.nilS,.nilS,.nilS,.nilS]])→h6.length=4 →
   lim G0.cfg (.func 25) [.ptr 2 0 0 0] h6=some (.int .i64 y,h6.set 2 (rfO v3 a2 b2)) →
   ∃ h6' h7:aA0,lim G0.cfg (.func 25) [.ptr 2 0 0 0] h6=some (.int .i64 y,h6')∧aAw h6' 1 (.ptr 3 0 0 1) (.int .i64 y)=some h7∧h7[0]?=some Z∧h7[2]?=some (rfO v3 a2 b2)∧h7[3]?=some (.arr 0 10 true [[.int .i64 x,.int .i64 y,.nilS,.nilS,.nilS,.nilS,.nilS,.nilS,.nilS,.nilS]])∧h7.length=4:=by
  intro h6 x y a1 a2 b1 b2 e06 er6 eP6 n6 q2
  have eP7:=aAk (i:=2) (y:=rfO v3 a2 b2) eP6 (by decide)
  have s2:=(aQm eP7 (.int .i64 y) .nilS .nilS .nilS .nilS ⟨rfl,rfl⟩ rfl).2.1
  exact ⟨_,_,q2,s2,aAk (aAk e06 (by decide)) (by decide),aAk (aAh er6) (by decide),aAh eP7,by simp [n6]⟩
 -- no list is read where a number was malformed
 have stop:∀ (h7:aA0) (a2:Nat),h7[2]?=some (rfO v3 a2 true)→aAp (aA7 (lim G0.cfg) 20000 aC5) 20000 ⟨(J::J::.ptr 0 0 0 0::J::.ptr 2 0 0 0::.ptr 3 0 0 0::.nilS::.int .i64 0::J::J::J::J::J::J::J::J::J::J::J::J::J::J::J::J::J::J::J::J::J::J::J::J::J::J::J::J::J::J::J::J::J::J::J::J::J::J::J::J::J::J::J::J::J::J::J::J::J::J::J::J::J::J::J::J::J::J::J::J::J::J::J::J::J::J::J::J::J::J::J::J::J::J::J::J::J::J::J::J::J::J::J::J::J::J::J::J::J::J::J::J::J::J::J::J::J::J::J::J::J::J::J::J::J::J::J::J::J::J::J::J::J::J::J::J::J::J::J::J::J::J::J::J::J::J::J::[]),h7⟩=some (.exit 0,⟨(J::J::.ptr 0 0 0 0::J::.ptr 2 0 0 0::.ptr 3 0 0 0::.nilS::J::J::J::J::J::J::J::J::J::J::J::J::J::J::J::J::J::J::J::J::J::J::J::J::J::J::J::J::J::J::J::J::J::J::J::J::J::J::J::J::J::J::J::J::J::J::J::J::J::J::J::J::J::J::J::J::J::J::J::J::J::J::J::J::J::J::J::J::J::J::J::J::J::J::J::J::J::J::J::J::J::J::J::J::J::J::J::J::J::J::J::J::J::J::J::J::J::J::J::J::J::J::J::J::J::J::J::J::J::J::J::J::J::J::J::J::J::J::J::J::J::J::J::J::J::J::J::J::[]),h7⟩):=by
  intro h7 a2 er7
  have kd:=aFG er7
  have z8:(0:Int) < 8:=by decide
  simp only [aAc,aEJ,Zaf,Zag,Zah,Zak,Zal,Zan,Zao,Zap,Zaw,Zaz,Zbc,Zbf,Zbk,Zbm,Zbn,Zbo,Zbp,Zbs,Zbu,Zbv,Zcc,Zcd,Zcz,Zda,Zdb,Zdf,Zdg,Zdh,Q5,Q6,Q2,Q3,Zdl,Zdv,Zeb,decide_true,Z3,Nat.reduceAdd,eq_self,z8,aBD,kd]
 obtain ⟨k1,k2⟩:=aKo (h:=h4) lv3 (by omega) (a:=0) (by omega) er4
 rw [List.drop_zero] at k1 k2
 cases nr:aDz L with
 | none =>
  obtain ⟨x,a1,l1',q1⟩:=k2 nr
  obtain ⟨h5,h6,q3,s3,e06,er6,eP6,n6⟩:=step1 x a1 true q1
  obtain ⟨y,a2,q2⟩:=aTV lv3 (by omega) l1' er6
  obtain ⟨h6',h7,q4,s4,e07,er7,eP7,n7⟩:=step2 h6 x y a1 a2 true true e06 er6 eP6 n6 q2
  have kd:=aFG er7
  have lp:=stop h7 a2 er7
  obtain ⟨s1,s2⟩:=sZ h7 e07
  refine ⟨aAx,aBy,fun H=>aAF rfl rfl aDD 20000 fz ?_ (fun _=>rfl) H⟩
  rw [aDC]
  simp only [Zab,Zae,Zaf,Zag,Zah,Zai,Zaj,Zak,Zam,Zan,Zao,Zaq,Zat,Zav,Zaw,Zax,Zbc,Zbd,Zbe,Zbg,Zbh,Zbk,Zbl,Zbm,Zbn,Zbo,Zbp,Zbq,Zbr,Zbs,Zbt,Zbu,Zca,Zcc,Zcd,Zck,Zcm,Zcq,Zcr,Zct,Zcu,Zcw,Zcy,Zcz,Zda,Zdb,Zdc,Zdd,Zde,Zdf,Zdg,Zdh,Q5,Q6,Q2,Q3,Z1,Zdj,Zdl,Zdn,Zds,Zeb,Zef,decide_false,Z3,Q0,Q1,if_true,Nat.reduceAdd,Nat.reduceSub,eq_self,true_and,Q0,Q1,Q7,Q8,Q9,Q4,aDp,aCL,aCK,aCJ,aCI,aCH,aCG,aCF,aCE,aCD,aCC,aCs,aCr,aCq,aCp,aCo,aCn,aCm,aCl,aCk,aCj,aCi,aCh,aCg,aCf,aCe,aCd,aHt,aHq,aHr,aGa,aEI,zz,zl,← hZ,nl,c0,d1,evp,ev2,Z2,x4,bs4,d2,w4,x1,t0,ap,e2,bs2,bs,d3,x3,fb,bh,n2,n3,bZ,aBD,q3,s3,q4,s4,lp,kd,fl,s1,s2,aA5,aA4,aA8,Z0,Prod.mk.injEq,true_and,exists_eq']
 | some p =>
 obtain ⟨t,L1⟩:=p
 simp only
 obtain ⟨a1,l1',hL1,q1⟩:=k1 t L1 nr
 obtain ⟨tn,htn⟩:∃ tn:Int,tn=(t:Nat):=⟨_,rfl⟩
 rw [← htn] at q1 ⊢
 obtain ⟨h5,h6,q3,s3,e06,er6,eP6,n6⟩:=step1 tn a1 false q1
 obtain ⟨k3,k4⟩:=aKo (h:=h6) lv3 (by omega) l1' er6
 rw [hL1] at k3 k4
 cases nr2:aDz L1 with
 | none =>
  obtain ⟨y,a2,_,q2⟩:=k4 nr2
  obtain ⟨h6',h7,q4,s4,e07,er7,eP7,n7⟩:=step2 h6 tn y a1 a2 false true e06 er6 eP6 n6 q2
  have kd:=aFG er7
  have lp:=stop h7 a2 er7
  obtain ⟨s1,s2⟩:=sZ h7 e07
  refine ⟨aAx,aBy,fun H=>aAF rfl rfl aDD 20000 fz ?_ (fun _=>rfl) H⟩
  rw [aDC]
  simp only [Zab,Zae,Zaf,Zag,Zah,Zai,Zaj,Zak,Zam,Zan,Zao,Zaq,Zat,Zav,Zaw,Zax,Zbc,Zbd,Zbe,Zbg,Zbh,Zbk,Zbl,Zbm,Zbn,Zbo,Zbp,Zbq,Zbr,Zbs,Zbt,Zbu,Zca,Zcc,Zcd,Zck,Zcm,Zcq,Zcr,Zct,Zcu,Zcw,Zcy,Zcz,Zda,Zdb,Zdc,Zdd,Zde,Zdf,Zdg,Zdh,Q5,Q6,Q2,Q3,Z1,Zdj,Zdl,Zdn,Zds,Zeb,Zef,decide_false,Z3,Q0,Q1,if_true,Nat.reduceAdd,Nat.reduceSub,eq_self,true_and,Q0,Q1,Q7,Q8,Q9,Q4,aDp,aCL,aCK,aCJ,aCI,aCH,aCG,aCF,aCE,aCD,aCC,aCs,aCr,aCq,aCp,aCo,aCn,aCm,aCl,aCk,aCj,aCi,aCh,aCg,aCf,aCe,aCd,aHt,aHq,aHr,aGa,aEI,zz,zl,← hZ,nl,c0,d1,evp,ev2,Z2,x4,bs4,d2,w4,x1,t0,ap,e2,bs2,bs,d3,x3,fb,bh,n2,n3,bZ,aBD,q3,s3,q4,s4,lp,kd,fl,s1,s2,aA5,aA4,aA8,Z0,Prod.mk.injEq,true_and,exists_eq']
 | some p =>
 obtain ⟨n,L2⟩:=p
 simp only
 obtain ⟨a2,l2',hL2,q2⟩:=k3 n L2 nr2
 obtain ⟨nn,hnn⟩:∃ nn:Int,nn=(n:Nat):=⟨_,rfl⟩
 rw [← hnn] at q2 ⊢
 obtain ⟨h6',h7,q4,s4,e07,er7,eP7,n7⟩:=step2 h6 tn nn a1 a2 false false e06 er6 eP6 n6 q2
 obtain ⟨j1,j2⟩:=aVD (N:=20000) (B:=4) (r:=2) lv3 (by omega) (by decide) (by decide) (.ptr 0 0 0 0) (.ptr 3 0 0 0) 8 0 20000 a2 .nilS [] [] none (fun _=>False) h7 (by omega) (by omega) l2' er7 (aAi.nil 1 _) (Nest.nil _ _ _) rfl (fun _ e=>e.elim) (fun _ e=>by cases e) (by omega)
 rw [z0,hL2] at j1 j2
 have nL1:=aIm nr
 have nL2:=aIm nr2
 cases lr:aBG 8 L2 with
 | none =>
  obtain ⟨v',h',a',lp,er',fr⟩:=j2 lr
  have kd:=aFG er'
  obtain ⟨s1,s2⟩:=sZ h' (fr 0 _ (by decide) (by decide) e07)
  refine ⟨aAx,aBy,fun H=>aAF rfl rfl aDD 20000 fz ?_ (fun _=>rfl) H⟩
  rw [aDC]
  simp only [Zab,Zae,Zaf,Zag,Zah,Zai,Zaj,Zak,Zam,Zan,Zao,Zaq,Zat,Zav,Zaw,Zax,Zbc,Zbd,Zbe,Zbg,Zbh,Zbk,Zbl,Zbm,Zbn,Zbo,Zbp,Zbq,Zbr,Zbs,Zbt,Zbu,Zca,Zcc,Zcd,Zck,Zcm,Zcq,Zcr,Zct,Zcu,Zcw,Zcy,Zcz,Zda,Zdb,Zdc,Zdd,Zde,Zdf,Zdg,Zdh,Q5,Q6,Q2,Q3,Z1,Zdj,Zdl,Zdn,Zds,Zeb,Zef,decide_false,Z3,Q0,Q1,if_true,Nat.reduceAdd,Nat.reduceSub,eq_self,true_and,Q0,Q1,Q7,Q8,Q9,Q4,aDp,aCL,aCK,aCJ,aCI,aCH,aCG,aCF,aCE,aCD,aCC,aCs,aCr,aCq,aCp,aCo,aCn,aCm,aCl,aCk,aCj,aCi,aCh,aCg,aCf,aCe,aCd,aHt,aHq,aHr,aGa,aEI,zz,zl,← hZ,nl,c0,d1,evp,ev2,Z2,x4,bs4,d2,w4,x1,t0,ap,e2,bs2,bs,d3,x3,fb,bh,n2,n3,bZ,aBD,q3,s3,q4,s4,lp,kd,fl,s1,s2,aA5,aA4,aA8,Z0,Prod.mk.injEq,true_and,exists_eq']
 | some p =>
 obtain ⟨ls,rest⟩:=p
 simp only
 obtain ⟨v',cs',q',S',h',a',lp,la',hrest,er',ow,ns,hS,fr⟩:=j1 ls rest lr
 rw [Q4] at ns
 obtain ⟨rl1,rl2,rl3⟩:=aMC 8 L2 lr
 have kd:=aFG er'
 have ka:=aTn er'
 have kw:=aTo er'
 have nw:=lv3.len
 have e0':=fr 0 _ (by decide) (by decide) e07
 have eP':=fr 3 _ (by decide) (by decide) eP7
 by_cases c6:rest=[]
 case neg =>
  rw [if_pos c6]
  have d6:decide ((a':Int)=L.length)=false:=decide_eq_false (fun e=>c6 (by rw [← hrest];exact List.drop_of_length_le (by omega)))
  obtain ⟨s1,s2⟩:=sZ h' e0'
  refine ⟨aAx,aBy,fun H=>aAF rfl rfl aDD 20000 fz ?_ (fun _=>rfl) H⟩
  rw [aDC]
  simp only [Zab,Zae,Zaf,Zag,Zah,Zai,Zaj,Zak,Zam,Zan,Zao,Zaq,Zat,Zav,Zaw,Zax,Zbc,Zbd,Zbe,Zbg,Zbl,Zbm,Zbn,Zbo,Zbp,Zbq,Zbr,Zbs,Zbt,Zbu,Zca,Zcc,Zcd,Zck,Zcm,Zcq,Zcr,Zct,Zcu,Zcw,Zcy,Zcz,Zda,Zdb,Zdc,Zdd,Zde,Zdf,Zdg,Zdh,Q5,Q6,Q2,Q3,Z1,Zdj,Zdl,Zdn,Zdq,Zds,Zeb,Zef,decide_false,Z3,Z5,Q0,Q1,if_true,Nat.reduceAdd,Nat.reduceSub,eq_self,true_and,Q0,Q1,Q7,Q8,Q9,Q4,aDp,aCL,aCK,aCJ,aCI,aCH,aCG,aCF,aCE,aCD,aCC,aCs,aCr,aCq,aCp,aCo,aCn,aCm,aCl,aCk,aCj,aCi,aCh,aCg,aCf,aCe,aCd,aHt,aHq,aHr,aGa,aEI,zz,zl,← hZ,nl,c0,d1,evp,ev2,Z2,x4,bs4,d2,w4,x1,t0,ap,e2,bs2,bs,d3,x3,fb,bh,n2,n3,bZ,aBD,q3,s3,q4,s4,lp,kd,ka,kw,nw,d6,fl,s1,s2,aA5,aA4,aA8,Z0,Prod.mk.injEq,true_and,exists_eq']
 case pos =>
 rw [if_neg (fun h=>h c6)]
 have d6:decide ((a':Int)=L.length)=true:=decide_eq_true (by
  have:(L.drop a').length=0:=by rw [hrest,c6];rfl
  rw [List.length_drop] at this
  omega)
 -- the table
 obtain ⟨vs,ecs,fr4⟩:=Nest.toFrL (B:=4) hS ls cs' ns
 obtain ⟨ok,eqn⟩:=FrL.ok ls vs fr4
 have vl:vs.length=8:=by omega
 obtain ⟨i,ver,hv',hg,hi3⟩:∃ i ver,v'=.hsl i ver 0 8 none∧h'[i]?=some (.arr ver 1 false cs')∧i≠3:=by
  rcases ow with ⟨e,_⟩ | ⟨_,i,ver,_,e1,e2⟩
  ·rw [ecs] at e
   have:=congrArg List.length e
   simp [vl] at this
  ·refine ⟨i,ver,?_,e2,fun e => ?_⟩
   ·rw [e1,ecs,List.length_map,vl]
   ·rw [e,eP'] at e2
    cases e2
 subst hv'
 have fr4':=fr4
 obtain ⟨r0,w0,y0,vl0⟩:=aBo vl
 subst y0
 obtain ⟨r1,w1,y1,vl1⟩:=aBo vl0
 subst y1
 obtain ⟨r2,w2,y2,vl2⟩:=aBo vl1
 subst y2
 obtain ⟨r3,w3,y3,vl3⟩:=aBo vl2
 subst y3
 obtain ⟨r4,w4',y4,vl4⟩:=aBo vl3
 subst y4
 obtain ⟨r5,w5,y5,vl5⟩:=aBo vl4
 subst y5
 obtain ⟨r6,w6,y6,vl6⟩:=aBo vl5
 subst y6
 obtain ⟨r7,w7,y7,vl7⟩:=aBo vl6
 subst y7
 have y8:w7=[]:=Z4.1 vl7
 subst y8
 obtain ⟨_,_,_,z0',g0⟩:=fr4'.out
 obtain ⟨_,_,_,z1',g1⟩:=g0.out
 obtain ⟨_,_,_,z2',g2'⟩:=g1.out
 obtain ⟨_,_,_,z3',g3⟩:=g2'.out
 obtain ⟨_,_,_,z4',g4⟩:=g3.out
 obtain ⟨_,_,_,z5',g5⟩:=g4.out
 obtain ⟨_,_,_,z6',g6⟩:=g5.out
 obtain ⟨_,_,_,z7',g7⟩:=g6.out
 rw [ecs] at hg
 have ix:∀ (h:aA0),h[i]?=some (.arr ver 1 false (List.map (fun v=>[v]) [r0,r1,r2,r3,r4,r5,r6,r7]))→aAG h 1 (.hsl i ver 0 8 none) (.int .i64 0)=some (.ptr i ver 0 0)∧aAG h 1 (.hsl i ver 0 8 none) (.int .i64 1)=some (.ptr i ver 1 0)∧aAG h 1 (.hsl i ver 0 8 none) (.int .i64 2)=some (.ptr i ver 2 0)∧aAG h 1 (.hsl i ver 0 8 none) (.int .i64 3)=some (.ptr i ver 3 0) ∧
   aAG h 1 (.hsl i ver 0 8 none) (.int .i64 4)=some (.ptr i ver 4 0)∧aAG h 1 (.hsl i ver 0 8 none) (.int .i64 5)=some (.ptr i ver 5 0)∧aAG h 1 (.hsl i ver 0 8 none) (.int .i64 6)=some (.ptr i ver 6 0)∧aAG h 1 (.hsl i ver 0 8 none) (.int .i64 7)=some (.ptr i ver 7 0) ∧
   aAd h 1 false (.ptr i ver 0 0)=some r0∧aAd h 1 false (.ptr i ver 1 0)=some r1∧aAd h 1 false (.ptr i ver 2 0)=some r2∧aAd h 1 false (.ptr i ver 3 0)=some r3∧aAd h 1 false (.ptr i ver 4 0)=some r4∧aAd h 1 false (.ptr i ver 5 0)=some r5∧aAd h 1 false (.ptr i ver 6 0)=some r6∧aAd h 1 false (.ptr i ver 7 0)=some r7:=by
  intro h e
  refine ⟨aBq e (j:=0) (by omega),aBq e (j:=1) (by omega),aBq e (j:=2) (by omega),aBq e (j:=3) (by omega),aBq e (j:=4) (by omega),aBq e (j:=5) (by omega),aBq e (j:=6) (by omega),aBq e (j:=7) (by omega),?_,?_,?_,?_,?_,?_,?_,?_⟩ <;> rw [aAS _ 1 i ver _ 0 false 1 false _ _ e rfl] <;> rfl
 obtain ⟨i0,i1,i2,i3,_,_,_,_,m0,m1,m2,m3,_⟩:=ix h' hg
 have ck:∀ a b c d:AV,aAo a=true→aAo b=true→aAo c=true→aAo d=true→[a,b,c,d].all aAo=true:=fun a b c d ha hb hc hd=>by simp only [List.all_cons,List.all_nil,ha,hb,hc,hd,Bool.and_self]
 have fa:∀ a b c d:AV,cellsOf a=[a]→cellsOf b=[b]→cellsOf c=[c]→cellsOf d=[d]→aC1 [.nilS,.nilS,.nilS,.nilS] [(0,1,a),(1,1,b),(2,1,c),(3,1,d)]=some (.agg [a,b,c,d]):=fun a b c d ha hb hc hd=>by simp [aC1,aAJ,aAy,ha,hb,hc,hd]
 have fa1:=fa r0 r1 r2 r3 z0'.1 z1'.1 z2'.1 z3'.1
 have fa2:=fa r4 r5 r6 r7 z4'.1 z5'.1 z6'.1 z7'.1
 have s5:=(aQm eP' .nilS r0 r1 r2 r3 ⟨rfl,rfl⟩ (ck _ _ _ _ z0'.2 z1'.2 z2'.2 z3'.2)).2.2.1
 obtain ⟨h8,hh8⟩:∃ h8,h8=h'.set 3 (.arr 0 10 true [[.int .i64 tn,.int .i64 nn,r0,r1,r2,r3,.nilS,.nilS,.nilS,.nilS]]):=⟨_,rfl⟩
 rw [← hh8] at s5
 have eP8:h8[3]?=some (.arr 0 10 true [[.int .i64 tn,.int .i64 nn,r0,r1,r2,r3,.nilS,.nilS,.nilS,.nilS]]):=by rw [hh8];exact aAh eP'
 obtain ⟨_,_,_,_,i4,i5,i6,i7,_,_,_,_,m4,m5,m6,m7⟩:=ix h8 (by rw [hh8];exact aAk hg (Ne.symm hi3))
 have s6:=(aQm eP8 .nilS r4 r5 r6 r7 ⟨rfl,rfl⟩ (ck _ _ _ _ z4'.2 z5'.2 z6'.2 z7'.2)).2.2.2
 obtain ⟨p0,hp0⟩:∃ p0:List AV,p0=[.int .i64 tn,.int .i64 nn]:=⟨_,rfl⟩
 obtain ⟨vv,hvv⟩:∃ vv:List AV,vv=[r0,r1,r2,r3,r4,r5,r6,r7]:=⟨_,rfl⟩
 have epv:[AV.int .i64 tn,.int .i64 nn,r0,r1,r2,r3,r4,r5,r6,r7]=p0++vv:=by rw [hp0,hvv];rfl
 rw [epv] at s6
 rw [← hvv] at fr4 ok
 have hlen:(p0++vv).length=10:=by rw [List.length_append,hp0,hvv];rfl
 obtain ⟨h9,hh9⟩:∃ h9,h9=h8.set 3 (.arr 0 10 true [p0++vv]):=⟨_,rfl⟩
 rw [← hh9] at s6
 have lP:aAd h9 10 true (.ptr 3 0 0 0)=some (.agg (p0++vv)):=aAY (by rw [hh9];exact aAh eP8) hlen
 have e09:h9[0]?=some Z:=by rw [hh9,hh8];exact aAk (aAk e0' (by decide)) (by decide)
 have fr9:FrL 4 ls vv h9:=FrL.frame (fun j o hj e=>by rw [hh9,hh8];exact aAk (aAk e (by omega)) (by omega)) _ _ fr4
 have vvl:vv.length=8:=by rw [hvv];rfl
 obtain ⟨l,el,ll⟩:=FrL.fz (h:=h9) 997 ls vv fr9
 have pv:=aOh tn nn ls (l.map (·.1)) ll (by rw [List.length_map,aJp el];exact vvl)
 obtain ⟨b1,b2,b3,b4⟩:=aRE (t:=tn) (n:=nn) (M:=4047) (by omega) (fun x hx=>⟨by have:=(rl3 x hx).1;omega,(rl3 x hx).2⟩)
 obtain ⟨kr1,kr2⟩:=aU0 pv b1 b2 (by omega)
 have fzz:aAq (freeze h9 1000) [.agg (p0++vv)]=some [(.agg ([.int .i64 tn,.int .i64 nn]++l.map (·.1)),true && (true && l.all (·.2)))]:=by
  refine aDJ ?_
  have e:freeze h9 1000 (.agg (p0++vv))=(aAq (freeze h9 999) (p0++vv)).map fun l=>(.agg (l.map (·.1)),l.all (·.2)):=rfl
  rw [e,hp0]
  have i1:∀ n:Int,freeze h9 999 (.int .i64 n)=some (.int .i64 n,true):=fun _=>rfl
  simp only [Q9,Q4,aAq,i1,el]
  simp
 have fA:∀ y:Bool,(∀ H,lim G0.cfg (.func 16) [.agg ([.int .i64 tn,.int .i64 nn]++l.map (·.1))] H=some (.bool y,H))→lim G0.cfg (.func 16) [.agg (p0++vv)] h9=some (.bool y,h9):=fun y e =>
  aJs rfl fzz (aDJ (pv.fz [] 998)) (e []) rfl
 have ec0:∀ a b:AV,a=b→(a=b):=fun _ _ e=>e
 by_cases c7:aDu (mkP tn nn ls)
 case neg =>
  rw [if_neg c7]
  have ef:=fA false (kr2 c7)
  obtain ⟨s1,s2⟩:=sZ h9 e09
  refine ⟨aAx,aBy,fun H=>aAF rfl rfl aDD 20000 fz ?_ (fun _=>rfl) H⟩
  rw [aDC]
  simp only [Zab,Zae,Zaf,Zag,Zah,Zai,Zaj,Zak,Zam,Zan,Zao,Zaq,Zat,Zav,Zaw,Zax,Zbc,Zbd,Zbe,Zbg,Zbl,Zbm,Zbn,Zbo,Zbp,Zbq,Zbr,Zbs,Zbt,Zbu,Zbv,Zca,Zcc,Zcd,Zcf,Zck,Zcm,Zcq,Zcr,Zct,Zcu,Zcw,Zcy,Zcz,Zda,Zdb,Zdc,Zdd,Zde,Zdf,Zdg,Zdh,Q5,Q6,Q2,Q3,Z1,Zdj,Zdl,Zdn,Zdq,Zds,Zdv,Zeb,Zef,decide_false,Z3,Z5,Q0,Q1,if_true,Nat.reduceAdd,Nat.reduceSub,eq_self,true_and,Q0,Q1,Q7,Q8,Q9,Q4,aDp,aCL,aCK,aCJ,aCI,aCH,aCG,aCF,aCE,aCD,aCC,aCs,aCr,aCq,aCp,aCo,aCn,aCm,aCl,aCk,aCj,aCi,aCh,aCg,aCf,aCe,aCd,aHt,aHq,aHr,aGa,aEI,zz,zl,← hZ,nl,c0,d1,evp,ev2,Z2,x4,bs4,d2,w4,x1,t0,ap,e2,bs2,bs,d3,x3,fb,bh,n2,n3,bZ,aBD,q3,s3,q4,s4,lp,kd,ka,kw,nw,d6,i0,m0,i1,m1,i2,m2,i3,m3,fa1,s5,i4,m4,i5,m5,i6,m6,i7,m7,fa2,s6,lP,ef,fl,s1,s2,aA5,aA4,aA8,Z0,Prod.mk.injEq,true_and,exists_eq']
 case pos =>
  rw [if_pos c7]
  have ef:=fA true (kr1 c7)
  have ckA:(p0++vv).all aAo=true:=by rw [List.all_append,ok,hp0];rfl
  have s1:aAw h9 10 (.ptr 0 0 0 0) (.agg (p0++vv))=some (h9.set 0 (.arr 0 10 true [p0++vv])):=aB2 (by rw [e09,hZ]) rfl hlen rfl ckA
  obtain ⟨h'',hh''⟩:∃ h'',h''=h9.set 0 (AObj.arr 0 10 true [p0++vv]):=⟨_,rfl⟩
  rw [← hh''] at s1
  have s2:aAd h'' 10 true (.ptr 0 0 0 0)=some (.agg (p0++vv)):=aAY (by rw [hh''];exact aAh e09) hlen
  have fr':FrL 4 ls vv h'':=FrL.frame (fun j o hj e=>by rw [hh''];exact aAk e (by omega)) _ _ fr9
  obtain ⟨l2,el2,ll2⟩:=FrL.fz (h:=h'') 996 ls vv fr'
  have pv2:=aOh tn nn ls (l2.map (·.1)) ll2 (by rw [List.length_map,aJp el2];exact vvl)
  refine ⟨[.int .i64 tn,.int .i64 nn]++l2.map (·.1),pv2,fun H => ?_⟩
  have e998:freeze h'' 999 (.agg (p0++vv))=some (.agg ([.int .i64 tn,.int .i64 nn]++l2.map (·.1)),true && (true && l2.all (·.2))):=by
   have e:freeze h'' 999 (.agg (p0++vv))=(aAq (freeze h'' 998) (p0++vv)).map fun l=>(.agg (l.map (·.1)),l.all (·.2)):=rfl
   rw [e,hp0]
   have i1:∀ n:Int,freeze h'' 998 (.int .i64 n)=some (.int .i64 n,true):=fun _=>rfl
   simp only [Q9,Q4,aAq,i1,el2]
   simp
  refine aEg rfl rfl aDD 20000 fz (h':=h'') (x:=.tup [.agg (p0++vv),.int .i64 0]) ?_ (aV5 (k:=999) e998 (rfl:freeze h'' 999 (.int .i64 0)=some (.int .i64 0,true))) H
  rw [aDC]
  simp only [Zab,Zae,Zaf,Zag,Zah,Zai,Zaj,Zak,Zam,Zan,Zao,Zat,Zaw,Zax,Zbc,Zbd,Zbe,Zbg,Zbl,Zbm,Zbn,Zbo,Zbp,Zbq,Zbr,Zbs,Zbt,Zbu,Zbv,Zca,Zcc,Zcd,Zcf,Zck,Zcm,Zcq,Zcr,Zct,Zcu,Zcw,Zcy,Zcz,Zda,Zdb,Zdc,Zdd,Zde,Zdf,Zdg,Zdh,Q5,Q6,Q2,Q3,Z1,Zdj,Zdl,Zdn,Zdq,Zds,Zdv,Zeb,Zef,decide_false,Z3,Q0,Q1,if_true,Nat.reduceAdd,Nat.reduceSub,eq_self,Q0,Q1,Q7,Q8,Q9,Q4,aDp,aCL,aCK,aCJ,aCI,aCH,aCG,aCF,aCE,aCD,aCC,aCs,aCr,aCq,aCp,aCo,aCn,aCm,aCl,aCk,aCj,aCi,aCh,aCg,aCf,aCe,aCd,aHt,aHq,aHr,aGa,aEI,zz,zl,← hZ,nl,c0,d1,evp,ev2,Z2,x4,bs4,d2,w4,x1,t0,ap,e2,bs2,bs,d3,x3,fb,bh,n2,n3,bZ,aBD,q3,s3,q4,s4,lp,kd,ka,kw,nw,d6,i0,m0,i1,m1,i2,m2,i3,m3,fa1,s5,i4,m4,i5,m5,i6,m6,i7,m7,fa2,s6,lP,ef,s1,s2,aA5,aA4,aA8]
end Go.Proofs.Ytgeedikghjcebaa.Ai
namespace Go.Proofs.Ytgeedikghjcebaa.Ai
open Go Go.Proofs
set_option linter.unusedVariables false
set_option linter.unusedSimpArgs false
set_option maxRecDepth 10000
set_option maxHeartbeats 4000000
theorem aSR (l:List UInt8):(aAH (l,true)).2.2=true:=by
 unfold aAH
 split <;> simp
theorem aKu (s:List UInt8 × Bool) (h:s.2=true):(aAH s).2.2=true:=by
 obtain ⟨l,b⟩:=s
 simp only at h
 subst h
 exact aSR l
theorem aIY:∀ (k:Nat) (s:List UInt8 × Bool),s.2=true→(aDf k s).2.2=true
 | 0,s,h=>h
 | k+1,s,h=>aIY k _ (aKu s h)
theorem aRI (s:List UInt8 × Bool) (h:s.2=true):(aE5 s).2.2=true:=aIY _ _ (aKu s h)
theorem aI5:∀ (k:Nat) (s:List UInt8 × Bool),s.2=true→(aBT k s).2.2=true
 | 0,s,h=>h
 | k+1,s,h=>aI5 k _ (aRI s h)
theorem aMx (l:List UInt8):(∀ x r,aDz l=some (x,r)→aAH (l,false)=(x,(r,false)))∧(aDz l=none→(aAH (l,false)).2.2=true):=by
 unfold aDz aAH
 simp only
 cases c:rdG 0 0 l with
 | none=>exact ⟨fun x r e=>(by cases e),fun _=>rfl⟩
 | some p =>
  obtain ⟨x,z,r⟩:=p
  cases z with
  | false=>exact ⟨fun x' r' e=>(by cases e;rfl),fun e=>(by cases e)⟩
  | true=>exact ⟨fun x' r' e=>(by cases e),fun _=>rfl⟩
theorem aKW:∀ (k:Nat) (l:List UInt8),(∀ ys r,aBX k l=some (ys,r)→aDf k (l,false)=(ys,(r,false)))∧(aBX k l=none→(aDf k (l,false)).2.2=true)
 | 0,l=>⟨fun ys r e=>(by cases e;rfl),fun e=>(by cases e)⟩
 | k+1,l=>by
  obtain ⟨n1,n2⟩:=aMx l
  cases c:aDz l with
  | none =>
   have e:aBX (k+1) l=none:=by simp only [aBX,c]
   rw [e]
   exact ⟨fun ys r e=>(by cases e),fun _=>aIY k _ (n2 c)⟩
  | some p =>
   obtain ⟨x,r1⟩:=p
   have e1:=n1 x r1 c
   obtain ⟨h1,h2⟩:=aKW k r1
   have e:aBX (k+1) l=(aBX k r1).map fun p=>((x:Int)::p.1,p.2):=by simp only [aBX,c]
   have e2:aDf (k+1) (l,false)=((x:Int)::(aDf k (r1,false)).1,(aDf k (r1,false)).2):=by simp only [aDf,e1]
   rw [e,e2]
   cases c2:aBX k r1 with
   | none=>exact ⟨fun ys r e=>(by cases e),fun _=>h2 c2⟩
   | some q =>
    obtain ⟨zs,r2⟩:=q
    rw [h1 zs r2 c2]
    exact ⟨fun ys r e=>(by cases e;rfl),fun e=>(by cases e)⟩
theorem aUc (l:List UInt8):(∀ ys r,aH2 l=some (ys,r)→aE5 (l,false)=(ys,(r,false)))∧(aH2 l=none→(aE5 (l,false)).2.2=true):=by
 obtain ⟨n1,n2⟩:=aMx l
 unfold aH2 aE5
 cases c:aDz l with
 | none=>exact ⟨fun ys r e=>(by cases e),fun _=>aIY _ _ (n2 c)⟩
 | some p =>
  obtain ⟨n,r1⟩:=p
  rw [n1 n r1 c]
  simp only
  cases c2:aBX n r1 with
  | some q =>
   obtain ⟨zs,r2⟩:=q
   have hr:=aIX n r1 c2
   have hm:min n (r1.length+1)=n:=by omega
   rw [hm,(aKW n r1).1 zs r2 c2]
   exact ⟨fun ys r e=>(by cases e;rfl),fun e=>(by cases e)⟩
  | none =>
   refine ⟨fun ys r e=>(by cases e),fun _ => ?_⟩
   by_cases hm:n≤r1.length+1
   ·rw [Nat.min_eq_left hm]
    exact (aKW n r1).2 c2
   ·rw [Nat.min_eq_right (by omega)]
    refine (aKW (r1.length+1) r1).2 ?_
    cases c3:aBX (r1.length+1) r1 with
    | none=>rfl
    | some q =>
     obtain ⟨zs,r2⟩:=q
     have:=aIX _ r1 c3
     omega
theorem aOx:∀ (k:Nat) (l:List UInt8),(∀ ys r,aBG k l=some (ys,r)→aBT k (l,false)=(ys,(r,false)))∧(aBG k l=none→(aBT k (l,false)).2.2=true)
 | 0,l=>⟨fun ys r e=>(by cases e;rfl),fun e=>(by cases e)⟩
 | k+1,l=>by
  obtain ⟨n1,n2⟩:=aUc l
  cases c:aH2 l with
  | none =>
   have e:aBG (k+1) l=none:=by simp only [aBG,c]
   rw [e]
   exact ⟨fun ys r e=>(by cases e),fun _=>aI5 k _ (n2 c)⟩
  | some p =>
   obtain ⟨x,r1⟩:=p
   have e1:=n1 x r1 c
   obtain ⟨h1,h2⟩:=aOx k r1
   have e:aBG (k+1) l=(aBG k r1).map fun p=>(x::p.1,p.2):=by simp only [aBG,c]
   have e2:aBT (k+1) (l,false)=(x::(aBT k (r1,false)).1,(aBT k (r1,false)).2):=by simp only [aBT,e1]
   rw [e,e2]
   cases c2:aBG k r1 with
   | none=>exact ⟨fun ys r e=>(by cases e),fun _=>h2 c2⟩
   | some q =>
    obtain ⟨zs,r2⟩:=q
    rw [h1 zs r2 c2]
    exact ⟨fun ys r e=>(by cases e;rfl),fun e=>(by cases e)⟩
theorem aTD (b:List UInt8):aEr b=aKh b:=by
 unfold aEr aKh
 by_cases c1:b.length < 8∨b.take 4≠aFH
 ·rw [if_pos c1,if_pos c1]
 rw [if_neg c1,if_neg c1]
 by_cases c2:b.drop (b.length - 4)≠aEt (b.take (b.length - 4))
 ·rw [if_pos c2,if_pos c2]
 rw [if_neg c2,if_neg c2]
 generalize (b.take (b.length - 4)).drop 4=L
 obtain ⟨n1,n2⟩:=aMx L
 cases r1:aDz L with
 | none =>
  simp only
  rw [if_pos (.inl (aI5 8 _ (aKu _ (n2 r1))))]
 | some p =>
  obtain ⟨t,L1⟩:=p
  rw [n1 t L1 r1]
  simp only
  obtain ⟨m1,m2⟩:=aMx L1
  cases r2:aDz L1 with
  | none =>
   simp only
   rw [if_pos (.inl (aI5 8 _ (m2 r2)))]
  | some p =>
   obtain ⟨n,L2⟩:=p
   rw [m1 n L2 r2]
   simp only
   obtain ⟨l1,l2⟩:=aOx 8 L2
   cases r3:aBG 8 L2 with
   | none =>
    simp only
    rw [if_pos (.inl (l2 r3))]
   | some p =>
    obtain ⟨ls,rest⟩:=p
    rw [l1 ls rest r3]
    simp only [Bool.false_eq_true,false_or]
theorem aRH (t n:Int):∀ ls:List (List Int),ls.length=8→(mkP t n ls).lists=ls:=by
 intro ls h
 obtain ⟨a0,w0,e0,h0⟩:=aBo h
 subst e0
 obtain ⟨a1,w1,e1,h1⟩:=aBo h0
 subst e1
 obtain ⟨a2,w2,e2,h2⟩:=aBo h1
 subst e2
 obtain ⟨a3,w3,e3,h3⟩:=aBo h2
 subst e3
 obtain ⟨a4,w4,e4,h4⟩:=aBo h3
 subst e4
 obtain ⟨a5,w5,e5,h5⟩:=aBo h4
 subst e5
 obtain ⟨a6,w6,e6,h6⟩:=aBo h5
 subst e6
 obtain ⟨a7,w7,e7,h7⟩:=aBo h6
 subst e7
 have e8:w7=[]:=List.length_eq_zero_iff.1 h7
 subst e8
 rfl
end Go.Proofs.Ytgeedikghjcebaa.Ai
