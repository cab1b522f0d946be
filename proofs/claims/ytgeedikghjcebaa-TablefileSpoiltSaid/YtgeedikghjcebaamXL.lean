/- Put as the reference does it: a packed table as bytes. -/
import Derived.Test.YtgeedikghjcebaamXC
import Derived.Test.YtgeedikghjcebaamXK
namespace Go.Proofs.Ytgeedikghjcebaa.Ai
open Go Go.Proofs
open List renaming length_cons → Q0, length_nil → Q1
set_option linter.unusedVariables false
set_option linter.unusedSimpArgs false
set_option maxRecDepth 10000
set_option maxHeartbeats 4000000
def PackD.lists (p:PackD):List (List Int):=[p.a.row,p.a.base,p.a.val,p.a.own,p.g.row,p.g.base,p.g.val,p.g.own]
theorem aEN {h:aA0} {i:Nat} {c0 c1 c2 c3 c4 c5 c6 c7 c8 c9:AV} (e:h[i]?=some (.arr 0 10 true [[c0,c1,c2,c3,c4,c5,c6,c7,c8,c9]])) :
  aAb h 1 false (.ptr i 0 0 0)=some c0∧aAb h 1 false (.ptr i 0 0 1)=some c1∧aAb h 1 false (.ptr i 0 0 2)=some c2∧aAb h 1 false (.ptr i 0 0 3)=some c3∧aAb h 1 false (.ptr i 0 0 4)=some c4∧aAb h 1 false (.ptr i 0 0 5)=some c5∧aAb h 1 false (.ptr i 0 0 6)=some c6∧aAb h 1 false (.ptr i 0 0 7)=some c7∧aAb h 1 false (.ptr i 0 0 8)=some c8∧aAb h 1 false (.ptr i 0 0 9)=some c9:=by
 refine ⟨?_,?_,?_,?_,?_,?_,?_,?_,?_,?_⟩ <;> rw [aB5 _ 1 i 0 0 _ false 10 true _ _ e rfl] <;> rfl
theorem aU5 (h:aA0) (z a b c d e f g k:AV) (ha:pure1 a=true) (hb:pure1 b=true) (hc:pure1 c=true) (hd:pure1 d=true) (he:pure1 e=true) (hf:pure1 f=true) (hg:pure1 g=true) (hk:pure1 k=true)
  (xa:cellsOf a=[a]) (xb:cellsOf b=[b]) (xc:cellsOf c=[c]) (xd:cellsOf d=[d]) (xe:cellsOf e=[e]) (xf:cellsOf f=[f]) (xg:cellsOf g=[g]) (xk:cellsOf k=[k]) :
  aBH h false 1 8 [z] [(0,a),(1,b),(2,c),(3,d),(4,e),(5,f),(6,g),(7,k)]=some (.vsl true [[a],[b],[c],[d],[e],[f],[g],[k]],h):=by
 simp [aBH,aAF,aB4,aAv,xa,xb,xc,xd,xe,xf,xg,xk,aCh,ha,hb,hc,hd,he,hf,hg,hk]
theorem aBO.ten {p:PackD} {cs:List AV} (hp:aBO p cs):∃ a1 a2 a3 a4 b1 b2 b3 b4,cs=[.int .i64 p.tms,.int .i64 p.nts,a1,a2,a3,a4,b1,b2,b3,b4]∧Li p.a.row a1∧Li p.a.base a2∧Li p.a.val a3∧Li p.a.own a4∧Li p.g.row b1∧Li p.g.base b2∧Li p.g.val b3∧Li p.g.own b4:=by
 obtain ⟨ca,cg,rfl,⟨a1,a2,a3,a4,rfl,ha1,ha2,ha3,ha4⟩,⟨b1,b2,b3,b4,rfl,hb1,hb2,hb3,hb4⟩⟩:=hp
 exact ⟨a1,a2,a3,a4,b1,b2,b3,b4,rfl,ha1,ha2,ha3,ha4,hb1,hb2,hb3,hb4⟩
section
variable {p : PackD} {cs : List AV}
theorem aOC (hp:aBO p cs):∃ w,LiR p.lists w∧∀ H,lim G0.cfg (.func 26) [.agg cs] H=some (w,H):=by
 have fz:=fun h=>aES (hp.fz h 998)
 obtain ⟨p1,p2,p3⟩:=hp.cells
 have bx:=aH1 [] p3 p1
 obtain ⟨a1,a2,a3,a4,b1,b2,b3,b4,rfl,x1,x2,x3,x4,y1,y2,y3,y4⟩:=hp.ten
 refine ⟨.vsl true [[a1],[a2],[a3],[a4],[b1],[b2],[b3],[b4]],.inr ⟨true,_,rfl,rfl,fun j hj => ?_⟩,fun H => ?_⟩
 ·have:p.lists.length=8:=rfl
  rw [this] at hj
  rcases j with _ | _ | _ | _ | _ | _ | _ | _ | j
  ·exact ⟨a1,rfl,x1⟩
  ·exact ⟨a2,rfl,x2⟩
  ·exact ⟨a3,rfl,x3⟩
  ·exact ⟨a4,rfl,x4⟩
  ·exact ⟨b1,rfl,y1⟩
  ·exact ⟨b2,rfl,y2⟩
  ·exact ⟨b3,rfl,y3⟩
  ·exact ⟨b4,rfl,y4⟩
  ·omega
 ·refine aAP rfl rfl aOu 1 fz ?_ (fun _=>rfl) H
  obtain ⟨X,hX⟩:∃ X,X=AObj.arr 0 10 true [[.int .i64 p.tms,.int .i64 p.nts,a1,a2,a3,a4,b1,b2,b3,b4]]:=⟨_,rfl⟩
  obtain ⟨l0,l1,l2,l3,l4,l5,l6,l7,l8,l9⟩:=aEN (h:=[X]) (i:=0) (by rw [hX];rfl)
  have t:=fun h=>aU5 h .nilS a1 a2 a3 a4 b1 b2 b3 b4 x1.pure1 x2.pure1 x3.pure1 x4.pure1 y1.pure1 y2.pure1 y3.pure1 y4.pure1 x1.cell.1 x2.cell.1 x3.cell.1 x4.cell.1 y1.cell.1 y2.cell.1 y3.cell.1 y4.cell.1
  rw [aOq]
  simp only [Zaf,Zag,Zam,Zan,Zao,Zbc,Zbd,Zbm,Zbo,Zbr,Zbs,Zcc,Zcr,Zcw,Zcy,Zcz,Zda,Zdb,List.set_cons_zero,List.set_cons_succ,List.getD_cons_zero,List.getD_cons_succ,Option.map_some,Zeb,Zef,Q0,Q1,if_true,Nat.reduceAdd,Nat.reduceSub,eq_self,true_and,Q0,Q1,List.replicate_succ,List.replicate_zero,List.cons_append,List.nil_append,ev2,← hX,l2,l3,l4,l5,l6,l7,l8,l9,t,aAa,aA8,aAc,Option.some.injEq,Prod.mk.injEq,true_and,exists_eq']
def aNv (p:PackD):Bool:=decide (p.a.row.length+p.a.base.length+p.a.val.length+p.a.own.length+p.g.row.length+p.g.base.length+p.g.val.length+p.g.own.length≤4000)
theorem aTT (hp:aBO p cs) (hm:∀ l ∈ p.lists,l.length≤1000000000000000000) (H:aA0):lim G0.cfg (.func 11) [.agg cs] H=some (.bool (aNv p),H):=by
 have fz:=fun h=>aES (hp.fz h 998)
 obtain ⟨p1,p2,p3⟩:=hp.cells
 have bx:=aH1 [] p3 p1
 obtain ⟨a1,a2,a3,a4,b1,b2,b3,b4,rfl,x1,x2,x3,x4,y1,y2,y3,y4⟩:=hp.ten
 refine aAP rfl rfl aQI 1 fz ?_ (fun _=>rfl) H
 obtain ⟨X,hX⟩:∃ X,X=AObj.arr 0 10 true [[.int .i64 p.tms,.int .i64 p.nts,a1,a2,a3,a4,b1,b2,b3,b4]]:=⟨_,rfl⟩
 obtain ⟨l0,l1,l2,l3,l4,l5,l6,l7,l8,l9⟩:=aEN (h:=[X]) (i:=0) (by rw [hX];rfl)
 have n1:=x1.len
 have n2:=x2.len
 have n3:=x3.len
 have n4:=x4.len
 have n5:=y1.len
 have n6:=y2.len
 have n7:=y3.len
 have n8:=y4.len
 have m1:=hm p.a.row (by simp [PackD.lists])
 have m2:=hm p.a.base (by simp [PackD.lists])
 have m3:=hm p.a.val (by simp [PackD.lists])
 have m4:=hm p.a.own (by simp [PackD.lists])
 have m5:=hm p.g.row (by simp [PackD.lists])
 have m6:=hm p.g.base (by simp [PackD.lists])
 have m7:=hm p.g.val (by simp [PackD.lists])
 have m8:=hm p.g.own (by simp [PackD.lists])
 have w2:IntKind.i64.wrap ((p.a.row.length:Int)+p.a.base.length)=((p.a.row.length+p.a.base.length:Nat):Int):=by rw [w64 (by omega) (by omega)];omega
 have w3:IntKind.i64.wrap (((p.a.row.length+p.a.base.length:Nat):Int)+p.a.val.length)=((p.a.row.length+p.a.base.length+p.a.val.length:Nat):Int):=by rw [w64 (by omega) (by omega)];omega
 have w4:IntKind.i64.wrap (((p.a.row.length+p.a.base.length+p.a.val.length:Nat):Int)+p.a.own.length)=((p.a.row.length+p.a.base.length+p.a.val.length+p.a.own.length:Nat):Int):=by rw [w64 (by omega) (by omega)];omega
 have w5:IntKind.i64.wrap (((p.a.row.length+p.a.base.length+p.a.val.length+p.a.own.length:Nat):Int)+p.g.row.length)=((p.a.row.length+p.a.base.length+p.a.val.length+p.a.own.length+p.g.row.length:Nat):Int):=by rw [w64 (by omega) (by omega)];omega
 have w6:IntKind.i64.wrap (((p.a.row.length+p.a.base.length+p.a.val.length+p.a.own.length+p.g.row.length:Nat):Int)+p.g.base.length)=((p.a.row.length+p.a.base.length+p.a.val.length+p.a.own.length+p.g.row.length+p.g.base.length:Nat):Int):=by rw [w64 (by omega) (by omega)];omega
 have w7:IntKind.i64.wrap (((p.a.row.length+p.a.base.length+p.a.val.length+p.a.own.length+p.g.row.length+p.g.base.length:Nat):Int)+p.g.val.length)=((p.a.row.length+p.a.base.length+p.a.val.length+p.a.own.length+p.g.row.length+p.g.base.length+p.g.val.length:Nat):Int):=by rw [w64 (by omega) (by omega)];omega
 have w8:IntKind.i64.wrap (((p.a.row.length+p.a.base.length+p.a.val.length+p.a.own.length+p.g.row.length+p.g.base.length+p.g.val.length:Nat):Int)+p.g.own.length)=((p.a.row.length+p.a.base.length+p.a.val.length+p.a.own.length+p.g.row.length+p.g.base.length+p.g.val.length+p.g.own.length:Nat):Int):=by rw [w64 (by omega) (by omega)];omega
 have d:aNv p=decide (((p.a.row.length+p.a.base.length+p.a.val.length+p.a.own.length+p.g.row.length+p.g.base.length+p.g.val.length+p.g.own.length:Nat):Int)≤4000):=by
  unfold aNv
  exact decide_eq_decide.2 (by omega)
 rw [aQG,d]
 simp only [Zaf,Zag,Zam,Zan,Zao,Zbc,Zbd,Zbm,Zbo,Zbr,Zbs,Zbu,Zcc,Zck,Zcw,Zcy,Zcz,Zda,Zdb,List.set_cons_zero,List.set_cons_succ,List.getD_cons_zero,List.getD_cons_succ,Option.map_some,Zdi,Zdm,Zeb,Zef,Q0,Q1,if_true,Nat.reduceAdd,Nat.reduceSub,eq_self,true_and,Q0,Q1,List.replicate_succ,List.replicate_zero,List.cons_append,List.nil_append,← hX,l2,l3,l4,l5,l6,l7,l8,l9,n1,n2,n3,n4,n5,n6,n7,n8,w2,w3,w4,w5,w6,w7,w8,aAa,aA8,aAc,Option.some.injEq,Prod.mk.injEq,true_and,exists_eq']
end
def aCK (l:List UInt8):List UInt8:=[UInt8.ofNat (aE2 l / 16777216),UInt8.ofNat (aE2 l / 65536),UInt8.ofNat (aE2 l / 256),UInt8.ofNat (aE2 l)]
theorem aM0 (q:EqK) (n:Nat):aB6 .shr q (.int .u32 n) (.int .u64 24)=some (.int .u32 ((n / 16777216:Nat):Int)):=aN0 q .u32 .u64 n 24 (by decide)
theorem aM1 (q:EqK) (n:Nat):aB6 .shr q (.int .u32 n) (.int .u64 16)=some (.int .u32 ((n / 65536:Nat):Int)):=aN0 q .u32 .u64 n 16 (by decide)
theorem sh8 (q:EqK) (n:Nat):aB6 .shr q (.int .u32 n) (.int .u64 8)=some (.int .u32 ((n / 256:Nat):Int)):=aN0 q .u32 .u64 n 8 (by decide)
theorem aNg (h:aA0) (a b c d:UInt8):aBH h true 1 4 [.int .u8 0] [(0,.int .u8 a.toNat),(1,.int .u8 b.toNat),(2,.int .u8 c.toNat),(3,.int .u8 d.toNat)]=some (.hsl h.length 0 0 4 none,h++[.arr 0 1 true (eBs [a,b,c,d])]):=by
 simp [aBH,aAF,aB4,aAv,cellsOf,aCh,eBs,eB]
section
variable {i : Nat}
end
def aC3:List UInt8:=[65,82,66,49]
def aDB (p:PackD):List UInt8:=aC3++aEV p.tms.toNat++aEV p.nts.toNat++p.lists.flatMap aHr
def aDQ (p:PackD):List UInt8:=aDB p++aCK (aDB p)
def aPu (p:PackD):Bool:=p.lists.all fun l=>l.all inR
section
variable {N : Nat} {i : Nat}
variable {p : PackD} {cs : List AV}
theorem aQ3 (h:aA0):aBH h true 1 4 [.int .u8 0] [(0,.int .u8 65),(1,.int .u8 82),(2,.int .u8 66),(3,.int .u8 49)]=some (.hsl h.length 0 0 4 none,h++[.arr 0 1 true (eBs aC3)]):=aNg h 65 82 66 49
theorem aQA (h:aA0) (l:List (List AV)) (n:Nat) (hn:0 < n):aFM (h++[.arr 0 1 true l]) (.hsl h.length 0 0 n none)=some (.hsl h.length 0 0 n none):=by
 simp [aFM,aAk,hn]
theorem aNb (h:aA0):aBt aC3 (.hsl h.length 0 0 4 none) (h++[.arr 0 1 true (eBs aC3)]) h.length:=⟨by decide,0,true,rfl,aBz _ _⟩
end
end Go.Proofs.Ytgeedikghjcebaa.Ai
namespace Go.Proofs.Ytgeedikghjcebaa.Ai
open Go Go.Proofs
open AV renaming junk → J
open List renaming getD_cons_zero → Q0, getD_cons_succ → Q1, length_cons → Q2, set_cons_zero → Q3, set_cons_succ → Q4, length_nil → Q5, cons_append → Q6, nil_append → Q7, replicate_succ → Q8, replicate_zero → Q9
open Option renaming map_some → Z0
open Option.some renaming injEq → Z1
open Bool renaming not_false → Z2
set_option linter.unusedVariables false
set_option linter.unusedSimpArgs false
set_option maxRecDepth 10000
set_option maxHeartbeats 4000000
theorem aTb (x:Int) (H:aA0):lim G0.cfg (.func 30) [.int .i64 x] H=some (.bool (!inR x),H):=by
 refine aAP rfl rfl aJR 1 (fun h=>aES rfl) ?_ (fun _=>rfl) H
 rw [aJN]
 by_cases c1:x < 0
 case pos =>
  have e:inR x=false:=by simp [inR];omega
  simp only [Zaf,Zag,Zam,Zan,Zao,Zbc,Zbh,Zbk,Zbm,Zbn,Zbo,Zbp,Zbu,Zcy,Zcz,Zda,Zdb,Q3,Q4,Q0,Q1,Z0,Zdl,decide_true,Z2,Q2,Q5,Nat.reduceAdd,Nat.reduceSub,eq_self,true_and,Q2,Q5,Q8,Q9,Q6,Q7,c1,e,aAa,aA8,aAc,Z1,Prod.mk.injEq,true_and,exists_eq']
 case neg =>
 by_cases c2:2147483647 < x
 case pos =>
  have e:inR x=false:=by simp [inR];omega
  simp only [Zaf,Zag,Zam,Zan,Zao,Zbc,Zbg,Zbl,Zbm,Zbn,Zbo,Zbp,Zbu,Zcy,Zcz,Zda,Zdb,Q3,Q4,Q0,Q1,Z0,Zdl,Zdn,decide_true,decide_false,Z2,Q2,Q5,Nat.reduceAdd,Nat.reduceSub,eq_self,true_and,Q2,Q5,Q8,Q9,Q6,Q7,c1,c2,e,aAa,aA8,aAc,Z1,Prod.mk.injEq,true_and,exists_eq']
 case neg =>
 have e:inR x=true:=by simp [inR];omega
 simp only [Zaf,Zag,Zam,Zan,Zao,Zbc,Zbg,Zbl,Zbm,Zbn,Zbo,Zbp,Zbu,Zcy,Zcz,Zda,Zdb,Q3,Q4,Q0,Q1,Z0,Zdl,Zdn,decide_false,Bool.not_true,Q2,Q5,Nat.reduceAdd,Nat.reduceSub,eq_self,true_and,Q2,Q5,Q8,Q9,Q6,Q7,c1,c2,e,aAa,aA8,aAc,Z1,Prod.mk.injEq,true_and,exists_eq']
theorem aOj {xs:List Int} {w:AV} (hl:Li xs w) (hn:xs.length≤1000000000) (H:aA0):lim G0.cfg (.func 29) [w,.fn (.func 30) [] []] H=some (.bool (!xs.all inR),H):=by
 have nl:=hl.len
 have fz:=fun h=>aHF (h:=h) (hl.fz h 999) (rfl:freeze h 1000 (.fn (.func 30) [] [])=some (.fn (.func 30) [] [],true))
 have lp:∀ (d i m:Nat) (h:aA0),xs.length=i+d→d < m →
   ((xs.drop i).all inR=true→aAw (aA9 (lim G0.cfg) (xs.length+1) aAQ) m ⟨[w,.fn (.func 30) [] [],J,J,J,J,J,.int .i64 xs.length,.int .i64 i,J,J,J,J,J,J,J,J,J,J],h⟩=some (.exit 0,⟨[J,J,J,J,J,J,J,J,J,J,J,J,J,J,J,J,J,J,J],h⟩)) ∧
   ((xs.drop i).all inR=false→∃ k:Nat,aAw (aA9 (lim G0.cfg) (xs.length+1) aAQ) m ⟨[w,.fn (.func 30) [] [],J,J,J,J,J,.int .i64 xs.length,.int .i64 i,J,J,J,J,J,J,J,J,J,J],h⟩=some (.ret,⟨[J,J,J,J,.int .i64 k,J,J,J,J,J,J,J,J,J,J,J,J,J,J],h⟩)):=by
  intro d
  induction d with
  | zero =>
   intro i m h h1 h2
   obtain ⟨m,rfl⟩:∃ q,m=q+1:=⟨m - 1,by omega⟩
   have h3:¬ ((i:Int) < xs.length):=by omega
   rw [List.drop_of_length_le (by omega:xs.length≤i)]
   refine ⟨fun _ => ?_,fun e=>(by cases e)⟩
   simp only [aAj,aCc,Zaf,Zag,Zah,Zak,Zal,Zan,Zao,Zap,Zaw,Zaz,Zbc,Zbm,Zbu,Zcz,Zdb,Zdg,Zdh,Q3,Q4,Q0,Q1,Zdl,decide_false,eq_self,h3]
  | succ d ih =>
   intro i m h h1 h2
   obtain ⟨m,rfl⟩:∃ q,m=q+1:=⟨m - 1,by omega⟩
   have h3:i < xs.length:=by omega
   have h3':(i:Int) < xs.length:=by omega
   have hw:=aC7 (n:=i) (by omega)
   have ix:=fun h=>hl.ix h .i64 i h3
   have f1:=aTb xs[i]
   rw [List.drop_eq_getElem_cons h3,List.all_cons]
   cases c:inR xs[i] with
   | false =>
    rw [c] at f1
    rw [Bool.false_and]
    refine ⟨fun e=>(by cases e),fun _=>⟨i,?_⟩⟩
    simp only [aAj,aCc,Zae,Zaf,Zag,Zah,Zai,Zak,Zam,Zan,Zao,Zaq,Zas,Zav,Zba,Zbc,Zbd,Zbm,Zbo,Zbs,Zbu,Zcf,Zct,Zcu,Zcz,Zdb,Zdd,Zde,Zdf,Zdg,Zdh,Q3,Q4,Q0,Q1,Zdl,Zer,decide_true,Z2,eq_self,Q6,Q7,h3',ix,f1]
   | true =>
    rw [c] at f1
    rw [Bool.true_and]
    have run:aAw (aA9 (lim G0.cfg) (xs.length+1) aAQ) (m+1) ⟨[w,.fn (.func 30) [] [],J,J,J,J,J,.int .i64 xs.length,.int .i64 i,J,J,J,J,J,J,J,J,J,J],h⟩=aAw (aA9 (lim G0.cfg) (xs.length+1) aAQ) m ⟨[w,.fn (.func 30) [] [],J,J,J,J,J,.int .i64 xs.length,.int .i64 (i+1:Nat),J,J,J,J,J,J,J,J,J,J],h⟩:=by
     simp only [aAj,aCc,Zae,Zaf,Zag,Zah,Zai,Zak,Zan,Zao,Zar,Zav,Zaw,Zay,Zbc,Zbd,Zbm,Zbo,Zbs,Zbu,Zcf,Zct,Zcu,Zcz,Zda,Zdb,Zdd,Zde,Zdf,Zdg,Zdh,Q3,Q4,Q0,Q1,Zdi,Zdl,Zer,decide_true,Bool.not_true,eq_self,Q6,Q7,h3',ix,f1,hw]
    rw [run]
    exact ih (i+1) m h (by omega) (by omega)
 obtain ⟨k1,k2⟩:=lp xs.length 0 (xs.length+1) [] (by omega) (by omega)
 rw [z0,List.drop_zero] at k1 k2
 cases c:xs.all inR with
 | true =>
  have e:=k1 c
  have f:∀ H,lim G0.cfg (.func 34) [w,.fn (.func 30) [] []] H=some (.int .i64 (-1),H):=fun H=>by
   refine aAP rfl rfl aDr (xs.length+1) fz ?_ (fun _=>rfl) H
   rw [aDq]
   simp only [Zaf,Zag,Zai,Zaj,Zak,Zam,Zan,Zao,Zat,Zax,Zbc,Zbm,Zbo,Zck,Zcy,Zcz,Zda,Zdb,Zdf,Zdg,Zdh,Q3,Q4,Q0,Q1,Z0,Q2,Q5,Nat.reduceAdd,Nat.reduceSub,Int.reduceNeg,eq_self,true_and,Q2,Q5,Q8,Q9,Q6,Q7,nl,e,aAa,aA8,aAc,Z1,Prod.mk.injEq,true_and,exists_eq']
  refine aAP rfl rfl aD4 1 fz ?_ (fun _=>rfl) H
  rw [aD3]
  simp only [Zaf,Zag,Zam,Zan,Zao,Zbc,Zbd,Zbm,Zbo,Zbu,Zct,Zcu,Zcy,Zcz,Zda,Zdb,Zdd,Zde,Q3,Q4,Q0,Q1,Z0,Zdo,decide_false,Bool.not_true,Q2,Q5,Nat.reduceAdd,Nat.reduceSub,Int.reduceNeg,Int.reduceLE,eq_self,true_and,Q2,Q5,Q8,Q9,Q6,Q7,f,aAa,aA8,aAc,Z1,Prod.mk.injEq,true_and,exists_eq']
 | false =>
  obtain ⟨k,e⟩:=k2 c
  have f:∀ H,lim G0.cfg (.func 34) [w,.fn (.func 30) [] []] H=some (.int .i64 k,H):=fun H=>by
   refine aAP rfl rfl aDr (xs.length+1) fz ?_ (fun _=>rfl) H
   rw [aDq]
   simp only [Zaf,Zag,Zai,Zaj,Zak,Zan,Zao,Zaq,Zas,Zax,Zbc,Zbm,Zbo,Zck,Zcy,Zcz,Zda,Zdb,Zdf,Zdg,Zdh,Q3,Q4,Q0,Q1,Z0,Q2,Q5,Nat.reduceAdd,Nat.reduceSub,Int.reduceNeg,eq_self,true_and,Q2,Q5,Q8,Q9,Q6,Q7,nl,e,aAa,aA8,aAc,Z1,Prod.mk.injEq,true_and,exists_eq']
  refine aAP rfl rfl aD4 1 fz ?_ (fun _=>rfl) H
  have dk:(0:Int)≤k:=by omega
  rw [aD3]
  simp only [Zaf,Zag,Zam,Zan,Zao,Zbc,Zbd,Zbm,Zbo,Zbu,Zct,Zcu,Zcy,Zcz,Zda,Zdb,Zdd,Zde,Q3,Q4,Q0,Q1,Z0,Zdo,decide_true,Z2,Q2,Q5,Nat.reduceAdd,Nat.reduceSub,eq_self,true_and,Q2,Q5,Q8,Q9,Q6,Q7,f,dk,aAa,aA8,aAc,Z1,Prod.mk.injEq,true_and,exists_eq']
def aFG (i:Nat):List (List AV):=[[.ptr i 0 0 2],[.ptr i 0 0 3],[.ptr i 0 0 4],[.ptr i 0 0 5],[.ptr i 0 0 6],[.ptr i 0 0 7],[.ptr i 0 0 8],[.ptr i 0 0 9]]
theorem aOH (i:Nat) (h:aA0):lim G0.cfg (.func 20) [.ptr i 0 0 0] h=some (.hsl h.length 0 0 8 none,h++[.arr 0 1 true (aFG i)]):=by
 refine aB3 rfl aJQ 1 ?_
 have t:aBH h false 1 8 [.nilP] [(0,.ptr i 0 0 2),(1,.ptr i 0 0 3),(2,.ptr i 0 0 4),(3,.ptr i 0 0 5),(4,.ptr i 0 0 6),(5,.ptr i 0 0 7),(6,.ptr i 0 0 8),(7,.ptr i 0 0 9)]=some (.hsl h.length 0 0 8 none,h++[.arr 0 1 true (aFG i)]):=by
  simp [aBH,aAF,aB4,aAv,cellsOf,aCh,pure1,aFG]
 rw [aJM]
 simp only [Zaf,Zag,Zam,Zan,Zao,Zbc,Zbd,Zbm,Zbo,Zcc,Zcd,Zcr,Zcy,Zcz,Zda,Zdb,Q3,Q4,Q0,Q1,Z0,Zeb,Q2,Q5,Nat.reduceAdd,Nat.reduceSub,eq_self,Q2,Q5,Q8,Q9,Q6,Q7,aE8,ev2,t,aAa,aA8,aAc]
theorem aMr (i j:Nat) (hj:j < 8):(aFG i)[j]?=some [.ptr i 0 0 (2+j)]:=by
 rcases j with _ | _ | _ | _ | _ | _ | _ | _ | j <;> first | rfl | omega
theorem aTQ (h:aA0) (n:Int):aBH h true 1 1 [.int .i64 0] [(0,.int .i64 n)]=some (.hsl h.length 0 0 1 none,h++[.arr 0 1 true (eIs [n])]):=by
 simp [aBH,aAF,aB4,aAv,cellsOf,aCh,eIs,eI]
theorem aTP (h:aA0) (n m:Int):aBH h true 1 2 [.int .i64 0] [(0,.int .i64 n),(1,.int .i64 m)]=some (.hsl h.length 0 0 2 none,h++[.arr 0 1 true (eIs [n,m])]):=by
 simp [aBH,aAF,aB4,aAv,cellsOf,aCh,eIs,eI]
section
variable {p : PackD} {cs : List AV} {N : Nat}
theorem aBO.row (hp:aBO p cs) (i j:Nat) (hj:j < p.lists.length):∃ rv,Li p.lists[j] rv∧∀ h:aA0,h[i]?=some (.arr 0 10 true [cs])→aAb h 1 false (.ptr i 0 0 (2+j))=some rv:=by
 obtain ⟨a1,a2,a3,a4,b1,b2,b3,b4,rfl,x1,x2,x3,x4,y1,y2,y3,y4⟩:=hp.ten
 have l8:p.lists.length=8:=rfl
 rw [l8] at hj
 rcases j with _ | _ | _ | _ | _ | _ | _ | _ | j
 ·exact ⟨a1,x1,fun h e=>(aEN e).2.2.1⟩
 ·exact ⟨a2,x2,fun h e=>(aEN e).2.2.2.1⟩
 ·exact ⟨a3,x3,fun h e=>(aEN e).2.2.2.2.1⟩
 ·exact ⟨a4,x4,fun h e=>(aEN e).2.2.2.2.2.1⟩
 ·exact ⟨b1,y1,fun h e=>(aEN e).2.2.2.2.2.2.1⟩
 ·exact ⟨b2,y2,fun h e=>(aEN e).2.2.2.2.2.2.2.1⟩
 ·exact ⟨b3,y3,fun h e=>(aEN e).2.2.2.2.2.2.2.2.1⟩
 ·exact ⟨b4,y4,fun h e=>(aEN e).2.2.2.2.2.2.2.2.2⟩
 ·omega
theorem aT3 (hp:aBO p cs) (hn:∀ r ∈ p.lists,r.length≤100000) {q:Nat} (hq:q≠1) :
  ∀ (d j m:Nat) (l:List UInt8) (v:AV) (h:aA0),p.lists.length=j+d→d < m→aBt l v h 1→h[0]?=some (.arr 0 10 true [cs])→h[q]?=some (.arr 0 1 true (aFG 0))→l.length+600000*d≤10000000 →
  ((p.lists.drop j).all (fun l=>l.all inR)=true→∃ (v':AV) (h':aA0),aAw (aA9 (lim G0.cfg) N aBB) m ⟨(J::J::J::J::v::J::J::J::J::J::J::J::J::J::J::J::J::J::J::.hsl q 0 0 8 none::.int .i64 8::.int .i64 j::J::J::J::J::J::J::J::J::J::J::J::J::J::J::J::J::J::J::J::J::J::J::J::J::J::J::J::J::J::J::J::J::J::J::J::J::J::J::J::[]),h⟩=some (.exit 0,⟨(J::J::J::J::v'::J::J::J::J::J::J::J::J::J::J::J::J::J::J::J::J::J::J::J::J::J::J::J::J::J::J::J::J::J::J::J::J::J::J::J::J::J::J::J::J::J::J::J::J::J::J::J::J::J::J::J::J::J::J::J::J::[]),h'⟩)∧aBt (l++(p.lists.drop j).flatMap aHr) v' h' 1) ∧
  ((p.lists.drop j).all (fun l=>l.all inR)=false→∃ (h':aA0),aAw (aA9 (lim G0.cfg) N aBB) m ⟨(J::J::J::J::v::J::J::J::J::J::J::J::J::J::J::J::J::J::J::.hsl q 0 0 8 none::.int .i64 8::.int .i64 j::J::J::J::J::J::J::J::J::J::J::J::J::J::J::J::J::J::J::J::J::J::J::J::J::J::J::J::J::J::J::J::J::J::J::J::J::J::J::J::[]),h⟩=some (.ret,⟨(J::J::.nilS::.int .i64 2::J::J::J::J::J::J::J::J::J::J::J::J::J::J::J::J::J::J::J::J::J::J::J::J::J::J::J::J::J::J::J::J::J::J::J::J::J::J::J::J::J::J::J::J::J::J::J::J::J::J::J::J::J::J::J::J::J::[]),h'⟩)):=by
 have l8:p.lists.length=8:=rfl
 intro d
 induction d with
 | zero =>
  intro j m l v h h1 h2 ho e0 eq hl
  obtain ⟨m,rfl⟩:∃ q,m=q+1:=⟨m - 1,by omega⟩
  have h3:¬ ((j:Int) < 8):=by omega
  rw [List.drop_of_length_le (by omega:p.lists.length≤j)]
  refine ⟨fun _=>⟨v,h,?_,by rw [List.flatMap_nil,List.append_nil];exact ho⟩,fun e=>(by cases e)⟩
  simp only [aAj,aEb,Zaf,Zag,Zah,Zak,Zal,Zan,Zao,Zap,Zaw,Zaz,Zbc,Zbm,Zbu,Zcz,Zdb,Zdf,Zdg,Zdh,Q3,Q4,Q0,Q1,Zdl,decide_false,eq_self,h3]
 | succ d ih =>
  intro j m l v h h1 h2 ho e0 eq hl
  obtain ⟨m,rfl⟩:∃ q,m=q+1:=⟨m - 1,by omega⟩
  have h3:j < p.lists.length:=by omega
  have h3':(j:Int) < 8:=by omega
  have hw:=aC7 (n:=j) (by omega)
  obtain ⟨rv,hrv,ld⟩:=hp.row 0 j h3
  have ix:=aBM (c:=none) (n:=8) eq (k:=.i64) (j:=j) (by omega)
  have lp:aAb h 1 false (.ptr q 0 j 0)=some (.ptr 0 0 0 (2+j)):=by rw [aB5 h 1 q 0 j 0 false 1 true _ _ eq (aMr 0 j (by omega))];rfl
  have d1:=ld h e0
  have hlen:=hn _ (List.getElem_mem h3)
  have fc:=aOj hrv (by omega) h
  rw [List.drop_eq_getElem_cons h3,List.all_cons,List.flatMap_cons]
  cases c:(p.lists[j]).all inR with
  | false =>
   rw [c] at fc
   rw [Bool.false_and]
   refine ⟨fun e=>(by cases e),fun _=>⟨h,?_⟩⟩
   simp only [aAj,aEb,Zae,Zaf,Zag,Zah,Zai,Zak,Zam,Zan,Zao,Zaq,Zas,Zav,Zba,Zbc,Zbd,Zbm,Zbo,Zbs,Zbu,Zcd,Zcf,Zct,Zcu,Zcz,Zda,Zdb,Zdd,Zde,Zdf,Zdg,Zdh,Q3,Q4,Q0,Q1,Zdl,decide_true,Z2,eq_self,Q6,Q7,h3',ix,lp,aE8,d1,fc]
  | true =>
  rw [c] at fc
  rw [Bool.true_and]
  have hx:∀ x ∈ p.lists[j],0≤x∧x≤2147483647:=fun x hx=>(aJG x).1 (List.all_eq_true.1 c x hx)
  obtain ⟨xs,hxs⟩:∃ xs,xs=p.lists[j]:=⟨_,rfl⟩
  rw [← hxs] at hrv hlen hx ⊢
  have nl:=hrv.len
  have lt:=ho.lt
  have t1:=aTQ h xs.length
  obtain ⟨h1,hh1⟩:∃ h1,h1=h++[AObj.arr 0 1 true (eIs [(xs.length:Int)])]:=⟨_,rfl⟩
  have up1:∀ (i:Nat) (o:AObj),h[i]?=some o→h1[i]?=some o:=fun i o e=>by rw [hh1];exact aAJ e _
  have o0:aBt l v h1 1:=ho.frame (fun o e=>up1 1 o e)
  have rd1:RdI [(xs.length:Int)] (.hsl h.length 0 0 1 none) h1 (some h.length):=aPZ (xs:=[(xs.length:Int)]) (x:=true) (by rw [hh1];exact aBz _ _)
  rw [← hh1] at t1
  obtain ⟨v1,H1,e1,o1,f1,g1⟩:=aPg rd1 (by intro f;have:=Option.some.inj f;omega) (by intro x hx;rw [List.mem_singleton] at hx;subst hx;omega) (by simp) o0 (by omega)
  have z1:=f1 0 _ (by decide) (up1 0 _ e0)
  have zq:=f1 q _ hq (up1 q _ eq)
  have b1:=aEW [(xs.length:Int)]
  have lone:[(xs.length:Int)].length=1:=rfl
  obtain ⟨v2,H2,e2,o2,f2,g2⟩:=aPg (hrv.rd H1) (by intro f;cases f) hx (by omega) o1 (by rw [List.length_append];omega)
  have b2:=aEW xs
  have eE:aHr xs=aCn [(xs.length:Int)]++aCn xs:=by
   have:aCn [(xs.length:Int)]=aEV xs.length:=by simp [aCn]
   rw [this];rfl
  have d2:=ld h1 (up1 0 _ e0)
  have d3:=ld H1 z1
  obtain ⟨j1,j2⟩:=ih (j+1) m _ v2 H2 (by omega) (by omega) o2 (f2 0 _ (by decide) z1) (f2 q _ hq zq) (by rw [List.length_append,List.length_append];omega)
  have run:aAw (aA9 (lim G0.cfg) N aBB) (m+1) ⟨(J::J::J::J::v::J::J::J::J::J::J::J::J::J::J::J::J::J::J::.hsl q 0 0 8 none::.int .i64 8::.int .i64 j::J::J::J::J::J::J::J::J::J::J::J::J::J::J::J::J::J::J::J::J::J::J::J::J::J::J::J::J::J::J::J::J::J::J::J::J::J::J::J::[]),h⟩=aAw (aA9 (lim G0.cfg) N aBB) m ⟨(J::J::J::J::v2::J::J::J::J::J::J::J::J::J::J::J::J::J::J::.hsl q 0 0 8 none::.int .i64 8::.int .i64 (j+1:Nat)::J::J::J::J::J::J::J::J::J::J::J::J::J::J::J::J::J::J::J::J::J::J::J::J::J::J::J::J::J::J::J::J::J::J::J::J::J::J::J::[]),H2⟩:=by
   simp only [aAj,aEb,Zae,Zaf,Zag,Zah,Zai,Zak,Zan,Zao,Zar,Zav,Zaw,Zay,Zbc,Zbd,Zbm,Zbo,Zbs,Zbu,Zcd,Zcf,Zck,Zcr,Zct,Zcu,Zcz,Zda,Zdb,Zdd,Zde,Zdf,Zdg,Zdh,Q3,Q4,Q0,Q1,Zdi,Zdl,decide_true,Bool.not_true,eq_self,Q6,Q7,aJv,aIM,aIL,aIK,aIJ,aII,aIH,aIG,aIF,aIE,aID,aI8,aI7,aI6,aI5,aI4,aI3,aI2,aMe,aMc,aMd,aLo,aI1,h3',ix,lp,aE8,d1,d2,d3,fc,nl,ev2,t1,e1,e2,hw]
  rw [run,eE,← List.append_assoc,← List.append_assoc]
  exact ⟨j1,j2⟩
end
end Go.Proofs.Ytgeedikghjcebaa.Ai
namespace Go.Proofs.Ytgeedikghjcebaa.Ai
open Go Go.Proofs
open AV renaming junk → J
open List renaming getD_cons_zero → Q0, getD_cons_succ → Q1, set_cons_zero → Q2, set_cons_succ → Q3, length_cons → Q4, nil_append → Q5, cons_append → Q6, length_nil → Q7, replicate_succ → Q8
set_option linter.unusedVariables false
set_option linter.unusedSimpArgs false
set_option maxRecDepth 10000
set_option maxHeartbeats 4000000
theorem aMl:∀ (k:Nat) (s:List UInt8 × Bool),(aCx k s).1.length=k∧(aCx k s).2.1.length≤s.1.length
 | 0,s=>⟨rfl,Nat.le_refl _⟩
 | k+1,s=>by
  have h1:=aMl k (aAD s).2
  have h2:=aFn s
  simp only [aCx,Q4]
  omega
theorem aMx (s:List UInt8 × Bool):(aDa s).1.length≤s.1.length+1∧(aDa s).2.1.length≤s.1.length:=by
 unfold aDa
 have h1:=aMl (min (aAD s).1 ((aAD s).2.1.length+1)) (aAD s).2
 have h2:=aFn s
 omega
def aBG:Nat→List UInt8 × Bool→List (List Int) × (List UInt8 × Bool)
 | 0,s=>([],s)
 | k+1,s=>((aDa s).1::(aBG k (aDa s).2).1,(aBG k (aDa s).2).2)
section
variable {r B N : Nat}
theorem aSV (hr:r < B) (L0:Nat) (h0:L0≤40000) (K:Int):∀ (d i m:Nat) (s:List UInt8 × Bool) (w v:AV) (xs:List Int) (q:Option Nat) (h:aA0),K=((i+d:Nat):Int)→d < m→i+d≤100000→s.1.length≤L0→LiB s.1 w→h[r]?=some (rdO w s.2)→aAu 1 (eIs xs) v h q→xs.length=i→(∀ i,q=some i→B≤i)→B≤h.length →
  ∃ (w' v':AV) (q':Option Nat) (h':aA0),aAw (aA9 (lim G0.cfg) N aCv) m ⟨[J,.fn (.func 19) [.ptr r 0 0 0] [],J,J,J,J,v,J,J,J,J,J,J,.int .i64 K,.int .i64 i,J,J,J,J,J,J,J,J],h⟩=some (.exit 0,⟨[J,J,J,J,J,J,v',J,J,J,J,J,J,J,J,J,J,J,J,J,J,J,J],h'⟩) ∧
   LiB (aCx d s).2.1 w'∧h'[r]?=some (rdO w' (aCx d s).2.2)∧aAu 1 (eIs (xs++(aCx d s).1)) v' h' q'∧(∀ i,q'=some i→B≤i)∧B≤h'.length∧(∀ (j:Nat) (o:AObj),j < B→j≠r→h[j]?=some o→h'[j]?=some o):=by
 intro d
 induction d with
 | zero =>
  intro i m s w v xs q h h1 h2 hk hs hl er ow lx hq hB
  obtain ⟨m,rfl⟩:∃ q,m=q+1:=⟨m - 1,by omega⟩
  have h3:¬ ((i:Int) < K):=by omega
  refine ⟨w,v,q,h,?_,hl,er,by simp only [aCx,List.append_nil];exact ow,hq,hB,fun _ _ _ _ e=>e⟩
  simp only [aAj,aFh,Zaf,Zag,Zah,Zak,Zal,Zan,Zao,Zap,Zaw,Zaz,Zbc,Zbm,Zbu,Zcz,Zdb,Zdf,Zdg,Zdh,Q2,Q3,Q0,Q1,Zdl,decide_false,eq_self,h3]
 | succ d ih =>
  intro i m s w v xs q h h1 h2 hk hs hl er ow lx hq hB
  obtain ⟨m,rfl⟩:∃ q,m=q+1:=⟨m - 1,by omega⟩
  have h3:(i:Int) < K:=by omega
  have hw:=aC7 (n:=i) (by omega)
  obtain ⟨w1,lw,e1⟩:=aGF hl (by omega) er
  have e1':lim G0.cfg (.func 19) [.ptr r 0 0 0] h=some (.int .i64 (aAD s).1,h.set r (rdO w1 (aAD s).2.2)):=e1
  obtain ⟨h1',hh1⟩:∃ h1',h1'=h.set r (rdO w1 (aAD s).2.2):=⟨_,rfl⟩
  rw [← hh1] at e1'
  have er1:h1'[r]?=some (rdO w1 (aAD s).2.2):=by rw [hh1];exact aAr er
  have f1:∀ (j:Nat) (o:AObj),j≠r→h[j]?=some o→h1'[j]?=some o:=fun j o hj e=>by rw [hh1];exact aAs e (Ne.symm hj)
  have ow1:aAu 1 (eIs xs) v h1' q:=ow.frame (fun i o e g=>f1 i o (by have:=hq i e;omega) g)
  have t1:=aGC h1' (.int .i64 0) (.int .i64 (aAD s).1) rfl rfl
  obtain ⟨iv,ver,H1,r1,r2,r3,r4,r5⟩:=ow1.push true (c:=[.int .i64 (aAD s).1]) rfl rfl (aEp _) 8 (by omega) (by rw [Zet];omega)
  rw [Zet] at r1 r2
  have ln1:h1'.length=h.length:=by rw [hh1];simp
  have tiv:B≤iv:=by
   rcases r4 with g | ⟨_,g⟩
   ·exact hq iv g
   ·omega
  have eS:eIs xs++[[.int .i64 (aAD s).1]]=eIs (xs++[((aAD s).1:Int)]):=by simp [eIs,eI]
  rw [eS] at r2
  obtain ⟨vv,hvv⟩:∃ vv,vv=AV.hsl iv ver 0 (xs.length+1) none:=⟨_,rfl⟩
  rw [← hvv] at r1 r2
  have b1:=aFn s
  obtain ⟨w',v',q',h',g1,g2,g3,g4,g5,g6,g7⟩:=ih (i+1) m (aAD s).2 w1 vv (xs++[((aAD s).1:Int)]) (some iv) H1 (by omega) (by omega) (by omega) (by omega) lw (r3 r _ er1 (fun e=>by have:=hq r e;omega)) r2 (by simp [lx]) (fun i e=>by cases e;exact tiv) (by omega)
  refine ⟨w',v',q',h',?_,g2,g3,?_,g5,g6,fun j o hj hn e=>g7 j o hj hn (r3 j o (f1 j o hn e) (fun e=>by have:=hq j e;omega))⟩
  ·rw [← g1]
   simp only [aAj,aFh,Zae,Zaf,Zag,Zah,Zai,Zak,Zan,Zao,Zar,Zav,Zay,Zbc,Zbd,Zbm,Zbo,Zbu,Zcm,Zcr,Zct,Zcu,Zcz,Zda,Zdb,Zdd,Zdf,Zdg,Zdh,Q2,Q3,Q0,Q1,Zdi,Zdl,decide_true,eq_self,Q6,Q5,h3,e1',ev2,t1,r1,hw]
  ·rw [List.append_assoc] at g4
   exact g4
theorem aTx (a b:Int):aHJ false [.int .i64 a,.int .i64 b]=some (.int .i64 (min a b)):=by
 simp only [aHJ,amm]
 by_cases h:a≤b
 ·rw [Int.min_eq_left h];simp;omega
 ·rw [Int.min_eq_right (by omega)];simp;omega
theorem aT8 {h:aA0} {c:Nat} {w:AV} {l:List UInt8} {b:Bool} (ec:h[c]?=some (.arr 0 1 true [[.ptr r 0 0 0]])) (hl:LiB l w) (er:h[r]?=some (rdO w b)):lim G0.cfg (.func 22) [.ptr c 0 0 0] h=some (.int .i64 l.length,h):=by
 refine aB3 rfl aJr 1 ?_
 have l0:aAb h 1 false (.ptr c 0 0 0)=some (.ptr r 0 0 0):=by rw [aB5 h 1 c 0 0 0 false 1 true _ _ ec rfl];rfl
 have l1:=aMY er
 have nl:=hl.len
 rw [aJo]
 simp only [Zaf,Zag,Zam,Zan,Zao,Zbc,Zbm,Zbo,Zbs,Zcc,Zcd,Zck,Zcy,Zcz,Zda,Zdb,Q2,Q3,Q0,Q1,Option.map_some,Zeb,Q4,Q7,Nat.reduceAdd,Nat.reduceSub,eq_self,Q4,Q7,Q8,List.replicate_zero,Q6,Q5,l0,aE8,l1,nl,aAa,aA8,aAc]
theorem aSc {h:aA0} {c:Nat} {w:AV} {s:List UInt8 × Bool} (hl:LiB s.1 w) (hn:s.1.length≤40000) (er:h[r]?=some (rdO w s.2)) (hc:c≠r) (ec:h[c]?=some (.arr 0 1 true [[.ptr r 0 0 0]])) :
  ∃ (w' v':AV) (q':Option Nat) (h':aA0),lim G0.cfg (.func 21) [.fn (.func 22) [] [.ptr c 0 0 0],.fn (.func 19) [.ptr r 0 0 0] []] h=some (v',h') ∧
   LiB (aDa s).2.1 w'∧h'[r]?=some (rdO w' (aDa s).2.2)∧aAu 1 (eIs (aDa s).1) v' h' q'∧(∀ i,q'=some i→h.length≤i)∧h.length≤h'.length∧(∀ (j:Nat) (o:AObj),j≠r→h[j]?=some o→h'[j]?=some o):=by
 obtain ⟨w1,lw,e1⟩:=aGF hl (by omega) er
 have e1':lim G0.cfg (.func 19) [.ptr r 0 0 0] h=some (.int .i64 (aAD s).1,h.set r (rdO w1 (aAD s).2.2)):=e1
 obtain ⟨h1,hh1⟩:∃ h1,h1=h.set r (rdO w1 (aAD s).2.2):=⟨_,rfl⟩
 rw [← hh1] at e1'
 have er1:h1[r]?=some (rdO w1 (aAD s).2.2):=by rw [hh1];exact aAr er
 have f1:∀ (j:Nat) (o:AObj),j≠r→h[j]?=some o→h1[j]?=some o:=fun j o hj e=>by rw [hh1];exact aAs e (Ne.symm hj)
 have ln1:h1.length=h.length:=by rw [hh1];simp
 have e2:=aT8 (f1 c _ hc ec) lw er1
 have b1:=aFn s
 have wl:IntKind.i64.wrap (((aAD s).2.1.length:Int)+1)=(((aAD s).2.1.length+1:Nat):Int):=by rw [w64 (by omega) (by omega)];omega
 have em:=aTx (aAD s).1 (((aAD s).2.1.length+1:Nat):Int)
 have eM:min ((aAD s).1:Int) (((aAD s).2.1.length+1:Nat):Int)=((min (aAD s).1 ((aAD s).2.1.length+1):Nat):Int):=by omega
 rw [eM] at em
 obtain ⟨w',v',q',h',g1,g2,g3,g4,g5,g6,g7⟩:=aSV (N:=100000) (B:=h1.length) (aBS er1) 40000 (by omega) ((min (aAD s).1 ((aAD s).2.1.length+1):Nat):Int) (min (aAD s).1 ((aAD s).2.1.length+1)) 0 100000 (aAD s).2 w1 .nilS [] none h1 (by omega) (by omega) (by omega) (by omega) lw er1 (aAu.nil 1 _) rfl (fun _ e=>by cases e) (Nat.le_refl _)
 rw [z0] at g1
 rw [Q5] at g4
 refine ⟨w',v',q',h',aB3 rfl aKz 100000 ?_,g2,g3,g4,fun i e=>by have:=g5 i e;omega,by omega,fun j o hj e=>g7 j o (by rw [ln1];exact aBS e) hj (f1 j o hj e)⟩
 rw [aKy]
 simp only [Zaf,Zag,Zai,Zaj,Zak,Zam,Zan,Zao,Zat,Zax,Zbc,Zbd,Zbm,Zbo,Zbu,Zcp,Zct,Zcu,Zcy,Zcz,Zda,Zdb,Zdd,Zde,Zdf,Zdg,Zdh,Q2,Q3,Q0,Q1,Option.map_some,Zdi,Q4,Q7,Nat.reduceAdd,Nat.reduceSub,eq_self,Q4,Q7,Q8,List.replicate_zero,Q6,Q5,e1',e2,wl,em,g1,aAa,aA8,aAc]
end
def FrL (B:Nat):List (List Int)→List AV→aA0→Prop
 | [],[],_=>True
 | x::xs,v::vs,h=>(∃ q,aAu 1 (eIs x) v h q∧∀ i,q=some i→B≤i)∧FrL B xs vs h
 | _,_,_=>False
theorem FrL.frame {B:Nat} {h h':aA0} (hf:∀ (j:Nat) (o:AObj),B≤j→h[j]?=some o→h'[j]?=some o):∀ (xs:List (List Int)) (vs:List AV),FrL B xs vs h→FrL B xs vs h'
 | [],[],_=>trivial
 | x::xs,v::vs,⟨⟨q,h1,h2⟩,h3⟩=>⟨⟨q,h1.frame (fun i o e g=>hf i o (h2 i e) g),h2⟩,FrL.frame hf xs vs h3⟩
 | [],_::_,h=>h.elim
 | _::_,[],h=>h.elim
theorem FrL.snoc {B:Nat} {h:aA0} {x:List Int} {v:AV} {q:Option Nat} (ho:aAu 1 (eIs x) v h q) (hq:∀ i,q=some i→B≤i):∀ (xs:List (List Int)) (vs:List AV),FrL B xs vs h→FrL B (xs++[x]) (vs++[v]) h
 | [],[],_=>⟨⟨q,ho,hq⟩,trivial⟩
 | _::xs,_::vs,⟨a,b⟩=>⟨a,FrL.snoc ho hq xs vs b⟩
 | [],_::_,h=>h.elim
 | _::_,[],h=>h.elim
theorem aSH {h:aA0} {P:Nat} {pre post:List AV} {v:AV} {n:Nat} (e:h[P]?=some (.arr 0 n true [pre++.nilS::post])) (hc:cellsOf v=[v]∧aAp v=true):aAB h 1 (.ptr P 0 0 pre.length) v=some (h.set P (.arr 0 n true [pre++v::post])):=by
 rw [aKh h 1 P 0 0 pre.length _ n true _ _ e rfl (by rw [hc.1];rfl) (by simp) (by rw [hc.1];simp [hc.2])]
 rw [hc.1]
 have:aAv (pre++.nilS::post) pre.length [v]=pre++v::post:=by
  simp [aAv]
 rw [this];rfl
section
variable {r c P Q B N : Nat}
theorem aSG (hrc:c≠r) (hrP:P≠r) (hcP:c≠P) (hQr:Q≠r) (hQP:Q≠P) (hB1:r < B) (hB2:P < B) (t2:AV) (p0:List AV) (hp0:p0.length=2) :
  ∀ (d j m:Nat) (s:List UInt8 × Bool) (w:AV) (xs:List (List Int)) (vs:List AV) (h:aA0),8=j+d→d < m→s.1.length≤40000→LiB s.1 w→h[r]?=some (rdO w s.2)→h[c]?=some (.arr 0 1 true [[.ptr r 0 0 0]])→h[Q]?=some (.arr 0 1 true (aFG P)) →
   h[P]?=some (.arr 0 10 true [p0++vs++List.replicate d .nilS])→vs.length=j→FrL B xs vs h→B≤h.length →
  ∃ (w':AV) (vs':List AV) (h':aA0),aAw (aA9 (lim G0.cfg) N aCw) m ⟨(J::J::t2::J::J::J::J::.ptr c 0 0 0::.fn (.func 19) [.ptr r 0 0 0] []::.ptr P 0 0 0::J::J::J::J::J::J::J::J::J::J::J::J::J::J::J::J::J::J::J::J::J::J::J::J::J::J::J::J::J::J::J::J::J::J::J::J::J::J::J::J::J::J::J::J::J::J::J::J::J::J::J::J::J::J::J::J::J::J::J::.hsl Q 0 0 8 none::.int .i64 8::.int .i64 j::J::J::J::J::J::J::J::J::J::J::J::J::J::J::J::J::J::J::J::J::J::J::J::J::J::J::J::[]),h⟩=some (.exit 1,⟨(J::J::t2::J::J::J::J::.ptr c 0 0 0::J::.ptr P 0 0 0::J::J::J::J::J::J::J::J::J::J::J::J::J::J::J::J::J::J::J::J::J::J::J::J::J::J::J::J::J::J::J::J::J::J::J::J::J::J::J::J::J::J::J::J::J::J::J::J::J::J::J::J::J::J::J::J::J::J::J::J::J::J::J::J::J::J::J::J::J::J::J::J::J::J::J::J::J::J::J::J::J::J::J::J::J::J::J::J::J::[]),h'⟩) ∧
   LiB (aBG d s).2.1 w'∧h'[r]?=some (rdO w' (aBG d s).2.2)∧h'[P]?=some (.arr 0 10 true [p0++vs'])∧vs'.length=8∧FrL B (xs++(aBG d s).1) vs' h'∧(∀ (j:Nat) (o:AObj),j≠r→j≠P→h[j]?=some o→h'[j]?=some o):=by
 intro d
 induction d with
 | zero =>
  intro j m s w xs vs h h1 h2 hs hl er ec eQ eP lv fr hB
  obtain ⟨m,rfl⟩:∃ q,m=q+1:=⟨m - 1,by omega⟩
  have h3:¬ ((j:Int) < 8):=by omega
  refine ⟨w,vs,h,?_,hl,er,by simpa using eP,by omega,by simp only [aBG,List.append_nil];exact fr,fun _ _ _ _ e=>e⟩
  simp only [aAj,aFi,Zaf,Zag,Zah,Zak,Zal,Zan,Zao,Zap,Zaw,Zaz,Zbc,Zbm,Zbu,Zcz,Zdb,Zdf,Zdg,Zdh,Q2,Q3,Q0,Q1,Zdl,decide_false,eq_self,h3]
 | succ d ih =>
  intro j m s w xs vs h h1 h2 hs hl er ec eQ eP lv fr hB
  obtain ⟨m,rfl⟩:∃ q,m=q+1:=⟨m - 1,by omega⟩
  have h3:(j:Int) < 8:=by omega
  have hw:=aC7 (n:=j) (by omega)
  have ix:=aBM (c:=none) (n:=8) eQ (k:=.i64) (j:=j) (by omega)
  have lp:aAb h 1 false (.ptr Q 0 j 0)=some (.ptr P 0 0 (2+j)):=by rw [aB5 h 1 Q 0 j 0 false 1 true _ _ eQ (aMr P j (by omega))];rfl
  obtain ⟨w1,v1,q1,h1',e1,lw,er1,ow,hq,ln,fm⟩:=aSc hl hs er hrc ec
  have eP1:=fm P _ hrP eP
  have pl:(p0++vs).length=2+j:=by rw [List.length_append,hp0,lv]
  rw [Q8] at eP1
  have sp:=aSH (v:=v1) eP1 ow.cell
  rw [pl] at sp
  obtain ⟨h2',hh2⟩:∃ h2',h2'=h1'.set P (.arr 0 10 true [p0++vs++v1::List.replicate d .nilS]):=⟨_,rfl⟩
  rw [← hh2] at sp
  have f2:∀ (k:Nat) (o:AObj),k≠P→h1'[k]?=some o→h2'[k]?=some o:=fun k o hk e=>by rw [hh2];exact aAs e (Ne.symm hk)
  have ln2:h2'.length=h1'.length:=by rw [hh2];simp
  have b1:=aMx s
  obtain ⟨w',vs',h',g1,g2,g3,g4,g5,g6,g7⟩:=ih (j+1) m (aDa s).2 w1 (xs++[(aDa s).1]) (vs++[v1]) h2' (by omega) (by omega) (by omega) lw (f2 r _ (Ne.symm hrP) er1) (f2 c _ hcP (fm c _ hrc ec)) (f2 Q _ hQP (fm Q _ hQr eQ))
   (by rw [hh2,aAr eP1];simp) (by simp [lv])
   (FrL.snoc (ow.frame (fun i o e g=>f2 i o (by have:=hq i e;omega) g)) (fun i e=>by have:=hq i e;omega) _ _ (FrL.frame (fun k o hk e=>f2 k o (by omega) (fm k o (by omega) e)) _ _ fr)) (by omega)
  refine ⟨w',vs',h',?_,g2,g3,g4,g5,?_,fun k o hk hk2 e=>g7 k o hk hk2 (f2 k o hk2 (fm k o hk e))⟩
  ·rw [← g1]
   simp only [aAj,aFi,Zae,Zaf,Zag,Zah,Zai,Zak,Zan,Zao,Zar,Zav,Zay,Zbc,Zbd,Zbe,Zbm,Zbo,Zbs,Zbt,Zbu,Zbx,Zcd,Zcf,Zct,Zcu,Zcz,Zda,Zdb,Zdc,Zdd,Zde,Zdf,Zdg,Zdh,Q2,Q3,Q0,Q1,Zdi,Zdl,decide_true,eq_self,Q6,Q5,h3,ix,lp,e1,aE8,sp,hw]
  ·rw [List.append_assoc] at g6
   exact g6
end
end Go.Proofs.Ytgeedikghjcebaa.Ai
