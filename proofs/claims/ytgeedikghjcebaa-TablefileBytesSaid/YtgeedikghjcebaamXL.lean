/- Put as the reference does it: a packed table as bytes. -/
import Derived.Test.YtgeedikghjcebaamXC
import Derived.Test.YtgeedikghjcebaamXK
namespace Go.Proofs.Ytgeedikghjcebaa.Ai
open Go Go.Proofs
open AV renaming junk → J
open List renaming length_cons → Q0, getD_cons_zero → Q1, getD_cons_succ → Q2, set_cons_zero → Q3, set_cons_succ → Q4, length_nil → Q5, cons_append → Q6, nil_append → Q7, getElem?_cons_zero → Q8, getElem?_cons_succ → Q9, length_append → Z0, replicate_succ → Z1, replicate_zero → Z2
open Option renaming map_some → Z3
set_option linter.unusedVariables false
set_option linter.unusedSimpArgs false
set_option maxRecDepth 10000
set_option maxHeartbeats 4000000
def PackD.lists (p:PackD):List (List Int):=[p.a.row,p.a.base,p.a.val,p.a.own,p.g.row,p.g.base,p.g.val,p.g.own]
theorem aGy {h:aA0} {i:Nat} {c0 c1 c2 c3 c4 c5 c6 c7 c8 c9:AV} (e:h[i]?=some (.arr 0 10 true [[c0,c1,c2,c3,c4,c5,c6,c7,c8,c9]])) :
  aAd h 1 false (.ptr i 0 0 0)=some c0∧aAd h 1 false (.ptr i 0 0 1)=some c1∧aAd h 1 false (.ptr i 0 0 2)=some c2∧aAd h 1 false (.ptr i 0 0 3)=some c3∧aAd h 1 false (.ptr i 0 0 4)=some c4∧aAd h 1 false (.ptr i 0 0 5)=some c5∧aAd h 1 false (.ptr i 0 0 6)=some c6∧aAd h 1 false (.ptr i 0 0 7)=some c7∧aAd h 1 false (.ptr i 0 0 8)=some c8∧aAd h 1 false (.ptr i 0 0 9)=some c9:=by
 refine ⟨?_,?_,?_,?_,?_,?_,?_,?_,?_,?_⟩ <;> rw [aAV _ 1 i 0 0 _ false 10 true _ _ e rfl] <;> rfl
theorem aWz (h:aA0) (z a b c d e f g k:AV) (ha:pure1 a=true) (hb:pure1 b=true) (hc:pure1 c=true) (hd:pure1 d=true) (he:pure1 e=true) (hf:pure1 f=true) (hg:pure1 g=true) (hk:pure1 k=true)
  (xa:cellsOf a=[a]) (xb:cellsOf b=[b]) (xc:cellsOf c=[c]) (xd:cellsOf d=[d]) (xe:cellsOf e=[e]) (xf:cellsOf f=[f]) (xg:cellsOf g=[g]) (xk:cellsOf k=[k]) :
  aBO h false 1 8 [z] [(0,a),(1,b),(2,c),(3,d),(4,e),(5,f),(6,g),(7,k)]=some (.vsl true [[a],[b],[c],[d],[e],[f],[g],[k]],h):=by
 simp [aBO,aAG,aBe,aAx,xa,xb,xc,xd,xe,xf,xg,xk,aCi,ha,hb,hc,hd,he,hf,hg,hk]
theorem aBh.ten {p:PackD} {cs:List AV} (hp:aBh p cs):∃ a1 a2 a3 a4 b1 b2 b3 b4,cs=[.int .i64 p.tms,.int .i64 p.nts,a1,a2,a3,a4,b1,b2,b3,b4]∧Li p.a.row a1∧Li p.a.base a2∧Li p.a.val a3∧Li p.a.own a4∧Li p.g.row b1∧Li p.g.base b2∧Li p.g.val b3∧Li p.g.own b4:=by
 obtain ⟨ca,cg,rfl,⟨a1,a2,a3,a4,rfl,ha1,ha2,ha3,ha4⟩,⟨b1,b2,b3,b4,rfl,hb1,hb2,hb3,hb4⟩⟩:=hp
 exact ⟨a1,a2,a3,a4,b1,b2,b3,b4,rfl,ha1,ha2,ha3,ha4,hb1,hb2,hb3,hb4⟩
section
variable {p : PackD} {cs : List AV}
theorem aUo (hp:aBh p cs):∃ w,LiR p.lists w∧∀ H,lim G0.cfg (.func 26) [.agg cs] H=some (w,H):=by
 have fz:=fun h=>aCg (hp.fz h 998)
 obtain ⟨p1,p2,p3⟩:=hp.cells
 have bx:=aCW [] p3 p1
 obtain ⟨a1,a2,a3,a4,b1,b2,b3,b4,rfl,x1,x2,x3,x4,y1,y2,y3,y4⟩:=hp.ten
 refine ⟨.vsl true [[a1],[a2],[a3],[a4],[b1],[b2],[b3],[b4]],.inr ⟨true,_,rfl,rfl,fun j hj => ?_⟩,fun H => ?_⟩
 ·have:p.lists.length=8:=rfl
  rw [this] at hj
  rcases j with _ | _ | _ | _ | _ | _ | _ | _ | j
  ·exact ⟨a1,rfl,x1⟩
  ·exact ⟨a2,rfl,x2⟩
  ·exact ⟨a3,rfl,x3⟩
  ·exact ⟨a4,rfl,x4⟩
  ·exact ⟨b1,rfl,y1⟩
  ·exact ⟨b2,rfl,y2⟩
  ·exact ⟨b3,rfl,y3⟩
  ·exact ⟨b4,rfl,y4⟩
  ·omega
 ·refine aAD rfl rfl aQi 1 fz ?_ (fun _=>rfl) H
  obtain ⟨X,hX⟩:∃ X,X=AObj.arr 0 10 true [[.int .i64 p.tms,.int .i64 p.nts,a1,a2,a3,a4,b1,b2,b3,b4]]:=⟨_,rfl⟩
  obtain ⟨l0,l1,l2,l3,l4,l5,l6,l7,l8,l9⟩:=aGy (h:=[X]) (i:=0) (by rw [hX];rfl)
  have t:=fun h=>aWz h .nilS a1 a2 a3 a4 b1 b2 b3 b4 x1.pure1 x2.pure1 x3.pure1 x4.pure1 y1.pure1 y2.pure1 y3.pure1 y4.pure1 x1.cell.1 x2.cell.1 x3.cell.1 x4.cell.1 y1.cell.1 y2.cell.1 y3.cell.1 y4.cell.1
  rw [aQb]
  simp only [Zaf,Zag,Zam,Zan,Zao,Zbc,Zbd,Zbm,Zbo,Zbr,Zbs,Zcc,Zcr,Zcw,Zcy,Zcz,Zda,Zdb,Q3,Q4,Q1,Q2,Z3,Zeb,Zef,Q0,Q5,if_true,Nat.reduceAdd,Nat.reduceSub,eq_self,true_and,Q0,Q5,Z1,Z2,Q6,Q7,ev2,← hX,l2,l3,l4,l5,l6,l7,l8,l9,t,aA5,aA4,aA8,Option.some.injEq,Prod.mk.injEq,true_and,exists_eq']
def aP9 (p:PackD):Bool:=decide (p.a.row.length+p.a.base.length+p.a.val.length+p.a.own.length+p.g.row.length+p.g.base.length+p.g.val.length+p.g.own.length≤4000)
theorem aWo (hp:aBh p cs) (hm:∀ l ∈ p.lists,l.length≤1000000000000000000) (H:aA0):lim G0.cfg (.func 11) [.agg cs] H=some (.bool (aP9 p),H):=by
 have fz:=fun h=>aCg (hp.fz h 998)
 obtain ⟨p1,p2,p3⟩:=hp.cells
 have bx:=aCW [] p3 p1
 obtain ⟨a1,a2,a3,a4,b1,b2,b3,b4,rfl,x1,x2,x3,x4,y1,y2,y3,y4⟩:=hp.ten
 refine aAD rfl rfl aSO 1 fz ?_ (fun _=>rfl) H
 obtain ⟨X,hX⟩:∃ X,X=AObj.arr 0 10 true [[.int .i64 p.tms,.int .i64 p.nts,a1,a2,a3,a4,b1,b2,b3,b4]]:=⟨_,rfl⟩
 obtain ⟨l0,l1,l2,l3,l4,l5,l6,l7,l8,l9⟩:=aGy (h:=[X]) (i:=0) (by rw [hX];rfl)
 have n1:=x1.len
 have n2:=x2.len
 have n3:=x3.len
 have n4:=x4.len
 have n5:=y1.len
 have n6:=y2.len
 have n7:=y3.len
 have n8:=y4.len
 have m1:=hm p.a.row (by simp [PackD.lists])
 have m2:=hm p.a.base (by simp [PackD.lists])
 have m3:=hm p.a.val (by simp [PackD.lists])
 have m4:=hm p.a.own (by simp [PackD.lists])
 have m5:=hm p.g.row (by simp [PackD.lists])
 have m6:=hm p.g.base (by simp [PackD.lists])
 have m7:=hm p.g.val (by simp [PackD.lists])
 have m8:=hm p.g.own (by simp [PackD.lists])
 have w2:IntKind.i64.wrap ((p.a.row.length:Int)+p.a.base.length)=((p.a.row.length+p.a.base.length:Nat):Int):=by rw [w64 (by omega) (by omega)];omega
 have w3:IntKind.i64.wrap (((p.a.row.length+p.a.base.length:Nat):Int)+p.a.val.length)=((p.a.row.length+p.a.base.length+p.a.val.length:Nat):Int):=by rw [w64 (by omega) (by omega)];omega
 have w4:IntKind.i64.wrap (((p.a.row.length+p.a.base.length+p.a.val.length:Nat):Int)+p.a.own.length)=((p.a.row.length+p.a.base.length+p.a.val.length+p.a.own.length:Nat):Int):=by rw [w64 (by omega) (by omega)];omega
 have w5:IntKind.i64.wrap (((p.a.row.length+p.a.base.length+p.a.val.length+p.a.own.length:Nat):Int)+p.g.row.length)=((p.a.row.length+p.a.base.length+p.a.val.length+p.a.own.length+p.g.row.length:Nat):Int):=by rw [w64 (by omega) (by omega)];omega
 have w6:IntKind.i64.wrap (((p.a.row.length+p.a.base.length+p.a.val.length+p.a.own.length+p.g.row.length:Nat):Int)+p.g.base.length)=((p.a.row.length+p.a.base.length+p.a.val.length+p.a.own.length+p.g.row.length+p.g.base.length:Nat):Int):=by rw [w64 (by omega) (by omega)];omega
 have w7:IntKind.i64.wrap (((p.a.row.length+p.a.base.length+p.a.val.length+p.a.own.length+p.g.row.length+p.g.base.length:Nat):Int)+p.g.val.length)=((p.a.row.length+p.a.base.length+p.a.val.length+p.a.own.length+p.g.row.length+p.g.base.length+p.g.val.length:Nat):Int):=by rw [w64 (by omega) (by omega)];omega
 have w8:IntKind.i64.wrap (((p.a.row.length+p.a.base.length+p.a.val.length+p.a.own.length+p.g.row.length+p.g.base.length+p.g.val.length:Nat):Int)+p.g.own.length)=((p.a.row.length+p.a.base.length+p.a.val.length+p.a.own.length+p.g.row.length+p.g.base.length+p.g.val.length+p.g.own.length:Nat):Int):=by rw [w64 (by omega) (by omega)];omega
 have d:aP9 p=decide (((p.a.row.length+p.a.base.length+p.a.val.length+p.a.own.length+p.g.row.length+p.g.base.length+p.g.val.length+p.g.own.length:Nat):Int)≤4000):=by
  unfold aP9
  exact decide_eq_decide.2 (by omega)
 rw [aSK,d]
 simp only [Zaf,Zag,Zam,Zan,Zao,Zbc,Zbd,Zbm,Zbo,Zbr,Zbs,Zbu,Zcc,Zck,Zcw,Zcy,Zcz,Zda,Zdb,Q3,Q4,Q1,Q2,Z3,Zdi,Zdm,Zeb,Zef,Q0,Q5,if_true,Nat.reduceAdd,Nat.reduceSub,eq_self,true_and,Q0,Q5,Z1,Z2,Q6,Q7,← hX,l2,l3,l4,l5,l6,l7,l8,l9,n1,n2,n3,n4,n5,n6,n7,n8,w2,w3,w4,w5,w6,w7,w8,aA5,aA4,aA8,Option.some.injEq,Prod.mk.injEq,true_and,exists_eq']
end
def aDt (l:List UInt8):List UInt8:=[UInt8.ofNat (aE4 l / 16777216),UInt8.ofNat (aE4 l / 65536),UInt8.ofNat (aE4 l / 256),UInt8.ofNat (aE4 l)]
theorem aLS (q:EqK) (n:Nat):aB2 .shr q (.int .u32 n) (.int .u64 24)=some (.int .u32 ((n / 16777216:Nat):Int)):=aOG q .u32 .u64 n 24 (by decide)
theorem aLT (q:EqK) (n:Nat):aB2 .shr q (.int .u32 n) (.int .u64 16)=some (.int .u32 ((n / 65536:Nat):Int)):=aOG q .u32 .u64 n 16 (by decide)
theorem sh8 (q:EqK) (n:Nat):aB2 .shr q (.int .u32 n) (.int .u64 8)=some (.int .u32 ((n / 256:Nat):Int)):=aOG q .u32 .u64 n 8 (by decide)
theorem aWj (h:aA0) (a b c d:UInt8):aBO h false 1 4 [.int .u8 0] [(0,.int .u8 a.toNat),(1,.int .u8 b.toNat),(2,.int .u8 c.toNat),(3,.int .u8 d.toNat)]=some (.vsl true (eBs [a,b,c,d]),h):=by
 simp [aBO,aAG,aBe,aAx,cellsOf,aCi,pure1,eBs,eB]
theorem aOW (h:aA0) (a b c d:UInt8):aBO h true 1 4 [.int .u8 0] [(0,.int .u8 a.toNat),(1,.int .u8 b.toNat),(2,.int .u8 c.toNat),(3,.int .u8 d.toNat)]=some (.hsl h.length 0 0 4 none,h++[.arr 0 1 true (eBs [a,b,c,d])]):=by
 simp [aBO,aAG,aBe,aAx,cellsOf,aCi,eBs,eB]
section
variable {i : Nat}
theorem aTa {l:List UInt8} {v:AV} {h:aA0} (ho:aBf l v h i) (hl:l.length≤10000000) :
  ∃ (v':AV) (h':aA0),lim G0.cfg (.func 24) [v] h=some (v',h')∧aBf (l++aDt l) v' h' i∧(∀ j o,j≠i→h[j]?=some o→h'[j]?=some o)∧h'.length=h.length:=by
 obtain ⟨v',h',e1,o1,f1,g1⟩:=ho.add (w:=.vsl true (eBs (aDt l))) (m:=aDt l) ((aCC true _).elems h) (by simp [aDt]) 1 (by omega) (by have:(aDt l).length=4:=rfl;omega)
 have e0:=aVl ho hl
 obtain ⟨s,hs⟩:∃ s,s=aE4 l:=⟨_,rfl⟩
 have es:aDt l=[UInt8.ofNat (s / 16777216),UInt8.ofNat (s / 65536),UInt8.ofNat (s / 256),UInt8.ofNat s]:=by rw [hs];rfl
 rw [← hs] at e0
 refine ⟨v',h',aAX rfl aPC 1 ?_,o1,f1,g1⟩
 rw [es] at e1
 have t:=aWj h (UInt8.ofNat (s / 16777216)) (UInt8.ofNat (s / 65536)) (UInt8.ofNat (s / 256)) (UInt8.ofNat s)
 rw [aPv]
 simp only [Zaf,Zag,Zam,Zan,Zao,Zbc,Zbd,Zbm,Zbo,Zbu,Zbw,Zcm,Zcr,Zct,Zcu,Zcy,Zcz,Zda,Zdb,Zdd,Zde,Q3,Q4,Q1,Q2,Z3,Q0,Q5,Nat.reduceAdd,Nat.reduceSub,eq_self,Q0,Q5,Z1,Z2,Q6,Q7,e0,aLS,aLT,sh8,aFW,ev2,t,e1,aA5,aA4,aA8]
end
def aDp:List UInt8:=[65,82,66,49]
def aHj (p:PackD):List UInt8:=aDp++aFO p.tms.toNat++aFO p.nts.toNat++p.lists.flatMap aFP
def aJ7 (p:PackD):List UInt8:=aHj p++aDt (aHj p)
def aM7 (p:PackD):Bool:=p.lists.all fun l=>l.all inR
section
variable {N : Nat} {i : Nat}
theorem aT9 {rows:List (List Int)} {w:AV} (hr:LiR rows w) (hr8:rows.length≤1000) (hn:∀ r ∈ rows,r.length≤100000) :
  ∀ (d j m:Nat) (l:List UInt8) (v:AV) (h:aA0),rows.length=j+d→d < m→aBf l v h i→l.length+600000*d≤10000000 →
  ((rows.drop j).all (fun l=>l.all inR)=true→∃ (v':AV) (h':aA0),aAn (aA7 (lim G0.cfg) N aCn) m ⟨(J::J::J::J::v::.bool true::w::.int .i64 j::J::J::J::J::J::J::J::J::J::J::J::J::J::J::J::J::J::J::J::J::J::J::J::J::J::J::J::J::J::J::J::J::J::J::J::J::J::J::J::J::[]),h⟩=some (.exit 0,⟨(J::J::J::J::v'::.bool true::J::J::J::J::J::J::J::J::J::J::J::J::J::J::J::J::J::J::J::J::J::J::J::J::J::J::J::J::J::J::J::J::J::J::J::J::J::J::J::J::J::J::[]),h'⟩)∧aBf (l++(rows.drop j).flatMap aFP) v' h' i∧(∀ j o,j≠i→h[j]?=some o→h'[j]?=some o)∧h'.length=h.length) ∧
  ((rows.drop j).all (fun l=>l.all inR)=false→∃ (v':AV) (h':aA0),aAn (aA7 (lim G0.cfg) N aCn) m ⟨(J::J::J::J::v::.bool true::w::.int .i64 j::J::J::J::J::J::J::J::J::J::J::J::J::J::J::J::J::J::J::J::J::J::J::J::J::J::J::J::J::J::J::J::J::J::J::J::J::J::J::J::J::[]),h⟩=some (.exit 0,⟨(J::J::J::J::v'::.bool false::J::J::J::J::J::J::J::J::J::J::J::J::J::J::J::J::J::J::J::J::J::J::J::J::J::J::J::J::J::J::J::J::J::J::J::J::J::J::J::J::J::J::[]),h'⟩)):=by
 have nl:=hr.len
 intro d
 induction d with
 | zero =>
  intro j m l v h h1 h2 ho hl
  obtain ⟨m,rfl⟩:∃ q,m=q+1:=⟨m - 1,by omega⟩
  have h3:¬ ((j:Int) < rows.length):=by omega
  rw [List.drop_of_length_le (by omega:rows.length≤j)]
  refine ⟨fun _=>⟨v,h,?_,by rw [List.flatMap_nil,List.append_nil];exact ho,fun _ _ _ e=>e,rfl⟩,fun e=>(by cases e)⟩
  simp only [aAc,aF5,Zaf,Zag,Zah,Zak,Zal,Zan,Zao,Zap,Zaw,Zaz,Zbc,Zbi,Zbl,Zbm,Zbn,Zbo,Zbp,Zbu,Zck,Zcz,Zda,Zdb,Zdf,Zdg,Zdh,Q3,Q4,Q1,Q2,Zdl,decide_false,eq_self,nl,h3]
 | succ d ih =>
  intro j m l v h h1 h2 ho hl
  obtain ⟨m,rfl⟩:∃ q,m=q+1:=⟨m - 1,by omega⟩
  have h3:j < rows.length:=by omega
  have h3':(j:Int) < rows.length:=by omega
  have hw:=aBd (n:=j) (by omega)
  obtain ⟨rv,hrv,ix⟩:=hr.ix j h3
  have ld:∀ h,aAd h 1 false (.vptr [rv] 0)=some rv:=fun _=>rfl
  have hlen:=hn _ (List.getElem_mem h3)
  obtain ⟨k1,k2⟩:=aVi hrv hlen ho (by omega)
  rw [List.drop_eq_getElem_cons h3,List.all_cons,List.flatMap_cons]
  by_cases c:rows[j].all inR=true
  case neg =>
   have c':rows[j].all inR=false:=by simpa using c
   obtain ⟨v1,H1,e,f1,g1⟩:=k2 c'
   rw [c',Bool.false_and]
   obtain ⟨m,rfl⟩:∃ q,m=q+1:=⟨m - 1,by omega⟩
   by_cases h4:((j+1:Nat):Int) < rows.length
   case pos =>
    refine ⟨fun e=>(by cases e),fun _=>⟨v1,H1,?_⟩⟩
    simp only [aAc,aF5,Zae,Zaf,Zag,Zah,Zai,Zak,Zal,Zan,Zao,Zap,Zar,Zav,Zaw,Zay,Zaz,Zbc,Zbd,Zbf,Zbk,Zbm,Zbn,Zbo,Zbp,Zbs,Zbu,Zcf,Zcj,Zck,Zct,Zcu,Zcz,Zda,Zdb,Zdd,Zde,Zdf,Zdg,Zdh,Q3,Q4,Q1,Q2,Zdi,Zdl,Zeq,decide_true,Q8,Q9,eq_self,Q6,Q7,nl,h3',ix,ld,e,hw,h4]
   case neg =>
    refine ⟨fun e=>(by cases e),fun _=>⟨v1,H1,?_⟩⟩
    simp only [aAc,aF5,Zae,Zaf,Zag,Zah,Zai,Zak,Zal,Zan,Zao,Zap,Zar,Zav,Zaw,Zay,Zaz,Zbc,Zbd,Zbf,Zbi,Zbk,Zbl,Zbm,Zbn,Zbo,Zbp,Zbs,Zbu,Zcf,Zcj,Zck,Zct,Zcu,Zcz,Zda,Zdb,Zdd,Zde,Zdf,Zdg,Zdh,Q3,Q4,Q1,Q2,Zdi,Zdl,Zeq,decide_true,decide_false,Q8,Q9,eq_self,Q6,Q7,nl,h3',ix,ld,e,hw,h4]
  case pos =>
  obtain ⟨v1,H1,e1,o1,f1,g1⟩:=k1 c
  have bl:=aDb rows[j]
  obtain ⟨j1,j2⟩:=ih (j+1) m _ v1 H1 (by omega) (by omega) o1 (by rw [Z0];omega)
  have run:aAn (aA7 (lim G0.cfg) N aCn) (m+1) ⟨(J::J::J::J::v::.bool true::w::.int .i64 j::J::J::J::J::J::J::J::J::J::J::J::J::J::J::J::J::J::J::J::J::J::J::J::J::J::J::J::J::J::J::J::J::J::J::J::J::J::J::J::J::[]),h⟩=aAn (aA7 (lim G0.cfg) N aCn) m ⟨(J::J::J::J::v1::.bool true::w::.int .i64 (j+1:Nat)::J::J::J::J::J::J::J::J::J::J::J::J::J::J::J::J::J::J::J::J::J::J::J::J::J::J::J::J::J::J::J::J::J::J::J::J::J::J::J::J::[]),H1⟩:=by
   simp only [aAc,aF5,Zae,Zaf,Zag,Zah,Zai,Zak,Zan,Zao,Zar,Zav,Zay,Zbc,Zbd,Zbf,Zbk,Zbm,Zbn,Zbo,Zbp,Zbs,Zbu,Zcf,Zcj,Zck,Zct,Zcu,Zcz,Zda,Zdb,Zdd,Zde,Zdf,Zdg,Zdh,Q3,Q4,Q1,Q2,Zdi,Zdl,Zeq,decide_true,Q8,Q9,eq_self,Q6,Q7,nl,h3',ix,ld,e1,hw]
  rw [run,c,Bool.true_and,← List.append_assoc]
  refine ⟨fun e => ?_,j2⟩
  obtain ⟨v',h',e2,o2,f2,g2⟩:=j1 e
  exact ⟨v',h',e2,o2,fun p o hp e=>f2 p o hp (f1 p o hp e),by omega⟩
variable {p : PackD} {cs : List AV}
theorem aOT (h:aA0):aBO h true 1 4 [.int .u8 0] [(0,.int .u8 65),(1,.int .u8 82),(2,.int .u8 66),(3,.int .u8 49)]=some (.hsl h.length 0 0 4 none,h++[.arr 0 1 true (eBs aDp)]):=aOW h 65 82 66 49
theorem aPs (h:aA0) (l:List (List AV)) (n:Nat) (hn:0 < n):aGY (h++[.arr 0 1 true l]) (.hsl h.length 0 0 n none)=some (.hsl h.length 0 0 n none):=by
 simp [aGY,aAe,hn]
theorem aLX (h:aA0):aBf aDp (.hsl h.length 0 0 4 none) (h++[.arr 0 1 true (eBs aDp)]) h.length:=⟨by decide,0,true,rfl,aBw _ _⟩
theorem aUA (hp:aBh p cs) (ht:inR p.tms=true) (hs:inR p.nts=true) (hn:∀ r ∈ p.lists,r.length≤100000) (H:aA0) :
  (aM7 p=true→lim G0.cfg (.func 31) [.agg cs] H=some (.tup [.vsl false (eBs (aJ7 p)),.bool true],H)) ∧
  (aM7 p=false→lim G0.cfg (.func 31) [.agg cs] H=some (.tup [.nilS,.bool false],H)):=by
 have fz:=fun h=>aCg (hp.fz h 998)
 obtain ⟨p1,p2,p3⟩:=hp.cells
 have bx:=aCW [] p3 p1
 obtain ⟨w,hw,el⟩:=aUo hp
 obtain ⟨a1,a2,a3,a4,b1,b2,b3,b4,rfl,x1,x2,x3,x4,y1,y2,y3,y4⟩:=hp.ten
 obtain ⟨X,hX⟩:∃ X,X=AObj.arr 0 10 true [[.int .i64 p.tms,.int .i64 p.nts,a1,a2,a3,a4,b1,b2,b3,b4]]:=⟨_,rfl⟩
 have gx:∀ h:aA0,h[0]?=some X→aAd h 1 false (.ptr 0 0 0 0)=some (.int .i64 p.tms)∧aAd h 1 false (.ptr 0 0 0 1)=some (.int .i64 p.nts)∧aAd h 10 true (.ptr 0 0 0 0)=some (.agg [.int .i64 p.tms,.int .i64 p.nts,a1,a2,a3,a4,b1,b2,b3,b4]):=fun h e=>by
  rw [hX] at e
  obtain ⟨l0,l1,_⟩:=aGy e
  exact ⟨l0,l1,aB5 e rfl⟩
 have mk:=aOT [X]
 have am:=aPs [X] (eBs aDp) 4 (by omega)
 have om:=aLX [X]
 obtain ⟨h0,hh0⟩:∃ h0,h0=[X]++[AObj.arr 0 1 true (eBs aDp)]:=⟨_,rfl⟩
 rw [← hh0] at mk am om
 have z0':h0[0]?=some X:=by rw [hh0];rfl
 have l1:([X]:aA0).length=1:=rfl
 rw [l1] at mk am om
 obtain ⟨q1,q2,q3⟩:=gx h0 z0'
 obtain ⟨k1,_⟩:=aOE om (by decide) p.tms
 obtain ⟨v1,H1,e1,o1,f1,g1⟩:=k1 ht
 have z1:=f1 0 _ (by decide) z0'
 obtain ⟨q4,q5,q6⟩:=gx H1 z1
 have bl1:=aEK p.tms.toNat
 have bl2:=aEK p.nts.toNat
 have lm:aDp.length=4:=rfl
 obtain ⟨k2,_⟩:=aOE o1 (by rw [Z0];omega) p.nts
 obtain ⟨v2,H2,e2,o2,f2,g2⟩:=k2 hs
 have z2:=f2 0 _ (by decide) z1
 obtain ⟨q7,q8,q9⟩:=gx H2 z2
 have e3:=el H2
 have l8:p.lists.length=8:=rfl
 obtain ⟨j1,j2⟩:=aT9 (N:=9) hw (by omega) hn 8 0 9 _ v2 H2 (by omega) (by omega) o2 (by rw [Z0,Z0];omega)
 rw [z0,List.drop_zero] at j1 j2
 refine ⟨fun c => ?_,fun c => ?_⟩
 ·obtain ⟨v3,H3,e4,o3,f3,g3⟩:=j1 c
  have hb:(aDp++aFO p.tms.toNat++aFO p.nts.toNat++p.lists.flatMap aFP)=aHj p:=rfl
  rw [hb] at o3
  have hbl:(aHj p).length≤10000000:=by
   rw [← hb]
   have m:∀ (l:List (List Int)),(∀ r ∈ l,r.length≤100000)→(l.flatMap aFP).length≤600000*l.length:=by
    intro l
    induction l with
    | nil=>intro _;simp
    | cons a l ih =>
     intro h
     have i1:=ih (fun r hr=>h r (List.mem_cons_of_mem _ hr))
     have i2:=aDb a
     have i3:=h a (List.mem_cons_self ..)
     rw [List.flatMap_cons,Z0,Q0]
     omega
   have:=m p.lists hn
   simp only [Z0]
   omega
  obtain ⟨v4,H4,e5,o4,f4,g4⟩:=aTa o3 hbl
  have fz4:=o4.fz 997
  refine aDg rfl rfl aLL 9 fz (h':=H4) (x:=.tup [v4,.bool true]) (c:=false && (true && true)) ?_ (aTp (k:=999) fz4 (rfl:freeze H4 999 (.bool true)=some (.bool true,true))) H
  rw [aLI]
  simp only [Zad,Zae,Zaf,Zag,Zah,Zai,Zaj,Zak,Zam,Zan,Zao,Zat,Zav,Zaw,Zax,Zbc,Zbd,Zbm,Zbo,Zbr,Zbs,Zbv,Zcc,Zcj,Zcr,Zct,Zcu,Zcw,Zcy,Zcz,Zda,Zdb,Zdd,Zde,Zdf,Zdg,Zdh,Q3,Q4,Q1,Q2,Z3,Zdv,Zeb,Zef,Zeq,Bool.not_true,Q8,Q9,Q0,Q5,if_true,Nat.reduceAdd,Nat.reduceSub,eq_self,Q0,Q5,Z1,Z2,Q6,Q7,ev2,← hX,mk,am,q1,e1,q5,e2,q9,e3,e4,e5,aA5,aA4,aA8]
 ·obtain ⟨v3,H3,e4⟩:=j2 c
  refine aDg rfl rfl aLL 9 fz (h':=H3) (x:=.tup [.nilS,.bool false]) ?_ (rfl:freeze H3 1000 (.tup [.nilS,.bool false])=some (.tup [.nilS,.bool false],true)) H
  rw [aLI]
  simp only [Zad,Zaf,Zag,Zah,Zai,Zaj,Zak,Zam,Zan,Zao,Zaq,Zat,Zav,Zax,Zbc,Zbd,Zbm,Zbo,Zbr,Zbs,Zbv,Zcc,Zcj,Zcr,Zct,Zcu,Zcw,Zcy,Zcz,Zda,Zdb,Zdd,Zde,Zdf,Zdg,Zdh,Q3,Q4,Q1,Q2,Z3,Zdv,Zeb,Zef,Zeq,Bool.not_false,Q8,Q9,Q0,Q5,if_true,Nat.reduceAdd,Nat.reduceSub,eq_self,Q0,Q5,Z1,Z2,Q6,Q7,ev2,← hX,mk,am,q1,e1,q5,e2,q9,e3,e4,aA5,aA4,aA8]
end
end Go.Proofs.Ytgeedikghjcebaa.Ai
namespace Go.Proofs.Ytgeedikghjcebaa.Ai
open Go Go.Proofs
open AV renaming junk → J
open List renaming getD_cons_zero → Q0, getD_cons_succ → Q1, length_cons → Q2, set_cons_zero → Q3, set_cons_succ → Q4, length_nil → Q5, cons_append → Q6, nil_append → Q7, replicate_succ → Q8, replicate_zero → Q9
open Option renaming map_some → Z0
open Option.some renaming injEq → Z1
open Bool renaming not_false → Z2
set_option linter.unusedVariables false
set_option linter.unusedSimpArgs false
set_option maxRecDepth 10000
set_option maxHeartbeats 4000000
theorem aVE (x:Int) (H:aA0):lim G0.cfg (.func 30) [.int .i64 x] H=some (.bool (!inR x),H):=by
 refine aAD rfl rfl aLh 1 (fun h=>aCg rfl) ?_ (fun _=>rfl) H
 rw [aLd]
 by_cases c1:x < 0
 case pos =>
  have e:inR x=false:=by simp [inR];omega
  simp only [Zaf,Zag,Zam,Zan,Zao,Zbc,Zbh,Zbk,Zbm,Zbn,Zbo,Zbp,Zbu,Zcy,Zcz,Zda,Zdb,Q3,Q4,Q0,Q1,Z0,Zdl,decide_true,Z2,Q2,Q5,Nat.reduceAdd,Nat.reduceSub,eq_self,true_and,Q2,Q5,Q8,Q9,Q6,Q7,c1,e,aA5,aA4,aA8,Z1,Prod.mk.injEq,true_and,exists_eq']
 case neg =>
 by_cases c2:2147483647 < x
 case pos =>
  have e:inR x=false:=by simp [inR];omega
  simp only [Zaf,Zag,Zam,Zan,Zao,Zbc,Zbg,Zbl,Zbm,Zbn,Zbo,Zbp,Zbu,Zcy,Zcz,Zda,Zdb,Q3,Q4,Q0,Q1,Z0,Zdl,Zdn,decide_true,decide_false,Z2,Q2,Q5,Nat.reduceAdd,Nat.reduceSub,eq_self,true_and,Q2,Q5,Q8,Q9,Q6,Q7,c1,c2,e,aA5,aA4,aA8,Z1,Prod.mk.injEq,true_and,exists_eq']
 case neg =>
 have e:inR x=true:=by simp [inR];omega
 simp only [Zaf,Zag,Zam,Zan,Zao,Zbc,Zbg,Zbl,Zbm,Zbn,Zbo,Zbp,Zbu,Zcy,Zcz,Zda,Zdb,Q3,Q4,Q0,Q1,Z0,Zdl,Zdn,decide_false,Bool.not_true,Q2,Q5,Nat.reduceAdd,Nat.reduceSub,eq_self,true_and,Q2,Q5,Q8,Q9,Q6,Q7,c1,c2,e,aA5,aA4,aA8,Z1,Prod.mk.injEq,true_and,exists_eq']
theorem aQ5 {xs:List Int} {w:AV} (hl:Li xs w) (hn:xs.length≤1000000000) (H:aA0):lim G0.cfg (.func 29) [w,.fn (.func 30) [] []] H=some (.bool (!xs.all inR),H):=by
 have nl:=hl.len
 have fz:=fun h=>aGz (h:=h) (hl.fz h 999) (rfl:freeze h 1000 (.fn (.func 30) [] [])=some (.fn (.func 30) [] [],true))
 have lp:∀ (d i m:Nat) (h:aA0),xs.length=i+d→d < m →
   ((xs.drop i).all inR=true→aAn (aA7 (lim G0.cfg) (xs.length+1) aAT) m ⟨[w,.fn (.func 30) [] [],J,J,J,J,J,.int .i64 xs.length,.int .i64 i,J,J,J,J,J,J,J,J,J,J],h⟩=some (.exit 0,⟨[J,J,J,J,J,J,J,J,J,J,J,J,J,J,J,J,J,J,J],h⟩)) ∧
   ((xs.drop i).all inR=false→∃ k:Nat,aAn (aA7 (lim G0.cfg) (xs.length+1) aAT) m ⟨[w,.fn (.func 30) [] [],J,J,J,J,J,.int .i64 xs.length,.int .i64 i,J,J,J,J,J,J,J,J,J,J],h⟩=some (.ret,⟨[J,J,J,J,.int .i64 k,J,J,J,J,J,J,J,J,J,J,J,J,J,J],h⟩)):=by
  intro d
  induction d with
  | zero =>
   intro i m h h1 h2
   obtain ⟨m,rfl⟩:∃ q,m=q+1:=⟨m - 1,by omega⟩
   have h3:¬ ((i:Int) < xs.length):=by omega
   rw [List.drop_of_length_le (by omega:xs.length≤i)]
   refine ⟨fun _ => ?_,fun e=>(by cases e)⟩
   simp only [aAc,aCl,Zaf,Zag,Zah,Zak,Zal,Zan,Zao,Zap,Zaw,Zaz,Zbc,Zbm,Zbu,Zcz,Zdb,Zdg,Zdh,Q3,Q4,Q0,Q1,Zdl,decide_false,eq_self,h3]
  | succ d ih =>
   intro i m h h1 h2
   obtain ⟨m,rfl⟩:∃ q,m=q+1:=⟨m - 1,by omega⟩
   have h3:i < xs.length:=by omega
   have h3':(i:Int) < xs.length:=by omega
   have hw:=aBd (n:=i) (by omega)
   have ix:=fun h=>hl.ix h .i64 i h3
   have f1:=aVE xs[i]
   rw [List.drop_eq_getElem_cons h3,List.all_cons]
   cases c:inR xs[i] with
   | false =>
    rw [c] at f1
    rw [Bool.false_and]
    refine ⟨fun e=>(by cases e),fun _=>⟨i,?_⟩⟩
    simp only [aAc,aCl,Zae,Zaf,Zag,Zah,Zai,Zak,Zam,Zan,Zao,Zaq,Zas,Zav,Zba,Zbc,Zbd,Zbm,Zbo,Zbs,Zbu,Zcf,Zct,Zcu,Zcz,Zdb,Zdd,Zde,Zdf,Zdg,Zdh,Q3,Q4,Q0,Q1,Zdl,Zer,decide_true,Z2,eq_self,Q6,Q7,h3',ix,f1]
   | true =>
    rw [c] at f1
    rw [Bool.true_and]
    have run:aAn (aA7 (lim G0.cfg) (xs.length+1) aAT) (m+1) ⟨[w,.fn (.func 30) [] [],J,J,J,J,J,.int .i64 xs.length,.int .i64 i,J,J,J,J,J,J,J,J,J,J],h⟩=aAn (aA7 (lim G0.cfg) (xs.length+1) aAT) m ⟨[w,.fn (.func 30) [] [],J,J,J,J,J,.int .i64 xs.length,.int .i64 (i+1:Nat),J,J,J,J,J,J,J,J,J,J],h⟩:=by
     simp only [aAc,aCl,Zae,Zaf,Zag,Zah,Zai,Zak,Zan,Zao,Zar,Zav,Zaw,Zay,Zbc,Zbd,Zbm,Zbo,Zbs,Zbu,Zcf,Zct,Zcu,Zcz,Zda,Zdb,Zdd,Zde,Zdf,Zdg,Zdh,Q3,Q4,Q0,Q1,Zdi,Zdl,Zer,decide_true,Bool.not_true,eq_self,Q6,Q7,h3',ix,f1,hw]
    rw [run]
    exact ih (i+1) m h (by omega) (by omega)
 obtain ⟨k1,k2⟩:=lp xs.length 0 (xs.length+1) [] (by omega) (by omega)
 rw [z0,List.drop_zero] at k1 k2
 cases c:xs.all inR with
 | true =>
  have e:=k1 c
  have f:∀ H,lim G0.cfg (.func 34) [w,.fn (.func 30) [] []] H=some (.int .i64 (-1),H):=fun H=>by
   refine aAD rfl rfl aE3 (xs.length+1) fz ?_ (fun _=>rfl) H
   rw [aE2]
   simp only [Zaf,Zag,Zai,Zaj,Zak,Zam,Zan,Zao,Zat,Zax,Zbc,Zbm,Zbo,Zck,Zcy,Zcz,Zda,Zdb,Zdf,Zdg,Zdh,Q3,Q4,Q0,Q1,Z0,Q2,Q5,Nat.reduceAdd,Nat.reduceSub,Int.reduceNeg,eq_self,true_and,Q2,Q5,Q8,Q9,Q6,Q7,nl,e,aA5,aA4,aA8,Z1,Prod.mk.injEq,true_and,exists_eq']
  refine aAD rfl rfl aDz 1 fz ?_ (fun _=>rfl) H
  rw [aDy]
  simp only [Zaf,Zag,Zam,Zan,Zao,Zbc,Zbd,Zbm,Zbo,Zbu,Zct,Zcu,Zcy,Zcz,Zda,Zdb,Zdd,Zde,Q3,Q4,Q0,Q1,Z0,Zdo,decide_false,Bool.not_true,Q2,Q5,Nat.reduceAdd,Nat.reduceSub,Int.reduceNeg,Int.reduceLE,eq_self,true_and,Q2,Q5,Q8,Q9,Q6,Q7,f,aA5,aA4,aA8,Z1,Prod.mk.injEq,true_and,exists_eq']
 | false =>
  obtain ⟨k,e⟩:=k2 c
  have f:∀ H,lim G0.cfg (.func 34) [w,.fn (.func 30) [] []] H=some (.int .i64 k,H):=fun H=>by
   refine aAD rfl rfl aE3 (xs.length+1) fz ?_ (fun _=>rfl) H
   rw [aE2]
   simp only [Zaf,Zag,Zai,Zaj,Zak,Zan,Zao,Zaq,Zas,Zax,Zbc,Zbm,Zbo,Zck,Zcy,Zcz,Zda,Zdb,Zdf,Zdg,Zdh,Q3,Q4,Q0,Q1,Z0,Q2,Q5,Nat.reduceAdd,Nat.reduceSub,Int.reduceNeg,eq_self,true_and,Q2,Q5,Q8,Q9,Q6,Q7,nl,e,aA5,aA4,aA8,Z1,Prod.mk.injEq,true_and,exists_eq']
  refine aAD rfl rfl aDz 1 fz ?_ (fun _=>rfl) H
  have dk:(0:Int)≤k:=by omega
  rw [aDy]
  simp only [Zaf,Zag,Zam,Zan,Zao,Zbc,Zbd,Zbm,Zbo,Zbu,Zct,Zcu,Zcy,Zcz,Zda,Zdb,Zdd,Zde,Q3,Q4,Q0,Q1,Z0,Zdo,decide_true,Z2,Q2,Q5,Nat.reduceAdd,Nat.reduceSub,eq_self,true_and,Q2,Q5,Q8,Q9,Q6,Q7,f,dk,aA5,aA4,aA8,Z1,Prod.mk.injEq,true_and,exists_eq']
def aGT (i:Nat):List (List AV):=[[.ptr i 0 0 2],[.ptr i 0 0 3],[.ptr i 0 0 4],[.ptr i 0 0 5],[.ptr i 0 0 6],[.ptr i 0 0 7],[.ptr i 0 0 8],[.ptr i 0 0 9]]
theorem aQw (i:Nat) (h:aA0):lim G0.cfg (.func 20) [.ptr i 0 0 0] h=some (.hsl h.length 0 0 8 none,h++[.arr 0 1 true (aGT i)]):=by
 refine aAX rfl aLg 1 ?_
 have t:aBO h false 1 8 [.nilP] [(0,.ptr i 0 0 2),(1,.ptr i 0 0 3),(2,.ptr i 0 0 4),(3,.ptr i 0 0 5),(4,.ptr i 0 0 6),(5,.ptr i 0 0 7),(6,.ptr i 0 0 8),(7,.ptr i 0 0 9)]=some (.hsl h.length 0 0 8 none,h++[.arr 0 1 true (aGT i)]):=by
  simp [aBO,aAG,aBe,aAx,cellsOf,aCi,pure1,aGT]
 rw [aLc]
 simp only [Zaf,Zag,Zam,Zan,Zao,Zbc,Zbd,Zbm,Zbo,Zcc,Zcd,Zcr,Zcy,Zcz,Zda,Zdb,Q3,Q4,Q0,Q1,Z0,Zeb,Q2,Q5,Nat.reduceAdd,Nat.reduceSub,eq_self,Q2,Q5,Q8,Q9,Q6,Q7,aEL,ev2,t,aA5,aA4,aA8]
theorem aOa (i j:Nat) (hj:j < 8):(aGT i)[j]?=some [.ptr i 0 0 (2+j)]:=by
 rcases j with _ | _ | _ | _ | _ | _ | _ | _ | j <;> first | rfl | omega
theorem aWl (h:aA0) (n:Int):aBO h true 1 1 [.int .i64 0] [(0,.int .i64 n)]=some (.hsl h.length 0 0 1 none,h++[.arr 0 1 true (eIs [n])]):=by
 simp [aBO,aAG,aBe,aAx,cellsOf,aCi,eIs,eI]
theorem aWk (h:aA0) (n m:Int):aBO h true 1 2 [.int .i64 0] [(0,.int .i64 n),(1,.int .i64 m)]=some (.hsl h.length 0 0 2 none,h++[.arr 0 1 true (eIs [n,m])]):=by
 simp [aBO,aAG,aBe,aAx,cellsOf,aCi,eIs,eI]
section
variable {p : PackD} {cs : List AV} {N : Nat}
theorem aBh.row (hp:aBh p cs) (i j:Nat) (hj:j < p.lists.length):∃ rv,Li p.lists[j] rv∧∀ h:aA0,h[i]?=some (.arr 0 10 true [cs])→aAd h 1 false (.ptr i 0 0 (2+j))=some rv:=by
 obtain ⟨a1,a2,a3,a4,b1,b2,b3,b4,rfl,x1,x2,x3,x4,y1,y2,y3,y4⟩:=hp.ten
 have l8:p.lists.length=8:=rfl
 rw [l8] at hj
 rcases j with _ | _ | _ | _ | _ | _ | _ | _ | j
 ·exact ⟨a1,x1,fun h e=>(aGy e).2.2.1⟩
 ·exact ⟨a2,x2,fun h e=>(aGy e).2.2.2.1⟩
 ·exact ⟨a3,x3,fun h e=>(aGy e).2.2.2.2.1⟩
 ·exact ⟨a4,x4,fun h e=>(aGy e).2.2.2.2.2.1⟩
 ·exact ⟨b1,y1,fun h e=>(aGy e).2.2.2.2.2.2.1⟩
 ·exact ⟨b2,y2,fun h e=>(aGy e).2.2.2.2.2.2.2.1⟩
 ·exact ⟨b3,y3,fun h e=>(aGy e).2.2.2.2.2.2.2.2.1⟩
 ·exact ⟨b4,y4,fun h e=>(aGy e).2.2.2.2.2.2.2.2.2⟩
 ·omega
theorem aVx (hp:aBh p cs) (hn:∀ r ∈ p.lists,r.length≤100000) {q:Nat} (hq:q≠1) :
  ∀ (d j m:Nat) (l:List UInt8) (v:AV) (h:aA0),p.lists.length=j+d→d < m→aBf l v h 1→h[0]?=some (.arr 0 10 true [cs])→h[q]?=some (.arr 0 1 true (aGT 0))→l.length+600000*d≤10000000 →
  ((p.lists.drop j).all (fun l=>l.all inR)=true→∃ (v':AV) (h':aA0),aAn (aA7 (lim G0.cfg) N aBJ) m ⟨(J::J::J::J::v::J::J::J::J::J::J::J::J::J::J::J::J::J::J::.hsl q 0 0 8 none::.int .i64 8::.int .i64 j::J::J::J::J::J::J::J::J::J::J::J::J::J::J::J::J::J::J::J::J::J::J::J::J::J::J::J::J::J::J::J::J::J::J::J::J::J::J::J::[]),h⟩=some (.exit 0,⟨(J::J::J::J::v'::J::J::J::J::J::J::J::J::J::J::J::J::J::J::J::J::J::J::J::J::J::J::J::J::J::J::J::J::J::J::J::J::J::J::J::J::J::J::J::J::J::J::J::J::J::J::J::J::J::J::J::J::J::J::J::J::[]),h'⟩)∧aBf (l++(p.lists.drop j).flatMap aFP) v' h' 1) ∧
  ((p.lists.drop j).all (fun l=>l.all inR)=false→∃ (h':aA0),aAn (aA7 (lim G0.cfg) N aBJ) m ⟨(J::J::J::J::v::J::J::J::J::J::J::J::J::J::J::J::J::J::J::.hsl q 0 0 8 none::.int .i64 8::.int .i64 j::J::J::J::J::J::J::J::J::J::J::J::J::J::J::J::J::J::J::J::J::J::J::J::J::J::J::J::J::J::J::J::J::J::J::J::J::J::J::J::[]),h⟩=some (.ret,⟨(J::J::.nilS::.int .i64 2::J::J::J::J::J::J::J::J::J::J::J::J::J::J::J::J::J::J::J::J::J::J::J::J::J::J::J::J::J::J::J::J::J::J::J::J::J::J::J::J::J::J::J::J::J::J::J::J::J::J::J::J::J::J::J::J::J::[]),h'⟩)):=by
 have l8:p.lists.length=8:=rfl
 intro d
 induction d with
 | zero =>
  intro j m l v h h1 h2 ho e0 eq hl
  obtain ⟨m,rfl⟩:∃ q,m=q+1:=⟨m - 1,by omega⟩
  have h3:¬ ((j:Int) < 8):=by omega
  rw [List.drop_of_length_le (by omega:p.lists.length≤j)]
  refine ⟨fun _=>⟨v,h,?_,by rw [List.flatMap_nil,List.append_nil];exact ho⟩,fun e=>(by cases e)⟩
  simp only [aAc,aEO,Zaf,Zag,Zah,Zak,Zal,Zan,Zao,Zap,Zaw,Zaz,Zbc,Zbm,Zbu,Zcz,Zdb,Zdf,Zdg,Zdh,Q3,Q4,Q0,Q1,Zdl,decide_false,eq_self,h3]
 | succ d ih =>
  intro j m l v h h1 h2 ho e0 eq hl
  obtain ⟨m,rfl⟩:∃ q,m=q+1:=⟨m - 1,by omega⟩
  have h3:j < p.lists.length:=by omega
  have h3':(j:Int) < 8:=by omega
  have hw:=aBd (n:=j) (by omega)
  obtain ⟨rv,hrv,ld⟩:=hp.row 0 j h3
  have ix:=aBW (c:=none) (n:=8) eq (k:=.i64) (j:=j) (by omega)
  have lp:aAd h 1 false (.ptr q 0 j 0)=some (.ptr 0 0 0 (2+j)):=by rw [aAV h 1 q 0 j 0 false 1 true _ _ eq (aOa 0 j (by omega))];rfl
  have d1:=ld h e0
  have hlen:=hn _ (List.getElem_mem h3)
  have fc:=aQ5 hrv (by omega) h
  rw [List.drop_eq_getElem_cons h3,List.all_cons,List.flatMap_cons]
  cases c:(p.lists[j]).all inR with
  | false =>
   rw [c] at fc
   rw [Bool.false_and]
   refine ⟨fun e=>(by cases e),fun _=>⟨h,?_⟩⟩
   simp only [aAc,aEO,Zae,Zaf,Zag,Zah,Zai,Zak,Zam,Zan,Zao,Zaq,Zas,Zav,Zba,Zbc,Zbd,Zbm,Zbo,Zbs,Zbu,Zcd,Zcf,Zct,Zcu,Zcz,Zda,Zdb,Zdd,Zde,Zdf,Zdg,Zdh,Q3,Q4,Q0,Q1,Zdl,decide_true,Z2,eq_self,Q6,Q7,h3',ix,lp,aEL,d1,fc]
  | true =>
  rw [c] at fc
  rw [Bool.true_and]
  have hx:∀ x ∈ p.lists[j],0≤x∧x≤2147483647:=fun x hx=>(aFz x).1 (List.all_eq_true.1 c x hx)
  obtain ⟨xs,hxs⟩:∃ xs,xs=p.lists[j]:=⟨_,rfl⟩
  rw [← hxs] at hrv hlen hx ⊢
  have nl:=hrv.len
  have lt:=ho.lt
  have t1:=aWl h xs.length
  obtain ⟨h1,hh1⟩:∃ h1,h1=h++[AObj.arr 0 1 true (eIs [(xs.length:Int)])]:=⟨_,rfl⟩
  have up1:∀ (i:Nat) (o:AObj),h[i]?=some o→h1[i]?=some o:=fun i o e=>by rw [hh1];exact aAJ e _
  have o0:aBf l v h1 1:=ho.frame (fun o e=>up1 1 o e)
  have rd1:RdI [(xs.length:Int)] (.hsl h.length 0 0 1 none) h1 (some h.length):=aS1 (xs:=[(xs.length:Int)]) (x:=true) (by rw [hh1];exact aBw _ _)
  rw [← hh1] at t1
  obtain ⟨v1,H1,e1,o1,f1,g1⟩:=aRc rd1 (by intro f;have:=Option.some.inj f;omega) (by intro x hx;rw [List.mem_singleton] at hx;subst hx;omega) (by simp) o0 (by omega)
  have z1:=f1 0 _ (by decide) (up1 0 _ e0)
  have zq:=f1 q _ hq (up1 q _ eq)
  have b1:=aFQ [(xs.length:Int)]
  have lone:[(xs.length:Int)].length=1:=rfl
  obtain ⟨v2,H2,e2,o2,f2,g2⟩:=aRc (hrv.rd H1) (by intro f;cases f) hx (by omega) o1 (by rw [List.length_append];omega)
  have b2:=aFQ xs
  have eE:aFP xs=aC0 [(xs.length:Int)]++aC0 xs:=by
   have:aC0 [(xs.length:Int)]=aFO xs.length:=by simp [aC0]
   rw [this];rfl
  have d2:=ld h1 (up1 0 _ e0)
  have d3:=ld H1 z1
  obtain ⟨j1,j2⟩:=ih (j+1) m _ v2 H2 (by omega) (by omega) o2 (f2 0 _ (by decide) z1) (f2 q _ hq zq) (by rw [List.length_append,List.length_append];omega)
  have run:aAn (aA7 (lim G0.cfg) N aBJ) (m+1) ⟨(J::J::J::J::v::J::J::J::J::J::J::J::J::J::J::J::J::J::J::.hsl q 0 0 8 none::.int .i64 8::.int .i64 j::J::J::J::J::J::J::J::J::J::J::J::J::J::J::J::J::J::J::J::J::J::J::J::J::J::J::J::J::J::J::J::J::J::J::J::J::J::J::J::[]),h⟩=aAn (aA7 (lim G0.cfg) N aBJ) m ⟨(J::J::J::J::v2::J::J::J::J::J::J::J::J::J::J::J::J::J::J::.hsl q 0 0 8 none::.int .i64 8::.int .i64 (j+1:Nat)::J::J::J::J::J::J::J::J::J::J::J::J::J::J::J::J::J::J::J::J::J::J::J::J::J::J::J::J::J::J::J::J::J::J::J::J::J::J::J::[]),H2⟩:=by
   simp only [aAc,aEO,Zae,Zaf,Zag,Zah,Zai,Zak,Zan,Zao,Zar,Zav,Zaw,Zay,Zbc,Zbd,Zbm,Zbo,Zbs,Zbu,Zcd,Zcf,Zck,Zcr,Zct,Zcu,Zcz,Zda,Zdb,Zdd,Zde,Zdf,Zdg,Zdh,Q3,Q4,Q0,Q1,Zdi,Zdl,decide_true,Bool.not_true,eq_self,Q6,Q7,aKS,aKa,aK9,aK8,aK7,aK6,aK5,aK4,aK3,aK2,aK1,aJw,aJv,aJu,aJt,aJs,aJr,aJq,aNR,aNP,aNQ,aMY,aJp,h3',ix,lp,aEL,d1,d2,d3,fc,nl,ev2,t1,e1,e2,hw]
  rw [run,eE,← List.append_assoc,← List.append_assoc]
  exact ⟨j1,j2⟩
end
end Go.Proofs.Ytgeedikghjcebaa.Ai
namespace Go.Proofs.Ytgeedikghjcebaa.Ai
open Go Go.Proofs
open AV renaming junk → J
open List renaming getD_cons_zero → Q0, getD_cons_succ → Q1, set_cons_zero → Q2, set_cons_succ → Q3, length_cons → Q4, nil_append → Q5, cons_append → Q6, length_nil → Q7, replicate_succ → Q8
set_option linter.unusedVariables false
set_option linter.unusedSimpArgs false
set_option maxRecDepth 10000
set_option maxHeartbeats 4000000
theorem aO3:∀ (k:Nat) (s:List UInt8 × Bool),(aEZ k s).1.length=k∧(aEZ k s).2.1.length≤s.1.length
 | 0,s=>⟨rfl,Nat.le_refl _⟩
 | k+1,s=>by
  have h1:=aO3 k (aAH s).2
  have h2:=aGv s
  simp only [aEZ,Q4]
  omega
theorem aOf (s:List UInt8 × Bool):(aFm s).1.length≤s.1.length+1∧(aFm s).2.1.length≤s.1.length:=by
 unfold aFm
 have h1:=aO3 (min (aAH s).1 ((aAH s).2.1.length+1)) (aAH s).2
 have h2:=aGv s
 omega
def aCZ:Nat→List UInt8 × Bool→List (List Int) × (List UInt8 × Bool)
 | 0,s=>([],s)
 | k+1,s=>((aFm s).1::(aCZ k (aFm s).2).1,(aCZ k (aFm s).2).2)
section
variable {r B N : Nat}
theorem aVs (hr:r < B) (L0:Nat) (h0:L0≤40000) (K:Int):∀ (d i m:Nat) (s:List UInt8 × Bool) (w v:AV) (xs:List Int) (q:Option Nat) (h:aA0),K=((i+d:Nat):Int)→d < m→i+d≤100000→s.1.length≤L0→LiB s.1 w→h[r]?=some (rdO w s.2)→aAi 1 (eIs xs) v h q→xs.length=i→(∀ i,q=some i→B≤i)→B≤h.length →
  ∃ (w' v':AV) (q':Option Nat) (h':aA0),aAn (aA7 (lim G0.cfg) N aCI) m ⟨[J,.fn (.func 19) [.ptr r 0 0 0] [],J,J,J,J,v,J,J,J,J,J,J,.int .i64 K,.int .i64 i,J,J,J,J,J,J,J,J],h⟩=some (.exit 0,⟨[J,J,J,J,J,J,v',J,J,J,J,J,J,J,J,J,J,J,J,J,J,J,J],h'⟩) ∧
   LiB (aEZ d s).2.1 w'∧h'[r]?=some (rdO w' (aEZ d s).2.2)∧aAi 1 (eIs (xs++(aEZ d s).1)) v' h' q'∧(∀ i,q'=some i→B≤i)∧B≤h'.length∧(∀ (j:Nat) (o:AObj),j < B→j≠r→h[j]?=some o→h'[j]?=some o):=by
 intro d
 induction d with
 | zero =>
  intro i m s w v xs q h h1 h2 hk hs hl er ow lx hq hB
  obtain ⟨m,rfl⟩:∃ q,m=q+1:=⟨m - 1,by omega⟩
  have h3:¬ ((i:Int) < K):=by omega
  refine ⟨w,v,q,h,?_,hl,er,by simp only [aEZ,List.append_nil];exact ow,hq,hB,fun _ _ _ _ e=>e⟩
  simp only [aAc,aGo,Zaf,Zag,Zah,Zak,Zal,Zan,Zao,Zap,Zaw,Zaz,Zbc,Zbm,Zbu,Zcz,Zdb,Zdf,Zdg,Zdh,Q2,Q3,Q0,Q1,Zdl,decide_false,eq_self,h3]
 | succ d ih =>
  intro i m s w v xs q h h1 h2 hk hs hl er ow lx hq hB
  obtain ⟨m,rfl⟩:∃ q,m=q+1:=⟨m - 1,by omega⟩
  have h3:(i:Int) < K:=by omega
  have hw:=aBd (n:=i) (by omega)
  obtain ⟨w1,lw,e1⟩:=aHX hl (by omega) er
  have e1':lim G0.cfg (.func 19) [.ptr r 0 0 0] h=some (.int .i64 (aAH s).1,h.set r (rdO w1 (aAH s).2.2)):=e1
  obtain ⟨h1',hh1⟩:∃ h1',h1'=h.set r (rdO w1 (aAH s).2.2):=⟨_,rfl⟩
  rw [← hh1] at e1'
  have er1:h1'[r]?=some (rdO w1 (aAH s).2.2):=by rw [hh1];exact aAo er
  have f1:∀ (j:Nat) (o:AObj),j≠r→h[j]?=some o→h1'[j]?=some o:=fun j o hj e=>by rw [hh1];exact aAv e (Ne.symm hj)
  have ow1:aAi 1 (eIs xs) v h1' q:=ow.frame (fun i o e g=>f1 i o (by have:=hq i e;omega) g)
  have t1:=aD9 h1' (.int .i64 0) (.int .i64 (aAH s).1) rfl rfl
  obtain ⟨iv,ver,H1,r1,r2,r3,r4,r5⟩:=ow1.push true (c:=[.int .i64 (aAH s).1]) rfl rfl (aBX _) 8 (by omega) (by rw [Zet];omega)
  rw [Zet] at r1 r2
  have ln1:h1'.length=h.length:=by rw [hh1];simp
  have tiv:B≤iv:=by
   rcases r4 with g | ⟨_,g⟩
   ·exact hq iv g
   ·omega
  have eS:eIs xs++[[.int .i64 (aAH s).1]]=eIs (xs++[((aAH s).1:Int)]):=by simp [eIs,eI]
  rw [eS] at r2
  obtain ⟨vv,hvv⟩:∃ vv,vv=AV.hsl iv ver 0 (xs.length+1) none:=⟨_,rfl⟩
  rw [← hvv] at r1 r2
  have b1:=aGv s
  obtain ⟨w',v',q',h',g1,g2,g3,g4,g5,g6,g7⟩:=ih (i+1) m (aAH s).2 w1 vv (xs++[((aAH s).1:Int)]) (some iv) H1 (by omega) (by omega) (by omega) (by omega) lw (r3 r _ er1 (fun e=>by have:=hq r e;omega)) r2 (by simp [lx]) (fun i e=>by cases e;exact tiv) (by omega)
  refine ⟨w',v',q',h',?_,g2,g3,?_,g5,g6,fun j o hj hn e=>g7 j o hj hn (r3 j o (f1 j o hn e) (fun e=>by have:=hq j e;omega))⟩
  ·rw [← g1]
   simp only [aAc,aGo,Zae,Zaf,Zag,Zah,Zai,Zak,Zan,Zao,Zar,Zav,Zay,Zbc,Zbd,Zbm,Zbo,Zbu,Zcm,Zcr,Zct,Zcu,Zcz,Zda,Zdb,Zdd,Zdf,Zdg,Zdh,Q2,Q3,Q0,Q1,Zdi,Zdl,decide_true,eq_self,Q6,Q5,h3,e1',ev2,t1,r1,hw]
  ·rw [List.append_assoc] at g4
   exact g4
theorem aVX (a b:Int):aJ8 false [.int .i64 a,.int .i64 b]=some (.int .i64 (min a b)):=by
 simp only [aJ8,amm]
 by_cases h:a≤b
 ·rw [Int.min_eq_left h];simp;omega
 ·rw [Int.min_eq_right (by omega)];simp;omega
theorem aVB {h:aA0} {c:Nat} {w:AV} {l:List UInt8} {b:Bool} (ec:h[c]?=some (.arr 0 1 true [[.ptr r 0 0 0]])) (hl:LiB l w) (er:h[r]?=some (rdO w b)):lim G0.cfg (.func 22) [.ptr c 0 0 0] h=some (.int .i64 l.length,h):=by
 refine aAX rfl aKN 1 ?_
 have l0:aAd h 1 false (.ptr c 0 0 0)=some (.ptr r 0 0 0):=by rw [aAV h 1 c 0 0 0 false 1 true _ _ ec rfl];rfl
 have l1:=aOD er
 have nl:=hl.len
 rw [aKJ]
 simp only [Zaf,Zag,Zam,Zan,Zao,Zbc,Zbm,Zbo,Zbs,Zcc,Zcd,Zck,Zcy,Zcz,Zda,Zdb,Q2,Q3,Q0,Q1,Option.map_some,Zeb,Q4,Q7,Nat.reduceAdd,Nat.reduceSub,eq_self,Q4,Q7,Q8,List.replicate_zero,Q6,Q5,l0,aEL,l1,nl,aA5,aA4,aA8]
theorem aUJ {h:aA0} {c:Nat} {w:AV} {s:List UInt8 × Bool} (hl:LiB s.1 w) (hn:s.1.length≤40000) (er:h[r]?=some (rdO w s.2)) (hc:c≠r) (ec:h[c]?=some (.arr 0 1 true [[.ptr r 0 0 0]])) :
  ∃ (w' v':AV) (q':Option Nat) (h':aA0),lim G0.cfg (.func 21) [.fn (.func 22) [] [.ptr c 0 0 0],.fn (.func 19) [.ptr r 0 0 0] []] h=some (v',h') ∧
   LiB (aFm s).2.1 w'∧h'[r]?=some (rdO w' (aFm s).2.2)∧aAi 1 (eIs (aFm s).1) v' h' q'∧(∀ i,q'=some i→h.length≤i)∧h.length≤h'.length∧(∀ (j:Nat) (o:AObj),j≠r→h[j]?=some o→h'[j]?=some o):=by
 obtain ⟨w1,lw,e1⟩:=aHX hl (by omega) er
 have e1':lim G0.cfg (.func 19) [.ptr r 0 0 0] h=some (.int .i64 (aAH s).1,h.set r (rdO w1 (aAH s).2.2)):=e1
 obtain ⟨h1,hh1⟩:∃ h1,h1=h.set r (rdO w1 (aAH s).2.2):=⟨_,rfl⟩
 rw [← hh1] at e1'
 have er1:h1[r]?=some (rdO w1 (aAH s).2.2):=by rw [hh1];exact aAo er
 have f1:∀ (j:Nat) (o:AObj),j≠r→h[j]?=some o→h1[j]?=some o:=fun j o hj e=>by rw [hh1];exact aAv e (Ne.symm hj)
 have ln1:h1.length=h.length:=by rw [hh1];simp
 have e2:=aVB (f1 c _ hc ec) lw er1
 have b1:=aGv s
 have wl:IntKind.i64.wrap (((aAH s).2.1.length:Int)+1)=(((aAH s).2.1.length+1:Nat):Int):=by rw [w64 (by omega) (by omega)];omega
 have em:=aVX (aAH s).1 (((aAH s).2.1.length+1:Nat):Int)
 have eM:min ((aAH s).1:Int) (((aAH s).2.1.length+1:Nat):Int)=((min (aAH s).1 ((aAH s).2.1.length+1):Nat):Int):=by omega
 rw [eM] at em
 obtain ⟨w',v',q',h',g1,g2,g3,g4,g5,g6,g7⟩:=aVs (N:=100000) (B:=h1.length) (aBH er1) 40000 (by omega) ((min (aAH s).1 ((aAH s).2.1.length+1):Nat):Int) (min (aAH s).1 ((aAH s).2.1.length+1)) 0 100000 (aAH s).2 w1 .nilS [] none h1 (by omega) (by omega) (by omega) (by omega) lw er1 (aAi.nil 1 _) rfl (fun _ e=>by cases e) (Nat.le_refl _)
 rw [z0] at g1
 rw [Q5] at g4
 refine ⟨w',v',q',h',aAX rfl aMb 100000 ?_,g2,g3,g4,fun i e=>by have:=g5 i e;omega,by omega,fun j o hj e=>g7 j o (by rw [ln1];exact aBH e) hj (f1 j o hj e)⟩
 rw [aMa]
 simp only [Zaf,Zag,Zai,Zaj,Zak,Zam,Zan,Zao,Zat,Zax,Zbc,Zbd,Zbm,Zbo,Zbu,Zcp,Zct,Zcu,Zcy,Zcz,Zda,Zdb,Zdd,Zde,Zdf,Zdg,Zdh,Q2,Q3,Q0,Q1,Option.map_some,Zdi,Q4,Q7,Nat.reduceAdd,Nat.reduceSub,eq_self,Q4,Q7,Q8,List.replicate_zero,Q6,Q5,e1',e2,wl,em,g1,aA5,aA4,aA8]
end
def FrL (B:Nat):List (List Int)→List AV→aA0→Prop
 | [],[],_=>True
 | x::xs,v::vs,h=>(∃ q,aAi 1 (eIs x) v h q∧∀ i,q=some i→B≤i)∧FrL B xs vs h
 | _,_,_=>False
theorem FrL.frame {B:Nat} {h h':aA0} (hf:∀ (j:Nat) (o:AObj),B≤j→h[j]?=some o→h'[j]?=some o):∀ (xs:List (List Int)) (vs:List AV),FrL B xs vs h→FrL B xs vs h'
 | [],[],_=>trivial
 | x::xs,v::vs,⟨⟨q,h1,h2⟩,h3⟩=>⟨⟨q,h1.frame (fun i o e g=>hf i o (h2 i e) g),h2⟩,FrL.frame hf xs vs h3⟩
 | [],_::_,h=>h.elim
 | _::_,[],h=>h.elim
theorem FrL.snoc {B:Nat} {h:aA0} {x:List Int} {v:AV} {q:Option Nat} (ho:aAi 1 (eIs x) v h q) (hq:∀ i,q=some i→B≤i):∀ (xs:List (List Int)) (vs:List AV),FrL B xs vs h→FrL B (xs++[x]) (vs++[v]) h
 | [],[],_=>⟨⟨q,ho,hq⟩,trivial⟩
 | _::xs,_::vs,⟨a,b⟩=>⟨a,FrL.snoc ho hq xs vs b⟩
 | [],_::_,h=>h.elim
 | _::_,[],h=>h.elim
theorem aVa {h:aA0} {P:Nat} {pre post:List AV} {v:AV} {n:Nat} (e:h[P]?=some (.arr 0 n true [pre++.nilS::post])) (hc:cellsOf v=[v]∧aAr v=true):aAw h 1 (.ptr P 0 0 pre.length) v=some (h.set P (.arr 0 n true [pre++v::post])):=by
 rw [aNF h 1 P 0 0 pre.length _ n true _ _ e rfl (by rw [hc.1];rfl) (by simp) (by rw [hc.1];simp [hc.2])]
 rw [hc.1]
 have:aAx (pre++.nilS::post) pre.length [v]=pre++v::post:=by
  simp [aAx]
 rw [this];rfl
section
variable {r c P Q B N : Nat}
theorem aV9 (hrc:c≠r) (hrP:P≠r) (hcP:c≠P) (hQr:Q≠r) (hQP:Q≠P) (hB1:r < B) (hB2:P < B) (t2:AV) (p0:List AV) (hp0:p0.length=2) :
  ∀ (d j m:Nat) (s:List UInt8 × Bool) (w:AV) (xs:List (List Int)) (vs:List AV) (h:aA0),8=j+d→d < m→s.1.length≤40000→LiB s.1 w→h[r]?=some (rdO w s.2)→h[c]?=some (.arr 0 1 true [[.ptr r 0 0 0]])→h[Q]?=some (.arr 0 1 true (aGT P)) →
   h[P]?=some (.arr 0 10 true [p0++vs++List.replicate d .nilS])→vs.length=j→FrL B xs vs h→B≤h.length →
  ∃ (w':AV) (vs':List AV) (h':aA0),aAn (aA7 (lim G0.cfg) N aCJ) m ⟨(J::J::t2::J::J::J::J::.ptr c 0 0 0::.fn (.func 19) [.ptr r 0 0 0] []::.ptr P 0 0 0::J::J::J::J::J::J::J::J::J::J::J::J::J::J::J::J::J::J::J::J::J::J::J::J::J::J::J::J::J::J::J::J::J::J::J::J::J::J::J::J::J::J::J::J::J::J::J::J::J::J::J::J::J::J::J::J::J::J::J::.hsl Q 0 0 8 none::.int .i64 8::.int .i64 j::J::J::J::J::J::J::J::J::J::J::J::J::J::J::J::J::J::J::J::J::J::J::J::J::J::J::J::[]),h⟩=some (.exit 1,⟨(J::J::t2::J::J::J::J::.ptr c 0 0 0::J::.ptr P 0 0 0::J::J::J::J::J::J::J::J::J::J::J::J::J::J::J::J::J::J::J::J::J::J::J::J::J::J::J::J::J::J::J::J::J::J::J::J::J::J::J::J::J::J::J::J::J::J::J::J::J::J::J::J::J::J::J::J::J::J::J::J::J::J::J::J::J::J::J::J::J::J::J::J::J::J::J::J::J::J::J::J::J::J::J::J::J::J::J::J::J::[]),h'⟩) ∧
   LiB (aCZ d s).2.1 w'∧h'[r]?=some (rdO w' (aCZ d s).2.2)∧h'[P]?=some (.arr 0 10 true [p0++vs'])∧vs'.length=8∧FrL B (xs++(aCZ d s).1) vs' h'∧(∀ (j:Nat) (o:AObj),j≠r→j≠P→h[j]?=some o→h'[j]?=some o):=by
 intro d
 induction d with
 | zero =>
  intro j m s w xs vs h h1 h2 hs hl er ec eQ eP lv fr hB
  obtain ⟨m,rfl⟩:∃ q,m=q+1:=⟨m - 1,by omega⟩
  have h3:¬ ((j:Int) < 8):=by omega
  refine ⟨w,vs,h,?_,hl,er,by simpa using eP,by omega,by simp only [aCZ,List.append_nil];exact fr,fun _ _ _ _ e=>e⟩
  simp only [aAc,aGp,Zaf,Zag,Zah,Zak,Zal,Zan,Zao,Zap,Zaw,Zaz,Zbc,Zbm,Zbu,Zcz,Zdb,Zdf,Zdg,Zdh,Q2,Q3,Q0,Q1,Zdl,decide_false,eq_self,h3]
 | succ d ih =>
  intro j m s w xs vs h h1 h2 hs hl er ec eQ eP lv fr hB
  obtain ⟨m,rfl⟩:∃ q,m=q+1:=⟨m - 1,by omega⟩
  have h3:(j:Int) < 8:=by omega
  have hw:=aBd (n:=j) (by omega)
  have ix:=aBW (c:=none) (n:=8) eQ (k:=.i64) (j:=j) (by omega)
  have lp:aAd h 1 false (.ptr Q 0 j 0)=some (.ptr P 0 0 (2+j)):=by rw [aAV h 1 Q 0 j 0 false 1 true _ _ eQ (aOa P j (by omega))];rfl
  obtain ⟨w1,v1,q1,h1',e1,lw,er1,ow,hq,ln,fm⟩:=aUJ hl hs er hrc ec
  have eP1:=fm P _ hrP eP
  have pl:(p0++vs).length=2+j:=by rw [List.length_append,hp0,lv]
  rw [Q8] at eP1
  have sp:=aVa (v:=v1) eP1 ow.cell
  rw [pl] at sp
  obtain ⟨h2',hh2⟩:∃ h2',h2'=h1'.set P (.arr 0 10 true [p0++vs++v1::List.replicate d .nilS]):=⟨_,rfl⟩
  rw [← hh2] at sp
  have f2:∀ (k:Nat) (o:AObj),k≠P→h1'[k]?=some o→h2'[k]?=some o:=fun k o hk e=>by rw [hh2];exact aAv e (Ne.symm hk)
  have ln2:h2'.length=h1'.length:=by rw [hh2];simp
  have b1:=aOf s
  obtain ⟨w',vs',h',g1,g2,g3,g4,g5,g6,g7⟩:=ih (j+1) m (aFm s).2 w1 (xs++[(aFm s).1]) (vs++[v1]) h2' (by omega) (by omega) (by omega) lw (f2 r _ (Ne.symm hrP) er1) (f2 c _ hcP (fm c _ hrc ec)) (f2 Q _ hQP (fm Q _ hQr eQ))
   (by rw [hh2,aAo eP1];simp) (by simp [lv])
   (FrL.snoc (ow.frame (fun i o e g=>f2 i o (by have:=hq i e;omega) g)) (fun i e=>by have:=hq i e;omega) _ _ (FrL.frame (fun k o hk e=>f2 k o (by omega) (fm k o (by omega) e)) _ _ fr)) (by omega)
  refine ⟨w',vs',h',?_,g2,g3,g4,g5,?_,fun k o hk hk2 e=>g7 k o hk hk2 (f2 k o hk2 (fm k o hk e))⟩
  ·rw [← g1]
   simp only [aAc,aGp,Zae,Zaf,Zag,Zah,Zai,Zak,Zan,Zao,Zar,Zav,Zay,Zbc,Zbd,Zbe,Zbm,Zbo,Zbs,Zbt,Zbu,Zbx,Zcd,Zcf,Zct,Zcu,Zcz,Zda,Zdb,Zdc,Zdd,Zde,Zdf,Zdg,Zdh,Q2,Q3,Q0,Q1,Zdi,Zdl,decide_true,eq_self,Q6,Q5,h3,ix,lp,e1,aEL,sp,hw]
  ·rw [List.append_assoc] at g6
   exact g6
end
end Go.Proofs.Ytgeedikghjcebaa.Ai
