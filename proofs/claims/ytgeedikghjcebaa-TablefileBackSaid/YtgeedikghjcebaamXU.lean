/- Equal tables, the fixed examples. -/
import Derived.Test.YtgeedikghjcebaamXT
namespace Go.Proofs.Ytgeedikghjcebaa.Ai
open Go Go.Proofs
open AV renaming junk → J
open List renaming getD_cons_zero → Q0, getD_cons_succ → Q1, set_cons_zero → Q2, set_cons_succ → Q3, length_cons → Q4, length_nil → Q5, cons_append → Q6, nil_append → Q7, replicate_succ → Q8, replicate_zero → Q9
set_option linter.unusedVariables false
set_option linter.unusedSimpArgs false
set_option maxRecDepth 10000
set_option maxHeartbeats 4000000
theorem aVt {a:List Int} {v w:AV} (ha:Li a v) (hb:Li a w) (hm:a.length≤1000000000) (H:aA0):lim G0.cfg (.func 27) [v,w] H=some (.bool true,H):=by
 refine aAF rfl rfl aRE (a.length+1) (fun h=>aFw (ha.fz h 999) (hb.fz h 999)) ?_ (fun _=>rfl) H
 have n1:=ha.len
 have n2:=hb.len
 have lp:∀ (d i m:Nat) (h:aA0),a.length=i+d→d < m→aAu (aA7 (lim G0.cfg) (a.length+1) aEW) m ⟨[v,w,J,J,J,.int .i64 i,J,J,J,J,J,J,J,J,J,J,J,J,J,J,J,J,J,J,J,J],h⟩=some (.exit 0,⟨[J,J,J,J,J,J,J,J,J,J,J,J,J,J,J,J,J,J,J,J,J,J,J,J,J,J],h⟩):=by
  intro d
  induction d with
  | zero =>
   intro i m h h1 h2
   obtain ⟨m,rfl⟩:∃ q,m=q+1:=⟨m - 1,by omega⟩
   have h3:¬ ((i:Int) < a.length):=by omega
   simp only [aAd,aKd,Zaf,Zag,Zah,Zak,Zal,Zan,Zao,Zap,Zaw,Zaz,Zbc,Zbm,Zbo,Zbu,Zck,Zcz,Zdb,Zdg,Zdh,Q2,Q3,Q0,Q1,Zdl,decide_false,eq_self,n1,h3]
  | succ d ih =>
   intro i m h h1 h2
   obtain ⟨m,rfl⟩:∃ q,m=q+1:=⟨m - 1,by omega⟩
   have h3:i < a.length:=by omega
   have h3':(i:Int) < a.length:=by omega
   have hw:=aBb (n:=i) (by omega)
   have x1:=fun h=>ha.ix h .i64 i h3
   have x2:=fun h=>hb.ix h .i64 i h3
   have de:decide (a[i]=a[i])=true:=decide_eq_true rfl
   rw [← ih (i+1) m h (by omega) (by omega)]
   simp only [aAd,aKd,Zae,Zaf,Zag,Zah,Zai,Zak,Zan,Zao,Zar,Zav,Zaw,Zay,Zbc,Zbm,Zbo,Zbs,Zbu,Zcf,Zck,Zcz,Zda,Zdb,Zdf,Zdg,Zdh,Q2,Q3,Q0,Q1,Zdi,Zdl,Zdq,Zer,decide_true,Bool.not_true,eq_self,n1,h3',x1,x2,Zer,hw]
 have e:=lp a.length 0 (a.length+1) [] (by omega) (by omega)
 rw [z0] at e
 have d1:decide ((a.length:Int)=a.length)=true:=decide_eq_true rfl
 rw [aRw]
 simp only [Zae,Zaf,Zag,Zah,Zai,Zaj,Zak,Zam,Zan,Zao,Zat,Zaw,Zax,Zbc,Zbm,Zbo,Zbu,Zck,Zcy,Zcz,Zda,Zdb,Zdf,Zdg,Zdh,Q2,Q3,Q0,Q1,Option.map_some,Zdq,decide_true,Bool.not_true,Q4,Q5,Nat.reduceAdd,Nat.reduceSub,eq_self,true_and,Q4,Q5,Q8,Q9,Q6,Q7,n1,n2,e,aA5,aA4,aA8,Option.some.injEq,Prod.mk.injEq,true_and,exists_eq']
theorem aUz {p:PackD} {cs ds:List AV} (hc:aBi p cs) (hd:aBi p ds) (hm:∀ l ∈ p.lists,l.length≤1000000000) (H:aA0):lim G0.cfg (.func 10) [.agg cs,.agg ds] H=some (.bool true,H):=by
 refine aAF rfl rfl aRF 9 (fun h=>aFw (hc.fz h 998) (hd.fz h 998)) ?_ (fun _=>rfl) H
 obtain ⟨p1,p2,p3⟩:=hc.cells
 obtain ⟨q1,q2,q3⟩:=hd.cells
 obtain ⟨v,hv,e1⟩:=aQx hc
 obtain ⟨w,hw,e2⟩:=aQx hd
 have n1:=hv.len
 have l8:p.lists.length=8:=rfl
 rw [l8] at n1
 have lp:∀ (d i m:Nat) (h:aA0),8=i+d→d < m→aAu (aA7 (lim G0.cfg) 9 aEX) m ⟨(J::J::.ptr 0 0 0 0::.ptr 1 0 0 0::J::v::w::.int .i64 i::J::J::J::J::J::J::J::J::J::J::J::J::J::J::J::J::J::J::J::J::J::J::J::J::J::J::J::J::J::J::J::J::[]),h⟩=some (.exit 0,⟨(J::J::.ptr 0 0 0 0::.ptr 1 0 0 0::J::J::J::J::J::J::J::J::J::J::J::J::J::J::J::J::J::J::J::J::J::J::J::J::J::J::J::J::J::J::J::J::J::J::J::J::[]),h⟩):=by
  intro d
  induction d with
  | zero =>
   intro i m h h1 h2
   obtain ⟨m,rfl⟩:∃ q,m=q+1:=⟨m - 1,by omega⟩
   have h3:¬ ((i:Int) < (8:Nat)):=by omega
   simp only [aAd,aKe,Zaf,Zag,Zah,Zak,Zal,Zan,Zao,Zap,Zaw,Zaz,Zbc,Zbm,Zbo,Zbu,Zck,Zcz,Zdb,Zdf,Zdg,Zdh,Q2,Q3,Q0,Q1,Zdl,decide_false,eq_self,n1,h3]
  | succ d ih =>
   intro i m h h1 h2
   obtain ⟨m,rfl⟩:∃ q,m=q+1:=⟨m - 1,by omega⟩
   have h3':(i:Int) < (8:Nat):=by omega
   have hi:=aBb (n:=i) (by omega)
   obtain ⟨rv,r1,x1⟩:=hv.ix i (by omega)
   obtain ⟨rw',r2,x2⟩:=hw.ix i (by omega)
   have ld:∀ (h:aA0) (r:AV),aAc h 1 false (.vptr [r] 0)=some r:=fun _ _=>rfl
   have fi:=aVt r1 r2 (hm _ (List.getElem_mem _))
   rw [← ih (i+1) m h (by omega) (by omega)]
   simp only [aAd,aKe,Zae,Zaf,Zag,Zah,Zai,Zak,Zan,Zao,Zar,Zav,Zaw,Zay,Zbc,Zbd,Zbm,Zbo,Zbs,Zbu,Zbv,Zcf,Zck,Zct,Zcu,Zcz,Zda,Zdb,Zdd,Zde,Zdf,Zdg,Zdh,Q2,Q3,Q0,Q1,Zdi,Zdl,Zdv,decide_true,Bool.not_true,eq_self,Q6,Q7,n1,h3',x1,x2,ld,fi,hi]
 obtain ⟨X,hX⟩:∃ X,X=AObj.arr 0 10 true [cs]:=⟨_,rfl⟩
 obtain ⟨Y,hY⟩:∃ Y,Y=AObj.arr 0 10 true [ds]:=⟨_,rfl⟩
 have e:=lp 8 0 9 [X,Y] (by omega) (by omega)
 rw [z0] at e
 have lX:aAc [X,Y] 10 true (.ptr 0 0 0 0)=some (.agg cs):=aB1 (b:=true) (by rw [hX];rfl) p3
 have lY:aAc [X,Y] 10 true (.ptr 1 0 0 0)=some (.agg ds):=aB1 (b:=true) (by rw [hY];rfl) q3
 have lt:aAc [X,Y] 1 false (.ptr 0 0 0 0)=some (.int .i64 p.tms)∧aAc [X,Y] 1 false (.ptr 0 0 0 1)=some (.int .i64 p.nts)∧aAc [X,Y] 1 false (.ptr 1 0 0 0)=some (.int .i64 p.tms)∧aAc [X,Y] 1 false (.ptr 1 0 0 1)=some (.int .i64 p.nts):=by
  obtain ⟨a1,a2,a3,a4,b1,b2,b3,b4,ec,_⟩:=hc.ten
  obtain ⟨c1,c2,c3,c4,d1,d2,d3,d4,ed,_⟩:=hd.ten
  have k1:=aFJ (h:=[X,Y]) (i:=0) (by rw [hX,ec];rfl)
  have k2:=aFJ (h:=[X,Y]) (i:=1) (by rw [hY,ed];rfl)
  exact ⟨k1.1,k1.2.1,k2.1,k2.2.1⟩
 obtain ⟨t1,t2,t3,t4⟩:=lt
 have dt:decide (p.tms=p.tms)=true:=decide_eq_true rfl
 have dn:decide (p.nts=p.nts)=true:=decide_eq_true rfl
 rw [aRx]
 simp only [Zaf,Zag,Zai,Zaj,Zak,Zam,Zan,Zao,Zat,Zax,Zbc,Zbd,Zbf,Zbk,Zbm,Zbn,Zbo,Zbp,Zbr,Zbs,Zbu,Zcc,Zct,Zcu,Zcw,Zcy,Zcz,Zda,Zdb,Zdd,Zde,Zdf,Zdg,Zdh,Q2,Q3,Q0,Q1,Option.map_some,Zdp,Zeb,decide_true,Q4,Q5,if_true,Nat.reduceAdd,Nat.reduceSub,eq_self,true_and,Q4,Q5,Q8,Q9,Q6,Q7,p1,p3,q1,q3,eq_self,if_true,Q4,Q5,Q6,Q7,← hX,← hY,lX,lY,e1,e2,e,t1,t2,t3,t4,aA5,aA4,aA8,Option.some.injEq,Prod.mk.injEq,true_and,exists_eq']
theorem aQI {b:List UInt8} {v:AV} {H:aA0} {i:Nat} (ho:aBM b v H i) (hn:b.length≤30000) (he:(aCh b).2≠0):lim G0.cfg (.func 8) [v] H=some (.tup [.agg aAy,.int .i64 (aCh b).2],H):=by
 obtain ⟨cs,_,h2,h3⟩:=aPe (aCX false b) hn
 rw [h2 he] at h3
 exact aL7 rfl (l:=[(.vsl false (eBs b),false)]) (aEo (ho.fz 998)) (aEo ((aCX false b).fz [] 999)) (h3 []) rfl
def ex1:List UInt8:=[65,82,66,50,97,98,99,100]
def ex2:List UInt8:=[65,82,66,49,97,98,99,100]
theorem aU8:(aCh ex1).2=3:=by
 unfold aCh
 rw [if_pos (.inr (by decide))]
theorem aSw:(aCh ex2).2=33:=by
 unfold aCh
 rw [if_neg (by decide),if_pos (by decide +kernel)]
theorem aU4 (h:aA0) (a b c d e f g k:UInt8):aC2 h true 1 8 [.int .u8 0] [(0,.int .u8 a.toNat),(1,.int .u8 b.toNat),(2,.int .u8 c.toNat),(3,.int .u8 d.toNat),(4,.int .u8 e.toNat),(5,.int .u8 f.toNat),(6,.int .u8 g.toNat),(7,.int .u8 k.toNat)]=some (.hsl h.length 0 0 8 none,h++[.arr 0 1 true (eBs [a,b,c,d,e,f,g,k])]):=by
 simp [aC2,aAH,aBg,aAx,cellsOf,aCx,eBs,eB]
theorem aWw (h:aA0) (a:UInt8):aC2 h true 1 1 [.int .u8 0] [(0,.int .u8 a.toNat)]=some (.hsl h.length 0 0 1 none,h++[.arr 0 1 true (eBs [a])]):=by
 simp [aC2,aAH,aBg,aAx,cellsOf,aCx,eBs,eB]
theorem aUU (H:aA0):lim G0.cfg (.func 7) [] H=some (.bool true,H):=by
 refine aAF rfl rfl aQp 1 (fun h=>rfl) ?_ (fun _=>rfl) H
 have t1:aC2 [] true 1 8 [.int .u8 0] [(0,.int .u8 65),(1,.int .u8 82),(2,.int .u8 66),(3,.int .u8 50),(4,.int .u8 97),(5,.int .u8 98),(6,.int .u8 99),(7,.int .u8 100)]=some (.hsl 0 0 0 8 none,[.arr 0 1 true (eBs ex1)]):=aU4 [] 65 82 66 50 97 98 99 100
 obtain ⟨A,hA⟩:∃ A,A=AObj.arr 0 1 true (eBs ex1):=⟨_,rfl⟩
 obtain ⟨Z,hZ⟩:∃ Z,Z=AObj.arr 0 10 true [aAy]:=⟨_,rfl⟩
 obtain ⟨B,hB⟩:∃ B,B=AObj.arr 0 1 true (eBs ex2):=⟨_,rfl⟩
 obtain ⟨C,hC⟩:∃ C,C=AObj.arr 0 1 true (eBs [0]):=⟨_,rfl⟩
 rw [← hA] at t1
 have m1:aGV [A] (.hsl 0 0 0 8 none)=some (.hsl 0 0 0 8 none):=by rw [hA];rfl
 have k1:=aQI (b:=ex1) (v:=.hsl 0 0 0 8 none) (H:=[A]) (i:=0) ⟨by decide,0,true,rfl,by rw [hA];rfl⟩ (by decide) (by rw [aU8];decide)
 rw [aU8] at k1
 have zz:[AV.int .i64 0,.int .i64 0,.nilS,.nilS,.nilS,.nilS,.nilS,.nilS,.nilS,.nilS]=aAy:=rfl
 have zl:aAy.length=10:=rfl
 have s1:aAw [A,Z] 10 (.ptr 1 0 0 0) (.agg aAy)=some [A,Z]:=by
  have:=aB4 (h:=[A,Z]) (i:=1) (ver:=0) (n:=10) (b:=true) (z:=aAy) (l:=aAy) (by rw [hZ];rfl) rfl rfl rfl rfl
  rw [← hZ] at this
  exact this
 have t2:aC2 [A,Z] true 1 8 [.int .u8 0] [(0,.int .u8 65),(1,.int .u8 82),(2,.int .u8 66),(3,.int .u8 49),(4,.int .u8 97),(5,.int .u8 98),(6,.int .u8 99),(7,.int .u8 100)]=some (.hsl 2 0 0 8 none,[A,Z,B]):=by rw [hB];exact aU4 [A,Z] 65 82 66 49 97 98 99 100
 have m2:aGV [A,Z,B] (.hsl 2 0 0 8 none)=some (.hsl 2 0 0 8 none):=by rw [hB];rfl
 have k2:=aQI (b:=ex2) (v:=.hsl 2 0 0 8 none) (H:=[A,Z,B]) (i:=2) ⟨by decide,0,true,rfl,by rw [hB];rfl⟩ (by decide) (by rw [aSw];decide)
 rw [aSw] at k2
 have s2:aAw [A,Z,B,Z] 10 (.ptr 3 0 0 0) (.agg aAy)=some [A,Z,B,Z]:=by
  have:=aB4 (h:=[A,Z,B,Z]) (i:=3) (ver:=0) (n:=10) (b:=true) (z:=aAy) (l:=aAy) (by rw [hZ];rfl) rfl rfl rfl rfl
  rw [← hZ] at this
  exact this
 have q1:=aU6 aL8 (by decide)
 have e1:((aGn []:Nat):Int)=1:=rfl
 have t3:aC2 [A,Z,B,Z] true 1 1 [.int .u8 0] [(0,.int .u8 0)]=some (.hsl 4 0 0 1 none,[A,Z,B,Z,C]):=by rw [hC];exact aWw [A,Z,B,Z] 0
 have q2:=aSs (l:=[0]) (v:=.hsl 4 0 0 1 none) (H:=[A,Z,B,Z,C]) (i:=4) ⟨by decide,0,true,rfl,by rw [hC];rfl⟩ (by decide)
 have e2:((aGn [0]:Nat):Int)=32:=rfl
 rw [e1] at q1
 rw [e2] at q2
 have d1:decide ((1:Int)=1)=true:=rfl
 have d2:decide ((32:Int)=32)=true:=rfl
 have d3:decide ((3:Int)=3)=true:=rfl
 have d4:decide ((33:Int)=33)=true:=rfl
 rw [aQl]
 simp only [Zad,Zaf,Zag,Zam,Zan,Zao,Zbc,Zbd,Zbe,Zbf,Zbk,Zbm,Zbn,Zbo,Zbp,Zbq,Zbt,Zbu,Zcj,Zcr,Zct,Zcu,Zcy,Zcz,Zda,Zdb,Zdc,Zdd,Zde,Q2,Q3,Q0,Q1,Option.map_some,Zdp,Zeq,decide_true,List.getElem?_cons_zero,List.getElem?_cons_succ,Q4,Q5,Nat.reduceAdd,Nat.reduceSub,eq_self,true_and,Q4,Q5,Q8,Q9,Q6,Q7,zz,zl,← hZ,ev2,t1,m1,k1,s1,t2,m2,k2,s2,q1,t3,q2,aA5,aA4,aA8,Option.some.injEq,Prod.mk.injEq,true_and,exists_eq']
end Go.Proofs.Ytgeedikghjcebaa.Ai
namespace Go.Proofs.Ytgeedikghjcebaa.Ai
open Go Go.Proofs
open List renaming length_nil → Q0, length_cons → Q1, getD_cons_zero → Q2, getD_cons_succ → Q3, replicate_succ → Q4, replicate_zero → Q5, set_cons_zero → Q6, set_cons_succ → Q7, getElem?_cons_zero → Q8, getElem?_cons_succ → Q9, cons_append → Z1, nil_append → Z3
open Option.some renaming injEq → Z0
open Option renaming map_some → Z2
open Bool renaming not_true → Z4, not_false → Z5
set_option linter.unusedVariables false
set_option linter.unusedSimpArgs false
set_option maxRecDepth 10000
set_option maxHeartbeats 4000000
noncomputable def okB (p:PackD):Bool:=@decide (aBq p) (Classical.propDecidable _)
theorem aMF {p:PackD} (h:aBq p):okB p=true:=@decide_eq_true _ (Classical.propDecidable _) h
theorem aOF {p:PackD} (h:¬ aBq p):okB p=false:=@decide_eq_false _ (Classical.propDecidable _) h
theorem aUL {p:PackD}:okB p=true↔aBq p:=@decide_eq_true_iff _ (Classical.propDecidable _)
def gdR (c:RowT):Prop:=(∀ x ∈ c.base, -9223372036854775808≤x∧x≤9223372036854775807)∧∀ x ∈ c.val, -9223372036854775808≤x∧x≤9223372036854775807
structure GoodP (p:PackD):Prop where
 a:gdR p.a
 g:gdR p.g
 len:∀ l ∈ p.lists,l.length≤5000
section
variable {p : PackD} {cs : List AV}
theorem GoodP.ok (h:GoodP p):RtOk p.a∧RtOk p.g∧p.g.val.length≤1048576:=by
 have m1:=h.len p.a.row (by simp [PackD.lists])
 have m2:=h.len p.a.base (by simp [PackD.lists])
 have m3:=h.len p.a.val (by simp [PackD.lists])
 have m4:=h.len p.a.own (by simp [PackD.lists])
 have m5:=h.len p.g.row (by simp [PackD.lists])
 have m6:=h.len p.g.base (by simp [PackD.lists])
 have m7:=h.len p.g.val (by simp [PackD.lists])
 have m8:=h.len p.g.own (by simp [PackD.lists])
 exact ⟨⟨by omega,by omega,by omega,by omega,h.a.1,h.a.2⟩,⟨by omega,by omega,by omega,by omega,h.g.1,h.g.2⟩,by omega⟩
theorem GoodP.fR (h:GoodP p) (hp:aBi p cs) (H:aA0):lim G0.cfg (.func 23) [.agg cs] H=some (.bool (okB p),H):=by
 obtain ⟨k1,k2,k3⟩:=h.ok
 obtain ⟨j1,j2⟩:=aQJ hp k1 k2 k3
 by_cases c:aBq p
 ·rw [aMF c];exact j1 c H
 ·rw [aOF c];exact j2 c H
theorem GoodP.rR (h:GoodP p) (hp:aBi p cs) (H:aA0):lim G0.cfg (.func 16) [.agg cs] H=some (.bool (okB p),H):=by
 obtain ⟨k1,k2,k3⟩:=h.ok
 obtain ⟨j1,j2⟩:=aUB hp k1 k2 k3
 by_cases c:aBq p
 ·rw [aMF c];exact j1 c H
 ·rw [aOF c];exact j2 c H
theorem aWq (h:okB p=true):inR p.tms=true∧inR p.nts=true:=by
 obtain ⟨f1,f2,f3,f4,_⟩:=(aUL.1 h).1
 exact ⟨(aGu _).2 ⟨by omega,by omega⟩,(aGu _).2 ⟨by omega,by omega⟩⟩
theorem aV0 (h:GoodP p):(aDy p).length≤1000000:=by
 have lm:aBY.length=4:=rfl
 have h1:=aGD p.tms.toNat
 have h2:=aGD p.nts.toNat
 have e1:=aBJ p.a.row
 have e2:=aBJ p.a.base
 have e3:=aBJ p.a.val
 have e4:=aBJ p.a.own
 have e5:=aBJ p.g.row
 have e6:=aBJ p.g.base
 have e7:=aBJ p.g.val
 have e8:=aBJ p.g.own
 have m1:=h.len p.a.row (by simp [PackD.lists])
 have m2:=h.len p.a.base (by simp [PackD.lists])
 have m3:=h.len p.a.val (by simp [PackD.lists])
 have m4:=h.len p.a.own (by simp [PackD.lists])
 have m5:=h.len p.g.row (by simp [PackD.lists])
 have m6:=h.len p.g.base (by simp [PackD.lists])
 have m7:=h.len p.g.val (by simp [PackD.lists])
 have m8:=h.len p.g.own (by simp [PackD.lists])
 unfold aDy PackD.lists
 simp only [List.length_append,List.flatMap_cons,List.flatMap_nil,Q0]
 omega
theorem GoodP.fP (h:GoodP p) (hp:aBi p cs) (H:aA0):lim G0.cfg (.func 12) [.agg cs] H=some (aHd p (okB p),H) :=
 aWA hp (h.fR hp) aWq (fun r hr=>by have:=h.len r hr;omega) (aV0 h) H
theorem aSa (p:PackD):∃ (w:AV) (l:List UInt8) (e:Int),aHd p (okB p)=.tup [w,.int .i64 e]∧LiB l w∧((e=0∧aBq p∧aKM p=true∧l=aDf p)∨(e=34∧¬ aBq p)∨(e=2∧aBq p)):=by
 by_cases c:aBq p
 ·rw [aMF c]
  cases c2:aKM p with
  | true=>exact ⟨_,aDf p,0,by unfold aHd;rw [c2],aCX _ _,.inl ⟨rfl,c,rfl,rfl⟩⟩
  | false=>exact ⟨_,[],2,by unfold aHd;rw [c2],aL8,.inr (.inr ⟨rfl,c⟩)⟩
 ·rw [aOF c]
  exact ⟨_,[],34,rfl,aL8,.inr (.inl ⟨rfl,c⟩)⟩
end
theorem aPO (b:List UInt8):∀ l ∈ (aCh b).1.lists,l.length≤b.length+1:=by
 have hz:∀ l ∈ aCC.lists,l.length≤b.length+1:=fun l h=>by
  simp only [PackD.lists,aCC,List.mem_cons,List.not_mem_nil,or_false] at h
  rcases h with rfl | rfl | rfl | rfl | rfl | rfl | rfl | rfl <;> simp
 unfold aCh
 split
 ·exact hz
 split
 ·exact hz
 split
 ·exact hz
 split
 ·intro l h
  obtain ⟨h1,h2⟩:=aJF 8 (aAG (aAG ((b.take (b.length - 4)).drop 4,false)).2).2
  rw [aOg _ _ _ h1] at h
  have h3:=(h2 l h).1
  have h4:=aF8 (aAG ((b.take (b.length - 4)).drop 4,false)).2
  have h5:=aF8 ((b.take (b.length - 4)).drop 4,false)
  simp only [List.length_drop,List.length_take] at h5
  omega
 ·exact hz
theorem aP5 {b:List UInt8} (hn:b.length≤4000) (h:(aCh b).2=0):GoodP (aCh b).1:=by
 have ha:aKM (aCh b).1=true:=by
  rw [aKY] at h ⊢
  exact (aOL h).2.2
 have hl:=aPO b
 have k:∀ l ∈ (aCh b).1.lists,∀ x ∈ l, -9223372036854775808≤x∧x≤9223372036854775807:=fun l hl x hx=>by
  have:=(aGu x).1 (List.all_eq_true.1 (List.all_eq_true.1 ha l hl) x hx)
  omega
 exact ⟨⟨k _ (by simp [PackD.lists]),k _ (by simp [PackD.lists])⟩,⟨k _ (by simp [PackD.lists]),k _ (by simp [PackD.lists])⟩,fun l h=>by have:=hl l h;omega⟩
section
variable {p : PackD} {cs : List AV} {b : List UInt8} {v : AV}
theorem aTD (ha:gdR p.a) (hg:gdR p.g) (h:aPd p=true):GoodP p:=by
 have h:=of_decide_eq_true h
 refine ⟨ha,hg,fun l hl => ?_⟩
 simp only [PackD.lists,List.mem_cons,List.not_mem_nil,or_false] at hl
 rcases hl with rfl | rfl | rfl | rfl | rfl | rfl | rfl | rfl <;> omega
theorem aUY (hp:aBi p cs) (ha:gdR p.a) (hg:gdR p.g) (hm:∀ l ∈ p.lists,l.length≤1000000000000000000) (hb:LiB b v) (H:aA0):lim G0.cfg (.func 5) [.agg cs,v] H=some (.bool true,H):=by
 refine aAF rfl rfl aKi 1 (fun h=>aFw (hp.fz h 998) (hb.fz h 999)) ?_ (fun _=>rfl) H
 have nl:=hb.len
 have hk:=aUU
 obtain ⟨p1,p2,p3⟩:=hp.cells
 obtain ⟨X,hX⟩:∃ X,X=AObj.arr 0 10 true [cs]:=⟨_,rfl⟩
 have lX:∀ l:aA0,aAc (X::l) 10 true (.ptr 0 0 0 0)=some (.agg cs):=fun l=>aB1 (b:=true) (by rw [hX];rfl) p3
 have ff:=aWy hp hm
 obtain ⟨Z,hZ⟩:∃ Z,Z=AObj.arr 0 10 true [aAy]:=⟨_,rfl⟩
 have zz:[AV.int .i64 0,.int .i64 0,.nilS,.nilS,.nilS,.nilS,.nilS,.nilS,.nilS,.nilS]=aAy:=rfl
 have zl:aAy.length=10:=rfl
 rw [aKh]
 cases cf:aPd p with
 | false =>
  rw [cf] at ff
  simp only [Zaf,Zag,Zah,Zam,Zan,Zao,Zaq,Zav,Zbc,Zbd,Zbh,Zbk,Zbm,Zbn,Zbo,Zbp,Zbr,Zbs,Zbv,Zct,Zcu,Zcw,Zcy,Zcz,Zda,Zdb,Zdd,Zde,Q6,Q7,Q2,Q3,Z2,Zdv,Z5,Q1,Q0,if_true,Nat.reduceAdd,Nat.reduceSub,eq_self,true_and,Q1,Q0,Q4,Q5,Z1,Z3,p1,p3,eq_self,if_true,← hX,lX,ff,hk,aA5,aA4,aA8,Z0,Prod.mk.injEq,true_and,exists_eq']
 | true =>
 rw [cf] at ff
 by_cases c:(4000:Int) < b.length
 case pos=>simp only [Zaf,Zag,Zah,Zam,Zan,Zao,Zaq,Zav,Zbc,Zbd,Zbg,Zbl,Zbm,Zbn,Zbo,Zbp,Zbr,Zbs,Zbu,Zbv,Zck,Zct,Zcu,Zcw,Zcy,Zcz,Zda,Zdb,Zdd,Zde,Q6,Q7,Q2,Q3,Z2,Zdn,Zdv,decide_true,Z4,Q1,Q0,if_true,Nat.reduceAdd,Nat.reduceSub,eq_self,true_and,Q1,Q0,Q4,Q5,Z1,Z3,p1,p3,eq_self,if_true,← hX,lX,ff,nl,c,hk,aA5,aA4,aA8,Z0,Prod.mk.injEq,true_and,exists_eq']
 case neg =>
 have gd:=aTD ha hg cf
 have e1:=gd.fP hp
 have er:=gd.rR hp
 obtain ⟨w,l,e,ef,hw,hcase⟩:=aSa p
 rw [ef] at e1
 -- what is read from the bytes
 obtain ⟨ds,hd,_,e2⟩:=aPe hb (by omega)
 obtain ⟨q1,q2,q3⟩:=hd.cells
 obtain ⟨Y,hY⟩:∃ Y,Y=AObj.arr 0 10 true [ds]:=⟨_,rfl⟩
 have sb:=hb.str
 have n0:∀ a:Int,a≠0→decide (a=0)=false:=fun a h=>decide_eq_false h
 have d00:decide ((0:Int)=0)=true:=rfl
 obtain ⟨fe,hfe⟩:∃ fe,fe=(aCh b).2:=⟨_,rfl⟩
 rw [← hfe] at e2
 have tail:∀ h:aA0,∃ W:aA0,aAw (h++[Z]) 10 (.ptr h.length 0 0 0) (.agg ds)=some W∧aAc W 10 true (.ptr h.length 0 0 0)=some (.agg ds):=fun h=>by
  have s:=aB4 (h:=h++[Z]) (i:=h.length) (ver:=0) (n:=10) (b:=true) (z:=aAy) (l:=ds) (by rw [hZ];exact aBp _ _) rfl q3 q1 q2
  exact ⟨_,s,aB1 (aAm (by rw [hZ];exact aBp _ _)) q3⟩
 have last:fe=0→∃ x,aHd (aCh b).1 (okB (aCh b).1)=.tup [x,.int .i64 0]∧LiB b x∧GoodP (aCh b).1:=fun h=>by
  rw [hfe] at h
  have gq:=aP5 (by omega) h
  have h':=h
  rw [aKY] at h'
  obtain ⟨t1,t2,t3⟩:=aOL h'
  rw [← aKY] at t1 t2 t3
  refine ⟨.vsl false (eBs (aDf (aCh b).1)),?_,by rw [← t1];exact aCX _ _,gq⟩
  rw [aMF t2]
  unfold aHd
  rw [t3]
 have d34:decide ((34:Int)=0)=false:=rfl
 have d20:decide ((2:Int)=0)=false:=rfl
 have d22:decide ((2:Int)=2)=true:=rfl
 have dbb:decide (b=b)=true:=decide_eq_true rfl
 rcases hcase with ⟨rfl,hok,hall,rfl⟩ | ⟨rfl,hok⟩ | ⟨rfl,hok⟩
 ·-- written and read
  have hT:aCh (aDf p)=(p,0):=by rw [aKY];exact aT4 p hok hall (fun l h=>by have:=gd.len l h;omega)
  have bl:(aDf p).length≤30000:=by
   have h:=of_decide_eq_true cf
   have lm:aBY.length=4:=rfl
   have h1:=aGD p.tms.toNat
   have h2:=aGD p.nts.toNat
   have e1:=aBJ p.a.row
   have e2:=aBJ p.a.base
   have e3:=aBJ p.a.val
   have e4:=aBJ p.a.own
   have e5:=aBJ p.g.row
   have e6:=aBJ p.g.base
   have e7:=aBJ p.g.val
   have e8:=aBJ p.g.own
   have ls:(aDw (aDy p)).length=4:=rfl
   unfold aDf
   rw [List.length_append,ls]
   unfold aDy PackD.lists
   simp only [List.length_append,List.flatMap_cons,List.flatMap_nil,Q0]
   omega
  obtain ⟨cs',hc',_,e3⟩:=aPe hw bl
  rw [hT] at hc' e3
  simp only at hc' e3
  obtain ⟨r1,r2,r3⟩:=hc'.cells
  have es:=aUz hp hc' (fun l h=>by have:=gd.len l h;omega)
  obtain ⟨W,hW⟩:∃ W,W=AObj.arr 0 10 true [cs']:=⟨_,rfl⟩
  have s1:aAw [X,Z] 10 (.ptr 1 0 0 0) (.agg cs')=some [X,W]:=by
   have:=aB4 (h:=[X,Z]) (i:=1) (ver:=0) (n:=10) (b:=true) (z:=aAy) (l:=cs') (by rw [hZ];rfl) rfl r3 r1 r2
   rw [← hW] at this
   exact this
  have l2:aAc [X,W] 10 true (.ptr 1 0 0 0)=some (.agg cs'):=aB1 (b:=true) (by rw [hW];rfl) r3
  obtain ⟨V,s2,l3⟩:=tail [X,W]
  have s2:aAw [X,W,Z] 10 (.ptr 2 0 0 0) (.agg ds)=some V:=s2
  have l3:aAc V 10 true (.ptr 2 0 0 0)=some (.agg ds):=l3
  by_cases cz:fe=0
  case neg =>
   have dz:=n0 fe cz
   simp only [Zae,Zaf,Zag,Zah,Zam,Zan,Zao,Zaq,Zav,Zaw,Zbc,Zbd,Zbe,Zbg,Zbl,Zbm,Zbn,Zbo,Zbp,Zbq,Zbr,Zbs,Zbt,Zbu,Zbv,Zcj,Zck,Zct,Zcu,Zcw,Zcy,Zcz,Zda,Zdb,Zdc,Zdd,Zde,Q6,Q7,Q2,Q3,Z2,Zdn,Zdp,Zdq,Zdv,Zeq,decide_true,decide_false,Z4,Z5,Q8,Q9,Q1,Q0,if_true,Nat.reduceAdd,Nat.reduceSub,eq_self,true_and,Q1,Q0,Q4,Q5,Z1,Z3,zz,zl,← hZ,p1,p3,eq_self,if_true,← hX,lX,ff,nl,c,e1,e3,s1,l2,es,e2,s2,dz,hk,aA5,aA4,aA8,Z0,Prod.mk.injEq,true_and,exists_eq']
  case pos =>
   obtain ⟨x,ex,lx,gq⟩:=last cz
   have e4:=gq.fP hd
   rw [ex] at e4
   have sx:=lx.str
   rw [cz] at e2
   simp only [Zab,Zae,Zaf,Zag,Zah,Zam,Zan,Zao,Zav,Zaw,Zbc,Zbd,Zbe,Zbf,Zbg,Zbk,Zbl,Zbm,Zbn,Zbo,Zbp,Zbq,Zbr,Zbs,Zbt,Zbu,Zbv,Zcj,Zck,Zct,Zcu,Zcw,Zcy,Zcz,Zda,Zdb,Zdc,Zdd,Zde,Q6,Q7,Q2,Q3,Z2,Zdn,Zdp,Zdq,Zdr,Zdv,Zeq,decide_true,decide_false,Z4,Q8,Q9,Q1,Q0,if_true,Nat.reduceAdd,Nat.reduceSub,eq_self,true_and,Q1,Q0,Q4,Q5,Z1,Z3,zz,zl,← hZ,p1,p3,eq_self,if_true,← hX,lX,ff,nl,c,e1,e3,s1,l2,es,e2,s2,l3,e4,sx,sb,hk,aA5,aA4,aA8,Z0,Prod.mk.injEq,true_and,exists_eq']
 ·rw [aOF hok] at er
  obtain ⟨V,s2,l3⟩:=tail [X]
  have s2:aAw [X,Z] 10 (.ptr 1 0 0 0) (.agg ds)=some V:=s2
  have l3:aAc V 10 true (.ptr 1 0 0 0)=some (.agg ds):=l3
  by_cases cz:fe=0
  case neg =>
   have dz:=n0 fe cz
   simp only [Zae,Zaf,Zag,Zah,Zam,Zan,Zao,Zaq,Zav,Zaw,Zbc,Zbd,Zbe,Zbg,Zbi,Zbl,Zbm,Zbn,Zbo,Zbp,Zbq,Zbr,Zbs,Zbt,Zbu,Zbv,Zcj,Zck,Zct,Zcu,Zcw,Zcy,Zcz,Zda,Zdb,Zdc,Zdd,Zde,Q6,Q7,Q2,Q3,Z2,Zdn,Zdp,Zdq,Zdv,Zeq,decide_false,Z4,Z5,Q8,Q9,Q1,Q0,if_true,Nat.reduceAdd,Nat.reduceSub,Int.reduceEq,eq_self,true_and,Q1,Q0,Q4,Q5,Z1,Z3,zz,zl,← hZ,p1,p3,eq_self,if_true,← hX,lX,ff,nl,c,e1,er,e2,s2,dz,hk,aA5,aA4,aA8,Z0,Prod.mk.injEq,true_and,exists_eq']
  case pos =>
   obtain ⟨x,ex,lx,gq⟩:=last cz
   have e4:=gq.fP hd
   rw [ex] at e4
   have sx:=lx.str
   rw [cz] at e2
   simp only [Zab,Zae,Zaf,Zag,Zah,Zam,Zan,Zao,Zaw,Zbc,Zbd,Zbe,Zbf,Zbg,Zbi,Zbk,Zbl,Zbm,Zbn,Zbo,Zbp,Zbq,Zbr,Zbs,Zbt,Zbu,Zbv,Zcj,Zck,Zct,Zcu,Zcw,Zcy,Zcz,Zda,Zdb,Zdc,Zdd,Zde,Q6,Q7,Q2,Q3,Z2,Zdn,Zdp,Zdq,Zdr,Zdv,Zeq,decide_true,decide_false,Z4,Q8,Q9,Q1,Q0,if_true,Nat.reduceAdd,Nat.reduceSub,Int.reduceEq,eq_self,true_and,Q1,Q0,Q4,Q5,Z1,Z3,zz,zl,← hZ,p1,p3,eq_self,if_true,← hX,lX,ff,nl,c,e1,er,e2,s2,l3,e4,sx,sb,hk,aA5,aA4,aA8,Z0,Prod.mk.injEq,true_and,exists_eq']
 ·rw [aMF hok] at er
  obtain ⟨V,s2,l3⟩:=tail [X]
  have s2:aAw [X,Z] 10 (.ptr 1 0 0 0) (.agg ds)=some V:=s2
  have l3:aAc V 10 true (.ptr 1 0 0 0)=some (.agg ds):=l3
  by_cases cz:fe=0
  case neg =>
   have dz:=n0 fe cz
   simp only [Zae,Zaf,Zag,Zah,Zam,Zan,Zao,Zaq,Zav,Zaw,Zbc,Zbd,Zbe,Zbf,Zbg,Zbk,Zbl,Zbm,Zbn,Zbo,Zbp,Zbq,Zbr,Zbs,Zbt,Zbu,Zbv,Zcj,Zck,Zct,Zcu,Zcw,Zcy,Zcz,Zda,Zdb,Zdc,Zdd,Zde,Q6,Q7,Q2,Q3,Z2,Zdn,Zdp,Zdq,Zdv,Zeq,decide_true,decide_false,Z4,Z5,Q8,Q9,Q1,Q0,if_true,Nat.reduceAdd,Nat.reduceSub,Int.reduceEq,eq_self,true_and,Q1,Q0,Q4,Q5,Z1,Z3,zz,zl,← hZ,p1,p3,eq_self,if_true,← hX,lX,ff,nl,c,e1,er,e2,s2,dz,hk,aA5,aA4,aA8,Z0,Prod.mk.injEq,true_and,exists_eq']
  case pos =>
   obtain ⟨x,ex,lx,gq⟩:=last cz
   have e4:=gq.fP hd
   rw [ex] at e4
   have sx:=lx.str
   rw [cz] at e2
   simp only [Zab,Zae,Zaf,Zag,Zah,Zam,Zan,Zao,Zaw,Zbc,Zbd,Zbe,Zbf,Zbg,Zbk,Zbl,Zbm,Zbn,Zbo,Zbp,Zbq,Zbr,Zbs,Zbt,Zbu,Zbv,Zcj,Zck,Zct,Zcu,Zcw,Zcy,Zcz,Zda,Zdb,Zdc,Zdd,Zde,Q6,Q7,Q2,Q3,Z2,Zdn,Zdp,Zdq,Zdr,Zdv,Zeq,decide_true,decide_false,Z4,Q8,Q9,Q1,Q0,if_true,Nat.reduceAdd,Nat.reduceSub,Int.reduceEq,eq_self,true_and,Q1,Q0,Q4,Q5,Z1,Z3,zz,zl,← hZ,p1,p3,eq_self,if_true,← hX,lX,ff,nl,c,e1,er,e2,s2,l3,e4,sx,sb,hk,aA5,aA4,aA8,Z0,Prod.mk.injEq,true_and,exists_eq']
end
end Go.Proofs.Ytgeedikghjcebaa.Ai
