/- Equal tables, the fixed examples. -/
import Derived.Test.YtgeedikghjcebaamXT
namespace Go.Proofs.Ytgeedikghjcebaa.Ai
open Go Go.Proofs
open AV renaming junk → J
open List renaming getD_cons_zero → Q0, getD_cons_succ → Q1, set_cons_zero → Q2, set_cons_succ → Q3, length_cons → Q4, length_nil → Q5, cons_append → Q6, nil_append → Q7, replicate_succ → Q8, replicate_zero → Q9
set_option linter.unusedVariables false
set_option linter.unusedSimpArgs false
set_option maxRecDepth 10000
set_option maxHeartbeats 4000000
theorem aUP {a:List Int} {v w:AV} (ha:Li a v) (hb:Li a w) (hm:a.length≤1000000000) (H:aA0):lim G0.cfg (.func 27) [v,w] H=some (.bool true,H):=by
 refine aAF rfl rfl aR6 (a.length+1) (fun h=>aGH (ha.fz h 999) (hb.fz h 999)) ?_ (fun _=>rfl) H
 have n1:=ha.len
 have n2:=hb.len
 have lp:∀ (d i m:Nat) (h:aA0),a.length=i+d→d < m→aAp (aA7 (lim G0.cfg) (a.length+1) aFa) m ⟨[v,w,J,J,J,.int .i64 i,J,J,J,J,J,J,J,J,J,J,J,J,J,J,J,J,J,J,J,J],h⟩=some (.exit 0,⟨[J,J,J,J,J,J,J,J,J,J,J,J,J,J,J,J,J,J,J,J,J,J,J,J,J,J],h⟩):=by
  intro d
  induction d with
  | zero =>
   intro i m h h1 h2
   obtain ⟨m,rfl⟩:∃ q,m=q+1:=⟨m - 1,by omega⟩
   have h3:¬ ((i:Int) < a.length):=by omega
   simp only [aAc,aKd,Zaf,Zag,Zah,Zak,Zal,Zan,Zao,Zap,Zaw,Zaz,Zbc,Zbm,Zbo,Zbu,Zck,Zcz,Zdb,Zdg,Zdh,Q2,Q3,Q0,Q1,Zdl,decide_false,eq_self,n1,h3]
  | succ d ih =>
   intro i m h h1 h2
   obtain ⟨m,rfl⟩:∃ q,m=q+1:=⟨m - 1,by omega⟩
   have h3:i < a.length:=by omega
   have h3':(i:Int) < a.length:=by omega
   have hw:=aB6 (n:=i) (by omega)
   have x1:=fun h=>ha.ix h .i64 i h3
   have x2:=fun h=>hb.ix h .i64 i h3
   have de:decide (a[i]=a[i])=true:=decide_eq_true rfl
   rw [← ih (i+1) m h (by omega) (by omega)]
   simp only [aAc,aKd,Zae,Zaf,Zag,Zah,Zai,Zak,Zan,Zao,Zar,Zav,Zaw,Zay,Zbc,Zbm,Zbo,Zbs,Zbu,Zcf,Zck,Zcz,Zda,Zdb,Zdf,Zdg,Zdh,Q2,Q3,Q0,Q1,Zdi,Zdl,Zdq,Zer,decide_true,Bool.not_true,eq_self,n1,h3',x1,x2,Zer,hw]
 have e:=lp a.length 0 (a.length+1) [] (by omega) (by omega)
 rw [z0] at e
 have d1:decide ((a.length:Int)=a.length)=true:=decide_eq_true rfl
 rw [aQY]
 simp only [Zae,Zaf,Zag,Zah,Zai,Zaj,Zak,Zam,Zan,Zao,Zat,Zaw,Zax,Zbc,Zbm,Zbo,Zbu,Zck,Zcy,Zcz,Zda,Zdb,Zdf,Zdg,Zdh,Q2,Q3,Q0,Q1,Option.map_some,Zdq,decide_true,Bool.not_true,Q4,Q5,Nat.reduceAdd,Nat.reduceSub,eq_self,true_and,Q4,Q5,Q8,Q9,Q6,Q7,n1,n2,e,aA5,aA4,aA8,Option.some.injEq,Prod.mk.injEq,true_and,exists_eq']
theorem aTY {p:PackD} {cs ds:List AV} (hc:aBE p cs) (hd:aBE p ds) (hm:∀ l ∈ p.lists,l.length≤1000000000) (H:aA0):lim G0.cfg (.func 10) [.agg cs,.agg ds] H=some (.bool true,H):=by
 refine aAF rfl rfl aR7 9 (fun h=>aGH (hc.fz h 998) (hd.fz h 998)) ?_ (fun _=>rfl) H
 obtain ⟨p1,p2,p3⟩:=hc.cells
 obtain ⟨q1,q2,q3⟩:=hd.cells
 obtain ⟨v,hv,e1⟩:=aQ1 hc
 obtain ⟨w,hw,e2⟩:=aQ1 hd
 have n1:=hv.len
 have l8:p.lists.length=8:=rfl
 rw [l8] at n1
 have lp:∀ (d i m:Nat) (h:aA0),8=i+d→d < m→aAp (aA7 (lim G0.cfg) 9 aFb) m ⟨(J::J::.ptr 0 0 0 0::.ptr 1 0 0 0::J::v::w::.int .i64 i::J::J::J::J::J::J::J::J::J::J::J::J::J::J::J::J::J::J::J::J::J::J::J::J::J::J::J::J::J::J::J::J::[]),h⟩=some (.exit 0,⟨(J::J::.ptr 0 0 0 0::.ptr 1 0 0 0::J::J::J::J::J::J::J::J::J::J::J::J::J::J::J::J::J::J::J::J::J::J::J::J::J::J::J::J::J::J::J::J::J::J::J::J::[]),h⟩):=by
  intro d
  induction d with
  | zero =>
   intro i m h h1 h2
   obtain ⟨m,rfl⟩:∃ q,m=q+1:=⟨m - 1,by omega⟩
   have h3:¬ ((i:Int) < (8:Nat)):=by omega
   simp only [aAc,aKe,Zaf,Zag,Zah,Zak,Zal,Zan,Zao,Zap,Zaw,Zaz,Zbc,Zbm,Zbo,Zbu,Zck,Zcz,Zdb,Zdf,Zdg,Zdh,Q2,Q3,Q0,Q1,Zdl,decide_false,eq_self,n1,h3]
  | succ d ih =>
   intro i m h h1 h2
   obtain ⟨m,rfl⟩:∃ q,m=q+1:=⟨m - 1,by omega⟩
   have h3':(i:Int) < (8:Nat):=by omega
   have hi:=aB6 (n:=i) (by omega)
   obtain ⟨rv,r1,x1⟩:=hv.ix i (by omega)
   obtain ⟨rw',r2,x2⟩:=hw.ix i (by omega)
   have ld:∀ (h:aA0) (r:AV),aAd h 1 false (.vptr [r] 0)=some r:=fun _ _=>rfl
   have fi:=aUP r1 r2 (hm _ (List.getElem_mem _))
   rw [← ih (i+1) m h (by omega) (by omega)]
   simp only [aAc,aKe,Zae,Zaf,Zag,Zah,Zai,Zak,Zan,Zao,Zar,Zav,Zaw,Zay,Zbc,Zbd,Zbm,Zbo,Zbs,Zbu,Zbv,Zcf,Zck,Zct,Zcu,Zcz,Zda,Zdb,Zdd,Zde,Zdf,Zdg,Zdh,Q2,Q3,Q0,Q1,Zdi,Zdl,Zdv,decide_true,Bool.not_true,eq_self,Q6,Q7,n1,h3',x1,x2,ld,fi,hi]
 obtain ⟨X,hX⟩:∃ X,X=AObj.arr 0 10 true [cs]:=⟨_,rfl⟩
 obtain ⟨Y,hY⟩:∃ Y,Y=AObj.arr 0 10 true [ds]:=⟨_,rfl⟩
 have e:=lp 8 0 9 [X,Y] (by omega) (by omega)
 rw [z0] at e
 have lX:aAd [X,Y] 10 true (.ptr 0 0 0 0)=some (.agg cs):=aAY (b:=true) (by rw [hX];rfl) p3
 have lY:aAd [X,Y] 10 true (.ptr 1 0 0 0)=some (.agg ds):=aAY (b:=true) (by rw [hY];rfl) q3
 have lt:aAd [X,Y] 1 false (.ptr 0 0 0 0)=some (.int .i64 p.tms)∧aAd [X,Y] 1 false (.ptr 0 0 0 1)=some (.int .i64 p.nts)∧aAd [X,Y] 1 false (.ptr 1 0 0 0)=some (.int .i64 p.tms)∧aAd [X,Y] 1 false (.ptr 1 0 0 1)=some (.int .i64 p.nts):=by
  obtain ⟨a1,a2,a3,a4,b1,b2,b3,b4,ec,_⟩:=hc.ten
  obtain ⟨c1,c2,c3,c4,d1,d2,d3,d4,ed,_⟩:=hd.ten
  have k1:=aIy (h:=[X,Y]) (i:=0) (by rw [hX,ec];rfl)
  have k2:=aIy (h:=[X,Y]) (i:=1) (by rw [hY,ed];rfl)
  exact ⟨k1.1,k1.2.1,k2.1,k2.2.1⟩
 obtain ⟨t1,t2,t3,t4⟩:=lt
 have dt:decide (p.tms=p.tms)=true:=decide_eq_true rfl
 have dn:decide (p.nts=p.nts)=true:=decide_eq_true rfl
 rw [aQZ]
 simp only [Zaf,Zag,Zai,Zaj,Zak,Zam,Zan,Zao,Zat,Zax,Zbc,Zbd,Zbf,Zbk,Zbm,Zbn,Zbo,Zbp,Zbr,Zbs,Zbu,Zcc,Zct,Zcu,Zcw,Zcy,Zcz,Zda,Zdb,Zdd,Zde,Zdf,Zdg,Zdh,Q2,Q3,Q0,Q1,Option.map_some,Zdp,Zeb,decide_true,Q4,Q5,if_true,Nat.reduceAdd,Nat.reduceSub,eq_self,true_and,Q4,Q5,Q8,Q9,Q6,Q7,p1,p3,q1,q3,eq_self,if_true,Q4,Q5,Q6,Q7,← hX,← hY,lX,lY,e1,e2,e,t1,t2,t3,t4,aA5,aA4,aA8,Option.some.injEq,Prod.mk.injEq,true_and,exists_eq']
theorem aQb {b:List UInt8} {v:AV} {H:aA0} {i:Nat} (ho:aCy b v H i) (hn:b.length≤30000) (he:(aEr b).2≠0):lim G0.cfg (.func 8) [v] H=some (.tup [.agg aAx,.int .i64 (aEr b).2],H):=by
 obtain ⟨cs,_,h2,h3⟩:=aRS (aDj false b) hn
 rw [h2 he] at h3
 exact aJs rfl (l:=[(.vsl false (eBs b),false)]) (aDJ (ho.fz 998)) (aDJ ((aDj false b).fz [] 999)) (h3 []) rfl
def ex1:List UInt8:=[65,82,66,50,97,98,99,100]
def ex2:List UInt8:=[65,82,66,49,97,98,99,100]
theorem aTw:(aEr ex1).2=3:=by
 unfold aEr
 rw [if_pos (.inr (by decide))]
theorem aRW:(aEr ex2).2=33:=by
 unfold aEr
 rw [if_neg (by decide),if_pos (by decide +kernel)]
theorem aTt (h:aA0) (a b c d e f g k:UInt8):aC4 h true 1 8 [.int .u8 0] [(0,.int .u8 a.toNat),(1,.int .u8 b.toNat),(2,.int .u8 c.toNat),(3,.int .u8 d.toNat),(4,.int .u8 e.toNat),(5,.int .u8 f.toNat),(6,.int .u8 g.toNat),(7,.int .u8 k.toNat)]=some (.hsl h.length 0 0 8 none,h++[.arr 0 1 true (eBs [a,b,c,d,e,f,g,k])]):=by
 simp [aC4,aAJ,aBg,aAy,cellsOf,aD4,eBs,eB]
theorem aVM (h:aA0) (a:UInt8):aC4 h true 1 1 [.int .u8 0] [(0,.int .u8 a.toNat)]=some (.hsl h.length 0 0 1 none,h++[.arr 0 1 true (eBs [a])]):=by
 simp [aC4,aAJ,aBg,aAy,cellsOf,aD4,eBs,eB]
theorem aUj (H:aA0):lim G0.cfg (.func 7) [] H=some (.bool true,H):=by
 refine aAF rfl rfl aPU 1 (fun h=>rfl) ?_ (fun _=>rfl) H
 have t1:aC4 [] true 1 8 [.int .u8 0] [(0,.int .u8 65),(1,.int .u8 82),(2,.int .u8 66),(3,.int .u8 50),(4,.int .u8 97),(5,.int .u8 98),(6,.int .u8 99),(7,.int .u8 100)]=some (.hsl 0 0 0 8 none,[.arr 0 1 true (eBs ex1)]):=aTt [] 65 82 66 50 97 98 99 100
 obtain ⟨A,hA⟩:∃ A,A=AObj.arr 0 1 true (eBs ex1):=⟨_,rfl⟩
 obtain ⟨Z,hZ⟩:∃ Z,Z=AObj.arr 0 10 true [aAx]:=⟨_,rfl⟩
 obtain ⟨B,hB⟩:∃ B,B=AObj.arr 0 1 true (eBs ex2):=⟨_,rfl⟩
 obtain ⟨C,hC⟩:∃ C,C=AObj.arr 0 1 true (eBs [0]):=⟨_,rfl⟩
 rw [← hA] at t1
 have m1:aH5 [A] (.hsl 0 0 0 8 none)=some (.hsl 0 0 0 8 none):=by rw [hA];rfl
 have k1:=aQb (b:=ex1) (v:=.hsl 0 0 0 8 none) (H:=[A]) (i:=0) ⟨by decide,0,true,rfl,by rw [hA];rfl⟩ (by decide) (by rw [aTw];decide)
 rw [aTw] at k1
 have zz:[AV.int .i64 0,.int .i64 0,.nilS,.nilS,.nilS,.nilS,.nilS,.nilS,.nilS,.nilS]=aAx:=rfl
 have zl:aAx.length=10:=rfl
 have s1:aAw [A,Z] 10 (.ptr 1 0 0 0) (.agg aAx)=some [A,Z]:=by
  have:=aB2 (h:=[A,Z]) (i:=1) (ver:=0) (n:=10) (b:=true) (z:=aAx) (l:=aAx) (by rw [hZ];rfl) rfl rfl rfl rfl
  rw [← hZ] at this
  exact this
 have t2:aC4 [A,Z] true 1 8 [.int .u8 0] [(0,.int .u8 65),(1,.int .u8 82),(2,.int .u8 66),(3,.int .u8 49),(4,.int .u8 97),(5,.int .u8 98),(6,.int .u8 99),(7,.int .u8 100)]=some (.hsl 2 0 0 8 none,[A,Z,B]):=by rw [hB];exact aTt [A,Z] 65 82 66 49 97 98 99 100
 have m2:aH5 [A,Z,B] (.hsl 2 0 0 8 none)=some (.hsl 2 0 0 8 none):=by rw [hB];rfl
 have k2:=aQb (b:=ex2) (v:=.hsl 2 0 0 8 none) (H:=[A,Z,B]) (i:=2) ⟨by decide,0,true,rfl,by rw [hB];rfl⟩ (by decide) (by rw [aRW];decide)
 rw [aRW] at k2
 have s2:aAw [A,Z,B,Z] 10 (.ptr 3 0 0 0) (.agg aAx)=some [A,Z,B,Z]:=by
  have:=aB2 (h:=[A,Z,B,Z]) (i:=3) (ver:=0) (n:=10) (b:=true) (z:=aAx) (l:=aAx) (by rw [hZ];rfl) rfl rfl rfl rfl
  rw [← hZ] at this
  exact this
 have q1:=aTu aQ6 (by decide)
 have e1:((aFM []:Nat):Int)=1:=rfl
 have t3:aC4 [A,Z,B,Z] true 1 1 [.int .u8 0] [(0,.int .u8 0)]=some (.hsl 4 0 0 1 none,[A,Z,B,Z,C]):=by rw [hC];exact aVM [A,Z,B,Z] 0
 have q2:=aVb (l:=[0]) (v:=.hsl 4 0 0 1 none) (H:=[A,Z,B,Z,C]) (i:=4) ⟨by decide,0,true,rfl,by rw [hC];rfl⟩ (by decide)
 have e2:((aFM [0]:Nat):Int)=32:=rfl
 rw [e1] at q1
 rw [e2] at q2
 have d1:decide ((1:Int)=1)=true:=rfl
 have d2:decide ((32:Int)=32)=true:=rfl
 have d3:decide ((3:Int)=3)=true:=rfl
 have d4:decide ((33:Int)=33)=true:=rfl
 rw [aPQ]
 simp only [Zad,Zaf,Zag,Zam,Zan,Zao,Zbc,Zbd,Zbe,Zbf,Zbk,Zbm,Zbn,Zbo,Zbp,Zbq,Zbt,Zbu,Zcj,Zcr,Zct,Zcu,Zcy,Zcz,Zda,Zdb,Zdc,Zdd,Zde,Q2,Q3,Q0,Q1,Option.map_some,Zdp,Zeq,decide_true,List.getElem?_cons_zero,List.getElem?_cons_succ,Q4,Q5,Nat.reduceAdd,Nat.reduceSub,eq_self,true_and,Q4,Q5,Q8,Q9,Q6,Q7,zz,zl,← hZ,ev2,t1,m1,k1,s1,t2,m2,k2,s2,q1,t3,q2,aA5,aA4,aA8,Option.some.injEq,Prod.mk.injEq,true_and,exists_eq']
end Go.Proofs.Ytgeedikghjcebaa.Ai
namespace Go.Proofs.Ytgeedikghjcebaa.Ai
open Go Go.Proofs
open List renaming length_cons → Q0, length_nil → Q1
set_option linter.unusedVariables false
set_option linter.unusedSimpArgs false
set_option maxRecDepth 10000
set_option maxHeartbeats 4000000
def gdR (c:RowT):Prop:=(∀ x ∈ c.base, -9223372036854775808≤x∧x≤9223372036854775807)∧∀ x ∈ c.val, -9223372036854775808≤x∧x≤9223372036854775807
structure GoodP (p:PackD):Prop where
 a:gdR p.a
 g:gdR p.g
 len:∀ l ∈ p.lists,l.length≤5000
section
variable {p : PackD} {cs : List AV}
theorem GoodP.ok (h:GoodP p):RtOk p.a∧RtOk p.g∧p.g.val.length≤1048576:=by
 have m1:=h.len p.a.row (by simp [PackD.lists])
 have m2:=h.len p.a.base (by simp [PackD.lists])
 have m3:=h.len p.a.val (by simp [PackD.lists])
 have m4:=h.len p.a.own (by simp [PackD.lists])
 have m5:=h.len p.g.row (by simp [PackD.lists])
 have m6:=h.len p.g.base (by simp [PackD.lists])
 have m7:=h.len p.g.val (by simp [PackD.lists])
 have m8:=h.len p.g.own (by simp [PackD.lists])
 exact ⟨⟨by omega,by omega,by omega,by omega,h.a.1,h.a.2⟩,⟨by omega,by omega,by omega,by omega,h.g.1,h.g.2⟩,by omega⟩
end
theorem aPl (b:List UInt8):∀ l ∈ (aEr b).1.lists,l.length≤b.length+1:=by
 have hz:∀ l ∈ aD0.lists,l.length≤b.length+1:=fun l h=>by
  simp only [PackD.lists,aD0,List.mem_cons,List.not_mem_nil,or_false] at h
  rcases h with rfl | rfl | rfl | rfl | rfl | rfl | rfl | rfl <;> simp
 unfold aEr
 split
 ·exact hz
 split
 ·exact hz
 split
 ·exact hz
 split
 ·intro l h
  obtain ⟨h1,h2⟩:=aJM 8 (aAH (aAH ((b.take (b.length - 4)).drop 4,false)).2).2
  rw [aRH _ _ _ h1] at h
  have h3:=(h2 l h).1
  have h4:=aFm (aAH ((b.take (b.length - 4)).drop 4,false)).2
  have h5:=aFm ((b.take (b.length - 4)).drop 4,false)
  simp only [List.length_drop,List.length_take] at h5
  omega
 ·exact hz
theorem aUk {b:List UInt8} {v:AV} (hb:LiB b v) (H:aA0):lim G0.cfg (.func 3) [v] H=some (.bool true,H):=by
 refine aAF rfl rfl aK4 1 (fun h=>aDa (hb.fz h 999)) ?_ (fun _=>rfl) H
 have nl:=hb.len
 have hk:=aUj
 rw [aK3]
 by_cases c:(4000:Int) < b.length
 case pos=>simp only [Zaf,Zag,Zah,Zam,Zan,Zao,Zaq,Zav,Zbc,Zbd,Zbm,Zbo,Zbu,Zck,Zct,Zcu,Zcy,Zcz,Zda,Zdb,Zdd,List.set_cons_zero,List.set_cons_succ,List.getD_cons_zero,List.getD_cons_succ,Option.map_some,Zdn,decide_true,Q0,Q1,Nat.reduceAdd,Nat.reduceSub,eq_self,true_and,Q0,Q1,List.replicate_succ,List.replicate_zero,List.cons_append,List.nil_append,nl,c,hk,aA5,aA4,aA8,Option.some.injEq,Prod.mk.injEq,true_and,exists_eq']
 case neg =>
 obtain ⟨cs,hc,_,e1⟩:=aRS hb (by omega)
 obtain ⟨ds,hd,e2⟩:=aUS hb (by omega)
 rw [← aTD] at hd e2
 obtain ⟨p1,p2,p3⟩:=hc.cells
 obtain ⟨q1,q2,q3⟩:=hd.cells
 have hl:=aPl b
 have es:=aTY hc hd (fun l h=>by have:=hl l h;omega)
 generalize (aEr b).2=er at e1 e2
 obtain ⟨Z,hZ⟩:∃ Z,Z=AObj.arr 0 10 true [aAx]:=⟨_,rfl⟩
 have zz:[AV.int .i64 0,.int .i64 0,.nilS,.nilS,.nilS,.nilS,.nilS,.nilS,.nilS,.nilS]=aAx:=rfl
 have zl:aAx.length=10:=rfl
 obtain ⟨X,hX⟩:∃ X,X=AObj.arr 0 10 true [cs]:=⟨_,rfl⟩
 obtain ⟨Y,hY⟩:∃ Y,Y=AObj.arr 0 10 true [ds]:=⟨_,rfl⟩
 have s1:aAw [Z] 10 (.ptr 0 0 0 0) (.agg cs)=some [X]:=by
  have:=aB2 (h:=[Z]) (i:=0) (ver:=0) (n:=10) (b:=true) (z:=aAx) (l:=cs) (by rw [hZ];rfl) rfl p3 p1 p2
  rw [← hX] at this
  exact this
 have s2:aAw [X,Z] 10 (.ptr 1 0 0 0) (.agg ds)=some [X,Y]:=by
  have:=aB2 (h:=[X,Z]) (i:=1) (ver:=0) (n:=10) (b:=true) (z:=aAx) (l:=ds) (by rw [hZ];rfl) rfl q3 q1 q2
  rw [← hY] at this
  exact this
 have l1:aAd [X,Y] 10 true (.ptr 0 0 0 0)=some (.agg cs):=aAY (b:=true) (by rw [hX];rfl) p3
 have l2:aAd [X,Y] 10 true (.ptr 1 0 0 0)=some (.agg ds):=aAY (b:=true) (by rw [hY];rfl) q3
 have de:decide (er=er)=true:=decide_eq_true rfl
 simp only [Zae,Zaf,Zag,Zah,Zam,Zan,Zao,Zaw,Zbc,Zbd,Zbe,Zbf,Zbk,Zbm,Zbn,Zbo,Zbp,Zbq,Zbs,Zbt,Zbu,Zcj,Zck,Zct,Zcu,Zcy,Zcz,Zda,Zdb,Zdc,Zdd,Zde,List.set_cons_zero,List.set_cons_succ,List.getD_cons_zero,List.getD_cons_succ,Option.map_some,Zdn,Zdp,Zeq,decide_true,decide_false,List.getElem?_cons_zero,List.getElem?_cons_succ,Q0,Q1,Nat.reduceAdd,Nat.reduceSub,eq_self,true_and,Q0,Q1,List.replicate_succ,List.replicate_zero,List.cons_append,List.nil_append,zz,zl,← hZ,nl,c,e1,s1,e2,s2,l1,l2,es,hk,aA5,aA4,aA8,Option.some.injEq,Prod.mk.injEq,true_and,exists_eq']
section
variable {p : PackD} {cs : List AV} {b : List UInt8} {v : AV}
end
end Go.Proofs.Ytgeedikghjcebaa.Ai
