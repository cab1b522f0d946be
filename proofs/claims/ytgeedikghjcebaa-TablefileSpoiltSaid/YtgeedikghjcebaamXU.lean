/- Equal tables, the fixed examples. -/
import Derived.Test.YtgeedikghjcebaamXT
namespace Go.Proofs.Ytgeedikghjcebaa.Ai
open Go Go.Proofs
open AV renaming junk → J
open List renaming getD_cons_zero → Q0, getD_cons_succ → Q1, set_cons_zero → Q2, set_cons_succ → Q3, length_cons → Q4, length_nil → Q5, cons_append → Q6, nil_append → Q7, replicate_succ → Q8, replicate_zero → Q9
set_option linter.unusedVariables false
set_option linter.unusedSimpArgs false
set_option maxRecDepth 10000
set_option maxHeartbeats 4000000
theorem aSP {a:List Int} {v w:AV} (ha:Li a v) (hb:Li a w) (hm:a.length≤1000000000) (H:aA0):lim G0.cfg (.func 27) [v,w] H=some (.bool true,H):=by
 refine aAP rfl rfl aPC (a.length+1) (fun h=>aHF (ha.fz h 999) (hb.fz h 999)) ?_ (fun _=>rfl) H
 have n1:=ha.len
 have n2:=hb.len
 have lp:∀ (d i m:Nat) (h:aA0),a.length=i+d→d < m→aAw (aA9 (lim G0.cfg) (a.length+1) aEe) m ⟨[v,w,J,J,J,.int .i64 i,J,J,J,J,J,J,J,J,J,J,J,J,J,J,J,J,J,J,J,J],h⟩=some (.exit 0,⟨[J,J,J,J,J,J,J,J,J,J,J,J,J,J,J,J,J,J,J,J,J,J,J,J,J,J],h⟩):=by
  intro d
  induction d with
  | zero =>
   intro i m h h1 h2
   obtain ⟨m,rfl⟩:∃ q,m=q+1:=⟨m - 1,by omega⟩
   have h3:¬ ((i:Int) < a.length):=by omega
   simp only [aAj,aIR,Zaf,Zag,Zah,Zak,Zal,Zan,Zao,Zap,Zaw,Zaz,Zbc,Zbm,Zbo,Zbu,Zck,Zcz,Zdb,Zdg,Zdh,Q2,Q3,Q0,Q1,Zdl,decide_false,eq_self,n1,h3]
  | succ d ih =>
   intro i m h h1 h2
   obtain ⟨m,rfl⟩:∃ q,m=q+1:=⟨m - 1,by omega⟩
   have h3:i < a.length:=by omega
   have h3':(i:Int) < a.length:=by omega
   have hw:=aC7 (n:=i) (by omega)
   have x1:=fun h=>ha.ix h .i64 i h3
   have x2:=fun h=>hb.ix h .i64 i h3
   have de:decide (a[i]=a[i])=true:=decide_eq_true rfl
   rw [← ih (i+1) m h (by omega) (by omega)]
   simp only [aAj,aIR,Zae,Zaf,Zag,Zah,Zai,Zak,Zan,Zao,Zar,Zav,Zaw,Zay,Zbc,Zbm,Zbo,Zbs,Zbu,Zcf,Zck,Zcz,Zda,Zdb,Zdf,Zdg,Zdh,Q2,Q3,Q0,Q1,Zdi,Zdl,Zdq,Zer,decide_true,Bool.not_true,eq_self,n1,h3',x1,x2,Zer,hw]
 have e:=lp a.length 0 (a.length+1) [] (by omega) (by omega)
 rw [z0] at e
 have d1:decide ((a.length:Int)=a.length)=true:=decide_eq_true rfl
 rw [aPy]
 simp only [Zae,Zaf,Zag,Zah,Zai,Zaj,Zak,Zam,Zan,Zao,Zat,Zaw,Zax,Zbc,Zbm,Zbo,Zbu,Zck,Zcy,Zcz,Zda,Zdb,Zdf,Zdg,Zdh,Q2,Q3,Q0,Q1,Option.map_some,Zdq,decide_true,Bool.not_true,Q4,Q5,Nat.reduceAdd,Nat.reduceSub,eq_self,true_and,Q4,Q5,Q8,Q9,Q6,Q7,n1,n2,e,aAa,aA8,aAc,Option.some.injEq,Prod.mk.injEq,true_and,exists_eq']
theorem aS2 {p:PackD} {cs ds:List AV} (hc:aBO p cs) (hd:aBO p ds) (hm:∀ l ∈ p.lists,l.length≤1000000000) (H:aA0):lim G0.cfg (.func 10) [.agg cs,.agg ds] H=some (.bool true,H):=by
 refine aAP rfl rfl aPD 9 (fun h=>aHF (hc.fz h 998) (hd.fz h 998)) ?_ (fun _=>rfl) H
 obtain ⟨p1,p2,p3⟩:=hc.cells
 obtain ⟨q1,q2,q3⟩:=hd.cells
 obtain ⟨v,hv,e1⟩:=aOC hc
 obtain ⟨w,hw,e2⟩:=aOC hd
 have n1:=hv.len
 have l8:p.lists.length=8:=rfl
 rw [l8] at n1
 have lp:∀ (d i m:Nat) (h:aA0),8=i+d→d < m→aAw (aA9 (lim G0.cfg) 9 aEf) m ⟨(J::J::.ptr 0 0 0 0::.ptr 1 0 0 0::J::v::w::.int .i64 i::J::J::J::J::J::J::J::J::J::J::J::J::J::J::J::J::J::J::J::J::J::J::J::J::J::J::J::J::J::J::J::J::[]),h⟩=some (.exit 0,⟨(J::J::.ptr 0 0 0 0::.ptr 1 0 0 0::J::J::J::J::J::J::J::J::J::J::J::J::J::J::J::J::J::J::J::J::J::J::J::J::J::J::J::J::J::J::J::J::J::J::J::J::[]),h⟩):=by
  intro d
  induction d with
  | zero =>
   intro i m h h1 h2
   obtain ⟨m,rfl⟩:∃ q,m=q+1:=⟨m - 1,by omega⟩
   have h3:¬ ((i:Int) < (8:Nat)):=by omega
   simp only [aAj,aIS,Zaf,Zag,Zah,Zak,Zal,Zan,Zao,Zap,Zaw,Zaz,Zbc,Zbm,Zbo,Zbu,Zck,Zcz,Zdb,Zdf,Zdg,Zdh,Q2,Q3,Q0,Q1,Zdl,decide_false,eq_self,n1,h3]
  | succ d ih =>
   intro i m h h1 h2
   obtain ⟨m,rfl⟩:∃ q,m=q+1:=⟨m - 1,by omega⟩
   have h3':(i:Int) < (8:Nat):=by omega
   have hi:=aC7 (n:=i) (by omega)
   obtain ⟨rv,r1,x1⟩:=hv.ix i (by omega)
   obtain ⟨rw',r2,x2⟩:=hw.ix i (by omega)
   have ld:∀ (h:aA0) (r:AV),aAb h 1 false (.vptr [r] 0)=some r:=fun _ _=>rfl
   have fi:=aSP r1 r2 (hm _ (List.getElem_mem _))
   rw [← ih (i+1) m h (by omega) (by omega)]
   simp only [aAj,aIS,Zae,Zaf,Zag,Zah,Zai,Zak,Zan,Zao,Zar,Zav,Zaw,Zay,Zbc,Zbd,Zbm,Zbo,Zbs,Zbu,Zbv,Zcf,Zck,Zct,Zcu,Zcz,Zda,Zdb,Zdd,Zde,Zdf,Zdg,Zdh,Q2,Q3,Q0,Q1,Zdi,Zdl,Zdv,decide_true,Bool.not_true,eq_self,Q6,Q7,n1,h3',x1,x2,ld,fi,hi]
 obtain ⟨X,hX⟩:∃ X,X=AObj.arr 0 10 true [cs]:=⟨_,rfl⟩
 obtain ⟨Y,hY⟩:∃ Y,Y=AObj.arr 0 10 true [ds]:=⟨_,rfl⟩
 have e:=lp 8 0 9 [X,Y] (by omega) (by omega)
 rw [z0] at e
 have lX:aAb [X,Y] 10 true (.ptr 0 0 0 0)=some (.agg cs):=aBL (b:=true) (by rw [hX];rfl) p3
 have lY:aAb [X,Y] 10 true (.ptr 1 0 0 0)=some (.agg ds):=aBL (b:=true) (by rw [hY];rfl) q3
 have lt:aAb [X,Y] 1 false (.ptr 0 0 0 0)=some (.int .i64 p.tms)∧aAb [X,Y] 1 false (.ptr 0 0 0 1)=some (.int .i64 p.nts)∧aAb [X,Y] 1 false (.ptr 1 0 0 0)=some (.int .i64 p.tms)∧aAb [X,Y] 1 false (.ptr 1 0 0 1)=some (.int .i64 p.nts):=by
  obtain ⟨a1,a2,a3,a4,b1,b2,b3,b4,ec,_⟩:=hc.ten
  obtain ⟨c1,c2,c3,c4,d1,d2,d3,d4,ed,_⟩:=hd.ten
  have k1:=aEN (h:=[X,Y]) (i:=0) (by rw [hX,ec];rfl)
  have k2:=aEN (h:=[X,Y]) (i:=1) (by rw [hY,ed];rfl)
  exact ⟨k1.1,k1.2.1,k2.1,k2.2.1⟩
 obtain ⟨t1,t2,t3,t4⟩:=lt
 have dt:decide (p.tms=p.tms)=true:=decide_eq_true rfl
 have dn:decide (p.nts=p.nts)=true:=decide_eq_true rfl
 rw [aPz]
 simp only [Zaf,Zag,Zai,Zaj,Zak,Zam,Zan,Zao,Zat,Zax,Zbc,Zbd,Zbf,Zbk,Zbm,Zbn,Zbo,Zbp,Zbr,Zbs,Zbu,Zcc,Zct,Zcu,Zcw,Zcy,Zcz,Zda,Zdb,Zdd,Zde,Zdf,Zdg,Zdh,Q2,Q3,Q0,Q1,Option.map_some,Zdp,Zeb,decide_true,Q4,Q5,if_true,Nat.reduceAdd,Nat.reduceSub,eq_self,true_and,Q4,Q5,Q8,Q9,Q6,Q7,p1,p3,q1,q3,eq_self,if_true,Q4,Q5,Q6,Q7,← hX,← hY,lX,lY,e1,e2,e,t1,t2,t3,t4,aAa,aA8,aAc,Option.some.injEq,Prod.mk.injEq,true_and,exists_eq']
theorem aMb {b:List UInt8} {v:AV} {H:aA0} {i:Nat} (ho:aBt b v H i) (hn:b.length≤30000) (he:(aEl b).2≠0):lim G0.cfg (.func 8) [v] H=some (.tup [.agg aAE,.int .i64 (aEl b).2],H):=by
 obtain ⟨cs,_,h2,h3⟩:=aTa (aD1 false b) hn
 rw [h2 he] at h3
 exact aJE rfl (l:=[(.vsl false (eBs b),false)]) (aDH (ho.fz 998)) (aDH ((aD1 false b).fz [] 999)) (h3 []) rfl
def ex1:List UInt8:=[65,82,66,50,97,98,99,100]
def ex2:List UInt8:=[65,82,66,49,97,98,99,100]
theorem aRI:(aEl ex1).2=3:=by
 unfold aEl
 rw [if_pos (.inr (by decide))]
theorem aQk:(aEl ex2).2=33:=by
 unfold aEl
 rw [if_neg (by decide),if_pos (by decide +kernel)]
theorem aRF (h:aA0) (a b c d e f g k:UInt8):aBH h true 1 8 [.int .u8 0] [(0,.int .u8 a.toNat),(1,.int .u8 b.toNat),(2,.int .u8 c.toNat),(3,.int .u8 d.toNat),(4,.int .u8 e.toNat),(5,.int .u8 f.toNat),(6,.int .u8 g.toNat),(7,.int .u8 k.toNat)]=some (.hsl h.length 0 0 8 none,h++[.arr 0 1 true (eBs [a,b,c,d,e,f,g,k])]):=by
 simp [aBH,aAF,aB4,aAv,cellsOf,aCh,eBs,eB]
theorem aTR (h:aA0) (a:UInt8):aBH h true 1 1 [.int .u8 0] [(0,.int .u8 a.toNat)]=some (.hsl h.length 0 0 1 none,h++[.arr 0 1 true (eBs [a])]):=by
 simp [aBH,aAF,aB4,aAv,cellsOf,aCh,eBs,eB]
theorem aSd (H:aA0):lim G0.cfg (.func 7) [] H=some (.bool true,H):=by
 refine aAP rfl rfl aOw 1 (fun h=>rfl) ?_ (fun _=>rfl) H
 have t1:aBH [] true 1 8 [.int .u8 0] [(0,.int .u8 65),(1,.int .u8 82),(2,.int .u8 66),(3,.int .u8 50),(4,.int .u8 97),(5,.int .u8 98),(6,.int .u8 99),(7,.int .u8 100)]=some (.hsl 0 0 0 8 none,[.arr 0 1 true (eBs ex1)]):=aRF [] 65 82 66 50 97 98 99 100
 obtain ⟨A,hA⟩:∃ A,A=AObj.arr 0 1 true (eBs ex1):=⟨_,rfl⟩
 obtain ⟨Z,hZ⟩:∃ Z,Z=AObj.arr 0 10 true [aAE]:=⟨_,rfl⟩
 obtain ⟨B,hB⟩:∃ B,B=AObj.arr 0 1 true (eBs ex2):=⟨_,rfl⟩
 obtain ⟨C,hC⟩:∃ C,C=AObj.arr 0 1 true (eBs [0]):=⟨_,rfl⟩
 rw [← hA] at t1
 have m1:aFM [A] (.hsl 0 0 0 8 none)=some (.hsl 0 0 0 8 none):=by rw [hA];rfl
 have k1:=aMb (b:=ex1) (v:=.hsl 0 0 0 8 none) (H:=[A]) (i:=0) ⟨by decide,0,true,rfl,by rw [hA];rfl⟩ (by decide) (by rw [aRI];decide)
 rw [aRI] at k1
 have zz:[AV.int .i64 0,.int .i64 0,.nilS,.nilS,.nilS,.nilS,.nilS,.nilS,.nilS,.nilS]=aAE:=rfl
 have zl:aAE.length=10:=rfl
 have s1:aAB [A,Z] 10 (.ptr 1 0 0 0) (.agg aAE)=some [A,Z]:=by
  have:=aCd (h:=[A,Z]) (i:=1) (ver:=0) (n:=10) (b:=true) (z:=aAE) (l:=aAE) (by rw [hZ];rfl) rfl rfl rfl rfl
  rw [← hZ] at this
  exact this
 have t2:aBH [A,Z] true 1 8 [.int .u8 0] [(0,.int .u8 65),(1,.int .u8 82),(2,.int .u8 66),(3,.int .u8 49),(4,.int .u8 97),(5,.int .u8 98),(6,.int .u8 99),(7,.int .u8 100)]=some (.hsl 2 0 0 8 none,[A,Z,B]):=by rw [hB];exact aRF [A,Z] 65 82 66 49 97 98 99 100
 have m2:aFM [A,Z,B] (.hsl 2 0 0 8 none)=some (.hsl 2 0 0 8 none):=by rw [hB];rfl
 have k2:=aMb (b:=ex2) (v:=.hsl 2 0 0 8 none) (H:=[A,Z,B]) (i:=2) ⟨by decide,0,true,rfl,by rw [hB];rfl⟩ (by decide) (by rw [aQk];decide)
 rw [aQk] at k2
 have s2:aAB [A,Z,B,Z] 10 (.ptr 3 0 0 0) (.agg aAE)=some [A,Z,B,Z]:=by
  have:=aCd (h:=[A,Z,B,Z]) (i:=3) (ver:=0) (n:=10) (b:=true) (z:=aAE) (l:=aAE) (by rw [hZ];rfl) rfl rfl rfl rfl
  rw [← hZ] at this
  exact this
 have q1:=aRG aJF (by decide)
 have e1:((aE2 []:Nat):Int)=1:=rfl
 have t3:aBH [A,Z,B,Z] true 1 1 [.int .u8 0] [(0,.int .u8 0)]=some (.hsl 4 0 0 1 none,[A,Z,B,Z,C]):=by rw [hC];exact aTR [A,Z,B,Z] 0
 have q2:=aQf (l:=[0]) (v:=.hsl 4 0 0 1 none) (H:=[A,Z,B,Z,C]) (i:=4) ⟨by decide,0,true,rfl,by rw [hC];rfl⟩ (by decide)
 have e2:((aE2 [0]:Nat):Int)=32:=rfl
 rw [e1] at q1
 rw [e2] at q2
 have d1:decide ((1:Int)=1)=true:=rfl
 have d2:decide ((32:Int)=32)=true:=rfl
 have d3:decide ((3:Int)=3)=true:=rfl
 have d4:decide ((33:Int)=33)=true:=rfl
 rw [aOt]
 simp only [Zad,Zaf,Zag,Zam,Zan,Zao,Zbc,Zbd,Zbe,Zbf,Zbk,Zbm,Zbn,Zbo,Zbp,Zbq,Zbt,Zbu,Zcj,Zcr,Zct,Zcu,Zcy,Zcz,Zda,Zdb,Zdc,Zdd,Zde,Q2,Q3,Q0,Q1,Option.map_some,Zdp,Zeq,decide_true,List.getElem?_cons_zero,List.getElem?_cons_succ,Q4,Q5,Nat.reduceAdd,Nat.reduceSub,eq_self,true_and,Q4,Q5,Q8,Q9,Q6,Q7,zz,zl,← hZ,ev2,t1,m1,k1,s1,t2,m2,k2,s2,q1,t3,q2,aAa,aA8,aAc,Option.some.injEq,Prod.mk.injEq,true_and,exists_eq']
end Go.Proofs.Ytgeedikghjcebaa.Ai
namespace Go.Proofs.Ytgeedikghjcebaa.Ai
open Go Go.Proofs
open List renaming length_nil → Q0, length_cons → Q1, getD_cons_zero → Q2, getD_cons_succ → Q3, replicate_succ → Q4, replicate_zero → Q5, set_cons_zero → Q6, set_cons_succ → Q7, cons_append → Q9, getElem?_cons_zero → Z0, getElem?_cons_succ → Z1, nil_append → Z3
open Option.some renaming injEq → Q8
open Option renaming map_some → Z2
open Bool renaming not_true → Z4
set_option linter.unusedVariables false
set_option linter.unusedSimpArgs false
set_option maxRecDepth 10000
set_option maxHeartbeats 4000000
noncomputable def okB (p:PackD):Bool:=@decide (aCa p) (Classical.propDecidable _)
theorem aRC {p:PackD} (h:aCa p):okB p=true:=@decide_eq_true _ (Classical.propDecidable _) h
theorem aRD {p:PackD} (h:¬ aCa p):okB p=false:=@decide_eq_false _ (Classical.propDecidable _) h
theorem aS4 {p:PackD}:okB p=true↔aCa p:=@decide_eq_true_iff _ (Classical.propDecidable _)
def gdR (c:RowT):Prop:=(∀ x ∈ c.base, -9223372036854775808≤x∧x≤9223372036854775807)∧∀ x ∈ c.val, -9223372036854775808≤x∧x≤9223372036854775807
structure GoodP (p:PackD):Prop where
 a:gdR p.a
 g:gdR p.g
 len:∀ l ∈ p.lists,l.length≤5000
section
variable {p : PackD} {cs : List AV}
theorem GoodP.ok (h:GoodP p):RtOk p.a∧RtOk p.g∧p.g.val.length≤1048576:=by
 have m1:=h.len p.a.row (by simp [PackD.lists])
 have m2:=h.len p.a.base (by simp [PackD.lists])
 have m3:=h.len p.a.val (by simp [PackD.lists])
 have m4:=h.len p.a.own (by simp [PackD.lists])
 have m5:=h.len p.g.row (by simp [PackD.lists])
 have m6:=h.len p.g.base (by simp [PackD.lists])
 have m7:=h.len p.g.val (by simp [PackD.lists])
 have m8:=h.len p.g.own (by simp [PackD.lists])
 exact ⟨⟨by omega,by omega,by omega,by omega,h.a.1,h.a.2⟩,⟨by omega,by omega,by omega,by omega,h.g.1,h.g.2⟩,by omega⟩
theorem GoodP.fR (h:GoodP p) (hp:aBO p cs) (H:aA0):lim G0.cfg (.func 23) [.agg cs] H=some (.bool (okB p),H):=by
 obtain ⟨k1,k2,k3⟩:=h.ok
 obtain ⟨j1,j2⟩:=aOM hp k1 k2 k3
 by_cases c:aCa p
 ·rw [aRC c];exact j1 c H
 ·rw [aRD c];exact j2 c H
theorem aTL (h:okB p=true):inR p.tms=true∧inR p.nts=true:=by
 obtain ⟨f1,f2,f3,f4,_⟩:=(aS4.1 h).1
 exact ⟨(aJG _).2 ⟨by omega,by omega⟩,(aJG _).2 ⟨by omega,by omega⟩⟩
theorem aOQ (h:GoodP p):(aDB p).length≤1000000:=by
 have lm:aC3.length=4:=rfl
 have h1:=aFz p.tms.toNat
 have h2:=aFz p.nts.toNat
 have e1:=aBA p.a.row
 have e2:=aBA p.a.base
 have e3:=aBA p.a.val
 have e4:=aBA p.a.own
 have e5:=aBA p.g.row
 have e6:=aBA p.g.base
 have e7:=aBA p.g.val
 have e8:=aBA p.g.own
 have m1:=h.len p.a.row (by simp [PackD.lists])
 have m2:=h.len p.a.base (by simp [PackD.lists])
 have m3:=h.len p.a.val (by simp [PackD.lists])
 have m4:=h.len p.a.own (by simp [PackD.lists])
 have m5:=h.len p.g.row (by simp [PackD.lists])
 have m6:=h.len p.g.base (by simp [PackD.lists])
 have m7:=h.len p.g.val (by simp [PackD.lists])
 have m8:=h.len p.g.own (by simp [PackD.lists])
 unfold aDB PackD.lists
 simp only [List.length_append,List.flatMap_cons,List.flatMap_nil,Q0]
 omega
theorem GoodP.fP (h:GoodP p) (hp:aBO p cs) (H:aA0):lim G0.cfg (.func 12) [.agg cs] H=some (aHD p (okB p),H) :=
 aTV hp (h.fR hp) aTL (fun r hr=>by have:=h.len r hr;omega) (aOQ h) H
theorem aQ0 (p:PackD):∃ (w:AV) (l:List UInt8) (e:Int),aHD p (okB p)=.tup [w,.int .i64 e]∧LiB l w∧((e=0∧aCa p∧aPu p=true∧l=aDQ p)∨(e=34∧¬ aCa p)∨(e=2∧aCa p)):=by
 by_cases c:aCa p
 ·rw [aRC c]
  cases c2:aPu p with
  | true=>exact ⟨_,aDQ p,0,by unfold aHD;rw [c2],aD1 _ _,.inl ⟨rfl,c,rfl,rfl⟩⟩
  | false=>exact ⟨_,[],2,by unfold aHD;rw [c2],aJF,.inr (.inr ⟨rfl,c⟩)⟩
 ·rw [aRD c]
  exact ⟨_,[],34,rfl,aJF,.inr (.inl ⟨rfl,c⟩)⟩
end
section
variable {p : PackD} {cs : List AV} {b : List UInt8} {v : AV}
theorem aRf (ha:gdR p.a) (hg:gdR p.g) (h:aNv p=true):GoodP p:=by
 have h:=of_decide_eq_true h
 refine ⟨ha,hg,fun l hl => ?_⟩
 simp only [PackD.lists,List.mem_cons,List.not_mem_nil,or_false] at hl
 rcases hl with rfl | rfl | rfl | rfl | rfl | rfl | rfl | rfl <;> omega
theorem aU2 (q:EqK) (x y:UInt8):aB6 .xor q (.int .u8 x.toNat) (.int .u8 y.toNat)=some (.int .u8 (x ^^^ y).toNat):=by
 have e:aB6 .xor q (.int .u8 x.toNat) (.int .u8 y.toNat)=some (.int .u8 (IntKind.u8.wrap (BitVec.ofInt 8 (x.toNat:Int) ^^^ BitVec.ofInt 8 (y.toNat:Int)).toNat)):=rfl
 have hx:=UInt8.toNat_lt x
 have hy:=UInt8.toNat_lt y
 have hz:=UInt8.toNat_lt (x ^^^ y)
 have e1:(BitVec.ofInt 8 (x.toNat:Int) ^^^ BitVec.ofInt 8 (y.toNat:Int)).toNat=(x ^^^ y).toNat:=by
  rw [BitVec.ofInt_natCast,BitVec.ofInt_natCast,BitVec.toNat_xor,BitVec.toNat_ofNat,BitVec.toNat_ofNat,UInt8.toNat_xor,Nat.mod_eq_of_lt hx,Nat.mod_eq_of_lt hy]
 rw [e,e1,IntKind.wrap_u8]
 congr 2
 omega
theorem aSC (x y:UInt8) (h:y≠0):x ^^^ y≠x:=fun e=>h (by
 have:=congrArg (x ^^^ ·) e
 simp only [← UInt8.xor_assoc,UInt8.xor_self,UInt8.zero_xor] at this
 exact this)
theorem aSl (l:List UInt8) (j:Nat) (c:UInt8):(eBs l).set j [.int .u8 c.toNat]=eBs (l.set j c):=by simp [eBs,eB,List.map_set]
theorem aQg (hp:aBO p cs) (ha:gdR p.a) (hg:gdR p.g) (hm:∀ l ∈ p.lists,l.length≤1000000000000000000) (at':Int) (by':UInt8) (H:aA0):lim G0.cfg (.func 6) [.agg cs,.int .i64 at',.int .u8 by'.toNat] H=some (.bool true,H):=by
 have fz3:∀ h,aAq (freeze h 1000) [.agg cs,.int .i64 at',.int .u8 by'.toNat]=some ([AV.agg cs,.int .i64 at',.int .u8 by'.toNat].map fun x=>(x,true)):=fun h=>aT1 (hp.fz h 998) rfl rfl
 refine aAP rfl rfl aI0 1 fz3 ?_ (fun _=>rfl) H
 have hk:=aSd
 obtain ⟨p1,p2,p3⟩:=hp.cells
 obtain ⟨X,hX⟩:∃ X,X=AObj.arr 0 10 true [cs]:=⟨_,rfl⟩
 have lX:∀ l:aA0,aAb (X::l) 10 true (.ptr 0 0 0 0)=some (.agg cs):=fun l=>aBL (b:=true) (by rw [hX];rfl) p3
 have ff:=aTT hp hm
 obtain ⟨Z,hZ⟩:∃ Z,Z=AObj.arr 0 10 true [aAE]:=⟨_,rfl⟩
 have zz:[AV.int .i64 0,.int .i64 0,.nilS,.nilS,.nilS,.nilS,.nilS,.nilS,.nilS,.nilS]=aAE:=rfl
 have zl:aAE.length=10:=rfl
 rw [aHX]
 cases cf:aNv p with
 | false =>
  rw [cf] at ff
  simp only [Zaf,Zag,Zah,Zam,Zan,Zao,Zaq,Zav,Zbc,Zbd,Zbh,Zbk,Zbm,Zbn,Zbo,Zbp,Zbr,Zbs,Zbv,Zct,Zcu,Zcw,Zcy,Zcz,Zda,Zdb,Zdd,Zde,Q6,Q7,Q2,Q3,Z2,Zdv,Bool.not_false,Q1,Q0,if_true,Nat.reduceAdd,Nat.reduceSub,eq_self,true_and,Q1,Q0,Q4,Q5,Q9,Z3,p1,p3,eq_self,if_true,← hX,lX,ff,hk,aAa,aA8,aAc,Q8,Prod.mk.injEq,true_and,exists_eq']
 | true =>
 rw [cf] at ff
 by_cases c:by'=0
 case pos =>
  have db:decide ((by'.toNat:Int)=0)=true:=decide_eq_true (by rw [c];rfl)
  simp only [Zaf,Zag,Zah,Zam,Zan,Zao,Zaq,Zav,Zbc,Zbd,Zbg,Zbl,Zbm,Zbn,Zbo,Zbp,Zbr,Zbs,Zbu,Zbv,Zct,Zcu,Zcw,Zcy,Zcz,Zda,Zdb,Zdd,Zde,Q6,Q7,Q2,Q3,Z2,Zdp,Zdv,Z4,Q1,Q0,if_true,Nat.reduceAdd,Nat.reduceSub,eq_self,true_and,Q1,Q0,Q4,Q5,Q9,Z3,p1,p3,eq_self,if_true,← hX,lX,ff,db,hk,aAa,aA8,aAc,Q8,Prod.mk.injEq,true_and,exists_eq']
 case neg =>
 have db:decide ((by'.toNat:Int)=0)=false:=decide_eq_false (fun e=>c (UInt8.toNat_inj.1 (by have:(0:UInt8).toNat=0:=rfl;rw [this];omega)))
 have gd:=aRf ha hg cf
 have e1:=gd.fP hp
 obtain ⟨w,l,e,ef,hw,hcase⟩:=aQ0 p
 rw [ef] at e1
 have nw:=hw.len
 by_cases c2:e=0
 case neg =>
  have d2:decide (e=0)=false:=decide_eq_false c2
  simp only [Zae,Zaf,Zag,Zah,Zam,Zan,Zao,Zaq,Zav,Zaw,Zbc,Zbd,Zbg,Zbh,Zbk,Zbl,Zbm,Zbn,Zbo,Zbp,Zbr,Zbs,Zbu,Zbv,Zcj,Zct,Zcu,Zcw,Zcy,Zcz,Zda,Zdb,Zdd,Zde,Q6,Q7,Q2,Q3,Z2,Zdp,Zdq,Zdv,Zeq,Z4,Bool.not_false,Z0,Z1,Q1,Q0,if_true,Nat.reduceAdd,Nat.reduceSub,eq_self,true_and,Q1,Q0,Q4,Q5,Q9,Z3,p1,p3,eq_self,if_true,← hX,lX,ff,db,e1,d2,hk,aAa,aA8,aAc,Q8,Prod.mk.injEq,true_and,exists_eq']
 case pos =>
 have d2:decide (e=0)=true:=decide_eq_true c2
 by_cases c3:at' < 0
 case pos=>simp only [Zae,Zaf,Zag,Zah,Zam,Zan,Zao,Zaq,Zav,Zaw,Zbc,Zbd,Zbg,Zbh,Zbk,Zbl,Zbm,Zbn,Zbo,Zbp,Zbr,Zbs,Zbu,Zbv,Zcj,Zct,Zcu,Zcw,Zcy,Zcz,Zda,Zdb,Zdd,Zde,Q6,Q7,Q2,Q3,Z2,Zdl,Zdp,Zdq,Zdv,Zeq,decide_true,Z4,Z0,Z1,Q1,Q0,if_true,Nat.reduceAdd,Nat.reduceSub,eq_self,true_and,Q1,Q0,Q4,Q5,Q9,Z3,p1,p3,eq_self,if_true,← hX,lX,ff,db,e1,d2,c3,hk,aAa,aA8,aAc,Q8,Prod.mk.injEq,true_and,exists_eq']
 case neg =>
 by_cases c4:(l.length:Int)≤at'
 case pos=>simp only [Zae,Zaf,Zag,Zah,Zam,Zan,Zao,Zaq,Zav,Zaw,Zbc,Zbd,Zbg,Zbl,Zbm,Zbn,Zbo,Zbp,Zbr,Zbs,Zbu,Zbv,Zcj,Zck,Zct,Zcu,Zcw,Zcy,Zcz,Zda,Zdb,Zdd,Zde,Q6,Q7,Q2,Q3,Z2,Zdl,Zdo,Zdp,Zdq,Zdv,Zeq,decide_true,decide_false,Z4,Z0,Z1,Q1,Q0,if_true,Nat.reduceAdd,Nat.reduceSub,eq_self,true_and,Q1,Q0,Q4,Q5,Q9,Z3,p1,p3,eq_self,if_true,← hX,lX,ff,db,e1,d2,c3,nw,c4,hk,aAa,aA8,aAc,Q8,Prod.mk.injEq,true_and,exists_eq']
 case neg =>
 have hl:l=aDQ p:=by
  rcases hcase with ⟨_,_,_,h⟩ | ⟨h,_⟩ | ⟨h,_⟩
  ·exact h
  ·rw [h] at c2;cases c2
  ·rw [h] at c2;cases c2
 obtain ⟨j,hj⟩:∃ j:Nat,at'=(j:Int):=⟨at'.toNat,by omega⟩
 subst hj
 have hjl:j < l.length:=by omega
 have t0:=aTS [X]
 have ll:l.length≤1000004:=by
  have:=aOQ gd
  obtain ⟨h,_⟩:=aLl p
  rw [hl];omega
 have ap:=aU1 [X] hw (by intro h;rw [h] at hjl;simp at hjl) (by omega)
 obtain ⟨O,hO⟩:∃ O,O=AObj.arr 0 1 false (eBs l):=⟨_,rfl⟩
 have ap:aD9 [X] 1 1 (.vsl true []) w=some (.hsl 1 0 0 l.length none,[X,O]):=by rw [hO];exact ap
 have ix:=aBM (h:=[X,O]) (i:=1) (ver:=0) (n:=l.length) (sz:=1) (x:=false) (rows:=eBs l) (c:=none) (by rw [hO];rfl) (k:=.i64) (j:=j) hjl
 have ge:(eBs l)[j]?=some (eB l[j]):=by simp [eBs,hjl]
 have ld:aAb [X,O] 1 false (.ptr 1 0 j 0)=some (.int .u8 l[j].toNat):=by rw [aB5 [X,O] 1 1 0 j 0 false 1 false (eBs l) _ (by rw [hO];rfl) ge];rfl
 have x8:=fun q=>aU2 q l[j] by'
 obtain ⟨ch,hch⟩:∃ ch,ch=l[j] ^^^ by':=⟨_,rfl⟩
 rw [← hch] at x8
 obtain ⟨Q,hQ⟩:∃ Q,Q=AObj.arr 0 1 false (eBs (l.set j ch)):=⟨_,rfl⟩
 have st:aAB [X,O] 1 (.ptr 1 0 j 0) (.int .u8 ch.toNat)=some [X,Q]:=by
  rw [aKh [X,O] 1 1 0 j 0 _ 1 false (eBs l) _ (by rw [hO];rfl) ge rfl (by simp [eB]) rfl]
  have:aAv (eB l[j]) 0 (cellsOf (.int .u8 ch.toNat))=[.int .u8 ch.toNat]:=rfl
  rw [this,aSl,hQ];rfl
 have ho:aBt (l.set j ch) (.hsl 1 0 0 l.length none) [X,Q] 1:=⟨by intro h;have:=congrArg List.length h;rw [List.length_set] at this;have e0:([]:List UInt8).length=0:=rfl;omega,0,false,by rw [List.length_set],by rw [hQ];rfl⟩
 obtain ⟨y1,y2,y3,y4,y5⟩:=aLl p
 have bl:=aNB p
 have sp:=aSI l (by rw [hl];omega) (by rw [hl,y2,y3]) j hjl ch (by rw [hch];exact aSC _ _ c)
 rw [← aRN] at sp
 have lle:l.length≤30000:=by
  have h:=of_decide_eq_true cf
  have lm:aC3.length=4:=rfl
  have h1:=aFz p.tms.toNat
  have h2:=aFz p.nts.toNat
  have e1:=aBA p.a.row
  have e2:=aBA p.a.base
  have e3:=aBA p.a.val
  have e4:=aBA p.a.own
  have e5:=aBA p.g.row
  have e6:=aBA p.g.base
  have e7:=aBA p.g.val
  have e8:=aBA p.g.own
  rw [hl,y1]
  unfold aDB PackD.lists
  simp only [List.length_append,List.flatMap_cons,List.flatMap_nil,Q0]
  omega
 have ft:=aMb ho (by rw [List.length_set];exact lle) sp
 obtain ⟨fe,hfe⟩:∃ fe,fe=(aEl (l.set j ch)).2:=⟨_,rfl⟩
 rw [← hfe] at ft sp
 have d5:decide (fe=0)=false:=decide_eq_false sp
 have s2:aAB [X,Q,Z] 10 (.ptr 2 0 0 0) (.agg aAE)=some [X,Q,Z]:=by
  have:=aCd (h:=[X,Q,Z]) (i:=2) (ver:=0) (n:=10) (b:=true) (z:=aAE) (l:=aAE) (by rw [hZ];rfl) rfl rfl rfl rfl
  rw [← hZ] at this
  exact this
 have l2:aAb [X,Q,Z] 10 true (.ptr 2 0 0 0)=some (.agg aAE):=aBL (b:=true) (by rw [hZ];rfl) rfl
 have fl:aDT aAE []=some (.agg aAE):=rfl
 have es:=aS2 aDM aDM (fun l h=>by
  simp only [PackD.lists,aDx,List.mem_cons,List.not_mem_nil,or_false] at h
  rcases h with rfl | rfl | rfl | rfl | rfl | rfl | rfl | rfl <;> simp)
 simp only [Zae,Zaf,Zag,Zah,Zam,Zan,Zao,Zaw,Zbc,Zbd,Zbe,Zbf,Zbg,Zbk,Zbl,Zbm,Zbn,Zbo,Zbp,Zbq,Zbr,Zbs,Zbt,Zbu,Zbv,Zcf,Zcj,Zck,Zcm,Zcq,Zcr,Zct,Zcu,Zcw,Zcy,Zcz,Zda,Zdb,Zdc,Zdd,Zde,Q6,Q7,Q2,Q3,Z2,Zdl,Zdo,Zdp,Zdq,Zdv,Zeq,decide_false,Z4,Bool.not_false,Z0,Z1,Q1,Q0,if_true,Nat.reduceAdd,Nat.reduceSub,eq_self,true_and,Q1,Q0,Q4,Q5,Q9,Z3,zz,zl,← hZ,p1,p3,eq_self,if_true,← hX,lX,ff,db,e1,d2,c3,nw,c4,evp,ev2,t0,ap,ix,ld,x8,st,ft,s2,d5,l2,fl,es,hk,aAa,aA8,aAc,Q8,Prod.mk.injEq,true_and,exists_eq']
end
end Go.Proofs.Ytgeedikghjcebaa.Ai
