/- pack.Lay: the order in which the rows are placed. -/
import Derived.Test.YtgeedikghjcebaamXE
namespace Go.Proofs.Ytgeedikghjcebaa.Ai
open Go Go.Proofs
open AV renaming junk → J
open List renaming length_cons → Q0, length_nil → Q1, set_cons_zero → Q2, getD_cons_zero → Q3, getD_cons_succ → Q4, set_cons_succ → Q5, replicate_zero → Q6, replicate_succ → Q7, cons_append → Q8, nil_append → Z0, replicate → Z1, append_nil → Z3
open Option renaming map_some → Q9
open Option.some renaming injEq → Z2
set_option linter.unusedVariables false
set_option linter.unusedSimpArgs false
set_option maxRecDepth 10000
set_option maxHeartbeats 4000000
def aCt (n:Nat):List Int:=(List.range n).map fun (k:Nat)=>(k:Int)
theorem aEG (n:Nat):(aCt n).length=n:=by simp [aCt]
theorem aP8 (n:Nat):aCt (n+1)=aCt n++[(n:Int)]:=by simp [aCt,List.range_succ]
theorem aNl (n:Nat):(aCt n).Pairwise (· < ·):=by
 unfold aCt
 rw [List.pairwise_map]
 exact List.Pairwise.imp (fun h=>by omega) List.pairwise_lt_range
theorem aMB {n:Nat} {x:Int}:x ∈ aCt n↔0≤x∧x < n:=by
 unfold aCt
 simp only [List.mem_map,List.mem_range]
 constructor
 ·rintro ⟨k,h1,rfl⟩;omega
 ·rintro ⟨h1,h2⟩;exact ⟨x.toNat,by omega,by omega⟩
theorem aPi (n L:Nat) (hn:n≤1000000) (N:Nat):∀ (d i m:Nat) (h:aA0),n=i+d→d < m→h[L]?=some (.arr 0 1 true (eIs (aCt i++Z1 d 0))) →
  aAw (aA9 (lim G0.cfg) N aEj) m ⟨(J::J::.ptr 0 0 0 0::.ptr 1 0 0 0::.ptr 2 0 0 0::J::J::J::.hsl L 0 0 n none::J::J::J::J::J::J::J::J::J::J::J::J::J::J::J::J::J::J::J::J::J::J::J::J::J::J::J::J::J::J::J::J::J::J::J::J::.int .i64 n::.int .i64 i::J::J::J::J::J::J::J::J::J::J::J::J::J::J::J::J::J::J::J::J::J::J::J::J::J::J::J::J::J::J::J::J::J::J::J::J::J::J::J::J::J::J::J::J::J::J::J::J::J::J::J::J::J::J::J::J::J::J::J::J::J::J::J::J::J::J::J::J::J::J::J::J::J::J::J::J::J::J::J::[]),h⟩=some (.exit 2,⟨(J::J::.ptr 0 0 0 0::.ptr 1 0 0 0::.ptr 2 0 0 0::J::J::J::.hsl L 0 0 n none::J::J::J::J::J::J::J::J::J::J::J::J::J::J::J::J::J::J::J::J::J::J::J::J::J::J::J::J::J::J::J::J::J::J::J::J::J::J::J::J::J::J::J::J::J::J::J::J::J::J::J::J::J::J::J::J::J::J::J::J::J::J::J::J::J::J::J::J::J::J::J::J::J::J::J::J::J::J::J::J::J::J::J::J::J::J::J::J::J::J::J::J::J::J::J::J::J::J::J::J::J::J::J::J::J::J::J::J::J::J::J::J::J::J::J::J::J::[]),h.set L (.arr 0 1 true (eIs (aCt n)))⟩):=by
 intro d
 induction d with
 | zero =>
  intro i m h h1 h2 hL
  obtain ⟨m,rfl⟩:∃ q,m=q+1:=⟨m - 1,by omega⟩
  have h3:¬ ((i:Int) < n):=by omega
  have:i=n:=by omega
  subst this
  rw [Q6,Z3] at hL
  rw [aBq hL]
  simp only [aAj,aIU,Zaf,Zag,Zah,Zak,Zal,Zan,Zao,Zap,Zaw,Zaz,Zbc,Zbm,Zbu,Zcz,Zdb,Zdf,Zdg,Zdh,Q2,Q5,Q3,Q4,Zdl,decide_false,eq_self,h3]
 | succ d ih =>
  intro i m h h1 h2 hL
  obtain ⟨m,rfl⟩:∃ q,m=q+1:=⟨m - 1,by omega⟩
  have h3:(i:Int) < n:=by omega
  have hw:=aC7 (n:=i) (by omega)
  have hL':h[L]?=some (.arr 0 1 true (eIs (aCt i++Z1 (d+1) 0)++[])):=by rw [Z3];exact hL
  have x1:=aBM (n:=n) (c:=none) hL (k:=.i64) (j:=i) (by omega)
  have s1:=stI hL' (j:=i) (by simp [aEG]) (i:Int)
  rw [Z3] at s1
  have e1:(aCt i++Z1 (d+1) 0).set i (i:Int)=aCt (i+1)++Z1 d 0:=by
   rw [List.set_append_right _ _ (by rw [aEG];exact Nat.le_refl _),aEG,Nat.sub_self,Q7,Q2,aP8]
   simp
  rw [e1] at s1
  have e:=ih (i+1) m (h.set L (.arr 0 1 true (eIs (aCt (i+1)++Z1 d 0)))) (by omega) (by omega) (aAr hL)
  rw [set_set] at e
  rw [← e]
  simp only [aAj,aIU,Zae,Zaf,Zag,Zah,Zai,Zak,Zan,Zao,Zar,Zav,Zay,Zbc,Zbe,Zbm,Zbo,Zbt,Zbu,Zcf,Zcz,Zda,Zdb,Zdc,Zdf,Zdg,Zdh,Q2,Q5,Q3,Q4,Zdi,Zdl,decide_true,eq_self,h3,x1,s1,hw]
theorem aOI (x:Int) (H:aA0):lim G0.cfg (.func 73) [.int .i64 x] H=some (.bool false,H):=by
 refine aAP rfl rfl aLB 1 (fun h=>aES rfl) ?_ (fun _=>rfl) H
 rw [aLy]
 simp only [Zaf,Zag,Zam,Zan,Zao,Zbc,Zbm,Zbo,Zbu,Zcy,Zcz,Zda,Zdb,Q2,Q5,Q3,Q4,Q9,Zdq,decide_true,Bool.not_true,Q0,Q1,Nat.reduceAdd,Nat.reduceSub,eq_self,true_and,Q0,Q1,Q7,Q6,Q8,Z0,aAa,aA8,aAc,Z2,Prod.mk.injEq,true_and,exists_eq']
def aPm (x y:Int):Int:=if x < y then -1 else if y < x then 1 else 0
theorem aQi (x y:Int) (H:aA0):lim G0.cfg (.func 68) [.int .i64 x,.int .i64 y] H=some (.int .i64 (aPm x y),H):=by
 refine aAP rfl rfl aJS 1 (fun h=>aHF rfl rfl) ?_ (fun _=>rfl) H
 have n1:=aOI x
 have n2:=aOI y
 rw [aJO]
 unfold aPm
 by_cases q1:x < y
 ·simp only [Zae,Zaf,Zag,Zah,Zam,Zan,Zao,Zaq,Zav,Zaw,Zbc,Zbd,Zbm,Zbo,Zbu,Zct,Zcu,Zcy,Zcz,Zda,Zdb,Zdd,Zde,Q2,Q5,Q3,Q4,Q9,Zdl,decide_true,Q0,Q1,if_true,Nat.reduceAdd,Nat.reduceSub,Int.reduceNeg,eq_self,true_and,Q0,Q1,Q7,Q6,Q8,Z0,n1,n2,q1,aAa,aA8,aAc,Z2,Prod.mk.injEq,true_and,exists_eq']
 ·by_cases q2:y < x
  ·simp only [Zae,Zaf,Zag,Zah,Zam,Zan,Zao,Zaq,Zav,Zaw,Zbc,Zbd,Zbm,Zbo,Zbu,Zct,Zcu,Zcy,Zcz,Zda,Zdb,Zdd,Zde,Q2,Q5,Q3,Q4,Q9,Zdl,Zdn,decide_true,decide_false,Q0,Q1,if_true,if_false,Nat.reduceAdd,Nat.reduceSub,Int.reduceNeg,eq_self,true_and,Q0,Q1,Q7,Q6,Q8,Z0,n1,n2,q1,q2,aAa,aA8,aAc,Z2,Prod.mk.injEq,true_and,exists_eq']
  ·simp only [Zae,Zaf,Zag,Zah,Zam,Zan,Zao,Zaw,Zbc,Zbd,Zbm,Zbo,Zbu,Zct,Zcu,Zcy,Zcz,Zda,Zdb,Zdd,Zde,Q2,Q5,Q3,Q4,Q9,Zdl,Zdn,decide_false,Q0,Q1,if_false,Nat.reduceAdd,Nat.reduceSub,Int.reduceNeg,eq_self,true_and,Q0,Q1,Q7,Q6,Q8,Z0,n1,n2,q1,q2,aAa,aA8,aAc,Z2,Prod.mk.injEq,true_and,exists_eq']
theorem aAu.ix1 {cs:List (List AV)} {v:AV} {h:aA0} {q:Option Nat} (ho:aAu 1 cs v h q) {j:Nat} {rv:AV} (hj:cs[j]?=some [rv]):∃ p,(∀ k:IntKind,aAN h 1 v (.int k j)=some p)∧aAb h 1 false p=some rv:=by
 have hl:=(List.getElem?_eq_some_iff.1 hj).1
 rcases ho with ⟨h1,_⟩ | ⟨h1,i,ver,h2,h3,h4⟩
 ·subst h1;simp at hl
 ·subst h3
  refine ⟨.ptr i ver j 0,fun k=>aBM h4 hl,?_⟩
  rw [aB5 h 1 i ver j 0 false 1 false _ _ h4 hj]
  rfl
section
variable {own : List (List Int)} {cs : List (List AV)} {ov : AV} {h : aA0} {q : Option Nat}
theorem aOL (e2:h[2]?=some (.arr 0 1 true [[ov]])) (ho:aAu 1 cs ov h q) (hc:aDU own cs) (hm:∀ r ∈ own,r.length≤1000000) (x:Nat) (hx:x < own.length):lim G0.cfg (.func 64) [.int .i64 x,.ptr 2 0 0 0] h=some (.int .i64 (aCZ own[x]),h):=by
 refine aB3 rfl aNX 1 ?_
 obtain ⟨rv,h1,h2⟩:=hc.2 x hx
 obtain ⟨p,p1,p2⟩:=ho.ix1 h1
 have ff:=aT9 h2 (by have:=hm _ (List.getElem_mem hx);omega)
 have l2:aAb h 1 false (.ptr 2 0 0 0)=some ov:=by rw [aB5 h 1 2 0 0 0 false 1 true _ _ e2 rfl];rfl
 rw [aNS]
 simp only [Zaf,Zag,Zam,Zan,Zao,Zbc,Zbd,Zbm,Zbo,Zbs,Zcf,Zct,Zcu,Zcy,Zcz,Zda,Zdb,Zdd,Zde,Q2,Q5,Q3,Q4,Q9,Q0,Q1,Nat.reduceAdd,Nat.reduceSub,eq_self,Q0,Q1,Q7,Q6,Q8,Z0,l2,p1,p2,ff,aAa,aA8,aAc]
def aGW (own:List (List Int)) (x:Int):Int := -(aCZ (own.getD x.toNat []):Int)
theorem aTm (L:Nat) (hL:3≤L) (hq:∀ i,q=some i→i < L) (hc:aDU own cs) (hm:∀ r ∈ own,r.length≤1000000) :
  CmpOk L 67 [.ptr (L+1) 0 0 0] (aGW own) (fun x=>0≤x∧x < own.length) (fun h=>h[2]?=some (.arr 0 1 true [[ov]])∧aAu 1 cs ov h q∧h[L+1]?=some (.arr 0 1 true [[.fn (.func 64) [] [.ptr 2 0 0 0]]])):=by
 refine ⟨fun x y h hx hy hE => ?_,fun h o hE => ?_⟩
 ·obtain ⟨e2,ho,e3⟩:=hE
  obtain ⟨a,rfl⟩:∃ a:Nat,x=(a:Int):=⟨x.toNat,by omega⟩
  obtain ⟨b,rfl⟩:∃ b:Nat,y=(b:Int):=⟨y.toNat,by omega⟩
  have ha:a < own.length:=by omega
  have hb:b < own.length:=by omega
  have c1:=aOL e2 ho hc hm a ha
  have c2:=aOL e2 ho hc hm b hb
  have c3:=aQi (aCZ own[b]) (aCZ own[a])
  have l3:aAb h 1 false (.ptr (L+1) 0 0 0)=some (.fn (.func 64) [] [.ptr 2 0 0 0]):=by rw [aB5 h 1 (L+1) 0 0 0 false 1 true _ _ e3 rfl];rfl
  refine ⟨aPm (aCZ own[b]) (aCZ own[a]),aB3 rfl aNW 1 ?_,?_⟩
  ·rw [aNR]
   simp only [Zaf,Zag,Zam,Zan,Zao,Zbc,Zbd,Zbm,Zbo,Zbs,Zct,Zcu,Zcy,Zcz,Zda,Zdb,Zdd,Zde,Q2,Q5,Q3,Q4,Q9,Q0,Q1,Nat.reduceAdd,Nat.reduceSub,eq_self,Q0,Q1,Q7,Q6,Q8,Z0,aLW,aK3,aK2,aK1,aK0,aJZ,aJY,aJX,aJW,aJV,aJU,aJu,aMe,aMc,aMd,aLo,aI1,l3,c1,c2,c3,Z3,aAa,aA8,aAc]
  ·have g1:own.getD ((a:Int).toNat) []=own[a]:=by simp [ha]
   have g2:own.getD ((b:Int).toNat) []=own[b]:=by simp [hb]
   unfold aGW aPm
   rw [g1,g2]
   split
   ·omega
   ·split <;> omega
 ·obtain ⟨e2,ho,e3⟩:=hE
  exact ⟨aAs e2 (by omega),ho.frame fun i o e1 e2=>aAs e2 (by have:=hq i e1;omega),aAs e3 (by omega)⟩
end
end Go.Proofs.Ytgeedikghjcebaa.Ai
namespace Go.Proofs.Ytgeedikghjcebaa.Ai
open Go Go.Proofs
open AV renaming junk → J
open List renaming getD_cons_zero → Q0, getD_cons_succ → Q1, set_cons_zero → Q2, set_cons_succ → Q3, cons_append → Q4, nil_append → Q5, length_cons → Q6, length_nil → Q7
open Bool renaming not_false → Q8
set_option linter.unusedVariables false
set_option linter.unusedSimpArgs false
set_option maxRecDepth 10000
set_option maxHeartbeats 4000000
def aEu (chk:List Int):List Int→Nat→Bool
 | [],_=>true
 | x::r,k=>bif decide (x≠0) && (decide (k < chk.length) && decide (chk.getD k 0≠0)) then false else aEu chk r (k+1)
theorem aMF (chk:List Int):∀ (r:List Int) (k:Nat),chk.length≤k→aEu chk r k=true:=by
 intro r
 induction r with
 | nil=>intros;rfl
 | cons x r ih =>
  intro k hk
  have h1:decide (k < chk.length)=false:=decide_eq_false (by omega)
  rw [aEu,h1,Bool.false_and,Bool.and_false,cond_false]
  exact ih (k+1) (by omega)
def aFV (chk row:List Int):Nat→Nat→Nat
 | 0,k=>k
 | d+1,k=>bif aEu chk row k then k else aFV chk row d (k+1)
def aHt (chk row:List Int):Nat:=aFV chk row chk.length 0
theorem aQt (chk row:List Int):∀ (d k:Nat),aFV chk row d k≤k+d:=by
 intro d
 induction d with
 | zero=>intro k;exact Nat.le_refl _
 | succ d ih =>
  intro k
  rw [aFV]
  cases aEu chk row k with
  | true=>simp
  | false=>have:=ih (k+1);simp;omega
theorem aKv (chk row:List Int):aHt chk row≤chk.length:=by have:=aQt chk row chk.length 0;unfold aHt;omega
theorem aSE {a b:Nat} (h:a+b < 9223372036854775807):IntKind.i64.wrap ((a:Int)+b)=((a+b:Nat):Int):=by
 rw [w64 (by omega) (by omega)];omega
section
variable {own : List (List Int)} {cs : List (List AV)} {ov kv v0 v1 v2 : AV} {h : aA0} {q qk : Option Nat} {chk : List Int}
theorem aQe (e2:h[2]?=some (.arr 0 1 true [[ov]])) (ho:aAu 1 cs ov h q) (hc:aDU own cs) (x:Nat) (hx:x < own.length) (hm:own[x].length≤1000000) {p:Nat} (e3:h[p]?=some (.arr 0 1 true [[.int .i64 x]]))
  (e1:h[1]?=some (.arr 0 4 true [[v0,v1,v2,kv]])) (hk:aAW chk kv h qk) (k:Nat) (hk1:k≤1000000000) (hk2:chk.length≤1000000000) :
  lim G0.cfg (.func 69) [.int .i64 k,.ptr 2 0 0 0,.ptr p 0 0 0,.ptr 1 0 0 0] h=some (.bool (aEu chk own[x] k),h):=by
 obtain ⟨row,hrow⟩:∃ r,r=own[x]:=⟨_,rfl⟩
 obtain ⟨rv,h1,h2⟩:=hc.2 x hx
 rw [← hrow] at h2 hm ⊢
 obtain ⟨pp,p1,p2⟩:=ho.ix1 h1
 have l2:aAb h 1 false (.ptr 2 0 0 0)=some ov:=by rw [aB5 h 1 2 0 0 0 false 1 true _ _ e2 rfl];rfl
 have l3:aAb h 1 false (.ptr p 0 0 0)=some (.int .i64 x):=by rw [aB5 h 1 p 0 0 0 false 1 true _ _ e3 rfl];rfl
 have l1:aAb h 1 false (.ptr 1 0 0 3)=some kv:=by rw [aB5 h 1 1 0 0 3 false 4 true _ _ e1 rfl];rfl
 have lr:=h2.len h
 have lk:=hk.len h
 refine aB3 rfl aNV (row.length+1) ?_
 have loop:∀ (d i m:Nat),row.length=i+d→d < m→aAw (aA9 (lim G0.cfg) (row.length+1) aDl) m ⟨(.int .i64 k::J::J::.ptr 1 0 0 0::J::J::J::J::J::J::J::rv::.int .i64 row.length::.int .i64 i::J::J::J::J::J::J::J::J::J::J::J::J::J::J::J::J::J::J::J::J::J::J::J::J::J::J::[]),h⟩=bif aEu chk (row.drop i) (k+i) then some (.exit 0,⟨(J::J::J::J::J::J::J::J::J::J::J::J::J::J::J::J::J::J::J::J::J::J::J::J::J::J::J::J::J::J::J::J::J::J::J::J::J::J::J::J::[]),h⟩) else some (.ret,⟨(J::J::J::J::J::.bool false::J::J::J::J::J::J::J::J::J::J::J::J::J::J::J::J::J::J::J::J::J::J::J::J::J::J::J::J::J::J::J::J::J::J::[]),h⟩):=by
  intro d
  induction d with
  | zero =>
   intro i m h1 h2
   obtain ⟨m,rfl⟩:∃ q,m=q+1:=⟨m - 1,by omega⟩
   have h3:¬ ((i:Int) < row.length):=by omega
   have q1:row.drop i=[]:=List.drop_eq_nil_iff.2 (by omega)
   rw [q1,aEu,cond_true]
   simp only [aAj,aD5,Zaf,Zag,Zah,Zak,Zal,Zan,Zao,Zap,Zaw,Zaz,Zbc,Zbm,Zbu,Zcz,Zdb,Zdg,Zdh,Q2,Q3,Q0,Q1,Zdl,decide_false,eq_self,h3]
  | succ d ih =>
   intro i m h1' h2'
   obtain ⟨m,rfl⟩:∃ q,m=q+1:=⟨m - 1,by omega⟩
   have h3:i < row.length:=by omega
   have h3':(i:Int) < row.length:=by omega
   have hw:=aC7 (n:=i) (by omega)
   have hw2:=aSE (a:=k) (b:=i) (by omega)
   have q1:row.drop i=row[i]::row.drop (i+1):=List.drop_eq_getElem_cons h3
   have xa:=fun h=>h2.ix h .i64 i h3
   have lv:∀ z:Int,aAb h 1 false (.vptr [.int .i64 z] 0)=some (.int .i64 z):=fun _=>rfl
   have e:=ih (i+1) m (by omega) (by omega)
   rw [q1,aEu]
   rw [← Nat.add_assoc] at e
   by_cases z:row[i]=0
   case pos =>
    have d1:decide (row[i]≠0)=false:=decide_eq_false (by simp [z])
    have d2:decide (row[i]=0)=true:=decide_eq_true z
    rw [d1,Bool.false_and,cond_false,← e]
    simp only [aAj,aD5,Zae,Zaf,Zag,Zah,Zai,Zak,Zan,Zao,Zar,Zav,Zaw,Zay,Zbc,Zbi,Zbl,Zbm,Zbn,Zbo,Zbp,Zbs,Zbu,Zcf,Zcz,Zda,Zdb,Zdf,Zdg,Zdh,Q2,Q3,Q0,Q1,Zdi,Zdl,Zdq,Zer,decide_true,Bool.not_true,eq_self,h3',xa,d2,hw]
   case neg =>
   have d1:decide (row[i]≠0)=true:=decide_eq_true z
   have d2:decide (row[i]=0)=false:=decide_eq_false z
   rw [d1,Bool.true_and]
   by_cases y:k+i < chk.length
   case neg =>
    have d3:decide (k+i < chk.length)=false:=decide_eq_false y
    have d4:¬ (((k+i:Nat):Int) < chk.length):=by omega
    rw [d3,Bool.false_and,cond_false,← e]
    simp only [aAj,aD5,Zae,Zaf,Zag,Zah,Zai,Zak,Zan,Zao,Zar,Zav,Zaw,Zay,Zbc,Zbf,Zbi,Zbk,Zbl,Zbm,Zbn,Zbo,Zbp,Zbs,Zbu,Zcc,Zcf,Zck,Zcz,Zda,Zdb,Zdf,Zdg,Zdh,Q2,Q3,Q0,Q1,Zdi,Zdl,Zdq,Zeb,Zer,decide_true,decide_false,Q8,Nat.reduceAdd,eq_self,h3',xa,d2,hw,hw2,l1,lk,d4]
   case pos =>
    have d3:decide (k+i < chk.length)=true:=decide_eq_true y
    have d4:((k+i:Nat):Int) < chk.length:=by omega
    obtain ⟨ii,k1,k2,k3⟩:=hk.ix y
    have gd:chk.getD (k+i) 0=chk[k+i]:=by simp [y]
    rw [d3,Bool.true_and,gd]
    by_cases u:chk[k+i]=0
    ·have d5:decide (chk[k+i]=0)=true:=decide_eq_true u
     have d6:decide (chk[k+i]≠0)=false:=decide_eq_false (by simp [u])
     rw [d6,cond_false,← e]
     simp only [aAj,aD5,Zae,Zaf,Zag,Zah,Zai,Zak,Zan,Zao,Zar,Zav,Zaw,Zay,Zbc,Zbf,Zbk,Zbm,Zbn,Zbo,Zbp,Zbs,Zbu,Zcc,Zcf,Zck,Zcz,Zda,Zdb,Zdf,Zdg,Zdh,Q2,Q3,Q0,Q1,Zdi,Zdl,Zdq,Zeb,Zer,decide_true,Bool.not_true,Q8,Nat.reduceAdd,eq_self,h3',xa,d2,hw,hw2,l1,lk,d4,k2,k3,d5]
    ·have d5:decide (chk[k+i]=0)=false:=decide_eq_false u
     have d6:decide (chk[k+i]≠0)=true:=decide_eq_true u
     rw [d6,cond_true,cond_false]
     simp only [aAj,aD5,Zae,Zaf,Zag,Zah,Zai,Zak,Zam,Zan,Zao,Zaq,Zas,Zav,Zba,Zbc,Zbf,Zbk,Zbm,Zbn,Zbo,Zbp,Zbs,Zbu,Zcc,Zcf,Zck,Zcz,Zda,Zdb,Zdf,Zdg,Zdh,Q2,Q3,Q0,Q1,Zdi,Zdl,Zdq,Zeb,Zer,decide_true,Q8,Nat.reduceAdd,eq_self,h3',xa,d2,hw2,l1,lk,d4,k2,k3,d5]
 have e:=loop row.length 0 (row.length+1) (by omega) (by omega)
 obtain ⟨bb,hbb⟩:∃ b,b=aEu chk row k:=⟨_,rfl⟩
 rw [List.drop_zero,show aEu chk row (k+0)=bb from hbb.symm,z0] at e
 rw [aNQ,← hbb]
 cases bb with
 | true =>
  rw [cond_true] at e
  simp only [Zaf,Zag,Zai,Zaj,Zak,Zam,Zan,Zao,Zat,Zax,Zbc,Zbm,Zbo,Zbs,Zcf,Zck,Zcy,Zcz,Zda,Zdb,Zdf,Zdg,Zdh,Q2,Q3,Q0,Q1,Option.map_some,Q6,Q7,Nat.reduceAdd,Nat.reduceSub,eq_self,Q6,Q7,List.replicate_succ,List.replicate_zero,Q4,Q5,l2,l3,p1,p2,lr,e,aAa,aA8,aAc]
 | false =>
  rw [cond_false] at e
  simp only [Zaf,Zag,Zai,Zaj,Zak,Zan,Zao,Zaq,Zas,Zax,Zbc,Zbm,Zbo,Zbs,Zcf,Zck,Zcy,Zcz,Zda,Zdb,Zdf,Zdg,Zdh,Q2,Q3,Q0,Q1,Option.map_some,Q6,Q7,Nat.reduceAdd,Nat.reduceSub,eq_self,Q6,Q7,List.replicate_succ,List.replicate_zero,Q4,Q5,l2,l3,p1,p2,lr,e,aAa,aA8,aAc]
theorem aPj (e2:h[2]?=some (.arr 0 1 true [[ov]])) (ho:aAu 1 cs ov h q) (hc:aDU own cs) (x:Nat) (hx:x < own.length) (hm:own[x].length≤1000000) {p:Nat} (e3:h[p]?=some (.arr 0 1 true [[.int .i64 x]]))
  (e1:h[1]?=some (.arr 0 4 true [[v0,v1,v2,kv]])) (hk:aAW chk kv h qk) (hk2:chk.length≤1000000000) (N:Nat) (w62 w63 w64':AV):∀ (d k m:Nat),chk.length≤k+d→k≤chk.length→d < m →
  aAw (aA9 (lim G0.cfg) N aEh) m ⟨(J::J::.ptr 0 0 0 0::.ptr 1 0 0 0::.ptr 2 0 0 0::J::J::J::J::J::J::J::.ptr p 0 0 0::.fn (.func 69) [] [.ptr 2 0 0 0,.ptr p 0 0 0,.ptr 1 0 0 0]::.int .i64 k::J::J::J::J::J::J::J::J::J::J::J::J::J::J::J::J::J::J::J::J::J::J::J::J::J::J::J::J::J::J::J::J::J::J::J::J::J::J::J::J::J::J::J::J::J::J::J::w62::w63::w64'::J::J::J::J::J::J::J::J::J::J::J::J::J::J::J::J::J::J::J::J::J::J::J::J::J::J::J::J::J::J::J::J::J::J::J::J::J::J::J::J::J::J::J::J::J::J::J::J::J::J::J::J::J::J::J::J::J::J::J::J::J::[]),h⟩=some (.exit 6,⟨(J::J::.ptr 0 0 0 0::.ptr 1 0 0 0::.ptr 2 0 0 0::J::J::J::J::J::J::J::.ptr p 0 0 0::J::.int .i64 (aFV chk own[x] d k)::J::J::J::J::J::J::J::J::J::J::J::J::J::J::J::J::J::J::J::J::J::J::J::J::J::J::J::J::J::J::J::J::J::J::J::J::J::J::J::J::J::J::J::J::J::J::J::w62::w63::w64'::J::J::J::J::J::J::J::J::J::J::J::J::J::J::J::J::J::J::J::J::J::J::J::J::J::J::J::J::J::J::J::J::J::J::J::J::J::J::J::J::J::J::J::J::J::J::J::J::J::J::J::J::J::J::J::J::J::J::J::J::J::[]),h⟩):=by
 intro d
 induction d with
 | zero =>
  intro k m h1 h2 h3
  obtain ⟨m,rfl⟩:∃ q,m=q+1:=⟨m - 1,by omega⟩
  have f:=aQe e2 ho hc x hx hm e3 e1 hk k (by omega) hk2
  rw [aMF chk _ k (by omega)] at f
  rw [aFV]
  simp only [aAj,aGa,Zaf,Zag,Zah,Zak,Zal,Zan,Zao,Zap,Zaw,Zaz,Zbc,Zbd,Zbm,Zbo,Zbv,Zct,Zcu,Zcz,Zdb,Zdd,Zde,Zdf,Zdg,Zdh,Q2,Q3,Q0,Q1,Zdv,Bool.not_true,eq_self,Q4,Q5,Q5,Q4,f]
 | succ d ih =>
  intro k m h1 h2 h3
  obtain ⟨m,rfl⟩:∃ q,m=q+1:=⟨m - 1,by omega⟩
  have f:=aQe e2 ho hc x hx hm e3 e1 hk k (by omega) hk2
  have hw:=aC7 (n:=k) (by omega)
  rw [aFV]
  cases fb:aEu chk own[x] k with
  | true =>
   rw [fb] at f
   rw [cond_true]
   simp only [aAj,aGa,Zaf,Zag,Zah,Zak,Zal,Zan,Zao,Zap,Zaw,Zaz,Zbc,Zbd,Zbm,Zbo,Zbv,Zct,Zcu,Zcz,Zdb,Zdd,Zde,Zdf,Zdg,Zdh,Q2,Q3,Q0,Q1,Zdv,Bool.not_true,eq_self,Q4,Q5,Q5,Q4,f]
  | false =>
   have hlt:k < chk.length:=by
    rcases Nat.lt_or_ge k chk.length with h | h
    ·exact h
    ·rw [aMF chk _ k h] at fb;cases fb
   rw [fb] at f
   rw [cond_false,← ih (k+1) m (by omega) (by omega) (by omega)]
   simp only [aAj,aGa,Zae,Zaf,Zag,Zah,Zai,Zak,Zan,Zao,Zar,Zav,Zay,Zbc,Zbd,Zbm,Zbo,Zbu,Zbv,Zct,Zcu,Zcz,Zda,Zdb,Zdd,Zde,Zdf,Zdg,Zdh,Q2,Q3,Q0,Q1,Zdi,Zdv,Q8,eq_self,Q4,Q5,Q5,Q4,f,hw]
end
end Go.Proofs.Ytgeedikghjcebaa.Ai
namespace Go.Proofs.Ytgeedikghjcebaa.Ai
open Go Go.Proofs
open AV renaming junk → J
open List renaming getD_cons_zero → Q0, getD_cons_succ → Q1
set_option linter.unusedVariables false
set_option linter.unusedSimpArgs false
set_option maxRecDepth 10000
set_option maxHeartbeats 4000000
def aId (l:List Int) (k:Nat) (x:Int):List Int:=(aEr l (k+1)).set k x
theorem aIc (l:List Int) (k:Nat) (x:Int):(aId l k x).length=max l.length (k+1):=by rw [aId,List.length_set,aE7]
def aDF (s:List Int × List Int):List Int→Nat→Int→List Int × List Int
 | [],_,_=>s
 | x::row,k,r=>if x=0 then aDF s row (k+1) r else aDF (aId s.1 k x,aId s.2 k r) row (k+1) r
section
variable {h : aA0} {a b c d w : AV}
theorem aPp (e:h[1]?=some (.arr 0 4 true [[a,b,c,d]])):aAb h 1 false (.ptr 1 0 0 2)=some c:=by rw [aB5 h 1 1 0 0 2 false 4 true _ _ e rfl];rfl
theorem aPo (e:h[1]?=some (.arr 0 4 true [[a,b,c,d]])):aAb h 1 false (.ptr 1 0 0 3)=some d:=by rw [aB5 h 1 1 0 0 3 false 4 true _ _ e rfl];rfl
theorem aTZ (e:h[1]?=some (.arr 0 4 true [[a,b,c,d]])):aAb h 1 false (.ptr 1 0 0 1)=some b:=by rw [aB5 h 1 1 0 0 1 false 4 true _ _ e rfl];rfl
theorem aTX (e:h[1]?=some (.arr 0 4 true [[a,b,c,d]])) (hw:cellsOf w=[w]∧aAp w=true):aAB h 1 (.ptr 1 0 0 2) w=some (h.set 1 (.arr 0 4 true [[a,b,w,d]])):=by
 obtain ⟨w1,w2⟩:=hw
 simp [aAB,aAv,aAk,e,w1,w2]
theorem aTW (e:h[1]?=some (.arr 0 4 true [[a,b,c,d]])) (hw:cellsOf w=[w]∧aAp w=true):aAB h 1 (.ptr 1 0 0 3) w=some (h.set 1 (.arr 0 4 true [[a,b,c,w]])):=by
 obtain ⟨w1,w2⟩:=hw
 simp [aAB,aAv,aAk,e,w1,w2]
end
section
variable {row : List Int} {rv v0 v1 : AV}
theorem aOg (hr:Li row rv) (hm:row.length≤1000000) (x b p:Nat) (hx:x≤1000000) (hb:b+row.length≤9000000) (hp:p≠1) (N:Nat) (w62 w63 w64':AV) :
  ∀ (d i m:Nat) (s:List Int × List Int) (h:aA0) (vv kv:AV) (qv qk:Option Nat),row.length=i+d→d < m→h[1]?=some (.arr 0 4 true [[v0,v1,vv,kv]])→h[p]?=some (.arr 0 1 true [[.int .i64 x]])→aAW s.1 vv h qv→aAW s.2 kv h qk→s.1.length≤9000000→s.2.length≤9000000→(∀ i,qv=some i→2≤i∧i≠p)→(∀ i,qk=some i→2≤i∧i≠p)→(∀ i,qv=some i→qk≠some i) →
  ∃ (h':aA0) (vv' kv':AV) (qv' qk':Option Nat),aAw (aA9 (lim G0.cfg) N aEg) m ⟨(J::J::.ptr 0 0 0 0::.ptr 1 0 0 0::.ptr 2 0 0 0::J::J::J::J::J::J::J::.ptr p 0 0 0::J::.int .i64 b::J::J::J::J::J::J::J::J::J::J::J::J::J::J::J::J::J::J::J::J::J::J::J::J::J::J::J::J::J::J::J::J::J::J::J::J::J::J::J::J::J::J::J::J::J::J::J::w62::w63::w64'::J::J::J::J::J::J::J::J::J::J::J::J::J::J::J::J::J::J::rv::.int .i64 row.length::.int .i64 i::J::J::J::J::J::J::J::J::J::J::J::J::J::J::J::J::J::J::J::J::J::J::J::J::J::J::J::J::J::J::J::J::J::J::J::J::J::J::J::J::[]),h⟩=some (.exit 8,⟨(J::J::.ptr 0 0 0 0::.ptr 1 0 0 0::.ptr 2 0 0 0::J::J::J::J::J::J::J::J::J::J::J::J::J::J::J::J::J::J::J::J::J::J::J::J::J::J::J::J::J::J::J::J::J::J::J::J::J::J::J::J::J::J::J::J::J::J::J::J::J::J::J::J::J::J::J::J::J::w62::w63::w64'::J::J::J::J::J::J::J::J::J::J::J::J::J::J::J::J::J::J::J::J::J::J::J::J::J::J::J::J::J::J::J::J::J::J::J::J::J::J::J::J::J::J::J::J::J::J::J::J::J::J::J::J::J::J::J::J::J::J::J::J::J::[]),h'⟩) ∧
   h'[1]?=some (.arr 0 4 true [[v0,v1,vv',kv']])∧aAW (aDF s (row.drop i) (b+i) ((x+1:Nat):Int)).1 vv' h' qv'∧aAW (aDF s (row.drop i) (b+i) ((x+1:Nat):Int)).2 kv' h' qk' ∧
   (∀ (j:Nat) (o:AObj),h[j]?=some o→j≠1→qv≠some j→qk≠some j→h'[j]?=some o)∧(qv'=qv∨∃ i,qv'=some i∧h.length≤i)∧(qk'=qk∨∃ i,qk'=some i∧h.length≤i)∧(∀ i,qv'=some i→qk'≠some i)∧h.length≤h'.length:=by
 intro d
 induction d with
 | zero =>
  intro i m s h vv kv qv qk h1 h2 e1 e2 gv gk l1 l2 d1 d2 d3
  obtain ⟨m,rfl⟩:∃ q,m=q+1:=⟨m - 1,by omega⟩
  have h3:¬ ((i:Int) < row.length):=by omega
  have q1:row.drop i=[]:=List.drop_eq_nil_iff.2 (by omega)
  rw [q1]
  refine ⟨h,vv,kv,qv,qk,?_,e1,gv,gk,fun _ _ e _ _ _=>e,.inl rfl,.inl rfl,d3,Nat.le_refl _⟩
  simp only [aAj,aG9,Zaf,Zag,Zah,Zak,Zal,Zan,Zao,Zap,Zaw,Zaz,Zbc,Zbm,Zbu,Zcz,Zdb,Zdf,Zdg,Zdh,List.set_cons_zero,List.set_cons_succ,Q0,Q1,Zdl,decide_false,eq_self,h3]
 | succ d ih =>
  intro i m s h vv kv qv qk h1 h2 e1 e2 gv gk l1 l2 d1 d2 d3
  obtain ⟨m,rfl⟩:∃ q,m=q+1:=⟨m - 1,by omega⟩
  have h3:i < row.length:=by omega
  have h3':(i:Int) < row.length:=by omega
  have hw:=aC7 (n:=i) (by omega)
  have hw2:=aSE (a:=b) (b:=i) (by omega)
  have hw3:=aC7 (n:=b+i) (by omega)
  have hw4:=aC7 (n:=x) (by omega)
  have q1:row.drop i=row[i]::row.drop (i+1):=List.drop_eq_getElem_cons h3
  have xa:=fun h=>hr.ix h .i64 i h3
  have lv:∀ (h:aA0) (z:Int),aAb h 1 false (.vptr [.int .i64 z] 0)=some (.int .i64 z):=fun _ _=>rfl
  rw [q1,aDF]
  by_cases z:row[i]=0
  case pos =>
   have g2:decide (row[i]=0)=true:=decide_eq_true z
   rw [if_pos z]
   obtain ⟨h',vv',kv',qv',qk',e,r⟩:=ih (i+1) m s h vv kv qv qk (by omega) (by omega) e1 e2 gv gk l1 l2 d1 d2 d3
   refine ⟨h',vv',kv',qv',qk',?_,r⟩
   rw [← e]
   simp only [aAj,aG9,Zae,Zaf,Zag,Zah,Zai,Zak,Zal,Zan,Zao,Zap,Zat,Zav,Zay,Zbc,Zbm,Zbo,Zbs,Zbu,Zcf,Zcz,Zda,Zdb,Zdf,Zdg,Zdh,List.set_cons_zero,List.set_cons_succ,Q0,Q1,Zdi,Zdl,Zdp,Zer,decide_true,eq_self,h3',xa,g2,hw]
  case neg =>
   have g2:decide (row[i]=0)=false:=decide_eq_false z
   rw [if_neg z]
   obtain ⟨kv1,H1,qk1,k1,gk1,k2,k3,k4⟩:=aOJ gk (b+i+1) (by omega) (by omega)
   have gv':aAW s.1 vv H1 qv:=gv.frame fun j o _ e=>k2 j o e
   obtain ⟨vv1,H2,qv1,v1',gv1,v2,v3,v4⟩:=aOJ gv' (b+i+1) (by omega) (by omega)
   have a1:=k2 1 _ e1
   have a2:=v2 1 _ a1
   have b1:=k2 p _ e2
   have b2:=v2 p _ b1
   have cv:=gv1.cell
   have ck:=gk1.cell
   have len1:1 < h.length:=aBS e1
   have lenp:p < h.length:=aBS e2
   -- where the rows lie
   have nk:∀ j,qk1=some j→2≤j∧j≠p:=fun j e=>by
    rcases k3 with q | q
    ·exact d2 j (q ▸ e)
    ·rw [q] at e;cases e;omega
   have nv:∀ j,qv1=some j→2≤j∧j≠p:=fun j e=>by
    rcases v3 with q | q
    ·exact d1 j (q ▸ e)
    ·rw [q] at e;cases e;omega
   have nvk:∀ j,qv1=some j→qk1≠some j:=fun j e f=>by
    rcases v3 with q | q
    ·rcases k3 with q2 | q2
     ·exact d3 j (q ▸ e) (q2 ▸ f)
     ·rw [q2] at f;cases f
      rw [q] at e
      rw [e] at gv
      have:=gv.lt
      omega
    ·rw [q] at e;cases e
     rw [f] at gk1
     have:=gk1.lt
     omega
   have gk2:aAW (aEr s.2 (b+i+1)) kv1 H2 qk1:=gk1.frame fun j o _ e=>v2 j o e
   have c3:=aTW a2 ck
   have a3:=aAr (y:=AObj.arr 0 4 true [[v0,v1,vv,kv1]]) a2
   have c2:=aTX a3 cv
   rw [set_set] at c2
   obtain ⟨H4,hH4⟩:∃ H,H=H2.set 1 (.arr 0 4 true [[v0,v1,vv1,kv1]]):=⟨_,rfl⟩
   rw [← hH4] at c2
   have a4:H4[1]?=some (.arr 0 4 true [[v0,v1,vv1,kv1]]):=by rw [hH4];exact aAr a2
   have fr4:∀ (j:Nat) (o:AObj),H2[j]?=some o→j≠1→H4[j]?=some o:=fun j o e n=>by rw [hH4];exact aAs e n.symm
   have b4:=fr4 p _ b2 hp
   have gv4:aAW (aEr s.1 (b+i+1)) vv1 H4 qv1:=gv1.frame fun j o f e=>fr4 j o e (by have:=nv j f;omega)
   have gk4:aAW (aEr s.2 (b+i+1)) kv1 H4 qk1:=gk2.frame fun j o f e=>fr4 j o e (by have:=nk j f;omega)
   have lv4:b+i < (aEr s.1 (b+i+1)).length:=by rw [aE7];omega
   have lk4:b+i < (aEr s.2 (b+i+1)).length:=by rw [aE7];omega
   obtain ⟨iv,qiv,xv,_⟩:=gv4.ix lv4
   obtain ⟨ik,qik,xk,_⟩:=gk4.ix lk4
   rw [qiv] at gv4 nv nvk
   rw [qik] at gk4 nk nvk
   have hvk:ik≠iv:=fun e=>nvk iv rfl (by rw [e])
   obtain ⟨H5,s5,gv5,f5,n5⟩:=gv4.put lv4 row[i]
   have gk5:aAW (aEr s.2 (b+i+1)) kv1 H5 (some ik):=gk4.frame fun j o f e=>f5 j o e (by cases f;exact hvk)
   obtain ⟨ik',qik',xk5,_⟩:=gk5.ix lk4
   cases qik'
   have a5:=f5 1 _ a4 (by have:=nv iv rfl;omega)
   have b5:=f5 p _ b4 (by have:=nv iv rfl;omega)
   obtain ⟨H6,s6,gk6,f6,n6⟩:=gk5.put lk4 ((x+1:Nat):Int)
   have gv6:aAW (aId s.1 (b+i) row[i]) vv1 H6 (some iv):=gv5.frame fun j o f e=>f6 j o e (by cases f;exact hvk.symm)
   have a6:=f6 1 _ a5 (by have:=nk ik rfl;omega)
   have b6:=f6 p _ b5 (by have:=nk ik rfl;omega)
   have lenH:H6.length=H2.length:=by rw [n6,n5,hH4,List.length_set]
   obtain ⟨h',vv',kv',qv',qk',e,r1,r2,r3,r4,r5,r6,r7,r8⟩:=ih (i+1) m (aId s.1 (b+i) row[i],aId s.2 (b+i) ((x+1:Nat):Int)) H6 vv1 kv1 (some iv) (some ik) (by omega) (by omega) a6 b6 gv6 gk6 (by rw [aIc];omega) (by rw [aIc];omega) (fun j f=>by cases f;exact nv iv rfl) (fun j f=>by cases f;exact nk ik rfl) (fun j f=>by cases f;exact nvk iv rfl)
   have kv_old:some ik=qk∨h.length≤ik:=by
    rcases k3 with q | q
    ·left;rw [← qik,q]
    ·right;rw [q] at qik;cases qik;exact Nat.le_refl _
   have vv_old:some iv=qv∨h.length≤iv:=by
    rcases v3 with q | q
    ·left;rw [← qiv,q]
    ·right;rw [q] at qiv;cases qiv;exact k4
   refine ⟨h',vv',kv',qv',qk',?_,r1,r2,r3,fun j o e n1 n2 n3 => ?_,?_,?_,r7,by omega⟩
   ·rw [← e]
    have la:=aPo e1
    have lb:=aPp e1
    have la1:=aPp a1
    have la4:=aPp a4
    have lb4:=aPo a4
    have lb5:=aPo a5
    have lx4:aAb H4 1 false (.ptr p 0 0 0)=some (.int .i64 x):=by rw [aB5 H4 1 p 0 0 0 false 1 true _ _ b4 rfl];rfl
    have lx5:aAb H5 1 false (.ptr p 0 0 0)=some (.int .i64 x):=by rw [aB5 H5 1 p 0 0 0 false 1 true _ _ b5 rfl];rfl
    simp only [aAj,aG9,Zae,Zaf,Zag,Zah,Zai,Zak,Zan,Zao,Zar,Zav,Zaw,Zay,Zbc,Zbd,Zbe,Zbm,Zbo,Zbs,Zbt,Zbu,Zcc,Zcf,Zct,Zcu,Zcz,Zda,Zdb,Zdc,Zdd,Zde,Zdf,Zdg,Zdh,List.set_cons_zero,List.set_cons_succ,Q0,Q1,Zdi,Zdl,Zdp,Zeb,Zer,decide_true,Nat.reduceAdd,eq_self,List.cons_append,List.nil_append,aMW,aLV,aLU,aLT,aLS,aLR,aLQ,aLP,aLO,aLN,aLM,aKY,aKX,aKW,aKV,aKU,aKT,aKS,aKR,aKQ,aKP,aKO,aMe,aMc,aMd,aLo,aI1,aMV,aLL,aLK,aLJ,aLI,aLH,aLG,aLF,aLE,aLD,aLC,aKN,aKM,aKL,aKK,aKJ,aKI,aKH,aKG,aKF,aKE,aKD,aKC,aKB,aKA,aMe,aMc,aMd,aLo,aI1,h3',xa,g2,hw,hw2,hw3,hw4,la,lb,la1,k1,v1',c3,c2,la4,lb4,lb5,lx4,lx5,xv,xk5,s5,s6]
   ·have jl:j < h.length:=aBS e
    refine r4 j o (f6 j o (f5 j o (fr4 j o (v2 j o (k2 j o e)) n1) fun e => ?_) fun e => ?_) n1 (fun e => ?_) (fun e => ?_)
    ·subst e;rcases vv_old with q | q
     ·exact n2 q.symm
     ·omega
    ·subst e;rcases kv_old with q | q
     ·exact n3 q.symm
     ·omega
    ·cases e;rcases vv_old with q | q
     ·exact n2 q.symm
     ·omega
    ·cases e;rcases kv_old with q | q
     ·exact n3 q.symm
     ·omega
   ·rcases r5 with q | ⟨j,q,q2⟩
    ·rcases vv_old with q3 | q3
     ·exact .inl (q.trans q3)
     ·exact .inr ⟨iv,q,q3⟩
    ·exact .inr ⟨j,q,by omega⟩
   ·rcases r6 with q | ⟨j,q,q2⟩
    ·rcases kv_old with q3 | q3
     ·exact .inl (q.trans q3)
     ·exact .inr ⟨ik,q,q3⟩
    ·exact .inr ⟨j,q,by omega⟩
end
end Go.Proofs.Ytgeedikghjcebaa.Ai
namespace Go.Proofs.Ytgeedikghjcebaa.Ai
open Go Go.Proofs
open AV renaming junk → J
open List renaming length_cons → Q0
set_option linter.unusedVariables false
set_option linter.unusedSimpArgs false
set_option maxRecDepth 10000
set_option maxHeartbeats 4000000
theorem aIg:∀ (row:List Int) (s:List Int × List Int) (k:Nat) (r:Int),s.1.length=s.2.length→(aDF s row k r).1.length=(aDF s row k r).2.length∧(aDF s row k r).1.length≤max s.1.length (k+row.length):=by
 intro row
 induction row with
 | nil=>intro s k r h;exact ⟨h,by rw [aDF];omega⟩
 | cons x row ih =>
  intro s k r h
  rw [aDF]
  by_cases z:x=0
  ·rw [if_pos z]
   obtain ⟨h1,h2⟩:=ih s (k+1) r h
   refine ⟨h1,?_⟩
   rw [Q0];omega
  ·rw [if_neg z]
   obtain ⟨h1,h2⟩:=ih (aId s.1 k x,aId s.2 k r) (k+1) r (by simp only [aIc,h])
   refine ⟨h1,?_⟩
   simp only [aIc] at h2
   rw [Q0];omega
def aBy (own:List (List Int)) (s:List Int × List Int × List Int) (x:Int):List Int × List Int × List Int :=
 (s.1.set x.toNat ((aHt s.2.2 (own.getD x.toNat []):Nat):Int),aDF s.2 (own.getD x.toNat []) (aHt s.2.2 (own.getD x.toNat [])) (x+1))
theorem aRR (h:aA0) (m n:Int):aAB (h++[.arr 0 1 true [[.int .i64 m]]]) 1 (.ptr h.length 0 0 0) (.int .i64 n)=some (h++[.arr 0 1 true [[.int .i64 n]]]):=by
 simp [aAB,aAv,aAk,cellsOf,aAp]
section
variable {own : List (List Int)} {cs : List (List AV)} {ov v0 : AV} {qo : Option Nat} {ord : List Int}
theorem aSe (hc:aDU own cs) (M:Nat) (hM:∀ r ∈ own,r.length≤M) (hM1:M≤1000000) (hM2:own.length*M+M≤9000000) (hn:own.length≤1000000) (hol:ord.length=own.length) (hom:∀ x ∈ ord,0≤x∧x < own.length)
  (L Lb T N:Nat) (hN:9000001≤N) (hL:L < T) (hLb:Lb < T) (hLL:L≠Lb) (hT:3≤T) (hL3:3≤L) (hLb3:3≤Lb) (hqo:∀ i,qo=some i→i < T∧3≤i∧i≠Lb) :
  ∀ (d i m:Nat) (s:List Int × List Int × List Int) (h:aA0) (vv kv:AV) (qv qk:Option Nat),ord.length=i+d→d < m →
   h[1]?=some (.arr 0 4 true [[v0,.hsl Lb 0 0 own.length none,vv,kv]])→h[2]?=some (.arr 0 1 true [[ov]])→aAu 1 cs ov h qo→h[L]?=some (.arr 0 1 true (eIs ord))→h[Lb]?=some (.arr 0 1 true (eIs s.1))→s.1.length=own.length →
   aAW s.2.1 vv h qv→aAW s.2.2 kv h qk→s.2.1.length=s.2.2.length→s.2.1.length≤i*M→(∀ i,qv=some i→T≤i)→(∀ i,qk=some i→T≤i)→(∀ i,qv=some i→qk≠some i)→T≤h.length →
   ∃ (h':aA0) (vv' kv':AV) (qv' qk':Option Nat),aAw (aA9 (lim G0.cfg) N aEi) m ⟨(J::J::.ptr 0 0 0 0::.ptr 1 0 0 0::.ptr 2 0 0 0::J::J::J::J::J::J::J::J::J::J::J::J::J::J::J::J::J::J::J::J::J::J::J::J::J::J::J::J::J::J::J::J::J::J::J::J::J::J::J::J::J::J::J::J::J::J::J::J::J::J::J::J::J::J::J::J::J::.hsl L 0 0 own.length none::.int .i64 own.length::.int .i64 i::J::J::J::J::J::J::J::J::J::J::J::J::J::J::J::J::J::J::J::J::J::J::J::J::J::J::J::J::J::J::J::J::J::J::J::J::J::J::J::J::J::J::J::J::J::J::J::J::J::J::J::J::J::J::J::J::J::J::J::J::J::[]),h⟩=some (.exit 4,⟨(J::J::.ptr 0 0 0 0::.ptr 1 0 0 0::J::J::J::J::J::J::J::J::J::J::J::J::J::J::J::J::J::J::J::J::J::J::J::J::J::J::J::J::J::J::J::J::J::J::J::J::J::J::J::J::J::J::J::J::J::J::J::J::J::J::J::J::J::J::J::J::J::J::J::J::J::J::J::J::J::J::J::J::J::J::J::J::J::J::J::J::J::J::J::J::J::J::J::J::J::J::J::J::J::J::J::J::J::J::J::J::J::J::J::J::J::J::J::J::J::J::J::J::J::J::J::J::J::J::J::J::J::J::J::J::J::J::[]),h'⟩) ∧
    h'[1]?=some (.arr 0 4 true [[v0,.hsl Lb 0 0 own.length none,vv',kv']])∧h'[Lb]?=some (.arr 0 1 true (eIs ((ord.drop i).foldl (aBy own) s).1))∧((ord.drop i).foldl (aBy own) s).1.length=own.length∧aAW ((ord.drop i).foldl (aBy own) s).2.1 vv' h' qv'∧aAW ((ord.drop i).foldl (aBy own) s).2.2 kv' h' qk' ∧
    (∀ (j:Nat) (o:AObj),j < T→j≠1→j≠Lb→h[j]?=some o→h'[j]?=some o)∧(∀ i,qv'=some i→T≤i)∧(∀ i,qk'=some i→T≤i)∧(∀ i,qv'=some i→qk'≠some i)∧h.length≤h'.length:=by
 intro d
 induction d with
 | zero =>
  intro i m s h vv kv qv qk h1 h2 e1 e2 ho eL eb lb gv gk l1 l2 d1 d2 d3 hl
  obtain ⟨m,rfl⟩:∃ q,m=q+1:=⟨m - 1,by omega⟩
  have h3:¬ ((i:Int) < own.length):=by omega
  have q1:ord.drop i=[]:=List.drop_eq_nil_iff.2 (by omega)
  rw [q1,List.foldl_nil]
  refine ⟨h,vv,kv,qv,qk,?_,e1,eb,lb,gv,gk,fun _ _ _ _ _ e=>e,d1,d2,d3,Nat.le_refl _⟩
  simp only [aAj,aIT,Zaf,Zag,Zah,Zak,Zal,Zan,Zao,Zap,Zaw,Zaz,Zbc,Zbm,Zbu,Zcz,Zdb,Zdf,Zdg,Zdh,List.set_cons_zero,List.set_cons_succ,List.getD_cons_zero,List.getD_cons_succ,Zdl,decide_false,eq_self,h3]
 | succ d ih =>
  intro i m s h vv kv qv qk h1 h2 e1 e2 ho eL eb lb gv gk l1 l2 d1 d2 d3 hl
  obtain ⟨m,rfl⟩:∃ q,m=q+1:=⟨m - 1,by omega⟩
  have h3:i < ord.length:=by omega
  have h3':(i:Int) < own.length:=by omega
  have hw:=aC7 (n:=i) (by omega)
  have q1:ord.drop i=ord[i]::ord.drop (i+1):=List.drop_eq_getElem_cons h3
  have hx:=hom _ (List.getElem_mem h3)
  obtain ⟨a,ha⟩:∃ a:Nat,ord[i]=(a:Int):=⟨ord[i].toNat,by omega⟩
  have x1:=fun k=>aBM (n:=own.length) (c:=none) eL (k:=k) (j:=i) (by omega)
  have eL':h[L]?=some (.arr 0 1 true (eIs ord++[])):=by rw [List.append_nil];exact eL
  have x2:=ldI eL' h3
  rw [ha] at hx x2
  have hao:a < own.length:=by omega
  have gd:own.getD a []=own[a]:=by simp [hao]
  have hmr:=hM _ (List.getElem_mem hao)
  have hmul:(i+1)*M≤own.length*M:=Nat.mul_le_mul_right M (by omega)
  have hsucc:(i+1)*M=i*M+M:=Nat.succ_mul i M
  rw [q1,List.foldl_cons,ha]
  -- the row's number, boxed
  obtain ⟨H1,hH1⟩:∃ H,H=h++[AObj.arr 0 1 true [[.int .i64 a]]]:=⟨_,rfl⟩
  have fr1:∀ (j:Nat) (o:AObj),h[j]?=some o→H1[j]?=some o:=fun j o e=>by rw [hH1];exact aAJ e _
  have sn:=aRR h 0 a
  rw [← hH1] at sn
  have ep:H1[h.length]?=some (.arr 0 1 true [[.int .i64 a]]):=by rw [hH1];exact aBz _ _
  have a1:=fr1 1 _ e1
  have a2:=fr1 2 _ e2
  have ab:=fr1 Lb _ eb
  have ho1:aAu 1 cs ov H1 qo:=ho.frame fun j o _ e=>fr1 j o e
  have gv1:aAW s.2.1 vv H1 qv:=gv.frame fun j o _ e=>fr1 j o e
  have gk1:aAW s.2.2 kv H1 qk:=gk.frame fun j o _ e=>fr1 j o e
  have bs:=aPj a2 ho1 hc a hao (by omega) ep a1 gk1 (by omega) N (.hsl L 0 0 own.length none) (.int .i64 own.length) (.int .i64 i) s.2.2.length 0 N (by omega) (by omega) (by omega)
  rw [z0] at bs
  obtain ⟨b,hb⟩:∃ b,b=aHt s.2.2 own[a]:=⟨_,rfl⟩
  have bs':aFV s.2.2 own[a] s.2.2.length 0=b:=hb.symm
  rw [bs'] at bs
  have hb1:b≤s.2.2.length:=by rw [hb];exact aKv _ _
  -- its base
  have lb1:=aTZ a1
  have lp1:aAb H1 1 false (.ptr h.length 0 0 0)=some (.int .i64 a):=by rw [aB5 H1 1 h.length 0 0 0 false 1 true _ _ ep rfl];rfl
  have xb:=fun k=>aBM (n:=own.length) (c:=none) ab (k:=k) (j:=a) (by omega)
  have ab':H1[Lb]?=some (.arr 0 1 true (eIs s.1++[])):=by rw [List.append_nil];exact ab
  have sb:=stI ab' (j:=a) (by omega) (b:Int)
  rw [List.append_nil] at sb
  obtain ⟨H2,hH2⟩:∃ H,H=H1.set Lb (.arr 0 1 true (eIs (s.1.set a (b:Int)))):=⟨_,rfl⟩
  rw [← hH2] at sb
  have fr2:∀ (j:Nat) (o:AObj),j≠Lb→H1[j]?=some o→H2[j]?=some o:=fun j o n e=>by rw [hH2];exact aAs e n.symm
  have b1:=fr2 1 _ (by omega) a1
  have b2:=fr2 2 _ (by omega) a2
  have bL:=fr2 L _ hLL (fr1 L _ eL)
  have bb:H2[Lb]?=some (.arr 0 1 true (eIs (s.1.set a (b:Int)))):=by rw [hH2];exact aAr ab
  have bp:=fr2 h.length _ (by omega) ep
  have ho2:aAu 1 cs ov H2 qo:=ho1.frame fun j o f e=>fr2 j o (hqo j f).2.2 e
  have gv2:aAW s.2.1 vv H2 qv:=gv1.frame fun j o f e=>fr2 j o (by have:=d1 j f;omega) e
  have gk2:aAW s.2.2 kv H2 qk:=gk1.frame fun j o f e=>fr2 j o (by have:=d2 j f;omega) e
  obtain ⟨rv,r1,r2⟩:=hc.2 a hao
  obtain ⟨pp,p1,p2⟩:=ho2.ix1 r1
  have lo2:aAb H2 1 false (.ptr 2 0 0 0)=some ov:=by rw [aB5 H2 1 2 0 0 0 false 1 true _ _ b2 rfl];rfl
  have lp2:aAb H2 1 false (.ptr h.length 0 0 0)=some (.int .i64 a):=by rw [aB5 H2 1 h.length 0 0 0 false 1 true _ _ bp rfl];rfl
  have lr:=r2.len H2
  have lenH2:H2.length=h.length+1:=by rw [hH2,List.length_set,hH1];simp
  have ne_v:∀ j,qv=some j→j < h.length:=fun j f=>by rw [f] at gv;exact gv.lt
  have ne_k:∀ j,qk=some j→j < h.length:=fun j f=>by rw [f] at gk;exact gk.lt
  obtain ⟨H3,vv3,kv3,qv3,qk3,e,c1,c2,c3,c4,c5,c6,c7,c8⟩:=aOg r2 (by omega) a b h.length (by omega) (by omega) (by omega) N (.hsl L 0 0 own.length none) (.int .i64 own.length) (.int .i64 i) own[a].length 0 N s.2 H2 vv kv qv qk (by omega) (by omega) b1 bp gv2 gk2 (by omega) (by omega) (fun j f=>⟨by have:=d1 j f;omega,by have:=ne_v j f;omega⟩) (fun j f=>⟨by have:=d2 j f;omega,by have:=ne_k j f;omega⟩) d3
  rw [z0] at e
  rw [List.drop_zero,Nat.add_zero] at c2 c3
  have es:aBy own s ((a:Nat):Int)=(s.1.set a (b:Int),aDF s.2 own[a] b ((a+1:Nat):Int)):=by
   simp only [aBy,Int.toNat_natCast,gd,← hb]
   rfl
  have pl:=aIg own[a] s.2 b ((a+1:Nat):Int) l1
  have fr3:∀ (j:Nat) (o:AObj),j < T→j≠1→H2[j]?=some o→H3[j]?=some o:=fun j o h1 h2 e=>c4 j o e h2 (fun f=>by have:=d1 j f;omega) (fun f=>by have:=d2 j f;omega)
  have tv:∀ j,qv3=some j→T≤j:=fun j f=>by
   rcases c5 with q | ⟨i,q,q2⟩
   ·exact d1 j (q ▸ f)
   ·rw [q] at f;cases f;omega
  have tk:∀ j,qk3=some j→T≤j:=fun j f=>by
   rcases c6 with q | ⟨i,q,q2⟩
   ·exact d2 j (q ▸ f)
   ·rw [q] at f;cases f;omega
  obtain ⟨h',vv',kv',qv',qk',e',g1,g2,g3,g4,g5,g6,g7,g8,g9,g10⟩:=ih (i+1) m (aBy own s ((a:Nat):Int)) H3 vv3 kv3 qv3 qk3 (by omega) (by omega) c1 (fr3 2 _ (by omega) (by omega) b2) (ho2.frame fun j o f e=>fr3 j o (hqo j f).1 (by have:=hqo j f;omega) e) (fr3 L _ hL (by omega) bL) (by rw [es];exact fr3 Lb _ hLb (by omega) bb) (by rw [es,List.length_set];exact lb) (by rw [es];exact c2) (by rw [es];exact c3) (by rw [es];exact pl.1) (by rw [es];exact Nat.le_trans pl.2 (Nat.max_le.2 ⟨by omega,by omega⟩)) tv tk c7 (by omega)
  refine ⟨h',vv',kv',qv',qk',?_,g1,g2,g3,g4,g5,fun j o t1 t2 t3 eo=>g6 j o t1 t2 t3 (fr3 j o t1 t2 (fr2 j o t3 (fr1 j o eo))),g7,g8,g9,by omega⟩
  rw [← e']
  simp only [aAj,aIT,Zae,Zaf,Zag,Zah,Zai,Zaj,Zak,Zan,Zao,Zar,Zat,Zav,Zax,Zay,Zbc,Zbe,Zbm,Zbo,Zbq,Zbs,Zbt,Zbu,Zbx,Zcc,Zcf,Zck,Zcz,Zda,Zdb,Zdc,Zdd,Zde,Zdf,Zdg,Zdh,List.set_cons_zero,List.set_cons_succ,List.getD_cons_zero,List.getD_cons_succ,Zdi,Zdl,Zeb,decide_true,Q0,List.length_nil,Nat.reduceAdd,eq_self,Q0,List.length_nil,h3',x1,x2,sn,bs,lb1,lp1,xb,sb,lo2,lp2,p1,p2,lr,e,hw]
end
end Go.Proofs.Ytgeedikghjcebaa.Ai
namespace Go.Proofs.Ytgeedikghjcebaa.Ai
open Go Go.Proofs
open List renaming replicate → Q0
set_option linter.unusedVariables false
set_option linter.unusedSimpArgs false
set_option maxRecDepth 10000
set_option maxHeartbeats 4000000
theorem aME:∀ (rows:List (List Int)) (s:List (List Int) × List Int),(rows.foldl aBh s).1.length≤s.1.length+rows.length∧(rows.foldl aBh s).2.length=s.2.length+rows.length:=by
 intro rows
 induction rows with
 | nil=>intro s;exact ⟨Nat.le_refl _,rfl⟩
 | cons r rows ih =>
  intro s
  obtain ⟨h1,h2⟩:=ih (aBh s r)
  rw [List.foldl_cons]
  have e1:(aBh s r).2.length=s.2.length+1:=by simp [aBh]
  have e2:(aBh s r).1.length≤s.1.length+1:=by
   simp only [aBh]
   split
   ·simp
   ·omega
  rw [List.length_cons]
  omega
theorem aMD:∀ (rows:List (List Int)) (s:List (List Int) × List Int) (x:List Int),x ∈ (rows.foldl aBh s).1→x ∈ s.1∨x ∈ rows:=by
 intro rows
 induction rows with
 | nil=>intro s x h;exact .inl h
 | cons r rows ih =>
  intro s x h
  rw [List.foldl_cons] at h
  rcases ih _ x h with h | h
  ·simp only [aBh] at h
   split at h
   ·rcases List.mem_append.1 h with h | h
    ·exact .inl h
    ·rw [List.mem_singleton] at h;subst h;exact .inr (by simp)
   ·exact .inl h
  ·exact .inr (by simp [h])
theorem aRS (h:aA0) (z f:AV) (hf:cellsOf f=[f]∧aAp f=true):aAB (h++[.arr 0 1 true [[z]]]) 1 (.ptr h.length 0 0 0) f=some (h++[.arr 0 1 true [[f]]]):=by
 simp [aAB,aAv,aAk,hf]
theorem aSR (h:aA0) (n:Nat) (hn:n≤1000000):amk h 1 8 [.int .i64 0] (.int .i64 n) (.int .i64 n)=some (.hsl h.length 0 0 n none,h++[.arr 0 1 true (eIs (Q0 n 0))]):=by
 simp only [amk]
 rw [if_pos ⟨by omega,by omega,by omega⟩,aMJ]
 have:((n:Nat):Int).toNat=n:=by omega
 rw [this]
theorem aTY {h:aA0} {a b c d w:AV} (e:h[1]?=some (.arr 0 4 true [[a,b,c,d]])) (hw:cellsOf w=[w]∧aAp w=true):aAB h 1 (.ptr 1 0 0 1) w=some (h.set 1 (.arr 0 4 true [[a,w,c,d]])):=by
 obtain ⟨w1,w2⟩:=hw
 simp [aAB,aAv,aAk,e,w1,w2]
def aIm (own:List (List Int)) (ord:List Int):List Int × List Int × List Int:=ord.foldl (aBy own) (Q0 own.length 0,[],[])
def aN1 (own:List (List Int)) (ord:List Int):Prop:=List.Perm ord (aCt own.length)∧aAO (aGW own) ord
theorem aRW {rows:List (List Int)} {v:AV} (hv:LiR rows v) (hn:rows.length≤1000000) (M:Nat) (hM:∀ r ∈ rows,r.length≤M) (hM1:M≤1000000) (hM2:rows.length*M+M≤9000000) :
  ∃ (ord:List Int) (h:aA0) (rv vv kv:AV) (Lb:Nat) (q1 qv qk:Option Nat),aN1 (aAV rows).1 ord∧aB8 (lim G0.cfg) 9000001 aFc [v] []=some (.agg [rv,.hsl Lb 0 0 (aAV rows).1.length none,vv,kv],h) ∧
   aAu 1 (eIs (aAV rows).2) rv h q1∧h[Lb]?=some (.arr 0 1 true (eIs (aIm (aAV rows).1 ord).1))∧(aIm (aAV rows).1 ord).1.length=(aAV rows).1.length∧aAW (aIm (aAV rows).1 ord).2.1 vv h qv∧aAW (aIm (aAV rows).1 ord).2.2 kv h qk:=by
 obtain ⟨h0,hh0⟩:∃ H:aA0,H=[.arr 0 4 true [[.nilS,.nilS,.nilS,.nilS]],.arr 0 4 true [[.nilS,.nilS,.nilS,.nilS]],.arr 0 1 true [[.nilS]]]:=⟨_,rfl⟩
 have I0:Inv1 ([],[]) h0:=by
  subst hh0
  exact ⟨rfl,.nilS,.nilS,[],none,none,rfl,aAu.nil 1 _,rfl,aAu.nil 1 _,⟨rfl,fun j hj=>(by simp at hj)⟩,fun _ e=>(by cases e),fun _ e=>(by cases e),fun _ e=>(by cases e)⟩
 obtain ⟨h1,r1,I1,hl1⟩:=aSg hv hn (fun r hr=>Nat.le_trans (hM r hr) hM1) 9000001 rows.length 0 9000001 ([],[]) h0 (by omega) (by omega) I0 (by rw [hh0];simp) (by simp) rfl (by simp)
 rw [List.drop_zero] at I1
 rw [z0] at r1
 have hD:rows.foldl aBh ([],[])=aAV rows:=rfl
 rw [hD] at I1
 have dl:=aME rows ([],[])
 rw [hD] at dl
 have dm:∀ r ∈ (aAV rows).1,r.length≤M:=fun r hr=>by
  rcases aMD rows ([],[]) r (by rw [hD];exact hr) with h | h
  ·simp at h
  ·exact hM r h
 obtain ⟨own,hown⟩:∃ o,o=(aAV rows).1:=⟨_,rfl⟩
 obtain ⟨idx,hidx⟩:∃ o,o=(aAV rows).2:=⟨_,rfl⟩
 obtain ⟨e0,rv,ov,cs,q1,q2,e1,o1,e2,o2,hc,hq,hq1,hq2⟩:=I1
 rw [← hown] at dl dm hc
 rw [← hidx] at o1 dl
 rw [← hown,← hidx]
 simp only [List.length_nil,Nat.zero_add] at dl
 have hno:own.length≤1000000:=by omega
 have hmulo:own.length*M≤rows.length*M:=Nat.mul_le_mul_right M dl.1
 have lc:cs.length=own.length:=hc.1
 obtain ⟨L,hL⟩:∃ L,L=h1.length:=⟨_,rfl⟩
 -- the order's row
 have mk1:=aSR h1 own.length hno
 obtain ⟨h2,hh2⟩:∃ H,H=h1++[AObj.arr 0 1 true (eIs (Q0 own.length 0))]:=⟨_,rfl⟩
 rw [← hh2,← hL] at mk1
 have fr2:∀ (j:Nat) (o:AObj),h1[j]?=some o→h2[j]?=some o:=fun j o e=>by rw [hh2];exact aAJ e _
 have eL2:h2[L]?=some (.arr 0 1 true (eIs (Q0 own.length 0))):=by rw [hh2,hL];exact aBz _ _
 have lh2:h2.length=L+1:=by rw [hh2,hL];simp
 have fl:=aPi own.length L hno 9000001 own.length 0 9000001 h2 (by omega) (by omega) (by rw [eL2];rfl)
 rw [z0] at fl
 obtain ⟨h3,hh3⟩:∃ H,H=h2.set L (.arr 0 1 true (eIs (aCt own.length))):=⟨_,rfl⟩
 rw [← hh3] at fl
 have lh3:h3.length=L+1:=by rw [hh3,List.length_set];exact lh2
 have fr3:∀ (j:Nat) (o:AObj),j≠L→h2[j]?=some o→h3[j]?=some o:=fun j o n e=>by rw [hh3];exact aAs e n.symm
 have eL3:h3[L]?=some (.arr 0 1 true (eIs (aCt own.length))):=by rw [hh3];exact aAr eL2
 -- the count
 have sf:=aRS h3 .nilF (.fn (.func 64) [] [.ptr 2 0 0 0]) ⟨rfl,rfl⟩
 obtain ⟨h4,hh4⟩:∃ H,H=h3++[AObj.arr 0 1 true [[.fn (.func 64) [] [.ptr 2 0 0 0]]]]:=⟨_,rfl⟩
 rw [← hh4,lh3] at sf
 have fr4:∀ (j:Nat) (o:AObj),h3[j]?=some o→h4[j]?=some o:=fun j o e=>by rw [hh4];exact aAJ e _
 have ec4:h4[L+1]?=some (.arr 0 1 true [[.fn (.func 64) [] [.ptr 2 0 0 0]]]):=by rw [hh4,← lh3];exact aBz _ _
 have lh4:h4.length=L+2:=by rw [hh4];simp [lh3]
 have L3:3≤L:=by omega
 have q1l:∀ i,q1=some i→i < L:=fun i e=>by rw [e] at o1;rw [hL];exact o1.lt
 have q2l:∀ i,q2=some i→i < L:=fun i e=>by rw [e] at o2;rw [hL];exact o2.lt
 have up4:∀ (j:Nat) (o:AObj),j < L→h1[j]?=some o→h4[j]?=some o:=fun j o n e=>fr4 j o (fr3 j o (by omega) (fr2 j o e))
 have o2d:aAu 1 cs ov h4 q2:=o2.frame fun j o f e=>up4 j o (q2l j f) e
 have C:=aTm (own:=own) (cs:=cs) (ov:=ov) (q:=q2) L L3 q2l hc (fun r hr=>Nat.le_trans (dm r hr) hM1)
 obtain ⟨ord,hp,hs,st⟩:=aNw (n:=own.length) (ver:=0) (x0:=true) (tl:=[]) C (by omega) (aCt own.length) h4 (fun x hx=>aMB.1 hx) (aNl _) (aEG _) ⟨up4 2 _ (by omega) e2,o2d,ec4⟩ (by rw [List.append_nil];exact fr4 L _ eL3)
 rw [List.append_nil] at st
 obtain ⟨h5,hh5⟩:∃ H,H=h4.set L (.arr 0 1 true (eIs ord)):=⟨_,rfl⟩
 rw [← hh5] at st
 have fr5:∀ (j:Nat) (o:AObj),j≠L→h4[j]?=some o→h5[j]?=some o:=fun j o n e=>by rw [hh5];exact aAs e n.symm
 have eL5:h5[L]?=some (.arr 0 1 true (eIs ord)):=by rw [hh5];exact aAr (fr4 L _ eL3)
 have lh5:h5.length=L+2:=by rw [hh5,List.length_set];exact lh4
 -- the bases' row
 have mk2:=aSR h5 own.length hno
 obtain ⟨h6,hh6⟩:∃ H,H=h5++[AObj.arr 0 1 true (eIs (Q0 own.length 0))]:=⟨_,rfl⟩
 rw [← hh6,lh5] at mk2
 have fr6:∀ (j:Nat) (o:AObj),h5[j]?=some o→h6[j]?=some o:=fun j o e=>by rw [hh6];exact aAJ e _
 have eb6:h6[L+2]?=some (.arr 0 1 true (eIs (Q0 own.length 0))):=by rw [hh6,← lh5];exact aBz _ _
 have lh6:h6.length=L+3:=by rw [hh6];simp [lh5]
 have up6:∀ (j:Nat) (o:AObj),j < L→h1[j]?=some o→h6[j]?=some o:=fun j o n e=>fr6 j o (fr5 j o (by omega) (up4 j o n e))
 have e16:=up6 1 _ (by omega) e1
 have sb:=aTY (w:=.hsl (L+2) 0 0 own.length none) e16 ⟨rfl,rfl⟩
 obtain ⟨h7,hh7⟩:∃ H,H=h6.set 1 (.arr 0 4 true [[rv,.hsl (L+2) 0 0 own.length none,.nilS,.nilS]]):=⟨_,rfl⟩
 rw [← hh7] at sb
 have fr7:∀ (j:Nat) (o:AObj),j≠1→h6[j]?=some o→h7[j]?=some o:=fun j o n e=>by rw [hh7];exact aAs e n.symm
 have e17:h7[1]?=some (.arr 0 4 true [[rv,.hsl (L+2) 0 0 own.length none,.nilS,.nilS]]):=by rw [hh7];exact aAr e16
 have lh7:h7.length=L+3:=by rw [hh7,List.length_set];exact lh6
 have up7:∀ (j:Nat) (o:AObj),j < L→j≠1→h1[j]?=some o→h7[j]?=some o:=fun j o n n1 e=>fr7 j o n1 (up6 j o n e)
 have o27:aAu 1 cs ov h7 q2:=o2.frame fun j o f e=>up7 j o (q2l j f) (by have:=hq2 j f;omega) e
 have o17:aAu 1 (eIs idx) rv h7 q1:=o1.frame fun j o f e=>up7 j o (q1l j f) (by have:=hq1 j f;omega) e
 have hol:ord.length=own.length:=by rw [hp.length_eq,aEG]
 obtain ⟨h8,vv,kv,qv,qk,r8,g1,g2,g3,g4,g5,g6,g7,g8,g9,g10⟩:=aSe (v0:=rv) hc M dm hM1 (by omega) hno hol (fun x hx=>aMB.1 (hp.mem_iff.1 hx)) L (L+2) (L+3) 9000001 (by omega) (by omega) (by omega) (by omega) (by omega) L3 (by omega) (fun i e=>by have:=q2l i e;have:=hq2 i e;omega)
  own.length 0 9000001 (Q0 own.length 0,[],[]) h7 .nilS .nilS none none (by omega) (by omega) e17 (up7 2 _ (by omega) (by omega) e2) o27 (fr7 L _ (by omega) (fr6 L _ eL5)) (fr7 (L+2) _ (by omega) eb6) (by simp) (aAW.nil _) (aAW.nil _) rfl (by simp) (fun _ e=>(by cases e)) (fun _ e=>(by cases e)) (fun _ e=>(by cases e)) (by omega)
 rw [z0] at r8
 rw [List.drop_zero] at g2 g3 g4 g5
 have hlay:ord.foldl (aBy own) (Q0 own.length 0,[],[])=aIm own ord:=rfl
 rw [hlay] at g2 g3 g4 g5
 have o18:aAu 1 (eIs idx) rv h8 q1:=o17.frame fun j o f e=>g6 j o (by have:=q1l j f;omega) (by have:=hq1 j f;omega) (by have:=q1l j f;omega) e
 have e08:=g6 0 _ (by omega) (by omega) (by omega) (up7 0 _ (by omega) (by omega) e0)
 have rc:=o18.cell
 have vc:=g4.cell
 have kc:=g5.cell
 have l9:aAb h8 4 true (.ptr 1 0 0 0)=some (.agg [rv,.hsl (L+2) 0 0 own.length none,vv,kv]):=by rw [aB5 h8 4 1 0 0 0 true 4 true _ _ g1 rfl];rfl
 have s9:aAB h8 4 (.ptr 0 0 0 0) (.agg [rv,.hsl (L+2) 0 0 own.length none,vv,kv])=some (h8.set 0 (.arr 0 4 true [[rv,.hsl (L+2) 0 0 own.length none,vv,kv]])):=by
  simp [aAB,aAv,aAk,e08,cellsOf,rc.2,vc.2,kc.2,aU7]
 obtain ⟨h9,hh9⟩:∃ H,H=h8.set 0 (.arr 0 4 true [[rv,.hsl (L+2) 0 0 own.length none,vv,kv]]):=⟨_,rfl⟩
 rw [← hh9] at s9
 have fr9:∀ (j:Nat) (o:AObj),j≠0→h8[j]?=some o→h9[j]?=some o:=fun j o n e=>by rw [hh9];exact aAs e n.symm
 have e09:h9[0]?=some (.arr 0 4 true [[rv,.hsl (L+2) 0 0 own.length none,vv,kv]]):=by rw [hh9];exact aAr e08
 have l0:aAb h9 4 true (.ptr 0 0 0 0)=some (.agg [rv,.hsl (L+2) 0 0 own.length none,vv,kv]):=by rw [aB5 h9 4 0 0 0 0 true 4 true _ _ e09 rfl];rfl
 refine ⟨ord,h9,rv,vv,kv,L+2,q1,qv,qk,⟨hp,hs⟩,?_,o18.frame fun j o f e=>fr9 j o (by have:=hq1 j f;omega) e,fr9 _ _ (by omega) g2,g3,g4.frame fun j o f e=>fr9 j o (by have:=g7 j f;omega) e,g5.frame fun j o f e=>fr9 j o (by have:=g8 j f;omega) e⟩
 have lv:=hv.len
 have lo1:=o2.len
 rw [lc] at lo1
 have ld1:aAb h1 1 false (.ptr 2 0 0 0)=some ov:=by rw [aB5 h1 1 2 0 0 0 false 1 true _ _ e2 rfl];rfl
 have ld5:aAb h5 1 false (.ptr 2 0 0 0)=some ov:=by rw [aB5 h5 1 2 0 0 0 false 1 true _ _ (fr5 2 _ (by omega) (up4 2 _ (by omega) e2)) rfl];rfl
 have al:∀ h:aA0,aBX h .slice (.hsl L 0 0 own.length none)=some (.int .i64 own.length):=fun _=>rfl
 rw [aPB]
 subst hh0
 simp only [Zaf,Zag,Zai,Zaj,Zak,Zam,Zan,Zao,Zat,Zax,Zbc,Zbd,Zbe,Zbm,Zbo,Zbq,Zbs,Zbt,Zbx,Zbz,Zcc,Zck,Zct,Zcu,Zcy,Zcz,Zda,Zdb,Zdc,Zdd,Zde,Zdf,Zdg,Zdh,List.set_cons_zero,List.set_cons_succ,List.getD_cons_zero,List.getD_cons_succ,Option.map_some,Zeb,List.length_cons,List.length_nil,Nat.reduceAdd,Nat.reduceSub,eq_self,List.length_cons,List.length_nil,List.replicate_succ,List.replicate_zero,List.cons_append,List.nil_append,List.append_nil,List.nil_append,lv,r1,ld1,ld5,lo1,mk1,al,fl,lh3,sf,st,mk2,sb,r8,l9,s9,l0,aAa,aA8,aAc]
end Go.Proofs.Ytgeedikghjcebaa.Ai
